import Derived.Test.YtbifnchjphefeaaDoorIm41
set_option linter.unusedVariables false
namespace Go.Im
open Go

def ovr {α : Type} (xs : List α) (i : Nat) (ys : List α) : List α := xs.take i ++ ys ++ xs.drop (i + ys.length)

theorem lsub_facts {α : Type} {xs r : List α} {l h : Int} (hh : lsub xs l h = some r) : 0 ≤ l ∧ l ≤ h ∧ h ≤ xs.length ∧ r = (xs.drop l.toNat).take (h.toNat - l.toNat) ∧ r.length = h.toNat - l.toNat := by
  unfold lsub at hh
  split at hh
  · rename_i q
    cases hh
    exact ⟨q.1, q.2.1, q.2.2, rfl, by simp; omega⟩
  · cases hh

/-- The window's element. -/
def idxo {α : Type} (xs : List α) (l : Int) (n : Nat) (i : Int) : Option α := if 0 ≤ l ∧ 0 ≤ i ∧ i < n then idx xs (l + i) else none
/-- The window is cleared. -/
def clrw {α : Type} (xs : List α) (l : Int) (n : Nat) (a : α) : Option (List α) := if 0 ≤ l ∧ l.toNat + n ≤ xs.length then some (ovr xs l.toNat (List.replicate n a)) else none
/-- What the window holds. -/
def subv {α : Type} (xs : List α) (l : Int) (n : Nat) : Option (List α) := if 0 ≤ l ∧ l.toNat + n ≤ xs.length then some ((xs.drop l.toNat).take n) else none

theorem clrw_len {α : Type} {xs ys : List α} {l : Int} {n : Nat} {a : α} (h : clrw xs l n a = some ys) : xs.length = ys.length := by
  unfold clrw at h
  split at h
  · cases h
    simp [ovr]
    omega
  · cases h

theorem idxo_idx {α : Type} {xs : List α} {l i : Int} {n : Nat} {a : α} (h : idxo xs l n i = some a) : idx xs (l + i) = some a := by
  unfold idxo at h
  split at h
  · exact h
  · cases h

section
variable {Γ : Ctx}

theorem x_slr {α : Type} {xs r : List α} {l hi : Int} (T el z t : Nat) (enc : α → List D) (x : Operand) (lo ho : Option Operand) (h : lsub xs l hi = some r) (hx : OkO x (.rf t 0 xs.length none) := by trivial) (hl : OkB lo (0 : Nat) l := by first | trivial | rfl) (hh : OkB ho xs.length hi := by first | trivial | rfl)
    (hT : (pureSem Γ.P (underlying T), szOf Γ.P el) = (some (.slice el), some z) := by kernel_rfl) :
    OpV Γ (.slice T x lo ho none) { tn := tnO x (.rf t 0 xs.length none) ++ (tnB lo l ++ tnB ho hi), hn := [(t, rE z enc xs)], out := some (.sub t l.toNat r.length) } := by
  simp only [Prod.mk.injEq] at hT
  obtain ⟨h1, h2, h3, h4, h5⟩ := lsub_facts h
  intro ops o hop hg
  rw [h5]
  exact v_slice_sub (n := xs.length) (xs := xs.map enc) (z := z) hg hop rfl (hx.f (fun y hy => List.mem_append_left _ hy)) hT.1 hT.2 ((hl.f (fun y hy => List.mem_append_right _ (List.mem_append_left _ hy))).f h1)
    ((hh.f (fun y hy => List.mem_append_right _ (List.mem_append_right _ hy))).f (by omega)) (by omega) (by omega) (.head _)

theorem x_cut {α : Type} {xs r : List α} {l hi : Int} (T el z t t' : Nat) (enc : α → List D) (x : Operand) (lo ho : Option Operand) (h : lsub xs l hi = some r) (hx : OkO x (.rf t 0 xs.length none) := by trivial) (hl : OkB lo (0 : Nat) l := by first | trivial | rfl) (hh : OkB ho xs.length hi := by first | trivial | rfl)
    (hT : (pureSem Γ.P (underlying T), szOf Γ.P el, Nat.ble Γ.m t') = (some (.slice el), some z, true) := by kernel_rfl) :
    OpV Γ (.slice T x lo ho none) { tn := tnO x (.rf t 0 xs.length none) ++ (tnB lo l ++ tnB ho hi), hn := [(t, rE z enc xs)], out := some (.rf t' 0 r.length none), hx := [t], hw := [(t', rE z enc r)], fr := [t'] } := by
  simp only [Prod.mk.injEq] at hT
  obtain ⟨h1, h2, h3, h4, h5⟩ := lsub_facts h
  intro ops o hop hg
  have e : rE z enc r = .row z (((xs.map enc).drop l.toNat).take (hi.toNat - l.toNat)) := by
    rw [h4, rE, List.map_take, List.map_drop]
  rw [e, h5]
  exact v_cut (n := xs.length) (xs := xs.map enc) (z := z) hg hop rfl (Nat.le_of_ble_eq_true hT.2.2) (hx.f (fun y hy => List.mem_append_left _ hy)) hT.1 hT.2.1 ((hl.f (fun y hy => List.mem_append_right _ (List.mem_append_left _ hy))).f h1)
    ((hh.f (fun y hy => List.mem_append_right _ (List.mem_append_right _ hy))).f (by omega)) (by omega) (by omega) (by simp) (.head _)

theorem x_lens (T el t off n : Nat) (x : Operand) (hx : OkO x (.sub t off n) := by trivial) (hT : pureSem Γ.P (underlying T) = some (.slice el) := by kernel_rfl) :
    OpV Γ (.call { callee := .builtin .len, args := #[x], argTypes := #[T] }) { tn := tnO x (.sub t off n), out := some (.sc (.int .i64 (n : Int))) } := by
  intro ops o hop hg
  exact v_len_sub hg hop rfl (hx.f (fun y hy => hy)) hT

theorem x_ixs {α : Type} {xs : List α} {l i : Int} {n : Nat} {a : α} {kk : IntKind} (T el z t : Nat) (enc : α → List D) (x y : Operand) (h : idxo xs l n i = some a) (hx : OkO x (.sub t l.toNat n) := by trivial) (hy : OkO y (.sc (.int kk i)) := by first | trivial | rfl)
    (hT : (pureSem Γ.P (underlying T), szOf Γ.P el) = (some (.slice el), some z) := by kernel_rfl) :
    OpV Γ (.indexAddr T x y) { tn := tnO x (.sub t l.toNat n) ++ tnO y (.sc (.int kk i)), hn := [(t, rE z enc xs)], out := some (.pt t (l + i).toNat 0) } := by
  simp only [Prod.mk.injEq] at hT
  have hb : 0 ≤ l ∧ 0 ≤ i ∧ i < n := by
    unfold idxo at h
    split at h
    · assumption
    · cases h
  intro ops o hop hg
  exact v_index_sub (n := n) (off := l.toNat) (i := i) (k := kk) (xs := xs.map enc) (z := z) hg hop rfl (hx.f (fun y hy => List.mem_append_left _ hy)) (hy.f (fun y hy => List.mem_append_right _ hy)) hT.1 hT.2 hb.2.1 hb.2.2 (by omega) (.head _)

theorem x_clr {α : Type} {xs ys : List α} {l : Int} {n : Nat} {a : α} (T el z t : Nat) (enc : α → List D) (x : Operand) (h : clrw xs l n a = some ys) (he : Emb [] ((zvOf Γ.P el).cells.toList.map D.sc) (enc a) []) (hx : OkO x (.sub t l.toNat n) := by trivial)
    (hT : (Γ.P.underlying T, pureSem Γ.P (zeroValue el), (zvOf Γ.P el).cells.size, (zvOf Γ.P el).cells.toList.all Value.oneCell, (enc a).length) = (some (.slice el), some (zvOf Γ.P el), z, true, z) := by kernel_rfl) :
    OpVd Γ (.call { callee := .builtin .clear, args := #[x], argTypes := #[T] }) { tn := tnO x (.sub t l.toNat n), hn := [(t, rE z enc xs)], hx := [t], hw := [(t, rE z enc ys)] } := by
  simp only [Prod.mk.injEq] at hT
  obtain ⟨h1, h2, h3, h4, h5⟩ := hT
  unfold clrw at h
  split at h
  · rename_i q
    cases h
    intro ops o hop hg hds
    have e : rE z enc (ovr xs l.toNat (List.replicate n a)) = .row z ((xs.map enc).take l.toNat ++ List.replicate n (enc a) ++ (xs.map enc).drop (l.toNat + n)) := by
      simp [rE, ovr, List.map_take, List.map_drop]
    rw [e]
    exact v_clear_sub (n := n) (xs := xs.map enc) hg hds hop rfl (hx.f (fun y hy => hy)) h1 h2 h3 h4 he h5 (by simp; omega) (.head _)
  · cases h
end
end Go.Im

import Derived.Calls
import Derived.Wp
import Derived.KernelRfl
namespace Go.Im
open Go

/-- Abstract values. -/
inductive D where
  | sc (v : Value)
  | s (o : Bool) (z n : Nat) (xs : List (List D))
  | rf (t off n : Nat) (cap : Option Nat)
  | pt (t i j : Nat)
  | ps (cs : List D)
  | fn (f : FuncId) (caps : List D)
  | ag (cs : List D)
  | tu (vs : List D)
  | un
  | nb (n : Nat)
  | sub (t off n : Nat)
  | fb (f : FuncId) (bnd : List D)
  deriving Inhabited

structure Loc where
  nil : Bool
  b : Nat
  o : Nat
  z : Nat
  r : Nat

def Loc.own (L : Loc) : List Nat := if L.nil then [] else [L.b]

/-- The cells of a block from a place on. -/
def Has (w : World) (b off : Nat) (ws : List Value) : Prop :=
  ∃ arr e fz, w.heap[b]? = some (.cells arr e fz) ∧ ∀ k (h : k < ws.length), arr[off + k]? = some ws[k]

/-- A block that may be written. -/
def Own (w : World) (b off room : Nat) (ws : List Value) : Prop :=
  ∃ arr e lo hi, w.heap[b]? = some (.cells arr e (lo, hi)) ∧ (∀ k, k < arr.size → ¬ (lo ≤ k ∧ k < hi)) ∧ off + room ≤ arr.size ∧
    (∀ k (h : k < ws.length), arr[off + k]? = some ws[k])

mutual
def Rep (β : Nat → Loc) (N : Nat → Prop) (w : World) (top : Bool) : D → Value → List Nat → Prop
  | .sc u, v, bs => v = u ∧ bs = []
  | .s o z n xs, v, bs => xs.length = n ∧ (∀ e ∈ xs, e.length = z) ∧ ∃ a cap, v = .slice a n cap ∧ n ≤ cap ∧
      ((n = 0 ∧ bs = [] ∧ (o = true → a = none ∧ cap = 0)) ∨
       (o = false ∧ ∃ b off ws, a = some ⟨b, off, none⟩ ∧ N b ∧ Has w b off ws ∧ RepEs β N w xs ws bs ∧ bs = []) ∨
       (o = true ∧ ∃ b off ws bs', a = some ⟨b, off, none⟩ ∧ bs = b :: bs' ∧ Own w b off (cap * z) ws ∧ RepEs β N w xs ws bs'))
  | .rf t off n cap, v, bs => top = true ∧ bs = [] ∧ (((β t).nil = true ∧ off = 0 ∧ n = 0 ∧ v = .slice none 0 0) ∨
      ((β t).nil = false ∧ ∃ c, v = .slice (some ⟨(β t).b, (β t).o + off * (β t).z, none⟩) n c ∧ n ≤ c ∧ (off + c) * (β t).z ≤ (β t).r ∧ (∀ c', cap = some c' → c = c')))
  | .pt t i j, v, bs => top = true ∧ bs = [] ∧ (β t).nil = false ∧ v = .pointer (some ⟨(β t).b, (β t).o + i * (β t).z + j, none⟩)
  | .ps cs, v, bs => bs = [] ∧ ∃ b off ws, v = .pointer (some ⟨b, off, none⟩) ∧ N b ∧ Has w b off ws ∧ RepCs β N w false cs ws []
  | .fn f caps, v, bs => top = true ∧ bs = [] ∧ ∃ ws : List Value, v = .func (.func f) #[] ws.toArray ∧ RepCs β N w true caps ws []
  | .fb f bnd, v, bs => top = true ∧ bs = [] ∧ ∃ ws : List Value, v = .func (.func f) ws.toArray #[] ∧ RepCs β N w true bnd ws []
  | .ag cs, v, bs => top = true ∧ ∃ ws : List Value, v = .agg ws.toArray ∧ (∀ x ∈ ws, x.oneCell = true) ∧ RepCs β N w true cs ws bs
  | .tu vs, v, bs => top = true ∧ ∃ ws : List Value, v = .tuple ws.toArray ∧ RepCs β N w true vs ws bs
  | .un, v, bs => v.oneCell = true ∧ bs = []
  | .nb n, v, bs => bs = [] ∧ ∃ b, v = .bool b ∧ (b = true → n = 0)
  | .sub t off n, v, bs => top = true ∧ bs = [] ∧ ∃ a c, v = .slice a n c ∧ n ≤ c ∧ (n = 0 ∨ ((β t).nil = false ∧ a = some ⟨(β t).b, (β t).o + off * (β t).z, none⟩ ∧ (off + n) * (β t).z ≤ (β t).r))
def RepCs (β : Nat → Loc) (N : Nat → Prop) (w : World) (top : Bool) : List D → List Value → List Nat → Prop
  | [], ws, bs => ws = [] ∧ bs = []
  | d :: ds, ws, bs => ∃ v vs b1 b2, ws = v :: vs ∧ bs = b1 ++ b2 ∧ Rep β N w top d v b1 ∧ RepCs β N w top ds vs b2
def RepEs (β : Nat → Loc) (N : Nat → Prop) (w : World) : List (List D) → List Value → List Nat → Prop
  | [], ws, bs => ws = [] ∧ bs = []
  | e :: es, ws, bs => ∃ w1 w2 b1 b2, ws = w1 ++ w2 ∧ bs = b1 ++ b2 ∧ RepCs β N w false e w1 b1 ∧ RepEs β N w es w2 b2
end

/-- The owned blocks that an abstract value names. -/
def D.men : D → List Nat
  | .rf t _ _ _ => [t]
  | .pt t _ _ => [t]
  | .sub t _ _ => [t]
  | .fn _ caps => menL caps
  | .fb _ bnd => menL bnd
  | .ag cs => menL cs
  | .tu vs => menL vs
  | _ => []
  where
  menL : List D → List Nat
    | [] => []
    | d :: ds => d.men ++ menL ds


section frame
variable {β β' : Nat → Loc} {N N' : Nat → Prop} {w w' : World}

theorem Has.frame {b off : Nat} {ws : List Value} (h : Has w b off ws) (hw : w'.heap[b]? = w.heap[b]?) : Has w' b off ws := by
  obtain ⟨arr, e, fz, h1, h2⟩ := h
  exact ⟨arr, e, fz, hw.trans h1, h2⟩

theorem Own.frame {b off r : Nat} {ws : List Value} (h : Own w b off r ws) (hw : w'.heap[b]? = w.heap[b]?) : Own w' b off r ws := by
  obtain ⟨arr, e, lo, hi, h1, h2, h3⟩ := h
  exact ⟨arr, e, lo, hi, hw.trans h1, h2, h3⟩

theorem Own.has {b off r : Nat} {ws : List Value} (h : Own w b off r ws) : Has w b off ws := by
  obtain ⟨arr, e, lo, hi, h1, _, _, h2⟩ := h
  exact ⟨arr, e, (lo, hi), h1, h2⟩

mutual
theorem Rep.frame (hN : ∀ b, N b → N' b ∧ w'.heap[b]? = w.heap[b]?) : ∀ (d : D) (top : Bool) (v : Value) (bs : List Nat), (∀ b ∈ bs, w'.heap[b]? = w.heap[b]?) →
    (∀ t ∈ d.men, β' t = β t) → Rep β N w top d v bs → Rep β' N' w' top d v bs
  | .sc u, _, v, bs, _, _, h => h
  | .s o z n xs, top, v, bs, hb, hm, h => by
    simp only [Rep] at h ⊢
    obtain ⟨h1, h2, a, cap, h3, h4, h5⟩ := h
    refine ⟨h1, h2, a, cap, h3, h4, ?_⟩
    rcases h5 with h5 | ⟨h5, b, off, ws, h6, h7, h8, h9, h10⟩ | ⟨h5, b, off, ws, bs', h6, h7, h8, h9⟩
    · exact .inl h5
    · exact .inr (.inl ⟨h5, b, off, ws, h6, (hN b h7).1, h8.frame (hN b h7).2, RepEs.frame hN xs ws bs hb h9, h10⟩)
    · subst h7
      exact .inr (.inr ⟨h5, b, off, ws, bs', h6, rfl, h8.frame (hb b (by simp)), RepEs.frame hN xs ws bs' (fun c hc => hb c (by simp [hc])) h9⟩)
  | .rf t off n cap, top, v, bs, _, hm, h => by
    simp only [Rep] at h ⊢
    rw [hm t (by simp [D.men])]
    exact h
  | .pt t i j, top, v, bs, _, hm, h => by
    simp only [Rep] at h ⊢
    rw [hm t (by simp [D.men])]
    exact h
  | .ps cs, top, v, bs, _, _, h => by
    simp only [Rep] at h ⊢
    obtain ⟨h1, b, off, ws, h2, h3, h4, h5⟩ := h
    exact ⟨h1, b, off, ws, h2, (hN b h3).1, h4.frame (hN b h3).2, RepCs.frame0 hN cs ws [] (by simp) h5⟩
  | .fn f caps, top, v, bs, _, hm, h => by
    simp only [Rep] at h ⊢
    obtain ⟨h1, h2, ws, h3, h4⟩ := h
    exact ⟨h1, h2, ws, h3, RepCs.frame hN caps true ws [] (by simp) (fun t ht => hm t (by simpa [D.men] using ht)) h4⟩
  | .fb f bnd, top, v, bs, _, hm, h => by
    simp only [Rep] at h ⊢
    obtain ⟨h1, h2, ws, h3, h4⟩ := h
    exact ⟨h1, h2, ws, h3, RepCs.frame hN bnd true ws [] (by simp) (fun t ht => hm t (by simpa [D.men] using ht)) h4⟩
  | .ag cs, top, v, bs, hb, hm, h => by
    simp only [Rep] at h ⊢
    obtain ⟨h1, ws, h2, h3, h4⟩ := h
    exact ⟨h1, ws, h2, h3, RepCs.frame hN cs true ws bs hb (fun t ht => hm t (by simpa [D.men] using ht)) h4⟩
  | .tu vs, top, v, bs, hb, hm, h => by
    simp only [Rep] at h ⊢
    obtain ⟨h1, ws, h2, h3⟩ := h
    exact ⟨h1, ws, h2, RepCs.frame hN vs true ws bs hb (fun t ht => hm t (by simpa [D.men] using ht)) h3⟩
  | .un, _, v, bs, _, _, h => h
  | .nb _, _, v, bs, _, _, h => h
  | .sub t off n, top, v, bs, _, hm, h => by
    simp only [Rep] at h ⊢
    rw [hm t (by simp [D.men])]
    exact h
theorem RepCs.frame (hN : ∀ b, N b → N' b ∧ w'.heap[b]? = w.heap[b]?) : ∀ (ds : List D) (top : Bool) (ws : List Value) (bs : List Nat), (∀ b ∈ bs, w'.heap[b]? = w.heap[b]?) →
    (∀ t ∈ D.men.menL ds, β' t = β t) → RepCs β N w top ds ws bs → RepCs β' N' w' top ds ws bs
  | [], _, ws, bs, _, _, h => h
  | d :: ds, top, ws, bs, hb, hm, h => by
    simp only [RepCs] at h ⊢
    obtain ⟨v, vs, b1, b2, h1, h2, h3, h4⟩ := h
    subst h2
    exact ⟨v, vs, b1, b2, h1, rfl, Rep.frame hN d top v b1 (fun b hb' => hb b (by simp [hb'])) (fun t ht => hm t (by simp [D.men.menL, ht])) h3,
      RepCs.frame hN ds top vs b2 (fun b hb' => hb b (by simp [hb'])) (fun t ht => hm t (by simp [D.men.menL, ht])) h4⟩
theorem RepCs.frame0 (hN : ∀ b, N b → N' b ∧ w'.heap[b]? = w.heap[b]?) : ∀ (ds : List D) (ws : List Value) (bs : List Nat), (∀ b ∈ bs, w'.heap[b]? = w.heap[b]?) →
    RepCs β N w false ds ws bs → RepCs β' N' w' false ds ws bs
  | [], ws, bs, _, h => h
  | d :: ds, ws, bs, hb, h => by
    simp only [RepCs] at h ⊢
    obtain ⟨v, vs, b1, b2, h1, h2, h3, h4⟩ := h
    subst h2
    refine ⟨v, vs, b1, b2, h1, rfl, ?_, RepCs.frame0 hN ds vs b2 (fun b hb' => hb b (by simp [hb'])) h4⟩
    by_cases hd : d.men = []
    · exact Rep.frame hN d false v b1 (fun b hb' => hb b (by simp [hb'])) (fun t ht => by simp [hd] at ht) h3
    · cases d <;> first | (simp [D.men] at hd; done) | (simp only [Rep] at h3; exact absurd h3.1 (by simp))
theorem RepEs.frame (hN : ∀ b, N b → N' b ∧ w'.heap[b]? = w.heap[b]?) : ∀ (es : List (List D)) (ws : List Value) (bs : List Nat), (∀ b ∈ bs, w'.heap[b]? = w.heap[b]?) →
    RepEs β N w es ws bs → RepEs β' N' w' es ws bs
  | [], ws, bs, _, h => h
  | e :: es, ws, bs, hb, h => by
    simp only [RepEs] at h ⊢
    obtain ⟨w1, w2, b1, b2, h1, h2, h3, h4⟩ := h
    subst h2
    exact ⟨w1, w2, b1, b2, h1, rfl, RepCs.frame0 hN e w1 b1 (fun b hb' => hb b (by simp [hb'])) h3, RepEs.frame hN es w2 b2 (fun b hb' => hb b (by simp [hb'])) h4⟩
end
end frame

end Go.Im

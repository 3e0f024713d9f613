import Derived.Test.YtbifnchjphefeaaDoorIm29
import Derived.ChangeArms
import Derived.Carry
set_option linter.unusedVariables false
namespace Go.Im
open Go

section
variable {H : Type} {enc : TypeId × Value → H} {P : Program} {W : World} {sp : Nat → Bool} {held : Bool}

/-- What can be read as data reads as a typed value. -/
def Reads (enc : TypeId × Value → H) (P : Program) (W : World) (t : TypeId) {α : Type} (ec : α → List D) (ok : α → Prop) : Prop :=
  ∀ (fuel : Nat) (cs : List Value) (x : DataW H × List MemPlace), DataW.trod enc P W 0 (fun _ => true) true fuel t cs = some x → ∃ a : α, ok a ∧ ∀ β : Nat → Im.Loc, RepCs β (fun b => b < W.heap.size) W false (ec a) cs []

theorem Reads.map {t : TypeId} {α α' : Type} {ec : α → List D} {ok : α → Prop} {ec' : α' → List D} {ok' : α' → Prop} (h : Reads enc P W t ec ok) (f : α → α') (he : ∀ a, ec' (f a) = ec a) (ho : ∀ a, ok a → ok' (f a)) : Reads enc P W t ec' ok' := by
  intro fuel cs x hx
  obtain ⟨a, h1, h2⟩ := h fuel cs x hx
  exact ⟨f a, ho a h1, fun β => by rw [he]; exact h2 β⟩

theorem rep1 {β : Nat → Im.Loc} {N : Nat → Prop} {u : Value} : RepCs β N W false [.sc u] [u] [] := by
  simp only [RepCs, Rep]
  exact ⟨u, [], [], [], rfl, rfl, ⟨rfl, rfl⟩, rfl, rfl⟩

theorem rd_int {t : TypeId} {k : IntKind} (ht : P.underlying t = some (.int k)) : Reads enc P W t (fun v : Int => [.sc (.int k v)]) (fun v => k.min ≤ v ∧ v ≤ k.max) := by
  intro fuel cs x h
  have key : ∃ n, cs = [.int k n] ∧ k.min ≤ n ∧ n ≤ k.max := by
    cases fuel with
    | zero => simp [DataW.trod] at h
    | succ n =>
      unfold DataW.trod at h
      rw [ht] at h
      split at h <;> simp_all
      obtain ⟨⟨rfl, hw⟩, _⟩ := h
      simp only [Lit.wf, Bool.and_eq_true, decide_eq_true_eq] at hw
      exact hw
  obtain ⟨n, rfl, h1⟩ := key
  exact ⟨n, h1, fun β => rep1⟩

theorem rd_bool {t : TypeId} (ht : P.underlying t = some .bool) : Reads enc P W t eB (fun _ => True) := by
  intro fuel cs x h
  have key : ∃ b, cs = [.bool b] := by
    cases fuel with
    | zero => simp [DataW.trod] at h
    | succ n =>
      unfold DataW.trod at h
      rw [ht] at h
      split at h <;> first | exact ⟨_, rfl⟩ | simp_all
  obtain ⟨b, rfl⟩ := key
  exact ⟨b, trivial, fun β => rep1⟩

theorem rd_str {t : TypeId} (ht : P.underlying t = some .string) : Reads enc P W t eStr (fun s => s.size ≤ maxLen) := by
  intro fuel cs x h
  have key : ∃ s, cs = [.string s] ∧ s.size ≤ maxLen := by
    cases fuel with
    | zero => simp [DataW.trod] at h
    | succ n =>
      unfold DataW.trod at h
      rw [ht] at h
      split at h <;> simp_all
  obtain ⟨s, rfl, h1⟩ := key
  exact ⟨s, h1, fun β => rep1⟩

theorem rd_slice {t e : TypeId} {z : Nat} {α : Type} {ec : α → List D} {ok : α → Prop} (ht : P.underlying t = some (.slice e)) (hz : P.cellsOf e = z) (hz0 : 0 < z) (h : Reads enc P W e ec ok) (hlen : ∀ a, (ec a).length = z) :
    Reads enc P W t (fun xs : List α => [.s false z xs.length (xs.map ec)]) (fun xs => xs.length ≤ maxLen ∧ ∀ a ∈ xs, ok a) := by
  intro fuel cs x hx
  have hnil : ∀ β : Nat → Im.Loc, ∀ v : Value, v = .slice none 0 0 → RepCs β (fun b => b < W.heap.size) W false [.s false z ([] : List α).length (([] : List α).map ec)] [v] [] := by
    intro β v hv
    simp only [RepCs, Rep]
    exact ⟨v, [], [], [], rfl, rfl, ⟨rfl, by simp, none, 0, by rw [hv]; rfl, Nat.le_refl _, .inl ⟨rfl, rfl, by simp⟩⟩, rfl, rfl⟩
  rcases DataW.trod_slice ht hx with ⟨rfl, _⟩ | ⟨a, len, cap, elems, rest, n, rfl, rfl, _, _, hcap, hmax, hl, hel, _, _⟩
  · exact ⟨[], ⟨by simp, by simp⟩, fun β => hnil β _ rfl⟩
  · · · have hc : len ≤ cap := hcap
        -- element by element
        have hget : ∀ i, i < len → ∃ (c : List Value) (q : α), W.cells? 0 (a.add (i * z)) z = some c ∧ c.length = z ∧ ok q ∧ ∀ β : Nat → Im.Loc, RepCs β (fun b => b < W.heap.size) W false (ec q) c [] := by
          intro i hi
          have := hel i hi
          have hs : elems[i]? = some elems[i] := List.getElem?_eq_getElem (by omega)
          rw [hs, hz] at this
          obtain ⟨c, h1, h2⟩ := Option.bind_eq_some_iff.1 this
          obtain ⟨q, h3, h4⟩ := h n c _ h2
          refine ⟨c, q, h1, ?_, h3, h4⟩
          have := (h4 (fun _ => ⟨true, 0, 0, 0, 0⟩)).length
          rw [hlen] at this
          exact this
        -- the whole
        have hall : ∀ m, m ≤ len → ∃ (ws : List Value) (qs : List α), qs.length = m ∧ ws.length = m * z ∧ (∀ q ∈ qs, ok q) ∧ (∀ β : Nat → Im.Loc, RepEs β (fun b => b < W.heap.size) W (qs.map ec) ws []) ∧ ∀ j, j < m * z → W.cell? (a.add j) = ws[j]? := by
          intro m
          induction m with
          | zero => intro _; exact ⟨[], [], rfl, by simp, by simp, fun β => by simp [RepEs], by simp⟩
          | succ m ih =>
            intro hm
            obtain ⟨ws, qs, h1, h2, h3, h4, h5⟩ := ih (by omega)
            obtain ⟨c, q, g1, g2, g3, g4⟩ := hget m (by omega)
            refine ⟨ws ++ c, qs ++ [q], by simp [h1], by simp [h2, g2, Nat.add_mul], ?_, fun β => ?_, ?_⟩
            · intro q' hq'
              rcases List.mem_append.1 hq' with hq' | hq'
              · exact h3 q' hq'
              · simp at hq'; rw [hq']; exact g3
            · rw [List.map_append]
              have : RepEs β (fun b => b < W.heap.size) W ([q].map ec) c [] := by
                simp only [List.map_cons, List.map_nil, RepEs]
                exact ⟨c, [], [], [], by simp, rfl, g4 β, rfl, rfl⟩
              exact (h4 β).append this
            · intro j hj
              by_cases hjm : j < m * z
              · rw [List.getElem?_append_left (by omega)]; exact h5 j hjm
              · rw [List.getElem?_append_right (by omega), h2]
                unfold World.cells? at g1
                split at g1
                · have hlt : j - m * z < z := by rw [Nat.add_mul] at hj; omega
                  have := mapM_some_get g1 (j - m * z) (j - m * z) (by simp [hlt])
                  rw [← this]
                  congr 1
                  unfold Addr.add
                  by_cases hmz : m * z = 0
                  · simp [hmz]
                  · by_cases hjz : j - m * z = 0
                    · have : j = m * z := by omega
                      simp [hmz, this]
                    · rw [if_neg (by omega), if_neg hjz, if_neg hmz]
                      simp only [Addr.mk.injEq, and_true, true_and]
                      omega
                · cases g1
        obtain ⟨ws, qs, h1, h2, h3, h4, h5⟩ := hall len (Nat.le_refl _)
        refine ⟨qs, ⟨by omega, h3⟩, fun β => ?_⟩
        simp only [RepCs]
        refine ⟨_, [], [], [], rfl, rfl, ?_, rfl, rfl⟩
        simp only [Rep]
        refine ⟨by simp, ?_, some a, cap, by rw [h1], by rw [h1]; exact hc, ?_⟩
        · intro q hq
          obtain ⟨q', _, rfl⟩ := List.mem_map.1 hq
          exact hlen q'
        · by_cases h0 : len = 0
          · exact .inl ⟨by omega, trivial, by simp⟩
          · have hpos : 0 < len * z := Nat.mul_pos (by omega) hz0
            have hc0 := h5 0 hpos
            rw [List.getElem?_eq_getElem (by omega)] at hc0
            simp only [Addr.add, if_true] at hc0
            unfold World.cell? at hc0
            split at hc0
            · rename_i arr ty fz hb
              split at hc0
              · cases hc0
              · rename_i hsp
                have hspot : a.spot = none := by cases hh : a.spot <;> simp_all
                have hlt : a.block < W.heap.size := by
                  rcases Nat.lt_or_ge a.block W.heap.size with h | h
                  · exact h
                  · rw [Array.getElem?_eq_none h] at hb; cases hb
                refine .inr (.inl ⟨trivial, a.block, a.off, ws, ?_, hlt, ⟨arr, ty, fz, hb, ?_⟩, h4 β, trivial⟩)
                · rw [← hspot]
                · intro k hk
                  have := h5 k (by omega)
                  rw [List.getElem?_eq_getElem hk] at this
                  rw [← this]
                  by_cases hk0 : k = 0
                  · subst hk0
                    simp [World.cell?, Addr.add, hb, hspot]
                  · simp [World.cell?, Addr.add, hk0, hb]
            · cases hc0

/-- The fields of a struct, from a place on. -/
def RF (enc : TypeId × Value → H) (P : Program) (W : World) (off : Nat) (fl : List Field) (tot : Nat) {α : Type} (ec : α → List D) (ok : α → Prop) : Prop :=
  ∀ (fuel : Nat) (cs : List Value), (∀ (i : Nat) (f : Field), fl[i]? = some f → ∃ y, DataW.trod enc P W 0 (fun _ => true) true fuel f.type ((cs.drop f.offset).take (P.cellsOf f.type)) = some y) →
    ∃ a : α, ok a ∧ ∀ β : Nat → Im.Loc, RepCs β (fun b => b < W.heap.size) W false (ec a) ((cs.drop off).take tot) []

theorem rf_nil {off : Nat} : RF enc P W off [] 0 (fun _ : Unit => []) (fun _ => True) := fun _ _ _ => ⟨(), trivial, fun β => by simp [RepCs]⟩

theorem rf_cons {off sz tot : Nat} {f : Field} {fl : List Field} {α1 α2 : Type} {e1 : α1 → List D} {o1 : α1 → Prop} {e2 : α2 → List D} {o2 : α2 → Prop} (hoff : f.offset = off) (hsz : P.cellsOf f.type = sz) (h1 : Reads enc P W f.type e1 o1) (h2 : RF enc P W (off + sz) fl tot e2 o2) :
    RF enc P W off (f :: fl) (sz + tot) (fun x : α1 × α2 => e1 x.1 ++ e2 x.2) (fun x => o1 x.1 ∧ o2 x.2) := by
  intro fuel cs hg
  obtain ⟨y, hy⟩ := hg 0 f rfl
  rw [hoff, hsz] at hy
  obtain ⟨a, ha, hr⟩ := h1 _ _ _ hy
  obtain ⟨b, hb, hs⟩ := h2 fuel cs (fun i q hq => hg (i + 1) q (by simpa using hq))
  refine ⟨(a, b), ⟨ha, hb⟩, fun β => ?_⟩
  rw [List.take_add, List.drop_drop]
  exact (hr β).append (hs β)

theorem rd_struct {t : TypeId} {fs : Array Field} {tot : Nat} {α : Type} {ec : α → List D} {ok : α → Prop} (ht : P.underlying t = some (.struct fs)) (htot : P.cellsOf t = tot) (h : RF enc P W 0 fs.toList tot ec ok) : Reads enc P W t ec ok := by
  intro fuel cs x hx
  obtain ⟨xs, n, rfl, _, hl, hn, hf⟩ := DataW.trod_struct ht hx
  obtain ⟨a, ha, hr⟩ := h n cs (fun i f hi => by
    have := hf i f (by simpa using hi)
    have hlt : i < xs.length := by
      have := (List.getElem?_eq_some_iff.1 hi).1
      rw [hn]; simpa using this
    exact ⟨_, this.trans (List.getElem?_eq_getElem hlt)⟩)
  refine ⟨a, ha, fun β => ?_⟩
  have := hr β
  rw [List.drop_zero, List.take_of_length_le (by omega)] at this
  exact this
end
end Go.Im

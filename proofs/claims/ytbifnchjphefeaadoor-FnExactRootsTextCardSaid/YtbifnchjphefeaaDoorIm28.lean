import Derived.Test.YtbifnchjphefeaaDoorIm27
import Derived.Laws.BytesString
set_option linter.unusedVariables false
namespace Go.Im
open Go

def b2s (xs : List Int) : ByteArray := xs.foldl (fun r n => r.push (UInt8.ofNat n.toNat)) ByteArray.empty

theorem repEs_u8 {β : Nat → Loc} {N : Nat → Prop} {w : World} : ∀ {xs : List Int} {ws : List Value} {bs : List Nat}, RepEs β N w (xs.map eU8) ws bs → ws = xs.map (Value.int .u8)
  | [], ws, bs, h => by simp only [List.map_nil, RepEs] at h; rw [h.1]; rfl
  | x :: xs, ws, bs, h => by
    simp only [List.map_cons, RepEs] at h
    obtain ⟨w1, w2, b1, b2, rfl, rfl, h3, h4⟩ := h
    simp only [eU8, RepCs, Rep] at h3
    obtain ⟨v, vs, c1, c2, rfl, rfl, ⟨rfl, _⟩, rfl, _⟩ := h3
    rw [repEs_u8 h4]
    rfl

section
variable {Γ : Ctx} {ops : Array Oper} {o : Oper}

theorem run_b2s {P : Program} {w : World} {S Dd e : TypeId} {ad : Option Addr} {n cp : Nat} {xs : List Int} (hs : P.underlying S = some (.slice e)) (he : P.underlying e = some (.int .u8)) (hd : P.underlying Dd = some .string) (hn : xs.length = n)
    (h : (ad = none ∧ n = 0) ∨ n = 0 ∨ ∃ b off, ad = some ⟨b, off, none⟩ ∧ Has w b off (xs.map (Value.int .u8))) : (convert S Dd (.slice ad n cp)).run P w = .ok (.string (b2s xs)) w := by
  rw [run_convert_bytes_string w S Dd e ad n cp hs he hd]
  by_cases h0 : n = 0
  · subst h0
    have : xs = [] := List.length_eq_zero_iff.1 hn
    subst this
    cases ad with
    | none => rfl
    | some a =>
      have := run_bytesToString (P := P) w a 0 cp [] (by simp [loadCells, loadCellsFrom, Sem.run_pure])
      exact this
  · rcases h with ⟨_, h⟩ | h | ⟨b, off, rfl, h⟩
    · exact absurd h h0
    · exact absurd h h0
    · exact run_bytesToString w ⟨b, off, none⟩ n cp xs (run_loadCells h (by simp [hn]))

theorem o_b2s_rf {c : Cert} {x : Operand} {S Dd e : TypeId} {t : Nat} {cap : Option Nat} {xs : List Int} (hg : o.guard = none) (hop : o.op = .convert S Dd x) (hc : c = { tn := c.tn, hn := c.hn, out := some (.sc (.string (b2s xs))) })
    (hx : OpF c x (.rf t 0 xs.length cap)) (hh : (t, .row 1 (xs.map eU8)) ∈ c.hn) (hs : Γ.P.underlying S = some (.slice e)) (he : Γ.P.underlying e = some (.int .u8)) (hd : Γ.P.underlying Dd = some .string) : Valid Γ ops o c := by
  rw [hc]
  refine valid_value hg rfl rfl fun β bs σ a w hn hr => ?_
  have h1 := OpF.rep (c := c) hx ⟨fun y hy => hn.1 y hy, fun y hy => hn.2.1 y hy, by rw [hc]; simp⟩ hr
  obtain ⟨b1, hE, _, _⟩ := HRep.get hr.hp (hn.2.1 _ hh)
  obtain ⟨wx, hD, hEx, _⟩ := rf_dst h1 hE (by simp)
  have hwx := repEs_u8 hEx
  subst hwx
  have hv : ∃ ad cp, a.eval x = .slice ad xs.length cp ∧ ((ad = none ∧ xs.length = 0) ∨ xs.length = 0 ∨ ∃ b off, ad = some ⟨b, off, none⟩ ∧ Has w b off (xs.map (Value.int .u8))) := by
    rcases hD with ⟨q1, q2, _, _⟩ | ⟨b, off, cp, q1, _, _, q2, _⟩
    · exact ⟨none, 0, by rw [q1, q2], .inl ⟨rfl, q2⟩⟩
    · exact ⟨_, cp, q1, .inr (.inr ⟨b, off, rfl, q2.has⟩)⟩
  obtain ⟨ad, cp, h2, h3⟩ := hv
  refine ⟨.string (b2s xs), exec_v (s := convert S Dd (a.eval x)) (by simp [execOp, hop]) ?_, fun d hd' => by cases hd'; simp [Rep]⟩
  rw [h2]
  exact run_b2s hs he hd rfl h3

theorem o_b2s_s {c : Cert} {x : Operand} {S Dd e : TypeId} {xs : List Int} (hg : o.guard = none) (hop : o.op = .convert S Dd x) (hc : c = { tn := c.tn, hn := c.hn, out := some (.sc (.string (b2s xs))) })
    (hx : OpF c x (.s false 1 xs.length (xs.map eU8))) (hs : Γ.P.underlying S = some (.slice e)) (he : Γ.P.underlying e = some (.int .u8)) (hd : Γ.P.underlying Dd = some .string) : Valid Γ ops o c := by
  rw [hc]
  refine valid_value hg rfl rfl fun β bs σ a w hn hr => ?_
  have h1 := OpF.rep (c := c) hx ⟨fun y hy => hn.1 y hy, fun y hy => hn.2.1 y hy, by rw [hc]; simp⟩ hr
  simp only [Rep] at h1
  obtain ⟨_, _, ad, cp, h2, _, h3⟩ := h1
  refine ⟨.string (b2s xs), exec_v (s := convert S Dd (a.eval x)) (by simp [execOp, hop]) ?_, fun d hd' => by cases hd'; simp [Rep]⟩
  rw [h2]
  refine run_b2s hs he hd rfl ?_
  rcases h3 with h3 | ⟨_, b, off, ws, q1, _, q3, q4, _⟩ | h3
  · exact .inr (.inl h3.1)
  · have := repEs_u8 q4
    subst this
    exact .inr (.inr ⟨b, off, q1, q3⟩)
  · exact absurd h3.1 (by simp)

section
variable {Γ : Ctx} {ops : Array Oper} {o : Oper}
theorem valid_skipU {g : Nat} {b : Bool} {t : Nat} {v : Value} (hv : v = .bool (!b) ∨ notB v = true) (hg : o.guard = some (g, b)) (hgd : (ops[g]?).bind (·.dst) = some t) : Valid Γ ops o { tn := [(t, .sc v)], out := some (.sc undef) } := by
  intro σ a w Q hd hn hr
  obtain ⟨h0, β, bs, hrb⟩ := hr
  obtain ⟨u, h1, h2⟩ := hrb.tm t _ (hn.1 (t, .sc v) (by simp))
  simp only [Rep] at h2
  obtain ⟨rfl, _⟩ := h2
  have hwt : Region.wanted o (yielded ops a.tmps) = false := by
    rcases hv with rfl | hv
    · simp [Region.wanted, hg, yielded, hgd, h1]
    · cases u <;> simp_all [Region.wanted, yielded, notB]
  rw [if_neg (by simp [hwt])]
  exact Rel.put h0 hrb hd rfl rfl (by simp [Rep])

theorem orcU {fc : Code} {p i g t : Nat} {b : Bool} {v : Value} (hv : v = .bool (!b) ∨ notB v = true) (h : (opAt fc p i).map (fun o => o.guard) = some (some (g, b))) (hd : dstAt fc p g = some t) :
    ∀ id ops draw, sub fc p = .region id ops draw → ∀ o, ops[i]? = some o → Valid Γ ops o { tn := [(t, .sc v)], out := some (.sc undef) } := by
  intro id ops draw hs o ho
  have e : opAt fc p i = some o := by unfold opAt; rw [hs]; exact ho
  rw [e] at h
  simp only [Option.map_some, Option.some.injEq] at h
  refine valid_skipU hv h ?_
  unfold dstAt opAt at hd
  rw [hs] at hd
  exact hd
end

theorem mem_ne {t : Nat} {hm : List (Nat × Ent)} (h : hm.all (fun q => q.1 != t) = true) : ∀ q ∈ hm, q.1 ≠ t := fun q hq => by simpa using List.all_eq_true.1 h q hq

theorem orc1d {fc : Code} {p i : Nat} {c : Cert} {op : Op} (h : (opAt fc p i).map (fun o => (o.op, o.guard, o.dst)) = some (op, none, none)) (hv : ∀ ops o, o.op = op → o.guard = none → o.dst = none → Valid Γ ops o c) :
    ∀ id ops draw, sub fc p = .region id ops draw → ∀ o, ops[i]? = some o → Valid Γ ops o c := by
  intro id ops draw hs o ho
  have e : opAt fc p i = some o := by unfold opAt; rw [hs]; exact ho
  rw [e] at h
  simp at h
  exact hv ops o h.1 h.2.1 h.2.2

def BndI (c : Cert) (x : Option Operand) (dflt : Nat) (n : Int) : Prop :=
  match x with
  | none => n = (dflt : Int)
  | some x => ∃ k, OpF c x (.sc (.int k n))

theorem BndI.f {c : Cert} {x : Option Operand} {dflt : Nat} {n : Int} (h : BndI c x dflt n) (h0 : 0 ≤ n) : BndF c x dflt n.toNat := by
  cases x with
  | none => simp only [BndI] at h; simp only [BndF]; omega
  | some x =>
    obtain ⟨k, hk⟩ := h
    refine ⟨k, ?_⟩
    rw [Int.toNat_of_nonneg h0]
    exact hk

theorem o_ssub {c : Cert} {x : Operand} {T : TypeId} {lo hi : Option Operand} {s r : ByteArray} {l h : Int} (hh : ssub s l h = some r) (hg : o.guard = none) (hop : o.op = .slice T x lo hi none)
    (hc : c = { tn := c.tn, out := some (.sc (.string r)) }) (hx : OpF c x (.sc (.string s))) (h1 : BndI c lo 0 l) (h2 : BndI c hi s.size h) (hT : pureSem Γ.P (underlying T) = some .string) : Valid Γ ops o c := by
  unfold ssub at hh
  split at hh
  · rename_i q
    cases hh
    exact v_slice_str hg hop hc hx hT (h1.f q.1) (h2.f (by omega)) (by omega) (by omega)
  · cases hh

theorem o_lsub {c : Cert} {x : Operand} {T el : TypeId} {lo hi : Option Operand} {z : Nat} {α : Type} {enc : α → List D} {xs r : List α} {l h : Int} (hh : lsub xs l h = some r) (hg : o.guard = none) (hop : o.op = .slice T x lo hi none)
    (hc : c = { tn := c.tn, out := some (.s false z r.length (r.map enc)) }) (hx : OpF c x (.s false z xs.length (xs.map enc))) (h1 : BndI c lo 0 l) (h2 : BndI c hi xs.length h) (hT : pureSem Γ.P (underlying T) = some (.slice el)) (hz : szOf Γ.P el = some z) : Valid Γ ops o c := by
  unfold lsub at hh
  split at hh
  · rename_i q
    cases hh
    have hl : ((xs.drop l.toNat).take (h.toNat - l.toNat)).length = h.toNat - l.toNat := by simp; omega
    rw [hl] at hc
    exact v_slice_s hg hop hc hx hT hz (h1.f q.1) (h2.f (by omega)) (by omega) (by omega) (by rw [List.map_take, List.map_drop])
  · cases hh
end
end Go.Im

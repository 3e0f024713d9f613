import Derived.Test.YtobkkecdnlecgaaGreatDoorImD
import Derived.Lib.Bytealg
import Derived.Laws.StructEq
import Derived.Sort.Row
import Derived.Sort.Grow
import Derived.Lib.LaidTab
import Derived.Lib.ItoaNum
import Derived.Deep.Draws
import Derived.LaidSub
import Derived.Below
import Derived.Lib.Split
import Derived.Lib.Join
import Derived.Lib.Repeat
import Derived.Handed
import Derived.Shelf.Vars
set_option linter.unusedVariables false
namespace Go.Im
open Go

section
variable {Γ : Ctx}

/-! ### Memory -/
theorem x_b2s {xs : List Int} (S Dd e : Nat) (x : Operand) (hx : OkO x (.s false 1 xs.length (xs.map eU8)) := by trivial) (hT : (Γ.P.underlying S, Γ.P.underlying e, Γ.P.underlying Dd) = (some (.slice e), some (.int .u8), some .string) := by kernel_rfl) :
    OpV Γ (.convert S Dd x) { tn := tnO x (.s false 1 xs.length (xs.map eU8)), out := some (.sc (.string (b2s xs))) } := by
  simp only [Prod.mk.injEq] at hT
  intro ops o hop hg
  exact o_b2s_s hg hop rfl (hx.f (fun y hy => hy)) hT.1 hT.2.1 hT.2.2

theorem x_b2sr {xs : List Int} (S Dd e t : Nat) (x : Operand) (hx : OkO x (.rf t 0 xs.length none) := by trivial) (hT : (Γ.P.underlying S, Γ.P.underlying e, Γ.P.underlying Dd) = (some (.slice e), some (.int .u8), some .string) := by kernel_rfl) :
    OpV Γ (.convert S Dd x) { tn := tnO x (.rf t 0 xs.length none), hn := [(t, rE 1 eU8 xs)], out := some (.sc (.string (b2s xs))) } := by
  simp only [Prod.mk.injEq] at hT
  intro ops o hop hg
  exact o_b2s_rf hg hop rfl (hx.f (fun y hy => hy)) (.head _) hT.1 hT.2.1 hT.2.2

def zvOf (P : Program) (el : TypeId) : Value := (pureSem P (zeroValue el)).getD default

def infoOf (P : Program) (el : TypeId) : Option (Option Value × Nat × Nat) := (P.info? el).map (fun i => (i.zero, i.size, i.bytes))

theorem x_ap {α : Type} {xs ys zs : List α} (T U el e' z bytes t td ts : Nat) (enc : α → List D) (x y : Operand) (h : app bytes xs ys = some zs) (hx : OkO x (.rf td 0 xs.length none) := by trivial) (hy : OkO y (.rf ts 0 ys.length none) := by trivial)
    (hone : ∀ a, (enc a).all okCell = true := by intro _; rfl) (hT : (Γ.P.underlying T, Γ.P.underlying U, infoOf Γ.P el, (zvOf Γ.P el).cells.size, Nat.ble Γ.m t, td == ts) = (some (.slice el), some (.slice e'), some (some (zvOf Γ.P el), z, bytes), z, true, false) := by kernel_rfl) :
    OpV Γ (.call { callee := .builtin .append, args := #[x, y], argTypes := #[T, U] }) { tn := tnO x (.rf td 0 xs.length none) ++ tnO y (.rf ts 0 ys.length none), hn := [(td, rE z enc xs), (ts, rE z enc ys)], out := some (.rf t 0 zs.length none), hx := [td, ts], hw := [(t, rE z enc zs)], fr := [t] } := by
  simp only [Prod.mk.injEq] at hT
  obtain ⟨h1, h2, h3, h4, h5, h6⟩ := hT
  intro ops o hop hg
  exact o_append (enc := enc) h (Nat.le_of_ble_eq_true h5) (by simpa using h6) hone hg hop rfl (hx.f (fun y hy => List.mem_append_left _ hy)) (hy.f (fun y hy => List.mem_append_right _ hy)) (.head _) (.tail _ (.head _)) h1 h2 h3 h4

theorem x_aps {α : Type} {xs ys zs : List α} (T U el e' z bytes t td : Nat) (enc : α → List D) (x y : Operand) (h : app bytes xs ys = some zs) (hx : OkO x (.rf td 0 xs.length none) := by trivial) (hy : OkO y (.s false z ys.length (ys.map enc)) := by trivial)
    (hone : ∀ a, (enc a).all okCell = true := by intro _; rfl) (hT : (Γ.P.underlying T, Γ.P.underlying U, infoOf Γ.P el, (zvOf Γ.P el).cells.size, Nat.ble Γ.m t) = (some (.slice el), some (.slice e'), some (some (zvOf Γ.P el), z, bytes), z, true) := by kernel_rfl) :
    OpV Γ (.call { callee := .builtin .append, args := #[x, y], argTypes := #[T, U] }) { tn := tnO x (.rf td 0 xs.length none) ++ tnO y (.s false z ys.length (ys.map enc)), hn := [(td, rE z enc xs)], out := some (.rf t 0 zs.length none), hx := [td], hw := [(t, rE z enc zs)], fr := [t] } := by
  simp only [Prod.mk.injEq] at hT
  obtain ⟨h1, h2, h3, h4, h5⟩ := hT
  intro ops o hop hg
  exact o_append_s (enc := enc) h (Nat.le_of_ble_eq_true h5) hone hg hop rfl (hx.f (fun y hy => List.mem_append_left _ hy)) (hy.f (fun y hy => List.mem_append_right _ hy)) (.head _) h1 h2 h3 h4

theorem x_mk {α : Type} {zs : List α} {n : Int} (T el z bytes t : Nat) (enc : α → List D) (a : α) (x : Operand) (h : mk bytes n a = some zs) (he : Emb [] ((zvOf Γ.P el).cells.toList.map D.sc) (enc a) []) (hx : OkO x (.sc (.int .i64 n)) := by first | trivial | rfl)
    (hT : (Γ.P.underlying T, infoOf Γ.P el, (zvOf Γ.P el).cells.size, (enc a).length, Nat.ble Γ.m t) = (some (.slice el), some (some (zvOf Γ.P el), z, bytes), z, z, true) := by kernel_rfl) :
    OpV Γ (.makeSlice T x x) { tn := tnO x (.sc (.int .i64 n)), out := some (.rf t 0 zs.length none), hw := [(t, rE z enc zs)], fr := [t] } := by
  simp only [Prod.mk.injEq] at hT
  obtain ⟨h1, h2, h3, h4, h5⟩ := hT
  intro ops o hop hg
  exact o_mkslice (enc := enc) h (Nat.le_of_ble_eq_true h5) hg hop rfl (hx.f (fun y hy => hy)) (hx.f (fun y hy => hy)) h1 h2 h3 he h4

theorem x_st {α : Type} {xs : List α} {a b : α} {ix : Int} (T z t j : Nat) (enc : α → List D) (d : D) (x y : Operand) (h : idx xs ix = some a) (hb : enc b = (enc a).take j ++ cellsD d ++ (enc a).drop (j + (cellsD d).length))
    (hx : OkO x (.pt t ix.toNat j) := by trivial) (hy : OkO y d := by first | trivial | rfl)
    (hT : ((cellsD d).all D.cell, (cellsD d).all D.nest, szOf Γ.P T, Nat.ble (j + (cellsD d).length) z) = (true, true, some (cellsD d).length, true) := by kernel_rfl) :
    OpVd Γ (.store T x y) { tn := tnO x (.pt t ix.toNat j) ++ tnO y d, hn := [(t, rE z enc xs)], hx := [t], hw := [(t, rE z enc (xs.set ix.toNat b))] } := by
  simp only [Prod.mk.injEq] at hT
  obtain ⟨h1, h2, h3, h4⟩ := hT
  intro ops o hop hg hds
  exact o_store_row (enc := enc) (es' := cellsD d) (hm := []) (ts := []) h hg hop hds rfl (hx.f (fun y hy => List.mem_append_left _ hy)) (hy.f (fun y hy => List.mem_append_right _ hy)) hb h1 h3 (Nat.le_of_ble_eq_true h4) (.head _) (Emb.all_keep [] _ h2) (fun q hq => by simp at hq)

theorem x_stm {α : Type} {xs : List α} {a b : α} {ix : Int} {es' : List D} {ts : List Nat} (T z t j : Nat) (enc : α → List D) (d : D) (x y : Operand) (hm : List (Nat × Ent)) (h : idx xs ix = some a) (hem : Emb hm (cellsD d) es' ts) (hb : enc b = (enc a).take j ++ es' ++ (enc a).drop (j + (cellsD d).length))
    (hx : OkO x (.pt t ix.toNat j) := by trivial) (hy : OkO y d := by first | trivial | rfl)
    (hT : ((cellsD d).all D.cell, szOf Γ.P T, Nat.ble (j + (cellsD d).length) z, hm.all (fun q => q.1 != t)) = (true, some (cellsD d).length, true, true) := by kernel_rfl) :
    OpVd Γ (.store T x y) { tn := tnO x (.pt t ix.toNat j) ++ tnO y d, hn := (t, rE z enc xs) :: hm, hx := t :: ts, hw := [(t, rE z enc (xs.set ix.toNat b))] } := by
  simp only [Prod.mk.injEq] at hT
  obtain ⟨h1, h3, h4, h5⟩ := hT
  intro ops o hop hg hds
  exact o_store_row (enc := enc) (es' := es') (hm := hm) (ts := ts) h hg hop hds rfl (hx.f (fun y hy => List.mem_append_left _ hy)) (hy.f (fun y hy => List.mem_append_right _ hy)) hb h1 h3 (Nat.le_of_ble_eq_true h4) (.head _) hem (fun q hq => ⟨List.mem_cons_of_mem _ hq, mem_ne h5 q hq⟩)

/-! ### Slices that are built -/
def opdD (x : Operand) (d : D) : D := match x with
  | .tmp _ => d
  | .const v => .sc v
  | .func f => .fn f []
  | .global _ => .un

theorem OkO.of {x : Operand} {d : D} (hg : ∀ g, x ≠ .global g) (h : opdD x d = d) : OkO x d := by
  cases x with
  | tmp t => trivial
  | const v => exact h.symm
  | func f => exact h.symm
  | global g => exact absurd rfl (hg g)

def notG : Operand → Bool
  | .global _ => false
  | _ => true

def tnL : List Operand → List D → List (Nat × D)
  | x :: xs, d :: ds => tnO x d ++ tnL xs ds
  | _, _ => []

theorem tnL_f {c : Cert} : ∀ {xs : List Operand} {ds : List D}, ds.length = xs.length → xs.all notG = true → List.zipWith opdD xs ds = ds → (∀ y ∈ tnL xs ds, y ∈ c.tn) → ∀ (k : Nat) (d : D), ds[k]? = some d → ∃ x, xs[k]? = some x ∧ OpF c x d
  | [], [], _, _, _, _, k, d, h => by simp at h
  | x :: xs, d0 :: ds, hl, hg, hz, hs, 0, d, h => by
    simp at h
    subst h
    simp only [List.zipWith_cons_cons, List.cons.injEq] at hz
    simp only [List.all_cons, Bool.and_eq_true] at hg
    refine ⟨x, rfl, (OkO.of (fun g e => by subst e; simp [notG] at hg) hz.1).f (fun y hy => hs y (by simp [tnL, hy]))⟩
  | x :: xs, d0 :: ds, hl, hg, hz, hs, k + 1, d, h => by
    simp only [List.zipWith_cons_cons, List.cons.injEq] at hz
    simp only [List.all_cons, Bool.and_eq_true] at hg
    obtain ⟨x', h1, h2⟩ := tnL_f (c := c) (by simpa using hl) hg.2 hz.2 (fun y hy => hs y (by simp [tnL, hy])) k d (by simpa using h)
    exact ⟨x', by simpa using h1, h2⟩
  | [], _ :: _, hl, _, _, _, _, _, _ => by simp at hl
  | _ :: _, [], hl, _, _, _, _, _, _ => by simp at hl

def zcOf (P : Program) (el n z : Nat) : Array Value := if n * z = 0 then #[] else (zvOf P el).cells
def zrow (P : Program) (el n z : Nat) : List Value := ((Array.range (n * z)).map ((zcOf P el n z)[· % (zcOf P el n z).size]!)).toList

theorem x_bs {α : Type} {ds : List D} {ts : List Nat} (T el z t : Nat) (enc : α → List D) (lst : List α) (js : List Nat) (xs : List Operand) (dl : List D) (hn : List (Nat × Ent)) (he : Emb hn ds (lst.map enc).flatten ts)
    (hT : (pureSem Γ.P (underlying T), szOf Γ.P el, pureSem Γ.P (zeroValue el), Nat.ble (lst.length * z) 1000, (zrow Γ.P el lst.length z).all Value.oneCell, Nat.ble Γ.m t) = (some (.slice el), some z, some (zvOf Γ.P el), true, true, true) := by kernel_rfl)
    (hD : (dl.length, js.length, xs.all notG, List.zipWith opdD xs dl, dl.all (fun d => (cellsD d).all D.cell), fillD (fun i => some (i * z, z)) ((zrow Γ.P el lst.length z).map D.sc) (js.zip dl), (lst.map enc).all (fun e => e.length == z)) = (xs.length, xs.length, true, dl, true, some ds, true) := by kernel_rfl) :
    OpV Γ (.buildSlice T lst.length (js.zip xs).toArray) { tn := tnL xs dl, hn := hn, out := some (.rf t 0 lst.length none), hx := ts, hw := [(t, rE z enc lst)], fr := [t] } := by
  simp only [Prod.mk.injEq] at hT hD
  obtain ⟨h1, h2, h3, h4, h5, h6⟩ := hT
  obtain ⟨g1, g2, g3, g4, g5, g6, g7⟩ := hD
  intro ops o hop hg
  refine v_bslice (n := lst.length) (zv := zvOf Γ.P el) (zc := zcOf Γ.P el lst.length z) (dl := js.zip dl) (ds := ds) (xs := lst.map enc) (ts := ts) hg hop rfl (Nat.le_of_ble_eq_true h6) h1 h2 (Nat.le_of_ble_eq_true h4) h3 rfl h5 (by simp [g1, g2]) ?_ g6 (by simp) ?_ he
  · intro k i d hk
    rw [List.getElem?_zip_eq_some] at hk
    obtain ⟨x, hx1, hx2⟩ := tnL_f (c := { tn := tnL xs dl, hn := hn, out := some (.rf t 0 lst.length none), hx := ts, hw := [(t, rE z enc lst)], fr := [t] }) g1 g3 g4 (fun y hy => hy) k d hk.2
    refine ⟨x, ?_, hx2, List.all_eq_true.1 g5 d (List.mem_of_getElem? hk.2)⟩
    simp only [List.getElem?_toArray]
    exact List.getElem?_zip_eq_some.2 ⟨hk.1, hx1⟩
  · intro e he'
    simpa using List.all_eq_true.1 g7 e he'

theorem x_bp {α : Type} (T el z t : Nat) (enc : α → List D) (lst : List α) (js : List Nat) (xs : List Operand) (dl : List D)
    (hT : (pureSem Γ.P (underlying T), szOf Γ.P el, pureSem Γ.P (zeroValue el), Nat.ble (lst.length * z) 1000, (zrow Γ.P el lst.length z).all Value.oneCell, Nat.ble Γ.m t) = (some (.slice el), some z, some (zvOf Γ.P el), true, true, true) := by kernel_rfl)
    (hD : (dl.length, js.length, xs.all notG, List.zipWith opdD xs dl, dl.all (fun d => (cellsD d).all D.cell), fillD (fun i => some (i * z, z)) ((zrow Γ.P el lst.length z).map D.sc) (js.zip dl), (lst.map enc).all (fun e => e.length == z), (lst.map enc).flatten.all D.nest) = (xs.length, xs.length, true, dl, true, some (lst.map enc).flatten, true, true) := by kernel_rfl) :
    OpV Γ (.buildSlice T lst.length (js.zip xs).toArray) { tn := tnL xs dl, hn := [], out := some (.rf t 0 lst.length none), hx := [], hw := [(t, rE z enc lst)], fr := [t] } := by
  simp only [Prod.mk.injEq] at hD
  obtain ⟨g1, g2, g3, g4, g5, g6, g7, g8⟩ := hD
  refine x_bs T el z t enc lst js xs dl [] (Emb.all_keep [] _ g8) hT ?_
  simp only [Prod.mk.injEq]
  exact ⟨g1, g2, g3, g4, g5, g6, g7⟩

/-! ### Calls -/
theorem AmL.all_same {hn : List (Nat × Ent)} {ids : List Nat} {bor : Bool} : ∀ {ds : List D}, D.men.menL ds = [] → AmL hn ids bor ds ds
  | [], _ => .nil
  | d :: ds, h => by
    simp only [D.men.menL, List.append_eq_nil_iff] at h
    exact .cons (.same h.1) (AmL.all_same h.2)

theorem am_b {hn : List (Nat × Ent)} {ids : List Nat} {t z : Nat} {α : Type} {enc enc' : α → List D} {xs : List α} (hm : (t, rE z enc xs) ∈ hn) (hr : ∀ a, D.ro.roC (enc a) = enc' a) (ht : ids.contains t = false) : Am hn ids true (.rf t 0 xs.length none) (.s false z xs.length (xs.map enc')) :=
  .bor hm (by simpa using ht) (by simp) (ro_map hr xs rfl rfl)

def D.nm1 (d : D) : Bool := d.free && d.men.isEmpty
def D.nm2 : D → Bool
  | .ag cs => cs.all D.nm1
  | d => d.nm1
def D.nm : D → Bool
  | .tu vs => vs.all D.nm2
  | d => d.nm2

theorem nm1_spec {d : D} (h : d.nm1 = true) : Nm d d [] := by
  simp only [D.nm1, Bool.and_eq_true, List.isEmpty_iff] at h
  exact .same h.2 h.1

theorem nmL_spec {p : D → Bool} (hp : ∀ d, p d = true → Nm d d []) : ∀ {cs : List D}, cs.all p = true → NmL cs cs []
  | [], _ => .nil
  | d :: cs, h => by
    simp only [List.all_cons, Bool.and_eq_true] at h
    exact .cons (e1 := []) (hp d h.1) (nmL_spec hp h.2)

theorem nm2_spec {d : D} (h : d.nm2 = true) : Nm d d [] := by
  cases d with
  | ag cs => exact .ag (nmL_spec (fun _ => nm1_spec) h)
  | _ => exact nm1_spec h

theorem nm_spec {d : D} (h : d.nm = true) : Nm d d [] := by
  cases d with
  | tu cs => exact .tu (nmL_spec (fun _ => nm2_spec) h)
  | _ => exact nm2_spec h

theorem flat_sc {v : Value} : (D.sc v).flat := trivial
theorem flat_s {z n : Nat} {xs : List (List D)} (h : flatE xs) : (D.s true z n xs).flat := ⟨rfl, h⟩
theorem flatN : flatC [] := trivial
theorem flatK {d : D} {ds : List D} (h1 : d.flat) (h2 : flatC ds) : flatC (d :: ds) := ⟨h1, h2⟩
theorem flatM {α : Type} {enc : α → List D} (h : ∀ a, flatC (enc a)) : ∀ (xs : List α), flatE (xs.map enc)
  | [] => trivial
  | x :: xs => ⟨h x, flatM h xs⟩

theorem x_c0 {f : FuncId} {as : List D} {R : Type} {e : Option R} {g : R → D × List Ent} {r : R} (xs : List Operand) (tys : List Nat) (hok : Ok Γ.P f as [] (e.map g)) (h : e = some r) (hcf : ∀ vs, pureSem Γ.P (callFunc f vs) = some (.enter f vs) := by intro _; kernel_rfl)
    (hC : (as.length, xs.all notG, List.zipWith opdD xs as, D.men.menL as, (g r).1.nm, (g r).2) = (xs.length, true, as, [], true, []) := by kernel_rfl) :
    OpV Γ (.call { callee := .value (.func f), args := xs.toArray, argTypes := tys.toArray }) { tn := tnL xs as, out := some (g r).1 } := by
  simp only [Prod.mk.injEq] at hC
  obtain ⟨h1, h2, h3, h4, h5, h7⟩ := hC
  intro ops o hop hg
  exact v_call («as» := as) (bor := false) (ids := []) (hin := []) (hout := []) (news := []) hg hop hcf (by simpa using h1) (fun k d hk => by
    obtain ⟨x, q1, q2⟩ := tnL_f (c := { tn := tnL xs as, out := some (g r).1 }) h1 h2 h3 (fun y hy => hy) k d hk
    exact ⟨x, by simpa using q1, q2⟩) (AmL.all_same h4) (by simp) rfl (by simp) (by simp) hok (by rw [h, Option.map_some, ← h7]) (by simp) (nm_spec h5) (by simp) rfl (by simp) (by simp)

theorem x_c0v {f : FuncId} {as caps : List D} {R : Type} {e : Option R} {g : R → D × List Ent} {r : R} (t0 : Nat) (xs : List Operand) (tys : List Nat) (hok : Ok Γ.P f (as ++ caps) [] (e.map g)) (h : e = some r) (hcf : ∀ vs, pureSem Γ.P (callFunc f vs) = some (.enter f vs) := by intro _; kernel_rfl)
    (hC : (as.length, xs.all notG, List.zipWith opdD xs as, D.men.menL (as ++ caps), (g r).1.nm, (g r).2) = (xs.length, true, as, [], true, []) := by kernel_rfl) :
    OpV Γ (.call { callee := .value (.tmp t0), args := xs.toArray, argTypes := tys.toArray }) { tn := (t0, .fn f caps) :: tnL xs as, out := some (g r).1 } := by
  simp only [Prod.mk.injEq] at hC
  obtain ⟨h1, h2, h3, h4, h5, h7⟩ := hC
  intro ops o hop hg
  exact v_callv («as» := as) (caps := caps) (bor := false) (ids := []) (hin := []) (hout := []) (news := []) hg hop (show (t0, D.fn f caps) ∈ (t0, D.fn f caps) :: tnL xs as from .head _) hcf (by simpa using h1) (fun k d hk => by
    obtain ⟨x, q1, q2⟩ := tnL_f (c := { tn := (t0, .fn f caps) :: tnL xs as, out := some (g r).1 }) h1 h2 h3 (fun y hy => List.mem_cons_of_mem _ hy) k d hk
    exact ⟨x, by simpa using q1, q2⟩) (AmL.all_same h4) (by simp) rfl (by simp) (by simp) hok (by rw [h, Option.map_some, ← h7]) (by simp) (nm_spec h5) (by simp) rfl (by simp) (by simp)

theorem x_c1 {f : FuncId} {as ds : List D} {R : Type} {e : Option R} {g : R → D × List Ent} {r : R} {d : D} {hin : List Ent} {news : List (Nat × Ent)} (xs : List Operand) (tys : List Nat) (bor : Bool) (hn : List (Nat × Ent)) (ids : List Nat) (ham : AmL hn ids bor as ds)
    (hok : Ok Γ.P f ds hin (e.map g)) (h : e = some r) (hnm : Nm (g r).1 d news) (hbor : bor = true → ids = [] ∧ (g r).1.flat := by simp)
    (hcf : ∀ vs, pureSem Γ.P (callFunc f vs) = some (.enter f vs) := by intro _; kernel_rfl)
    (hC : (as.length, xs.all notG, List.zipWith opdD xs as, nodupK ids, hin.length, Nat.ble (g r).2.length hin.length, (ids.zip hin).map (fun x => lk hn x.1), (hin ++ (g r).2).flatMap Ent.men, nodupK (news.map (·.1)), news.all (fun x => Nat.ble Γ.m x.1)) =
      (xs.length, true, as, true, ids.length, true, (ids.zip hin).map (fun x => some x.2), [], true, true) := by kernel_rfl) :
    OpV Γ (.call { callee := .value (.func f), args := xs.toArray, argTypes := tys.toArray }) { tn := tnL xs as, hn := hn, out := some d, hx := ids, hw := ids.zip (g r).2 ++ news, fr := news.map (·.1) } := by
  simp only [Prod.mk.injEq] at hC
  obtain ⟨h1, h2, h3, h4, h5, h6, h7, h8, h9, h10⟩ := hC
  intro ops o hop hg
  exact v_call («as» := as) (bor := bor) (ids := ids) (hin := hin) (hout := (g r).2) (news := news) hg hop hcf (by simpa using h1) (fun k d' hk => by
    obtain ⟨x, q1, q2⟩ := tnL_f (c := { tn := tnL xs as, hn := hn, out := some d, hx := ids, hw := ids.zip (g r).2 ++ news, fr := news.map (·.1) }) h1 h2 h3 (fun y hy => hy) k d' hk
    exact ⟨x, by simpa using q1, q2⟩) ham (nodupK_spec h4) h5 (facts_of h7) (menAll h8) hok (by rw [h, Option.map_some]) (Nat.le_of_ble_eq_true h6) hnm (nodupK_spec h9) rfl (le_all h10) hbor

theorem x_c1v {f : FuncId} {ds : List D} {R : Type} {e : Option R} {g : R → D × List Ent} {r : R} {d : D} {hin : List Ent} {news : List (Nat × Ent)} (t0 : Nat) (xs : List Operand) (tys : List Nat) (bor : Bool) (hn : List (Nat × Ent)) (ids : List Nat) (as : List D) (caps : List D) (ham : AmL hn ids bor (as ++ caps) ds)
    (hok : Ok Γ.P f ds hin (e.map g)) (h : e = some r) (hnm : Nm (g r).1 d news) (hbor : bor = true → ids = [] ∧ (g r).1.flat := by simp)
    (hcf : ∀ vs, pureSem Γ.P (callFunc f vs) = some (.enter f vs) := by intro _; kernel_rfl)
    (hC : (as.length, xs.all notG, List.zipWith opdD xs as, nodupK ids, hin.length, Nat.ble (g r).2.length hin.length, (ids.zip hin).map (fun x => lk hn x.1), (hin ++ (g r).2).flatMap Ent.men, nodupK (news.map (·.1)), news.all (fun x => Nat.ble Γ.m x.1)) =
      (xs.length, true, as, true, ids.length, true, (ids.zip hin).map (fun x => some x.2), [], true, true) := by kernel_rfl) :
    OpV Γ (.call { callee := .value (.tmp t0), args := xs.toArray, argTypes := tys.toArray }) { tn := (t0, .fn f caps) :: tnL xs as, hn := hn, out := some d, hx := ids, hw := ids.zip (g r).2 ++ news, fr := news.map (·.1) } := by
  simp only [Prod.mk.injEq] at hC
  obtain ⟨h1, h2, h3, h4, h5, h6, h7, h8, h9, h10⟩ := hC
  intro ops o hop hg
  exact v_callv («as» := as) (caps := caps) (bor := bor) (ids := ids) (hin := hin) (hout := (g r).2) (news := news) hg hop (show (t0, D.fn f caps) ∈ (t0, D.fn f caps) :: tnL xs as from .head _) hcf (by simpa using h1) (fun k d' hk => by
    obtain ⟨x, q1, q2⟩ := tnL_f (c := { tn := (t0, .fn f caps) :: tnL xs as, hn := hn, out := some d, hx := ids, hw := ids.zip (g r).2 ++ news, fr := news.map (·.1) }) h1 h2 h3 (fun y hy => List.mem_cons_of_mem _ hy) k d' hk
    exact ⟨x, by simpa using q1, q2⟩) ham (nodupK_spec h4) h5 (facts_of h7) (menAll h8) hok (by rw [h, Option.map_some]) (Nat.le_of_ble_eq_true h6) hnm (nodupK_spec h9) rfl (le_all h10) hbor

theorem x_ro {op : Op} {tn : List (Nat × D)} {hn : List (Nat × Ent)} {d : D} {hx : List Nat} {hw : List (Nat × Ent)} {fr : List Nat} (A B : List (Nat × Ent)) (hv : OpV Γ op { tn := tn, hn := hn, out := some d, hx := hx, hw := hw, fr := fr })
    (hC : (A.map (fun x => lk hn x.1), hx, hw, fr, nodupK (B.map (·.1))) = (A.map (fun x => some x.2), A.map (·.1), A ++ B, B.map (·.1), true) := by kernel_rfl) : OpV Γ op { tn := tn, hn := hn, out := some d, hx := [], hw := B, fr := fr } := by
  simp only [Prod.mk.injEq] at hC
  obtain ⟨h1, h2, h3, h4, h5⟩ := hC
  intro ops o hop hg
  exact valid_ro A B (facts_of h1) h2 h3 h4 (nodupK_spec h5) (hv ops o hop hg)
end
end Go.Im

set_option linter.unusedVariables false
namespace Go.Im
open Go

structure Wd where
  w0 : World
  N0 : Nat → Prop
  O0 : List Nat
  β0 : Nat → Loc

def Wd.g (q : Wd) (P : Program) (f m nt : Nat) : Ctx := ⟨P, f, q.w0, q.N0, q.O0, m, q.β0, nt⟩

theorem Ok_of3 {P : Program} {f : FuncId} {args : List D} {hin : List Ent} {T : Type} {e : Option T} {g : T → D × List Ent} (fc : Code) (fn : Func) (m nt : Nat)
    (h : ∀ (q : Wd), J (q.g P f m nt) fc [.c 1] ⟨args.zipIdx.map (fun x => (x.2, x.1)), enumE hin, D.men.menL args ++ menH (enumE hin)⟩ e (fun r => some (g r)))
    (hf : (P.funcs[f]?, fn.body, fn.ntmps, Nat.ble args.length nt, hin.length) = (some fn, some fc, nt, true, m) := by kernel_rfl) : Ok P f args hin (e.map g) := by
  simp only [Prod.mk.injEq] at hf
  obtain ⟨h1, h2, h3, h4, h5⟩ := hf
  subst h5
  exact Ok_of2 h1 h2 h3 (Nat.le_of_ble_eq_true h4) (fun w0 N0 O0 β0 => h ⟨w0, N0, O0, β0⟩)

section
variable {Γ : Ctx} {fc : Code} {k : List II} {σ : St} {T : Type} {K : T → Option (D × List Ent)}

theorem J_if2 {b : Bool} {x y : Option T} (t : Nat) (h1 : b = true → J Γ fc k ⟨(t, .sc (.bool true)) :: σ.tm, σ.hp, σ.us⟩ x K) (h2 : b = false → J Γ fc k ⟨(t, .sc (.bool false)) :: σ.tm, σ.hp, σ.us⟩ y K) (hl : lk σ.tm t = some (.sc (.bool b)) := by kernel_rfl) :
    J Γ fc k σ (if b then x else y) K := J_if t hl h1 h2

variable {p : Nat}
theorem orcL {rest : List (Nat × Cert)} {b b' : Bool} (i : Nat) (tm : List (Nat × D)) (hp : List (Nat × Ent)) (hb : b = b') (hr : OrcV Γ fc p rest)
    (h : (opAt fc p i).map (fun o => (o.guard, ac0 Γ.P none o ⟨tm, hp, []⟩)) = some (none, some { tn := tm, hn := hp, out := some (.sc (.bool b)) }) := by kernel_rfl) :
    OrcV Γ fc p ((i, { tn := tm, hn := hp, out := some (.sc (.bool b')) }) :: rest) :=
  ⟨orcA (id := none) tm hp _ h rfl (by rw [hb]), hr⟩

theorem orcLG {rest : List (Nat × Cert)} {b b' : Bool} (i g t : Nat) (bg : Bool) (tm : List (Nat × D)) (hp : List (Nat × Ent)) (hb : b = b') (hr : OrcV Γ fc p rest)
    (h : ((opAt fc p i).map (fun o => (o.guard, ac0 Γ.P none { o with guard := none } ⟨tm, hp, []⟩)), dstAt fc p g) = (some (some (g, bg), some { tn := tm, hn := hp, out := some (.sc (.bool b)) }), some t) := by kernel_rfl) :
    OrcV Γ fc p ((i, { tn := (t, .sc (.bool bg)) :: tm, hn := hp, out := some (.sc (.bool b')) }) :: rest) := by
  simp only [Prod.mk.injEq] at h
  exact ⟨orcAG (id := none) tm hp _ h.1 h.2 rfl (by rw [hb]), hr⟩
end
end Go.Im

set_option linter.unusedVariables false
namespace Go.Im
open Go

/-! ### A function that calls itself -/
def recF {A R : Type} (b : (A → Option R) → A → Option R) : Nat → A → Option R
  | 0, _ => none
  | n + 1, x => b (recF b n) x

theorem Ok_none {P : Program} {f : FuncId} {args : List D} {hin : List Ent} {T : Type} {g : T → D × List Ent} : Ok P f args hin ((none : Option T).map g) := fun _ h => by cases h

/-! ### Contracts of the library -/
theorem repCs_sc0 {β : Nat → Loc} {N : Nat → Prop} {w : World} : ∀ {vs us : List Value} {bs : List Nat}, RepCs β N w true (vs.map D.sc) us bs → us = vs ∧ bs = []
  | [], us, bs, h => by simpa [RepCs] using h
  | v :: vs, us, bs, h => by
    simp only [List.map_cons, RepCs] at h
    obtain ⟨u, us', b1, b2, rfl, rfl, h3, h4⟩ := h
    simp only [Rep] at h3
    obtain ⟨rfl, rfl⟩ := h3
    obtain ⟨rfl, rfl⟩ := repCs_sc0 h4
    exact ⟨rfl, rfl⟩

theorem Ok_sc {P : Program} {f : FuncId} {vs : List Value} {v : Value} (h : ∀ w, Calls P f vs.toArray w fun e w' => e = .returned v ∧ w' = w) : Ok P f (vs.map D.sc) [] (some (.sc v, [])) := by
  intro out ho w N β us bs ha hh hnd hlt hN _
  cases ho
  obtain ⟨rfl, _⟩ := repCs_sc0 ha
  refine (h w).mono ?_
  rintro e w' ⟨rfl, rfl⟩
  exact ⟨v, [], [], rfl, ⟨rfl, rfl⟩, Nat.le_refl _, fun _ _ _ => rfl, by simp, by simp, by simp [Rep], rfl⟩

def cmpB (a b : ByteArray) : Int := Lib.compareBytes a.data.toList b.data.toList
end Go.Im

set_option linter.unusedVariables false
namespace Go.Im
open Go

theorem RepEs.cut {β : Nat → Loc} {N : Nat → Prop} {w : World} {z : Nat} : ∀ {xs : List (List D)} {ws : List Value} {bs : List Nat} (k : Nat), RepEs β N w xs ws bs → (∀ x ∈ xs, x.length = z) →
    ∃ b1 b2, bs = b1 ++ b2 ∧ RepEs β N w (xs.take k) (ws.take (k * z)) b1 ∧ RepEs β N w (xs.drop k) (ws.drop (k * z)) b2
  | xs, ws, bs, 0, h, hz => ⟨[], bs, rfl, by simp [RepEs], by simpa using h⟩
  | [], ws, bs, k + 1, h, hz => by
    simp only [RepEs] at h
    rw [h.1, h.2]
    exact ⟨[], [], rfl, by simp [RepEs], by simp [RepEs]⟩
  | x :: xs, ws, bs, k + 1, h, hz => by
    simp only [RepEs] at h
    obtain ⟨w1, w2, b1, b2, rfl, rfl, h3, h4⟩ := h
    have hl := h3.length
    rw [hz x (by simp)] at hl
    obtain ⟨c1, c2, rfl, h5, h6⟩ := RepEs.cut k h4 (fun y hy => hz y (by simp [hy]))
    have e1 : (w1 ++ w2).drop ((k + 1) * z) = w2.drop (k * z) := by
      rw [Nat.add_mul, Nat.one_mul, List.drop_append, List.drop_of_length_le (by omega), List.nil_append]; congr 1; omega
    have e2 : (w1 ++ w2).take ((k + 1) * z) = w1 ++ w2.take (k * z) := by
      rw [Nat.add_mul, Nat.one_mul, List.take_append, List.take_of_length_le (by omega)]; congr 2; omega
    rw [e1, e2]
    refine ⟨b1 ++ c1, c2, by simp, ?_, by simpa using h6⟩
    simp only [List.take_succ_cons, RepEs]
    exact ⟨w1, _, b1, c1, rfl, rfl, h3, h5⟩

section
variable {Γ : Ctx} {ops : Array Oper} {o : Oper}

theorem v_cut {c : Cert} {x : Operand} {T el : TypeId} {lo hi : Option Operand} {z n l h t t' : Nat} {xs : List (List D)} (hg : o.guard = none) (hop : o.op = .slice T x lo hi none)
    (hc : c = { tn := c.tn, hn := c.hn, out := some (.rf t' 0 (h - l) none), hx := [t], hw := [(t', .row z ((xs.drop l).take (h - l)))], fr := [t'] }) (hm : Γ.m ≤ t') (hx : OpF c x (.rf t 0 n none)) (hT : pureSem Γ.P (underlying T) = some (.slice el)) (hz : szOf Γ.P el = some z)
    (hl : BndF c lo 0 l) (hh : BndF c hi n h) (h1 : l ≤ h) (h2 : h ≤ n) (hnn : n = xs.length) (hh' : (t, .row z xs) ∈ c.hn) : Valid Γ ops o c := by
  intro σ a w Q hdst hn ⟨h0, β, bs, hr⟩
  have hwt : Region.wanted o (yielded ops a.tmps) = true := by simp [Region.wanted, hg]
  rw [if_pos hwt]
  have hfr : t' ∉ σ.us := hn.2.2 t' (by rw [hc]; simp)
  have h3 := OpF.rep hx hn hr
  obtain ⟨b1, b2, hp, ⟨hLz, hzz, hrow⟩, hrest⟩ := HRep.take hr.hp hr.keys (hn.2.1 _ hh')
  have hne : ∀ k, k ∈ σ.us → k ≠ t' := fun k hk e => hfr (e ▸ hk)
  have hkm : ∀ k, k < Γ.m → k ≠ t' := fun k hk e => by omega
  simp only [Rep] at h3
  obtain ⟨_, _, h3⟩ := h3
  have hfilt : σ.hp.filter (fun x => !c.hx.contains x.1) = σ.hp.filter (fun x => x.1 != t) := by
    rw [hc]; congr 1; funext x; by_cases hx : x.1 = t <;> simp [hx]
  have hrun : ∀ ad len cp, a.eval x = .slice ad len cp → n = len → n ≤ cp → (execOp a.eval o).run Γ.P w = .ok (.value (.slice (if cp = l then ad else ad.map (·.add (l * z))) (h - l) (cp - l))) w := by
    intro ad len cp he hlen hcp
    subst hlen
    refine exec_v (s := Instr.sliceAt T (a.eval x) (lo.map a.eval) (hi.map a.eval) none) (by simp [execOp, hop]) ?_
    rw [he]
    exact run_slice_slice hn hr hT hz hl hh h1 (by omega)
  rcases hrow with ⟨hnil, hxs, hb1⟩ | ⟨hnil, ws, hO, hE⟩
  · subst hxs
    subst hb1
    simp at hnn
    have hl0 : l = 0 := by omega
    have hh0 : h = 0 := by omega
    subst hl0 hh0 hnn
    have hv : a.eval x = .slice none 0 0 := by
      rcases h3 with ⟨_, _, _, h3⟩ | ⟨h3, _⟩
      · exact h3
      · rw [hnil] at h3; cases h3
    have hown : (β t).own = [] := by simp [Loc.own, hnil]
    rw [hown] at hp
    unfold Oper.wp
    rw [hrun _ _ _ hv rfl (Nat.le_refl _), Oper.upon_value]
    refine Rel.step (β1 := updB β t' ⟨true, 0, 0, z, 0⟩) (bk := b2) (br := []) (bn := []) h0 hr hdst (by rw [hc]; simp) (by rw [hc]; simpa using .inr hfr) (by simpa using hp) (by rw [hfilt]; exact hrest) (Nat.le_refl _) (fun _ _ _ => rfl)
      (fun k hk => by simp [updB, hne k hk]) (fun k hk => by simp [updB, hkm k hk]) (by simp) (by simp) ?_ ?_ ⟨rfl, rfl⟩
    · rw [hc]
      refine ⟨[], [], ?_, ?_, rfl⟩
      · simp [updB, Loc.own]
      · simp [updB, EntRep]
    · intro d hd
      rw [hc] at hd
      cases hd
      simp [Rep, updB]
  · have hv : ∃ c', a.eval x = .slice (some ⟨(β t).b, (β t).o, none⟩) n c' ∧ n ≤ c' ∧ c' * z ≤ (β t).r := by
      rcases h3 with ⟨h3, _⟩ | ⟨_, c', h3, h4, h5, _⟩
      · rw [hnil] at h3; cases h3
      · exact ⟨c', by simpa using h3, h4, by rw [← hLz]; simpa using h5⟩
    obtain ⟨cp, hv, hcp, hroom⟩ := hv
    have hown : (β t).own = [(β t).b] := by simp [Loc.own, hnil]
    rw [hown] at hp
    have hws := hE.length hzz
    obtain ⟨d1, d2, e1, hs1, hs2⟩ := hE.cut l hzz
    obtain ⟨d3, d4, e2, hs3, hs4⟩ := hs2.cut (h - l) (fun y hy => hzz y (List.mem_of_mem_drop hy))
    have hp2 : bs.Perm (((β t).b :: b1) ++ b2) := by simpa using hp
    have hnd := hp2.nodup_iff.1 hr.nodup
    have hsub : ∀ b ∈ d3, b ∈ b1 := fun b hb => by rw [e1, e2]; simp [hb]
    have hndn : ((β t).b :: d3).Nodup := by
      have q := (List.nodup_append.1 hnd).1
      rw [e1, e2] at q
      refine List.Nodup.sublist ?_ q
      refine List.Sublist.cons_cons _ ?_
      exact (List.sublist_append_left d3 d4).trans (List.sublist_append_right _ _)
    unfold Oper.wp
    rw [hrun _ _ _ hv rfl hcp, Oper.upon_value]
    have hNS : ∀ b, NS Γ w bs b → NS Γ w ((β t).b :: d3 ++ b2) b ∧ w.heap[b]? = w.heap[b]? := by
      rintro b ⟨u1, u2, u3⟩
      refine ⟨⟨u1, u2, fun hb => u3 (hp2.mem_iff.2 ?_)⟩, rfl⟩
      simp only [List.cons_append, List.mem_cons, List.mem_append] at hb ⊢
      rcases hb with rfl | hb | hb
      · exact .inl rfl
      · exact .inr (.inl (hsub b hb))
      · exact .inr (.inr hb)
    refine Rel.step (β1 := updB β t' ⟨false, (β t).b, if cp = l then (β t).o else (β t).o + l * z, z, (cp - l) * z⟩) (bk := b2) (br := (β t).b :: b1) (bn := (β t).b :: d3) h0 hr hdst (by rw [hc]; simp) (by rw [hc]; simpa using .inr hfr) hp2 (by rw [hfilt]; exact hrest) (Nat.le_refl _) (fun _ _ _ => rfl)
      (fun k hk => by simp [updB, hne k hk]) (fun k hk => by simp [updB, hkm k hk]) hndn ?_ ?_ ?_ ⟨rfl, rfl⟩
    · intro b hb
      have : b ∈ (β t).b :: b1 := by
        rcases List.mem_cons.1 hb with rfl | hb
        · simp
        · exact List.mem_cons_of_mem _ (hsub b hb)
      exact ⟨.inl this, (hr.own b (hp2.mem_iff.2 (List.mem_append_left _ this))).1⟩
    · rw [hc]
      refine ⟨d3, [], by simp [updB, Loc.own], ⟨by simp [updB], fun y hy => hzz y (List.mem_of_mem_drop (List.mem_of_mem_take hy)), .inr ⟨by simp [updB], (ws.drop (l * z)).take ((h - l) * z), ?_, ?_⟩⟩, rfl⟩
      · simp only [updB_self]
        obtain ⟨arr, e, lo', hi', u1, u2, u3, u4⟩ := hO
        have hmul : (cp - l) * z = cp * z - l * z := Nat.sub_mul _ _ _
        have hlc : l * z ≤ cp * z := Nat.mul_le_mul_right _ (by omega)
        refine ⟨arr, e, lo', hi', u1, u2, ?_, ?_⟩
        · split
          · rename_i hcl; rw [hcl]; simp; omega
          · omega
        · intro k hk
          simp only [List.length_take, List.length_drop] at hk
          have hkl : k < ws.length - l * z := by omega
          have hcl : cp ≠ l := by
            intro e; subst e
            have : ws.length = cp * z := by rw [hws, ← hnn]; congr 1; omega
            omega
          rw [if_neg hcl]
          have := u4 (l * z + k) (by omega)
          rw [Nat.add_assoc, this]
          simp
      · refine RepEs.frame (β' := updB β t' ⟨false, (β t).b, if cp = l then (β t).o else (β t).o + l * z, z, (cp - l) * z⟩) hNS _ _ _ (fun _ _ => rfl) hs3
    · intro d hd
      rw [hc] at hd
      cases hd
      simp only [Rep, updB_self]
      refine ⟨trivial, trivial, .inr ⟨trivial, cp - l, ?_, by omega, by simp, by simp⟩⟩
      simp only [Nat.zero_mul, Nat.add_zero]
      split
      · rfl
      · simp [add_none]

end
end Go.Im

set_option linter.unusedVariables false
namespace Go.Im
open Go

section
variable {Γ : Ctx} {ops : Array Oper} {o : Oper}

theorem v_slice_sub {c : Cert} {x : Operand} {T el : TypeId} {lo hi : Option Operand} {z n l h t : Nat} {xs : List (List D)} (hg : o.guard = none) (hop : o.op = .slice T x lo hi none)
    (hc : c = { tn := c.tn, hn := c.hn, out := some (.sub t l (h - l)) }) (hx : OpF c x (.rf t 0 n none)) (hT : pureSem Γ.P (underlying T) = some (.slice el)) (hz : szOf Γ.P el = some z)
    (hl : BndF c lo 0 l) (hh : BndF c hi n h) (h1 : l ≤ h) (h2 : h ≤ n) (hh' : (t, .row z xs) ∈ c.hn) : Valid Γ ops o c := by
  refine valid_val (d := .sub t l (h - l)) (f := fun ρ => Instr.sliceAt T (ρ x) (lo.map ρ) (hi.map ρ) none) hg (fun ρ => by simp [execOp, hop]) (by rw [hc]) fun β bs σ a w hn hr => ?_
  have h3 := OpF.rep hx hn hr
  obtain ⟨_, ⟨hLz, _⟩, _⟩ := HRep.get hr.hp (hn.2.1 _ hh')
  simp only [Rep] at h3
  obtain ⟨_, _, ⟨_, _, rfl, hv⟩ | ⟨hnil, cp, hv, hcap, hroom, _⟩⟩ := h3
  · rw [hv]
    refine ⟨_, run_slice_slice hn hr hT hz hl hh h1 (by omega), ?_⟩
    simp only [Rep]
    exact ⟨trivial, trivial, _, _, rfl, by omega, .inl (by omega)⟩
  · rw [hv]
    refine ⟨_, run_slice_slice hn hr hT hz hl hh h1 (by omega), ?_⟩
    simp only [Rep]
    refine ⟨trivial, trivial, _, _, rfl, by omega, ?_⟩
    by_cases h0 : h - l = 0
    · exact .inl h0
    · refine .inr ⟨hnil, ?_, ?_⟩
      · rw [if_neg (by omega)]
        simp [add_none, hLz]
      · refine Nat.le_trans (Nat.mul_le_mul_right _ ?_) hroom
        omega

theorem Rel.over {β : Nat → Loc} {bs : List Nat} {σ : St} {a : Act} {w : World} {c : Cert} {t z l : Nat} {xs ys : List (List D)} {vs : List Value} {v : Value} (h0 : ∀ t, t ∈ menT σ.tm ∨ t ∈ menH σ.hp → t ∈ σ.us) (hr : RelB Γ β bs σ a w)
    {dst : Option Nat} (hd : ∀ t, dst = some t → t < Γ.nt) (hhx : c.hx = [t]) (hhw : c.hw = [(t, .row z (xs.take l ++ ys ++ xs.drop (l + ys.length)))]) (hm : (t, .row z xs) ∈ σ.hp) (hnil : (β t).nil = false)
    (hl : l + ys.length ≤ xs.length) (hyz : ∀ y ∈ ys, y.length = z) (hE2 : ∀ N w', RepEs β N w' ys vs []) (ho : ∀ d, c.out = some d → ∀ N w', Rep β N w' true d v []) :
    Rel Γ (σ.upd dst c) (a.put dst v) (putCells w (β t).b ((β t).o + l * z) vs) := by
  obtain ⟨b1, b2, hp, ⟨hLz, hzz, hrow⟩, hrest⟩ := HRep.take hr.hp hr.keys hm
  rcases hrow with ⟨hnil', _⟩ | ⟨_, ws, hO, hE⟩
  · rw [hnil] at hnil'; cases hnil'
  have hown : (β t).own = [(β t).b] := by simp [Loc.own, hnil]
  rw [hown] at hp
  have hws := hE.length hzz
  have hvl := (hE2 (fun _ => True) w).length hyz
  have hfilt : σ.hp.filter (fun x => !c.hx.contains x.1) = σ.hp.filter (fun x => x.1 != t) := by
    rw [hhx]; congr 1; funext x; by_cases hx : x.1 = t <;> simp [hx]
  obtain ⟨d1, d2, e1, hs1, hs2⟩ := hE.cut l hzz
  obtain ⟨d3, d4, e2, hs3, hs4⟩ := hs2.cut ys.length (fun y hy => hzz y (List.mem_of_mem_drop hy))
  have hheap : (∀ b', b' ≠ (β t).b → (putCells w (β t).b ((β t).o + l * z) vs).heap[b']? = w.heap[b']?) ∧ (putCells w (β t).b ((β t).o + l * z) vs).heap.size = w.heap.size := by
    obtain ⟨arr, e, lo, hi, g1, g2, g3, g4⟩ := hO
    exact (putCells_heap g1).2
  have hp2 : bs.Perm (((β t).b :: b1) ++ b2) := by simpa using hp
  have hnd := hp2.nodup_iff.1 hr.nodup
  have hsub : ∀ b ∈ d1 ++ d4, b ∈ b1 := fun b hb => by
    rw [e1, e2]
    rcases List.mem_append.1 hb with h | h <;> simp [h]
  have hndn : ((β t).b :: (d1 ++ d4)).Nodup := by
    have q := (List.nodup_append.1 hnd).1
    rw [e1, e2] at q
    refine List.Nodup.sublist ?_ q
    refine List.Sublist.cons_cons _ ?_
    exact List.Sublist.append_left (List.sublist_append_right _ _) _
  have hbin : ∀ b ∈ d1 ++ d4, b ≠ (β t).b := fun b hb e => (List.nodup_cons.1 hndn).1 (e ▸ hb)
  have hmz : (l + ys.length) * z ≤ ws.length := by rw [hws]; exact Nat.mul_le_mul_right _ hl
  have hNS : ∀ b, NS Γ w bs b → NS Γ (putCells w (β t).b ((β t).o + l * z) vs) ((β t).b :: (d1 ++ d4) ++ b2) b ∧ (putCells w (β t).b ((β t).o + l * z) vs).heap[b]? = w.heap[b]? := by
    rintro b ⟨u1, u2, u3⟩
    have hb1 : b ≠ (β t).b := fun e => u3 (hp2.mem_iff.2 (by simp [e]))
    refine ⟨⟨u1, by rw [hheap.2]; exact u2, fun hb => u3 (hp2.mem_iff.2 ?_)⟩, hheap.1 b hb1⟩
    rcases List.mem_append.1 hb with hb | hb
    · rcases List.mem_cons.1 hb with hb | hb
      · exact List.mem_append_left _ (by simp [hb])
      · exact List.mem_append_left _ (List.mem_cons_of_mem _ (hsub b hb))
    · exact List.mem_append_right _ hb
  refine Rel.step (β1 := β) (bk := b2) (br := (β t).b :: b1) (bn := (β t).b :: (d1 ++ d4)) h0 hr hd (by rw [hhw]; simp) (by rw [hhw, hhx]; simp) hp2 (by rw [hfilt]; exact hrest) (by rw [hheap.2]; exact Nat.le_refl _)
    (fun b _ hb => hheap.1 b (fun e => hb (by simp [e]))) (fun _ _ => rfl) (fun _ _ => rfl) hndn ?_ ?_ (fun d hd => ho d hd _ _) (putCells_quiet _ _ _ _)
  · intro b hb
    rw [hheap.2]
    have : b ∈ (β t).b :: b1 := by
      rcases List.mem_cons.1 hb with rfl | hb
      · simp
      · exact List.mem_cons_of_mem _ (hsub b hb)
    exact ⟨.inl this, (hr.own b (hp2.mem_iff.2 (List.mem_append_left _ this))).1⟩
  · rw [hhw]
    refine ⟨d1 ++ d4, [], by rw [hown]; simp, ⟨hLz, ?_, .inr ⟨hnil, ws.take (l * z) ++ vs ++ ws.drop (l * z + vs.length), ?_, ?_⟩⟩, rfl⟩
    · intro q hq
      simp only [List.mem_append] at hq
      rcases hq with (hq | hq) | hq
      · exact hzz q (List.mem_of_mem_take hq)
      · exact hyz q hq
      · exact hzz q (List.mem_of_mem_drop hq)
    · obtain ⟨arr, e', lo, hi, g1, g2, g3, g4⟩ := hO
      have hle : (β t).o + ws.length ≤ arr.size := by
        rcases Nat.eq_zero_or_pos ws.length with e0 | e0
        · omega
        · have := g4 (ws.length - 1) (by omega)
          have := (Array.getElem?_eq_some_iff.1 this).1
          omega
      obtain ⟨arr', e'', lo', hi', u1, u2, u3, u4⟩ := own_put (r := ws.length) (vs := vs) (j := l * z) ⟨arr, e', lo, hi, g1, g2, hle, g4⟩ (by rw [hvl, ← Nat.add_mul]; exact hmz) (Nat.le_refl _)
      refine ⟨arr', e'', lo', hi', u1, u2, ?_, u4⟩
      have := (putCells_heap (off := (β t).o + l * z) (vs := vs) g1).1
      rw [this] at u1
      cases u1
      rw [spliceA_size]
      exact g3
    · have m1 := RepEs.frame (β' := β) hNS _ _ _ (fun b hb => hheap.1 b (hbin b (by simp [hb]))) hs1
      have m3 := RepEs.frame (β' := β) hNS _ _ _ (fun b hb => hheap.1 b (hbin b (by simp [hb]))) hs4
      have key := (m1.append (hE2 _ _)).append m3
      rw [List.append_nil] at key
      have ex : (xs.drop l).drop ys.length = xs.drop (l + ys.length) := by rw [List.drop_drop]
      have ew : (ws.drop (l * z)).drop (ys.length * z) = ws.drop (l * z + vs.length) := by rw [List.drop_drop, hvl]
      rw [ex, ew] at key
      exact key

theorem Rel.noop {σ : St} {a : Act} {w : World} {c : Cert} {t : Nat} {e : Ent} (h : Rel Γ σ a w) (hm : (t, e) ∈ σ.hp) (hhx : c.hx = [t]) (hhw : c.hw = [(t, e)]) : Rel Γ (σ.upd none c) a w := by
  have h0 := h.1
  obtain ⟨_, β, bs, hr⟩ := h
  have ho : c.outs none = [] := rfl
  refine Rel.weak ⟨h0, β, bs, hr⟩ (fun y hy => ?_) (fun y hy => ?_) ?_ ?_
  · simp only [St.upd, ho, List.nil_append, List.mem_filter] at hy
    exact hy.1
  · simp only [St.upd, hhw, List.mem_append, List.mem_singleton, List.mem_filter] at hy
    rcases hy with rfl | hy
    · exact hm
    · exact hy.1
  · simp only [St.upd, hhw, hhx, List.map_append, List.map_cons, List.map_nil]
    refine List.nodup_append.2 ⟨by simp, List.Nodup.sublist (List.Sublist.map _ List.filter_sublist) hr.keys, ?_⟩
    intro q hq q' hq' e'
    subst e'
    obtain ⟨x, hx, rfl⟩ := List.mem_map.1 hq'
    have := (List.mem_filter.1 hx).2
    simp at hq this
    exact this hq
  · intro q hq
    simp only [St.upd, List.mem_append]
    refine .inr (h0 q ?_)
    rcases hq with hq | hq
    · obtain ⟨x, hx, hx'⟩ := List.mem_flatMap.1 hq
      simp only [St.upd, ho, List.nil_append, List.mem_filter] at hx
      exact .inl (List.mem_flatMap.2 ⟨x, hx.1, hx'⟩)
    · obtain ⟨x, hx, hx'⟩ := List.mem_flatMap.1 hq
      simp only [St.upd, hhw, List.mem_append, List.mem_singleton, List.mem_filter] at hx
      rcases hx with rfl | hx
      · exact .inr (List.mem_flatMap.2 ⟨_, hm, hx'⟩)
      · exact .inr (List.mem_flatMap.2 ⟨x, hx.1, hx'⟩)

theorem zeroCells_made (zc : Array Value) (n : Nat) : Builtin.zeroCells zc n = madeCells zc (n * zc.size) := rfl

theorem v_clear_sub {c : Cert} {x : Operand} {T el : TypeId} {z n l t : Nat} {zv : Value} {e : List D} {xs : List (List D)} (hg : o.guard = none) (hds : o.dst = none) (hop : o.op = .call { callee := .builtin .clear, args := #[x], argTypes := #[T] })
    (hc : c = { tn := c.tn, hn := c.hn, hx := [t], hw := [(t, .row z (xs.take l ++ List.replicate n e ++ xs.drop (l + n)))] }) (hx : OpF c x (.sub t l n)) (hT : Γ.P.underlying T = some (.slice el)) (hzv : pureSem Γ.P (zeroValue el) = some zv) (hzs : zv.cells.size = z)
    (hone : zv.cells.toList.all Value.oneCell = true) (he : Emb [] (zv.cells.toList.map D.sc) e []) (hel : e.length = z) (hl : l + n ≤ xs.length) (hh' : (t, .row z xs) ∈ c.hn) : Valid Γ ops o c := by
  intro σ a w Q hdst hn ⟨h0, β, bs, hr⟩
  have hwt : Region.wanted o (yielded ops a.tmps) = true := by simp [Region.wanted, hg]
  rw [if_pos hwt]
  have h1 := OpF.rep hx hn hr
  simp only [Rep] at h1
  obtain ⟨_, _, ad, cp, hv, hcap, h3⟩ := h1
  have hdst0 : ∀ v, a.put o.dst v = a := fun v => by rw [hds]; rfl
  by_cases hn0 : n = 0
  · subst hn0
    have hrun : (execOp a.eval o).run Γ.P w = .ok (.value (.tuple #[])) w := by
      rw [exec_builtin hop]
      simp only [builtin, List.map_toArray, List.map_cons, List.map_nil]
      rw [hv]
      refine run_bind_ok (a := Value.tuple #[]) (w' := w) ?_
      unfold Builtin.clear_
      simp only [List.getElem?_toArray, List.getElem?_cons_zero]
      rw [run_bind_ok (run_underlying hT w)]
      cases ad <;> rfl
    unfold Oper.wp
    rw [hrun, Oper.upon_value, hdst0, hds]
    exact Rel.noop (t := t) (e := .row z xs) ⟨h0, β, bs, hr⟩ (hn.2.1 _ hh') (by rw [hc]) (by rw [hc]; simp)
  · rcases h3 with h3 | ⟨hnil, had, hroom⟩
    · exact absurd h3 hn0
    obtain ⟨b1, b2, hp, ⟨hLz, hzz, hrow⟩, hrest⟩ := HRep.take hr.hp hr.keys (hn.2.1 _ hh')
    rcases hrow with ⟨hnil', _⟩ | ⟨_, ws, hO, hE⟩
    · rw [hnil] at hnil'; cases hnil'
    have hws := hE.length hzz
    have hcl : (madeCells zv.cells (n * zv.cells.size)).toList.length = n * z := by rw [Array.length_toList, size_madeCells, hzs]
    have hEn : ∀ N w', RepEs β N w' (List.replicate n e) (madeCells zv.cells (n * zv.cells.size)).toList [] := fun N w' => repEs_made he n
    have h1c : ∀ x ∈ (madeCells zv.cells (n * zv.cells.size)).toList, Value.oneCell x = true := by
      intro x hx
      simp only [madeCells, Array.toList_map, List.mem_map] at hx
      obtain ⟨i, hi, rfl⟩ := hx
      have hi' : i < n * zv.cells.size := by simpa using hi
      have hpos : 0 < zv.cells.size := by
        rcases Nat.eq_zero_or_pos zv.cells.size with h | h
        · rw [h] at hi'; simp at hi'
        · exact h
      rw [getElem!_pos zv.cells _ (Nat.mod_lt _ hpos)]
      exact List.all_eq_true.1 hone _ (by simp)
    have hrun : (execOp a.eval o).run Γ.P w = .ok (.value (.tuple #[])) (putCells w (β t).b ((β t).o + l * z) (madeCells zv.cells (n * zv.cells.size)).toList) := by
      rw [exec_builtin hop]
      simp only [builtin, List.map_toArray, List.map_cons, List.map_nil]
      rw [hv, had]
      refine run_bind_ok (a := Value.tuple #[]) (w' := putCells w (β t).b ((β t).o + l * z) (madeCells zv.cells (n * zv.cells.size)).toList) ?_
      unfold Builtin.clear_
      simp only [List.getElem?_toArray, List.getElem?_cons_zero]
      rw [run_bind_ok (run_underlying hT w)]
      obtain ⟨m, rfl⟩ : ∃ m, n = m + 1 := ⟨n - 1, by omega⟩
      simp only
      obtain ⟨arr, e', lo, hi, g1, g2, g3, g4⟩ := hO
      have hle : (β t).o + ws.length ≤ arr.size := by
        rcases Nat.eq_zero_or_pos ws.length with e0 | e0
        · have : (l + (m + 1)) * z ≤ ws.length := by rw [hws]; exact Nat.mul_le_mul_right _ hl
          have g5 : (β t).o + (β t).r ≤ arr.size := g3
          omega
        · have := g4 (ws.length - 1) (by omega)
          have := (Array.getElem?_eq_some_iff.1 this).1
          omega
      have hmz : (l + (m + 1)) * z ≤ ws.length := by rw [hws]; exact Nat.mul_le_mul_right _ hl
      have hst := run_storeCells (P := Γ.P) (off := (β t).o + l * z) (madeCells zv.cells ((m + 1) * zv.cells.size)).toList 0 w arr g1 g2 (by rw [hcl]; rw [Nat.add_mul] at hmz; omega) h1c
      rw [run_bind_ok (pureSem_run _ _ w hzv), zeroCells_made, hLz]
      refine (run_bind_ok (a := ()) (w' := putCells w (β t).b ((β t).o + l * z) (madeCells zv.cells ((m + 1) * zv.cells.size)).toList) ?_).trans rfl
      simpa using hst
    unfold Oper.wp
    rw [hrun, Oper.upon_value]
    refine Rel.over (l := l) (ys := List.replicate n e) h0 hr hdst (by rw [hc]) (by rw [hc]; simp) (hn.2.1 _ hh') hnil (by simpa using hl) (fun y hy => by rw [List.eq_of_mem_replicate hy]; exact hel) hEn (fun d hd => ?_)
    rw [hc] at hd
    cases hd

end
end Go.Im

set_option linter.unusedVariables false
namespace Go.Im
open Go

def ovr {α : Type} (xs : List α) (i : Nat) (ys : List α) : List α := xs.take i ++ ys ++ xs.drop (i + ys.length)

theorem lsub_facts {α : Type} {xs r : List α} {l h : Int} (hh : lsub xs l h = some r) : 0 ≤ l ∧ l ≤ h ∧ h ≤ xs.length ∧ r = (xs.drop l.toNat).take (h.toNat - l.toNat) ∧ r.length = h.toNat - l.toNat := by
  unfold lsub at hh
  split at hh
  · rename_i q
    cases hh
    exact ⟨q.1, q.2.1, q.2.2, rfl, by simp; omega⟩
  · cases hh

def clrw {α : Type} (xs : List α) (l : Int) (n : Nat) (a : α) : Option (List α) := if 0 ≤ l ∧ l.toNat + n ≤ xs.length then some (ovr xs l.toNat (List.replicate n a)) else none
theorem clrw_len {α : Type} {xs ys : List α} {l : Int} {n : Nat} {a : α} (h : clrw xs l n a = some ys) : xs.length = ys.length := by
  unfold clrw at h
  split at h
  · cases h
    simp [ovr]
    omega
  · cases h

section
variable {Γ : Ctx}

theorem x_slr {α : Type} {xs r : List α} {l hi : Int} (T el z t : Nat) (enc : α → List D) (x : Operand) (lo ho : Option Operand) (h : lsub xs l hi = some r) (hx : OkO x (.rf t 0 xs.length none) := by trivial) (hl : OkB lo (0 : Nat) l := by first | trivial | rfl) (hh : OkB ho xs.length hi := by first | trivial | rfl)
    (hT : (pureSem Γ.P (underlying T), szOf Γ.P el) = (some (.slice el), some z) := by kernel_rfl) :
    OpV Γ (.slice T x lo ho none) { tn := tnO x (.rf t 0 xs.length none) ++ (tnB lo l ++ tnB ho hi), hn := [(t, rE z enc xs)], out := some (.sub t l.toNat r.length) } := by
  simp only [Prod.mk.injEq] at hT
  obtain ⟨h1, h2, h3, h4, h5⟩ := lsub_facts h
  intro ops o hop hg
  rw [h5]
  exact v_slice_sub (n := xs.length) (xs := xs.map enc) (z := z) hg hop rfl (hx.f (fun y hy => List.mem_append_left _ hy)) hT.1 hT.2 ((hl.f (fun y hy => List.mem_append_right _ (List.mem_append_left _ hy))).f h1)
    ((hh.f (fun y hy => List.mem_append_right _ (List.mem_append_right _ hy))).f (by omega)) (by omega) (by omega) (.head _)

theorem x_cut {α : Type} {xs r : List α} {l hi : Int} (T el z t t' : Nat) (enc : α → List D) (x : Operand) (lo ho : Option Operand) (h : lsub xs l hi = some r) (hx : OkO x (.rf t 0 xs.length none) := by trivial) (hl : OkB lo (0 : Nat) l := by first | trivial | rfl) (hh : OkB ho xs.length hi := by first | trivial | rfl)
    (hT : (pureSem Γ.P (underlying T), szOf Γ.P el, Nat.ble Γ.m t') = (some (.slice el), some z, true) := by kernel_rfl) :
    OpV Γ (.slice T x lo ho none) { tn := tnO x (.rf t 0 xs.length none) ++ (tnB lo l ++ tnB ho hi), hn := [(t, rE z enc xs)], out := some (.rf t' 0 r.length none), hx := [t], hw := [(t', rE z enc r)], fr := [t'] } := by
  simp only [Prod.mk.injEq] at hT
  obtain ⟨h1, h2, h3, h4, h5⟩ := lsub_facts h
  intro ops o hop hg
  have e : rE z enc r = .row z (((xs.map enc).drop l.toNat).take (hi.toNat - l.toNat)) := by
    rw [h4, rE, List.map_take, List.map_drop]
  rw [e, h5]
  exact v_cut (n := xs.length) (xs := xs.map enc) (z := z) hg hop rfl (Nat.le_of_ble_eq_true hT.2.2) (hx.f (fun y hy => List.mem_append_left _ hy)) hT.1 hT.2.1 ((hl.f (fun y hy => List.mem_append_right _ (List.mem_append_left _ hy))).f h1)
    ((hh.f (fun y hy => List.mem_append_right _ (List.mem_append_right _ hy))).f (by omega)) (by omega) (by omega) (by simp) (.head _)

theorem x_clr {α : Type} {xs ys : List α} {l : Int} {n : Nat} {a : α} (T el z t : Nat) (enc : α → List D) (x : Operand) (h : clrw xs l n a = some ys) (he : Emb [] ((zvOf Γ.P el).cells.toList.map D.sc) (enc a) []) (hx : OkO x (.sub t l.toNat n) := by trivial)
    (hT : (Γ.P.underlying T, pureSem Γ.P (zeroValue el), (zvOf Γ.P el).cells.size, (zvOf Γ.P el).cells.toList.all Value.oneCell, (enc a).length) = (some (.slice el), some (zvOf Γ.P el), z, true, z) := by kernel_rfl) :
    OpVd Γ (.call { callee := .builtin .clear, args := #[x], argTypes := #[T] }) { tn := tnO x (.sub t l.toNat n), hn := [(t, rE z enc xs)], hx := [t], hw := [(t, rE z enc ys)] } := by
  simp only [Prod.mk.injEq] at hT
  obtain ⟨h1, h2, h3, h4, h5⟩ := hT
  unfold clrw at h
  split at h
  · rename_i q
    cases h
    intro ops o hop hg hds
    have e : rE z enc (ovr xs l.toNat (List.replicate n a)) = .row z ((xs.map enc).take l.toNat ++ List.replicate n (enc a) ++ (xs.map enc).drop (l.toNat + n)) := by
      simp [rE, ovr, List.map_take, List.map_drop]
    rw [e]
    exact v_clear_sub (n := n) (xs := xs.map enc) hg hds hop rfl (hx.f (fun y hy => hy)) h1 h2 h3 h4 he h5 (by simp; omega) (.head _)
  · cases h
end
end Go.Im

set_option linter.unusedVariables false
namespace Go.Im
open Go

/-! ### Are two structs the same -/
def mkV (P : Program) (t : TypeId) (xs : List Value) : Option Value := match aggOf P t with
  | some true => some (.agg xs.toArray)
  | some false => xs.head?
  | none => none

def eqFs (P : Program) (g : TypeId → List Value → List Value → Option Bool) (xs ys : List Value) : List Field → Option Bool
  | [] => some true
  | f :: fs => if f.name = "_" then none else match szOf P f.type with
    | some z => match g f.type ((xs.drop f.offset).take z) ((ys.drop f.offset).take z), eqFs P g xs ys fs with
      | some a, some r => some (a && r)
      | _, _ => none
    | none => none

def eqT (P : Program) : Nat → TypeId → List Value → List Value → Option Bool
  | 0, _, _, _ => none
  | d + 1, t, xs, ys => match P.underlying t with
    | some (.struct fs) => if P.stoodInHeld t = false ∧ aggOf P t = some true then eqFs P (eqT P d) xs ys fs.toList else none
      | some (.int _) => match aggOf P t, xs, ys with
      | some false, .int k1 a :: _, .int k2 b :: _ => if k1 = k2 then some (a == b) else none
      | _, _, _ => none
    | some .bool => match aggOf P t, xs, ys with
      | some false, .bool a :: _, .bool b :: _ => some (a == b)
      | _, _, _ => none
    | some .string => match aggOf P t, xs, ys with
      | some false, .string a :: _, .string b :: _ => some (a.toList == b.toList)
      | _, _, _ => none
    | _ => none

theorem run_part {P : Program} {w : World} {t : TypeId} {cs : List Value} {off z : Nat} {v : Value} (hz : szOf P t = some z) (hz0 : aggOf P t = some false → 0 < z) (h : mkV P t ((cs.drop off).take z) = some v) : (part t cs.toArray off).run P w = .ok v w := by
  unfold mkV at h
  unfold part
  split at h
  · rename_i ha
    cases h
    rw [run_bind_ok (pureSem_run _ _ w ha)]
    simp only [if_true]
    rw [run_bind_ok (pureSem_run _ _ w hz)]
    have : (cs.toArray.extract off (off + z)) = ((cs.drop off).take z).toArray := by
      apply Array.ext'
      simp [List.take_drop]
    rw [this]
    rfl
  · rename_i ha
    rw [run_bind_ok (pureSem_run _ _ w ha)]
    simp only [Bool.false_eq_true, if_false]
    have : cs.toArray[off]? = some v := by
      rw [List.head?_take, if_neg (by have := hz0 ha; omega), List.head?_drop] at h
      simpa using h
    rw [this]
    rfl
  · cases h

theorem eqT_run {P : Program} : ∀ (d k : Nat) (t : TypeId) (xs ys : List Value) (vx vy : Value) (r : Bool) (w : World), eqT P d t xs ys = some r → mkV P t xs = some vx → mkV P t ys = some vy → (Op.equalIn (d + k) t vx vy).run P w = .ok r w
  | 0, k, t, xs, ys, vx, vy, r, w, h, _, _ => by simp [eqT] at h
  | d + 1, k, t, xs, ys, vx, vy, r, w, h, hx, hy => by
    rw [show d + 1 + k = (d + k) + 1 by omega]
    unfold eqT at h
    unfold mkV at hx hy
    split at h
    · rename_i fs hfs
      split at h
      · rename_i hc
        rw [hc.2] at hx hy
        cases hx
        cases hy
        have hff : P.fieldsOf t = fs := by unfold Program.fieldsOf; rw [hfs]
        rw [run_equalIn_struct w (d + k) t _ _ (by rw [hff]; exact hfs) hc.1, hff]
        have key : ∀ (l : List Field) (r : Bool), eqFs P (eqT P d) xs ys l = some r → (Op.eqFields (d + k) xs.toArray ys.toArray l).run P w = .ok r w := by
          intro l
          induction l with
          | nil => intro r h; cases h; rfl
          | cons f l ih =>
            intro r h
            unfold eqFs at h
            split at h
            · cases h
            · rename_i hnm
              split at h
              · rename_i z hz
                split at h
                · rename_i a q ha hq
                  cases h
                  have hmk : ∀ (cs : List Value), (∃ a l', (cs.drop f.offset).take z = a :: l') ∨ aggOf P f.type = some true → aggOf P f.type ≠ none → ∃ v, mkV P f.type ((cs.drop f.offset).take z) = some v ∧ (part f.type cs.toArray f.offset).run P w = .ok v w := by
                    intro cs hcs hne
                    have : ∃ v, mkV P f.type ((cs.drop f.offset).take z) = some v := by
                      unfold mkV
                      rcases hcs with ⟨a, l', e⟩ | e
                      · cases hag : aggOf P f.type with
                        | none => exact absurd hag hne
                        | some b => cases b <;> simp [e]
                      · rw [e]; exact ⟨_, rfl⟩
                    obtain ⟨v, hv⟩ := this
                    refine ⟨v, hv, run_part hz (fun hf => ?_) hv⟩
                    rcases Nat.eq_zero_or_pos z with e | e
                    · subst e
                      unfold mkV at hv
                      rw [hf] at hv
                      simp at hv
                    · exact e
                  have hsh : aggOf P f.type ≠ none ∧ ((∃ a l', (xs.drop f.offset).take z = a :: l') ∨ aggOf P f.type = some true) ∧ ((∃ a l', (ys.drop f.offset).take z = a :: l') ∨ aggOf P f.type = some true) := by
                    cases d with
                    | zero => simp [eqT] at ha
                    | succ d =>
                      unfold eqT at ha
                      split at ha
                      · split at ha
                        · rename_i hc'
                          exact ⟨by rw [hc'.2]; simp, .inr hc'.2, .inr hc'.2⟩
                        · cases ha
                      all_goals first
                        | (split at ha
                           · rename_i g1 g2 g3
                             exact ⟨by rw [g1]; simp, .inl ⟨_, _, g2⟩, .inl ⟨_, _, g3⟩⟩
                           · cases ha)
                        | cases ha
                  obtain ⟨va, m1, p1⟩ := hmk xs hsh.2.1 hsh.1
                  obtain ⟨vb, m2, p2⟩ := hmk ys hsh.2.2 hsh.1
                  have he := eqT_run d k f.type _ _ va vb a w ha m1 m2
                  unfold Op.eqFields
                  rw [if_pos (by simpa using hnm), run_bind_ok p1, run_bind_ok p2, run_bind_ok he]
                  cases a
                  · rfl
                  · simp only [Bool.not_true, Bool.false_eq_true, if_false, Bool.true_and]
                    exact ih q hq
                · cases h
              · cases h
        exact key _ _ h
      · cases h
    · rename_i kk hu
      split at h
      · rename_i hag
        rw [hag] at hx hy
        cases hx
        cases hy
        split at h
        · rename_i e
          subst e
          cases h
          exact run_equalIn_int w (d + k) t _ _ _ _ hu
        · cases h
      · cases h
    · rename_i hu
      split at h
      · rename_i hag
        rw [hag] at hx hy
        cases hx
        cases hy
        cases h
        exact run_equalIn_bool' w (d + k) t _ _ hu
      · cases h
    · rename_i hu
      split at h
      · rename_i hag
        rw [hag] at hx hy
        cases hx
        cases hy
        cases h
        exact run_equalIn_string w (d + k) t _ _ hu
      · cases h
    · cases h

section
variable {Γ : Ctx} {ops : Array Oper} {o : Oper}

theorem repCs_vals {β : Nat → Loc} {N : Nat → Prop} {w : World} {top : Bool} : ∀ {us ws : List Value} {bs : List Nat}, RepCs β N w top (us.map D.sc) ws bs → ws = us
  | [], ws, bs, h => by simp only [List.map_nil, RepCs] at h; exact h.1
  | u :: us, ws, bs, h => by
    simp only [List.map_cons, RepCs, Rep] at h
    obtain ⟨v, vs, b1, b2, rfl, _, h3, h4⟩ := h
    rw [h3.1, repCs_vals h4]

theorem run_eqGuard {P : Program} {w : World} {b : BinOp} {T : TypeId} {x y : Operand} {xs ys : Array Value} (h : P.eqGuardType P.depth T = false) : (eqGuard b T x y (.agg xs) (.agg ys)).run P w = .ok () w := by
  have key : (do
      let __do_lift ← program
      let __do_lift_1 ← program
      if (!__do_lift.eqGuardType __do_lift_1.depth T) = true then pure ()
      else do
        let __do_lift ← Op.eqGuardIn Op.maxDepth T (Value.agg xs) (Value.agg ys)
        if __do_lift = true then unsupported (.noEntry "binop/eql: two nil values of an interface type with methods, in a part of a struct or an array") else pure () : Sem Unit).run P w = .ok () w := by
    rw [run_bind_ok (a := P) (w' := w) rfl]
    rw [run_bind_ok (a := P) (w' := w) rfl]
    rw [h]
    rfl
  unfold eqGuard
  split
  · exact key
  · exact key
  · rfl

theorem v_steq {c : Cert} {b : BinOp} {x y : Operand} {T U : TypeId} {us vs : List Value} {d : Nat} {r q : Bool} (hg : o.guard = none) (hop : o.op = .binOp b T x y U) (hb : (b = .eql ∧ q = r) ∨ (b = .neq ∧ q = !r)) (hc : c = { tn := c.tn, out := some (.sc (.bool q)) })
    (hx : OpF c x (.ag (us.map D.sc))) (hy : OpF c y (.ag (vs.map D.sc))) (hagg : aggOf Γ.P T = some true) (hgt : Γ.P.eqGuardType Γ.P.depth T = false) (hd : d ≤ 10000) (he : eqT Γ.P d T us vs = some r) : Valid Γ ops o c := by
  refine valid_val (d := .sc (.bool q)) (f := fun ρ => do eqGuard b T x y (ρ x) (ρ y); binOp b T (ρ x) (ρ y)) hg (fun ρ => by simp [execOp, hop]) (by rw [hc]) fun β bs σ a w hn hr => ?_
  have h1 := OpF.rep hx hn hr
  have h2 := OpF.rep hy hn hr
  simp only [Rep] at h1 h2
  obtain ⟨_, w1, e1, _, r1⟩ := h1
  obtain ⟨_, w2, e2, _, r2⟩ := h2
  rw [repCs_vals r1] at e1
  rw [repCs_vals r2] at e2
  refine ⟨.bool q, ?_, by simp [Rep]⟩
  rw [e1, e2]
  rw [run_bind_ok (run_eqGuard hgt)]
  have hrun := eqT_run d (10000 - d) T us vs (.agg us.toArray) (.agg vs.toArray) r w he (by unfold mkV; rw [hagg]) (by unfold mkV; rw [hagg])
  rw [show d + (10000 - d) = 10000 by omega] at hrun
  rcases hb with ⟨rfl, rfl⟩ | ⟨rfl, rfl⟩
  · rw [run_eql_struct, hrun]; rfl
  · rw [run_neq_struct, hrun]; rfl

theorem x_seq {b : BinOp} {q r : Bool} (T U : Nat) (x y : Operand) (us vs : List Value) (hb : (b = .eql ∧ q = r) ∨ (b = .neq ∧ q = !r)) (hx : OkO x (.ag (us.map D.sc)) := by trivial) (hy : OkO y (.ag (vs.map D.sc)) := by trivial)
    (hT : (aggOf Γ.P T, Γ.P.eqGuardType Γ.P.depth T, eqT Γ.P 4 T us vs) = (some true, false, some r) := by kernel_rfl) :
    OpV Γ (.binOp b T x y U) { tn := tnO x (.ag (us.map D.sc)) ++ tnO y (.ag (vs.map D.sc)), out := some (.sc (.bool q)) } := by
  simp only [Prod.mk.injEq] at hT
  obtain ⟨h1, h2, h3⟩ := hT
  intro ops o hop hg
  exact v_steq hg hop hb rfl (hx.f (fun y hy => List.mem_append_left _ hy)) (hy.f (fun y hy => List.mem_append_right _ hy)) h1 h2 (by decide) h3
end
end Go.Im

set_option linter.unusedVariables false
namespace Go.Im
open Go

section
variable {Γ : Ctx} {ops : Array Oper} {o : Oper}
theorem v_mkfb {c : Cert} {f : FuncId} {caps : Array Operand} {ds : List D} (hg : o.guard = none) (hop : o.op = .makeFunc (.func f) caps #[]) (hc : c = { tn := c.tn, out := some (.fb f ds) })
    (hl : ds.length = caps.size) (hds : ∀ (k : Nat) (d : D), ds[k]? = some d → ∃ x, caps[k]? = some x ∧ OpF c x d) : Valid Γ ops o c := by
  refine valid_val (d := .fb f ds) (f := fun ρ => Instr.makeFunc (.func f) (caps.map ρ) #[]) hg (fun ρ => by simp [execOp, hop]) (by rw [hc]) fun β bs σ a w hn hr => ?_
  refine ⟨_, rfl, ?_⟩
  simp only [Rep]
  refine ⟨trivial, trivial, (caps.map a.eval).toList, by rw [Array.toArray_toList], ?_⟩
  have key : ∀ (ds : List D) (xs : List Operand), ds.length = xs.length → (∀ (k : Nat) (d : D), ds[k]? = some d → ∃ x, xs[k]? = some x ∧ OpF c x d) → RepCs β (NS Γ w bs) w true ds (xs.map a.eval) [] := by
    intro ds
    induction ds with
    | nil => intro xs h _; rw [List.length_eq_zero_iff.1 h.symm]; simp [RepCs]
    | cons d ds ih =>
      intro xs h hk
      cases xs with
      | nil => simp at h
      | cons x xs =>
        obtain ⟨x', g1, g2⟩ := hk 0 d rfl
        simp at g1
        subst g1
        simp only [List.map_cons, RepCs]
        exact ⟨_, _, [], [], rfl, rfl, OpF.rep g2 hn hr, ih xs (by simpa using h) (fun k d hd => hk (k + 1) d (by simpa using hd))⟩
  have := key ds caps.toList (by simpa using hl) (fun k d hd => by
    obtain ⟨x, g1, g2⟩ := hds k d hd
    exact ⟨x, by rw [Array.getElem?_toList]; exact g1, g2⟩)
  simpa using this


theorem v_callb {c : Cert} {f : FuncId} {x0 : Operand} {args : Array Operand} {tys : Array TypeId} {as ds caps : List D} {ids : List Nat} {bor : Bool} {hin hout : List Ent} {R : Option (D × List Ent)} {res d : D}
    {news : List (Nat × Ent)} (hg : o.guard = none) (hop : o.op = .call { callee := .value x0, args := args, argTypes := tys }) (hx0 : OpF c x0 (.fb f caps)) (hcf : ∀ xs, pureSem Γ.P (callFunc f xs) = some (.enter f xs))
    (hal : as.length = args.size) (hargs : ∀ (k : Nat) (d : D), as[k]? = some d → ∃ x, args[k]? = some x ∧ OpF c x d)
    (ham : AmL c.hn ids bor (caps ++ as) ds) (hids : ids.Nodup) (hinl : hin.length = ids.length) (hhin : ∀ x ∈ ids.zip hin, x ∈ c.hn) (hmen : ∀ e ∈ hin ++ hout, e.men = [])
    (hok : Ok Γ.P f ds hin R) (hR : R = some (res, hout)) (hol : hout.length ≤ hin.length) (hnm : Nm res d news) (hnews : (news.map (·.1)).Nodup)
    (hc : c = { tn := c.tn, hn := c.hn, out := some d, hx := ids, hw := ids.zip hout ++ news, fr := news.map (·.1) }) (hmm : ∀ x ∈ news, Γ.m ≤ x.1)
    (hbor : bor = true → ids = [] ∧ res.flat) : Valid Γ ops o c := by
  intro σ a w Q hdst hn ⟨h0, β, bs, hr⟩
  have hwt : Region.wanted o (yielded ops a.tmps) = true := by simp [Region.wanted, hg]
  rw [if_pos hwt]
  have hvs : RepCs β (NS Γ w bs) w true as (args.toList.map a.eval) [] := repCs_args (c := c) (by simpa using hal) (fun k d hk => by
    obtain ⟨x, h1, h2⟩ := hargs k d hk
    exact ⟨x, by rw [Array.getElem?_toList]; exact h1, OpF.rep h2 hn hr⟩)
  have h1 := OpF.rep hx0 hn hr
  simp only [Rep] at h1
  obtain ⟨_, _, ws, hfv, hcaps⟩ := h1
  have hex : (execOp a.eval o).run Γ.P w = .ok (.enter f (ws.toArray ++ args.map a.eval)) w := by
    have e : execOp a.eval o = (do let d ← Deferred.ofValue (a.eval x0) (args.map a.eval); invoke d.target d.args) := by
      simp only [execOp, hop, resolve]
    rw [e, hfv]
    show (callFunc f ((ws.toArray ++ args.map a.eval) ++ #[])).run Γ.P w = _
    rw [Array.append_empty]
    exact pureSem_run _ _ w (hcf _)
  unfold Oper.wp
  rw [hex, Oper.upon_enter]
  have := call_core (f := f) (dst := o.dst) h0 hr hdst hn (hcaps.append hvs) ham hids hinl hhin hmen hok hR hol hnm hnews hc hmm hbor
  rw [show (ws ++ args.toList.map a.eval).toArray = ws.toArray ++ args.map a.eval by rw [← List.append_toArray, ← List.map_toArray, Array.toArray_toList]] at this
  refine this.mono fun e w' he => ?_
  obtain ⟨v, rfl, hrel⟩ := he
  exact hrel


theorem x_mkb (f : FuncId) (xs : List Operand) (ds : List D) (hC : (ds.length, xs.all notG, List.zipWith opdD xs ds) = (xs.length, true, ds) := by kernel_rfl) :
    OpV Γ (.makeFunc (.func f) xs.toArray #[]) { tn := tnL xs ds, out := some (.fb f ds) } := by
  simp only [Prod.mk.injEq] at hC
  intro ops o hop hg
  exact v_mkfb hg hop rfl (by simpa using hC.1) (fun k d hk => by
    obtain ⟨x, q1, q2⟩ := tnL_f (c := { tn := tnL xs ds, out := some (.fb f ds) }) hC.1 hC.2.1 hC.2.2 (fun y hy => hy) k d hk
    exact ⟨x, by simpa using q1, q2⟩)

theorem x_c0b {f : FuncId} {as caps : List D} {R : Type} {e : Option R} {g : R → D × List Ent} {r : R} (t0 : Nat) (xs : List Operand) (tys : List Nat) (hok : Ok Γ.P f (caps ++ as) [] (e.map g)) (h : e = some r) (hcf : ∀ vs, pureSem Γ.P (callFunc f vs) = some (.enter f vs) := by intro _; kernel_rfl)
    (hC : (as.length, xs.all notG, List.zipWith opdD xs as, D.men.menL (caps ++ as), (g r).1.nm, (g r).2) = (xs.length, true, as, [], true, []) := by kernel_rfl) :
    OpV Γ (.call { callee := .value (.tmp t0), args := xs.toArray, argTypes := tys.toArray }) { tn := (t0, .fb f caps) :: tnL xs as, out := some (g r).1 } := by
  simp only [Prod.mk.injEq] at hC
  obtain ⟨h1, h2, h3, h4, h5, h7⟩ := hC
  intro ops o hop hg
  exact v_callb («as» := as) (caps := caps) (bor := false) (ids := []) (hin := []) (hout := []) (news := []) hg hop (show (t0, D.fb f caps) ∈ (t0, D.fb f caps) :: tnL xs as from .head _) hcf (by simpa using h1) (fun k d hk => by
    obtain ⟨x, q1, q2⟩ := tnL_f (c := { tn := (t0, .fb f caps) :: tnL xs as, out := some (g r).1 }) h1 h2 h3 (fun y hy => List.mem_cons_of_mem _ hy) k d hk
    exact ⟨x, by simpa using q1, q2⟩) (AmL.all_same h4) (by simp) rfl (by simp) (by simp) hok (by rw [h, Option.map_some, ← h7]) (by simp) (nm_spec h5) (by simp) rfl (by simp) (by simp)

end
end Go.Im

set_option linter.unusedVariables false
namespace Go.Im
open Go

/-! ### Sorting in place -/
theorem own_cells {w : World} {b off r : Nat} {ws : List Value} (h : Own w b off r ws) (hr : ws.length ≤ r) : ∀ j (hj : j < ws.length), w.cell? ⟨b, off + j, none⟩ = some ws[j] ∧ w.frozen? ⟨b, off + j, none⟩ = false := by
  obtain ⟨arr, e, lo, hi, h1, h2, h3, h4⟩ := h
  intro j hj
  unfold World.cell? World.frozen?
  simp only [h1]
  refine ⟨by simpa using h4 j hj, ?_⟩
  have := h2 (off + j) (by omega)
  simp only [Bool.and_eq_false_iff, decide_eq_false_iff_not]
  omega

theorem repEs_scs {α : Type} {enc : α → Value} {β : Nat → Loc} {N : Nat → Prop} {w : World} : ∀ {xs : List α} {ws : List Value} {bs : List Nat}, RepEs β N w (xs.map (fun a => [D.sc (enc a)])) ws bs → ws = xs.map enc ∧ bs = []
  | [], ws, bs, h => by simpa [RepEs] using h
  | x :: xs, ws, bs, h => by
    simp only [List.map_cons, RepEs, RepCs, Rep] at h
    obtain ⟨w1, w2, b1, b2, rfl, rfl, ⟨v, vs, c1, c2, rfl, rfl, h3, rfl, rfl⟩, h4⟩ := h
    obtain ⟨rfl, rfl⟩ := h3
    obtain ⟨rfl, rfl⟩ := repEs_scs h4
    exact ⟨rfl, rfl⟩

theorem repEs_scs' {α : Type} {enc : α → Value} {β : Nat → Loc} {N : Nat → Prop} {w : World} : ∀ (xs : List α), RepEs β N w (xs.map (fun a => [D.sc (enc a)])) (xs.map enc) []
  | [] => by simp [RepEs]
  | x :: xs => by
    simp only [List.map_cons, RepEs, RepCs, Rep]
    exact ⟨[enc x], xs.map enc, [], [], rfl, rfl, ⟨_, [], [], [], rfl, rfl, ⟨rfl, rfl⟩, rfl, rfl⟩, repEs_scs' xs⟩

theorem putRow_heap {α : Type} [Inhabited α] {enc : α → Value} {w : World} {blk off : Nat} {d : Array α} {arr : Array Value} {e : TypeId} {fz : Nat × Nat} (h : w.heap[blk]? = some (.cells arr e fz)) :
    (Sort.putRow enc w blk off d).heap[blk]? = some (.cells (Sort.putCells enc off d arr) e fz) ∧ (∀ b, b ≠ blk → (Sort.putRow enc w blk off d).heap[b]? = w.heap[b]?) ∧ (Sort.putRow enc w blk off d).heap.size = w.heap.size := by
  unfold Sort.putRow Sort.mapBlock
  refine ⟨?_, fun b hb => ?_, by simp⟩
  · simp only [Array.getElem?_modify, if_true, h]
    rfl
  · simp only [Array.getElem?_modify]
    rw [if_neg (fun e => hb e.symm)]

theorem Ok_sort {α : Type} [Inhabited α] {P : Program} {f : FuncId} {enc : α → Value} {xs ys : List α} (hl : ys.length = xs.length)
    (h : ∀ (blk off cap : Nat) (w : World), Sort.Holds enc w blk off xs.toArray → blk < w.heap.size → Calls P f #[.slice (some ⟨blk, off, none⟩) xs.length cap] w fun e w' => e = .returned (.tuple #[]) ∧ ∃ n os, w' = Sort.grow (Sort.putRow enc (Sort.ahead w n) blk off ys.toArray) os)
    (h0 : xs = [] → ∀ (p : Option Addr) (cap : Nat) (w : World), Calls P f #[.slice p 0 cap] w fun e w' => e = .returned (.tuple #[]) ∧ w' = w) :
    Ok P f [.rf 0 0 xs.length none] [.row 1 (xs.map (fun a => [D.sc (enc a)]))] (some (.tu [], [.row 1 (ys.map (fun a => [D.sc (enc a)]))])) := by
  intro out ho w N β vs bs ha hh hnd hlt hN _
  cases ho
  simp only [RepCs] at ha
  obtain ⟨v, vs', b1, b2, rfl, hb12, h1, rfl, rfl⟩ := ha
  have hb1 : b1 = [] := by simpa using hb12.symm
  subst hb1
  simp only [Rep] at h1
  obtain ⟨_, _, h1⟩ := h1
  obtain ⟨c1, c2, rfl, ⟨hLz, hzz, hrow⟩, hc2⟩ := hh
  have hc2' : c2 = [] := hc2
  subst hc2'
  simp only at hLz hzz hrow
  rcases hrow with ⟨hnil, hxs, hc1⟩ | ⟨hnil, ws, hO, hE⟩
  · -- nil
    have hxs' : xs = [] := by simpa using hxs
    subst hxs'
    subst hc1
    have hys : ys = [] := List.eq_nil_of_length_eq_zero hl
    subst hys
    have hv : v = .slice none 0 0 := by
      rcases h1 with ⟨_, _, _, h1⟩ | ⟨h1, _⟩
      · exact h1
      · rw [hnil] at h1; cases h1
    subst hv
    refine (h0 rfl none 0 w).mono ?_
    rintro e w' ⟨rfl, rfl⟩
    have hown : (β 0).own = [] := by simp [Loc.own, hnil]
    refine ⟨.tuple #[], [], [], rfl, ⟨rfl, rfl⟩, Nat.le_refl _, fun _ _ _ => rfl, by simp, by simp, ?_, ?_⟩
    · simp only [Rep, RepCs]
      exact ⟨trivial, [], rfl, rfl, trivial⟩
    · refine ⟨[], [], by simp [hown], ⟨hLz, by simp, .inl ⟨hnil, rfl, rfl⟩⟩, rfl⟩
  · have hown : (β 0).own = [(β 0).b] := by simp [Loc.own, hnil]
    rw [hown] at hlt hnd hN ⊢
    obtain ⟨rfl, rfl⟩ := repEs_scs hE
    obtain ⟨cp, hv, hcap, hroom⟩ : ∃ c', v = .slice (some ⟨(β 0).b, (β 0).o, none⟩) xs.length c' ∧ xs.length ≤ c' ∧ c' ≤ (β 0).r := by
      rcases h1 with ⟨h1, _⟩ | ⟨_, c', h3, h4, h5, _⟩
      · rw [hnil] at h1; cases h1
      · exact ⟨c', by simpa using h3, h4, by rw [hLz] at h5; simpa using h5⟩
    subst hv
    have hbl : (β 0).b < w.heap.size := hlt _ (by simp)
    have hcells := own_cells hO (by simpa using Nat.le_trans hcap hroom)
    have hH : Sort.Holds enc w (β 0).b (β 0).o xs.toArray := by
      intro j hj
      have hj' : j < xs.length := by simpa using hj
      obtain ⟨q1, q2⟩ := hcells j (by simpa using hj')
      refine ⟨?_, q2⟩
      rw [q1]
      simp [hj']
    refine (h _ _ cp w hH hbl).mono ?_
    rintro e w' ⟨rfl, n, os, rfl⟩
    obtain ⟨arr, el, lo, hi, g1, g2, g3, g4⟩ := hO
    obtain ⟨p1, p2, p3⟩ := putRow_heap (enc := enc) (w := Sort.ahead w n) (blk := (β 0).b) (off := (β 0).o) (d := ys.toArray) (fz := (lo, hi)) (e := el) (arr := arr) g1
    have hg : ∀ b, b < w.heap.size → (Sort.grow (Sort.putRow enc (Sort.ahead w n) (β 0).b (β 0).o ys.toArray) os).heap[b]? = (Sort.putRow enc (Sort.ahead w n) (β 0).b (β 0).o ys.toArray).heap[b]? := by
      intro b hb
      unfold Sort.grow
      simp only
      rw [Array.getElem?_append_left (by rw [p3]; exact hb)]
    have hsz : w.heap.size ≤ (Sort.grow (Sort.putRow enc (Sort.ahead w n) (β 0).b (β 0).o ys.toArray) os).heap.size := by
      unfold Sort.grow
      simp only [Array.size_append]
      rw [p3]
      exact Nat.le_add_right _ _
    refine ⟨.tuple #[], [], [(β 0).b], rfl, ⟨rfl, rfl⟩, hsz, ?_, by simp, ?_, ?_, ?_⟩
    · intro b hb hb2
      rw [hg b hb, p2 b (fun e => hb2 (by simp [e]))]
      rfl
    · intro b hb
      simp only [List.nil_append, List.mem_singleton] at hb
      subst hb
      exact ⟨Nat.lt_of_lt_of_le hbl hsz, .inl (by simp)⟩
    · simp only [Rep, RepCs]
      exact ⟨trivial, [], rfl, rfl, trivial⟩
    · refine ⟨[], [], by simp [hown], ⟨hLz, by simp, .inr ⟨hnil, ys.map enc, ?_, repEs_scs' ys⟩⟩, rfl⟩
      refine ⟨Sort.putCells enc (β 0).o ys.toArray arr, el, lo, hi, by rw [hg _ hbl]; exact p1, ?_, ?_, ?_⟩
      · unfold Sort.putCells
        rw [Array.size_mapIdx]
        exact g2
      · unfold Sort.putCells
        rw [Array.size_mapIdx]
        exact g3
      · intro k hk
        have hk' : k < ys.length := by simpa using hk
        unfold Sort.putCells
        have hka : (β 0).o + k < arr.size := by
          have : (β 0).o + (β 0).r ≤ arr.size := g3
          omega
        rw [Array.getElem?_mapIdx, Array.getElem?_eq_getElem hka]
        simp only [Option.map_some]
        rw [if_pos (by simp; omega)]
        simp [hk']
end Go.Im

set_option linter.unusedVariables false
namespace Go.Im
open Go

/-! ### Contracts that read a table -/
theorem tabIs_of {P : Program} {w : World} {name : String} {g : Nat} {k : IntKind} {zs : List Int} (hG : ∀ q ∈ gtab P, Tab w q.1 q.2) (hn : P.globalNamed name = some g) (hl : lk (gtab P) g = some (· = zs.map fun z => Value.int k z)) : Lib.TabIs P w name k zs := by
  obtain ⟨ws, e, fz, h, rfl⟩ := hG _ (lk_mem hl)
  unfold Lib.TabIs World.var?
  rw [hn]
  simp only [Option.bind_some]
  rw [h]

theorem Ok_scg {P : Program} {f : FuncId} {vs : List Value} {v : Value} (h : ∀ w, (∀ q ∈ gtab P, Tab w q.1 q.2) → Calls P f vs.toArray w fun e w' => e = .returned v ∧ w'.os = w.os ∧ w'.output = w.output ∧ w.heap.size ≤ w'.heap.size ∧ ∀ b, b < w.heap.size → w'.heap[b]? = w.heap[b]?) : Ok P f (vs.map D.sc) [] (some (.sc v, [])) := by
  intro out ho w N β us bs ha hh hnd hlt hN hG
  cases ho
  obtain ⟨rfl, _⟩ := repCs_sc0 ha
  refine (h w (fun q hq => (hG q hq).2)).mono ?_
  rintro e w' ⟨rfl, h1, h2, h3, h4⟩
  exact ⟨v, [], [], rfl, ⟨h1, h2⟩, h3, fun b hb _ => h4 b hb, by simp, by simp, by simp [Rep], rfl⟩

theorem Ok_grow {P : Program} {f : FuncId} {vs : List Value} {v : Value} (h : ∀ w, (∀ q ∈ gtab P, Tab w q.1 q.2) → Calls P f vs.toArray w fun e w' => e = .returned v ∧ ∃ k os, w' = Sort.grow (w.drewN k) os) : Ok P f (vs.map D.sc) [] (some (.sc v, [])) := by
  refine Ok_scg fun w hG => (h w hG).mono ?_
  rintro e w' ⟨rfl, k, os, rfl⟩
  refine ⟨rfl, rfl, rfl, ?_, fun b hb => ?_⟩
  · show w.heap.size ≤ (w.heap ++ os).size
    rw [Array.size_append]
    exact Nat.le_add_right _ _
  · show (w.heap ++ os)[b]? = w.heap[b]?
    rw [Array.getElem?_append_left hb]
end Go.Im

set_option linter.unusedVariables false
namespace Go.Im
open Go

theorem tab_of_tabIs {P : Program} {w : World} {name : String} {g : Nat} {k : IntKind} {zs : List Int} (h : Lib.TabIs P w name k zs) (hn : P.globalNamed name = some g) : g < w.heap.size ∧ Tab w g (· = zs.map fun z => Value.int k z) := by
  unfold Lib.TabIs World.var? at h
  rw [hn] at h
  simp only [Option.bind_some] at h
  split at h
  · rename_i cs e fz hh
    cases h
    exact ⟨(Array.getElem?_eq_some_iff.1 hh).1, _, e, fz, hh, rfl⟩
  · cases h

theorem tab_of_laid {P : Program} {w : World} {l : List (String × DataW Unit)} {name : String} {g n : Nat} {t e : TypeId} {k : IntKind} {zs : List Int} (h : laidMet P l w) (hl : l.filter (fun x => x.1 == name) = [(name, Lib.tabData k zs)])
    (hg : P.globalNamed name = some g) (hty : (P.globals[g]?).map (·.type) = some t) (ht : P.underlying t = some (.array n e)) (he : P.underlying e = some (.int k)) (hce : P.cellsOf e = 1) (hct : P.cellsOf t = n) : g < w.heap.size ∧ Tab w g (· = zs.map fun z => Value.int k z) := by
  have h2 := h.filter (fun x => x.1 == name)
  rw [hl] at h2
  exact tab_of_tabIs (Lib.tabIs_of_head hg hty ht he hce hct h2) hg
end Go.Im

set_option linter.unusedVariables false
namespace Go.Im
open Go

section
variable {Γ : Ctx} {fc : Code} {k : List II} {σ : St} {T : Type} {K : T → Option (D × List Ent)}

end
end Go.Im

set_option linter.unusedVariables false
namespace Go.Im
open Go

/-! ### Contracts of texts, as the shelf says them -/
theorem Ok_below {P : Program} {f : FuncId} {vs : List Value} {v : Value} (h : ∀ w, Calls P f vs.toArray w fun e w' => e = .returned v ∧ RowKit.Below w.heap.size w w') : Ok P f (vs.map D.sc) [] (some (.sc v, [])) := by
  refine Ok_scg fun w _ => (h w).mono ?_
  rintro e w' ⟨rfl, hb⟩
  exact ⟨rfl, hb.os, hb.output, hb.size, hb.block⟩

theorem Ok_split {P : Program} {f : FuncId} {s sep : ByteArray} {xs : List ByteArray} {t : TypeId} (h : ∀ w, (∀ q ∈ gtab P, Tab w q.1 q.2) → Calls P f #[.string s, .string sep] w fun e w' => e = .returned (.slice (some ⟨w.heap.size, 0, none⟩) xs.length xs.length) ∧ w' = w.alloc (.cells (xs.map Value.string).toArray t)) :
    Ok P f [sv s, sv sep] [] (some (so 1 eStr xs, [])) := by
  intro o ho w N β us bs ha hh hnd hlt hN hG
  cases ho
  obtain ⟨rfl, _⟩ := repCs_sc0 (vs := [.string s, .string sep]) ha
  refine (h w (fun q hq => (hG q hq).2)).mono ?_
  rintro e w' ⟨rfl, rfl⟩
  have hsz : (w.alloc (.cells (xs.map Value.string).toArray t)).heap.size = w.heap.size + 1 := Array.size_push _
  have hnew : (w.alloc (.cells (xs.map Value.string).toArray t)).heap[w.heap.size]? = some (.cells (xs.map Value.string).toArray t) := by
    show (w.heap.push _)[w.heap.size]? = _
    rw [Array.getElem?_push, if_pos rfl]
  refine ⟨_, [w.heap.size], [], rfl, ⟨rfl, rfl⟩, by rw [hsz]; exact Nat.le_succ _, fun b hb _ => ?_, by simp, ?_, ?_, rfl⟩
  · exact RowKit.Below.heap_alloc w _ b hb
  · intro b hb
    simp only [List.append_nil, List.mem_singleton] at hb
    subst hb
    exact ⟨by rw [hsz]; exact Nat.lt_succ_self _, .inr (Nat.le_refl _)⟩
  · unfold so
    simp only [Rep]
    refine ⟨by simp, by simp [eStr], _, _, rfl, Nat.le_refl _, .inr (.inr ⟨trivial, w.heap.size, 0, xs.map Value.string, [], rfl, rfl, ?_, ?_⟩)⟩
    · refine ⟨_, t, 0, 0, hnew, fun k _ => by omega, by simp, fun k hk => by simp⟩
    · exact repEs_scs' (enc := Value.string) xs

theorem maxLen_of {P : Program} {w : World} {g : Nat} (hG : ∀ q ∈ gtab P, Tab w q.1 q.2) (hl : lk (gtab P) g = some (fun ws => ∃ m, ws = [.int .i64 m])) : ∃ m, w.cell? ⟨g, 0, none⟩ = some (.int .i64 m) := by
  obtain ⟨ws, e, fz, h, m, rfl⟩ := hG _ (lk_mem hl)
  exact ⟨m, by rw [cell_of h]; rfl⟩
end Go.Im

set_option linter.unusedVariables false
namespace Go.Im
open Go Go.Proofs

theorem tab_of_shaped {P : Program} {w : World} {g : Nat} {t : TypeId} {zero : Array Value} (h : w.ShapedOpen P) (hg : g < P.globals.size)
    (h0 : ((begin P (fun _ _ => 0) default).world.heap[g]?).bind Obj.row? = some (zero, t)) (hz : zero.size = 1)
    (hb : P.buildable t = true) (hc : P.cellTypes P.depth t = some [t]) (hu : P.underlying t = some (.int .i64)) : g < w.heap.size ∧ Tab w g (fun ws => ∃ m, ws = [.int .i64 m]) := by
  obtain ⟨m, hm⟩ := cell_of_shapedOpen_int h hg h0 hz hb hc hu
  obtain ⟨cs, hh, hs, _⟩ := h.1 g zero t hg h0
  rw [cell_of hh] at hm
  refine ⟨(Array.getElem?_eq_some_iff.1 hh).1, cs.toList, t, _, by simpa using hh, m, ?_⟩
  obtain ⟨l⟩ := cs
  match l, hs, hm with
  | [], hs, _ => simp at hs; omega
  | [v], _, hm => simp at hm; rw [hm]
  | _ :: _ :: _, hs, _ => simp at hs; omega

section
variable {H : Type} {enc : TypeId × Value → H}
theorem returnsInHanded_shaped {a : Assume} {C : Checked} {os : Os} {f : FuncId} {fn : Func} {s : ChangeSpec} {conds : List PathCond} {apart fresh handsOn again : Bool} {X : World → Array Value → Prop}
    (hX : ∀ (w w' : World) (args : Array Value), w.heap = w'.heap → X w args → X w' args) (own : ownKnob C.prog.godebug = none) (started : os.Started) (noInit : C.prog.inits.idxOf? f = none) (hfn : C.prog.funcs[f]? = some fn)
    (witness : ∃ (w : World) (tape : Tape) (i : Input), w.os = os ∧ (w.forCall tape i).Shaped C.prog ∧ i.vars = [] ∧ Input.okWide C.prog (w.forCall tape i) .any w.heap.size f i ∧
      ((s.pre enc C.prog fn conds apart (w.forCall tape i).memory i.args ∧ X (w.forCall tape i).memory i.args) ∧ sizedMet enc C.prog fn (OpenSpec.ofChange s) apart (w.forCall tape i).memory i.args) ∧ a.holds C.prog (lone (Frame.enter C.prog f i.args .normal) [] (w.forCall tape i)))
    (contract : ∀ (W : World) (base : Nat) (args : Array Value) (ds gs : List (DataW H)) (before : List MemPlace), W.ShapedOpen C.prog →
      (∀ (j : Nat) t v, fn.params[j]? = some t → args[j]? = some v → Value.okWide C.prog W .any base t v) → DataW.Whole enc C.prog fn.params.toList s.vars apart W args.toList ds gs before →
      conds.all (PathCond.test C.prog ⟨fn.params.toList, ds, s.plain.varTypes C.prog, gs⟩) = true → (DataW.weightsEach C.prog (fn.params.toList ++ s.plain.varTypes C.prog) (ds ++ gs)).all (· ≤ reachBytes) = true → X W args →
      a.holds C.prog (lone (Frame.enter C.prog f args .normal) [] W) → Calls C.prog f args W fun e W' => ∃ v, e = .returned v ∧ s.post enc C.prog fn apart fresh handsOn again W args v W') :
    ReturnsInHanded a C os f .any (fun w args => (s.pre enc C.prog fn conds apart w args ∧ X w args) ∧ sizedMet enc C.prog fn (OpenSpec.ofChange s) apart w args) (s.post enc C.prog fn apart fresh handsOn again) := by
  refine returnsInHanded_of_calls own started noInit witness fun w tape i _ hsh _ hok hpre hholds => ?_
  obtain ⟨_, _, _, fn', hfn', _, _, _, _, hval⟩ := hok
  obtain rfl : fn' = fn := Option.some.inj (hfn'.symm.trans hfn)
  obtain ⟨⟨⟨ds, gs, before, hw, hc⟩, hx⟩, hz⟩ := hpre
  refine (contract (w.forCall tape i) w.heap.size i.args ds gs before hsh hval (DataW.Whole.of_heap (w' := w.forCall tape i) (by rfl) hw) hc (hz.weights hw) (hX _ _ _ (by rfl) hx) hholds).mono fun e W' ⟨v, he, hp⟩ => ?_
  subst he
  exact ChangeSpec.post_blind hp
end
end Go.Im

set_option linter.unusedVariables false
namespace Go.Im
open Go

/-! ### A variable that holds a function and is never written: its box is stable -/
section
variable {Γ : Ctx} {ops : Array Oper} {o : Oper}

theorem Rel.boxpb {σ : St} {a : Act} {w : World} {dst : Option Nat} {tn : List (Nat × D)} {t : Nat} {cs : List D} (hus : ∀ k, k ∈ menT σ.tm ∨ k ∈ menH σ.hp → k ∈ σ.us) (hcs : ∀ k ∈ D.men.menL cs, k ∈ σ.us) (hfree : ∀ d ∈ cs, d.free = true)
    (h : Rel Γ (σ.upd dst { tn := tn, out := some (.pt t 0 0), hw := [(t, .box cs)], fr := [t] }) a w) : Rel Γ (σ.upd dst { tn := tn, out := some (.pb cs) }) a w := by
  obtain ⟨_, β, bs, h⟩ := h
  obtain ⟨b1, b2, rfl, ⟨hnil, _, ws, hO, hone, hcr⟩, hrest⟩ := h.hp
  obtain rfl : b1 = [] := RepCs.frees hfree hcr
  have hown : (β t).own = [(β t).b] := by simp [Loc.own, hnil]
  have hnd := h.nodup
  rw [hown] at hnd
  simp only [List.nil_append, List.singleton_append, List.nodup_cons] at hnd
  have hsub : ∀ b ∈ b2, b ∈ (β t).own ++ ([] ++ b2) := fun b hb => by simp [hb]
  have hN : ∀ b, NS Γ w ((β t).own ++ ([] ++ b2)) b → NS Γ w b2 b := fun b hb => NS.sub hsub hb
  have hNt : NS Γ w b2 (β t).b := by
    have := h.own (β t).b (by rw [hown]; simp)
    refine ⟨?_, this.1, hnd.1⟩
    rcases this.2 with h1 | h1
    · exact .inr (.inl h1)
    · exact .inr (.inr h1)
  refine ⟨?_, β, b2, { defers := h.defers, size := h.size, keys := ?_, par := h.par, grow := h.grow, gh := h.gh, quiet := h.quiet, keep := h.keep, hp := ?_, nodup := hnd.2, own := fun b hb => h.own b (hsub b hb), tm := ?_ }⟩
  · intro k hk
    simp only [St.upd, Cert.men, menH, List.flatMap_nil, List.append_nil, List.nil_append, D.men] at hk ⊢
    rw [List.mem_append]
    have key : ∀ k, k ∈ menT (σ.tm.filter (fun x => dst != some x.1)) ∨ k ∈ menH (σ.hp.filter (fun x => !([] : List Nat).contains x.1)) → k ∈ σ.us := by
      rintro k (hk | hk)
      · obtain ⟨x, hx, hk⟩ := List.mem_flatMap.1 hk
        exact hus k (.inl (List.mem_flatMap.2 ⟨x, (List.mem_filter.1 hx).1, hk⟩))
      · obtain ⟨x, hx, hk⟩ := List.mem_flatMap.1 hk
        exact hus k (.inr (List.mem_flatMap.2 ⟨x, (List.mem_filter.1 hx).1, hk⟩))
    rcases hk with hk | hk
    · obtain ⟨x, hx, hk⟩ := List.mem_flatMap.1 hk
      rcases List.mem_append.1 hx with hx | hx
      · unfold Cert.outs at hx
        cases dst with
        | none => simp at hx
        | some q =>
          simp only [List.mem_singleton] at hx
          subst hx
          exact .inr (hcs k (by simpa [D.men] using hk))
      · exact .inr (key k (.inl (List.mem_flatMap.2 ⟨x, hx, hk⟩)))
    · exact .inr (key k (.inr hk))
  · have hk := h.keys
    simp only [St.upd, List.cons_append, List.nil_append, List.map_cons, List.nodup_cons] at hk ⊢
    exact hk.2
  · exact HRep.frame (fun b hb => ⟨hN b hb, rfl⟩) _ _ (fun _ _ => rfl) (fun _ _ => rfl) hrest
  · intro q d hd
    simp only [St.upd] at hd
    rcases List.mem_append.1 hd with hd | hd
    · unfold Cert.outs at hd
      cases dst with
      | none => simp at hd
      | some q' =>
        simp only [List.mem_singleton, Prod.mk.injEq] at hd
        obtain ⟨rfl, rfl⟩ := hd
        obtain ⟨v, h1, h2⟩ := h.tm q (.pt t 0 0) (by simp [St.upd, Cert.outs])
        refine ⟨v, h1, ?_⟩
        simp only [Rep] at h2 ⊢
        obtain ⟨_, _, _, rfl⟩ := h2
        refine ⟨trivial, trivial, (β t).b, (β t).o, ws, by simp, hNt, hO.has, hone, ?_⟩
        exact RepCs.frame (fun b hb => ⟨hN b hb, rfl⟩) cs true ws [] (by simp) (fun _ _ => rfl) hcr
    · obtain ⟨v, h1, h2⟩ := h.tm q d (by simp only [St.upd]; exact List.mem_append_right _ hd)
      exact ⟨v, h1, Rep.frame (fun b hb => ⟨hN b hb, rfl⟩) d true v [] (by simp) (fun _ _ => rfl) h2⟩

theorem le_foldl_max : ∀ (l : List Nat) (m : Nat), m ≤ l.foldl max m ∧ ∀ x ∈ l, x ≤ l.foldl max m
  | [], m => ⟨Nat.le_refl _, by simp⟩
  | y :: l, m => by
    obtain ⟨h1, h2⟩ := le_foldl_max l (max m y)
    refine ⟨Nat.le_trans (Nat.le_max_left _ _) h1, fun x hx => ?_⟩
    rcases List.mem_cons.1 hx with rfl | hx
    · exact Nat.le_trans (Nat.le_max_right _ _) h1
    · exact h2 x hx

theorem v_boxpb {c : Cert} {x : Operand} {T : TypeId} {d : D} (hg : o.guard = none) (hop : o.op = .box T x) (hc : c = { tn := c.tn, out := some (.pb (cellsD d)) }) (hx : OpF c x d) (hd : (cellsD d).all D.cell = true) : Valid Γ ops o c := by
  intro σ a w Q hdst hn hr
  obtain ⟨m1, m2⟩ := le_foldl_max σ.us Γ.m
  have hft : σ.us.foldl max Γ.m + 1 ∉ σ.us := fun h => by have := m2 _ h; omega
  have hn1 : Nd { tn := c.tn, out := some (.pt (σ.us.foldl max Γ.m + 1) 0 0), hw := [((σ.us.foldl max Γ.m + 1), .box (cellsD d))], fr := [σ.us.foldl max Γ.m + 1] } σ := ⟨hn.1, by simp, by simpa using hft⟩
  have hv := v_box (Γ := Γ) (ops := ops) (t := σ.us.foldl max Γ.m + 1) hg hop (c := { tn := c.tn, out := some (.pt (σ.us.foldl max Γ.m + 1) 0 0), hw := [((σ.us.foldl max Γ.m + 1), .box (cellsD d))], fr := [σ.us.foldl max Γ.m + 1] }) rfl (by omega) hx hd σ a w Q hdst hn1 hr
  have hwt : Region.wanted o (yielded ops a.tmps) = true := by simp [Region.wanted, hg]
  rw [if_pos hwt] at hv ⊢
  refine Oper.wp_mono (fun a' w' h' => ?_) hv
  rw [hc]
  exact Rel.boxpb hr.1 (fun k hk => fact_us (a := a) (w := w) hr.1 hn hx k (by rwa [men_cells] at hk)) (fun d' hd' => D.cell_free (List.all_eq_true.1 hd d' hd')) h'

theorem v_load_pb {c : Cert} {x : Operand} {T : TypeId} {cs : List D} {d : D} (hg : o.guard = none) (hop : o.op = .load T x) (hc : c = { tn := c.tn, out := some d }) (hx : OpF c x (.pb cs)) (hd : ofCells Γ.P T cs = some d) : Valid Γ ops o c := by
  rw [hc]
  refine valid_value hg rfl rfl fun β bs σ a w hn hr => ?_
  have h1 := OpF.rep (c := c) hx ⟨hn.1, by rw [hc]; simp, by rw [hc]; simp⟩ hr
  simp only [Rep] at h1
  obtain ⟨_, _, b, p, ws, h2, h3, h4, hone, h5⟩ := h1
  obtain ⟨v, h6, h7⟩ := run_loadVar hd h4 hone h5
  refine ⟨v, exec_v (s := Instr.loadAt T (a.eval x)) (by simp [execOp, hop]) ?_, fun d' hd => by cases hd; exact h7⟩
  rw [h2]
  exact h6

theorem x_boxpb (T : Nat) (x : Operand) (d : D) (hx : OkO x d := by first | trivial | rfl) (hd : (cellsD d).all D.cell = true := by kernel_rfl) : OpV Γ (.box T x) { tn := tnO x d, out := some (.pb (cellsD d)) } := by
  intro ops o hop hg
  exact v_boxpb hg hop rfl (hx.f (fun y hy => hy)) hd

theorem x_ldpb {d : D} (T : Nat) (x : Operand) (cs : List D) (hx : OkO x (.pb cs) := by trivial) (hd : ofCells Γ.P T cs = some d := by kernel_rfl) : OpV Γ (.load T x) { tn := tnO x (.pb cs), out := some d } := by
  intro ops o hop hg
  exact v_load_pb hg hop rfl (hx.f (fun y hy => hy)) hd
end
end Go.Im

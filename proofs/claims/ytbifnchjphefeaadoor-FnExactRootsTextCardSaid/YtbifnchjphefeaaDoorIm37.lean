import Derived.Test.YtbifnchjphefeaaDoorIm36
set_option linter.unusedVariables false
namespace Go.Im
open Go

section
variable {Γ : Ctx}

/-! ### Memory -/
theorem x_b2s {xs : List Int} (S Dd e : Nat) (x : Operand) (hx : OkO x (.s false 1 xs.length (xs.map eU8)) := by trivial) (hT : (Γ.P.underlying S, Γ.P.underlying e, Γ.P.underlying Dd) = (some (.slice e), some (.int .u8), some .string) := by kernel_rfl) :
    OpV Γ (.convert S Dd x) { tn := tnO x (.s false 1 xs.length (xs.map eU8)), out := some (.sc (.string (b2s xs))) } := by
  simp only [Prod.mk.injEq] at hT
  intro ops o hop hg
  exact o_b2s_s hg hop rfl (hx.f (fun y hy => hy)) hT.1 hT.2.1 hT.2.2

theorem x_b2sr {xs : List Int} (S Dd e t : Nat) (x : Operand) (hx : OkO x (.rf t 0 xs.length none) := by trivial) (hT : (Γ.P.underlying S, Γ.P.underlying e, Γ.P.underlying Dd) = (some (.slice e), some (.int .u8), some .string) := by kernel_rfl) :
    OpV Γ (.convert S Dd x) { tn := tnO x (.rf t 0 xs.length none), hn := [(t, rE 1 eU8 xs)], out := some (.sc (.string (b2s xs))) } := by
  simp only [Prod.mk.injEq] at hT
  intro ops o hop hg
  exact o_b2s_rf hg hop rfl (hx.f (fun y hy => hy)) (.head _) hT.1 hT.2.1 hT.2.2

def zvOf (P : Program) (el : TypeId) : Value := (pureSem P (zeroValue el)).getD default

def infoOf (P : Program) (el : TypeId) : Option (Option Value × Nat × Nat) := (P.info? el).map (fun i => (i.zero, i.size, i.bytes))

theorem x_ap {α : Type} {xs ys zs : List α} (T U el e' z bytes t td ts : Nat) (enc : α → List D) (x y : Operand) (h : app bytes xs ys = some zs) (hx : OkO x (.rf td 0 xs.length none) := by trivial) (hy : OkO y (.rf ts 0 ys.length none) := by trivial)
    (hone : ∀ a, (enc a).all okCell = true := by intro _; rfl) (hT : (Γ.P.underlying T, Γ.P.underlying U, infoOf Γ.P el, (zvOf Γ.P el).cells.size, Nat.ble Γ.m t, td == ts) = (some (.slice el), some (.slice e'), some (some (zvOf Γ.P el), z, bytes), z, true, false) := by kernel_rfl) :
    OpV Γ (.call { callee := .builtin .append, args := #[x, y], argTypes := #[T, U] }) { tn := tnO x (.rf td 0 xs.length none) ++ tnO y (.rf ts 0 ys.length none), hn := [(td, rE z enc xs), (ts, rE z enc ys)], out := some (.rf t 0 zs.length none), hx := [td, ts], hw := [(t, rE z enc zs)], fr := [t] } := by
  simp only [Prod.mk.injEq] at hT
  obtain ⟨h1, h2, h3, h4, h5, h6⟩ := hT
  intro ops o hop hg
  exact o_append (enc := enc) h (Nat.le_of_ble_eq_true h5) (by simpa using h6) hone hg hop rfl (hx.f (fun y hy => List.mem_append_left _ hy)) (hy.f (fun y hy => List.mem_append_right _ hy)) (.head _) (.tail _ (.head _)) h1 h2 h3 h4

theorem x_apn {α : Type} {ys zs : List α} (T U el e' z bytes t ts : Nat) (enc : α → List D) (x y : Operand) (h : app bytes [] ys = some zs) (hx : OkO x (.sc (.slice none 0 0)) := by first | trivial | rfl) (hy : OkO y (.rf ts 0 ys.length none) := by trivial)
    (hone : ∀ a, (enc a).all okCell = true := by intro _; rfl) (hT : (Γ.P.underlying T, Γ.P.underlying U, infoOf Γ.P el, (zvOf Γ.P el).cells.size, Nat.ble Γ.m t) = (some (.slice el), some (.slice e'), some (some (zvOf Γ.P el), z, bytes), z, true) := by kernel_rfl) :
    OpV Γ (.call { callee := .builtin .append, args := #[x, y], argTypes := #[T, U] }) { tn := tnO x (.sc (.slice none 0 0)) ++ tnO y (.rf ts 0 ys.length none), hn := [(ts, rE z enc ys)], out := some (.rf t 0 zs.length none), hx := [ts], hw := [(t, rE z enc zs)], fr := [t] } := by
  simp only [Prod.mk.injEq] at hT
  obtain ⟨h1, h2, h3, h4, h5⟩ := hT
  intro ops o hop hg
  exact o_append_n (enc := enc) h (Nat.le_of_ble_eq_true h5) hone hg hop rfl (hx.f (fun y hy => List.mem_append_left _ hy)) (hy.f (fun y hy => List.mem_append_right _ hy)) (.head _) h1 h2 h3 h4

theorem x_aps {α : Type} {xs ys zs : List α} (T U el e' z bytes t td : Nat) (enc : α → List D) (x y : Operand) (h : app bytes xs ys = some zs) (hx : OkO x (.rf td 0 xs.length none) := by trivial) (hy : OkO y (.s false z ys.length (ys.map enc)) := by trivial)
    (hone : ∀ a, (enc a).all okCell = true := by intro _; rfl) (hT : (Γ.P.underlying T, Γ.P.underlying U, infoOf Γ.P el, (zvOf Γ.P el).cells.size, Nat.ble Γ.m t) = (some (.slice el), some (.slice e'), some (some (zvOf Γ.P el), z, bytes), z, true) := by kernel_rfl) :
    OpV Γ (.call { callee := .builtin .append, args := #[x, y], argTypes := #[T, U] }) { tn := tnO x (.rf td 0 xs.length none) ++ tnO y (.s false z ys.length (ys.map enc)), hn := [(td, rE z enc xs)], out := some (.rf t 0 zs.length none), hx := [td], hw := [(t, rE z enc zs)], fr := [t] } := by
  simp only [Prod.mk.injEq] at hT
  obtain ⟨h1, h2, h3, h4, h5⟩ := hT
  intro ops o hop hg
  exact o_append_s (enc := enc) h (Nat.le_of_ble_eq_true h5) hone hg hop rfl (hx.f (fun y hy => List.mem_append_left _ hy)) (hy.f (fun y hy => List.mem_append_right _ hy)) (.head _) h1 h2 h3 h4

theorem x_mk {α : Type} {zs : List α} {n : Int} (T el z bytes t : Nat) (enc : α → List D) (a : α) (x : Operand) (h : mk bytes n a = some zs) (he : Emb [] ((zvOf Γ.P el).cells.toList.map D.sc) (enc a) []) (hx : OkO x (.sc (.int .i64 n)) := by first | trivial | rfl)
    (hT : (Γ.P.underlying T, infoOf Γ.P el, (zvOf Γ.P el).cells.size, (enc a).length, Nat.ble Γ.m t) = (some (.slice el), some (some (zvOf Γ.P el), z, bytes), z, z, true) := by kernel_rfl) :
    OpV Γ (.makeSlice T x x) { tn := tnO x (.sc (.int .i64 n)), out := some (.rf t 0 zs.length none), hw := [(t, rE z enc zs)], fr := [t] } := by
  simp only [Prod.mk.injEq] at hT
  obtain ⟨h1, h2, h3, h4, h5⟩ := hT
  intro ops o hop hg
  exact o_mkslice (enc := enc) h (Nat.le_of_ble_eq_true h5) hg hop rfl (hx.f (fun y hy => hy)) (hx.f (fun y hy => hy)) h1 h2 h3 he h4

/-- A store into a row; what is stored moves nothing. -/
theorem x_st {α : Type} {xs : List α} {a b : α} {ix : Int} (T z t j : Nat) (enc : α → List D) (d : D) (x y : Operand) (h : idx xs ix = some a) (hb : enc b = (enc a).take j ++ cellsD d ++ (enc a).drop (j + (cellsD d).length))
    (hx : OkO x (.pt t ix.toNat j) := by trivial) (hy : OkO y d := by first | trivial | rfl)
    (hT : ((cellsD d).all D.cell, (cellsD d).all D.nest, szOf Γ.P T, Nat.ble (j + (cellsD d).length) z) = (true, true, some (cellsD d).length, true) := by kernel_rfl) :
    OpVd Γ (.store T x y) { tn := tnO x (.pt t ix.toNat j) ++ tnO y d, hn := [(t, rE z enc xs)], hx := [t], hw := [(t, rE z enc (xs.set ix.toNat b))] } := by
  simp only [Prod.mk.injEq] at hT
  obtain ⟨h1, h2, h3, h4⟩ := hT
  intro ops o hop hg hds
  exact o_store_row (enc := enc) (es' := cellsD d) (hm := []) (ts := []) h hg hop hds rfl (hx.f (fun y hy => List.mem_append_left _ hy)) (hy.f (fun y hy => List.mem_append_right _ hy)) hb h1 h3 (Nat.le_of_ble_eq_true h4) (.head _) (Emb.all_keep [] _ h2) (fun q hq => by simp at hq)

/-- A store into a row; what is owned moves into it. -/
theorem x_stm {α : Type} {xs : List α} {a b : α} {ix : Int} {es' : List D} {ts : List Nat} (T z t j : Nat) (enc : α → List D) (d : D) (x y : Operand) (hm : List (Nat × Ent)) (h : idx xs ix = some a) (hem : Emb hm (cellsD d) es' ts) (hb : enc b = (enc a).take j ++ es' ++ (enc a).drop (j + (cellsD d).length))
    (hx : OkO x (.pt t ix.toNat j) := by trivial) (hy : OkO y d := by first | trivial | rfl)
    (hT : ((cellsD d).all D.cell, szOf Γ.P T, Nat.ble (j + (cellsD d).length) z, hm.all (fun q => q.1 != t)) = (true, some (cellsD d).length, true, true) := by kernel_rfl) :
    OpVd Γ (.store T x y) { tn := tnO x (.pt t ix.toNat j) ++ tnO y d, hn := (t, rE z enc xs) :: hm, hx := t :: ts, hw := [(t, rE z enc (xs.set ix.toNat b))] } := by
  simp only [Prod.mk.injEq] at hT
  obtain ⟨h1, h3, h4, h5⟩ := hT
  intro ops o hop hg hds
  exact o_store_row (enc := enc) (es' := es') (hm := hm) (ts := ts) h hg hop hds rfl (hx.f (fun y hy => List.mem_append_left _ hy)) (hy.f (fun y hy => List.mem_append_right _ hy)) hb h1 h3 (Nat.le_of_ble_eq_true h4) (.head _) hem (fun q hq => ⟨List.mem_cons_of_mem _ hq, mem_ne h5 q hq⟩)

/-! ### Slices that are built -/
def opdD (x : Operand) (d : D) : D := match x with
  | .tmp _ => d
  | .const v => .sc v
  | .func f => .fn f []
  | .global _ => .un

theorem OkO.of {x : Operand} {d : D} (hg : ∀ g, x ≠ .global g) (h : opdD x d = d) : OkO x d := by
  cases x with
  | tmp t => trivial
  | const v => exact h.symm
  | func f => exact h.symm
  | global g => exact absurd rfl (hg g)

def notG : Operand → Bool
  | .global _ => false
  | _ => true

def tnL : List Operand → List D → List (Nat × D)
  | x :: xs, d :: ds => tnO x d ++ tnL xs ds
  | _, _ => []

theorem tnL_f {c : Cert} : ∀ {xs : List Operand} {ds : List D}, ds.length = xs.length → xs.all notG = true → List.zipWith opdD xs ds = ds → (∀ y ∈ tnL xs ds, y ∈ c.tn) → ∀ (k : Nat) (d : D), ds[k]? = some d → ∃ x, xs[k]? = some x ∧ OpF c x d
  | [], [], _, _, _, _, k, d, h => by simp at h
  | x :: xs, d0 :: ds, hl, hg, hz, hs, 0, d, h => by
    simp at h
    subst h
    simp only [List.zipWith_cons_cons, List.cons.injEq] at hz
    simp only [List.all_cons, Bool.and_eq_true] at hg
    refine ⟨x, rfl, (OkO.of (fun g e => by subst e; simp [notG] at hg) hz.1).f (fun y hy => hs y (by simp [tnL, hy]))⟩
  | x :: xs, d0 :: ds, hl, hg, hz, hs, k + 1, d, h => by
    simp only [List.zipWith_cons_cons, List.cons.injEq] at hz
    simp only [List.all_cons, Bool.and_eq_true] at hg
    obtain ⟨x', h1, h2⟩ := tnL_f (c := c) (by simpa using hl) hg.2 hz.2 (fun y hy => hs y (by simp [tnL, hy])) k d (by simpa using h)
    exact ⟨x', by simpa using h1, h2⟩
  | [], _ :: _, hl, _, _, _, _, _, _ => by simp at hl
  | _ :: _, [], hl, _, _, _, _, _, _ => by simp at hl

def zcOf (P : Program) (el n z : Nat) : Array Value := if n * z = 0 then #[] else (zvOf P el).cells
def zrow (P : Program) (el n z : Nat) : List Value := ((Array.range (n * z)).map ((zcOf P el n z)[· % (zcOf P el n z).size]!)).toList

/-- []T{..}; dl: what the elements given are. -/
theorem x_bs {α : Type} {ds : List D} {ts : List Nat} (T el z t : Nat) (enc : α → List D) (lst : List α) (js : List Nat) (xs : List Operand) (dl : List D) (hn : List (Nat × Ent)) (he : Emb hn ds (lst.map enc).flatten ts)
    (hT : (pureSem Γ.P (underlying T), szOf Γ.P el, pureSem Γ.P (zeroValue el), Nat.ble (lst.length * z) 1000, (zrow Γ.P el lst.length z).all Value.oneCell, Nat.ble Γ.m t) = (some (.slice el), some z, some (zvOf Γ.P el), true, true, true) := by kernel_rfl)
    (hD : (dl.length, js.length, xs.all notG, List.zipWith opdD xs dl, dl.all (fun d => (cellsD d).all D.cell), fillD (fun i => some (i * z, z)) ((zrow Γ.P el lst.length z).map D.sc) (js.zip dl), (lst.map enc).all (fun e => e.length == z)) = (xs.length, xs.length, true, dl, true, some ds, true) := by kernel_rfl) :
    OpV Γ (.buildSlice T lst.length (js.zip xs).toArray) { tn := tnL xs dl, hn := hn, out := some (.rf t 0 lst.length none), hx := ts, hw := [(t, rE z enc lst)], fr := [t] } := by
  simp only [Prod.mk.injEq] at hT hD
  obtain ⟨h1, h2, h3, h4, h5, h6⟩ := hT
  obtain ⟨g1, g2, g3, g4, g5, g6, g7⟩ := hD
  intro ops o hop hg
  refine v_bslice (n := lst.length) (zv := zvOf Γ.P el) (zc := zcOf Γ.P el lst.length z) (dl := js.zip dl) (ds := ds) (xs := lst.map enc) (ts := ts) hg hop rfl (Nat.le_of_ble_eq_true h6) h1 h2 (Nat.le_of_ble_eq_true h4) h3 rfl h5 (by simp [g1, g2]) ?_ g6 (by simp) ?_ he
  · intro k i d hk
    rw [List.getElem?_zip_eq_some] at hk
    obtain ⟨x, hx1, hx2⟩ := tnL_f (c := { tn := tnL xs dl, hn := hn, out := some (.rf t 0 lst.length none), hx := ts, hw := [(t, rE z enc lst)], fr := [t] }) g1 g3 g4 (fun y hy => hy) k d hk.2
    refine ⟨x, ?_, hx2, List.all_eq_true.1 g5 d (List.mem_of_getElem? hk.2)⟩
    simp only [List.getElem?_toArray]
    exact List.getElem?_zip_eq_some.2 ⟨hk.1, hx1⟩
  · intro e he'
    simpa using List.all_eq_true.1 g7 e he'

/-- Plainly: each element is given, and nothing moves. -/
theorem x_bp {α : Type} (T el z t : Nat) (enc : α → List D) (lst : List α) (js : List Nat) (xs : List Operand) (dl : List D)
    (hT : (pureSem Γ.P (underlying T), szOf Γ.P el, pureSem Γ.P (zeroValue el), Nat.ble (lst.length * z) 1000, (zrow Γ.P el lst.length z).all Value.oneCell, Nat.ble Γ.m t) = (some (.slice el), some z, some (zvOf Γ.P el), true, true, true) := by kernel_rfl)
    (hD : (dl.length, js.length, xs.all notG, List.zipWith opdD xs dl, dl.all (fun d => (cellsD d).all D.cell), fillD (fun i => some (i * z, z)) ((zrow Γ.P el lst.length z).map D.sc) (js.zip dl), (lst.map enc).all (fun e => e.length == z), (lst.map enc).flatten.all D.nest) = (xs.length, xs.length, true, dl, true, some (lst.map enc).flatten, true, true) := by kernel_rfl) :
    OpV Γ (.buildSlice T lst.length (js.zip xs).toArray) { tn := tnL xs dl, hn := [], out := some (.rf t 0 lst.length none), hx := [], hw := [(t, rE z enc lst)], fr := [t] } := by
  simp only [Prod.mk.injEq] at hD
  obtain ⟨g1, g2, g3, g4, g5, g6, g7, g8⟩ := hD
  refine x_bs T el z t enc lst js xs dl [] (Emb.all_keep [] _ g8) hT ?_
  simp only [Prod.mk.injEq]
  exact ⟨g1, g2, g3, g4, g5, g6, g7⟩

/-! ### Calls -/
theorem AmL.all_same {hn : List (Nat × Ent)} {ids : List Nat} {bor : Bool} : ∀ {ds : List D}, D.men.menL ds = [] → AmL hn ids bor ds ds
  | [], _ => .nil
  | d :: ds, h => by
    simp only [D.men.menL, List.append_eq_nil_iff] at h
    exact .cons (.same h.1) (AmL.all_same h.2)

theorem am_b {hn : List (Nat × Ent)} {ids : List Nat} {t z : Nat} {α : Type} {enc enc' : α → List D} {xs : List α} (hm : (t, rE z enc xs) ∈ hn) (hr : ∀ a, D.ro.roC (enc a) = enc' a) (ht : ids.contains t = false) : Am hn ids true (.rf t 0 xs.length none) (.s false z xs.length (xs.map enc')) :=
  .bor hm (by simpa using ht) (by simp) (ro_map hr xs rfl rfl)

/-- What comes back needs no names. -/
def D.nm1 (d : D) : Bool := d.free && d.men.isEmpty
def D.nm2 : D → Bool
  | .ag cs => cs.all D.nm1
  | d => d.nm1
def D.nm : D → Bool
  | .tu vs => vs.all D.nm2
  | d => d.nm2

theorem nm1_spec {d : D} (h : d.nm1 = true) : Nm d d [] := by
  simp only [D.nm1, Bool.and_eq_true, List.isEmpty_iff] at h
  exact .same h.2 h.1

theorem nmL_spec {p : D → Bool} (hp : ∀ d, p d = true → Nm d d []) : ∀ {cs : List D}, cs.all p = true → NmL cs cs []
  | [], _ => .nil
  | d :: cs, h => by
    simp only [List.all_cons, Bool.and_eq_true] at h
    exact .cons (e1 := []) (hp d h.1) (nmL_spec hp h.2)

theorem nm2_spec {d : D} (h : d.nm2 = true) : Nm d d [] := by
  cases d with
  | ag cs => exact .ag (nmL_spec (fun _ => nm1_spec) h)
  | _ => exact nm1_spec h

theorem nm_spec {d : D} (h : d.nm = true) : Nm d d [] := by
  cases d with
  | tu cs => exact .tu (nmL_spec (fun _ => nm2_spec) h)
  | _ => exact nm2_spec h

theorem flat_sc {v : Value} : (D.sc v).flat := trivial
theorem flat_s {z n : Nat} {xs : List (List D)} (h : flatE xs) : (D.s true z n xs).flat := ⟨rfl, h⟩
theorem flat_ag {cs : List D} (h : flatC cs) : (D.ag cs).flat := h
theorem flat_tu {cs : List D} (h : flatC cs) : (D.tu cs).flat := h
theorem flatN : flatC [] := trivial
theorem flatK {d : D} {ds : List D} (h1 : d.flat) (h2 : flatC ds) : flatC (d :: ds) := ⟨h1, h2⟩
theorem flatM {α : Type} {enc : α → List D} (h : ∀ a, flatC (enc a)) : ∀ (xs : List α), flatE (xs.map enc)
  | [] => trivial
  | x :: xs => ⟨h x, flatM h xs⟩

/-- No row is handed over, and what comes back owns nothing. -/
theorem x_c0 {f : FuncId} {as : List D} {R : Type} {e : Option R} {g : R → D × List Ent} {r : R} (xs : List Operand) (tys : List Nat) (hok : Ok Γ.P f as [] (e.map g)) (h : e = some r) (hcf : ∀ vs, pureSem Γ.P (callFunc f vs) = some (.enter f vs) := by intro _; kernel_rfl)
    (hC : (as.length, xs.all notG, List.zipWith opdD xs as, D.men.menL as, (g r).1.nm, (g r).2) = (xs.length, true, as, [], true, []) := by kernel_rfl) :
    OpV Γ (.call { callee := .value (.func f), args := xs.toArray, argTypes := tys.toArray }) { tn := tnL xs as, out := some (g r).1 } := by
  simp only [Prod.mk.injEq] at hC
  obtain ⟨h1, h2, h3, h4, h5, h7⟩ := hC
  intro ops o hop hg
  exact v_call («as» := as) (bor := false) (ids := []) (hin := []) (hout := []) (news := []) hg hop hcf (by simpa using h1) (fun k d hk => by
    obtain ⟨x, q1, q2⟩ := tnL_f (c := { tn := tnL xs as, out := some (g r).1 }) h1 h2 h3 (fun y hy => hy) k d hk
    exact ⟨x, by simpa using q1, q2⟩) (AmL.all_same h4) (by simp) rfl (by simp) (by simp) hok (by rw [h, Option.map_some, ← h7]) (by simp) (nm_spec h5) (by simp) rfl (by simp) (by simp)

theorem x_c0v {f : FuncId} {as caps : List D} {R : Type} {e : Option R} {g : R → D × List Ent} {r : R} (t0 : Nat) (xs : List Operand) (tys : List Nat) (hok : Ok Γ.P f (as ++ caps) [] (e.map g)) (h : e = some r) (hcf : ∀ vs, pureSem Γ.P (callFunc f vs) = some (.enter f vs) := by intro _; kernel_rfl)
    (hC : (as.length, xs.all notG, List.zipWith opdD xs as, D.men.menL (as ++ caps), (g r).1.nm, (g r).2) = (xs.length, true, as, [], true, []) := by kernel_rfl) :
    OpV Γ (.call { callee := .value (.tmp t0), args := xs.toArray, argTypes := tys.toArray }) { tn := (t0, .fn f caps) :: tnL xs as, out := some (g r).1 } := by
  simp only [Prod.mk.injEq] at hC
  obtain ⟨h1, h2, h3, h4, h5, h7⟩ := hC
  intro ops o hop hg
  exact v_callv («as» := as) (caps := caps) (bor := false) (ids := []) (hin := []) (hout := []) (news := []) hg hop (show (t0, D.fn f caps) ∈ (t0, D.fn f caps) :: tnL xs as from .head _) hcf (by simpa using h1) (fun k d hk => by
    obtain ⟨x, q1, q2⟩ := tnL_f (c := { tn := (t0, .fn f caps) :: tnL xs as, out := some (g r).1 }) h1 h2 h3 (fun y hy => List.mem_cons_of_mem _ hy) k d hk
    exact ⟨x, by simpa using q1, q2⟩) (AmL.all_same h4) (by simp) rfl (by simp) (by simp) hok (by rw [h, Option.map_some, ← h7]) (by simp) (nm_spec h5) (by simp) rfl (by simp) (by simp)

/-- Rows are read for the call's time, or handed over; what comes back may own. -/
theorem x_c1 {f : FuncId} {as ds : List D} {R : Type} {e : Option R} {g : R → D × List Ent} {r : R} {d : D} {hin : List Ent} {news : List (Nat × Ent)} (xs : List Operand) (tys : List Nat) (bor : Bool) (hn : List (Nat × Ent)) (ids : List Nat) (ham : AmL hn ids bor as ds)
    (hok : Ok Γ.P f ds hin (e.map g)) (h : e = some r) (hnm : Nm (g r).1 d news) (hbor : bor = true → ids = [] ∧ (g r).1.flat := by simp)
    (hcf : ∀ vs, pureSem Γ.P (callFunc f vs) = some (.enter f vs) := by intro _; kernel_rfl)
    (hC : (as.length, xs.all notG, List.zipWith opdD xs as, nodupK ids, hin.length, Nat.ble (g r).2.length hin.length, (ids.zip hin).map (fun x => lk hn x.1), (hin ++ (g r).2).flatMap Ent.men, nodupK (news.map (·.1)), news.all (fun x => Nat.ble Γ.m x.1)) =
      (xs.length, true, as, true, ids.length, true, (ids.zip hin).map (fun x => some x.2), [], true, true) := by kernel_rfl) :
    OpV Γ (.call { callee := .value (.func f), args := xs.toArray, argTypes := tys.toArray }) { tn := tnL xs as, hn := hn, out := some d, hx := ids, hw := ids.zip (g r).2 ++ news, fr := news.map (·.1) } := by
  simp only [Prod.mk.injEq] at hC
  obtain ⟨h1, h2, h3, h4, h5, h6, h7, h8, h9, h10⟩ := hC
  intro ops o hop hg
  exact v_call («as» := as) (bor := bor) (ids := ids) (hin := hin) (hout := (g r).2) (news := news) hg hop hcf (by simpa using h1) (fun k d' hk => by
    obtain ⟨x, q1, q2⟩ := tnL_f (c := { tn := tnL xs as, hn := hn, out := some d, hx := ids, hw := ids.zip (g r).2 ++ news, fr := news.map (·.1) }) h1 h2 h3 (fun y hy => hy) k d' hk
    exact ⟨x, by simpa using q1, q2⟩) ham (nodupK_spec h4) h5 (facts_of h7) (menAll h8) hok (by rw [h, Option.map_some]) (Nat.le_of_ble_eq_true h6) hnm (nodupK_spec h9) rfl (le_all h10) hbor

theorem x_c1v {f : FuncId} {ds : List D} {R : Type} {e : Option R} {g : R → D × List Ent} {r : R} {d : D} {hin : List Ent} {news : List (Nat × Ent)} (t0 : Nat) (xs : List Operand) (tys : List Nat) (bor : Bool) (hn : List (Nat × Ent)) (ids : List Nat) (as : List D) (caps : List D) (ham : AmL hn ids bor (as ++ caps) ds)
    (hok : Ok Γ.P f ds hin (e.map g)) (h : e = some r) (hnm : Nm (g r).1 d news) (hbor : bor = true → ids = [] ∧ (g r).1.flat := by simp)
    (hcf : ∀ vs, pureSem Γ.P (callFunc f vs) = some (.enter f vs) := by intro _; kernel_rfl)
    (hC : (as.length, xs.all notG, List.zipWith opdD xs as, nodupK ids, hin.length, Nat.ble (g r).2.length hin.length, (ids.zip hin).map (fun x => lk hn x.1), (hin ++ (g r).2).flatMap Ent.men, nodupK (news.map (·.1)), news.all (fun x => Nat.ble Γ.m x.1)) =
      (xs.length, true, as, true, ids.length, true, (ids.zip hin).map (fun x => some x.2), [], true, true) := by kernel_rfl) :
    OpV Γ (.call { callee := .value (.tmp t0), args := xs.toArray, argTypes := tys.toArray }) { tn := (t0, .fn f caps) :: tnL xs as, hn := hn, out := some d, hx := ids, hw := ids.zip (g r).2 ++ news, fr := news.map (·.1) } := by
  simp only [Prod.mk.injEq] at hC
  obtain ⟨h1, h2, h3, h4, h5, h6, h7, h8, h9, h10⟩ := hC
  intro ops o hop hg
  exact v_callv («as» := as) (caps := caps) (bor := bor) (ids := ids) (hin := hin) (hout := (g r).2) (news := news) hg hop (show (t0, D.fn f caps) ∈ (t0, D.fn f caps) :: tnL xs as from .head _) hcf (by simpa using h1) (fun k d' hk => by
    obtain ⟨x, q1, q2⟩ := tnL_f (c := { tn := (t0, .fn f caps) :: tnL xs as, hn := hn, out := some d, hx := ids, hw := ids.zip (g r).2 ++ news, fr := news.map (·.1) }) h1 h2 h3 (fun y hy => List.mem_cons_of_mem _ hy) k d' hk
    exact ⟨x, by simpa using q1, q2⟩) ham (nodupK_spec h4) h5 (facts_of h7) (menAll h8) hok (by rw [h, Option.map_some]) (Nat.le_of_ble_eq_true h6) hnm (nodupK_spec h9) rfl (le_all h10) hbor

/-- What was handed over comes back as it was. -/
theorem x_ro {op : Op} {tn : List (Nat × D)} {hn : List (Nat × Ent)} {d : D} {hx : List Nat} {hw : List (Nat × Ent)} {fr : List Nat} (A B : List (Nat × Ent)) (hv : OpV Γ op { tn := tn, hn := hn, out := some d, hx := hx, hw := hw, fr := fr })
    (hC : (A.map (fun x => lk hn x.1), hx, hw, fr, nodupK (B.map (·.1))) = (A.map (fun x => some x.2), A.map (·.1), A ++ B, B.map (·.1), true) := by kernel_rfl) : OpV Γ op { tn := tn, hn := hn, out := some d, hx := [], hw := B, fr := fr } := by
  simp only [Prod.mk.injEq] at hC
  obtain ⟨h1, h2, h3, h4, h5⟩ := hC
  intro ops o hop hg
  exact valid_ro A B (facts_of h1) h2 h3 h4 (nodupK_spec h5) (hv ops o hop hg)
end
end Go.Im

import Derived.Test.YtbifnchjphefeaaRows
import Derived.Test.YtbifnchjphefeaaOkCheckPlan
import Derived.Test.YtbifnchjphefeaaPureCheckPlan
import Derived.Test.YtbifnchjphefeaaIm38
import Derived.WalkKit
import Derived.ProofKit
import Derived.OpenShut
import Derived.ShutString
import Derived.ChangeOld
import Derived.Below
import Derived.SizedLaws
namespace Go.Proofs.Ytbifnchjphefeaa.fnExactCheckPlan
open Go.ChangeShapes Go.WideShapes Go.ChangeAt Go.RowKit
open Go.Im Go.Told
set_option linter.unusedVariables false
theorem own : ownKnob Try.prog.godebug = none := by kernel_rfl
theorem laidOut : laidOutB Try.prog = true := by kernel_rfl

theorem rd55 {H : Type} {enc : TypeId × Value → H} {W : World} : Reads enc Try.prog W 55 Version.enc Version.ok :=
  (rd_struct (t := 55) (fs := #[{ name := "A", type := 2, offset := 0, embedded := false, tag := "", pkgPath := "", byteOffset := 0 }, { name := "B", type := 2, offset := 1, embedded := false, tag := "", pkgPath := "", byteOffset := 8 }, { name := "C", type := 2, offset := 2, embedded := false, tag := "", pkgPath := "", byteOffset := 16 }]) (tot := 3) (by kernel_rfl) (by kernel_rfl) (rf_cons (off := 0) (sz := 1) (tot := 2) (by kernel_rfl) (by kernel_rfl) (rd_int (k := .i64) (by kernel_rfl)) (rf_cons (off := 1) (sz := 1) (tot := 1) (by kernel_rfl) (by kernel_rfl) (rd_int (k := .i64) (by kernel_rfl)) (rf_cons (off := 2) (sz := 1) (tot := 0) (by kernel_rfl) (by kernel_rfl) (rd_int (k := .i64) (by kernel_rfl)) rf_nil)))).map
    (fun x => ({ A := x.1, B := x.2.1, C := x.2.2.1 } : Version)) (fun _ => rfl) (fun _ h => ⟨h.1, h.2.1, h.2.2.1⟩)

theorem rd56 {H : Type} {enc : TypeId × Value → H} {W : World} : Reads enc Try.prog W 56 (fun xs : (List ByteArray) => [.s false 1 xs.length (xs.map eStr)]) (fun xs => xs.length ≤ maxLen ∧ ∀ y1 ∈ xs, y1.size ≤ maxLen) :=
  rd_slice (e := 9) (ec := eStr) (by kernel_rfl) (by kernel_rfl) (by decide) (rd_str (by kernel_rfl)) (fun _ => rfl)

theorem rd117 {H : Type} {enc : TypeId × Value → H} {W : World} : Reads enc Try.prog W 117 Term.enc Term.ok :=
  (rd_struct (t := 117) (fs := #[{ name := "Name", type := 9, offset := 0, embedded := false, tag := "", pkgPath := "", byteOffset := 0 }, { name := "Low", type := 55, offset := 1, embedded := false, tag := "", pkgPath := "", byteOffset := 16 }, { name := "High", type := 55, offset := 4, embedded := false, tag := "", pkgPath := "", byteOffset := 40 }]) (tot := 7) (by kernel_rfl) (by kernel_rfl) (rf_cons (off := 0) (sz := 1) (tot := 6) (by kernel_rfl) (by kernel_rfl) (rd_str (by kernel_rfl)) (rf_cons (off := 1) (sz := 3) (tot := 3) (by kernel_rfl) (by kernel_rfl) rd55 (rf_cons (off := 4) (sz := 3) (tot := 0) (by kernel_rfl) (by kernel_rfl) rd55 rf_nil)))).map
    (fun x => ({ Name := x.1, Low := x.2.1, High := x.2.2.1 } : Term)) (fun _ => rfl) (fun _ h => ⟨h.1, h.2.1, h.2.2.1⟩)

theorem rd58 {H : Type} {enc : TypeId × Value → H} {W : World} : Reads enc Try.prog W 58 (fun xs : (List Term) => [.s false 7 xs.length (xs.map Term.enc)]) (fun xs => xs.length ≤ maxLen ∧ ∀ y1 ∈ xs, Term.ok y1) :=
  rd_slice (e := 117) (ec := Term.enc) (by kernel_rfl) (by kernel_rfl) (by decide) rd117 (fun _ => rfl)

theorem rd57 {H : Type} {enc : TypeId × Value → H} {W : World} : Reads enc Try.prog W 57 (fun xs : (List (List Term)) => [.s false 1 xs.length (xs.map (eSl false 7 Term.enc))]) (fun xs => xs.length ≤ maxLen ∧ ∀ y1 ∈ xs, y1.length ≤ maxLen ∧ ∀ y2 ∈ y1, Term.ok y2) :=
  rd_slice (e := 58) (ec := (eSl false 7 Term.enc)) (by kernel_rfl) (by kernel_rfl) (by decide) rd58 (fun _ => rfl)

theorem rd60 {H : Type} {enc : TypeId × Value → H} {W : World} : Reads enc Try.prog W 60 (Pack.enc false) Pack.ok :=
  (rd_struct (t := 60) (fs := #[{ name := "Name", type := 9, offset := 0, embedded := false, tag := "", pkgPath := "", byteOffset := 0 }, { name := "Version", type := 55, offset := 1, embedded := false, tag := "", pkgPath := "", byteOffset := 16 }, { name := "Size", type := 2, offset := 4, embedded := false, tag := "", pkgPath := "", byteOffset := 40 }, { name := "Provides", type := 56, offset := 5, embedded := false, tag := "", pkgPath := "", byteOffset := 48 }, { name := "Needs", type := 57, offset := 6, embedded := false, tag := "", pkgPath := "", byteOffset := 72 }, { name := "Bars", type := 58, offset := 7, embedded := false, tag := "", pkgPath := "", byteOffset := 96 }]) (tot := 8) (by kernel_rfl) (by kernel_rfl) (rf_cons (off := 0) (sz := 1) (tot := 7) (by kernel_rfl) (by kernel_rfl) (rd_str (by kernel_rfl)) (rf_cons (off := 1) (sz := 3) (tot := 4) (by kernel_rfl) (by kernel_rfl) rd55 (rf_cons (off := 4) (sz := 1) (tot := 3) (by kernel_rfl) (by kernel_rfl) (rd_int (k := .i64) (by kernel_rfl)) (rf_cons (off := 5) (sz := 1) (tot := 2) (by kernel_rfl) (by kernel_rfl) rd56 (rf_cons (off := 6) (sz := 1) (tot := 1) (by kernel_rfl) (by kernel_rfl) rd57 (rf_cons (off := 7) (sz := 1) (tot := 0) (by kernel_rfl) (by kernel_rfl) rd58 rf_nil))))))).map
    (fun x => ({ Name := x.1, Version := x.2.1, Size := x.2.2.1, Provides := x.2.2.2.1, Needs := x.2.2.2.2.1, Bars := x.2.2.2.2.2.1 } : Pack)) (fun _ => rfl) (fun _ h => ⟨h.1, h.2.1, h.2.2.1, h.2.2.2.1, h.2.2.2.2.1, h.2.2.2.2.2.1⟩)

theorem rd22 {H : Type} {enc : TypeId × Value → H} {W : World} : Reads enc Try.prog W 22 (fun xs : (List Pack) => [.s false 8 xs.length (xs.map (Pack.enc false))]) (fun xs => xs.length ≤ maxLen ∧ ∀ y1 ∈ xs, Pack.ok y1) :=
  rd_slice (e := 60) (ec := (Pack.enc false)) (by kernel_rfl) (by kernel_rfl) (by decide) rd60 (fun _ => rfl)

theorem rd23 {H : Type} {enc : TypeId × Value → H} {W : World} : Reads enc Try.prog W 23 (fun xs : (List Int) => [.s false 1 xs.length (xs.map eI64)]) (fun xs => xs.length ≤ maxLen ∧ ∀ y1 ∈ xs, IntKind.i64.min ≤ y1 ∧ y1 ≤ IntKind.i64.max) :=
  rd_slice (e := 2) (ec := eI64) (by kernel_rfl) (by kernel_rfl) (by decide) (rd_int (k := .i64) (by kernel_rfl)) (fun _ => rfl)

theorem rd24 {H : Type} {enc : TypeId × Value → H} {W : World} : Reads enc Try.prog W 24 (fun xs : (List (List Int)) => [.s false 1 xs.length (xs.map (eSl false 1 eI64))]) (fun xs => xs.length ≤ maxLen ∧ ∀ y1 ∈ xs, y1.length ≤ maxLen ∧ ∀ y2 ∈ y1, IntKind.i64.min ≤ y2 ∧ y2 ≤ IntKind.i64.max) :=
  rd_slice (e := 23) (ec := (eSl false 1 eI64)) (by kernel_rfl) (by kernel_rfl) (by decide) rd23 (fun _ => rfl)

set_option maxRecDepth 100000 in
theorem lifted (os : Os) (started : os.Started) (H : Type) (enc : TypeId × Value → H) :
    ReturnsInHanded {} Try.checked os 3 .any (Rows.fnExactCheckPlanSpec.pre6 enc Try.prog Try.f3 Rows.fnExactCheckPlanRow.domain false) (Rows.fnExactCheckPlanSpec.post enc Try.prog Try.f3 false true false false) := by
  refine returnsInHanded_of_change_sized (C := Try.checked) own started (by kernel_rfl) Try.func3
    (ChangeSpec.witness6 (enc := enc) (C := Try.checked) false ⟨#[], #[.slice none 0 0, .slice none 0 0, .slice none 0 0], []⟩ 8 (by kernel_rfl) (by kernel_rfl) (by kernel_rfl) (by kernel_rfl)) ?_
  intro W base args ds gs before hval0 hW hcnd hsz0 _
  have hval : ∀ (j : Nat) t v, Try.f3.params[j]? = some t → args[j]? = some v → Value.okWide Try.prog W .any base t v := hval0
  have hW' := hW
  obtain ⟨p, q, hA0, hV, rfl, hfz, hnd⟩ := hW
  have hA : DataW.TrodAll enc Try.prog W 0 (fun _ => true) true Try.f3.params.toList args.toList ds p := hA0
  rw [Try.params3] at hA hval
  obtain ⟨v0, vs0, d0, ds0, p0, q0, hargs, rfl, rfl, h0, r0⟩ := trodAll_cons hA
  obtain ⟨v1, vs1, d1, ds1, p1, q1, rfl, rfl, rfl, h1, r1⟩ := trodAll_cons r0
  obtain ⟨v2, vs2, d2, ds2, p2, q2, rfl, rfl, rfl, h2, r2⟩ := trodAll_cons r1
  obtain ⟨rfl, rfl, rfl⟩ := trodAll_nil r2
  obtain rfl : args = #[v0, v1, v2] := by cases args; simp_all
  obtain ⟨rfl, rfl⟩ := trodVars_none hV
  have hlt0 : ∀ x ∈ p0, x.block < W.heap.size := fun x hx => by simpa using hW'.lt x (by simp [hx])
  have s0 : v0.cells = #[v0] := by
    obtain ⟨a, l, c, rfl⟩ := okWide_slice Try.underlying22 (hval 0 22 v0 rfl rfl)
    rfl
  obtain ⟨f0, g0⟩ := h0
  obtain ⟨x0, k0, e0⟩ := (rd22 (W := W)) _ _ _ g0
  have hlt1 : ∀ x ∈ p1, x.block < W.heap.size := fun x hx => by simpa using hW'.lt x (by simp [hx])
  have s1 : v1.cells = #[v1] := by
    obtain ⟨a, l, c, rfl⟩ := okWide_slice Try.underlying23 (hval 1 23 v1 rfl rfl)
    rfl
  obtain ⟨f1, g1⟩ := h1
  obtain ⟨x1, k1, e1⟩ := (rd23 (W := W)) _ _ _ g1
  have hlt2 : ∀ x ∈ p2, x.block < W.heap.size := fun x hx => by simpa using hW'.lt x (by simp [hx])
  have s2 : v2.cells = #[v2] := by
    obtain ⟨a, l, c, rfl⟩ := okWide_slice Try.underlying24 (hval 2 24 v2 rfl rfl)
    rfl
  obtain ⟨f2, g2⟩ := h2
  obtain ⟨x2, k2, e2⟩ := (rd24 (W := W)) _ _ _ g2
  have hok := laws_FnExactCheckPlan.ok x0 x1 x2
  rw [FnExactCheckPlan_law x0 x1 x2 k0 k1 k2] at hok
  refine (law_calls hok (vs := [v0, v1, v2]) (fun β => args_cons (arg_one s0 (e0 β)) (args_cons (arg_one s1 (e1 β)) (args_cons (arg_one s2 (e2 β)) (args_nil))))).mono fun e W' hs => ?_
  have he := hs.1
  subst he
  exact ⟨_, rfl, _, _, _, [], _, [], hW', trodAll_mk1 (shut_bool Try.underlying4 _), trodAll_mk3 (still_trod hs laidOut (by kernel_rfl) (of_decide_eq_true (by kernel_rfl)) ⟨f0, g0⟩ hlt0) (still_trod hs laidOut (by kernel_rfl) (of_decide_eq_true (by kernel_rfl)) ⟨f1, g1⟩ hlt1) (still_trod hs laidOut (by kernel_rfl) (of_decide_eq_true (by kernel_rfl)) ⟨f2, g2⟩ hlt2), rfl, still_kept hs _, fun h => by cases h⟩
theorem over : Rows.fnExactCheckPlanRow.holds Try.pinned (OpenSpec.ofChange Rows.fnExactCheckPlanSpec) :=
  OpenClaim.holds_of_wide 3 Try.f3 rfl rfl rfl rfl rfl rfl rfl ⟨rfl, rfl, rfl, rfl, rfl⟩ rfl rfl rfl rfl rfl (by kernel_rfl) Try.func3 (by kernel_rfl)
    (of_decide_eq_true (by kernel_rfl)) (by unfold Func.isWrapper; first | (rw [if_pos (by decide +kernel)]; kernel_rfl) | (rw [if_neg (by decide +kernel)]; exact ⟨rfl, rfl⟩))
    (fun os started H enc _ => lifted os started H enc)
theorem proved : Rows.FnExactCheckPlanSaid := over
#print axioms proved
end Go.Proofs.Ytbifnchjphefeaa.fnExactCheckPlan
namespace Go.Proofs.Ytbifnchjphefeaa
/-- The row, under a short name, for the claim. -/
theorem fnExactCheckPlan_holds : Rows.FnExactCheckPlanSaid := fnExactCheckPlan.proved
end Go.Proofs.Ytbifnchjphefeaa

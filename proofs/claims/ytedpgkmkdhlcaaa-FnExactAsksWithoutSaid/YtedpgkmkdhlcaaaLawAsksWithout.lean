import Derived.Test.YtedpgkmkdhlcaaaRows
import Derived.Test.YtedpgkmkdhlcaaaOkAsksWithout
import Derived.Test.YtedpgkmkdhlcaaaPureAsksWithout
import Derived.Test.YtedpgkmkdhlcaaaIm38
import Derived.WalkKit
import Derived.ProofKit
import Derived.OpenShut
import Derived.ShutString
import Derived.ChangeOld
import Derived.Below
import Derived.SizedLaws
namespace Go.Proofs.Ytedpgkmkdhlcaaa.fnExactAsksWithout
open Go.ChangeShapes Go.WideShapes Go.ChangeAt Go.RowKit
open Go.Im Go.Told
set_option linter.unusedVariables false
theorem own : ownKnob Try.prog.godebug = none := by kernel_rfl
theorem laidOut : laidOutB Try.prog = true := by kernel_rfl

theorem rd33 {H : Type} {enc : TypeId × Value → H} {W : World} : Reads enc Try.prog W 33 Version.enc Version.ok :=
  (rd_struct (t := 33) (fs := #[{ name := "A", type := 2, offset := 0, embedded := false, tag := "", pkgPath := "", byteOffset := 0 }, { name := "B", type := 2, offset := 1, embedded := false, tag := "", pkgPath := "", byteOffset := 8 }, { name := "C", type := 2, offset := 2, embedded := false, tag := "", pkgPath := "", byteOffset := 16 }]) (tot := 3) (by kernel_rfl) (by kernel_rfl) (rf_cons (off := 0) (sz := 1) (tot := 2) (by kernel_rfl) (by kernel_rfl) (rd_int (k := .i64) (by kernel_rfl)) (rf_cons (off := 1) (sz := 1) (tot := 1) (by kernel_rfl) (by kernel_rfl) (rd_int (k := .i64) (by kernel_rfl)) (rf_cons (off := 2) (sz := 1) (tot := 0) (by kernel_rfl) (by kernel_rfl) (rd_int (k := .i64) (by kernel_rfl)) rf_nil)))).map
    (fun x => ({ A := x.1, B := x.2.1, C := x.2.2.1 } : Version)) (fun _ => rfl) (fun _ h => ⟨h.1, h.2.1, h.2.2.1⟩)

theorem rd35 {H : Type} {enc : TypeId × Value → H} {W : World} : Reads enc Try.prog W 35 Term.enc Term.ok :=
  (rd_struct (t := 35) (fs := #[{ name := "Name", type := 9, offset := 0, embedded := false, tag := "", pkgPath := "", byteOffset := 0 }, { name := "Low", type := 33, offset := 1, embedded := false, tag := "", pkgPath := "", byteOffset := 16 }, { name := "High", type := 33, offset := 4, embedded := false, tag := "", pkgPath := "", byteOffset := 40 }]) (tot := 7) (by kernel_rfl) (by kernel_rfl) (rf_cons (off := 0) (sz := 1) (tot := 6) (by kernel_rfl) (by kernel_rfl) (rd_str (by kernel_rfl)) (rf_cons (off := 1) (sz := 3) (tot := 3) (by kernel_rfl) (by kernel_rfl) rd33 (rf_cons (off := 4) (sz := 3) (tot := 0) (by kernel_rfl) (by kernel_rfl) rd33 rf_nil)))).map
    (fun x => ({ Name := x.1, Low := x.2.1, High := x.2.2.1 } : Term)) (fun _ => rfl) (fun _ h => ⟨h.1, h.2.1, h.2.2.1⟩)

theorem rd31 {H : Type} {enc : TypeId × Value → H} {W : World} : Reads enc Try.prog W 31 (fun xs : (List Term) => [.s false 7 xs.length (xs.map Term.enc)]) (fun xs => xs.length ≤ maxLen ∧ ∀ y1 ∈ xs, Term.ok y1) :=
  rd_slice (e := 35) (ec := Term.enc) (by kernel_rfl) (by kernel_rfl) (by decide) rd35 (fun _ => rfl)

set_option maxRecDepth 100000 in
theorem lifted (os : Os) (started : os.Started) (H : Type) (enc : TypeId × Value → H) :
    ReturnsInHanded {} Try.checked os 5 .any (Rows.fnExactAsksWithoutSpec.pre6 enc Try.prog Try.f5 Rows.fnExactAsksWithoutRow.domain false) (Rows.fnExactAsksWithoutSpec.post enc Try.prog Try.f5 false true false false) := by
  refine returnsInHanded_of_change_sized (C := Try.checked) own started (by kernel_rfl) Try.func5
    (ChangeSpec.witness6 (enc := enc) (C := Try.checked) false ⟨#[], #[.slice none 0 0, .string ByteArray.empty], []⟩ 8 (by kernel_rfl) (by kernel_rfl) (by kernel_rfl) (by kernel_rfl)) ?_
  intro W base args ds gs before hval0 hW hcnd hsz0 _
  have hval : ∀ (j : Nat) t v, Try.f5.params[j]? = some t → args[j]? = some v → Value.okWide Try.prog W .any base t v := hval0
  have hW' := hW
  obtain ⟨p, q, hA0, hV, rfl, hfz, hnd⟩ := hW
  have hA : DataW.TrodAll enc Try.prog W 0 (fun _ => true) true Try.f5.params.toList args.toList ds p := hA0
  rw [Try.params5] at hA hval
  obtain ⟨v0, vs0, d0, ds0, p0, q0, hargs, rfl, rfl, h0, r0⟩ := trodAll_cons hA
  obtain ⟨v1, vs1, d1, ds1, p1, q1, rfl, rfl, rfl, h1, r1⟩ := trodAll_cons r0
  obtain ⟨rfl, rfl, rfl⟩ := trodAll_nil r1
  obtain rfl : args = #[v0, v1] := by cases args; simp_all
  obtain ⟨rfl, rfl⟩ := trodVars_none hV
  have hlt0 : ∀ x ∈ p0, x.block < W.heap.size := fun x hx => by simpa using hW'.lt x (by simp [hx])
  have s0 : v0.cells = #[v0] := by
    obtain ⟨a, l, c, rfl⟩ := okWide_slice Try.underlying31 (hval 0 31 v0 rfl rfl)
    rfl
  obtain ⟨f0, g0⟩ := h0
  obtain ⟨x0, k0, e0⟩ := (rd31 (W := W)) _ _ _ g0
  have hlt1 : ∀ x ∈ p1, x.block < W.heap.size := fun x hx => by simpa using hW'.lt x (by simp [hx])
  have s1 : v1.cells = #[v1] := by
    obtain ⟨a, rfl⟩ := okWide_string Try.underlying9 (hval 1 9 v1 rfl rfl)
    rfl
  obtain ⟨f1, g1⟩ := h1
  obtain ⟨x1, k1, e1⟩ := (rd_str (P := Try.prog) (t := 9) (by kernel_rfl) : Reads enc Try.prog W 9 _ _) _ _ _ g1
  have hok := laws_FnExactAsksWithout.ok x0 x1
  rw [FnExactAsksWithout_law x0 x1 k0 k1] at hok
  refine (law_calls hok (vs := [v0, v1]) (fun β => args_cons (arg_one s0 (e0 β)) (args_cons (arg_one s1 (e1 β)) (args_nil)))).mono fun e W' hs => ?_
  have he := hs.1
  subst he
  exact ⟨_, rfl, _, _, _, [], _, [], hW', trodAll_mk1 (shut_bool Try.underlying4 _), trodAll_mk2 (still_trod hs laidOut (by kernel_rfl) (of_decide_eq_true (by kernel_rfl)) ⟨f0, g0⟩ hlt0) (still_trod hs laidOut (by kernel_rfl) (of_decide_eq_true (by kernel_rfl)) ⟨f1, g1⟩ hlt1), rfl, still_kept hs _, fun h => by cases h⟩
theorem over : Rows.fnExactAsksWithoutRow.holds Try.pinned (OpenSpec.ofChange Rows.fnExactAsksWithoutSpec) :=
  OpenClaim.holds_of_wide 5 Try.f5 rfl rfl rfl rfl rfl rfl rfl ⟨rfl, rfl, rfl, rfl, rfl⟩ rfl rfl rfl rfl rfl (by kernel_rfl) Try.func5 (by kernel_rfl)
    (of_decide_eq_true (by kernel_rfl)) (by unfold Func.isWrapper; first | (rw [if_pos (by decide +kernel)]; kernel_rfl) | (rw [if_neg (by decide +kernel)]; exact ⟨rfl, rfl⟩))
    (fun os started H enc _ => lifted os started H enc)
theorem proved : Rows.FnExactAsksWithoutSaid := over
#print axioms proved
end Go.Proofs.Ytedpgkmkdhlcaaa.fnExactAsksWithout
namespace Go.Proofs.Ytedpgkmkdhlcaaa
/-- The row, under a short name, for the claim. -/
theorem fnExactAsksWithout_holds : Rows.FnExactAsksWithoutSaid := fnExactAsksWithout.proved
end Go.Proofs.Ytedpgkmkdhlcaaa

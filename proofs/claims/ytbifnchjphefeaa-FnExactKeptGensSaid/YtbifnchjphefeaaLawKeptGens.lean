import Derived.Test.YtbifnchjphefeaaRows
import Derived.Test.YtbifnchjphefeaaOkKeptGens
import Derived.Test.YtbifnchjphefeaaPureKeptGens
import Derived.Test.YtbifnchjphefeaaIm38
import Derived.WalkKit
import Derived.ProofKit
import Derived.OpenShut
import Derived.ShutString
import Derived.ChangeOld
import Derived.Below
import Derived.SizedLaws
namespace Go.Proofs.Ytbifnchjphefeaa.fnExactKeptGens
open Go.ChangeShapes Go.WideShapes Go.ChangeAt Go.RowKit
open Go.Im Go.Told
set_option linter.unusedVariables false
theorem own : ownKnob Try.prog.godebug = none := by kernel_rfl
theorem laidOut : laidOutB Try.prog = true := by kernel_rfl

theorem rd94 {H : Type} {enc : TypeId × Value → H} {W : World} : Reads enc Try.prog W 94 (fun xs : (List Int) => [.s false 1 xs.length (xs.map eU8)]) (fun xs => xs.length ≤ maxLen ∧ ∀ y1 ∈ xs, IntKind.u8.min ≤ y1 ∧ y1 ≤ IntKind.u8.max) :=
  rd_slice (e := 5) (ec := eU8) (by kernel_rfl) (by kernel_rfl) (by decide) (rd_int (k := .u8) (by kernel_rfl)) (fun _ => rfl)

theorem rd96 {H : Type} {enc : TypeId × Value → H} {W : World} : Reads enc Try.prog W 96 (File.enc false) File.ok :=
  (rd_struct (t := 96) (fs := #[{ name := "Path", type := 9, offset := 0, embedded := false, tag := "", pkgPath := "", byteOffset := 0 }, { name := "Data", type := 94, offset := 1, embedded := false, tag := "", pkgPath := "", byteOffset := 16 }]) (tot := 2) (by kernel_rfl) (by kernel_rfl) (rf_cons (off := 0) (sz := 1) (tot := 1) (by kernel_rfl) (by kernel_rfl) (rd_str (by kernel_rfl)) (rf_cons (off := 1) (sz := 1) (tot := 0) (by kernel_rfl) (by kernel_rfl) rd94 rf_nil))).map
    (fun x => ({ Path := x.1, Data := x.2.1 } : File)) (fun _ => rfl) (fun _ h => ⟨h.1, h.2.1⟩)

theorem rd36 {H : Type} {enc : TypeId × Value → H} {W : World} : Reads enc Try.prog W 36 (fun xs : (List File) => [.s false 2 xs.length (xs.map (File.enc false))]) (fun xs => xs.length ≤ maxLen ∧ ∀ y1 ∈ xs, File.ok y1) :=
  rd_slice (e := 96) (ec := (File.enc false)) (by kernel_rfl) (by kernel_rfl) (by decide) rd96 (fun _ => rfl)

theorem rd38 {H : Type} {enc : TypeId × Value → H} {W : World} : Reads enc Try.prog W 38 (Disk.enc false) Disk.ok :=
  (rd_struct (t := 38) (fs := #[{ name := "Files", type := 36, offset := 0, embedded := false, tag := "", pkgPath := "", byteOffset := 0 }, { name := "Budget", type := 2, offset := 1, embedded := false, tag := "", pkgPath := "", byteOffset := 24 }, { name := "Writes", type := 2, offset := 2, embedded := false, tag := "", pkgPath := "", byteOffset := 32 }, { name := "Stop", type := 2, offset := 3, embedded := false, tag := "", pkgPath := "", byteOffset := 40 }, { name := "Down", type := 4, offset := 4, embedded := false, tag := "", pkgPath := "", byteOffset := 48 }]) (tot := 5) (by kernel_rfl) (by kernel_rfl) (rf_cons (off := 0) (sz := 1) (tot := 4) (by kernel_rfl) (by kernel_rfl) rd36 (rf_cons (off := 1) (sz := 1) (tot := 3) (by kernel_rfl) (by kernel_rfl) (rd_int (k := .i64) (by kernel_rfl)) (rf_cons (off := 2) (sz := 1) (tot := 2) (by kernel_rfl) (by kernel_rfl) (rd_int (k := .i64) (by kernel_rfl)) (rf_cons (off := 3) (sz := 1) (tot := 1) (by kernel_rfl) (by kernel_rfl) (rd_int (k := .i64) (by kernel_rfl)) (rf_cons (off := 4) (sz := 1) (tot := 0) (by kernel_rfl) (by kernel_rfl) (rd_bool (by kernel_rfl)) rf_nil)))))).map
    (fun x => ({ Files := x.1, Budget := x.2.1, Writes := x.2.2.1, Stop := x.2.2.2.1, Down := x.2.2.2.2.1 } : Disk)) (fun _ => rfl) (fun _ h => ⟨h.1, h.2.1, h.2.2.1, h.2.2.2.1, h.2.2.2.2.1⟩)

theorem rd23 {H : Type} {enc : TypeId × Value → H} {W : World} : Reads enc Try.prog W 23 (fun xs : (List Int) => [.s false 1 xs.length (xs.map eI64)]) (fun xs => xs.length ≤ maxLen ∧ ∀ y1 ∈ xs, IntKind.i64.min ≤ y1 ∧ y1 ≤ IntKind.i64.max) :=
  rd_slice (e := 2) (ec := eI64) (by kernel_rfl) (by kernel_rfl) (by decide) (rd_int (k := .i64) (by kernel_rfl)) (fun _ => rfl)

set_option maxRecDepth 100000 in
theorem lifted (os : Os) (started : os.Started) (H : Type) (enc : TypeId × Value → H) :
    ReturnsInHanded {} Try.checked os 4 .any (Rows.fnExactKeptGensSpec.pre6 enc Try.prog Try.f4 Rows.fnExactKeptGensRow.domain false) (Rows.fnExactKeptGensSpec.post enc Try.prog Try.f4 false true false false) := by
  refine returnsInHanded_of_change_sized (C := Try.checked) own started (by kernel_rfl) Try.func4
    (ChangeSpec.witness6 (enc := enc) (C := Try.checked) false ⟨#[], #[.agg #[.slice none 0 0, .int .i64 0, .int .i64 0, .int .i64 0, .bool false], .slice none 0 0], []⟩ 8 (by kernel_rfl) (by kernel_rfl) (by kernel_rfl) (by kernel_rfl)) ?_
  intro W base args ds gs before hval0 hW hcnd hsz0 _
  have hval : ∀ (j : Nat) t v, Try.f4.params[j]? = some t → args[j]? = some v → Value.okWide Try.prog W .any base t v := hval0
  have hW' := hW
  obtain ⟨p, q, hA0, hV, rfl, hfz, hnd⟩ := hW
  have hA : DataW.TrodAll enc Try.prog W 0 (fun _ => true) true Try.f4.params.toList args.toList ds p := hA0
  rw [Try.params4] at hA hval
  obtain ⟨v0, vs0, d0, ds0, p0, q0, hargs, rfl, rfl, h0, r0⟩ := trodAll_cons hA
  obtain ⟨v1, vs1, d1, ds1, p1, q1, rfl, rfl, rfl, h1, r1⟩ := trodAll_cons r0
  obtain ⟨rfl, rfl, rfl⟩ := trodAll_nil r1
  obtain rfl : args = #[v0, v1] := by cases args; simp_all
  obtain ⟨rfl, rfl⟩ := trodVars_none hV
  have hlt0 : ∀ x ∈ p0, x.block < W.heap.size := fun x hx => by simpa using hW'.lt x (by simp [hx])
  have s0 : ∃ cs, v0 = .agg cs := by
    obtain ⟨cs, h, _⟩ := okWide_struct Try.underlying38 (hval 0 38 v0 rfl rfl)
    exact ⟨cs, h⟩
  obtain ⟨f0, g0⟩ := h0
  obtain ⟨x0, k0, e0⟩ := (rd38 (W := W)) _ _ _ g0
  have hlt1 : ∀ x ∈ p1, x.block < W.heap.size := fun x hx => by simpa using hW'.lt x (by simp [hx])
  have s1 : v1.cells = #[v1] := by
    obtain ⟨a, l, c, rfl⟩ := okWide_slice Try.underlying23 (hval 1 23 v1 rfl rfl)
    rfl
  obtain ⟨f1, g1⟩ := h1
  obtain ⟨x1, k1, e1⟩ := (rd23 (W := W)) _ _ _ g1
  have hok := laws_FnExactKeptGens.ok x0 x1
  rw [FnExactKeptGens_law x0 x1 k0 k1] at hok
  refine (law_calls hok (vs := [v0, v1]) (fun β => args_cons (arg_struct s0 (e0 β) rfl) (args_cons (arg_one s1 (e1 β)) (args_nil)))).mono fun e W' hs => ?_
  have he := hs.1
  subst he
  exact ⟨_, rfl, _, _, _, [], _, [], hW', trodAll_mk1 (shut_bool Try.underlying4 _), trodAll_mk2 (still_trod hs laidOut (by kernel_rfl) (of_decide_eq_true (by kernel_rfl)) ⟨f0, g0⟩ hlt0) (still_trod hs laidOut (by kernel_rfl) (of_decide_eq_true (by kernel_rfl)) ⟨f1, g1⟩ hlt1), rfl, still_kept hs _, fun h => by cases h⟩
theorem over : Rows.fnExactKeptGensRow.holds Try.pinned (OpenSpec.ofChange Rows.fnExactKeptGensSpec) :=
  OpenClaim.holds_of_wide 4 Try.f4 rfl rfl rfl rfl rfl rfl rfl ⟨rfl, rfl, rfl, rfl, rfl⟩ rfl rfl rfl rfl rfl (by kernel_rfl) Try.func4 (by kernel_rfl)
    (of_decide_eq_true (by kernel_rfl)) (by unfold Func.isWrapper; first | (rw [if_pos (by decide +kernel)]; kernel_rfl) | (rw [if_neg (by decide +kernel)]; exact ⟨rfl, rfl⟩))
    (fun os started H enc _ => lifted os started H enc)
theorem proved : Rows.FnExactKeptGensSaid := over
#print axioms proved
end Go.Proofs.Ytbifnchjphefeaa.fnExactKeptGens
namespace Go.Proofs.Ytbifnchjphefeaa
/-- The row, under a short name, for the claim. -/
theorem fnExactKeptGens_holds : Rows.FnExactKeptGensSaid := fnExactKeptGens.proved
end Go.Proofs.Ytbifnchjphefeaa

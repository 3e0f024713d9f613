import Derived.Test.YtgapldhjcgnahaaRows
import Derived.Test.YtgapldhjcgnahaaOkNextGen
import Derived.Test.YtgapldhjcgnahaaPureNextGen
import Derived.Test.YtgapldhjcgnahaaIm38
import Derived.WalkKit
import Derived.ProofKit
import Derived.OpenShut
import Derived.ShutString
import Derived.ChangeOld
import Derived.Below
import Derived.SizedLaws
namespace Go.Proofs.Ytgapldhjcgnahaa.fnExactNextGen
open Go.ChangeShapes Go.WideShapes Go.ChangeAt Go.RowKit
open Go.Im Go.Told
set_option linter.unusedVariables false
theorem own : ownKnob Try.prog.godebug = none := by kernel_rfl
theorem laidOut : laidOutB Try.prog = true := by kernel_rfl

theorem rd46 {H : Type} {enc : TypeId × Value → H} {W : World} : Reads enc Try.prog W 46 (fun xs : (List Int) => [.s false 1 xs.length (xs.map eU8)]) (fun xs => xs.length ≤ maxLen ∧ ∀ y1 ∈ xs, IntKind.u8.min ≤ y1 ∧ y1 ≤ IntKind.u8.max) :=
  rd_slice (e := 5) (ec := eU8) (by kernel_rfl) (by kernel_rfl) (by decide) (rd_int (k := .u8) (by kernel_rfl)) (fun _ => rfl)

theorem rd48 {H : Type} {enc : TypeId × Value → H} {W : World} : Reads enc Try.prog W 48 (File.enc false) File.ok :=
  (rd_struct (t := 48) (fs := #[{ name := "Path", type := 9, offset := 0, embedded := false, tag := "", pkgPath := "", byteOffset := 0 }, { name := "Data", type := 46, offset := 1, embedded := false, tag := "", pkgPath := "", byteOffset := 16 }]) (tot := 2) (by kernel_rfl) (by kernel_rfl) (rf_cons (off := 0) (sz := 1) (tot := 1) (by kernel_rfl) (by kernel_rfl) (rd_str (by kernel_rfl)) (rf_cons (off := 1) (sz := 1) (tot := 0) (by kernel_rfl) (by kernel_rfl) rd46 rf_nil))).map
    (fun x => ({ Path := x.1, Data := x.2.1 } : File)) (fun _ => rfl) (fun _ h => ⟨h.1, h.2.1⟩)

theorem rd22 {H : Type} {enc : TypeId × Value → H} {W : World} : Reads enc Try.prog W 22 (fun xs : (List File) => [.s false 2 xs.length (xs.map (File.enc false))]) (fun xs => xs.length ≤ maxLen ∧ ∀ y1 ∈ xs, File.ok y1) :=
  rd_slice (e := 48) (ec := (File.enc false)) (by kernel_rfl) (by kernel_rfl) (by decide) rd48 (fun _ => rfl)

theorem rd24 {H : Type} {enc : TypeId × Value → H} {W : World} : Reads enc Try.prog W 24 (Disk.enc false) Disk.ok :=
  (rd_struct (t := 24) (fs := #[{ name := "Files", type := 22, offset := 0, embedded := false, tag := "", pkgPath := "", byteOffset := 0 }, { name := "Budget", type := 2, offset := 1, embedded := false, tag := "", pkgPath := "", byteOffset := 24 }, { name := "Writes", type := 2, offset := 2, embedded := false, tag := "", pkgPath := "", byteOffset := 32 }, { name := "Stop", type := 2, offset := 3, embedded := false, tag := "", pkgPath := "", byteOffset := 40 }, { name := "Down", type := 4, offset := 4, embedded := false, tag := "", pkgPath := "", byteOffset := 48 }]) (tot := 5) (by kernel_rfl) (by kernel_rfl) (rf_cons (off := 0) (sz := 1) (tot := 4) (by kernel_rfl) (by kernel_rfl) rd22 (rf_cons (off := 1) (sz := 1) (tot := 3) (by kernel_rfl) (by kernel_rfl) (rd_int (k := .i64) (by kernel_rfl)) (rf_cons (off := 2) (sz := 1) (tot := 2) (by kernel_rfl) (by kernel_rfl) (rd_int (k := .i64) (by kernel_rfl)) (rf_cons (off := 3) (sz := 1) (tot := 1) (by kernel_rfl) (by kernel_rfl) (rd_int (k := .i64) (by kernel_rfl)) (rf_cons (off := 4) (sz := 1) (tot := 0) (by kernel_rfl) (by kernel_rfl) (rd_bool (by kernel_rfl)) rf_nil)))))).map
    (fun x => ({ Files := x.1, Budget := x.2.1, Writes := x.2.2.1, Stop := x.2.2.2.1, Down := x.2.2.2.2.1 } : Disk)) (fun _ => rfl) (fun _ h => ⟨h.1, h.2.1, h.2.2.1, h.2.2.2.1, h.2.2.2.2.1⟩)

set_option maxRecDepth 100000 in
theorem lifted (os : Os) (started : os.Started) (H : Type) (enc : TypeId × Value → H) :
    ReturnsInHanded {} Try.checked os 5 .any (Rows.fnExactNextGenSpec.pre6 enc Try.prog Try.f5 Rows.fnExactNextGenRow.domain false) (Rows.fnExactNextGenSpec.post enc Try.prog Try.f5 false true false false) := by
  refine returnsInHanded_of_change_sized (C := Try.checked) own started (by kernel_rfl) Try.func5
    (ChangeSpec.witness6 (enc := enc) (C := Try.checked) false ⟨#[], #[.agg #[.slice none 0 0, .int .i64 0, .int .i64 0, .int .i64 0, .bool false]], []⟩ 8 (by kernel_rfl) (by kernel_rfl) (by kernel_rfl) (by kernel_rfl)) ?_
  intro W base args ds gs before hval0 hW hcnd hsz0 _
  have hval : ∀ (j : Nat) t v, Try.f5.params[j]? = some t → args[j]? = some v → Value.okWide Try.prog W .any base t v := hval0
  have hW' := hW
  obtain ⟨p, q, hA0, hV, rfl, hfz, hnd⟩ := hW
  have hA : DataW.TrodAll enc Try.prog W 0 (fun _ => true) true Try.f5.params.toList args.toList ds p := hA0
  rw [Try.params5] at hA hval
  obtain ⟨v0, vs0, d0, ds0, p0, q0, hargs, rfl, rfl, h0, r0⟩ := trodAll_cons hA
  obtain ⟨rfl, rfl, rfl⟩ := trodAll_nil r0
  obtain rfl : args = #[v0] := by cases args; simp_all
  obtain ⟨rfl, rfl⟩ := trodVars_none hV
  have hlt0 : ∀ x ∈ p0, x.block < W.heap.size := fun x hx => by simpa using hW'.lt x (by simp [hx])
  have s0 : ∃ cs, v0 = .agg cs := by
    obtain ⟨cs, h, _⟩ := okWide_struct Try.underlying24 (hval 0 24 v0 rfl rfl)
    exact ⟨cs, h⟩
  obtain ⟨f0, g0⟩ := h0
  obtain ⟨x0, k0, e0⟩ := (rd24 (W := W)) _ _ _ g0
  have hok := laws_FnExactNextGen.ok x0
  rw [FnExactNextGen_law x0 k0] at hok
  refine (law_calls hok (vs := [v0]) (fun β => args_cons (arg_struct s0 (e0 β) rfl) (args_nil))).mono fun e W' hs => ?_
  have he := hs.1
  subst he
  exact ⟨_, rfl, _, _, _, [], _, [], hW', trodAll_mk1 (shut_bool Try.underlying4 _), trodAll_mk1 (still_trod hs laidOut (by kernel_rfl) (of_decide_eq_true (by kernel_rfl)) ⟨f0, g0⟩ hlt0), rfl, still_kept hs _, fun h => by cases h⟩
theorem over : Rows.fnExactNextGenRow.holds Try.pinned (OpenSpec.ofChange Rows.fnExactNextGenSpec) :=
  OpenClaim.holds_of_wide 5 Try.f5 rfl rfl rfl rfl rfl rfl rfl ⟨rfl, rfl, rfl, rfl, rfl⟩ rfl rfl rfl rfl rfl (by kernel_rfl) Try.func5 (by kernel_rfl)
    (of_decide_eq_true (by kernel_rfl)) (by unfold Func.isWrapper; first | (rw [if_pos (by decide +kernel)]; kernel_rfl) | (rw [if_neg (by decide +kernel)]; exact ⟨rfl, rfl⟩))
    (fun os started H enc _ => lifted os started H enc)
theorem proved : Rows.FnExactNextGenSaid := over
#print axioms proved
end Go.Proofs.Ytgapldhjcgnahaa.fnExactNextGen
namespace Go.Proofs.Ytgapldhjcgnahaa
/-- The row, under a short name, for the claim. -/
theorem fnExactNextGen_holds : Rows.FnExactNextGenSaid := fnExactNextGen.proved
end Go.Proofs.Ytgapldhjcgnahaa

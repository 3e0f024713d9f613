import Derived.Test.YtbifnchjphefeaaGreatDoorCards
import Derived.Test.YtbifnchjphefeaaGreatDoorTie
import Derived.Test.YtbifnchjphefeaaGreatDoorOkRootsOf
import Derived.Test.YtbifnchjphefeaaGreatDoorPureRootsOf
import Derived.Test.YtbifnchjphefeaaGreatDoorImF
import Derived.WalkKit
import Derived.ProofKit
import Derived.OpenShut
import Derived.ShutString
import Derived.ChangeOld
import Derived.Below
import Derived.SizedLaws
import Derived.LaidHandle
import Derived.MakeChecks
import Derived.LaidMore
import Derived.Lay
import Derived.SevenTiedAt
import Derived.Stop.Joined
namespace Go.Proofs.YtbifnchjphefeaaGreatDoor.fnExactRootsOf
open Go.ChangeShapes Go.WideShapes Go.ChangeAt Go.RowKit
open Go.Im Go.Told
set_option linter.unusedVariables false
theorem own : ownKnob Tryz.prog.godebug = none := by kernel_rfl
theorem laidOut : laidOutB Tryz.prog = true := by kernel_rfl

theorem rd119 {H : Type} {enc : TypeId × Value → H} {W : World} : Reads enc Tryz.prog W 119 (fun xs : (List Int) => [.s false 1 xs.length (xs.map eU8)]) (fun xs => xs.length ≤ maxLen ∧ ∀ y1 ∈ xs, IntKind.u8.min ≤ y1 ∧ y1 ≤ IntKind.u8.max) :=
  rd_slice (e := 5) (ec := eU8) (by kernel_rfl) (by kernel_rfl) (by decide) (rd_int (k := .u8) (by kernel_rfl)) (fun _ => rfl)

theorem rd139 {H : Type} {enc : TypeId × Value → H} {W : World} : Reads enc Tryz.prog W 139 (File.enc false) File.ok :=
  (rd_struct (t := 139) (fs := #[{ name := "Path", type := 9, offset := 0, embedded := false, tag := "", pkgPath := "", byteOffset := 0 }, { name := "Data", type := 119, offset := 1, embedded := false, tag := "", pkgPath := "", byteOffset := 16 }]) (tot := 2) (by kernel_rfl) (by kernel_rfl) (rf_cons (off := 0) (sz := 1) (tot := 1) (by kernel_rfl) (by kernel_rfl) (rd_str (by kernel_rfl)) (rf_cons (off := 1) (sz := 1) (tot := 0) (by kernel_rfl) (by kernel_rfl) rd119 rf_nil))).map
    (fun x => ({ Path := x.1, Data := x.2.1 } : File)) (fun _ => rfl) (fun _ h => ⟨h.1, h.2.1⟩)

theorem rd38 {H : Type} {enc : TypeId × Value → H} {W : World} : Reads enc Tryz.prog W 38 (fun xs : (List File) => [.s false 2 xs.length (xs.map (File.enc false))]) (fun xs => xs.length ≤ maxLen ∧ ∀ y1 ∈ xs, File.ok y1) :=
  rd_slice (e := 139) (ec := (File.enc false)) (by kernel_rfl) (by kernel_rfl) (by decide) rd139 (fun _ => rfl)

theorem rd40 {H : Type} {enc : TypeId × Value → H} {W : World} : Reads enc Tryz.prog W 40 (Disk.enc false) Disk.ok :=
  (rd_struct (t := 40) (fs := #[{ name := "Files", type := 38, offset := 0, embedded := false, tag := "", pkgPath := "", byteOffset := 0 }, { name := "Budget", type := 2, offset := 1, embedded := false, tag := "", pkgPath := "", byteOffset := 24 }, { name := "Writes", type := 2, offset := 2, embedded := false, tag := "", pkgPath := "", byteOffset := 32 }, { name := "Stop", type := 2, offset := 3, embedded := false, tag := "", pkgPath := "", byteOffset := 40 }, { name := "Down", type := 4, offset := 4, embedded := false, tag := "", pkgPath := "", byteOffset := 48 }]) (tot := 5) (by kernel_rfl) (by kernel_rfl) (rf_cons (off := 0) (sz := 1) (tot := 4) (by kernel_rfl) (by kernel_rfl) rd38 (rf_cons (off := 1) (sz := 1) (tot := 3) (by kernel_rfl) (by kernel_rfl) (rd_int (k := .i64) (by kernel_rfl)) (rf_cons (off := 2) (sz := 1) (tot := 2) (by kernel_rfl) (by kernel_rfl) (rd_int (k := .i64) (by kernel_rfl)) (rf_cons (off := 3) (sz := 1) (tot := 1) (by kernel_rfl) (by kernel_rfl) (rd_int (k := .i64) (by kernel_rfl)) (rf_cons (off := 4) (sz := 1) (tot := 0) (by kernel_rfl) (by kernel_rfl) (rd_bool (by kernel_rfl)) rf_nil)))))).map
    (fun x => ({ Files := x.1, Budget := x.2.1, Writes := x.2.2.1, Stop := x.2.2.2.1, Down := x.2.2.2.2.1 } : Disk)) (fun _ => rfl) (fun _ h => ⟨h.1, h.2.1, h.2.2.1, h.2.2.2.1, h.2.2.2.2.1⟩)

set_option maxRecDepth 100000 in
theorem tables {W : World} (hS : W.ShapedOpen Tryz.prog) (h : laidMetH Tryz.prog Rows.fnExactRootsOfRow.laid W) : ∀ q ∈ gtab Tryz.prog, q.1 < W.heap.size ∧ Tab W q.1 q.2 := by
  rw [MakeChecks.laidMetH_plain _ _ _ (by kernel_rfl)] at h
  have e : gtab Tryz.prog = [(0, (fun ws => ∃ m, ws = [.int .i64 m])), (1, (· = ([1, 10, 100, 1000, 10000, 100000, 1000000, 10000000, 100000000, 1000000000, 10000000000, 100000000000, 1000000000000, 10000000000000, 100000000000000, 1000000000000000, 10000000000000000, 100000000000000000, 1000000000000000000, 10000000000000000000] : List Int).map fun z => Value.int .u64 z)), (4, (· = ([0, 1, 28, 2, 29, 14, 24, 3, 30, 22, 20, 15, 25, 17, 4, 8, 31, 27, 13, 23, 21, 19, 16, 7, 26, 12, 18, 6, 11, 5, 10, 9] : List Int).map fun z => Value.int .u8 z)), (5, (· = ([0, 1, 56, 2, 57, 49, 28, 3, 61, 58, 42, 50, 38, 29, 17, 4, 62, 47, 59, 36, 45, 43, 51, 22, 53, 39, 33, 30, 24, 18, 12, 5, 63, 55, 48, 27, 60, 41, 37, 16, 46, 35, 44, 21, 52, 32, 23, 11, 54, 26, 40, 15, 34, 20, 31, 10, 25, 14, 19, 9, 13, 8, 7, 6] : List Int).map fun z => Value.int .u8 z))] := by kernel_rfl
  rw [e]
  intro q hq
  simp only [List.mem_cons, List.not_mem_nil, or_false] at hq
  rcases hq with rfl | rfl | rfl | rfl
  · exact tab_of_shaped (g := 0) (zero := #[.int .i64 0]) (t := 3) hS (of_decide_eq_true (by kernel_rfl)) (by kernel_rfl) rfl (by kernel_rfl) (by kernel_rfl) Tryz.underlying3
  · exact tab_of_laid (name := "internal/strconv.uint64pow10") (g := 1) (n := 20) (t := 244) (e := 227) (k := .u64) (zs := [1, 10, 100, 1000, 10000, 100000, 1000000, 10000000, 100000000, 1000000000, 10000000000, 100000000000, 1000000000000, 10000000000000, 100000000000000, 1000000000000000, 10000000000000000, 100000000000000000, 1000000000000000000, 10000000000000000000]) h (by kernel_rfl) (by kernel_rfl) (by kernel_rfl) (by kernel_rfl) (by kernel_rfl) (by kernel_rfl) (by kernel_rfl)
  · exact tab_of_laid (name := "math/bits.deBruijn32tab") (g := 4) (n := 32) (t := 254) (e := 5) (k := .u8) (zs := [0, 1, 28, 2, 29, 14, 24, 3, 30, 22, 20, 15, 25, 17, 4, 8, 31, 27, 13, 23, 21, 19, 16, 7, 26, 12, 18, 6, 11, 5, 10, 9]) h (by kernel_rfl) (by kernel_rfl) (by kernel_rfl) (by kernel_rfl) (by kernel_rfl) (by kernel_rfl) (by kernel_rfl)
  · exact tab_of_laid (name := "math/bits.deBruijn64tab") (g := 5) (n := 64) (t := 255) (e := 5) (k := .u8) (zs := [0, 1, 56, 2, 57, 49, 28, 3, 61, 58, 42, 50, 38, 29, 17, 4, 62, 47, 59, 36, 45, 43, 51, 22, 53, 39, 33, 30, 24, 18, 12, 5, 63, 55, 48, 27, 60, 41, 37, 16, 46, 35, 44, 21, 52, 32, 23, 11, 54, 26, 40, 15, 34, 20, 31, 10, 25, 14, 19, 9, 13, 8, 7, 6]) h (by kernel_rfl) (by kernel_rfl) (by kernel_rfl) (by kernel_rfl) (by kernel_rfl) (by kernel_rfl) (by kernel_rfl)
set_option maxRecDepth 100000 in
theorem lifted (os : Os) (started : os.Started) (H : Type) (enc : TypeId × Value → H) :
    ReturnsInHanded {} Tryz.checked os 6 .any (fun w args => (Rows.fnExactRootsOfSpec.pre enc Tryz.prog Tryz.f6 [] false w args ∧ laidMetH Tryz.prog Rows.fnExactRootsOfRow.laid w) ∧ sizedMet enc Tryz.prog Tryz.f6 (OpenSpec.ofChange Rows.fnExactRootsOfSpec) false w args) (Rows.fnExactRootsOfSpec.post enc Tryz.prog Tryz.f6 false true false false) := by
  refine returnsInHanded_shaped (C := Tryz.checked) (X := fun w _ => laidMetH Tryz.prog Rows.fnExactRootsOfRow.laid w) (fun _ _ _ hh h => h.of_heap hh) own started (by kernel_rfl) Tryz.func6
    (ChangeSpec.witness_shaped (enc := enc) (C := Tryz.checked) (os := os) (X := fun w _ => laidMetH Tryz.prog Rows.fnExactRootsOfRow.laid w) false (World.laidAll Tryz.prog os Rows.fnExactRootsOfRow.laid) #[.agg #[.slice none 0 0, .int .i64 0, .int .i64 0, .int .i64 0, .bool false]] 8 (World.laidAll_os _ _ _) (World.shaped_of_ZipB (by kernel_rfl) (by kernel_rfl)) (by kernel_rfl) (by kernel_rfl) (by kernel_rfl)
      (by rw [MakeChecks.laidMetH_plain _ _ _ (by kernel_rfl)]; exact laidMet_laidAll _ (by kernel_rfl) (by kernel_rfl))) ?_
  intro W base args ds gs before hS hval0 hW hcnd hsz0 hL _
  have hval : ∀ (j : Nat) t v, Tryz.f6.params[j]? = some t → args[j]? = some v → Value.okWide Tryz.prog W .any base t v := hval0
  have hW' := hW
  obtain ⟨p, q, hA0, hV, rfl, hfz, hnd⟩ := hW
  have hA : DataW.TrodAll enc Tryz.prog W 0 (fun _ => true) true Tryz.f6.params.toList args.toList ds p := hA0
  rw [Tryz.params6] at hA hval
  obtain ⟨v0, vs0, d0, ds0, p0, q0, hargs, rfl, rfl, h0, r0⟩ := trodAll_cons hA
  obtain ⟨rfl, rfl, rfl⟩ := trodAll_nil r0
  obtain rfl : args = #[v0] := by cases args; simp_all
  obtain ⟨rfl, rfl⟩ := trodVars_none hV
  have hlt0 : ∀ x ∈ p0, x.block < W.heap.size := fun x hx => by simpa using hW'.lt x (by simp [hx])
  have s0 : ∃ cs, v0 = .agg cs := by
    obtain ⟨cs, h, _⟩ := okWide_struct Tryz.underlying40 (hval 0 40 v0 rfl rfl)
    exact ⟨cs, h⟩
  obtain ⟨f0, g0⟩ := h0
  obtain ⟨x0, k0, e0⟩ := (rd40 (W := W)) _ _ _ g0
  have hok := laws_FnExactRootsOf.ok x0
  rw [FnExactRootsOf_law x0 k0] at hok
  refine (law_calls hok (vs := [v0]) (fun β => args_cons (arg_struct s0 (e0 β) rfl) (args_nil)) (tables hS hL)).mono fun e W' hs => ?_
  have he := hs.1
  subst he
  exact ⟨_, rfl, _, _, _, [], _, [], hW', trodAll_mk1 (shut_bool Tryz.underlying4 _), trodAll_mk1 (still_trod hs laidOut (by kernel_rfl) (of_decide_eq_true (by kernel_rfl)) ⟨f0, g0⟩ hlt0), rfl, still_kept hs _, fun h => by cases h⟩
theorem over : Rows.fnExactRootsOfRow.holds Tryz.pinned (OpenSpec.ofChange Rows.fnExactRootsOfSpec) :=
  OpenClaim.holds_of_wide 6 Tryz.f6 rfl rfl rfl rfl rfl rfl rfl ⟨rfl, rfl, rfl, rfl, rfl⟩ rfl rfl rfl rfl rfl (by kernel_rfl) Tryz.func6 (by kernel_rfl)
    (of_decide_eq_true (by kernel_rfl)) (by unfold Func.isWrapper; first | (rw [if_pos (by decide +kernel)]; kernel_rfl) | (rw [if_neg (by decide +kernel)]; exact ⟨rfl, rfl⟩))
    (fun os started H enc _ => lifted os started H enc)
theorem proved : Rows.FnExactRootsOfSaid := over
#print axioms proved
end Go.Proofs.YtbifnchjphefeaaGreatDoor.fnExactRootsOf
namespace Go.Proofs.YtbifnchjphefeaaGreatDoor
/-- The row, under a short name, for the claim. -/
theorem fnExactRootsOf_holds : Rows.FnExactRootsOfCardSaid :=
  Claim7.holds_tied_plain_at .later [] [.data, .data, .data, .data, .pinned] true (true, "bc4257164c16117cb69ce6079ea44494d1d2504f766e5df404e7dda8f84e28be") false
    fnExactRootsOf.proved (fun _ h => by cases h) (by kernel_rfl) (fun _ h => by cases h) fnExactRootsOf_row_tie rfl ⟨rfl, rfl⟩ (by kernel_rfl) rfl
    (fun f fn hf hfn => by
      obtain rfl : f = 6 := Option.some.inj ((show Tryz.prog.funcNamed "loop.example/g00090/laws.FnExactRootsOf" = some 6 by kernel_rfl).symm.trans hf) |>.symm
      obtain rfl : fn = Tryz.f6 := (Option.some.inj (Tryz.func6.symm.trans hfn)).symm
      exact ⟨by kernel_rfl, fun j t ht => by
        rw [Tryz.params6] at ht
        have h3 : Tryz.prog.wantsStandIn t = false := by
          have hm := Array.mem_of_getElem? ht
          simp only [List.mem_toArray, List.mem_cons, List.not_mem_nil, or_false] at hm
          rcases hm with rfl
          · exact (show Tryz.prog.wantsStandIn 40 = false by kernel_rfl)
        exact h3⟩)
    (by kernel_rfl)
#print axioms fnExactRootsOf_holds
end Go.Proofs.YtbifnchjphefeaaGreatDoor

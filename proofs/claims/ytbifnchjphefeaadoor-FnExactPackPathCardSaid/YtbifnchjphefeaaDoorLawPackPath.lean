import Derived.Test.YtbifnchjphefeaaDoorCards
import Derived.Test.YtbifnchjphefeaaDoorTie
import Derived.Test.YtbifnchjphefeaaDoorOkPackPath
import Derived.Test.YtbifnchjphefeaaDoorPurePackPath
import Derived.Test.YtbifnchjphefeaaDoorImF
import Derived.WalkKit
import Derived.ProofKit
import Derived.OpenShut
import Derived.ShutString
import Derived.ChangeOld
import Derived.Below
import Derived.SizedLaws
import Derived.LaidHandle
import Derived.MakeChecks
import Derived.LaidMore
import Derived.Stop.Joined
namespace Go.Proofs.YtbifnchjphefeaaDoor.fnExactPackPath
open Go.ChangeShapes Go.WideShapes Go.ChangeAt Go.RowKit
open Go.Im Go.Told
set_option linter.unusedVariables false
theorem own : ownKnob Tryd.prog.godebug = none := by kernel_rfl
theorem laidOut : laidOutB Tryd.prog = true := by kernel_rfl

theorem rd32 {H : Type} {enc : TypeId × Value → H} {W : World} : Reads enc Tryd.prog W 32 Version.enc Version.ok :=
  (rd_struct (t := 32) (fs := #[{ name := "A", type := 2, offset := 0, embedded := false, tag := "", pkgPath := "", byteOffset := 0 }, { name := "B", type := 2, offset := 1, embedded := false, tag := "", pkgPath := "", byteOffset := 8 }, { name := "C", type := 2, offset := 2, embedded := false, tag := "", pkgPath := "", byteOffset := 16 }]) (tot := 3) (by kernel_rfl) (by kernel_rfl) (rf_cons (off := 0) (sz := 1) (tot := 2) (by kernel_rfl) (by kernel_rfl) (rd_int (k := .i64) (by kernel_rfl)) (rf_cons (off := 1) (sz := 1) (tot := 1) (by kernel_rfl) (by kernel_rfl) (rd_int (k := .i64) (by kernel_rfl)) (rf_cons (off := 2) (sz := 1) (tot := 0) (by kernel_rfl) (by kernel_rfl) (rd_int (k := .i64) (by kernel_rfl)) rf_nil)))).map
    (fun x => ({ A := x.1, B := x.2.1, C := x.2.2.1 } : Version)) (fun _ => rfl) (fun _ h => ⟨h.1, h.2.1, h.2.2.1⟩)

theorem rd33 {H : Type} {enc : TypeId × Value → H} {W : World} : Reads enc Tryd.prog W 33 (fun xs : (List ByteArray) => [.s false 1 xs.length (xs.map eStr)]) (fun xs => xs.length ≤ maxLen ∧ ∀ y1 ∈ xs, y1.size ≤ maxLen) :=
  rd_slice (e := 9) (ec := eStr) (by kernel_rfl) (by kernel_rfl) (by decide) (rd_str (by kernel_rfl)) (fun _ => rfl)

theorem rd57 {H : Type} {enc : TypeId × Value → H} {W : World} : Reads enc Tryd.prog W 57 Term.enc Term.ok :=
  (rd_struct (t := 57) (fs := #[{ name := "Name", type := 9, offset := 0, embedded := false, tag := "", pkgPath := "", byteOffset := 0 }, { name := "Low", type := 32, offset := 1, embedded := false, tag := "", pkgPath := "", byteOffset := 16 }, { name := "High", type := 32, offset := 4, embedded := false, tag := "", pkgPath := "", byteOffset := 40 }]) (tot := 7) (by kernel_rfl) (by kernel_rfl) (rf_cons (off := 0) (sz := 1) (tot := 6) (by kernel_rfl) (by kernel_rfl) (rd_str (by kernel_rfl)) (rf_cons (off := 1) (sz := 3) (tot := 3) (by kernel_rfl) (by kernel_rfl) rd32 (rf_cons (off := 4) (sz := 3) (tot := 0) (by kernel_rfl) (by kernel_rfl) rd32 rf_nil)))).map
    (fun x => ({ Name := x.1, Low := x.2.1, High := x.2.2.1 } : Term)) (fun _ => rfl) (fun _ h => ⟨h.1, h.2.1, h.2.2.1⟩)

theorem rd24 {H : Type} {enc : TypeId × Value → H} {W : World} : Reads enc Tryd.prog W 24 (fun xs : (List Term) => [.s false 7 xs.length (xs.map Term.enc)]) (fun xs => xs.length ≤ maxLen ∧ ∀ y1 ∈ xs, Term.ok y1) :=
  rd_slice (e := 57) (ec := Term.enc) (by kernel_rfl) (by kernel_rfl) (by decide) rd57 (fun _ => rfl)

theorem rd34 {H : Type} {enc : TypeId × Value → H} {W : World} : Reads enc Tryd.prog W 34 (fun xs : (List (List Term)) => [.s false 1 xs.length (xs.map (eSl false 7 Term.enc))]) (fun xs => xs.length ≤ maxLen ∧ ∀ y1 ∈ xs, y1.length ≤ maxLen ∧ ∀ y2 ∈ y1, Term.ok y2) :=
  rd_slice (e := 24) (ec := (eSl false 7 Term.enc)) (by kernel_rfl) (by kernel_rfl) (by decide) rd24 (fun _ => rfl)

theorem rd36 {H : Type} {enc : TypeId × Value → H} {W : World} : Reads enc Tryd.prog W 36 (Pack.enc false) Pack.ok :=
  (rd_struct (t := 36) (fs := #[{ name := "Name", type := 9, offset := 0, embedded := false, tag := "", pkgPath := "", byteOffset := 0 }, { name := "Version", type := 32, offset := 1, embedded := false, tag := "", pkgPath := "", byteOffset := 16 }, { name := "Size", type := 2, offset := 4, embedded := false, tag := "", pkgPath := "", byteOffset := 40 }, { name := "Provides", type := 33, offset := 5, embedded := false, tag := "", pkgPath := "", byteOffset := 48 }, { name := "Needs", type := 34, offset := 6, embedded := false, tag := "", pkgPath := "", byteOffset := 72 }, { name := "Bars", type := 24, offset := 7, embedded := false, tag := "", pkgPath := "", byteOffset := 96 }]) (tot := 8) (by kernel_rfl) (by kernel_rfl) (rf_cons (off := 0) (sz := 1) (tot := 7) (by kernel_rfl) (by kernel_rfl) (rd_str (by kernel_rfl)) (rf_cons (off := 1) (sz := 3) (tot := 4) (by kernel_rfl) (by kernel_rfl) rd32 (rf_cons (off := 4) (sz := 1) (tot := 3) (by kernel_rfl) (by kernel_rfl) (rd_int (k := .i64) (by kernel_rfl)) (rf_cons (off := 5) (sz := 1) (tot := 2) (by kernel_rfl) (by kernel_rfl) rd33 (rf_cons (off := 6) (sz := 1) (tot := 1) (by kernel_rfl) (by kernel_rfl) rd34 (rf_cons (off := 7) (sz := 1) (tot := 0) (by kernel_rfl) (by kernel_rfl) rd24 rf_nil))))))).map
    (fun x => ({ Name := x.1, Version := x.2.1, Size := x.2.2.1, Provides := x.2.2.2.1, Needs := x.2.2.2.2.1, Bars := x.2.2.2.2.2.1 } : Pack)) (fun _ => rfl) (fun _ h => ⟨h.1, h.2.1, h.2.2.1, h.2.2.2.1, h.2.2.2.2.1, h.2.2.2.2.2.1⟩)

set_option maxRecDepth 100000 in
theorem tables {W : World} (h : laidMetH Tryd.prog Rows.fnExactPackPathRow.laid W) : ∀ q ∈ gtab Tryd.prog, q.1 < W.heap.size ∧ Tab W q.1 q.2 := by
  rw [MakeChecks.laidMetH_plain _ _ _ (by kernel_rfl)] at h
  have e : gtab Tryd.prog = [(1, ([1, 10, 100, 1000, 10000, 100000, 1000000, 10000000, 100000000, 1000000000, 10000000000, 100000000000, 1000000000000, 10000000000000, 100000000000000, 1000000000000000, 10000000000000000, 100000000000000000, 1000000000000000000, 10000000000000000000] : List Int).map fun z => Value.int .u64 z), (2, ([0, 1, 28, 2, 29, 14, 24, 3, 30, 22, 20, 15, 25, 17, 4, 8, 31, 27, 13, 23, 21, 19, 16, 7, 26, 12, 18, 6, 11, 5, 10, 9] : List Int).map fun z => Value.int .u8 z), (3, ([0, 1, 56, 2, 57, 49, 28, 3, 61, 58, 42, 50, 38, 29, 17, 4, 62, 47, 59, 36, 45, 43, 51, 22, 53, 39, 33, 30, 24, 18, 12, 5, 63, 55, 48, 27, 60, 41, 37, 16, 46, 35, 44, 21, 52, 32, 23, 11, 54, 26, 40, 15, 34, 20, 31, 10, 25, 14, 19, 9, 13, 8, 7, 6] : List Int).map fun z => Value.int .u8 z)] := by kernel_rfl
  rw [e]
  intro q hq
  simp only [List.mem_cons, List.not_mem_nil, or_false] at hq
  rcases hq with rfl | rfl | rfl
  · exact tab_of_laid (name := "internal/strconv.uint64pow10") (g := 1) (n := 20) (t := 147) (e := 127) (k := .u64) (zs := [1, 10, 100, 1000, 10000, 100000, 1000000, 10000000, 100000000, 1000000000, 10000000000, 100000000000, 1000000000000, 10000000000000, 100000000000000, 1000000000000000, 10000000000000000, 100000000000000000, 1000000000000000000, 10000000000000000000]) h (by kernel_rfl) (by kernel_rfl) (by kernel_rfl) (by kernel_rfl) (by kernel_rfl) (by kernel_rfl) (by kernel_rfl)
  · exact tab_of_laid (name := "math/bits.deBruijn32tab") (g := 2) (n := 32) (t := 152) (e := 5) (k := .u8) (zs := [0, 1, 28, 2, 29, 14, 24, 3, 30, 22, 20, 15, 25, 17, 4, 8, 31, 27, 13, 23, 21, 19, 16, 7, 26, 12, 18, 6, 11, 5, 10, 9]) h (by kernel_rfl) (by kernel_rfl) (by kernel_rfl) (by kernel_rfl) (by kernel_rfl) (by kernel_rfl) (by kernel_rfl)
  · exact tab_of_laid (name := "math/bits.deBruijn64tab") (g := 3) (n := 64) (t := 153) (e := 5) (k := .u8) (zs := [0, 1, 56, 2, 57, 49, 28, 3, 61, 58, 42, 50, 38, 29, 17, 4, 62, 47, 59, 36, 45, 43, 51, 22, 53, 39, 33, 30, 24, 18, 12, 5, 63, 55, 48, 27, 60, 41, 37, 16, 46, 35, 44, 21, 52, 32, 23, 11, 54, 26, 40, 15, 34, 20, 31, 10, 25, 14, 19, 9, 13, 8, 7, 6]) h (by kernel_rfl) (by kernel_rfl) (by kernel_rfl) (by kernel_rfl) (by kernel_rfl) (by kernel_rfl) (by kernel_rfl)
theorem door_met (os : Os) (args : Array Value) : laidMetH Tryd.prog Rows.fnExactPackPathRow.laid ((World.doorLaid Tryd.prog 400 os).forCall (fun _ _ => 0) ⟨#[], args, []⟩).memory :=
  laidMetH_of_parts3 (fuel := 8) (laidMet_of_run' 65 (by kernel_rfl) (by kernel_rfl)) (by kernel_rfl) (by kernel_rfl)

set_option maxRecDepth 100000 in
theorem lifted (os : Os) (started : os.Started) (H : Type) (enc : TypeId × Value → H) :
    ReturnsInHanded {} Tryd.checked os 5 .any (fun w args => (Rows.fnExactPackPathSpec.pre enc Tryd.prog Tryd.f5 [] false w args ∧ laidMetH Tryd.prog Rows.fnExactPackPathRow.laid w) ∧ sizedMet enc Tryd.prog Tryd.f5 (OpenSpec.ofChange Rows.fnExactPackPathSpec) false w args) (Rows.fnExactPackPathSpec.post enc Tryd.prog Tryd.f5 false true false false) := by
  refine returnsInHanded_of_change_and (C := Tryd.checked) (X := fun w _ => laidMetH Tryd.prog Rows.fnExactPackPathRow.laid w) (fun _ _ _ hh h => h.of_heap hh) own started (by kernel_rfl) Tryd.func5
    (ChangeSpec.witness_shaped (enc := enc) (C := Tryd.checked) (os := os) (X := fun w _ => laidMetH Tryd.prog Rows.fnExactPackPathRow.laid w) false (World.doorLaid Tryd.prog 400 os) #[.agg #[.string ByteArray.empty, .int .i64 0, .int .i64 0, .int .i64 0, .int .i64 0, .slice none 0 0, .slice none 0 0, .slice none 0 0]] 8 rfl (World.shaped_of_RefB (by kernel_rfl) (by kernel_rfl)) (by kernel_rfl) (by kernel_rfl) (by kernel_rfl) (door_met os _)) ?_
  intro W base args ds gs before hval0 hW hcnd hsz0 hL _
  have hval : ∀ (j : Nat) t v, Tryd.f5.params[j]? = some t → args[j]? = some v → Value.okWide Tryd.prog W .any base t v := hval0
  have hW' := hW
  obtain ⟨p, q, hA0, hV, rfl, hfz, hnd⟩ := hW
  have hA : DataW.TrodAll enc Tryd.prog W 0 (fun _ => true) true Tryd.f5.params.toList args.toList ds p := hA0
  rw [Tryd.params5] at hA hval
  obtain ⟨v0, vs0, d0, ds0, p0, q0, hargs, rfl, rfl, h0, r0⟩ := trodAll_cons hA
  obtain ⟨rfl, rfl, rfl⟩ := trodAll_nil r0
  obtain rfl : args = #[v0] := by cases args; simp_all
  obtain ⟨rfl, rfl⟩ := trodVars_none hV
  have hlt0 : ∀ x ∈ p0, x.block < W.heap.size := fun x hx => by simpa using hW'.lt x (by simp [hx])
  have s0 : ∃ cs, v0 = .agg cs := by
    obtain ⟨cs, h, _⟩ := okWide_struct Tryd.underlying36 (hval 0 36 v0 rfl rfl)
    exact ⟨cs, h⟩
  obtain ⟨f0, g0⟩ := h0
  obtain ⟨x0, k0, e0⟩ := (rd36 (W := W)) _ _ _ g0
  have hok := laws_FnExactPackPath.ok x0
  rw [FnExactPackPath_law x0 k0] at hok
  refine (law_calls hok (vs := [v0]) (fun β => args_cons (arg_struct s0 (e0 β) rfl) (args_nil)) (tables hL)).mono fun e W' hs => ?_
  have he := hs.1
  subst he
  exact ⟨_, rfl, _, _, _, [], _, [], hW', trodAll_mk1 (shut_bool Tryd.underlying4 _), trodAll_mk1 (still_trod hs laidOut (by kernel_rfl) (of_decide_eq_true (by kernel_rfl)) ⟨f0, g0⟩ hlt0), rfl, still_kept hs _, fun h => by cases h⟩
theorem over : Rows.fnExactPackPathRow.holds Tryd.pinned (OpenSpec.ofChange Rows.fnExactPackPathSpec) :=
  OpenClaim.holds_of_wide 5 Tryd.f5 rfl rfl rfl rfl rfl rfl rfl ⟨rfl, rfl, rfl, rfl, rfl⟩ rfl rfl rfl rfl rfl (by kernel_rfl) Tryd.func5 (by kernel_rfl)
    (of_decide_eq_true (by kernel_rfl)) (by unfold Func.isWrapper; first | (rw [if_pos (by decide +kernel)]; kernel_rfl) | (rw [if_neg (by decide +kernel)]; exact ⟨rfl, rfl⟩))
    (fun os started H enc _ => lifted os started H enc)
theorem proved : Rows.FnExactPackPathSaid := over
#print axioms proved
end Go.Proofs.YtbifnchjphefeaaDoor.fnExactPackPath
namespace Go.Proofs.YtbifnchjphefeaaDoor
/-- The row, under a short name, for the claim. -/
theorem fnExactPackPath_holds : Rows.FnExactPackPathCardSaid :=
  Claim7.holds_tied_plain_at .later [] [.data, .data, .data] true (true, "f9921b52bf9e9a2216d243f51857b13de12260ba7bd0bf519306552291fc8888") false
    fnExactPackPath.proved (fun _ h => by cases h) (by kernel_rfl) (fun _ h => by cases h) fnExactPackPath_row_tie rfl ⟨rfl, rfl⟩ (by kernel_rfl) rfl
    (fun f fn hf hfn => by
      obtain rfl : f = 5 := Option.some.inj ((show Tryd.prog.funcNamed "loop.example/g00090/laws.FnExactPackPath" = some 5 by kernel_rfl).symm.trans hf) |>.symm
      obtain rfl : fn = Tryd.f5 := (Option.some.inj (Tryd.func5.symm.trans hfn)).symm
      exact ⟨by kernel_rfl, fun j t ht => by
        rw [Tryd.params5] at ht
        have h3 : Tryd.prog.wantsStandIn t = false := by
          have hm := Array.mem_of_getElem? ht
          simp only [List.mem_toArray, List.mem_cons, List.not_mem_nil, or_false] at hm
          rcases hm with rfl
          · exact (show Tryd.prog.wantsStandIn 36 = false by kernel_rfl)
        exact h3⟩)
    (by kernel_rfl)
#print axioms fnExactPackPath_holds
end Go.Proofs.YtbifnchjphefeaaDoor

import Derived.Test.YtnfkinofcphflaaGreatDoorOkSetOfGenx1
set_option linter.unusedVariables false
set_option maxRecDepth 4000
namespace Go.Told
open Go Go.Im Go.Proofs

noncomputable def c361 : Code := (Tryz.f361.body).getD .skip

theorem slices_DeleteFunc_Lstringr_impl_wordsOf_1_l1.ok  (q : Wd) (kn : ((List ByteArray) × Int) → Option (D × List Ent)) (hk : ∀ v : ((List ByteArray) × Int), J (q.g Tryz.prog 361 1 42) c361 (atI c361 31) (St.mk' [(0, rr 0 v.1), (5, iv v.2)] [(0, rE 1 eStr v.1)]) (some v) kn) :
    ∀ s14 : ((List ByteArray) × Int × Int), J (q.g Tryz.prog 361 1 42) c361 (atI c361 244) (St.mk' [(0, rr 0 s14.1), (1, .fn 362 []), (5, iv s14.2.1), (6, iv s14.2.2)] [(0, rE 1 eStr s14.1)]) (slices_DeleteFunc_Lstringr_impl_wordsOf_1_l1 s14) kn := by
  refine J_lp (fun g ih s14 => ?_)
  unfold slices_DeleteFunc_Lstringr_impl_wordsOf_1_l1b
  refine J_g 976 [] [(0, rr 0 s14.1), (1, .fn 362 []), (5, iv s14.2.1), (6, iv s14.2.2), (19, bv (decide (s14.2.2 < (s14.1.length : Int))))] [(0, rE 1 eStr s14.1)] orcN ?_
  refine J_if2 19 (fun h15 => ?_) (fun h15 => ?_)
  · refine J_bind (fun x16 h17 => ?_)
    refine J_g 3912 [] [(0, rr 0 s14.1), (1, .fn 362 []), (5, iv s14.2.1), (6, iv s14.2.2), (7, sv x16)] [(0, rE 1 eStr s14.1)] (orcC 2 (x_ixr (kk := .i64) 94 9 1 0 eStr (.tmp 22) (.tmp 23) h17) (orcC 3 (x_ldr (d := sv x16) 9 1 0 0 eStr (.tmp 24) h17 (by kernel_rfl)) orcN)) ?_
    refine J_bind (fun x18 h19 => ?_)
    refine J_g 7826 [] [(0, rr 0 s14.1), (1, .fn 362 []), (5, iv s14.2.1), (6, iv s14.2.2), (7, sv x16), (29, bv (!x18))] [(0, rE 1 eStr s14.1)] (orcC 2 (x_c0v («as» := [sv x16]) (caps := []) 26 [(.tmp 27)] [9] (impl_wordsOf_1.ok x16) h19) orcN) ?_
    refine J_join (aft c361 1956) (fun v23 : ((List ByteArray) × Int) => St.mk' [(0, rr 0 v23.1), (1, .fn 362 []), (5, iv v23.2), (6, iv s14.2.2)] [(0, rE 1 eStr v23.1)]) (fun v23 => ?_) (fun jv23 => ?_)
    · refine J_g 979 [] [(0, rr 0 v23.1), (1, .fn 362 []), (5, iv v23.2), (6, iv (w64 (s14.2.2 + 1)))] [(0, rE 1 eStr v23.1)] orcN ?_
      exact J_q (J_b (ih (v23.1, v23.2, w64 (s14.2.2 + 1)))) rfl
    · refine J_if2 29 (fun h20 => ?_) (fun h20 => ?_)
      · refine J_bind (fun x21 h22 => ?_)
        refine J_g 31308 [] [(0, rr 0 s14.1), (1, .fn 362 []), (5, iv s14.2.1), (6, iv s14.2.2)] [(0, rE 1 eStr (s14.1.set s14.2.1.toNat x16))] (orcC 3 (x_ixr (kk := .i64) 94 9 1 0 eStr (.tmp 30) (.tmp 31) h22) (orcD 4 (x_st (b := x16) 9 1 0 0 eStr (sv x16) (.tmp 33) (.tmp 32) h22 rfl) orcN)) ?_
        refine J_st (σ' := St.mk' [(0, rr 0 (s14.1.set s14.2.1.toNat x16)), (1, .fn 362 []), (5, iv s14.2.1), (6, iv s14.2.2)] [(0, rE 1 eStr (s14.1.set s14.2.1.toNat x16))]) (by simp only [rr, List.length_set]) ?_
        refine J_g 31309 [] [(0, rr 0 (s14.1.set s14.2.1.toNat x16)), (1, .fn 362 []), (5, iv (w64 (s14.2.1 + 1))), (6, iv s14.2.2)] [(0, rE 1 eStr (s14.1.set s14.2.1.toNat x16))] orcN ?_
        exact J_qw (J_j (jv23 (s14.1.set s14.2.1.toNat x16, w64 (s14.2.1 + 1)))) rfl
      · exact J_qw (J_j (jv23 (s14.1, s14.2.1))) rfl
  · exact J_qw (hk (s14.1, s14.2.1)) rfl

theorem slices_DeleteFunc_Lstringr_impl_wordsOf_1.ok (a1 : (List ByteArray)) : Ok Tryz.prog 361 [rr 0 a1, .fn 362 []] [rE 1 eStr a1] ((slices_DeleteFunc_Lstringr_impl_wordsOf_1 a1).map fun r => (so 1 eStr r, [])) := by
  refine Ok_of3 c361 Tryz.f361 1 42 (fun q => ?_)
  unfold slices_DeleteFunc_Lstringr_impl_wordsOf_1
  refine J_g 2 [] [(0, rr 0 a1), (1, .fn 362 [])] [(0, rE 1 eStr a1)] orcN ?_
  refine J_bind (fun x2 h3 => ?_)
  refine J_g 6 [] [(0, rr 0 a1), (1, .fn 362 []), (5, iv x2)] [(0, rE 1 eStr a1)] (orcC 2 (x_c1 («as» := [rr 0 a1, .fn 362 []]) [(.tmp 8), (.tmp 9)] [94, 354] true [(0, rE 1 eStr a1)] [] (.cons (am_b (.head _) (fun _ => rfl) rfl) (.cons (.fn (.nil)) (.nil))) (slices_IndexFunc_Lstring_impl_wordsOf_1.ok a1) h3 (.same rfl rfl) (hbor := fun _ => ⟨rfl, flat_sc⟩)) orcN) ?_
  refine J_g 28 [] [(0, rr 0 a1), (1, .fn 362 []), (5, iv x2), (12, bv (x2 == (-1)))] [(0, rE 1 eStr a1)] orcN ?_
  refine J_if2 12 (fun h4 => ?_) (fun h4 => ?_)
  · refine J_g 116 [] [(4, rr 0 a1)] [(0, rE 1 eStr a1)] orcN ?_
    exact J_rm (ds := [rr 0 a1]) (ds' := [so 1 eStr a1]) (.cons (.cell (.move (.head _) (List.length_map _) (by decide) (.nil))) (.nil) (by decide)) rfl
  · refine J_g 60 [] [(0, rr 0 a1), (1, .fn 362 []), (5, iv x2), (6, iv (w64 (x2 + 1)))] [(0, rE 1 eStr a1)] orcN ?_
    refine J_lq (slices_DeleteFunc_Lstringr_impl_wordsOf_1_l1.ok q _ (fun v24 => J_j ?_) (a1, x2, w64 (x2 + 1)))
    refine J_bind (fun x25 h26 => ?_)
    refine J_bind (fun x27 h28 => ?_)
    refine J_g 62 [] [(0, rr 0 v24.1), (5, iv v24.2)] [(0, rE 1 eStr x27)] (orcC 2 (x_slr 94 9 1 0 eStr (.tmp 36) (some (.tmp 37)) none h26) (orcD 3 (x_clr (l := v24.2) (a := ByteArray.empty) 94 9 1 0 eStr (.tmp 38) h28 (.keep rfl (.nil))) orcN)) ?_
    refine J_st (σ' := St.mk' [(0, rr 0 x27), (5, iv v24.2)] [(0, rE 1 eStr x27)]) (by simp only [rr, clrw_len h28]) ?_
    refine J_bind (fun x29 h30 => ?_)
    refine J_g 126 [] [(4, rr 1 x29)] [(1, rE 1 eStr x29)] (orcC 2 (x_cut 94 9 1 0 1 eStr (.tmp 39) none (some (.tmp 40)) h30) orcN) ?_
    exact J_rm (ds := [rr 1 x29]) (ds' := [so 1 eStr x29]) (.cons (.cell (.move (.head _) (List.length_map _) (by decide) (.nil))) (.nil) (by decide)) rfl

noncomputable def c319 : Code := (Tryz.f319.body).getD .skip

theorem impl_wordsOf.ok (a1 : ByteArray) : Ok Tryz.prog 319 [sv a1] [] ((impl_wordsOf a1).map fun r => (so 1 eStr r, [])) := by
  refine Ok_of3 c319 Tryz.f319 0 6 (fun q => ?_)
  unfold impl_wordsOf
  refine J_g 2 [] [(0, sv a1)] [] orcN ?_
  refine J_bind (fun x2 h3 => ?_)
  refine J_bind (fun x4 h5 => ?_)
  refine J_g 6 [] [(2, rr 1 x4)] [(1, rE 1 eStr x4)] (orcC 1 (x_c1 («as» := [sv a1, sv (bs [32])]) [(.tmp 3), (.const (.string (bs [32])))] [9, 9] false [] [] (.cons (.same rfl) (.cons (.same rfl) (.nil))) (strings_Split.ok a1 (bs [32])) h3 (.own 0)) (orcC 2 (x_c1 («as» := [rr 0 x2, .fn 362 []]) [(.tmp 4), (.func 362)] [94, 354] false [(0, rE 1 eStr x2)] [0] (.cons (.rf rfl) (.cons (.fn (.nil)) (.nil))) (slices_DeleteFunc_Lstringr_impl_wordsOf_1.ok x2) h5 (.own 1)) orcN)) ?_
  exact J_rm (ds := [rr 1 x4]) (ds' := [so 1 eStr x4]) (.cons (.cell (.move (.head _) (List.length_map _) (by decide) (.nil))) (.nil) (by decide)) rfl

noncomputable def c272 : Code := (Tryz.f272.body).getD .skip

theorem impl_ParseVersion_l1.ok (x2 : (List ByteArray)) (q : Wd) (kn : (List Int) → Option (D × List Ent)) (hk : ∀ v : (List Int), J (q.g Tryz.prog 272 0 39) c272 (atI c272 63) (St.mk' [(2, pp 0), (4, pp 2)] [(0, .box [iv 0, iv 0, iv 0, iv 0]), (2, rE 1 eI64 v)]) (some v) kn) :
    ∀ s15 : ((List Int) × Int), J (q.g Tryz.prog 272 0 39) c272 (atI c272 500) (St.mk' [(2, pp 0), (4, pp 2), (14, rr 1 x2), (15, iv (x2.length : Int)), (16, iv s15.2)] [(0, .box [iv 0, iv 0, iv 0, iv 0]), (1, rE 1 eStr x2), (2, rE 1 eI64 s15.1)]) (impl_ParseVersion_l1 x2 s15) (Fl.go (fun r : VersionResult => some (.ag (VersionResult.enc r), [])) kn) := by
  refine J_lp (fun g ih s15 => ?_)
  unfold impl_ParseVersion_l1b
  refine J_g 1000 [] [(2, pp 0), (4, pp 2), (14, rr 1 x2), (15, iv (x2.length : Int)), (16, iv s15.2), (17, bv (decide (s15.2 < (x2.length : Int))))] [(0, .box [iv 0, iv 0, iv 0, iv 0]), (1, rE 1 eStr x2), (2, rE 1 eI64 s15.1)] orcN ?_
  refine J_if2 17 (fun h16 => ?_) (fun h16 => ?_)
  · refine J_bind (fun x17 h18 => ?_)
    refine J_g 16024 [] [(2, pp 0), (4, pp 2), (5, iv s15.2), (6, sv x17), (14, rr 1 x2), (15, iv (x2.length : Int)), (16, iv s15.2)] [(0, .box [iv 0, iv 0, iv 0, iv 0]), (1, rE 1 eStr x2), (2, rE 1 eI64 s15.1)] (orcC 1 (x_ixr (kk := .i64) 94 9 1 1 eStr (.tmp 14) (.tmp 16) h18) (orcC 2 (x_ldr (d := sv x17) 9 1 1 0 eStr (.tmp 19) h18 (by kernel_rfl)) orcN)) ?_
    refine J_bind (fun x19 h20 => ?_)
    refine J_bind (fun x21 h22 => ?_)
    refine J_g 32050 [] [(2, pp 0), (4, pp 2), (5, iv s15.2), (14, rr 1 x2), (15, iv (x2.length : Int)), (16, iv s15.2)] [(0, .box [iv 0, iv 0, iv 0, iv 0]), (1, rE 1 eStr x2), (2, rE 1 eI64 (s15.1.set s15.2.toNat x19))] (orcC 2 (x_c0 [(.tmp 22), (.const (.int .i64 3))] [9, 3] (impl_number.ok x17 3) h20) (orcC 3 (x_ixa (kk := .i64) 337 2 1 2 eI64 (.tmp 4) (.tmp 21) 3 h22) (orcD 4 (x_st (b := x19) 2 1 2 0 eI64 (iv x19) (.tmp 24) (.tmp 23) (idxa_idx h22) rfl) orcN))) ?_
    refine J_bind (fun x23 h24 => ?_)
    refine J_g 64102 [] [(2, pp 0), (4, pp 2), (14, rr 1 x2), (15, iv (x2.length : Int)), (16, iv s15.2), (28, bv (decide (x23 < 0)))] [(0, .box [iv 0, iv 0, iv 0, iv 0]), (1, rE 1 eStr x2), (2, rE 1 eI64 (s15.1.set s15.2.toNat x19))] (orcC 1 (x_ixa (kk := .i64) 337 2 1 2 eI64 (.tmp 4) (.tmp 25) 3 h24) (orcC 2 (x_ldr (d := iv x23) 2 1 2 0 eI64 (.tmp 26) (idxa_idx h24) (by kernel_rfl)) orcN)) ?_
    refine J_if2 28 (fun h25 => ?_) (fun h25 => ?_)
    · refine J_g 256412 [] [(2, pp 0)] [(0, .box [iv 5, iv 0, iv 0, iv 0])] orcN ?_
      exact J_r1 rfl
    · refine J_g 4007 [] [(2, pp 0), (4, pp 2), (14, rr 1 x2), (15, iv (x2.length : Int)), (16, iv (w64 (s15.2 + 1)))] [(0, .box [iv 0, iv 0, iv 0, iv 0]), (1, rE 1 eStr x2), (2, rE 1 eI64 (s15.1.set s15.2.toNat x19))] orcN ?_
      exact J_q (J_b (ih (s15.1.set s15.2.toNat x19, w64 (s15.2 + 1)))) rfl
  · exact J_qw (hk s15.1) rfl

theorem impl_ParseVersion.ok (a1 : ByteArray) : Ok Tryz.prog 272 [sv a1] [] ((impl_ParseVersion a1).map fun r => (.ag (VersionResult.enc r), [])) := by
  refine Ok_of3 c272 Tryz.f272 0 39 (fun q => ?_)
  unfold impl_ParseVersion
  refine J_g 2 [(0, 0)] [(0, sv a1), (2, pp 0)] [(0, .box [iv 0, iv 0, iv 0, iv 0])] orcN ?_
  refine J_bind (fun x2 h3 => ?_)
  refine J_g 6 [] [(2, pp 0), (3, rr 1 x2)] [(0, .box [iv 0, iv 0, iv 0, iv 0]), (1, rE 1 eStr x2)] (orcC 1 (x_c1 («as» := [sv a1, sv (bs [46])]) [(.tmp 7), (.const (.string (bs [46])))] [9, 9] false [] [] (.cons (.same rfl) (.cons (.same rfl) (.nil))) (strings_Split.ok a1 (bs [46])) h3 (.own 1)) orcN) ?_
  refine J_g 14 [(1, 2)] [(2, pp 0), (3, rr 1 x2), (4, pp 2)] [(0, .box [iv 0, iv 0, iv 0, iv 0]), (1, rE 1 eStr x2), (2, .box [iv 0, iv 0, iv 0])] (orcC 0 (x_build0 337 [.int .i64 0, .int .i64 0, .int .i64 0]) orcN) ?_
  refine J_wk [(2, pp 0), (3, rr 1 x2), (4, pp 2)] [(2, .box [iv 0, iv 0, iv 0]), (0, .box [iv 0, iv 0, iv 0, iv 0]), (1, rE 1 eStr x2)] (by kernel_rfl) ?_
  refine J_boxrow 2 (z := 1) (xs := ([0, 0, 0] : (List Int)).map eI64) (by kernel_rfl) (by kernel_rfl) (by kernel_rfl) (by kernel_rfl) rfl ?_
  refine J_wk [(2, pp 0), (3, rr 1 x2), (4, pp 2)] [(0, .box [iv 0, iv 0, iv 0, iv 0]), (1, rE 1 eStr x2), (2, rE 1 eI64 ([0, 0, 0] : (List Int)))] (by kernel_rfl) ?_
  refine J_g 60 [] [(2, pp 0), (3, rr 1 x2), (4, pp 2), (12, bv (decide ((x2.length : Int) > 3)))] [(0, .box [iv 0, iv 0, iv 0, iv 0]), (1, rE 1 eStr x2), (2, rE 1 eI64 ([0, 0, 0] : (List Int)))] orcN ?_
  refine J_if2 12 (fun h4 => ?_) (fun h4 => ?_)
  · refine J_g 244 [] [(2, pp 0)] [(0, .box [iv 5, iv 0, iv 0, iv 0])] orcN ?_
    exact J_r1 rfl
  · refine J_g 124 [] [(2, pp 0), (4, pp 2), (14, rr 1 x2), (15, iv (x2.length : Int)), (16, iv 0)] [(0, .box [iv 0, iv 0, iv 0, iv 0]), (1, rE 1 eStr x2), (2, rE 1 eI64 ([0, 0, 0] : (List Int)))] orcN ?_
    refine J_lqF (K0 := (fun r : VersionResult => some (.ag (VersionResult.enc r), []))) (fun _ => rfl) (impl_ParseVersion_l1.ok x2 q _ (fun v26 => J_j ?_) (([0, 0, 0] : (List Int)), 0))
    refine J_bind (fun x27 h28 => ?_)
    refine J_bind (fun x29 h30 => ?_)
    refine J_bind (fun x31 h32 => ?_)
    refine J_g 126 [] [(2, pp 0)] [(0, .box [iv 0, iv x27, iv x29, iv x31])] (orcC 0 (x_ixa (kk := .i64) 337 2 1 2 eI64 (.tmp 4) (.const (.int .i64 0)) 3 h28) (orcC 1 (x_ldr (d := iv x27) 2 1 2 0 eI64 (.tmp 31) (idxa_idx h28) (by kernel_rfl)) (orcC 2 (x_ixa (kk := .i64) 337 2 1 2 eI64 (.tmp 4) (.const (.int .i64 1)) 3 h30) (orcC 3 (x_ldr (d := iv x29) 2 1 2 0 eI64 (.tmp 33) (idxa_idx h30) (by kernel_rfl)) (orcC 4 (x_ixa (kk := .i64) 337 2 1 2 eI64 (.tmp 4) (.const (.int .i64 2)) 3 h32) (orcC 5 (x_ldr (d := iv x31) 2 1 2 0 eI64 (.tmp 35) (idxa_idx h32) (by kernel_rfl)) orcN)))))) ?_
    exact J_r1 rfl

noncomputable def c197 : Code := (Tryz.f197.body).getD .skip

theorem impl_readPack.ok (a1 : (List Pack)) (a2 : (List ByteArray)) : Ok Tryz.prog 197 [sl 8 (Pack.enc false) a1, sl 1 eStr a2] [] ((impl_readPack a1 a2).map fun r => (iv r, [])) := by
  refine Ok_of3 c197 Tryz.f197 0 23 (fun q => ?_)
  unfold impl_readPack
  refine J_g 2 [] [(0, sl 8 (Pack.enc false) a1), (1, sl 1 eStr a2)] [] orcN ?_
  refine J_g 12 [] [(0, sl 8 (Pack.enc false) a1), (1, sl 1 eStr a2), (8, bv ((a2.length : Int) != 2))] [] orcN ?_
  refine J_if2 8 (fun h3 => ?_) (fun h3 => ?_)
  · refine J_g 52 [] [(4, iv (-1))] [] orcN ?_
    exact J_r1 rfl
  · refine J_bind (fun x4 h5 => ?_)
    refine J_bind (fun x6 h7 => ?_)
    refine J_g 14 [(4, 0)] [(0, sl 8 (Pack.enc false) a1), (1, sl 1 eStr a2), (5, pp 0)] [(0, .box (VersionResult.enc x6))] (orcC 1 (x_ix (kk := .i64) 94 9 1 eStr (.tmp 9) (.const (.int .i64 1)) h5) (orcC 3 (x_c0 [(.tmp 11)] [9] (impl_ParseVersion.ok x4) h7) orcN)) ?_
    refine J_g 60 [] [(0, sl 8 (Pack.enc false) a1), (1, sl 1 eStr a2), (5, pp 0), (15, bv (x6.Code != 0))] [(0, .box (VersionResult.enc x6))] orcN ?_
    refine J_if2 15 (fun h8 => ?_) (fun h8 => ?_)
    · refine J_g 244 [] [(4, iv (-1))] [] orcN ?_
      exact J_r1 rfl
    · refine J_bind (fun x9 h10 => ?_)
      refine J_bind (fun x11 h12 => ?_)
      refine J_g 62 [] [(4, iv x11)] [] (orcC 2 (x_ix (kk := .i64) 94 9 1 eStr (.tmp 17) (.const (.int .i64 0)) h10) (orcC 6 (x_c0 [(.tmp 16), (.tmp 19), (.tmp 21)] [47, 9, 39] (impl_find.ok a1 x9 x6.Version) h12) orcN)) ?_
      exact J_r1 rfl

theorem slices_Sort_Lint64r.ok (a1 : List Int) : Ok Tryz.prog 245 [rr 0 a1] [rE 1 eI64 a1] ((slices_Sort_Lint64r a1).map fun r => (.tu [], [rE 1 eI64 r])) := by
  unfold slices_Sort_Lint64r
  split
  · exact Ok_sort (enc := Value.int .i64) (by simp [List.length_mergeSort]) (fun blk off cap w hH hb => Tryz.slices_Sort_int blk off cap a1 w hH hb (by omega)) (fun _ p cap w => Tryz.slices_Sort_int_none p cap w)
  · exact fun _ h => by cases h

noncomputable def c235 : Code := (Tryz.f235.body).getD .skip

theorem impl_ParseSet_l1.ok (a1 : (List Pack)) (x7 : (List ByteArray)) (q : Wd) (kn : (List Int) → Option (D × List Ent)) (hk : ∀ v : (List Int), J (q.g Tryz.prog 235 0 51) c235 (atI c235 63) (St.mk' [(4, pp 0), (6, rr 1 v)] [(0, .box [iv 0, iv 0, nv]), (1, rE 1 eI64 v)]) (some v) kn) :
    ∀ s23 : ((List Int) × Int), J (q.g Tryz.prog 235 0 51) c235 (atI c235 500) (St.mk' [(0, sl 8 (Pack.enc false) a1), (4, pp 0), (6, rr 1 s23.1), (22, rr 2 x7), (23, iv (x7.length : Int)), (24, iv s23.2)] [(0, .box [iv 0, iv 0, nv]), (1, rE 1 eI64 s23.1), (2, rE 1 eStr x7)]) (impl_ParseSet_l1 a1 x7 s23) (Fl.go (fun r : SetResult => some (.ag [iv r.Code, iv r.At, so 1 eI64 r.Set], [])) kn) := by
  refine J_lp (fun g ih s23 => ?_)
  unfold impl_ParseSet_l1b
  refine J_g 1000 [] [(0, sl 8 (Pack.enc false) a1), (4, pp 0), (6, rr 1 s23.1), (22, rr 2 x7), (23, iv (x7.length : Int)), (24, iv s23.2), (25, bv (decide (s23.2 < (x7.length : Int))))] [(0, .box [iv 0, iv 0, nv]), (1, rE 1 eI64 s23.1), (2, rE 1 eStr x7)] orcN ?_
  refine J_if2 25 (fun h24 => ?_) (fun h24 => ?_)
  · refine J_bind (fun x25 h26 => ?_)
    refine J_g 16024 [] [(0, sl 8 (Pack.enc false) a1), (4, pp 0), (6, rr 1 s23.1), (7, iv s23.2), (8, sv x25), (22, rr 2 x7), (23, iv (x7.length : Int)), (24, iv s23.2)] [(0, .box [iv 0, iv 0, nv]), (1, rE 1 eI64 s23.1), (2, rE 1 eStr x7)] (orcC 1 (x_ixr (kk := .i64) 94 9 1 2 eStr (.tmp 22) (.tmp 24) h26) (orcC 2 (x_ldr (d := sv x25) 9 1 2 0 eStr (.tmp 27) h26 (by kernel_rfl)) orcN)) ?_
    refine J_bind (fun x27 h28 => ?_)
    refine J_bind (fun x29 h30 => ?_)
    refine J_g 32050 [] [(0, sl 8 (Pack.enc false) a1), (4, pp 0), (6, rr 1 s23.1), (7, iv s23.2), (9, iv x29), (22, rr 2 x7), (23, iv (x7.length : Int)), (24, iv s23.2)] [(0, .box [iv 0, iv 0, nv]), (1, rE 1 eI64 s23.1), (2, rE 1 eStr x7)] (orcC 2 (x_c1 («as» := [sv x25]) [(.tmp 30)] [9] false [] [] (.cons (.same rfl) (.nil)) (impl_wordsOf.ok x25) h28 (.own 3)) (orcC 3 (x_c1 («as» := [sl 8 (Pack.enc false) a1, rr 3 x27]) [(.tmp 29), (.tmp 31)] [47, 94] true [(3, rE 1 eStr x27)] [] (.cons (.same rfl) (.cons (am_b (.head _) (fun _ => rfl) rfl) (.nil))) (impl_readPack.ok a1 x27) h30 (.same rfl rfl) (hbor := fun _ => ⟨rfl, flat_sc⟩)) orcN)) ?_
    refine J_join (atI c235 128205) (fun v34 : Bool => St.mk' [(0, sl 8 (Pack.enc false) a1), (4, pp 0), (6, rr 1 s23.1), (7, iv s23.2), (9, iv x29), (22, rr 2 x7), (23, iv (x7.length : Int)), (24, iv s23.2), (39, bv v34)] [(0, .box [iv 0, iv 0, nv]), (1, rE 1 eI64 s23.1), (2, rE 1 eStr x7)]) (fun v34 => ?_) (fun jv34 => ?_)
    · refine J_if2 39 (fun h35 => ?_) (fun h35 => ?_)
      · refine J_g 512820 [] [(4, pp 0)] [(0, .box [iv 5, iv s23.2, nv])] orcN ?_
        exact J_rm (ds := [.ag [iv 5, iv s23.2, nv]]) (ds' := [.ag [iv 5, iv s23.2, so 1 eI64 ([] : List Int)]]) (.cons (.ag (.keep rfl (.keep rfl (.nilsl true 1 (.nil))))) (.nil) (by decide)) rfl
      · refine J_bind (fun x36 h37 => ?_)
        refine J_g 64103 [] [(0, sl 8 (Pack.enc false) a1), (4, pp 0), (6, rr 4 x36), (22, rr 2 x7), (23, iv (x7.length : Int)), (24, iv s23.2)] [(0, .box [iv 0, iv 0, nv]), (2, rE 1 eStr x7), (4, rE 1 eI64 x36)] (orcC 2 (x_bp 70 2 1 3 eI64 [x29] [0] [(.tmp 43)] [iv x29]) (orcC 3 (x_ap 70 70 2 2 1 8 4 1 3 eI64 (.tmp 42) (.tmp 44) h37) orcN)) ?_
        refine J_g 4007 [] [(0, sl 8 (Pack.enc false) a1), (4, pp 0), (6, rr 4 x36), (22, rr 2 x7), (23, iv (x7.length : Int)), (24, iv (w64 (s23.2 + 1)))] [(0, .box [iv 0, iv 0, nv]), (2, rE 1 eStr x7), (4, rE 1 eI64 x36)] orcN ?_
        refine J_ren 4 1 (Nat.le_of_ble_eq_true rfl) (Nat.le_of_ble_eq_true rfl) ?_
        exact J_q (J_b (ih (x36, w64 (s23.2 + 1)))) rfl
    · refine J_ite (fun h31 => ?_) (fun h31 => ?_)
      · refine J_g 128204 [] [(0, sl 8 (Pack.enc false) a1), (4, pp 0), (6, rr 1 s23.1), (7, iv s23.2), (9, iv x29), (22, rr 2 x7), (23, iv (x7.length : Int)), (24, iv s23.2), (39, bv true)] [(0, .box [iv 0, iv 0, nv]), (1, rE 1 eI64 s23.1), (2, rE 1 eStr x7)] (orcL 2 [(34, bv (decide (x29 < 0)))] [] h31 orcN) ?_
        exact J_qw (J_j (jv34 true)) rfl
      · refine J_bind (fun x32 h33 => ?_)
        refine J_g 128204 [] [(0, sl 8 (Pack.enc false) a1), (4, pp 0), (6, rr 1 s23.1), (7, iv s23.2), (9, iv x29), (22, rr 2 x7), (23, iv (x7.length : Int)), (24, iv s23.2), (39, bv x32)] [(0, .box [iv 0, iv 0, nv]), (1, rE 1 eI64 s23.1), (2, rE 1 eStr x7)] (orcL 2 [(34, bv (decide (x29 < 0)))] [] h31 (orcH 5 2 35 false (x_c1 («as» := [rr 1 s23.1, iv x29]) [(.tmp 36), (.tmp 37)] [70, 2] true [(1, rE 1 eI64 s23.1)] [] (.cons (am_b (.head _) (fun _ => rfl) rfl) (.cons (.same rfl) (.nil))) (slices_Contains_Lint64.ok s23.1 x29) h33 (.same rfl rfl) (hbor := fun _ => ⟨rfl, flat_sc⟩)) orcN)) ?_
        exact J_qw (J_j (jv34 x32)) rfl
  · exact J_qw (hk s23.1) rfl

theorem impl_ParseSet.ok (a1 : (List Pack)) (a2 : ByteArray) : Ok Tryz.prog 235 [sl 8 (Pack.enc false) a1, sv a2] [] ((impl_ParseSet a1 a2).map fun r => (.ag [iv r.Code, iv r.At, so 1 eI64 r.Set], [])) := by
  refine Ok_of3 c235 Tryz.f235 0 51 (fun q => ?_)
  unfold impl_ParseSet
  refine J_g 2 [(0, 0)] [(0, sl 8 (Pack.enc false) a1), (1, sv a2), (4, pp 0)] [(0, .box [iv 0, iv 0, nv])] orcN ?_
  refine J_bind (fun x3 h4 => ?_)
  refine J_g 12 [] [(0, sl 8 (Pack.enc false) a1), (1, sv a2), (4, pp 0), (5, iv x3)] [(0, .box [iv 0, iv 0, nv])] (orcC 1 (x_c0 [(.tmp 10)] [47] (impl_CatalogFault.ok a1) h4) orcN) ?_
  refine J_g 26 [] [(0, sl 8 (Pack.enc false) a1), (1, sv a2), (4, pp 0), (5, iv x3), (13, bv (x3 != 0))] [(0, .box [iv 0, iv 0, nv])] orcN ?_
  refine J_if2 13 (fun h5 => ?_) (fun h5 => ?_)
  · refine J_g 108 [] [(4, pp 0)] [(0, .box [iv x3, iv 0, nv])] orcN ?_
    exact J_rm (ds := [.ag [iv x3, iv 0, nv]]) (ds' := [.ag [iv x3, iv 0, so 1 eI64 ([] : List Int)]]) (.cons (.ag (.keep rfl (.keep rfl (.nilsl true 1 (.nil))))) (.nil) (by decide)) rfl
  · refine J_g 28 [] [(0, sl 8 (Pack.enc false) a1), (1, sv a2), (4, pp 0), (18, bv (decide ((a2.size : Int) > 4000)))] [(0, .box [iv 0, iv 0, nv])] orcN ?_
    refine J_if2 18 (fun h6 => ?_) (fun h6 => ?_)
    · refine J_g 116 [] [(4, pp 0)] [(0, .box [iv 2, iv 0, nv])] orcN ?_
      exact J_rm (ds := [.ag [iv 2, iv 0, nv]]) (ds' := [.ag [iv 2, iv 0, so 1 eI64 ([] : List Int)]]) (.cons (.ag (.keep rfl (.keep rfl (.nilsl true 1 (.nil))))) (.nil) (by decide)) rfl
    · refine J_g 30 [] [(0, sl 8 (Pack.enc false) a1), (1, sv a2), (4, pp 0), (6, rr 1 ([] : List Int))] [(0, .box [iv 0, iv 0, nv]), (1, rE 1 eI64 ([] : List Int))] (orcC 0 (x_bp 70 2 1 1 eI64 ([] : List Int) [] [] []) orcN) ?_
      refine J_bind (fun x7 h8 => ?_)
      refine J_g 124 [] [(0, sl 8 (Pack.enc false) a1), (4, pp 0), (6, rr 1 ([] : List Int)), (22, rr 2 x7), (23, iv (x7.length : Int)), (24, iv 0)] [(0, .box [iv 0, iv 0, nv]), (1, rE 1 eI64 ([] : List Int)), (2, rE 1 eStr x7)] (orcC 1 (x_c1 («as» := [sv a2]) [(.tmp 21)] [9] false [] [] (.cons (.same rfl) (.nil)) (impl_linesOf.ok a2) h8 (.own 2)) orcN) ?_
      refine J_lqF (K0 := (fun r : SetResult => some (.ag [iv r.Code, iv r.At, so 1 eI64 r.Set], []))) (fun _ => rfl) (impl_ParseSet_l1.ok a1 x7 q _ (fun v38 => J_j ?_) (([] : List Int), 0))
      refine J_bind (fun x39 h40 => ?_)
      refine J_g 126 [] [(4, pp 0), (6, rr 1 v38)] [(0, .box [iv 0, iv 0, nv]), (1, rE 1 eI64 x39)] (orcC 1 (x_c1 («as» := [rr 1 v38]) [(.tmp 47)] [70] false [(1, rE 1 eI64 v38)] [1] (.cons (.rf rfl) (.nil)) (slices_Sort_Lint64r.ok v38) h40 (.tu (.nil))) orcN) ?_
      refine J_bind (fun u41 h42 => ?_)
      refine J_st (σ' := St.mk' [(4, pp 0), (6, rr 1 x39)] [(0, .box [iv 0, iv 0, nv]), (1, rE 1 eI64 x39)]) (by simp only [rr, same_len h42]) ?_
      refine J_g 254 [] [(4, pp 0)] [(0, .box [iv 0, iv 0, rr 1 x39]), (1, rE 1 eI64 x39)] orcN ?_
      exact J_rm (ds := [.ag [iv 0, iv 0, rr 1 x39]]) (ds' := [.ag [iv 0, iv 0, so 1 eI64 x39]]) (.cons (.ag (.keep rfl (.keep rfl (.move (.tail _ (.head _)) (List.length_map _) (by decide) (.nil))))) (.nil) (by decide)) rfl

noncomputable def c130 : Code := (Tryz.f130.body).getD .skip

theorem impl_setOf.ok (a1 : (List Pack)) (a2 : Disk) (a3 : Int) : Ok Tryz.prog 130 [sl 8 (Pack.enc false) a1, .ag (Disk.enc false a2), iv a3] [] ((impl_setOf a1 a2 a3).map fun r => (.tu [so 1 eI64 r.1, iv r.2], [])) := by
  refine Ok_of3 c130 Tryz.f130 0 31 (fun q => ?_)
  unfold impl_setOf
  refine J_g 2 [(0, 0)] [(0, sl 8 (Pack.enc false) a1), (2, iv a3), (4, pp 0)] [(0, .box (Disk.enc false a2))] orcN ?_
  refine J_bind (fun x4 h5 => ?_)
  refine J_bind (fun x6 h7 => ?_)
  refine J_g 12 [] [(0, sl 8 (Pack.enc false) a1), (2, iv a3), (4, pp 0), (15, bv (!x6))] [(0, .box (Disk.enc false a2))] (orcC 1 (x_c1 («as» := [.ag (Disk.enc false a2)]) [(.tmp 11)] [29] false [] [] (.cons (.same rfl) (.nil)) (impl_Disk_gens.ok a2) h5 (.own 1)) (orcC 3 (x_c1 («as» := [rr 1 x4, iv a3]) [(.tmp 12), (.tmp 13)] [70, 2] true [(1, rE 1 eI64 x4)] [] (.cons (am_b (.head _) (fun _ => rfl) rfl) (.cons (.same rfl) (.nil))) (slices_Contains_Lint64.ok x4 a3) h7 (.same rfl rfl) (hbor := fun _ => ⟨rfl, flat_sc⟩)) orcN)) ?_
  refine J_if2 15 (fun h8 => ?_) (fun h8 => ?_)
  · refine J_g 52 [] [(6, nv), (7, iv 4)] [] orcN ?_
    exact J_rm (ds := [nv, iv 4]) (ds' := [so 1 eI64 ([] : List Int), iv 4]) (.cons (.cell (.nilsl true 1 (.nil))) (.cons (.cell (.keep rfl (.nil))) (.nil) (by decide)) (by decide)) rfl
  · refine J_bind (fun x9 h10 => ?_)
    refine J_bind (fun x11 h12 => ?_)
    refine J_g 14 [] [(0, sl 8 (Pack.enc false) a1), (8, sl 1 eU8 x11.1)] [] (orcC 2 (x_c0 [(.tmp 18)] [2] (impl_genPath.ok a3) h10) (orcC 3 (x_c0 [(.tmp 17), (.tmp 19)] [29, 9] (impl_Disk_data.ok a2 x9) h12) orcN)) ?_
    refine J_bind (fun x13 h14 => ?_)
    refine J_g 30 [(4, 1)] [(10, pp 1)] [(0, rE 1 eI64 x13.Set), (1, .box [iv x13.Code, iv x13.At, rr 0 x13.Set])] (orcC 2 (x_b2s (xs := x11.1) 22 9 5 (.tmp 24)) (orcC 3 (x_c1 («as» := [sl 8 (Pack.enc false) a1, sv (b2s x11.1)]) [(.tmp 23), (.tmp 25)] [47, 9] false [] [] (.cons (.same rfl) (.cons (.same rfl) (.nil))) (impl_ParseSet.ok a1 (b2s x11.1)) h14 (.ag (.cons (.same rfl rfl) (.cons (.same rfl rfl) (.cons (.own 0) (.nil)))))) orcN)) ?_
    refine J_g 62 [] [(6, rr 0 x13.Set), (7, iv x13.Code)] [(0, rE 1 eI64 x13.Set)] orcN ?_
    exact J_rm (ds := [rr 0 x13.Set, iv x13.Code]) (ds' := [so 1 eI64 x13.Set, iv x13.Code]) (.cons (.cell (.move (.head _) (List.length_map _) (by decide) (.nil))) (.cons (.cell (.keep rfl (.nil))) (.nil) (by decide)) (by decide)) rfl

noncomputable def c52 : Code := (Tryz.f52.body).getD .skip

theorem impl_SetOfGen.ok (a1 : (List Pack)) (a2 : Disk) (a3 : Int) : Ok Tryz.prog 52 [sl 8 (Pack.enc false) a1, .ag (Disk.enc false a2), iv a3] [] ((impl_SetOfGen a1 a2 a3).map fun r => (.ag [iv r.Code, iv r.At, so 1 eI64 r.Set], [])) := by
  refine Ok_of3 c52 Tryz.f52 0 27 (fun q => ?_)
  unfold impl_SetOfGen
  refine J_g 2 [(0, 0), (1, 1)] [(0, sl 8 (Pack.enc false) a1), (2, iv a3), (4, pp 0), (6, pp 1)] [(0, .box (Disk.enc false a2)), (1, .box [iv 0, iv 0, nv])] orcN ?_
  refine J_bind (fun x4 h5 => ?_)
  refine J_g 12 [] [(0, sl 8 (Pack.enc false) a1), (2, iv a3), (4, pp 0), (6, pp 1), (7, iv x4)] [(0, .box (Disk.enc false a2)), (1, .box [iv 0, iv 0, nv])] (orcC 2 (x_c0 [(.tmp 10), (.tmp 11)] [47, 29] (impl_bothCode.ok a1 a2) h5) orcN) ?_
  refine J_g 26 [] [(0, sl 8 (Pack.enc false) a1), (2, iv a3), (4, pp 0), (6, pp 1), (7, iv x4), (14, bv (x4 != 0))] [(0, .box (Disk.enc false a2)), (1, .box [iv 0, iv 0, nv])] orcN ?_
  refine J_if2 14 (fun h6 => ?_) (fun h6 => ?_)
  · refine J_g 108 [] [(6, pp 1)] [(1, .box [iv x4, iv 0, nv])] orcN ?_
    exact J_rm (ds := [.ag [iv x4, iv 0, nv]]) (ds' := [.ag [iv x4, iv 0, so 1 eI64 ([] : List Int)]]) (.cons (.ag (.keep rfl (.keep rfl (.nilsl true 1 (.nil))))) (.nil) (by decide)) rfl
  · refine J_bind (fun x7 h8 => ?_)
    refine J_g 14 [] [(6, pp 1), (8, rr 2 x7.1), (9, iv x7.2)] [(1, .box [iv 0, iv 0, nv]), (2, rE 1 eI64 x7.1)] (orcC 3 (x_c1 («as» := [sl 8 (Pack.enc false) a1, .ag (Disk.enc false a2), iv a3]) [(.tmp 18), (.tmp 19), (.tmp 20)] [47, 29, 2] false [] [] (.cons (.same rfl) (.cons (.same rfl) (.cons (.same rfl) (.nil)))) (impl_setOf.ok a1 a2 a3) h8 (.tu (.cons (.own 2) (.cons (.same rfl rfl) (.nil))))) orcN) ?_
    refine J_g 30 [] [(6, pp 1)] [(1, .box [iv x7.2, iv 0, rr 2 x7.1]), (2, rE 1 eI64 x7.1)] orcN ?_
    exact J_rm (ds := [.ag [iv x7.2, iv 0, rr 2 x7.1]]) (ds' := [.ag [iv x7.2, iv 0, so 1 eI64 x7.1]]) (.cons (.ag (.keep rfl (.keep rfl (.move (.tail _ (.head _)) (List.length_map _) (by decide) (.nil))))) (.nil) (by decide)) rfl

noncomputable def c46 : Code := (Tryz.f46.body).getD .skip

theorem laws_eqInt64S_l1.ok (a1 : (List Int)) (a2 : (List Int)) (q : Wd) (kn : Unit → Option (D × List Ent)) (hk : ∀ v : Unit, J (q.g Tryz.prog 46 0 26) c46 (atI c46 15) (St.mk' [] []) (some v) kn) :
    ∀ s10 : Int, J (q.g Tryz.prog 46 0 26) c46 (atI c46 116) (St.mk' [(0, sl 1 eI64 a1), (1, sl 1 eI64 a2), (5, iv s10)] []) (laws_eqInt64S_l1 a1 a2 s10) (Fl.go (fun r : Bool => some (bv r, [])) kn) := by
  refine J_lp (fun g ih s10 => ?_)
  unfold laws_eqInt64S_l1b
  refine J_g 464 [] [(0, sl 1 eI64 a1), (1, sl 1 eI64 a2), (5, iv s10), (14, bv (decide (s10 < (a1.length : Int))))] [] orcN ?_
  refine J_if2 14 (fun h11 => ?_) (fun h11 => ?_)
  · refine J_bind (fun x12 h13 => ?_)
    refine J_bind (fun x14 h15 => ?_)
    refine J_g 1864 [] [(0, sl 1 eI64 a1), (1, sl 1 eI64 a2), (5, iv s10), (25, bv (x12 != x14))] [] (orcC 2 (x_ix (kk := .i64) 70 2 1 eI64 (.tmp 17) (.tmp 18) h13) (orcC 6 (x_ix (kk := .i64) 70 2 1 eI64 (.tmp 21) (.tmp 22) h15) orcN)) ?_
    refine J_if2 25 (fun h16 => ?_) (fun h16 => ?_)
    · refine J_g 7460 [] [(4, bv false)] [] orcN ?_
      exact J_r1 rfl
    · refine J_g 467 [] [(0, sl 1 eI64 a1), (1, sl 1 eI64 a2), (5, iv (w64 (s10 + 1)))] [] orcN ?_
      exact J_q (J_b (ih (w64 (s10 + 1)))) rfl
  · exact J_qw (hk ()) rfl

theorem laws_eqInt64S.ok (a1 : (List Int)) (a2 : (List Int)) : Ok Tryz.prog 46 [sl 1 eI64 a1, sl 1 eI64 a2] [] ((laws_eqInt64S a1 a2).map fun r => (bv r, [])) := by
  refine Ok_of3 c46 Tryz.f46 0 26 (fun q => ?_)
  unfold laws_eqInt64S
  refine J_g 2 [] [(0, sl 1 eI64 a1), (1, sl 1 eI64 a2)] [] orcN ?_
  refine J_g 12 [] [(0, sl 1 eI64 a1), (1, sl 1 eI64 a2), (10, bv ((a1.length : Int) != (a2.length : Int)))] [] orcN ?_
  refine J_if2 10 (fun h3 => ?_) (fun h3 => ?_)
  · refine J_g 52 [] [(4, bv false)] [] orcN ?_
    exact J_r1 rfl
  · refine J_g 28 [] [(0, sl 1 eI64 a1), (1, sl 1 eI64 a2), (5, iv 0)] [] orcN ?_
    refine J_lqF (K0 := (fun r : Bool => some (bv r, []))) (fun _ => rfl) (laws_eqInt64S_l1.ok a1 a2 q _ (fun v17 => J_j ?_) 0)
    refine J_g 30 [] [(4, bv true)] [] orcN ?_
    exact J_r1 rfl

noncomputable def c53 : Code := (Tryz.f53.body).getD .skip

theorem laws_eqSetResult.ok (a1 : SetResult) (a2 : SetResult) : Ok Tryz.prog 53 [.ag (SetResult.enc false a1), .ag (SetResult.enc false a2)] [] ((laws_eqSetResult a1 a2).map fun r => (bv r, [])) := by
  refine Ok_of3 c53 Tryz.f53 0 21 (fun q => ?_)
  unfold laws_eqSetResult
  refine J_g 2 [(0, 0), (1, 1)] [(2, pp 0), (3, pp 1)] [(0, .box (SetResult.enc false a1)), (1, .box (SetResult.enc false a2))] orcN ?_
  refine J_g 12 [] [(2, pp 0), (3, pp 1), (9, bv (a1.Code != a2.Code))] [(0, .box (SetResult.enc false a1)), (1, .box (SetResult.enc false a2))] orcN ?_
  refine J_if2 9 (fun h3 => ?_) (fun h3 => ?_)
  · refine J_g 52 [] [(4, bv false)] [] orcN ?_
    exact J_r1 rfl
  · refine J_g 28 [] [(2, pp 0), (3, pp 1), (14, bv (a1.At != a2.At))] [(0, .box (SetResult.enc false a1)), (1, .box (SetResult.enc false a2))] orcN ?_
    refine J_if2 14 (fun h4 => ?_) (fun h4 => ?_)
    · refine J_g 116 [] [(4, bv false)] [] orcN ?_
      exact J_r1 rfl
    · refine J_bind (fun x5 h6 => ?_)
      refine J_g 60 [] [(20, bv (!x5))] [] (orcC 4 (x_c0 [(.tmp 16), (.tmp 18)] [70, 70] (laws_eqInt64S.ok a1.Set a2.Set) h6) orcN) ?_
      refine J_if2 20 (fun h7 => ?_) (fun h7 => ?_)
      · refine J_g 244 [] [(4, bv false)] [] orcN ?_
        exact J_r1 rfl
      · refine J_g 62 [] [(4, bv true)] [] orcN ?_
        exact J_r1 rfl

noncomputable def c189 : Code := (Tryz.f189.body).getD .skip

theorem laws_eqVersion.ok (a1 : Version) (a2 : Version) : Ok Tryz.prog 189 [.ag (Version.enc a1), .ag (Version.enc a2)] [] ((laws_eqVersion a1 a2).map fun r => (bv r, [])) := by
  refine Ok_of3 c189 Tryz.f189 0 20 (fun q => ?_)
  unfold laws_eqVersion
  refine J_g 2 [(0, 0), (1, 1)] [(2, pp 0), (3, pp 1)] [(0, .box (Version.enc a1)), (1, .box (Version.enc a2))] orcN ?_
  refine J_g 12 [] [(2, pp 0), (3, pp 1), (9, bv (a1.A != a2.A))] [(0, .box (Version.enc a1)), (1, .box (Version.enc a2))] orcN ?_
  refine J_if2 9 (fun h3 => ?_) (fun h3 => ?_)
  · refine J_g 52 [] [(4, bv false)] [] orcN ?_
    exact J_r1 rfl
  · refine J_g 28 [] [(2, pp 0), (3, pp 1), (14, bv (a1.B != a2.B))] [(0, .box (Version.enc a1)), (1, .box (Version.enc a2))] orcN ?_
    refine J_if2 14 (fun h4 => ?_) (fun h4 => ?_)
    · refine J_g 116 [] [(4, bv false)] [] orcN ?_
      exact J_r1 rfl
    · refine J_g 60 [] [(19, bv (a1.C != a2.C))] [] orcN ?_
      refine J_if2 19 (fun h5 => ?_) (fun h5 => ?_)
      · refine J_g 244 [] [(4, bv false)] [] orcN ?_
        exact J_r1 rfl
      · refine J_g 62 [] [(4, bv true)] [] orcN ?_
        exact J_r1 rfl

noncomputable def c142 : Code := (Tryz.f142.body).getD .skip

theorem laws_eqStringS_l1.ok (a1 : (List ByteArray)) (a2 : (List ByteArray)) (q : Wd) (kn : Unit → Option (D × List Ent)) (hk : ∀ v : Unit, J (q.g Tryz.prog 142 0 26) c142 (atI c142 15) (St.mk' [] []) (some v) kn) :
    ∀ s10 : Int, J (q.g Tryz.prog 142 0 26) c142 (atI c142 116) (St.mk' [(0, sl 1 eStr a1), (1, sl 1 eStr a2), (5, iv s10)] []) (laws_eqStringS_l1 a1 a2 s10) (Fl.go (fun r : Bool => some (bv r, [])) kn) := by
  refine J_lp (fun g ih s10 => ?_)
  unfold laws_eqStringS_l1b
  refine J_g 464 [] [(0, sl 1 eStr a1), (1, sl 1 eStr a2), (5, iv s10), (14, bv (decide (s10 < (a1.length : Int))))] [] orcN ?_
  refine J_if2 14 (fun h11 => ?_) (fun h11 => ?_)
  · refine J_bind (fun x12 h13 => ?_)
    refine J_bind (fun x14 h15 => ?_)
    refine J_g 1864 [] [(0, sl 1 eStr a1), (1, sl 1 eStr a2), (5, iv s10), (25, bv (!(seq x12 x14)))] [] (orcC 2 (x_ix (kk := .i64) 94 9 1 eStr (.tmp 17) (.tmp 18) h13) (orcC 6 (x_ix (kk := .i64) 94 9 1 eStr (.tmp 21) (.tmp 22) h15) orcN)) ?_
    refine J_if2 25 (fun h16 => ?_) (fun h16 => ?_)
    · refine J_g 7460 [] [(4, bv false)] [] orcN ?_
      exact J_r1 rfl
    · refine J_g 467 [] [(0, sl 1 eStr a1), (1, sl 1 eStr a2), (5, iv (w64 (s10 + 1)))] [] orcN ?_
      exact J_q (J_b (ih (w64 (s10 + 1)))) rfl
  · exact J_qw (hk ()) rfl

theorem laws_eqStringS.ok (a1 : (List ByteArray)) (a2 : (List ByteArray)) : Ok Tryz.prog 142 [sl 1 eStr a1, sl 1 eStr a2] [] ((laws_eqStringS a1 a2).map fun r => (bv r, [])) := by
  refine Ok_of3 c142 Tryz.f142 0 26 (fun q => ?_)
  unfold laws_eqStringS
  refine J_g 2 [] [(0, sl 1 eStr a1), (1, sl 1 eStr a2)] [] orcN ?_
  refine J_g 12 [] [(0, sl 1 eStr a1), (1, sl 1 eStr a2), (10, bv ((a1.length : Int) != (a2.length : Int)))] [] orcN ?_
  refine J_if2 10 (fun h3 => ?_) (fun h3 => ?_)
  · refine J_g 52 [] [(4, bv false)] [] orcN ?_
    exact J_r1 rfl
  · refine J_g 28 [] [(0, sl 1 eStr a1), (1, sl 1 eStr a2), (5, iv 0)] [] orcN ?_
    refine J_lqF (K0 := (fun r : Bool => some (bv r, []))) (fun _ => rfl) (laws_eqStringS_l1.ok a1 a2 q _ (fun v17 => J_j ?_) 0)
    refine J_g 30 [] [(4, bv true)] [] orcN ?_
    exact J_r1 rfl

noncomputable def c199 : Code := (Tryz.f199.body).getD .skip

theorem laws_eqTerm.ok (a1 : Term) (a2 : Term) : Ok Tryz.prog 199 [.ag (Term.enc a1), .ag (Term.enc a2)] [] ((laws_eqTerm a1 a2).map fun r => (bv r, [])) := by
  refine Ok_of3 c199 Tryz.f199 0 22 (fun q => ?_)
  unfold laws_eqTerm
  refine J_g 2 [(0, 0), (1, 1)] [(2, pp 0), (3, pp 1)] [(0, .box (Term.enc a1)), (1, .box (Term.enc a2))] orcN ?_
  refine J_g 12 [] [(2, pp 0), (3, pp 1), (9, bv (!(seq a1.Name a2.Name)))] [(0, .box (Term.enc a1)), (1, .box (Term.enc a2))] orcN ?_
  refine J_if2 9 (fun h3 => ?_) (fun h3 => ?_)
  · refine J_g 52 [] [(4, bv false)] [] orcN ?_
    exact J_r1 rfl
  · refine J_bind (fun x4 h5 => ?_)
    refine J_g 28 [] [(2, pp 0), (3, pp 1), (15, bv (!x4))] [(0, .box (Term.enc a1)), (1, .box (Term.enc a2))] (orcC 4 (x_c0 [(.tmp 11), (.tmp 13)] [39, 39] (laws_eqVersion.ok a1.Low a2.Low) h5) orcN) ?_
    refine J_if2 15 (fun h6 => ?_) (fun h6 => ?_)
    · refine J_g 116 [] [(4, bv false)] [] orcN ?_
      exact J_r1 rfl
    · refine J_bind (fun x7 h8 => ?_)
      refine J_g 60 [] [(21, bv (!x7))] [] (orcC 4 (x_c0 [(.tmp 17), (.tmp 19)] [39, 39] (laws_eqVersion.ok a1.High a2.High) h8) orcN) ?_
      refine J_if2 21 (fun h9 => ?_) (fun h9 => ?_)
      · refine J_g 244 [] [(4, bv false)] [] orcN ?_
        exact J_r1 rfl
      · refine J_g 62 [] [(4, bv true)] [] orcN ?_
        exact J_r1 rfl

noncomputable def c101 : Code := (Tryz.f101.body).getD .skip

theorem laws_eqTermS_l1.ok (a1 : (List Term)) (a2 : (List Term)) (q : Wd) (kn : Unit → Option (D × List Ent)) (hk : ∀ v : Unit, J (q.g Tryz.prog 101 0 27) c101 (atI c101 15) (St.mk' [] []) (some v) kn) :
    ∀ s12 : Int, J (q.g Tryz.prog 101 0 27) c101 (atI c101 116) (St.mk' [(0, sl 7 Term.enc a1), (1, sl 7 Term.enc a2), (5, iv s12)] []) (laws_eqTermS_l1 a1 a2 s12) (Fl.go (fun r : Bool => some (bv r, [])) kn) := by
  refine J_lp (fun g ih s12 => ?_)
  unfold laws_eqTermS_l1b
  refine J_g 464 [] [(0, sl 7 Term.enc a1), (1, sl 7 Term.enc a2), (5, iv s12), (14, bv (decide (s12 < (a1.length : Int))))] [] orcN ?_
  refine J_if2 14 (fun h13 => ?_) (fun h13 => ?_)
  · refine J_bind (fun x14 h15 => ?_)
    refine J_bind (fun x16 h17 => ?_)
    refine J_bind (fun x18 h19 => ?_)
    refine J_g 1864 [] [(0, sl 7 Term.enc a1), (1, sl 7 Term.enc a2), (5, iv s12), (26, bv (!x18))] [] (orcC 2 (x_ix (kk := .i64) 24 41 7 Term.enc (.tmp 17) (.tmp 18) h15) (orcC 6 (x_ix (kk := .i64) 24 41 7 Term.enc (.tmp 21) (.tmp 22) h17) (orcC 8 (x_c0 [(.tmp 20), (.tmp 24)] [41, 41] (laws_eqTerm.ok x14 x16) h19) orcN))) ?_
    refine J_if2 26 (fun h20 => ?_) (fun h20 => ?_)
    · refine J_g 7460 [] [(4, bv false)] [] orcN ?_
      exact J_r1 rfl
    · refine J_g 467 [] [(0, sl 7 Term.enc a1), (1, sl 7 Term.enc a2), (5, iv (w64 (s12 + 1)))] [] orcN ?_
      exact J_q (J_b (ih (w64 (s12 + 1)))) rfl
  · exact J_qw (hk ()) rfl

theorem laws_eqTermS.ok (a1 : (List Term)) (a2 : (List Term)) : Ok Tryz.prog 101 [sl 7 Term.enc a1, sl 7 Term.enc a2] [] ((laws_eqTermS a1 a2).map fun r => (bv r, [])) := by
  refine Ok_of3 c101 Tryz.f101 0 27 (fun q => ?_)
  unfold laws_eqTermS
  refine J_g 2 [] [(0, sl 7 Term.enc a1), (1, sl 7 Term.enc a2)] [] orcN ?_
  refine J_g 12 [] [(0, sl 7 Term.enc a1), (1, sl 7 Term.enc a2), (10, bv ((a1.length : Int) != (a2.length : Int)))] [] orcN ?_
  refine J_if2 10 (fun h3 => ?_) (fun h3 => ?_)
  · refine J_g 52 [] [(4, bv false)] [] orcN ?_
    exact J_r1 rfl
  · refine J_g 28 [] [(0, sl 7 Term.enc a1), (1, sl 7 Term.enc a2), (5, iv 0)] [] orcN ?_
    refine J_lqF (K0 := (fun r : Bool => some (bv r, []))) (fun _ => rfl) (laws_eqTermS_l1.ok a1 a2 q _ (fun v21 => J_j ?_) 0)
    refine J_g 30 [] [(4, bv true)] [] orcN ?_
    exact J_r1 rfl

noncomputable def c190 : Code := (Tryz.f190.body).getD .skip

theorem laws_eqTermSS_l1.ok (a1 : (List (List Term))) (a2 : (List (List Term))) (q : Wd) (kn : Unit → Option (D × List Ent)) (hk : ∀ v : Unit, J (q.g Tryz.prog 190 0 27) c190 (atI c190 15) (St.mk' [] []) (some v) kn) :
    ∀ s12 : Int, J (q.g Tryz.prog 190 0 27) c190 (atI c190 116) (St.mk' [(0, sl 1 (eSl false 7 Term.enc) a1), (1, sl 1 (eSl false 7 Term.enc) a2), (5, iv s12)] []) (laws_eqTermSS_l1 a1 a2 s12) (Fl.go (fun r : Bool => some (bv r, [])) kn) := by
  refine J_lp (fun g ih s12 => ?_)
  unfold laws_eqTermSS_l1b
  refine J_g 464 [] [(0, sl 1 (eSl false 7 Term.enc) a1), (1, sl 1 (eSl false 7 Term.enc) a2), (5, iv s12), (14, bv (decide (s12 < (a1.length : Int))))] [] orcN ?_
  refine J_if2 14 (fun h13 => ?_) (fun h13 => ?_)
  · refine J_bind (fun x14 h15 => ?_)
    refine J_bind (fun x16 h17 => ?_)
    refine J_bind (fun x18 h19 => ?_)
    refine J_g 1864 [] [(0, sl 1 (eSl false 7 Term.enc) a1), (1, sl 1 (eSl false 7 Term.enc) a2), (5, iv s12), (26, bv (!x18))] [] (orcC 2 (x_ix (kk := .i64) 130 24 1 (eSl false 7 Term.enc) (.tmp 17) (.tmp 18) h15) (orcC 6 (x_ix (kk := .i64) 130 24 1 (eSl false 7 Term.enc) (.tmp 21) (.tmp 22) h17) (orcC 8 (x_c0 [(.tmp 20), (.tmp 24)] [24, 24] (laws_eqTermS.ok x14 x16) h19) orcN))) ?_
    refine J_if2 26 (fun h20 => ?_) (fun h20 => ?_)
    · refine J_g 7460 [] [(4, bv false)] [] orcN ?_
      exact J_r1 rfl
    · refine J_g 467 [] [(0, sl 1 (eSl false 7 Term.enc) a1), (1, sl 1 (eSl false 7 Term.enc) a2), (5, iv (w64 (s12 + 1)))] [] orcN ?_
      exact J_q (J_b (ih (w64 (s12 + 1)))) rfl
  · exact J_qw (hk ()) rfl

theorem laws_eqTermSS.ok (a1 : (List (List Term))) (a2 : (List (List Term))) : Ok Tryz.prog 190 [sl 1 (eSl false 7 Term.enc) a1, sl 1 (eSl false 7 Term.enc) a2] [] ((laws_eqTermSS a1 a2).map fun r => (bv r, [])) := by
  refine Ok_of3 c190 Tryz.f190 0 27 (fun q => ?_)
  unfold laws_eqTermSS
  refine J_g 2 [] [(0, sl 1 (eSl false 7 Term.enc) a1), (1, sl 1 (eSl false 7 Term.enc) a2)] [] orcN ?_
  refine J_g 12 [] [(0, sl 1 (eSl false 7 Term.enc) a1), (1, sl 1 (eSl false 7 Term.enc) a2), (10, bv ((a1.length : Int) != (a2.length : Int)))] [] orcN ?_
  refine J_if2 10 (fun h3 => ?_) (fun h3 => ?_)
  · refine J_g 52 [] [(4, bv false)] [] orcN ?_
    exact J_r1 rfl
  · refine J_g 28 [] [(0, sl 1 (eSl false 7 Term.enc) a1), (1, sl 1 (eSl false 7 Term.enc) a2), (5, iv 0)] [] orcN ?_
    refine J_lqF (K0 := (fun r : Bool => some (bv r, []))) (fun _ => rfl) (laws_eqTermSS_l1.ok a1 a2 q _ (fun v21 => J_j ?_) 0)
    refine J_g 30 [] [(4, bv true)] [] orcN ?_
    exact J_r1 rfl

noncomputable def c92 : Code := (Tryz.f92.body).getD .skip

theorem laws_eqPack.ok (a1 : Pack) (a2 : Pack) : Ok Tryz.prog 92 [.ag (Pack.enc false a1), .ag (Pack.enc false a2)] [] ((laws_eqPack a1 a2).map fun r => (bv r, [])) := by
  refine Ok_of3 c92 Tryz.f92 0 39 (fun q => ?_)
  unfold laws_eqPack
  refine J_g 2 [(0, 0), (1, 1)] [(2, pp 0), (3, pp 1)] [(0, .box (Pack.enc false a1)), (1, .box (Pack.enc false a2))] orcN ?_
  refine J_g 12 [] [(2, pp 0), (3, pp 1), (9, bv (!(seq a1.Name a2.Name)))] [(0, .box (Pack.enc false a1)), (1, .box (Pack.enc false a2))] orcN ?_
  refine J_if2 9 (fun h3 => ?_) (fun h3 => ?_)
  · refine J_g 52 [] [(4, bv false)] [] orcN ?_
    exact J_r1 rfl
  · refine J_bind (fun x4 h5 => ?_)
    refine J_g 28 [] [(2, pp 0), (3, pp 1), (15, bv (!x4))] [(0, .box (Pack.enc false a1)), (1, .box (Pack.enc false a2))] (orcC 4 (x_c0 [(.tmp 11), (.tmp 13)] [39, 39] (laws_eqVersion.ok a1.Version a2.Version) h5) orcN) ?_
    refine J_if2 15 (fun h6 => ?_) (fun h6 => ?_)
    · refine J_g 116 [] [(4, bv false)] [] orcN ?_
      exact J_r1 rfl
    · refine J_g 60 [] [(2, pp 0), (3, pp 1), (20, bv (a1.Size != a2.Size))] [(0, .box (Pack.enc false a1)), (1, .box (Pack.enc false a2))] orcN ?_
      refine J_if2 20 (fun h7 => ?_) (fun h7 => ?_)
      · refine J_g 244 [] [(4, bv false)] [] orcN ?_
        exact J_r1 rfl
      · refine J_bind (fun x8 h9 => ?_)
        refine J_g 124 [] [(2, pp 0), (3, pp 1), (26, bv (!x8))] [(0, .box (Pack.enc false a1)), (1, .box (Pack.enc false a2))] (orcC 4 (x_c0 [(.tmp 22), (.tmp 24)] [94, 94] (laws_eqStringS.ok a1.Provides a2.Provides) h9) orcN) ?_
        refine J_if2 26 (fun h10 => ?_) (fun h10 => ?_)
        · refine J_g 500 [] [(4, bv false)] [] orcN ?_
          exact J_r1 rfl
        · refine J_bind (fun x11 h12 => ?_)
          refine J_g 252 [] [(2, pp 0), (3, pp 1), (32, bv (!x11))] [(0, .box (Pack.enc false a1)), (1, .box (Pack.enc false a2))] (orcC 4 (x_c0 [(.tmp 28), (.tmp 30)] [130, 130] (laws_eqTermSS.ok a1.Needs a2.Needs) h12) orcN) ?_
          refine J_if2 32 (fun h13 => ?_) (fun h13 => ?_)
          · refine J_g 1012 [] [(4, bv false)] [] orcN ?_
            exact J_r1 rfl
          · refine J_bind (fun x14 h15 => ?_)
            refine J_g 508 [] [(38, bv (!x14))] [] (orcC 4 (x_c0 [(.tmp 34), (.tmp 36)] [24, 24] (laws_eqTermS.ok a1.Bars a2.Bars) h15) orcN) ?_
            refine J_if2 38 (fun h16 => ?_) (fun h16 => ?_)
            · refine J_g 2036 [] [(4, bv false)] [] orcN ?_
              exact J_r1 rfl
            · refine J_g 510 [] [(4, bv true)] [] orcN ?_
              exact J_r1 rfl

noncomputable def c26 : Code := (Tryz.f26.body).getD .skip

theorem laws_eqPackS_l1.ok (a1 : (List Pack)) (a2 : (List Pack)) (q : Wd) (kn : Unit → Option (D × List Ent)) (hk : ∀ v : Unit, J (q.g Tryz.prog 26 0 27) c26 (atI c26 15) (St.mk' [] []) (some v) kn) :
    ∀ s12 : Int, J (q.g Tryz.prog 26 0 27) c26 (atI c26 116) (St.mk' [(0, sl 8 (Pack.enc false) a1), (1, sl 8 (Pack.enc false) a2), (5, iv s12)] []) (laws_eqPackS_l1 a1 a2 s12) (Fl.go (fun r : Bool => some (bv r, [])) kn) := by
  refine J_lp (fun g ih s12 => ?_)
  unfold laws_eqPackS_l1b
  refine J_g 464 [] [(0, sl 8 (Pack.enc false) a1), (1, sl 8 (Pack.enc false) a2), (5, iv s12), (14, bv (decide (s12 < (a1.length : Int))))] [] orcN ?_
  refine J_if2 14 (fun h13 => ?_) (fun h13 => ?_)
  · refine J_bind (fun x14 h15 => ?_)
    refine J_bind (fun x16 h17 => ?_)
    refine J_bind (fun x18 h19 => ?_)
    refine J_g 1864 [] [(0, sl 8 (Pack.enc false) a1), (1, sl 8 (Pack.enc false) a2), (5, iv s12), (26, bv (!x18))] [] (orcC 2 (x_ix (kk := .i64) 47 132 8 (Pack.enc false) (.tmp 17) (.tmp 18) h15) (orcC 6 (x_ix (kk := .i64) 47 132 8 (Pack.enc false) (.tmp 21) (.tmp 22) h17) (orcC 8 (x_c0 [(.tmp 20), (.tmp 24)] [132, 132] (laws_eqPack.ok x14 x16) h19) orcN))) ?_
    refine J_if2 26 (fun h20 => ?_) (fun h20 => ?_)
    · refine J_g 7460 [] [(4, bv false)] [] orcN ?_
      exact J_r1 rfl
    · refine J_g 467 [] [(0, sl 8 (Pack.enc false) a1), (1, sl 8 (Pack.enc false) a2), (5, iv (w64 (s12 + 1)))] [] orcN ?_
      exact J_q (J_b (ih (w64 (s12 + 1)))) rfl
  · exact J_qw (hk ()) rfl

theorem laws_eqPackS.ok (a1 : (List Pack)) (a2 : (List Pack)) : Ok Tryz.prog 26 [sl 8 (Pack.enc false) a1, sl 8 (Pack.enc false) a2] [] ((laws_eqPackS a1 a2).map fun r => (bv r, [])) := by
  refine Ok_of3 c26 Tryz.f26 0 27 (fun q => ?_)
  unfold laws_eqPackS
  refine J_g 2 [] [(0, sl 8 (Pack.enc false) a1), (1, sl 8 (Pack.enc false) a2)] [] orcN ?_
  refine J_g 12 [] [(0, sl 8 (Pack.enc false) a1), (1, sl 8 (Pack.enc false) a2), (10, bv ((a1.length : Int) != (a2.length : Int)))] [] orcN ?_
  refine J_if2 10 (fun h3 => ?_) (fun h3 => ?_)
  · refine J_g 52 [] [(4, bv false)] [] orcN ?_
    exact J_r1 rfl
  · refine J_g 28 [] [(0, sl 8 (Pack.enc false) a1), (1, sl 8 (Pack.enc false) a2), (5, iv 0)] [] orcN ?_
    refine J_lqF (K0 := (fun r : Bool => some (bv r, []))) (fun _ => rfl) (laws_eqPackS_l1.ok a1 a2 q _ (fun v21 => J_j ?_) 0)
    refine J_g 30 [] [(4, bv true)] [] orcN ?_
    exact J_r1 rfl

noncomputable def c315 : Code := (Tryz.f315.body).getD .skip

theorem laws_eqByteS_l1.ok (a1 : (List Int)) (a2 : (List Int)) (q : Wd) (kn : Unit → Option (D × List Ent)) (hk : ∀ v : Unit, J (q.g Tryz.prog 315 0 26) c315 (atI c315 15) (St.mk' [] []) (some v) kn) :
    ∀ s10 : Int, J (q.g Tryz.prog 315 0 26) c315 (atI c315 116) (St.mk' [(0, sl 1 eU8 a1), (1, sl 1 eU8 a2), (5, iv s10)] []) (laws_eqByteS_l1 a1 a2 s10) (Fl.go (fun r : Bool => some (bv r, [])) kn) := by
  refine J_lp (fun g ih s10 => ?_)
  unfold laws_eqByteS_l1b
  refine J_g 464 [] [(0, sl 1 eU8 a1), (1, sl 1 eU8 a2), (5, iv s10), (14, bv (decide (s10 < (a1.length : Int))))] [] orcN ?_
  refine J_if2 14 (fun h11 => ?_) (fun h11 => ?_)
  · refine J_bind (fun x12 h13 => ?_)
    refine J_bind (fun x14 h15 => ?_)
    refine J_g 1864 [] [(0, sl 1 eU8 a1), (1, sl 1 eU8 a2), (5, iv s10), (25, bv (x12 != x14))] [] (orcC 2 (x_ix (kk := .i64) 22 5 1 eU8 (.tmp 17) (.tmp 18) h13) (orcC 6 (x_ix (kk := .i64) 22 5 1 eU8 (.tmp 21) (.tmp 22) h15) orcN)) ?_
    refine J_if2 25 (fun h16 => ?_) (fun h16 => ?_)
    · refine J_g 7460 [] [(4, bv false)] [] orcN ?_
      exact J_r1 rfl
    · refine J_g 467 [] [(0, sl 1 eU8 a1), (1, sl 1 eU8 a2), (5, iv (w64 (s10 + 1)))] [] orcN ?_
      exact J_q (J_b (ih (w64 (s10 + 1)))) rfl
  · exact J_qw (hk ()) rfl

theorem laws_eqByteS.ok (a1 : (List Int)) (a2 : (List Int)) : Ok Tryz.prog 315 [sl 1 eU8 a1, sl 1 eU8 a2] [] ((laws_eqByteS a1 a2).map fun r => (bv r, [])) := by
  refine Ok_of3 c315 Tryz.f315 0 26 (fun q => ?_)
  unfold laws_eqByteS
  refine J_g 2 [] [(0, sl 1 eU8 a1), (1, sl 1 eU8 a2)] [] orcN ?_
  refine J_g 12 [] [(0, sl 1 eU8 a1), (1, sl 1 eU8 a2), (10, bv ((a1.length : Int) != (a2.length : Int)))] [] orcN ?_
  refine J_if2 10 (fun h3 => ?_) (fun h3 => ?_)
  · refine J_g 52 [] [(4, bv false)] [] orcN ?_
    exact J_r1 rfl
  · refine J_g 28 [] [(0, sl 1 eU8 a1), (1, sl 1 eU8 a2), (5, iv 0)] [] orcN ?_
    refine J_lqF (K0 := (fun r : Bool => some (bv r, []))) (fun _ => rfl) (laws_eqByteS_l1.ok a1 a2 q _ (fun v17 => J_j ?_) 0)
    refine J_g 30 [] [(4, bv true)] [] orcN ?_
    exact J_r1 rfl

noncomputable def c228 : Code := (Tryz.f228.body).getD .skip

theorem laws_eqFile.ok (a1 : File) (a2 : File) : Ok Tryz.prog 228 [.ag (File.enc false a1), .ag (File.enc false a2)] [] ((laws_eqFile a1 a2).map fun r => (bv r, [])) := by
  refine Ok_of3 c228 Tryz.f228 0 16 (fun q => ?_)
  unfold laws_eqFile
  refine J_g 2 [(0, 0), (1, 1)] [(2, pp 0), (3, pp 1)] [(0, .box (File.enc false a1)), (1, .box (File.enc false a2))] orcN ?_
  refine J_g 12 [] [(2, pp 0), (3, pp 1), (9, bv (!(seq a1.Path a2.Path)))] [(0, .box (File.enc false a1)), (1, .box (File.enc false a2))] orcN ?_
  refine J_if2 9 (fun h3 => ?_) (fun h3 => ?_)
  · refine J_g 52 [] [(4, bv false)] [] orcN ?_
    exact J_r1 rfl
  · refine J_bind (fun x4 h5 => ?_)
    refine J_g 28 [] [(15, bv (!x4))] [] (orcC 4 (x_c0 [(.tmp 11), (.tmp 13)] [22, 22] (laws_eqByteS.ok a1.Data a2.Data) h5) orcN) ?_
    refine J_if2 15 (fun h6 => ?_) (fun h6 => ?_)
    · refine J_g 116 [] [(4, bv false)] [] orcN ?_
      exact J_r1 rfl
    · refine J_g 30 [] [(4, bv true)] [] orcN ?_
      exact J_r1 rfl

noncomputable def c124 : Code := (Tryz.f124.body).getD .skip

theorem laws_eqFileS_l1.ok (a1 : (List File)) (a2 : (List File)) (q : Wd) (kn : Unit → Option (D × List Ent)) (hk : ∀ v : Unit, J (q.g Tryz.prog 124 0 27) c124 (atI c124 15) (St.mk' [] []) (some v) kn) :
    ∀ s12 : Int, J (q.g Tryz.prog 124 0 27) c124 (atI c124 116) (St.mk' [(0, sl 2 (File.enc false) a1), (1, sl 2 (File.enc false) a2), (5, iv s12)] []) (laws_eqFileS_l1 a1 a2 s12) (Fl.go (fun r : Bool => some (bv r, [])) kn) := by
  refine J_lp (fun g ih s12 => ?_)
  unfold laws_eqFileS_l1b
  refine J_g 464 [] [(0, sl 2 (File.enc false) a1), (1, sl 2 (File.enc false) a2), (5, iv s12), (14, bv (decide (s12 < (a1.length : Int))))] [] orcN ?_
  refine J_if2 14 (fun h13 => ?_) (fun h13 => ?_)
  · refine J_bind (fun x14 h15 => ?_)
    refine J_bind (fun x16 h17 => ?_)
    refine J_bind (fun x18 h19 => ?_)
    refine J_g 1864 [] [(0, sl 2 (File.enc false) a1), (1, sl 2 (File.enc false) a2), (5, iv s12), (26, bv (!x18))] [] (orcC 2 (x_ix (kk := .i64) 27 175 2 (File.enc false) (.tmp 17) (.tmp 18) h15) (orcC 6 (x_ix (kk := .i64) 27 175 2 (File.enc false) (.tmp 21) (.tmp 22) h17) (orcC 8 (x_c0 [(.tmp 20), (.tmp 24)] [175, 175] (laws_eqFile.ok x14 x16) h19) orcN))) ?_
    refine J_if2 26 (fun h20 => ?_) (fun h20 => ?_)
    · refine J_g 7460 [] [(4, bv false)] [] orcN ?_
      exact J_r1 rfl
    · refine J_g 467 [] [(0, sl 2 (File.enc false) a1), (1, sl 2 (File.enc false) a2), (5, iv (w64 (s12 + 1)))] [] orcN ?_
      exact J_q (J_b (ih (w64 (s12 + 1)))) rfl
  · exact J_qw (hk ()) rfl

theorem laws_eqFileS.ok (a1 : (List File)) (a2 : (List File)) : Ok Tryz.prog 124 [sl 2 (File.enc false) a1, sl 2 (File.enc false) a2] [] ((laws_eqFileS a1 a2).map fun r => (bv r, [])) := by
  refine Ok_of3 c124 Tryz.f124 0 27 (fun q => ?_)
  unfold laws_eqFileS
  refine J_g 2 [] [(0, sl 2 (File.enc false) a1), (1, sl 2 (File.enc false) a2)] [] orcN ?_
  refine J_g 12 [] [(0, sl 2 (File.enc false) a1), (1, sl 2 (File.enc false) a2), (10, bv ((a1.length : Int) != (a2.length : Int)))] [] orcN ?_
  refine J_if2 10 (fun h3 => ?_) (fun h3 => ?_)
  · refine J_g 52 [] [(4, bv false)] [] orcN ?_
    exact J_r1 rfl
  · refine J_g 28 [] [(0, sl 2 (File.enc false) a1), (1, sl 2 (File.enc false) a2), (5, iv 0)] [] orcN ?_
    refine J_lqF (K0 := (fun r : Bool => some (bv r, []))) (fun _ => rfl) (laws_eqFileS_l1.ok a1 a2 q _ (fun v21 => J_j ?_) 0)
    refine J_g 30 [] [(4, bv true)] [] orcN ?_
    exact J_r1 rfl

noncomputable def c45 : Code := (Tryz.f45.body).getD .skip

theorem laws_eqDisk.ok (a1 : Disk) (a2 : Disk) : Ok Tryz.prog 45 [.ag (Disk.enc false a1), .ag (Disk.enc false a2)] [] ((laws_eqDisk a1 a2).map fun r => (bv r, [])) := by
  refine Ok_of3 c45 Tryz.f45 0 31 (fun q => ?_)
  unfold laws_eqDisk
  refine J_g 2 [(0, 0), (1, 1)] [(2, pp 0), (3, pp 1)] [(0, .box (Disk.enc false a1)), (1, .box (Disk.enc false a2))] orcN ?_
  refine J_bind (fun x3 h4 => ?_)
  refine J_g 12 [] [(2, pp 0), (3, pp 1), (10, bv (!x3))] [(0, .box (Disk.enc false a1)), (1, .box (Disk.enc false a2))] (orcC 4 (x_c0 [(.tmp 6), (.tmp 8)] [27, 27] (laws_eqFileS.ok a1.Files a2.Files) h4) orcN) ?_
  refine J_if2 10 (fun h5 => ?_) (fun h5 => ?_)
  · refine J_g 52 [] [(4, bv false)] [] orcN ?_
    exact J_r1 rfl
  · refine J_g 28 [] [(2, pp 0), (3, pp 1), (15, bv (a1.Budget != a2.Budget))] [(0, .box (Disk.enc false a1)), (1, .box (Disk.enc false a2))] orcN ?_
    refine J_if2 15 (fun h6 => ?_) (fun h6 => ?_)
    · refine J_g 116 [] [(4, bv false)] [] orcN ?_
      exact J_r1 rfl
    · refine J_g 60 [] [(2, pp 0), (3, pp 1), (20, bv (a1.Writes != a2.Writes))] [(0, .box (Disk.enc false a1)), (1, .box (Disk.enc false a2))] orcN ?_
      refine J_if2 20 (fun h7 => ?_) (fun h7 => ?_)
      · refine J_g 244 [] [(4, bv false)] [] orcN ?_
        exact J_r1 rfl
      · refine J_g 124 [] [(2, pp 0), (3, pp 1), (25, bv (a1.Stop != a2.Stop))] [(0, .box (Disk.enc false a1)), (1, .box (Disk.enc false a2))] orcN ?_
        refine J_if2 25 (fun h8 => ?_) (fun h8 => ?_)
        · refine J_g 500 [] [(4, bv false)] [] orcN ?_
          exact J_r1 rfl
        · refine J_g 252 [] [(30, bv (!(a1.Down == a2.Down)))] [] orcN ?_
          refine J_if2 30 (fun h9 => ?_) (fun h9 => ?_)
          · refine J_g 1012 [] [(4, bv false)] [] orcN ?_
            exact J_r1 rfl
          · refine J_g 254 [] [(4, bv true)] [] orcN ?_
            exact J_r1 rfl

noncomputable def c93 : Code := (Tryz.f93.body).getD .skip

theorem laws_markText_l1.ok  (q : Wd) (kn : ByteArray → Option (D × List Ent)) (hk : ∀ v : ByteArray, J (q.g Tryz.prog 93 0 20) c93 (atI c93 31) (St.mk' [(3, sv v)] []) (some v) kn) :
    ∀ s6 : (Int × ByteArray), J (q.g Tryz.prog 93 0 20) c93 (atI c93 120) (St.mk' [(0, iv s6.1), (3, sv s6.2)] []) (laws_markText_l1 s6) kn := by
  refine J_lp (fun g ih s6 => ?_)
  unfold laws_markText_l1b
  refine J_g 480 [] [(0, iv s6.1), (3, sv s6.2), (7, bv (decide (s6.1 > 0)))] [] orcN ?_
  refine J_if2 7 (fun h7 => ?_) (fun h7 => ?_)
  · refine J_bind (fun x8 h9 => ?_)
    refine J_g 964 [] [(0, iv s6.1), (3, sv x8)] [] (orcC 4 (x_bp 22 5 1 0 eU8 [IntKind.u8.wrap (w64 (48 + (s6.1.tmod 10)))] [0] [(.tmp 11)] [uv (IntKind.u8.wrap (w64 (48 + (s6.1.tmod 10))))]) (orcC 5 (x_b2sr (xs := [IntKind.u8.wrap (w64 (48 + (s6.1.tmod 10)))]) 22 9 5 0 (.tmp 12)) (orcC 7 (x_cat 9 9 (.tmp 13) (.tmp 14) h9) orcN))) ?_
    refine J_g 965 [] [(0, iv (w64 (s6.1.tdiv 10))), (3, sv x8)] [] orcN ?_
    exact J_q (J_b (ih (w64 (s6.1.tdiv 10), x8))) rfl
  · exact J_qw (hk s6.2) rfl

theorem laws_markText.ok (a1 : Int) : Ok Tryz.prog 93 [iv a1] [] ((laws_markText a1).map fun r => (sv r, [])) := by
  refine Ok_of3 c93 Tryz.f93 0 20 (fun q => ?_)
  unfold laws_markText
  refine J_g 2 [] [(0, iv a1)] [] orcN ?_
  refine J_g 12 [] [(0, iv a1), (5, bv (decide (a1 ≤ 0)))] [] orcN ?_
  refine J_if2 5 (fun h2 => ?_) (fun h2 => ?_)
  · refine J_g 52 [] [(2, sv (bs [109, 48]))] [] orcN ?_
    exact J_r1 rfl
  · refine J_g 14 [] [(0, iv a1), (3, sv (bs []))] [] orcN ?_
    refine J_lq (laws_markText_l1.ok q _ (fun v10 => J_j ?_) (a1, bs []))
    refine J_bind (fun x11 h12 => ?_)
    refine J_g 62 [] [(2, sv x11)] [] (orcC 1 (x_cat 9 9 (.const (.string (bs [109]))) (.tmp 18) h12) orcN) ?_
    exact J_r1 rfl

noncomputable def c94 : Code := (Tryz.f94.body).getD .skip

theorem laws_markStringSr_l1.ok  (q : Wd) (kn : ((List ByteArray) × Int) → Option (D × List Ent)) (hk : ∀ v : ((List ByteArray) × Int), J (q.g Tryz.prog 94 1 20) c94 (atI c94 7) (St.mk' [(1, iv v.2)] [(0, rE 1 eStr v.1)]) (some v) kn) :
    ∀ s8 : ((List ByteArray) × Int × Int), J (q.g Tryz.prog 94 1 20) c94 (atI c94 52) (St.mk' [(0, rr 0 s8.1), (1, iv s8.2.1), (5, iv s8.2.2)] [(0, rE 1 eStr s8.1)]) (laws_markStringSr_l1 s8) kn := by
  refine J_lp (fun g ih s8 => ?_)
  unfold laws_markStringSr_l1b
  refine J_g 208 [] [(0, rr 0 s8.1), (1, iv s8.2.1), (5, iv s8.2.2), (9, bv (decide (s8.2.2 < (s8.1.length : Int))))] [(0, rE 1 eStr s8.1)] orcN ?_
  refine J_if2 9 (fun h9 => ?_) (fun h9 => ?_)
  · refine J_bind (fun x10 h11 => ?_)
    refine J_bind (fun x12 h13 => ?_)
    refine J_g 840 [] [(0, rr 0 s8.1), (1, iv s8.2.1), (5, iv s8.2.2)] [(0, rE 1 eStr (s8.1.set s8.2.2.toNat x10))] (orcC 3 (x_c0 [(.tmp 14)] [3] (laws_markText.ok s8.2.1) h11) (orcC 4 (x_ixr (kk := .i64) 94 9 1 0 eStr (.tmp 12) (.tmp 13) h13) (orcD 5 (x_st (b := x10) 9 1 0 0 eStr (sv x10) (.tmp 16) (.tmp 15) h13 rfl) orcN))) ?_
    refine J_st (σ' := St.mk' [(0, rr 0 (s8.1.set s8.2.2.toNat x10)), (1, iv s8.2.1), (5, iv s8.2.2)] [(0, rE 1 eStr (s8.1.set s8.2.2.toNat x10))]) (by simp only [rr, List.length_set]) ?_
    refine J_g 841 [] [(0, rr 0 (s8.1.set s8.2.2.toNat x10)), (1, iv (w64 (s8.2.1 + 1))), (5, iv s8.2.2)] [(0, rE 1 eStr (s8.1.set s8.2.2.toNat x10))] orcN ?_
    refine J_g 211 [] [(0, rr 0 (s8.1.set s8.2.2.toNat x10)), (1, iv (w64 (s8.2.1 + 1))), (5, iv (w64 (s8.2.2 + 1)))] [(0, rE 1 eStr (s8.1.set s8.2.2.toNat x10))] orcN ?_
    exact J_q (J_b (ih (s8.1.set s8.2.2.toNat x10, w64 (s8.2.1 + 1), w64 (s8.2.2 + 1)))) rfl
  · exact J_qw (hk (s8.1, s8.2.1)) rfl

theorem laws_markStringSr.ok (a1 : (List ByteArray)) (a2 : Int) : Ok Tryz.prog 94 [rr 0 a1, iv a2] [rE 1 eStr a1] ((laws_markStringSr a1 a2).map fun r => (iv r.1, [rE 1 eStr r.2])) := by
  refine Ok_of3 c94 Tryz.f94 1 20 (fun q => ?_)
  unfold laws_markStringSr
  refine J_g 2 [] [(0, rr 0 a1), (1, iv a2)] [(0, rE 1 eStr a1)] orcN ?_
  refine J_g 12 [] [(0, rr 0 a1), (1, iv a2), (5, iv 0)] [(0, rE 1 eStr a1)] orcN ?_
  refine J_lq (laws_markStringSr_l1.ok q _ (fun v14 => J_j ?_) (a1, a2, 0))
  refine J_g 14 [] [(4, iv v14.2)] [(0, rE 1 eStr v14.1)] orcN ?_
  exact J_r1 rfl

noncomputable def c96 : Code := (Tryz.f96.body).getD .skip

theorem laws_markTermSr_l1.ok  (q : Wd) (kn : ((List Term) × Int) → Option (D × List Ent)) (hk : ∀ v : ((List Term) × Int), J (q.g Tryz.prog 96 1 69) c96 (atI c96 7) (St.mk' [(1, iv v.2)] [(0, rE 7 Term.enc v.1)]) (some v) kn) :
    ∀ s20 : ((List Term) × Int × Int), J (q.g Tryz.prog 96 1 69) c96 (atI c96 52) (St.mk' [(0, rr 0 s20.1), (1, iv s20.2.1), (5, iv s20.2.2)] [(0, rE 7 Term.enc s20.1)]) (laws_markTermSr_l1 s20) kn := by
  refine J_lp (fun g ih s20 => ?_)
  unfold laws_markTermSr_l1b
  refine J_g 208 [] [(0, rr 0 s20.1), (1, iv s20.2.1), (5, iv s20.2.2), (9, bv (decide (s20.2.2 < (s20.1.length : Int))))] [(0, rE 7 Term.enc s20.1)] orcN ?_
  refine J_if2 9 (fun h21 => ?_) (fun h21 => ?_)
  · refine J_bind (fun x22 h23 => ?_)
    refine J_bind (fun x24 h25 => ?_)
    refine J_g 840 [] [(0, rr 0 s20.1), (1, iv s20.2.1), (5, iv s20.2.2)] [(0, rE 7 Term.enc (s20.1.set s20.2.2.toNat ({ Name := x22, Low := x24.Low, High := x24.High } : Term)))] (orcC 3 (x_c0 [(.tmp 14)] [3] (laws_markText.ok s20.2.1) h23) (orcC 4 (x_ixr (kk := .i64) 24 41 7 0 Term.enc (.tmp 12) (.tmp 13) h25) (orcD 6 (x_st (b := ({ Name := x22, Low := x24.Low, High := x24.High } : Term)) 9 7 0 0 Term.enc (sv x22) (.tmp 17) (.tmp 15) h25 rfl) orcN))) ?_
    refine J_st (σ' := St.mk' [(0, rr 0 (s20.1.set s20.2.2.toNat ({ Name := x22, Low := x24.Low, High := x24.High } : Term))), (1, iv s20.2.1), (5, iv s20.2.2)] [(0, rE 7 Term.enc (s20.1.set s20.2.2.toNat ({ Name := x22, Low := x24.Low, High := x24.High } : Term)))]) (by simp only [rr, List.length_set]) ?_
    refine J_g 1682 [] [(0, rr 0 (s20.1.set s20.2.2.toNat ({ Name := x22, Low := x24.Low, High := x24.High } : Term))), (1, iv (w64 (s20.2.1 + 1))), (5, iv s20.2.2)] [(0, rE 7 Term.enc (s20.1.set s20.2.2.toNat ({ Name := x22, Low := x24.Low, High := x24.High } : Term)))] orcN ?_
    refine J_bind (fun x26 h27 => ?_)
    refine J_g 3366 [] [(0, rr 0 (s20.1.set s20.2.2.toNat ({ Name := x22, Low := x24.Low, High := x24.High } : Term))), (1, iv (w64 (s20.2.1 + 1))), (5, iv s20.2.2)] [(0, rE 7 Term.enc ((s20.1.set s20.2.2.toNat ({ Name := x22, Low := x24.Low, High := x24.High } : Term)).set s20.2.2.toNat ({ Name := x26.Name, Low := ({ A := w64 (s20.2.1 + 1), B := x26.Low.B, C := x26.Low.C } : Version), High := x26.High } : Term)))] (orcC 3 (x_ixr (kk := .i64) 24 41 7 0 Term.enc (.tmp 20) (.tmp 21) h27) (orcD 6 (x_st (b := ({ Name := x26.Name, Low := ({ A := w64 (s20.2.1 + 1), B := x26.Low.B, C := x26.Low.C } : Version), High := x26.High } : Term)) 2 7 0 1 Term.enc (iv (w64 (s20.2.1 + 1))) (.tmp 25) (.tmp 22) h27 rfl) orcN)) ?_
    refine J_st (σ' := St.mk' [(0, rr 0 ((s20.1.set s20.2.2.toNat ({ Name := x22, Low := x24.Low, High := x24.High } : Term)).set s20.2.2.toNat ({ Name := x26.Name, Low := ({ A := w64 (s20.2.1 + 1), B := x26.Low.B, C := x26.Low.C } : Version), High := x26.High } : Term))), (1, iv (w64 (s20.2.1 + 1))), (5, iv s20.2.2)] [(0, rE 7 Term.enc ((s20.1.set s20.2.2.toNat ({ Name := x22, Low := x24.Low, High := x24.High } : Term)).set s20.2.2.toNat ({ Name := x26.Name, Low := ({ A := w64 (s20.2.1 + 1), B := x26.Low.B, C := x26.Low.C } : Version), High := x26.High } : Term)))]) (by simp only [rr, List.length_set]) ?_
    refine J_g 6734 [] [(0, rr 0 ((s20.1.set s20.2.2.toNat ({ Name := x22, Low := x24.Low, High := x24.High } : Term)).set s20.2.2.toNat ({ Name := x26.Name, Low := ({ A := w64 (s20.2.1 + 1), B := x26.Low.B, C := x26.Low.C } : Version), High := x26.High } : Term))), (1, iv (w64 ((w64 (s20.2.1 + 1)) + 1))), (5, iv s20.2.2)] [(0, rE 7 Term.enc ((s20.1.set s20.2.2.toNat ({ Name := x22, Low := x24.Low, High := x24.High } : Term)).set s20.2.2.toNat ({ Name := x26.Name, Low := ({ A := w64 (s20.2.1 + 1), B := x26.Low.B, C := x26.Low.C } : Version), High := x26.High } : Term)))] orcN ?_
    refine J_bind (fun x28 h29 => ?_)
    refine J_g 13470 [] [(0, rr 0 ((s20.1.set s20.2.2.toNat ({ Name := x22, Low := x24.Low, High := x24.High } : Term)).set s20.2.2.toNat ({ Name := x26.Name, Low := ({ A := w64 (s20.2.1 + 1), B := x26.Low.B, C := x26.Low.C } : Version), High := x26.High } : Term))), (1, iv (w64 ((w64 (s20.2.1 + 1)) + 1))), (5, iv s20.2.2)] [(0, rE 7 Term.enc (((s20.1.set s20.2.2.toNat ({ Name := x22, Low := x24.Low, High := x24.High } : Term)).set s20.2.2.toNat ({ Name := x26.Name, Low := ({ A := w64 (s20.2.1 + 1), B := x26.Low.B, C := x26.Low.C } : Version), High := x26.High } : Term)).set s20.2.2.toNat ({ Name := x28.Name, Low := ({ A := x28.Low.A, B := w64 ((w64 (s20.2.1 + 1)) + 1), C := x28.Low.C } : Version), High := x28.High } : Term)))] (orcC 3 (x_ixr (kk := .i64) 24 41 7 0 Term.enc (.tmp 28) (.tmp 29) h29) (orcD 6 (x_st (b := ({ Name := x28.Name, Low := ({ A := x28.Low.A, B := w64 ((w64 (s20.2.1 + 1)) + 1), C := x28.Low.C } : Version), High := x28.High } : Term)) 2 7 0 2 Term.enc (iv (w64 ((w64 (s20.2.1 + 1)) + 1))) (.tmp 33) (.tmp 30) h29 rfl) orcN)) ?_
    refine J_st (σ' := St.mk' [(0, rr 0 (((s20.1.set s20.2.2.toNat ({ Name := x22, Low := x24.Low, High := x24.High } : Term)).set s20.2.2.toNat ({ Name := x26.Name, Low := ({ A := w64 (s20.2.1 + 1), B := x26.Low.B, C := x26.Low.C } : Version), High := x26.High } : Term)).set s20.2.2.toNat ({ Name := x28.Name, Low := ({ A := x28.Low.A, B := w64 ((w64 (s20.2.1 + 1)) + 1), C := x28.Low.C } : Version), High := x28.High } : Term))), (1, iv (w64 ((w64 (s20.2.1 + 1)) + 1))), (5, iv s20.2.2)] [(0, rE 7 Term.enc (((s20.1.set s20.2.2.toNat ({ Name := x22, Low := x24.Low, High := x24.High } : Term)).set s20.2.2.toNat ({ Name := x26.Name, Low := ({ A := w64 (s20.2.1 + 1), B := x26.Low.B, C := x26.Low.C } : Version), High := x26.High } : Term)).set s20.2.2.toNat ({ Name := x28.Name, Low := ({ A := x28.Low.A, B := w64 ((w64 (s20.2.1 + 1)) + 1), C := x28.Low.C } : Version), High := x28.High } : Term)))]) (by simp only [rr, List.length_set]) ?_
    refine J_g 26942 [] [(0, rr 0 (((s20.1.set s20.2.2.toNat ({ Name := x22, Low := x24.Low, High := x24.High } : Term)).set s20.2.2.toNat ({ Name := x26.Name, Low := ({ A := w64 (s20.2.1 + 1), B := x26.Low.B, C := x26.Low.C } : Version), High := x26.High } : Term)).set s20.2.2.toNat ({ Name := x28.Name, Low := ({ A := x28.Low.A, B := w64 ((w64 (s20.2.1 + 1)) + 1), C := x28.Low.C } : Version), High := x28.High } : Term))), (1, iv (w64 ((w64 ((w64 (s20.2.1 + 1)) + 1)) + 1))), (5, iv s20.2.2)] [(0, rE 7 Term.enc (((s20.1.set s20.2.2.toNat ({ Name := x22, Low := x24.Low, High := x24.High } : Term)).set s20.2.2.toNat ({ Name := x26.Name, Low := ({ A := w64 (s20.2.1 + 1), B := x26.Low.B, C := x26.Low.C } : Version), High := x26.High } : Term)).set s20.2.2.toNat ({ Name := x28.Name, Low := ({ A := x28.Low.A, B := w64 ((w64 (s20.2.1 + 1)) + 1), C := x28.Low.C } : Version), High := x28.High } : Term)))] orcN ?_
    refine J_bind (fun x30 h31 => ?_)
    refine J_g 53886 [] [(0, rr 0 (((s20.1.set s20.2.2.toNat ({ Name := x22, Low := x24.Low, High := x24.High } : Term)).set s20.2.2.toNat ({ Name := x26.Name, Low := ({ A := w64 (s20.2.1 + 1), B := x26.Low.B, C := x26.Low.C } : Version), High := x26.High } : Term)).set s20.2.2.toNat ({ Name := x28.Name, Low := ({ A := x28.Low.A, B := w64 ((w64 (s20.2.1 + 1)) + 1), C := x28.Low.C } : Version), High := x28.High } : Term))), (1, iv (w64 ((w64 ((w64 (s20.2.1 + 1)) + 1)) + 1))), (5, iv s20.2.2)] [(0, rE 7 Term.enc ((((s20.1.set s20.2.2.toNat ({ Name := x22, Low := x24.Low, High := x24.High } : Term)).set s20.2.2.toNat ({ Name := x26.Name, Low := ({ A := w64 (s20.2.1 + 1), B := x26.Low.B, C := x26.Low.C } : Version), High := x26.High } : Term)).set s20.2.2.toNat ({ Name := x28.Name, Low := ({ A := x28.Low.A, B := w64 ((w64 (s20.2.1 + 1)) + 1), C := x28.Low.C } : Version), High := x28.High } : Term)).set s20.2.2.toNat ({ Name := x30.Name, Low := ({ A := x30.Low.A, B := x30.Low.B, C := w64 ((w64 ((w64 (s20.2.1 + 1)) + 1)) + 1) } : Version), High := x30.High } : Term)))] (orcC 3 (x_ixr (kk := .i64) 24 41 7 0 Term.enc (.tmp 36) (.tmp 37) h31) (orcD 6 (x_st (b := ({ Name := x30.Name, Low := ({ A := x30.Low.A, B := x30.Low.B, C := w64 ((w64 ((w64 (s20.2.1 + 1)) + 1)) + 1) } : Version), High := x30.High } : Term)) 2 7 0 3 Term.enc (iv (w64 ((w64 ((w64 (s20.2.1 + 1)) + 1)) + 1))) (.tmp 41) (.tmp 38) h31 rfl) orcN)) ?_
    refine J_st (σ' := St.mk' [(0, rr 0 ((((s20.1.set s20.2.2.toNat ({ Name := x22, Low := x24.Low, High := x24.High } : Term)).set s20.2.2.toNat ({ Name := x26.Name, Low := ({ A := w64 (s20.2.1 + 1), B := x26.Low.B, C := x26.Low.C } : Version), High := x26.High } : Term)).set s20.2.2.toNat ({ Name := x28.Name, Low := ({ A := x28.Low.A, B := w64 ((w64 (s20.2.1 + 1)) + 1), C := x28.Low.C } : Version), High := x28.High } : Term)).set s20.2.2.toNat ({ Name := x30.Name, Low := ({ A := x30.Low.A, B := x30.Low.B, C := w64 ((w64 ((w64 (s20.2.1 + 1)) + 1)) + 1) } : Version), High := x30.High } : Term))), (1, iv (w64 ((w64 ((w64 (s20.2.1 + 1)) + 1)) + 1))), (5, iv s20.2.2)] [(0, rE 7 Term.enc ((((s20.1.set s20.2.2.toNat ({ Name := x22, Low := x24.Low, High := x24.High } : Term)).set s20.2.2.toNat ({ Name := x26.Name, Low := ({ A := w64 (s20.2.1 + 1), B := x26.Low.B, C := x26.Low.C } : Version), High := x26.High } : Term)).set s20.2.2.toNat ({ Name := x28.Name, Low := ({ A := x28.Low.A, B := w64 ((w64 (s20.2.1 + 1)) + 1), C := x28.Low.C } : Version), High := x28.High } : Term)).set s20.2.2.toNat ({ Name := x30.Name, Low := ({ A := x30.Low.A, B := x30.Low.B, C := w64 ((w64 ((w64 (s20.2.1 + 1)) + 1)) + 1) } : Version), High := x30.High } : Term)))]) (by simp only [rr, List.length_set]) ?_
    refine J_g 107774 [] [(0, rr 0 ((((s20.1.set s20.2.2.toNat ({ Name := x22, Low := x24.Low, High := x24.High } : Term)).set s20.2.2.toNat ({ Name := x26.Name, Low := ({ A := w64 (s20.2.1 + 1), B := x26.Low.B, C := x26.Low.C } : Version), High := x26.High } : Term)).set s20.2.2.toNat ({ Name := x28.Name, Low := ({ A := x28.Low.A, B := w64 ((w64 (s20.2.1 + 1)) + 1), C := x28.Low.C } : Version), High := x28.High } : Term)).set s20.2.2.toNat ({ Name := x30.Name, Low := ({ A := x30.Low.A, B := x30.Low.B, C := w64 ((w64 ((w64 (s20.2.1 + 1)) + 1)) + 1) } : Version), High := x30.High } : Term))), (1, iv (w64 ((w64 ((w64 ((w64 (s20.2.1 + 1)) + 1)) + 1)) + 1))), (5, iv s20.2.2)] [(0, rE 7 Term.enc ((((s20.1.set s20.2.2.toNat ({ Name := x22, Low := x24.Low, High := x24.High } : Term)).set s20.2.2.toNat ({ Name := x26.Name, Low := ({ A := w64 (s20.2.1 + 1), B := x26.Low.B, C := x26.Low.C } : Version), High := x26.High } : Term)).set s20.2.2.toNat ({ Name := x28.Name, Low := ({ A := x28.Low.A, B := w64 ((w64 (s20.2.1 + 1)) + 1), C := x28.Low.C } : Version), High := x28.High } : Term)).set s20.2.2.toNat ({ Name := x30.Name, Low := ({ A := x30.Low.A, B := x30.Low.B, C := w64 ((w64 ((w64 (s20.2.1 + 1)) + 1)) + 1) } : Version), High := x30.High } : Term)))] orcN ?_
    refine J_bind (fun x32 h33 => ?_)
    refine J_g 215550 [] [(0, rr 0 ((((s20.1.set s20.2.2.toNat ({ Name := x22, Low := x24.Low, High := x24.High } : Term)).set s20.2.2.toNat ({ Name := x26.Name, Low := ({ A := w64 (s20.2.1 + 1), B := x26.Low.B, C := x26.Low.C } : Version), High := x26.High } : Term)).set s20.2.2.toNat ({ Name := x28.Name, Low := ({ A := x28.Low.A, B := w64 ((w64 (s20.2.1 + 1)) + 1), C := x28.Low.C } : Version), High := x28.High } : Term)).set s20.2.2.toNat ({ Name := x30.Name, Low := ({ A := x30.Low.A, B := x30.Low.B, C := w64 ((w64 ((w64 (s20.2.1 + 1)) + 1)) + 1) } : Version), High := x30.High } : Term))), (1, iv (w64 ((w64 ((w64 ((w64 (s20.2.1 + 1)) + 1)) + 1)) + 1))), (5, iv s20.2.2)] [(0, rE 7 Term.enc (((((s20.1.set s20.2.2.toNat ({ Name := x22, Low := x24.Low, High := x24.High } : Term)).set s20.2.2.toNat ({ Name := x26.Name, Low := ({ A := w64 (s20.2.1 + 1), B := x26.Low.B, C := x26.Low.C } : Version), High := x26.High } : Term)).set s20.2.2.toNat ({ Name := x28.Name, Low := ({ A := x28.Low.A, B := w64 ((w64 (s20.2.1 + 1)) + 1), C := x28.Low.C } : Version), High := x28.High } : Term)).set s20.2.2.toNat ({ Name := x30.Name, Low := ({ A := x30.Low.A, B := x30.Low.B, C := w64 ((w64 ((w64 (s20.2.1 + 1)) + 1)) + 1) } : Version), High := x30.High } : Term)).set s20.2.2.toNat ({ Name := x32.Name, Low := x32.Low, High := ({ A := w64 ((w64 ((w64 ((w64 (s20.2.1 + 1)) + 1)) + 1)) + 1), B := x32.High.B, C := x32.High.C } : Version) } : Term)))] (orcC 3 (x_ixr (kk := .i64) 24 41 7 0 Term.enc (.tmp 44) (.tmp 45) h33) (orcD 6 (x_st (b := ({ Name := x32.Name, Low := x32.Low, High := ({ A := w64 ((w64 ((w64 ((w64 (s20.2.1 + 1)) + 1)) + 1)) + 1), B := x32.High.B, C := x32.High.C } : Version) } : Term)) 2 7 0 4 Term.enc (iv (w64 ((w64 ((w64 ((w64 (s20.2.1 + 1)) + 1)) + 1)) + 1))) (.tmp 49) (.tmp 46) h33 rfl) orcN)) ?_
    refine J_st (σ' := St.mk' [(0, rr 0 (((((s20.1.set s20.2.2.toNat ({ Name := x22, Low := x24.Low, High := x24.High } : Term)).set s20.2.2.toNat ({ Name := x26.Name, Low := ({ A := w64 (s20.2.1 + 1), B := x26.Low.B, C := x26.Low.C } : Version), High := x26.High } : Term)).set s20.2.2.toNat ({ Name := x28.Name, Low := ({ A := x28.Low.A, B := w64 ((w64 (s20.2.1 + 1)) + 1), C := x28.Low.C } : Version), High := x28.High } : Term)).set s20.2.2.toNat ({ Name := x30.Name, Low := ({ A := x30.Low.A, B := x30.Low.B, C := w64 ((w64 ((w64 (s20.2.1 + 1)) + 1)) + 1) } : Version), High := x30.High } : Term)).set s20.2.2.toNat ({ Name := x32.Name, Low := x32.Low, High := ({ A := w64 ((w64 ((w64 ((w64 (s20.2.1 + 1)) + 1)) + 1)) + 1), B := x32.High.B, C := x32.High.C } : Version) } : Term))), (1, iv (w64 ((w64 ((w64 ((w64 (s20.2.1 + 1)) + 1)) + 1)) + 1))), (5, iv s20.2.2)] [(0, rE 7 Term.enc (((((s20.1.set s20.2.2.toNat ({ Name := x22, Low := x24.Low, High := x24.High } : Term)).set s20.2.2.toNat ({ Name := x26.Name, Low := ({ A := w64 (s20.2.1 + 1), B := x26.Low.B, C := x26.Low.C } : Version), High := x26.High } : Term)).set s20.2.2.toNat ({ Name := x28.Name, Low := ({ A := x28.Low.A, B := w64 ((w64 (s20.2.1 + 1)) + 1), C := x28.Low.C } : Version), High := x28.High } : Term)).set s20.2.2.toNat ({ Name := x30.Name, Low := ({ A := x30.Low.A, B := x30.Low.B, C := w64 ((w64 ((w64 (s20.2.1 + 1)) + 1)) + 1) } : Version), High := x30.High } : Term)).set s20.2.2.toNat ({ Name := x32.Name, Low := x32.Low, High := ({ A := w64 ((w64 ((w64 ((w64 (s20.2.1 + 1)) + 1)) + 1)) + 1), B := x32.High.B, C := x32.High.C } : Version) } : Term)))]) (by simp only [rr, List.length_set]) ?_
    refine J_g 431102 [] [(0, rr 0 (((((s20.1.set s20.2.2.toNat ({ Name := x22, Low := x24.Low, High := x24.High } : Term)).set s20.2.2.toNat ({ Name := x26.Name, Low := ({ A := w64 (s20.2.1 + 1), B := x26.Low.B, C := x26.Low.C } : Version), High := x26.High } : Term)).set s20.2.2.toNat ({ Name := x28.Name, Low := ({ A := x28.Low.A, B := w64 ((w64 (s20.2.1 + 1)) + 1), C := x28.Low.C } : Version), High := x28.High } : Term)).set s20.2.2.toNat ({ Name := x30.Name, Low := ({ A := x30.Low.A, B := x30.Low.B, C := w64 ((w64 ((w64 (s20.2.1 + 1)) + 1)) + 1) } : Version), High := x30.High } : Term)).set s20.2.2.toNat ({ Name := x32.Name, Low := x32.Low, High := ({ A := w64 ((w64 ((w64 ((w64 (s20.2.1 + 1)) + 1)) + 1)) + 1), B := x32.High.B, C := x32.High.C } : Version) } : Term))), (1, iv (w64 ((w64 ((w64 ((w64 ((w64 (s20.2.1 + 1)) + 1)) + 1)) + 1)) + 1))), (5, iv s20.2.2)] [(0, rE 7 Term.enc (((((s20.1.set s20.2.2.toNat ({ Name := x22, Low := x24.Low, High := x24.High } : Term)).set s20.2.2.toNat ({ Name := x26.Name, Low := ({ A := w64 (s20.2.1 + 1), B := x26.Low.B, C := x26.Low.C } : Version), High := x26.High } : Term)).set s20.2.2.toNat ({ Name := x28.Name, Low := ({ A := x28.Low.A, B := w64 ((w64 (s20.2.1 + 1)) + 1), C := x28.Low.C } : Version), High := x28.High } : Term)).set s20.2.2.toNat ({ Name := x30.Name, Low := ({ A := x30.Low.A, B := x30.Low.B, C := w64 ((w64 ((w64 (s20.2.1 + 1)) + 1)) + 1) } : Version), High := x30.High } : Term)).set s20.2.2.toNat ({ Name := x32.Name, Low := x32.Low, High := ({ A := w64 ((w64 ((w64 ((w64 (s20.2.1 + 1)) + 1)) + 1)) + 1), B := x32.High.B, C := x32.High.C } : Version) } : Term)))] orcN ?_
    refine J_bind (fun x34 h35 => ?_)
    refine J_g 862206 [] [(0, rr 0 (((((s20.1.set s20.2.2.toNat ({ Name := x22, Low := x24.Low, High := x24.High } : Term)).set s20.2.2.toNat ({ Name := x26.Name, Low := ({ A := w64 (s20.2.1 + 1), B := x26.Low.B, C := x26.Low.C } : Version), High := x26.High } : Term)).set s20.2.2.toNat ({ Name := x28.Name, Low := ({ A := x28.Low.A, B := w64 ((w64 (s20.2.1 + 1)) + 1), C := x28.Low.C } : Version), High := x28.High } : Term)).set s20.2.2.toNat ({ Name := x30.Name, Low := ({ A := x30.Low.A, B := x30.Low.B, C := w64 ((w64 ((w64 (s20.2.1 + 1)) + 1)) + 1) } : Version), High := x30.High } : Term)).set s20.2.2.toNat ({ Name := x32.Name, Low := x32.Low, High := ({ A := w64 ((w64 ((w64 ((w64 (s20.2.1 + 1)) + 1)) + 1)) + 1), B := x32.High.B, C := x32.High.C } : Version) } : Term))), (1, iv (w64 ((w64 ((w64 ((w64 ((w64 (s20.2.1 + 1)) + 1)) + 1)) + 1)) + 1))), (5, iv s20.2.2)] [(0, rE 7 Term.enc ((((((s20.1.set s20.2.2.toNat ({ Name := x22, Low := x24.Low, High := x24.High } : Term)).set s20.2.2.toNat ({ Name := x26.Name, Low := ({ A := w64 (s20.2.1 + 1), B := x26.Low.B, C := x26.Low.C } : Version), High := x26.High } : Term)).set s20.2.2.toNat ({ Name := x28.Name, Low := ({ A := x28.Low.A, B := w64 ((w64 (s20.2.1 + 1)) + 1), C := x28.Low.C } : Version), High := x28.High } : Term)).set s20.2.2.toNat ({ Name := x30.Name, Low := ({ A := x30.Low.A, B := x30.Low.B, C := w64 ((w64 ((w64 (s20.2.1 + 1)) + 1)) + 1) } : Version), High := x30.High } : Term)).set s20.2.2.toNat ({ Name := x32.Name, Low := x32.Low, High := ({ A := w64 ((w64 ((w64 ((w64 (s20.2.1 + 1)) + 1)) + 1)) + 1), B := x32.High.B, C := x32.High.C } : Version) } : Term)).set s20.2.2.toNat ({ Name := x34.Name, Low := x34.Low, High := ({ A := x34.High.A, B := w64 ((w64 ((w64 ((w64 ((w64 (s20.2.1 + 1)) + 1)) + 1)) + 1)) + 1), C := x34.High.C } : Version) } : Term)))] (orcC 3 (x_ixr (kk := .i64) 24 41 7 0 Term.enc (.tmp 52) (.tmp 53) h35) (orcD 6 (x_st (b := ({ Name := x34.Name, Low := x34.Low, High := ({ A := x34.High.A, B := w64 ((w64 ((w64 ((w64 ((w64 (s20.2.1 + 1)) + 1)) + 1)) + 1)) + 1), C := x34.High.C } : Version) } : Term)) 2 7 0 5 Term.enc (iv (w64 ((w64 ((w64 ((w64 ((w64 (s20.2.1 + 1)) + 1)) + 1)) + 1)) + 1))) (.tmp 57) (.tmp 54) h35 rfl) orcN)) ?_
    refine J_st (σ' := St.mk' [(0, rr 0 ((((((s20.1.set s20.2.2.toNat ({ Name := x22, Low := x24.Low, High := x24.High } : Term)).set s20.2.2.toNat ({ Name := x26.Name, Low := ({ A := w64 (s20.2.1 + 1), B := x26.Low.B, C := x26.Low.C } : Version), High := x26.High } : Term)).set s20.2.2.toNat ({ Name := x28.Name, Low := ({ A := x28.Low.A, B := w64 ((w64 (s20.2.1 + 1)) + 1), C := x28.Low.C } : Version), High := x28.High } : Term)).set s20.2.2.toNat ({ Name := x30.Name, Low := ({ A := x30.Low.A, B := x30.Low.B, C := w64 ((w64 ((w64 (s20.2.1 + 1)) + 1)) + 1) } : Version), High := x30.High } : Term)).set s20.2.2.toNat ({ Name := x32.Name, Low := x32.Low, High := ({ A := w64 ((w64 ((w64 ((w64 (s20.2.1 + 1)) + 1)) + 1)) + 1), B := x32.High.B, C := x32.High.C } : Version) } : Term)).set s20.2.2.toNat ({ Name := x34.Name, Low := x34.Low, High := ({ A := x34.High.A, B := w64 ((w64 ((w64 ((w64 ((w64 (s20.2.1 + 1)) + 1)) + 1)) + 1)) + 1), C := x34.High.C } : Version) } : Term))), (1, iv (w64 ((w64 ((w64 ((w64 ((w64 (s20.2.1 + 1)) + 1)) + 1)) + 1)) + 1))), (5, iv s20.2.2)] [(0, rE 7 Term.enc ((((((s20.1.set s20.2.2.toNat ({ Name := x22, Low := x24.Low, High := x24.High } : Term)).set s20.2.2.toNat ({ Name := x26.Name, Low := ({ A := w64 (s20.2.1 + 1), B := x26.Low.B, C := x26.Low.C } : Version), High := x26.High } : Term)).set s20.2.2.toNat ({ Name := x28.Name, Low := ({ A := x28.Low.A, B := w64 ((w64 (s20.2.1 + 1)) + 1), C := x28.Low.C } : Version), High := x28.High } : Term)).set s20.2.2.toNat ({ Name := x30.Name, Low := ({ A := x30.Low.A, B := x30.Low.B, C := w64 ((w64 ((w64 (s20.2.1 + 1)) + 1)) + 1) } : Version), High := x30.High } : Term)).set s20.2.2.toNat ({ Name := x32.Name, Low := x32.Low, High := ({ A := w64 ((w64 ((w64 ((w64 (s20.2.1 + 1)) + 1)) + 1)) + 1), B := x32.High.B, C := x32.High.C } : Version) } : Term)).set s20.2.2.toNat ({ Name := x34.Name, Low := x34.Low, High := ({ A := x34.High.A, B := w64 ((w64 ((w64 ((w64 ((w64 (s20.2.1 + 1)) + 1)) + 1)) + 1)) + 1), C := x34.High.C } : Version) } : Term)))]) (by simp only [rr, List.length_set]) ?_
    refine J_g 1724414 [] [(0, rr 0 ((((((s20.1.set s20.2.2.toNat ({ Name := x22, Low := x24.Low, High := x24.High } : Term)).set s20.2.2.toNat ({ Name := x26.Name, Low := ({ A := w64 (s20.2.1 + 1), B := x26.Low.B, C := x26.Low.C } : Version), High := x26.High } : Term)).set s20.2.2.toNat ({ Name := x28.Name, Low := ({ A := x28.Low.A, B := w64 ((w64 (s20.2.1 + 1)) + 1), C := x28.Low.C } : Version), High := x28.High } : Term)).set s20.2.2.toNat ({ Name := x30.Name, Low := ({ A := x30.Low.A, B := x30.Low.B, C := w64 ((w64 ((w64 (s20.2.1 + 1)) + 1)) + 1) } : Version), High := x30.High } : Term)).set s20.2.2.toNat ({ Name := x32.Name, Low := x32.Low, High := ({ A := w64 ((w64 ((w64 ((w64 (s20.2.1 + 1)) + 1)) + 1)) + 1), B := x32.High.B, C := x32.High.C } : Version) } : Term)).set s20.2.2.toNat ({ Name := x34.Name, Low := x34.Low, High := ({ A := x34.High.A, B := w64 ((w64 ((w64 ((w64 ((w64 (s20.2.1 + 1)) + 1)) + 1)) + 1)) + 1), C := x34.High.C } : Version) } : Term))), (1, iv (w64 ((w64 ((w64 ((w64 ((w64 ((w64 (s20.2.1 + 1)) + 1)) + 1)) + 1)) + 1)) + 1))), (5, iv s20.2.2)] [(0, rE 7 Term.enc ((((((s20.1.set s20.2.2.toNat ({ Name := x22, Low := x24.Low, High := x24.High } : Term)).set s20.2.2.toNat ({ Name := x26.Name, Low := ({ A := w64 (s20.2.1 + 1), B := x26.Low.B, C := x26.Low.C } : Version), High := x26.High } : Term)).set s20.2.2.toNat ({ Name := x28.Name, Low := ({ A := x28.Low.A, B := w64 ((w64 (s20.2.1 + 1)) + 1), C := x28.Low.C } : Version), High := x28.High } : Term)).set s20.2.2.toNat ({ Name := x30.Name, Low := ({ A := x30.Low.A, B := x30.Low.B, C := w64 ((w64 ((w64 (s20.2.1 + 1)) + 1)) + 1) } : Version), High := x30.High } : Term)).set s20.2.2.toNat ({ Name := x32.Name, Low := x32.Low, High := ({ A := w64 ((w64 ((w64 ((w64 (s20.2.1 + 1)) + 1)) + 1)) + 1), B := x32.High.B, C := x32.High.C } : Version) } : Term)).set s20.2.2.toNat ({ Name := x34.Name, Low := x34.Low, High := ({ A := x34.High.A, B := w64 ((w64 ((w64 ((w64 ((w64 (s20.2.1 + 1)) + 1)) + 1)) + 1)) + 1), C := x34.High.C } : Version) } : Term)))] orcN ?_
    refine J_bind (fun x36 h37 => ?_)
    refine J_g 3448830 [] [(0, rr 0 ((((((s20.1.set s20.2.2.toNat ({ Name := x22, Low := x24.Low, High := x24.High } : Term)).set s20.2.2.toNat ({ Name := x26.Name, Low := ({ A := w64 (s20.2.1 + 1), B := x26.Low.B, C := x26.Low.C } : Version), High := x26.High } : Term)).set s20.2.2.toNat ({ Name := x28.Name, Low := ({ A := x28.Low.A, B := w64 ((w64 (s20.2.1 + 1)) + 1), C := x28.Low.C } : Version), High := x28.High } : Term)).set s20.2.2.toNat ({ Name := x30.Name, Low := ({ A := x30.Low.A, B := x30.Low.B, C := w64 ((w64 ((w64 (s20.2.1 + 1)) + 1)) + 1) } : Version), High := x30.High } : Term)).set s20.2.2.toNat ({ Name := x32.Name, Low := x32.Low, High := ({ A := w64 ((w64 ((w64 ((w64 (s20.2.1 + 1)) + 1)) + 1)) + 1), B := x32.High.B, C := x32.High.C } : Version) } : Term)).set s20.2.2.toNat ({ Name := x34.Name, Low := x34.Low, High := ({ A := x34.High.A, B := w64 ((w64 ((w64 ((w64 ((w64 (s20.2.1 + 1)) + 1)) + 1)) + 1)) + 1), C := x34.High.C } : Version) } : Term))), (1, iv (w64 ((w64 ((w64 ((w64 ((w64 ((w64 (s20.2.1 + 1)) + 1)) + 1)) + 1)) + 1)) + 1))), (5, iv s20.2.2)] [(0, rE 7 Term.enc (((((((s20.1.set s20.2.2.toNat ({ Name := x22, Low := x24.Low, High := x24.High } : Term)).set s20.2.2.toNat ({ Name := x26.Name, Low := ({ A := w64 (s20.2.1 + 1), B := x26.Low.B, C := x26.Low.C } : Version), High := x26.High } : Term)).set s20.2.2.toNat ({ Name := x28.Name, Low := ({ A := x28.Low.A, B := w64 ((w64 (s20.2.1 + 1)) + 1), C := x28.Low.C } : Version), High := x28.High } : Term)).set s20.2.2.toNat ({ Name := x30.Name, Low := ({ A := x30.Low.A, B := x30.Low.B, C := w64 ((w64 ((w64 (s20.2.1 + 1)) + 1)) + 1) } : Version), High := x30.High } : Term)).set s20.2.2.toNat ({ Name := x32.Name, Low := x32.Low, High := ({ A := w64 ((w64 ((w64 ((w64 (s20.2.1 + 1)) + 1)) + 1)) + 1), B := x32.High.B, C := x32.High.C } : Version) } : Term)).set s20.2.2.toNat ({ Name := x34.Name, Low := x34.Low, High := ({ A := x34.High.A, B := w64 ((w64 ((w64 ((w64 ((w64 (s20.2.1 + 1)) + 1)) + 1)) + 1)) + 1), C := x34.High.C } : Version) } : Term)).set s20.2.2.toNat ({ Name := x36.Name, Low := x36.Low, High := ({ A := x36.High.A, B := x36.High.B, C := w64 ((w64 ((w64 ((w64 ((w64 ((w64 (s20.2.1 + 1)) + 1)) + 1)) + 1)) + 1)) + 1) } : Version) } : Term)))] (orcC 3 (x_ixr (kk := .i64) 24 41 7 0 Term.enc (.tmp 60) (.tmp 61) h37) (orcD 6 (x_st (b := ({ Name := x36.Name, Low := x36.Low, High := ({ A := x36.High.A, B := x36.High.B, C := w64 ((w64 ((w64 ((w64 ((w64 ((w64 (s20.2.1 + 1)) + 1)) + 1)) + 1)) + 1)) + 1) } : Version) } : Term)) 2 7 0 6 Term.enc (iv (w64 ((w64 ((w64 ((w64 ((w64 ((w64 (s20.2.1 + 1)) + 1)) + 1)) + 1)) + 1)) + 1))) (.tmp 65) (.tmp 62) h37 rfl) orcN)) ?_
    refine J_st (σ' := St.mk' [(0, rr 0 (((((((s20.1.set s20.2.2.toNat ({ Name := x22, Low := x24.Low, High := x24.High } : Term)).set s20.2.2.toNat ({ Name := x26.Name, Low := ({ A := w64 (s20.2.1 + 1), B := x26.Low.B, C := x26.Low.C } : Version), High := x26.High } : Term)).set s20.2.2.toNat ({ Name := x28.Name, Low := ({ A := x28.Low.A, B := w64 ((w64 (s20.2.1 + 1)) + 1), C := x28.Low.C } : Version), High := x28.High } : Term)).set s20.2.2.toNat ({ Name := x30.Name, Low := ({ A := x30.Low.A, B := x30.Low.B, C := w64 ((w64 ((w64 (s20.2.1 + 1)) + 1)) + 1) } : Version), High := x30.High } : Term)).set s20.2.2.toNat ({ Name := x32.Name, Low := x32.Low, High := ({ A := w64 ((w64 ((w64 ((w64 (s20.2.1 + 1)) + 1)) + 1)) + 1), B := x32.High.B, C := x32.High.C } : Version) } : Term)).set s20.2.2.toNat ({ Name := x34.Name, Low := x34.Low, High := ({ A := x34.High.A, B := w64 ((w64 ((w64 ((w64 ((w64 (s20.2.1 + 1)) + 1)) + 1)) + 1)) + 1), C := x34.High.C } : Version) } : Term)).set s20.2.2.toNat ({ Name := x36.Name, Low := x36.Low, High := ({ A := x36.High.A, B := x36.High.B, C := w64 ((w64 ((w64 ((w64 ((w64 ((w64 (s20.2.1 + 1)) + 1)) + 1)) + 1)) + 1)) + 1) } : Version) } : Term))), (1, iv (w64 ((w64 ((w64 ((w64 ((w64 ((w64 (s20.2.1 + 1)) + 1)) + 1)) + 1)) + 1)) + 1))), (5, iv s20.2.2)] [(0, rE 7 Term.enc (((((((s20.1.set s20.2.2.toNat ({ Name := x22, Low := x24.Low, High := x24.High } : Term)).set s20.2.2.toNat ({ Name := x26.Name, Low := ({ A := w64 (s20.2.1 + 1), B := x26.Low.B, C := x26.Low.C } : Version), High := x26.High } : Term)).set s20.2.2.toNat ({ Name := x28.Name, Low := ({ A := x28.Low.A, B := w64 ((w64 (s20.2.1 + 1)) + 1), C := x28.Low.C } : Version), High := x28.High } : Term)).set s20.2.2.toNat ({ Name := x30.Name, Low := ({ A := x30.Low.A, B := x30.Low.B, C := w64 ((w64 ((w64 (s20.2.1 + 1)) + 1)) + 1) } : Version), High := x30.High } : Term)).set s20.2.2.toNat ({ Name := x32.Name, Low := x32.Low, High := ({ A := w64 ((w64 ((w64 ((w64 (s20.2.1 + 1)) + 1)) + 1)) + 1), B := x32.High.B, C := x32.High.C } : Version) } : Term)).set s20.2.2.toNat ({ Name := x34.Name, Low := x34.Low, High := ({ A := x34.High.A, B := w64 ((w64 ((w64 ((w64 ((w64 (s20.2.1 + 1)) + 1)) + 1)) + 1)) + 1), C := x34.High.C } : Version) } : Term)).set s20.2.2.toNat ({ Name := x36.Name, Low := x36.Low, High := ({ A := x36.High.A, B := x36.High.B, C := w64 ((w64 ((w64 ((w64 ((w64 ((w64 (s20.2.1 + 1)) + 1)) + 1)) + 1)) + 1)) + 1) } : Version) } : Term)))]) (by simp only [rr, List.length_set]) ?_
    refine J_g 3448831 [] [(0, rr 0 (((((((s20.1.set s20.2.2.toNat ({ Name := x22, Low := x24.Low, High := x24.High } : Term)).set s20.2.2.toNat ({ Name := x26.Name, Low := ({ A := w64 (s20.2.1 + 1), B := x26.Low.B, C := x26.Low.C } : Version), High := x26.High } : Term)).set s20.2.2.toNat ({ Name := x28.Name, Low := ({ A := x28.Low.A, B := w64 ((w64 (s20.2.1 + 1)) + 1), C := x28.Low.C } : Version), High := x28.High } : Term)).set s20.2.2.toNat ({ Name := x30.Name, Low := ({ A := x30.Low.A, B := x30.Low.B, C := w64 ((w64 ((w64 (s20.2.1 + 1)) + 1)) + 1) } : Version), High := x30.High } : Term)).set s20.2.2.toNat ({ Name := x32.Name, Low := x32.Low, High := ({ A := w64 ((w64 ((w64 ((w64 (s20.2.1 + 1)) + 1)) + 1)) + 1), B := x32.High.B, C := x32.High.C } : Version) } : Term)).set s20.2.2.toNat ({ Name := x34.Name, Low := x34.Low, High := ({ A := x34.High.A, B := w64 ((w64 ((w64 ((w64 ((w64 (s20.2.1 + 1)) + 1)) + 1)) + 1)) + 1), C := x34.High.C } : Version) } : Term)).set s20.2.2.toNat ({ Name := x36.Name, Low := x36.Low, High := ({ A := x36.High.A, B := x36.High.B, C := w64 ((w64 ((w64 ((w64 ((w64 ((w64 (s20.2.1 + 1)) + 1)) + 1)) + 1)) + 1)) + 1) } : Version) } : Term))), (1, iv (w64 ((w64 ((w64 ((w64 ((w64 ((w64 ((w64 (s20.2.1 + 1)) + 1)) + 1)) + 1)) + 1)) + 1)) + 1))), (5, iv s20.2.2)] [(0, rE 7 Term.enc (((((((s20.1.set s20.2.2.toNat ({ Name := x22, Low := x24.Low, High := x24.High } : Term)).set s20.2.2.toNat ({ Name := x26.Name, Low := ({ A := w64 (s20.2.1 + 1), B := x26.Low.B, C := x26.Low.C } : Version), High := x26.High } : Term)).set s20.2.2.toNat ({ Name := x28.Name, Low := ({ A := x28.Low.A, B := w64 ((w64 (s20.2.1 + 1)) + 1), C := x28.Low.C } : Version), High := x28.High } : Term)).set s20.2.2.toNat ({ Name := x30.Name, Low := ({ A := x30.Low.A, B := x30.Low.B, C := w64 ((w64 ((w64 (s20.2.1 + 1)) + 1)) + 1) } : Version), High := x30.High } : Term)).set s20.2.2.toNat ({ Name := x32.Name, Low := x32.Low, High := ({ A := w64 ((w64 ((w64 ((w64 (s20.2.1 + 1)) + 1)) + 1)) + 1), B := x32.High.B, C := x32.High.C } : Version) } : Term)).set s20.2.2.toNat ({ Name := x34.Name, Low := x34.Low, High := ({ A := x34.High.A, B := w64 ((w64 ((w64 ((w64 ((w64 (s20.2.1 + 1)) + 1)) + 1)) + 1)) + 1), C := x34.High.C } : Version) } : Term)).set s20.2.2.toNat ({ Name := x36.Name, Low := x36.Low, High := ({ A := x36.High.A, B := x36.High.B, C := w64 ((w64 ((w64 ((w64 ((w64 ((w64 (s20.2.1 + 1)) + 1)) + 1)) + 1)) + 1)) + 1) } : Version) } : Term)))] orcN ?_
    refine J_g 211 [] [(0, rr 0 (((((((s20.1.set s20.2.2.toNat ({ Name := x22, Low := x24.Low, High := x24.High } : Term)).set s20.2.2.toNat ({ Name := x26.Name, Low := ({ A := w64 (s20.2.1 + 1), B := x26.Low.B, C := x26.Low.C } : Version), High := x26.High } : Term)).set s20.2.2.toNat ({ Name := x28.Name, Low := ({ A := x28.Low.A, B := w64 ((w64 (s20.2.1 + 1)) + 1), C := x28.Low.C } : Version), High := x28.High } : Term)).set s20.2.2.toNat ({ Name := x30.Name, Low := ({ A := x30.Low.A, B := x30.Low.B, C := w64 ((w64 ((w64 (s20.2.1 + 1)) + 1)) + 1) } : Version), High := x30.High } : Term)).set s20.2.2.toNat ({ Name := x32.Name, Low := x32.Low, High := ({ A := w64 ((w64 ((w64 ((w64 (s20.2.1 + 1)) + 1)) + 1)) + 1), B := x32.High.B, C := x32.High.C } : Version) } : Term)).set s20.2.2.toNat ({ Name := x34.Name, Low := x34.Low, High := ({ A := x34.High.A, B := w64 ((w64 ((w64 ((w64 ((w64 (s20.2.1 + 1)) + 1)) + 1)) + 1)) + 1), C := x34.High.C } : Version) } : Term)).set s20.2.2.toNat ({ Name := x36.Name, Low := x36.Low, High := ({ A := x36.High.A, B := x36.High.B, C := w64 ((w64 ((w64 ((w64 ((w64 ((w64 (s20.2.1 + 1)) + 1)) + 1)) + 1)) + 1)) + 1) } : Version) } : Term))), (1, iv (w64 ((w64 ((w64 ((w64 ((w64 ((w64 ((w64 (s20.2.1 + 1)) + 1)) + 1)) + 1)) + 1)) + 1)) + 1))), (5, iv (w64 (s20.2.2 + 1)))] [(0, rE 7 Term.enc (((((((s20.1.set s20.2.2.toNat ({ Name := x22, Low := x24.Low, High := x24.High } : Term)).set s20.2.2.toNat ({ Name := x26.Name, Low := ({ A := w64 (s20.2.1 + 1), B := x26.Low.B, C := x26.Low.C } : Version), High := x26.High } : Term)).set s20.2.2.toNat ({ Name := x28.Name, Low := ({ A := x28.Low.A, B := w64 ((w64 (s20.2.1 + 1)) + 1), C := x28.Low.C } : Version), High := x28.High } : Term)).set s20.2.2.toNat ({ Name := x30.Name, Low := ({ A := x30.Low.A, B := x30.Low.B, C := w64 ((w64 ((w64 (s20.2.1 + 1)) + 1)) + 1) } : Version), High := x30.High } : Term)).set s20.2.2.toNat ({ Name := x32.Name, Low := x32.Low, High := ({ A := w64 ((w64 ((w64 ((w64 (s20.2.1 + 1)) + 1)) + 1)) + 1), B := x32.High.B, C := x32.High.C } : Version) } : Term)).set s20.2.2.toNat ({ Name := x34.Name, Low := x34.Low, High := ({ A := x34.High.A, B := w64 ((w64 ((w64 ((w64 ((w64 (s20.2.1 + 1)) + 1)) + 1)) + 1)) + 1), C := x34.High.C } : Version) } : Term)).set s20.2.2.toNat ({ Name := x36.Name, Low := x36.Low, High := ({ A := x36.High.A, B := x36.High.B, C := w64 ((w64 ((w64 ((w64 ((w64 ((w64 (s20.2.1 + 1)) + 1)) + 1)) + 1)) + 1)) + 1) } : Version) } : Term)))] orcN ?_
    exact J_q (J_b (ih (((((((s20.1.set s20.2.2.toNat ({ Name := x22, Low := x24.Low, High := x24.High } : Term)).set s20.2.2.toNat ({ Name := x26.Name, Low := ({ A := w64 (s20.2.1 + 1), B := x26.Low.B, C := x26.Low.C } : Version), High := x26.High } : Term)).set s20.2.2.toNat ({ Name := x28.Name, Low := ({ A := x28.Low.A, B := w64 ((w64 (s20.2.1 + 1)) + 1), C := x28.Low.C } : Version), High := x28.High } : Term)).set s20.2.2.toNat ({ Name := x30.Name, Low := ({ A := x30.Low.A, B := x30.Low.B, C := w64 ((w64 ((w64 (s20.2.1 + 1)) + 1)) + 1) } : Version), High := x30.High } : Term)).set s20.2.2.toNat ({ Name := x32.Name, Low := x32.Low, High := ({ A := w64 ((w64 ((w64 ((w64 (s20.2.1 + 1)) + 1)) + 1)) + 1), B := x32.High.B, C := x32.High.C } : Version) } : Term)).set s20.2.2.toNat ({ Name := x34.Name, Low := x34.Low, High := ({ A := x34.High.A, B := w64 ((w64 ((w64 ((w64 ((w64 (s20.2.1 + 1)) + 1)) + 1)) + 1)) + 1), C := x34.High.C } : Version) } : Term)).set s20.2.2.toNat ({ Name := x36.Name, Low := x36.Low, High := ({ A := x36.High.A, B := x36.High.B, C := w64 ((w64 ((w64 ((w64 ((w64 ((w64 (s20.2.1 + 1)) + 1)) + 1)) + 1)) + 1)) + 1) } : Version) } : Term), w64 ((w64 ((w64 ((w64 ((w64 ((w64 ((w64 (s20.2.1 + 1)) + 1)) + 1)) + 1)) + 1)) + 1)) + 1), w64 (s20.2.2 + 1)))) rfl
  · exact J_qw (hk (s20.1, s20.2.1)) rfl

theorem laws_markTermSr.ok (a1 : (List Term)) (a2 : Int) : Ok Tryz.prog 96 [rr 0 a1, iv a2] [rE 7 Term.enc a1] ((laws_markTermSr a1 a2).map fun r => (iv r.1, [rE 7 Term.enc r.2])) := by
  refine Ok_of3 c96 Tryz.f96 1 69 (fun q => ?_)
  unfold laws_markTermSr
  refine J_g 2 [] [(0, rr 0 a1), (1, iv a2)] [(0, rE 7 Term.enc a1)] orcN ?_
  refine J_g 12 [] [(0, rr 0 a1), (1, iv a2), (5, iv 0)] [(0, rE 7 Term.enc a1)] orcN ?_
  refine J_lq (laws_markTermSr_l1.ok q _ (fun v38 => J_j ?_) (a1, a2, 0))
  refine J_g 14 [] [(4, iv v38.2)] [(0, rE 7 Term.enc v38.1)] orcN ?_
  exact J_r1 rfl

noncomputable def c95 : Code := (Tryz.f95.body).getD .skip

theorem laws_markTermSSr_l1.ok  (q : Wd) (kn : ((List (List Term)) × Int) → Option (D × List Ent)) (hk : ∀ v : ((List (List Term)) × Int), J (q.g Tryz.prog 95 1 19) c95 (atI c95 7) (St.mk' [(1, iv v.2)] [(0, rE 1 (eSl true 7 Term.enc) v.1)]) (some v) kn) :
    ∀ s10 : ((List (List Term)) × Int × Int), J (q.g Tryz.prog 95 1 19) c95 (atI c95 52) (St.mk' [(0, rr 0 s10.1), (1, iv s10.2.1), (5, iv s10.2.2)] [(0, rE 1 (eSl true 7 Term.enc) s10.1)]) (laws_markTermSSr_l1 s10) kn := by
  refine J_lp (fun g ih s10 => ?_)
  unfold laws_markTermSSr_l1b
  refine J_g 208 [] [(0, rr 0 s10.1), (1, iv s10.2.1), (5, iv s10.2.2), (9, bv (decide (s10.2.2 < (s10.1.length : Int))))] [(0, rE 1 (eSl true 7 Term.enc) s10.1)] orcN ?_
  refine J_if2 9 (fun h11 => ?_) (fun h11 => ?_)
  · refine J_bind (fun x12 h13 => ?_)
    refine J_lendT (ix := s10.2.2) (enc := (eSl true 7 Term.enc)) 0 0 1 h13 rfl rfl (by kernel_rfl) ?_
    refine J_wk [(0, rr 0 s10.1), (1, iv s10.2.1), (5, iv s10.2.2), (9, bv true)] [(0, .lent 1 (s10.1.map (eSl true 7 Term.enc)) s10.2.2.toNat 0 1 x12.length), (1, rE 7 Term.enc x12)] (by kernel_rfl) ?_
    refine J_bind (fun x14 h15 => ?_)
    refine J_g 420 [] [(0, rr 0 s10.1), (1, iv x14.1), (5, iv s10.2.2)] [(0, .lent 1 (s10.1.map (eSl true 7 Term.enc)) s10.2.2.toNat 0 1 x12.length), (1, rE 7 Term.enc x14.2)] (orcC 2 (x_ixl (kk := .i64) 130 24 1 0 (eSl true 7 Term.enc) (.tmp 12) (.tmp 13) s10.2.2.toNat 0 1 x12.length h13) (orcC 3 (x_ldl 24 0 (.tmp 14) 1 (eSl true 7 Term.enc) s10.1 s10.2.2.toNat 0 1 x12.length) (orcC 5 (x_c1 («as» := [rr 1 x12, iv s10.2.1]) [(.tmp 15), (.tmp 16)] [24, 3] false [(1, rE 7 Term.enc x12)] [1] (.cons (.rf rfl) (.cons (.same rfl) (.nil))) (laws_markTermSr.ok x12 s10.2.1) h15 (.same rfl rfl)) orcN))) ?_
    refine J_bind (fun u16 h17 => ?_)
    refine J_backT (ix := s10.2.2) (enc := (eSl true 7 Term.enc)) (b := x14.2) 0 0 1 h13 rfl rfl rfl rfl (same_len h17) (Nat.le_of_ble_eq_true rfl) ((List.length_map _).trans (same_len h17)) ?_
    refine J_wk [(0, rr 0 s10.1), (1, iv x14.1), (5, iv s10.2.2)] [(0, rE 1 (eSl true 7 Term.enc) (s10.1.set s10.2.2.toNat x14.2))] (by kernel_rfl) ?_
    refine J_st (σ' := St.mk' [(0, rr 0 (s10.1.set s10.2.2.toNat x14.2)), (1, iv x14.1), (5, iv s10.2.2)] [(0, rE 1 (eSl true 7 Term.enc) (s10.1.set s10.2.2.toNat x14.2))]) (by simp only [rr, List.length_set]) ?_
    refine J_g 211 [] [(0, rr 0 (s10.1.set s10.2.2.toNat x14.2)), (1, iv x14.1), (5, iv (w64 (s10.2.2 + 1)))] [(0, rE 1 (eSl true 7 Term.enc) (s10.1.set s10.2.2.toNat x14.2))] orcN ?_
    exact J_q (J_b (ih (s10.1.set s10.2.2.toNat x14.2, x14.1, w64 (s10.2.2 + 1)))) rfl
  · exact J_qw (hk (s10.1, s10.2.1)) rfl

theorem laws_markTermSSr.ok (a1 : (List (List Term))) (a2 : Int) : Ok Tryz.prog 95 [rr 0 a1, iv a2] [rE 1 (eSl true 7 Term.enc) a1] ((laws_markTermSSr a1 a2).map fun r => (iv r.1, [rE 1 (eSl true 7 Term.enc) r.2])) := by
  refine Ok_of3 c95 Tryz.f95 1 19 (fun q => ?_)
  unfold laws_markTermSSr
  refine J_g 2 [] [(0, rr 0 a1), (1, iv a2)] [(0, rE 1 (eSl true 7 Term.enc) a1)] orcN ?_
  refine J_g 12 [] [(0, rr 0 a1), (1, iv a2), (5, iv 0)] [(0, rE 1 (eSl true 7 Term.enc) a1)] orcN ?_
  refine J_lq (laws_markTermSSr_l1.ok q _ (fun v18 => J_j ?_) (a1, a2, 0))
  refine J_g 14 [] [(4, iv v18.2)] [(0, rE 1 (eSl true 7 Term.enc) v18.1)] orcN ?_
  exact J_r1 rfl

noncomputable def c27 : Code := (Tryz.f27.body).getD .skip

theorem laws_markPackSr_l1.ok  (q : Wd) (kn : ((List Pack) × Int) → Option (D × List Ent)) (hk : ∀ v : ((List Pack) × Int), J (q.g Tryz.prog 27 1 73) c27 (atI c27 7) (St.mk' [(1, iv v.2)] [(0, rE 8 (Pack.enc true) v.1)]) (some v) kn) :
    ∀ s34 : ((List Pack) × Int × Int), J (q.g Tryz.prog 27 1 73) c27 (atI c27 52) (St.mk' [(0, rr 0 s34.1), (1, iv s34.2.1), (5, iv s34.2.2)] [(0, rE 8 (Pack.enc true) s34.1)]) (laws_markPackSr_l1 s34) kn := by
  refine J_lp (fun g ih s34 => ?_)
  unfold laws_markPackSr_l1b
  refine J_g 208 [] [(0, rr 0 s34.1), (1, iv s34.2.1), (5, iv s34.2.2), (9, bv (decide (s34.2.2 < (s34.1.length : Int))))] [(0, rE 8 (Pack.enc true) s34.1)] orcN ?_
  refine J_if2 9 (fun h35 => ?_) (fun h35 => ?_)
  · refine J_bind (fun x36 h37 => ?_)
    refine J_bind (fun x38 h39 => ?_)
    refine J_g 840 [] [(0, rr 0 s34.1), (1, iv s34.2.1), (5, iv s34.2.2)] [(0, rE 8 (Pack.enc true) (s34.1.set s34.2.2.toNat ({ Name := x36, Version := x38.Version, Size := x38.Size, Provides := x38.Provides, Needs := x38.Needs, Bars := x38.Bars } : Pack)))] (orcC 3 (x_c0 [(.tmp 14)] [3] (laws_markText.ok s34.2.1) h37) (orcC 4 (x_ixr (kk := .i64) 47 132 8 0 (Pack.enc true) (.tmp 12) (.tmp 13) h39) (orcD 6 (x_st (b := ({ Name := x36, Version := x38.Version, Size := x38.Size, Provides := x38.Provides, Needs := x38.Needs, Bars := x38.Bars } : Pack)) 9 8 0 0 (Pack.enc true) (sv x36) (.tmp 17) (.tmp 15) h39 rfl) orcN))) ?_
    refine J_st (σ' := St.mk' [(0, rr 0 (s34.1.set s34.2.2.toNat ({ Name := x36, Version := x38.Version, Size := x38.Size, Provides := x38.Provides, Needs := x38.Needs, Bars := x38.Bars } : Pack))), (1, iv s34.2.1), (5, iv s34.2.2)] [(0, rE 8 (Pack.enc true) (s34.1.set s34.2.2.toNat ({ Name := x36, Version := x38.Version, Size := x38.Size, Provides := x38.Provides, Needs := x38.Needs, Bars := x38.Bars } : Pack)))]) (by simp only [rr, List.length_set]) ?_
    refine J_g 1682 [] [(0, rr 0 (s34.1.set s34.2.2.toNat ({ Name := x36, Version := x38.Version, Size := x38.Size, Provides := x38.Provides, Needs := x38.Needs, Bars := x38.Bars } : Pack))), (1, iv (w64 (s34.2.1 + 1))), (5, iv s34.2.2)] [(0, rE 8 (Pack.enc true) (s34.1.set s34.2.2.toNat ({ Name := x36, Version := x38.Version, Size := x38.Size, Provides := x38.Provides, Needs := x38.Needs, Bars := x38.Bars } : Pack)))] orcN ?_
    refine J_bind (fun x40 h41 => ?_)
    refine J_g 3366 [] [(0, rr 0 (s34.1.set s34.2.2.toNat ({ Name := x36, Version := x38.Version, Size := x38.Size, Provides := x38.Provides, Needs := x38.Needs, Bars := x38.Bars } : Pack))), (1, iv (w64 (s34.2.1 + 1))), (5, iv s34.2.2)] [(0, rE 8 (Pack.enc true) ((s34.1.set s34.2.2.toNat ({ Name := x36, Version := x38.Version, Size := x38.Size, Provides := x38.Provides, Needs := x38.Needs, Bars := x38.Bars } : Pack)).set s34.2.2.toNat ({ Name := x40.Name, Version := ({ A := w64 (s34.2.1 + 1), B := x40.Version.B, C := x40.Version.C } : Version), Size := x40.Size, Provides := x40.Provides, Needs := x40.Needs, Bars := x40.Bars } : Pack)))] (orcC 3 (x_ixr (kk := .i64) 47 132 8 0 (Pack.enc true) (.tmp 20) (.tmp 21) h41) (orcD 6 (x_st (b := ({ Name := x40.Name, Version := ({ A := w64 (s34.2.1 + 1), B := x40.Version.B, C := x40.Version.C } : Version), Size := x40.Size, Provides := x40.Provides, Needs := x40.Needs, Bars := x40.Bars } : Pack)) 2 8 0 1 (Pack.enc true) (iv (w64 (s34.2.1 + 1))) (.tmp 25) (.tmp 22) h41 rfl) orcN)) ?_
    refine J_st (σ' := St.mk' [(0, rr 0 ((s34.1.set s34.2.2.toNat ({ Name := x36, Version := x38.Version, Size := x38.Size, Provides := x38.Provides, Needs := x38.Needs, Bars := x38.Bars } : Pack)).set s34.2.2.toNat ({ Name := x40.Name, Version := ({ A := w64 (s34.2.1 + 1), B := x40.Version.B, C := x40.Version.C } : Version), Size := x40.Size, Provides := x40.Provides, Needs := x40.Needs, Bars := x40.Bars } : Pack))), (1, iv (w64 (s34.2.1 + 1))), (5, iv s34.2.2)] [(0, rE 8 (Pack.enc true) ((s34.1.set s34.2.2.toNat ({ Name := x36, Version := x38.Version, Size := x38.Size, Provides := x38.Provides, Needs := x38.Needs, Bars := x38.Bars } : Pack)).set s34.2.2.toNat ({ Name := x40.Name, Version := ({ A := w64 (s34.2.1 + 1), B := x40.Version.B, C := x40.Version.C } : Version), Size := x40.Size, Provides := x40.Provides, Needs := x40.Needs, Bars := x40.Bars } : Pack)))]) (by simp only [rr, List.length_set]) ?_
    refine J_g 6734 [] [(0, rr 0 ((s34.1.set s34.2.2.toNat ({ Name := x36, Version := x38.Version, Size := x38.Size, Provides := x38.Provides, Needs := x38.Needs, Bars := x38.Bars } : Pack)).set s34.2.2.toNat ({ Name := x40.Name, Version := ({ A := w64 (s34.2.1 + 1), B := x40.Version.B, C := x40.Version.C } : Version), Size := x40.Size, Provides := x40.Provides, Needs := x40.Needs, Bars := x40.Bars } : Pack))), (1, iv (w64 ((w64 (s34.2.1 + 1)) + 1))), (5, iv s34.2.2)] [(0, rE 8 (Pack.enc true) ((s34.1.set s34.2.2.toNat ({ Name := x36, Version := x38.Version, Size := x38.Size, Provides := x38.Provides, Needs := x38.Needs, Bars := x38.Bars } : Pack)).set s34.2.2.toNat ({ Name := x40.Name, Version := ({ A := w64 (s34.2.1 + 1), B := x40.Version.B, C := x40.Version.C } : Version), Size := x40.Size, Provides := x40.Provides, Needs := x40.Needs, Bars := x40.Bars } : Pack)))] orcN ?_
    refine J_bind (fun x42 h43 => ?_)
    refine J_g 13470 [] [(0, rr 0 ((s34.1.set s34.2.2.toNat ({ Name := x36, Version := x38.Version, Size := x38.Size, Provides := x38.Provides, Needs := x38.Needs, Bars := x38.Bars } : Pack)).set s34.2.2.toNat ({ Name := x40.Name, Version := ({ A := w64 (s34.2.1 + 1), B := x40.Version.B, C := x40.Version.C } : Version), Size := x40.Size, Provides := x40.Provides, Needs := x40.Needs, Bars := x40.Bars } : Pack))), (1, iv (w64 ((w64 (s34.2.1 + 1)) + 1))), (5, iv s34.2.2)] [(0, rE 8 (Pack.enc true) (((s34.1.set s34.2.2.toNat ({ Name := x36, Version := x38.Version, Size := x38.Size, Provides := x38.Provides, Needs := x38.Needs, Bars := x38.Bars } : Pack)).set s34.2.2.toNat ({ Name := x40.Name, Version := ({ A := w64 (s34.2.1 + 1), B := x40.Version.B, C := x40.Version.C } : Version), Size := x40.Size, Provides := x40.Provides, Needs := x40.Needs, Bars := x40.Bars } : Pack)).set s34.2.2.toNat ({ Name := x42.Name, Version := ({ A := x42.Version.A, B := w64 ((w64 (s34.2.1 + 1)) + 1), C := x42.Version.C } : Version), Size := x42.Size, Provides := x42.Provides, Needs := x42.Needs, Bars := x42.Bars } : Pack)))] (orcC 3 (x_ixr (kk := .i64) 47 132 8 0 (Pack.enc true) (.tmp 28) (.tmp 29) h43) (orcD 6 (x_st (b := ({ Name := x42.Name, Version := ({ A := x42.Version.A, B := w64 ((w64 (s34.2.1 + 1)) + 1), C := x42.Version.C } : Version), Size := x42.Size, Provides := x42.Provides, Needs := x42.Needs, Bars := x42.Bars } : Pack)) 2 8 0 2 (Pack.enc true) (iv (w64 ((w64 (s34.2.1 + 1)) + 1))) (.tmp 33) (.tmp 30) h43 rfl) orcN)) ?_
    refine J_st (σ' := St.mk' [(0, rr 0 (((s34.1.set s34.2.2.toNat ({ Name := x36, Version := x38.Version, Size := x38.Size, Provides := x38.Provides, Needs := x38.Needs, Bars := x38.Bars } : Pack)).set s34.2.2.toNat ({ Name := x40.Name, Version := ({ A := w64 (s34.2.1 + 1), B := x40.Version.B, C := x40.Version.C } : Version), Size := x40.Size, Provides := x40.Provides, Needs := x40.Needs, Bars := x40.Bars } : Pack)).set s34.2.2.toNat ({ Name := x42.Name, Version := ({ A := x42.Version.A, B := w64 ((w64 (s34.2.1 + 1)) + 1), C := x42.Version.C } : Version), Size := x42.Size, Provides := x42.Provides, Needs := x42.Needs, Bars := x42.Bars } : Pack))), (1, iv (w64 ((w64 (s34.2.1 + 1)) + 1))), (5, iv s34.2.2)] [(0, rE 8 (Pack.enc true) (((s34.1.set s34.2.2.toNat ({ Name := x36, Version := x38.Version, Size := x38.Size, Provides := x38.Provides, Needs := x38.Needs, Bars := x38.Bars } : Pack)).set s34.2.2.toNat ({ Name := x40.Name, Version := ({ A := w64 (s34.2.1 + 1), B := x40.Version.B, C := x40.Version.C } : Version), Size := x40.Size, Provides := x40.Provides, Needs := x40.Needs, Bars := x40.Bars } : Pack)).set s34.2.2.toNat ({ Name := x42.Name, Version := ({ A := x42.Version.A, B := w64 ((w64 (s34.2.1 + 1)) + 1), C := x42.Version.C } : Version), Size := x42.Size, Provides := x42.Provides, Needs := x42.Needs, Bars := x42.Bars } : Pack)))]) (by simp only [rr, List.length_set]) ?_
    refine J_g 26942 [] [(0, rr 0 (((s34.1.set s34.2.2.toNat ({ Name := x36, Version := x38.Version, Size := x38.Size, Provides := x38.Provides, Needs := x38.Needs, Bars := x38.Bars } : Pack)).set s34.2.2.toNat ({ Name := x40.Name, Version := ({ A := w64 (s34.2.1 + 1), B := x40.Version.B, C := x40.Version.C } : Version), Size := x40.Size, Provides := x40.Provides, Needs := x40.Needs, Bars := x40.Bars } : Pack)).set s34.2.2.toNat ({ Name := x42.Name, Version := ({ A := x42.Version.A, B := w64 ((w64 (s34.2.1 + 1)) + 1), C := x42.Version.C } : Version), Size := x42.Size, Provides := x42.Provides, Needs := x42.Needs, Bars := x42.Bars } : Pack))), (1, iv (w64 ((w64 ((w64 (s34.2.1 + 1)) + 1)) + 1))), (5, iv s34.2.2)] [(0, rE 8 (Pack.enc true) (((s34.1.set s34.2.2.toNat ({ Name := x36, Version := x38.Version, Size := x38.Size, Provides := x38.Provides, Needs := x38.Needs, Bars := x38.Bars } : Pack)).set s34.2.2.toNat ({ Name := x40.Name, Version := ({ A := w64 (s34.2.1 + 1), B := x40.Version.B, C := x40.Version.C } : Version), Size := x40.Size, Provides := x40.Provides, Needs := x40.Needs, Bars := x40.Bars } : Pack)).set s34.2.2.toNat ({ Name := x42.Name, Version := ({ A := x42.Version.A, B := w64 ((w64 (s34.2.1 + 1)) + 1), C := x42.Version.C } : Version), Size := x42.Size, Provides := x42.Provides, Needs := x42.Needs, Bars := x42.Bars } : Pack)))] orcN ?_
    refine J_bind (fun x44 h45 => ?_)
    refine J_g 53886 [] [(0, rr 0 (((s34.1.set s34.2.2.toNat ({ Name := x36, Version := x38.Version, Size := x38.Size, Provides := x38.Provides, Needs := x38.Needs, Bars := x38.Bars } : Pack)).set s34.2.2.toNat ({ Name := x40.Name, Version := ({ A := w64 (s34.2.1 + 1), B := x40.Version.B, C := x40.Version.C } : Version), Size := x40.Size, Provides := x40.Provides, Needs := x40.Needs, Bars := x40.Bars } : Pack)).set s34.2.2.toNat ({ Name := x42.Name, Version := ({ A := x42.Version.A, B := w64 ((w64 (s34.2.1 + 1)) + 1), C := x42.Version.C } : Version), Size := x42.Size, Provides := x42.Provides, Needs := x42.Needs, Bars := x42.Bars } : Pack))), (1, iv (w64 ((w64 ((w64 (s34.2.1 + 1)) + 1)) + 1))), (5, iv s34.2.2)] [(0, rE 8 (Pack.enc true) ((((s34.1.set s34.2.2.toNat ({ Name := x36, Version := x38.Version, Size := x38.Size, Provides := x38.Provides, Needs := x38.Needs, Bars := x38.Bars } : Pack)).set s34.2.2.toNat ({ Name := x40.Name, Version := ({ A := w64 (s34.2.1 + 1), B := x40.Version.B, C := x40.Version.C } : Version), Size := x40.Size, Provides := x40.Provides, Needs := x40.Needs, Bars := x40.Bars } : Pack)).set s34.2.2.toNat ({ Name := x42.Name, Version := ({ A := x42.Version.A, B := w64 ((w64 (s34.2.1 + 1)) + 1), C := x42.Version.C } : Version), Size := x42.Size, Provides := x42.Provides, Needs := x42.Needs, Bars := x42.Bars } : Pack)).set s34.2.2.toNat ({ Name := x44.Name, Version := ({ A := x44.Version.A, B := x44.Version.B, C := w64 ((w64 ((w64 (s34.2.1 + 1)) + 1)) + 1) } : Version), Size := x44.Size, Provides := x44.Provides, Needs := x44.Needs, Bars := x44.Bars } : Pack)))] (orcC 3 (x_ixr (kk := .i64) 47 132 8 0 (Pack.enc true) (.tmp 36) (.tmp 37) h45) (orcD 6 (x_st (b := ({ Name := x44.Name, Version := ({ A := x44.Version.A, B := x44.Version.B, C := w64 ((w64 ((w64 (s34.2.1 + 1)) + 1)) + 1) } : Version), Size := x44.Size, Provides := x44.Provides, Needs := x44.Needs, Bars := x44.Bars } : Pack)) 2 8 0 3 (Pack.enc true) (iv (w64 ((w64 ((w64 (s34.2.1 + 1)) + 1)) + 1))) (.tmp 41) (.tmp 38) h45 rfl) orcN)) ?_
    refine J_st (σ' := St.mk' [(0, rr 0 ((((s34.1.set s34.2.2.toNat ({ Name := x36, Version := x38.Version, Size := x38.Size, Provides := x38.Provides, Needs := x38.Needs, Bars := x38.Bars } : Pack)).set s34.2.2.toNat ({ Name := x40.Name, Version := ({ A := w64 (s34.2.1 + 1), B := x40.Version.B, C := x40.Version.C } : Version), Size := x40.Size, Provides := x40.Provides, Needs := x40.Needs, Bars := x40.Bars } : Pack)).set s34.2.2.toNat ({ Name := x42.Name, Version := ({ A := x42.Version.A, B := w64 ((w64 (s34.2.1 + 1)) + 1), C := x42.Version.C } : Version), Size := x42.Size, Provides := x42.Provides, Needs := x42.Needs, Bars := x42.Bars } : Pack)).set s34.2.2.toNat ({ Name := x44.Name, Version := ({ A := x44.Version.A, B := x44.Version.B, C := w64 ((w64 ((w64 (s34.2.1 + 1)) + 1)) + 1) } : Version), Size := x44.Size, Provides := x44.Provides, Needs := x44.Needs, Bars := x44.Bars } : Pack))), (1, iv (w64 ((w64 ((w64 (s34.2.1 + 1)) + 1)) + 1))), (5, iv s34.2.2)] [(0, rE 8 (Pack.enc true) ((((s34.1.set s34.2.2.toNat ({ Name := x36, Version := x38.Version, Size := x38.Size, Provides := x38.Provides, Needs := x38.Needs, Bars := x38.Bars } : Pack)).set s34.2.2.toNat ({ Name := x40.Name, Version := ({ A := w64 (s34.2.1 + 1), B := x40.Version.B, C := x40.Version.C } : Version), Size := x40.Size, Provides := x40.Provides, Needs := x40.Needs, Bars := x40.Bars } : Pack)).set s34.2.2.toNat ({ Name := x42.Name, Version := ({ A := x42.Version.A, B := w64 ((w64 (s34.2.1 + 1)) + 1), C := x42.Version.C } : Version), Size := x42.Size, Provides := x42.Provides, Needs := x42.Needs, Bars := x42.Bars } : Pack)).set s34.2.2.toNat ({ Name := x44.Name, Version := ({ A := x44.Version.A, B := x44.Version.B, C := w64 ((w64 ((w64 (s34.2.1 + 1)) + 1)) + 1) } : Version), Size := x44.Size, Provides := x44.Provides, Needs := x44.Needs, Bars := x44.Bars } : Pack)))]) (by simp only [rr, List.length_set]) ?_
    refine J_g 107774 [] [(0, rr 0 ((((s34.1.set s34.2.2.toNat ({ Name := x36, Version := x38.Version, Size := x38.Size, Provides := x38.Provides, Needs := x38.Needs, Bars := x38.Bars } : Pack)).set s34.2.2.toNat ({ Name := x40.Name, Version := ({ A := w64 (s34.2.1 + 1), B := x40.Version.B, C := x40.Version.C } : Version), Size := x40.Size, Provides := x40.Provides, Needs := x40.Needs, Bars := x40.Bars } : Pack)).set s34.2.2.toNat ({ Name := x42.Name, Version := ({ A := x42.Version.A, B := w64 ((w64 (s34.2.1 + 1)) + 1), C := x42.Version.C } : Version), Size := x42.Size, Provides := x42.Provides, Needs := x42.Needs, Bars := x42.Bars } : Pack)).set s34.2.2.toNat ({ Name := x44.Name, Version := ({ A := x44.Version.A, B := x44.Version.B, C := w64 ((w64 ((w64 (s34.2.1 + 1)) + 1)) + 1) } : Version), Size := x44.Size, Provides := x44.Provides, Needs := x44.Needs, Bars := x44.Bars } : Pack))), (1, iv (w64 ((w64 ((w64 ((w64 (s34.2.1 + 1)) + 1)) + 1)) + 1))), (5, iv s34.2.2)] [(0, rE 8 (Pack.enc true) ((((s34.1.set s34.2.2.toNat ({ Name := x36, Version := x38.Version, Size := x38.Size, Provides := x38.Provides, Needs := x38.Needs, Bars := x38.Bars } : Pack)).set s34.2.2.toNat ({ Name := x40.Name, Version := ({ A := w64 (s34.2.1 + 1), B := x40.Version.B, C := x40.Version.C } : Version), Size := x40.Size, Provides := x40.Provides, Needs := x40.Needs, Bars := x40.Bars } : Pack)).set s34.2.2.toNat ({ Name := x42.Name, Version := ({ A := x42.Version.A, B := w64 ((w64 (s34.2.1 + 1)) + 1), C := x42.Version.C } : Version), Size := x42.Size, Provides := x42.Provides, Needs := x42.Needs, Bars := x42.Bars } : Pack)).set s34.2.2.toNat ({ Name := x44.Name, Version := ({ A := x44.Version.A, B := x44.Version.B, C := w64 ((w64 ((w64 (s34.2.1 + 1)) + 1)) + 1) } : Version), Size := x44.Size, Provides := x44.Provides, Needs := x44.Needs, Bars := x44.Bars } : Pack)))] orcN ?_
    refine J_bind (fun x46 h47 => ?_)
    refine J_g 215550 [] [(0, rr 0 ((((s34.1.set s34.2.2.toNat ({ Name := x36, Version := x38.Version, Size := x38.Size, Provides := x38.Provides, Needs := x38.Needs, Bars := x38.Bars } : Pack)).set s34.2.2.toNat ({ Name := x40.Name, Version := ({ A := w64 (s34.2.1 + 1), B := x40.Version.B, C := x40.Version.C } : Version), Size := x40.Size, Provides := x40.Provides, Needs := x40.Needs, Bars := x40.Bars } : Pack)).set s34.2.2.toNat ({ Name := x42.Name, Version := ({ A := x42.Version.A, B := w64 ((w64 (s34.2.1 + 1)) + 1), C := x42.Version.C } : Version), Size := x42.Size, Provides := x42.Provides, Needs := x42.Needs, Bars := x42.Bars } : Pack)).set s34.2.2.toNat ({ Name := x44.Name, Version := ({ A := x44.Version.A, B := x44.Version.B, C := w64 ((w64 ((w64 (s34.2.1 + 1)) + 1)) + 1) } : Version), Size := x44.Size, Provides := x44.Provides, Needs := x44.Needs, Bars := x44.Bars } : Pack))), (1, iv (w64 ((w64 ((w64 ((w64 (s34.2.1 + 1)) + 1)) + 1)) + 1))), (5, iv s34.2.2)] [(0, rE 8 (Pack.enc true) (((((s34.1.set s34.2.2.toNat ({ Name := x36, Version := x38.Version, Size := x38.Size, Provides := x38.Provides, Needs := x38.Needs, Bars := x38.Bars } : Pack)).set s34.2.2.toNat ({ Name := x40.Name, Version := ({ A := w64 (s34.2.1 + 1), B := x40.Version.B, C := x40.Version.C } : Version), Size := x40.Size, Provides := x40.Provides, Needs := x40.Needs, Bars := x40.Bars } : Pack)).set s34.2.2.toNat ({ Name := x42.Name, Version := ({ A := x42.Version.A, B := w64 ((w64 (s34.2.1 + 1)) + 1), C := x42.Version.C } : Version), Size := x42.Size, Provides := x42.Provides, Needs := x42.Needs, Bars := x42.Bars } : Pack)).set s34.2.2.toNat ({ Name := x44.Name, Version := ({ A := x44.Version.A, B := x44.Version.B, C := w64 ((w64 ((w64 (s34.2.1 + 1)) + 1)) + 1) } : Version), Size := x44.Size, Provides := x44.Provides, Needs := x44.Needs, Bars := x44.Bars } : Pack)).set s34.2.2.toNat ({ Name := x46.Name, Version := x46.Version, Size := w64 ((w64 ((w64 ((w64 (s34.2.1 + 1)) + 1)) + 1)) + 1), Provides := x46.Provides, Needs := x46.Needs, Bars := x46.Bars } : Pack)))] (orcC 3 (x_ixr (kk := .i64) 47 132 8 0 (Pack.enc true) (.tmp 44) (.tmp 45) h47) (orcD 5 (x_st (b := ({ Name := x46.Name, Version := x46.Version, Size := w64 ((w64 ((w64 ((w64 (s34.2.1 + 1)) + 1)) + 1)) + 1), Provides := x46.Provides, Needs := x46.Needs, Bars := x46.Bars } : Pack)) 2 8 0 4 (Pack.enc true) (iv (w64 ((w64 ((w64 ((w64 (s34.2.1 + 1)) + 1)) + 1)) + 1))) (.tmp 48) (.tmp 46) h47 rfl) orcN)) ?_
    refine J_st (σ' := St.mk' [(0, rr 0 (((((s34.1.set s34.2.2.toNat ({ Name := x36, Version := x38.Version, Size := x38.Size, Provides := x38.Provides, Needs := x38.Needs, Bars := x38.Bars } : Pack)).set s34.2.2.toNat ({ Name := x40.Name, Version := ({ A := w64 (s34.2.1 + 1), B := x40.Version.B, C := x40.Version.C } : Version), Size := x40.Size, Provides := x40.Provides, Needs := x40.Needs, Bars := x40.Bars } : Pack)).set s34.2.2.toNat ({ Name := x42.Name, Version := ({ A := x42.Version.A, B := w64 ((w64 (s34.2.1 + 1)) + 1), C := x42.Version.C } : Version), Size := x42.Size, Provides := x42.Provides, Needs := x42.Needs, Bars := x42.Bars } : Pack)).set s34.2.2.toNat ({ Name := x44.Name, Version := ({ A := x44.Version.A, B := x44.Version.B, C := w64 ((w64 ((w64 (s34.2.1 + 1)) + 1)) + 1) } : Version), Size := x44.Size, Provides := x44.Provides, Needs := x44.Needs, Bars := x44.Bars } : Pack)).set s34.2.2.toNat ({ Name := x46.Name, Version := x46.Version, Size := w64 ((w64 ((w64 ((w64 (s34.2.1 + 1)) + 1)) + 1)) + 1), Provides := x46.Provides, Needs := x46.Needs, Bars := x46.Bars } : Pack))), (1, iv (w64 ((w64 ((w64 ((w64 (s34.2.1 + 1)) + 1)) + 1)) + 1))), (5, iv s34.2.2)] [(0, rE 8 (Pack.enc true) (((((s34.1.set s34.2.2.toNat ({ Name := x36, Version := x38.Version, Size := x38.Size, Provides := x38.Provides, Needs := x38.Needs, Bars := x38.Bars } : Pack)).set s34.2.2.toNat ({ Name := x40.Name, Version := ({ A := w64 (s34.2.1 + 1), B := x40.Version.B, C := x40.Version.C } : Version), Size := x40.Size, Provides := x40.Provides, Needs := x40.Needs, Bars := x40.Bars } : Pack)).set s34.2.2.toNat ({ Name := x42.Name, Version := ({ A := x42.Version.A, B := w64 ((w64 (s34.2.1 + 1)) + 1), C := x42.Version.C } : Version), Size := x42.Size, Provides := x42.Provides, Needs := x42.Needs, Bars := x42.Bars } : Pack)).set s34.2.2.toNat ({ Name := x44.Name, Version := ({ A := x44.Version.A, B := x44.Version.B, C := w64 ((w64 ((w64 (s34.2.1 + 1)) + 1)) + 1) } : Version), Size := x44.Size, Provides := x44.Provides, Needs := x44.Needs, Bars := x44.Bars } : Pack)).set s34.2.2.toNat ({ Name := x46.Name, Version := x46.Version, Size := w64 ((w64 ((w64 ((w64 (s34.2.1 + 1)) + 1)) + 1)) + 1), Provides := x46.Provides, Needs := x46.Needs, Bars := x46.Bars } : Pack)))]) (by simp only [rr, List.length_set]) ?_
    refine J_g 431102 [] [(0, rr 0 (((((s34.1.set s34.2.2.toNat ({ Name := x36, Version := x38.Version, Size := x38.Size, Provides := x38.Provides, Needs := x38.Needs, Bars := x38.Bars } : Pack)).set s34.2.2.toNat ({ Name := x40.Name, Version := ({ A := w64 (s34.2.1 + 1), B := x40.Version.B, C := x40.Version.C } : Version), Size := x40.Size, Provides := x40.Provides, Needs := x40.Needs, Bars := x40.Bars } : Pack)).set s34.2.2.toNat ({ Name := x42.Name, Version := ({ A := x42.Version.A, B := w64 ((w64 (s34.2.1 + 1)) + 1), C := x42.Version.C } : Version), Size := x42.Size, Provides := x42.Provides, Needs := x42.Needs, Bars := x42.Bars } : Pack)).set s34.2.2.toNat ({ Name := x44.Name, Version := ({ A := x44.Version.A, B := x44.Version.B, C := w64 ((w64 ((w64 (s34.2.1 + 1)) + 1)) + 1) } : Version), Size := x44.Size, Provides := x44.Provides, Needs := x44.Needs, Bars := x44.Bars } : Pack)).set s34.2.2.toNat ({ Name := x46.Name, Version := x46.Version, Size := w64 ((w64 ((w64 ((w64 (s34.2.1 + 1)) + 1)) + 1)) + 1), Provides := x46.Provides, Needs := x46.Needs, Bars := x46.Bars } : Pack))), (1, iv (w64 ((w64 ((w64 ((w64 ((w64 (s34.2.1 + 1)) + 1)) + 1)) + 1)) + 1))), (5, iv s34.2.2)] [(0, rE 8 (Pack.enc true) (((((s34.1.set s34.2.2.toNat ({ Name := x36, Version := x38.Version, Size := x38.Size, Provides := x38.Provides, Needs := x38.Needs, Bars := x38.Bars } : Pack)).set s34.2.2.toNat ({ Name := x40.Name, Version := ({ A := w64 (s34.2.1 + 1), B := x40.Version.B, C := x40.Version.C } : Version), Size := x40.Size, Provides := x40.Provides, Needs := x40.Needs, Bars := x40.Bars } : Pack)).set s34.2.2.toNat ({ Name := x42.Name, Version := ({ A := x42.Version.A, B := w64 ((w64 (s34.2.1 + 1)) + 1), C := x42.Version.C } : Version), Size := x42.Size, Provides := x42.Provides, Needs := x42.Needs, Bars := x42.Bars } : Pack)).set s34.2.2.toNat ({ Name := x44.Name, Version := ({ A := x44.Version.A, B := x44.Version.B, C := w64 ((w64 ((w64 (s34.2.1 + 1)) + 1)) + 1) } : Version), Size := x44.Size, Provides := x44.Provides, Needs := x44.Needs, Bars := x44.Bars } : Pack)).set s34.2.2.toNat ({ Name := x46.Name, Version := x46.Version, Size := w64 ((w64 ((w64 ((w64 (s34.2.1 + 1)) + 1)) + 1)) + 1), Provides := x46.Provides, Needs := x46.Needs, Bars := x46.Bars } : Pack)))] orcN ?_
    refine J_bind (fun x48 h49 => ?_)
    refine J_lendT (ix := s34.2.2) (enc := (Pack.enc true)) 0 5 1 h49 rfl rfl (by kernel_rfl) ?_
    refine J_wk [(0, rr 0 (((((s34.1.set s34.2.2.toNat ({ Name := x36, Version := x38.Version, Size := x38.Size, Provides := x38.Provides, Needs := x38.Needs, Bars := x38.Bars } : Pack)).set s34.2.2.toNat ({ Name := x40.Name, Version := ({ A := w64 (s34.2.1 + 1), B := x40.Version.B, C := x40.Version.C } : Version), Size := x40.Size, Provides := x40.Provides, Needs := x40.Needs, Bars := x40.Bars } : Pack)).set s34.2.2.toNat ({ Name := x42.Name, Version := ({ A := x42.Version.A, B := w64 ((w64 (s34.2.1 + 1)) + 1), C := x42.Version.C } : Version), Size := x42.Size, Provides := x42.Provides, Needs := x42.Needs, Bars := x42.Bars } : Pack)).set s34.2.2.toNat ({ Name := x44.Name, Version := ({ A := x44.Version.A, B := x44.Version.B, C := w64 ((w64 ((w64 (s34.2.1 + 1)) + 1)) + 1) } : Version), Size := x44.Size, Provides := x44.Provides, Needs := x44.Needs, Bars := x44.Bars } : Pack)).set s34.2.2.toNat ({ Name := x46.Name, Version := x46.Version, Size := w64 ((w64 ((w64 ((w64 (s34.2.1 + 1)) + 1)) + 1)) + 1), Provides := x46.Provides, Needs := x46.Needs, Bars := x46.Bars } : Pack))), (1, iv (w64 ((w64 ((w64 ((w64 ((w64 (s34.2.1 + 1)) + 1)) + 1)) + 1)) + 1))), (5, iv s34.2.2)] [(0, .lent 8 ((((((s34.1.set s34.2.2.toNat ({ Name := x36, Version := x38.Version, Size := x38.Size, Provides := x38.Provides, Needs := x38.Needs, Bars := x38.Bars } : Pack)).set s34.2.2.toNat ({ Name := x40.Name, Version := ({ A := w64 (s34.2.1 + 1), B := x40.Version.B, C := x40.Version.C } : Version), Size := x40.Size, Provides := x40.Provides, Needs := x40.Needs, Bars := x40.Bars } : Pack)).set s34.2.2.toNat ({ Name := x42.Name, Version := ({ A := x42.Version.A, B := w64 ((w64 (s34.2.1 + 1)) + 1), C := x42.Version.C } : Version), Size := x42.Size, Provides := x42.Provides, Needs := x42.Needs, Bars := x42.Bars } : Pack)).set s34.2.2.toNat ({ Name := x44.Name, Version := ({ A := x44.Version.A, B := x44.Version.B, C := w64 ((w64 ((w64 (s34.2.1 + 1)) + 1)) + 1) } : Version), Size := x44.Size, Provides := x44.Provides, Needs := x44.Needs, Bars := x44.Bars } : Pack)).set s34.2.2.toNat ({ Name := x46.Name, Version := x46.Version, Size := w64 ((w64 ((w64 ((w64 (s34.2.1 + 1)) + 1)) + 1)) + 1), Provides := x46.Provides, Needs := x46.Needs, Bars := x46.Bars } : Pack)).map (Pack.enc true)) s34.2.2.toNat 5 1 x48.Provides.length), (1, rE 1 eStr x48.Provides)] (by kernel_rfl) ?_
    refine J_bind (fun x50 h51 => ?_)
    refine J_g 862206 [] [(0, rr 0 (((((s34.1.set s34.2.2.toNat ({ Name := x36, Version := x38.Version, Size := x38.Size, Provides := x38.Provides, Needs := x38.Needs, Bars := x38.Bars } : Pack)).set s34.2.2.toNat ({ Name := x40.Name, Version := ({ A := w64 (s34.2.1 + 1), B := x40.Version.B, C := x40.Version.C } : Version), Size := x40.Size, Provides := x40.Provides, Needs := x40.Needs, Bars := x40.Bars } : Pack)).set s34.2.2.toNat ({ Name := x42.Name, Version := ({ A := x42.Version.A, B := w64 ((w64 (s34.2.1 + 1)) + 1), C := x42.Version.C } : Version), Size := x42.Size, Provides := x42.Provides, Needs := x42.Needs, Bars := x42.Bars } : Pack)).set s34.2.2.toNat ({ Name := x44.Name, Version := ({ A := x44.Version.A, B := x44.Version.B, C := w64 ((w64 ((w64 (s34.2.1 + 1)) + 1)) + 1) } : Version), Size := x44.Size, Provides := x44.Provides, Needs := x44.Needs, Bars := x44.Bars } : Pack)).set s34.2.2.toNat ({ Name := x46.Name, Version := x46.Version, Size := w64 ((w64 ((w64 ((w64 (s34.2.1 + 1)) + 1)) + 1)) + 1), Provides := x46.Provides, Needs := x46.Needs, Bars := x46.Bars } : Pack))), (1, iv x50.1), (5, iv s34.2.2)] [(0, .lent 8 ((((((s34.1.set s34.2.2.toNat ({ Name := x36, Version := x38.Version, Size := x38.Size, Provides := x38.Provides, Needs := x38.Needs, Bars := x38.Bars } : Pack)).set s34.2.2.toNat ({ Name := x40.Name, Version := ({ A := w64 (s34.2.1 + 1), B := x40.Version.B, C := x40.Version.C } : Version), Size := x40.Size, Provides := x40.Provides, Needs := x40.Needs, Bars := x40.Bars } : Pack)).set s34.2.2.toNat ({ Name := x42.Name, Version := ({ A := x42.Version.A, B := w64 ((w64 (s34.2.1 + 1)) + 1), C := x42.Version.C } : Version), Size := x42.Size, Provides := x42.Provides, Needs := x42.Needs, Bars := x42.Bars } : Pack)).set s34.2.2.toNat ({ Name := x44.Name, Version := ({ A := x44.Version.A, B := x44.Version.B, C := w64 ((w64 ((w64 (s34.2.1 + 1)) + 1)) + 1) } : Version), Size := x44.Size, Provides := x44.Provides, Needs := x44.Needs, Bars := x44.Bars } : Pack)).set s34.2.2.toNat ({ Name := x46.Name, Version := x46.Version, Size := w64 ((w64 ((w64 ((w64 (s34.2.1 + 1)) + 1)) + 1)) + 1), Provides := x46.Provides, Needs := x46.Needs, Bars := x46.Bars } : Pack)).map (Pack.enc true)) s34.2.2.toNat 5 1 x48.Provides.length), (1, rE 1 eStr x50.2)] (orcC 2 (x_ixl (kk := .i64) 47 132 8 0 (Pack.enc true) (.tmp 51) (.tmp 52) s34.2.2.toNat 5 1 x48.Provides.length h49) (orcC 4 (x_ldl 94 0 (.tmp 54) 8 (Pack.enc true) (((((s34.1.set s34.2.2.toNat ({ Name := x36, Version := x38.Version, Size := x38.Size, Provides := x38.Provides, Needs := x38.Needs, Bars := x38.Bars } : Pack)).set s34.2.2.toNat ({ Name := x40.Name, Version := ({ A := w64 (s34.2.1 + 1), B := x40.Version.B, C := x40.Version.C } : Version), Size := x40.Size, Provides := x40.Provides, Needs := x40.Needs, Bars := x40.Bars } : Pack)).set s34.2.2.toNat ({ Name := x42.Name, Version := ({ A := x42.Version.A, B := w64 ((w64 (s34.2.1 + 1)) + 1), C := x42.Version.C } : Version), Size := x42.Size, Provides := x42.Provides, Needs := x42.Needs, Bars := x42.Bars } : Pack)).set s34.2.2.toNat ({ Name := x44.Name, Version := ({ A := x44.Version.A, B := x44.Version.B, C := w64 ((w64 ((w64 (s34.2.1 + 1)) + 1)) + 1) } : Version), Size := x44.Size, Provides := x44.Provides, Needs := x44.Needs, Bars := x44.Bars } : Pack)).set s34.2.2.toNat ({ Name := x46.Name, Version := x46.Version, Size := w64 ((w64 ((w64 ((w64 (s34.2.1 + 1)) + 1)) + 1)) + 1), Provides := x46.Provides, Needs := x46.Needs, Bars := x46.Bars } : Pack)) s34.2.2.toNat 5 1 x48.Provides.length) (orcC 6 (x_c1 («as» := [rr 1 x48.Provides, iv (w64 ((w64 ((w64 ((w64 ((w64 (s34.2.1 + 1)) + 1)) + 1)) + 1)) + 1))]) [(.tmp 55), (.tmp 56)] [94, 3] false [(1, rE 1 eStr x48.Provides)] [1] (.cons (.rf rfl) (.cons (.same rfl) (.nil))) (laws_markStringSr.ok x48.Provides (w64 ((w64 ((w64 ((w64 ((w64 (s34.2.1 + 1)) + 1)) + 1)) + 1)) + 1))) h51 (.same rfl rfl)) orcN))) ?_
    refine J_bind (fun u52 h53 => ?_)
    refine J_backT (ix := s34.2.2) (enc := (Pack.enc true)) (b := ({ Name := x48.Name, Version := x48.Version, Size := x48.Size, Provides := x50.2, Needs := x48.Needs, Bars := x48.Bars } : Pack)) 0 5 1 h49 rfl rfl rfl rfl (same_len h53) (Nat.le_of_ble_eq_true rfl) ((List.length_map _).trans (same_len h53)) ?_
    refine J_wk [(0, rr 0 (((((s34.1.set s34.2.2.toNat ({ Name := x36, Version := x38.Version, Size := x38.Size, Provides := x38.Provides, Needs := x38.Needs, Bars := x38.Bars } : Pack)).set s34.2.2.toNat ({ Name := x40.Name, Version := ({ A := w64 (s34.2.1 + 1), B := x40.Version.B, C := x40.Version.C } : Version), Size := x40.Size, Provides := x40.Provides, Needs := x40.Needs, Bars := x40.Bars } : Pack)).set s34.2.2.toNat ({ Name := x42.Name, Version := ({ A := x42.Version.A, B := w64 ((w64 (s34.2.1 + 1)) + 1), C := x42.Version.C } : Version), Size := x42.Size, Provides := x42.Provides, Needs := x42.Needs, Bars := x42.Bars } : Pack)).set s34.2.2.toNat ({ Name := x44.Name, Version := ({ A := x44.Version.A, B := x44.Version.B, C := w64 ((w64 ((w64 (s34.2.1 + 1)) + 1)) + 1) } : Version), Size := x44.Size, Provides := x44.Provides, Needs := x44.Needs, Bars := x44.Bars } : Pack)).set s34.2.2.toNat ({ Name := x46.Name, Version := x46.Version, Size := w64 ((w64 ((w64 ((w64 (s34.2.1 + 1)) + 1)) + 1)) + 1), Provides := x46.Provides, Needs := x46.Needs, Bars := x46.Bars } : Pack))), (1, iv x50.1), (5, iv s34.2.2)] [(0, rE 8 (Pack.enc true) ((((((s34.1.set s34.2.2.toNat ({ Name := x36, Version := x38.Version, Size := x38.Size, Provides := x38.Provides, Needs := x38.Needs, Bars := x38.Bars } : Pack)).set s34.2.2.toNat ({ Name := x40.Name, Version := ({ A := w64 (s34.2.1 + 1), B := x40.Version.B, C := x40.Version.C } : Version), Size := x40.Size, Provides := x40.Provides, Needs := x40.Needs, Bars := x40.Bars } : Pack)).set s34.2.2.toNat ({ Name := x42.Name, Version := ({ A := x42.Version.A, B := w64 ((w64 (s34.2.1 + 1)) + 1), C := x42.Version.C } : Version), Size := x42.Size, Provides := x42.Provides, Needs := x42.Needs, Bars := x42.Bars } : Pack)).set s34.2.2.toNat ({ Name := x44.Name, Version := ({ A := x44.Version.A, B := x44.Version.B, C := w64 ((w64 ((w64 (s34.2.1 + 1)) + 1)) + 1) } : Version), Size := x44.Size, Provides := x44.Provides, Needs := x44.Needs, Bars := x44.Bars } : Pack)).set s34.2.2.toNat ({ Name := x46.Name, Version := x46.Version, Size := w64 ((w64 ((w64 ((w64 (s34.2.1 + 1)) + 1)) + 1)) + 1), Provides := x46.Provides, Needs := x46.Needs, Bars := x46.Bars } : Pack)).set s34.2.2.toNat ({ Name := x48.Name, Version := x48.Version, Size := x48.Size, Provides := x50.2, Needs := x48.Needs, Bars := x48.Bars } : Pack)))] (by kernel_rfl) ?_
    refine J_st (σ' := St.mk' [(0, rr 0 ((((((s34.1.set s34.2.2.toNat ({ Name := x36, Version := x38.Version, Size := x38.Size, Provides := x38.Provides, Needs := x38.Needs, Bars := x38.Bars } : Pack)).set s34.2.2.toNat ({ Name := x40.Name, Version := ({ A := w64 (s34.2.1 + 1), B := x40.Version.B, C := x40.Version.C } : Version), Size := x40.Size, Provides := x40.Provides, Needs := x40.Needs, Bars := x40.Bars } : Pack)).set s34.2.2.toNat ({ Name := x42.Name, Version := ({ A := x42.Version.A, B := w64 ((w64 (s34.2.1 + 1)) + 1), C := x42.Version.C } : Version), Size := x42.Size, Provides := x42.Provides, Needs := x42.Needs, Bars := x42.Bars } : Pack)).set s34.2.2.toNat ({ Name := x44.Name, Version := ({ A := x44.Version.A, B := x44.Version.B, C := w64 ((w64 ((w64 (s34.2.1 + 1)) + 1)) + 1) } : Version), Size := x44.Size, Provides := x44.Provides, Needs := x44.Needs, Bars := x44.Bars } : Pack)).set s34.2.2.toNat ({ Name := x46.Name, Version := x46.Version, Size := w64 ((w64 ((w64 ((w64 (s34.2.1 + 1)) + 1)) + 1)) + 1), Provides := x46.Provides, Needs := x46.Needs, Bars := x46.Bars } : Pack)).set s34.2.2.toNat ({ Name := x48.Name, Version := x48.Version, Size := x48.Size, Provides := x50.2, Needs := x48.Needs, Bars := x48.Bars } : Pack))), (1, iv x50.1), (5, iv s34.2.2)] [(0, rE 8 (Pack.enc true) ((((((s34.1.set s34.2.2.toNat ({ Name := x36, Version := x38.Version, Size := x38.Size, Provides := x38.Provides, Needs := x38.Needs, Bars := x38.Bars } : Pack)).set s34.2.2.toNat ({ Name := x40.Name, Version := ({ A := w64 (s34.2.1 + 1), B := x40.Version.B, C := x40.Version.C } : Version), Size := x40.Size, Provides := x40.Provides, Needs := x40.Needs, Bars := x40.Bars } : Pack)).set s34.2.2.toNat ({ Name := x42.Name, Version := ({ A := x42.Version.A, B := w64 ((w64 (s34.2.1 + 1)) + 1), C := x42.Version.C } : Version), Size := x42.Size, Provides := x42.Provides, Needs := x42.Needs, Bars := x42.Bars } : Pack)).set s34.2.2.toNat ({ Name := x44.Name, Version := ({ A := x44.Version.A, B := x44.Version.B, C := w64 ((w64 ((w64 (s34.2.1 + 1)) + 1)) + 1) } : Version), Size := x44.Size, Provides := x44.Provides, Needs := x44.Needs, Bars := x44.Bars } : Pack)).set s34.2.2.toNat ({ Name := x46.Name, Version := x46.Version, Size := w64 ((w64 ((w64 ((w64 (s34.2.1 + 1)) + 1)) + 1)) + 1), Provides := x46.Provides, Needs := x46.Needs, Bars := x46.Bars } : Pack)).set s34.2.2.toNat ({ Name := x48.Name, Version := x48.Version, Size := x48.Size, Provides := x50.2, Needs := x48.Needs, Bars := x48.Bars } : Pack)))]) (by simp only [rr, List.length_set]) ?_
    refine J_bind (fun x54 h55 => ?_)
    refine J_lendT (ix := s34.2.2) (enc := (Pack.enc true)) 0 6 1 h55 rfl rfl (by kernel_rfl) ?_
    refine J_wk [(0, rr 0 ((((((s34.1.set s34.2.2.toNat ({ Name := x36, Version := x38.Version, Size := x38.Size, Provides := x38.Provides, Needs := x38.Needs, Bars := x38.Bars } : Pack)).set s34.2.2.toNat ({ Name := x40.Name, Version := ({ A := w64 (s34.2.1 + 1), B := x40.Version.B, C := x40.Version.C } : Version), Size := x40.Size, Provides := x40.Provides, Needs := x40.Needs, Bars := x40.Bars } : Pack)).set s34.2.2.toNat ({ Name := x42.Name, Version := ({ A := x42.Version.A, B := w64 ((w64 (s34.2.1 + 1)) + 1), C := x42.Version.C } : Version), Size := x42.Size, Provides := x42.Provides, Needs := x42.Needs, Bars := x42.Bars } : Pack)).set s34.2.2.toNat ({ Name := x44.Name, Version := ({ A := x44.Version.A, B := x44.Version.B, C := w64 ((w64 ((w64 (s34.2.1 + 1)) + 1)) + 1) } : Version), Size := x44.Size, Provides := x44.Provides, Needs := x44.Needs, Bars := x44.Bars } : Pack)).set s34.2.2.toNat ({ Name := x46.Name, Version := x46.Version, Size := w64 ((w64 ((w64 ((w64 (s34.2.1 + 1)) + 1)) + 1)) + 1), Provides := x46.Provides, Needs := x46.Needs, Bars := x46.Bars } : Pack)).set s34.2.2.toNat ({ Name := x48.Name, Version := x48.Version, Size := x48.Size, Provides := x50.2, Needs := x48.Needs, Bars := x48.Bars } : Pack))), (1, iv x50.1), (5, iv s34.2.2)] [(0, .lent 8 (((((((s34.1.set s34.2.2.toNat ({ Name := x36, Version := x38.Version, Size := x38.Size, Provides := x38.Provides, Needs := x38.Needs, Bars := x38.Bars } : Pack)).set s34.2.2.toNat ({ Name := x40.Name, Version := ({ A := w64 (s34.2.1 + 1), B := x40.Version.B, C := x40.Version.C } : Version), Size := x40.Size, Provides := x40.Provides, Needs := x40.Needs, Bars := x40.Bars } : Pack)).set s34.2.2.toNat ({ Name := x42.Name, Version := ({ A := x42.Version.A, B := w64 ((w64 (s34.2.1 + 1)) + 1), C := x42.Version.C } : Version), Size := x42.Size, Provides := x42.Provides, Needs := x42.Needs, Bars := x42.Bars } : Pack)).set s34.2.2.toNat ({ Name := x44.Name, Version := ({ A := x44.Version.A, B := x44.Version.B, C := w64 ((w64 ((w64 (s34.2.1 + 1)) + 1)) + 1) } : Version), Size := x44.Size, Provides := x44.Provides, Needs := x44.Needs, Bars := x44.Bars } : Pack)).set s34.2.2.toNat ({ Name := x46.Name, Version := x46.Version, Size := w64 ((w64 ((w64 ((w64 (s34.2.1 + 1)) + 1)) + 1)) + 1), Provides := x46.Provides, Needs := x46.Needs, Bars := x46.Bars } : Pack)).set s34.2.2.toNat ({ Name := x48.Name, Version := x48.Version, Size := x48.Size, Provides := x50.2, Needs := x48.Needs, Bars := x48.Bars } : Pack)).map (Pack.enc true)) s34.2.2.toNat 6 1 x54.Needs.length), (1, rE 1 (eSl true 7 Term.enc) x54.Needs)] (by kernel_rfl) ?_
    refine J_bind (fun x56 h57 => ?_)
    refine J_g 1724414 [] [(0, rr 0 ((((((s34.1.set s34.2.2.toNat ({ Name := x36, Version := x38.Version, Size := x38.Size, Provides := x38.Provides, Needs := x38.Needs, Bars := x38.Bars } : Pack)).set s34.2.2.toNat ({ Name := x40.Name, Version := ({ A := w64 (s34.2.1 + 1), B := x40.Version.B, C := x40.Version.C } : Version), Size := x40.Size, Provides := x40.Provides, Needs := x40.Needs, Bars := x40.Bars } : Pack)).set s34.2.2.toNat ({ Name := x42.Name, Version := ({ A := x42.Version.A, B := w64 ((w64 (s34.2.1 + 1)) + 1), C := x42.Version.C } : Version), Size := x42.Size, Provides := x42.Provides, Needs := x42.Needs, Bars := x42.Bars } : Pack)).set s34.2.2.toNat ({ Name := x44.Name, Version := ({ A := x44.Version.A, B := x44.Version.B, C := w64 ((w64 ((w64 (s34.2.1 + 1)) + 1)) + 1) } : Version), Size := x44.Size, Provides := x44.Provides, Needs := x44.Needs, Bars := x44.Bars } : Pack)).set s34.2.2.toNat ({ Name := x46.Name, Version := x46.Version, Size := w64 ((w64 ((w64 ((w64 (s34.2.1 + 1)) + 1)) + 1)) + 1), Provides := x46.Provides, Needs := x46.Needs, Bars := x46.Bars } : Pack)).set s34.2.2.toNat ({ Name := x48.Name, Version := x48.Version, Size := x48.Size, Provides := x50.2, Needs := x48.Needs, Bars := x48.Bars } : Pack))), (1, iv x56.1), (5, iv s34.2.2)] [(0, .lent 8 (((((((s34.1.set s34.2.2.toNat ({ Name := x36, Version := x38.Version, Size := x38.Size, Provides := x38.Provides, Needs := x38.Needs, Bars := x38.Bars } : Pack)).set s34.2.2.toNat ({ Name := x40.Name, Version := ({ A := w64 (s34.2.1 + 1), B := x40.Version.B, C := x40.Version.C } : Version), Size := x40.Size, Provides := x40.Provides, Needs := x40.Needs, Bars := x40.Bars } : Pack)).set s34.2.2.toNat ({ Name := x42.Name, Version := ({ A := x42.Version.A, B := w64 ((w64 (s34.2.1 + 1)) + 1), C := x42.Version.C } : Version), Size := x42.Size, Provides := x42.Provides, Needs := x42.Needs, Bars := x42.Bars } : Pack)).set s34.2.2.toNat ({ Name := x44.Name, Version := ({ A := x44.Version.A, B := x44.Version.B, C := w64 ((w64 ((w64 (s34.2.1 + 1)) + 1)) + 1) } : Version), Size := x44.Size, Provides := x44.Provides, Needs := x44.Needs, Bars := x44.Bars } : Pack)).set s34.2.2.toNat ({ Name := x46.Name, Version := x46.Version, Size := w64 ((w64 ((w64 ((w64 (s34.2.1 + 1)) + 1)) + 1)) + 1), Provides := x46.Provides, Needs := x46.Needs, Bars := x46.Bars } : Pack)).set s34.2.2.toNat ({ Name := x48.Name, Version := x48.Version, Size := x48.Size, Provides := x50.2, Needs := x48.Needs, Bars := x48.Bars } : Pack)).map (Pack.enc true)) s34.2.2.toNat 6 1 x54.Needs.length), (1, rE 1 (eSl true 7 Term.enc) x56.2)] (orcC 2 (x_ixl (kk := .i64) 47 132 8 0 (Pack.enc true) (.tmp 58) (.tmp 59) s34.2.2.toNat 6 1 x54.Needs.length h55) (orcC 4 (x_ldl 130 0 (.tmp 61) 8 (Pack.enc true) ((((((s34.1.set s34.2.2.toNat ({ Name := x36, Version := x38.Version, Size := x38.Size, Provides := x38.Provides, Needs := x38.Needs, Bars := x38.Bars } : Pack)).set s34.2.2.toNat ({ Name := x40.Name, Version := ({ A := w64 (s34.2.1 + 1), B := x40.Version.B, C := x40.Version.C } : Version), Size := x40.Size, Provides := x40.Provides, Needs := x40.Needs, Bars := x40.Bars } : Pack)).set s34.2.2.toNat ({ Name := x42.Name, Version := ({ A := x42.Version.A, B := w64 ((w64 (s34.2.1 + 1)) + 1), C := x42.Version.C } : Version), Size := x42.Size, Provides := x42.Provides, Needs := x42.Needs, Bars := x42.Bars } : Pack)).set s34.2.2.toNat ({ Name := x44.Name, Version := ({ A := x44.Version.A, B := x44.Version.B, C := w64 ((w64 ((w64 (s34.2.1 + 1)) + 1)) + 1) } : Version), Size := x44.Size, Provides := x44.Provides, Needs := x44.Needs, Bars := x44.Bars } : Pack)).set s34.2.2.toNat ({ Name := x46.Name, Version := x46.Version, Size := w64 ((w64 ((w64 ((w64 (s34.2.1 + 1)) + 1)) + 1)) + 1), Provides := x46.Provides, Needs := x46.Needs, Bars := x46.Bars } : Pack)).set s34.2.2.toNat ({ Name := x48.Name, Version := x48.Version, Size := x48.Size, Provides := x50.2, Needs := x48.Needs, Bars := x48.Bars } : Pack)) s34.2.2.toNat 6 1 x54.Needs.length) (orcC 6 (x_c1 («as» := [rr 1 x54.Needs, iv x50.1]) [(.tmp 62), (.tmp 63)] [130, 3] false [(1, rE 1 (eSl true 7 Term.enc) x54.Needs)] [1] (.cons (.rf rfl) (.cons (.same rfl) (.nil))) (laws_markTermSSr.ok x54.Needs x50.1) h57 (.same rfl rfl)) orcN))) ?_
    refine J_bind (fun u58 h59 => ?_)
    refine J_backT (ix := s34.2.2) (enc := (Pack.enc true)) (b := ({ Name := x54.Name, Version := x54.Version, Size := x54.Size, Provides := x54.Provides, Needs := x56.2, Bars := x54.Bars } : Pack)) 0 6 1 h55 rfl rfl rfl rfl (same_len h59) (Nat.le_of_ble_eq_true rfl) ((List.length_map _).trans (same_len h59)) ?_
    refine J_wk [(0, rr 0 ((((((s34.1.set s34.2.2.toNat ({ Name := x36, Version := x38.Version, Size := x38.Size, Provides := x38.Provides, Needs := x38.Needs, Bars := x38.Bars } : Pack)).set s34.2.2.toNat ({ Name := x40.Name, Version := ({ A := w64 (s34.2.1 + 1), B := x40.Version.B, C := x40.Version.C } : Version), Size := x40.Size, Provides := x40.Provides, Needs := x40.Needs, Bars := x40.Bars } : Pack)).set s34.2.2.toNat ({ Name := x42.Name, Version := ({ A := x42.Version.A, B := w64 ((w64 (s34.2.1 + 1)) + 1), C := x42.Version.C } : Version), Size := x42.Size, Provides := x42.Provides, Needs := x42.Needs, Bars := x42.Bars } : Pack)).set s34.2.2.toNat ({ Name := x44.Name, Version := ({ A := x44.Version.A, B := x44.Version.B, C := w64 ((w64 ((w64 (s34.2.1 + 1)) + 1)) + 1) } : Version), Size := x44.Size, Provides := x44.Provides, Needs := x44.Needs, Bars := x44.Bars } : Pack)).set s34.2.2.toNat ({ Name := x46.Name, Version := x46.Version, Size := w64 ((w64 ((w64 ((w64 (s34.2.1 + 1)) + 1)) + 1)) + 1), Provides := x46.Provides, Needs := x46.Needs, Bars := x46.Bars } : Pack)).set s34.2.2.toNat ({ Name := x48.Name, Version := x48.Version, Size := x48.Size, Provides := x50.2, Needs := x48.Needs, Bars := x48.Bars } : Pack))), (1, iv x56.1), (5, iv s34.2.2)] [(0, rE 8 (Pack.enc true) (((((((s34.1.set s34.2.2.toNat ({ Name := x36, Version := x38.Version, Size := x38.Size, Provides := x38.Provides, Needs := x38.Needs, Bars := x38.Bars } : Pack)).set s34.2.2.toNat ({ Name := x40.Name, Version := ({ A := w64 (s34.2.1 + 1), B := x40.Version.B, C := x40.Version.C } : Version), Size := x40.Size, Provides := x40.Provides, Needs := x40.Needs, Bars := x40.Bars } : Pack)).set s34.2.2.toNat ({ Name := x42.Name, Version := ({ A := x42.Version.A, B := w64 ((w64 (s34.2.1 + 1)) + 1), C := x42.Version.C } : Version), Size := x42.Size, Provides := x42.Provides, Needs := x42.Needs, Bars := x42.Bars } : Pack)).set s34.2.2.toNat ({ Name := x44.Name, Version := ({ A := x44.Version.A, B := x44.Version.B, C := w64 ((w64 ((w64 (s34.2.1 + 1)) + 1)) + 1) } : Version), Size := x44.Size, Provides := x44.Provides, Needs := x44.Needs, Bars := x44.Bars } : Pack)).set s34.2.2.toNat ({ Name := x46.Name, Version := x46.Version, Size := w64 ((w64 ((w64 ((w64 (s34.2.1 + 1)) + 1)) + 1)) + 1), Provides := x46.Provides, Needs := x46.Needs, Bars := x46.Bars } : Pack)).set s34.2.2.toNat ({ Name := x48.Name, Version := x48.Version, Size := x48.Size, Provides := x50.2, Needs := x48.Needs, Bars := x48.Bars } : Pack)).set s34.2.2.toNat ({ Name := x54.Name, Version := x54.Version, Size := x54.Size, Provides := x54.Provides, Needs := x56.2, Bars := x54.Bars } : Pack)))] (by kernel_rfl) ?_
    refine J_st (σ' := St.mk' [(0, rr 0 (((((((s34.1.set s34.2.2.toNat ({ Name := x36, Version := x38.Version, Size := x38.Size, Provides := x38.Provides, Needs := x38.Needs, Bars := x38.Bars } : Pack)).set s34.2.2.toNat ({ Name := x40.Name, Version := ({ A := w64 (s34.2.1 + 1), B := x40.Version.B, C := x40.Version.C } : Version), Size := x40.Size, Provides := x40.Provides, Needs := x40.Needs, Bars := x40.Bars } : Pack)).set s34.2.2.toNat ({ Name := x42.Name, Version := ({ A := x42.Version.A, B := w64 ((w64 (s34.2.1 + 1)) + 1), C := x42.Version.C } : Version), Size := x42.Size, Provides := x42.Provides, Needs := x42.Needs, Bars := x42.Bars } : Pack)).set s34.2.2.toNat ({ Name := x44.Name, Version := ({ A := x44.Version.A, B := x44.Version.B, C := w64 ((w64 ((w64 (s34.2.1 + 1)) + 1)) + 1) } : Version), Size := x44.Size, Provides := x44.Provides, Needs := x44.Needs, Bars := x44.Bars } : Pack)).set s34.2.2.toNat ({ Name := x46.Name, Version := x46.Version, Size := w64 ((w64 ((w64 ((w64 (s34.2.1 + 1)) + 1)) + 1)) + 1), Provides := x46.Provides, Needs := x46.Needs, Bars := x46.Bars } : Pack)).set s34.2.2.toNat ({ Name := x48.Name, Version := x48.Version, Size := x48.Size, Provides := x50.2, Needs := x48.Needs, Bars := x48.Bars } : Pack)).set s34.2.2.toNat ({ Name := x54.Name, Version := x54.Version, Size := x54.Size, Provides := x54.Provides, Needs := x56.2, Bars := x54.Bars } : Pack))), (1, iv x56.1), (5, iv s34.2.2)] [(0, rE 8 (Pack.enc true) (((((((s34.1.set s34.2.2.toNat ({ Name := x36, Version := x38.Version, Size := x38.Size, Provides := x38.Provides, Needs := x38.Needs, Bars := x38.Bars } : Pack)).set s34.2.2.toNat ({ Name := x40.Name, Version := ({ A := w64 (s34.2.1 + 1), B := x40.Version.B, C := x40.Version.C } : Version), Size := x40.Size, Provides := x40.Provides, Needs := x40.Needs, Bars := x40.Bars } : Pack)).set s34.2.2.toNat ({ Name := x42.Name, Version := ({ A := x42.Version.A, B := w64 ((w64 (s34.2.1 + 1)) + 1), C := x42.Version.C } : Version), Size := x42.Size, Provides := x42.Provides, Needs := x42.Needs, Bars := x42.Bars } : Pack)).set s34.2.2.toNat ({ Name := x44.Name, Version := ({ A := x44.Version.A, B := x44.Version.B, C := w64 ((w64 ((w64 (s34.2.1 + 1)) + 1)) + 1) } : Version), Size := x44.Size, Provides := x44.Provides, Needs := x44.Needs, Bars := x44.Bars } : Pack)).set s34.2.2.toNat ({ Name := x46.Name, Version := x46.Version, Size := w64 ((w64 ((w64 ((w64 (s34.2.1 + 1)) + 1)) + 1)) + 1), Provides := x46.Provides, Needs := x46.Needs, Bars := x46.Bars } : Pack)).set s34.2.2.toNat ({ Name := x48.Name, Version := x48.Version, Size := x48.Size, Provides := x50.2, Needs := x48.Needs, Bars := x48.Bars } : Pack)).set s34.2.2.toNat ({ Name := x54.Name, Version := x54.Version, Size := x54.Size, Provides := x54.Provides, Needs := x56.2, Bars := x54.Bars } : Pack)))]) (by simp only [rr, List.length_set]) ?_
    refine J_bind (fun x60 h61 => ?_)
    refine J_lendT (ix := s34.2.2) (enc := (Pack.enc true)) 0 7 1 h61 rfl rfl (by kernel_rfl) ?_
    refine J_wk [(0, rr 0 (((((((s34.1.set s34.2.2.toNat ({ Name := x36, Version := x38.Version, Size := x38.Size, Provides := x38.Provides, Needs := x38.Needs, Bars := x38.Bars } : Pack)).set s34.2.2.toNat ({ Name := x40.Name, Version := ({ A := w64 (s34.2.1 + 1), B := x40.Version.B, C := x40.Version.C } : Version), Size := x40.Size, Provides := x40.Provides, Needs := x40.Needs, Bars := x40.Bars } : Pack)).set s34.2.2.toNat ({ Name := x42.Name, Version := ({ A := x42.Version.A, B := w64 ((w64 (s34.2.1 + 1)) + 1), C := x42.Version.C } : Version), Size := x42.Size, Provides := x42.Provides, Needs := x42.Needs, Bars := x42.Bars } : Pack)).set s34.2.2.toNat ({ Name := x44.Name, Version := ({ A := x44.Version.A, B := x44.Version.B, C := w64 ((w64 ((w64 (s34.2.1 + 1)) + 1)) + 1) } : Version), Size := x44.Size, Provides := x44.Provides, Needs := x44.Needs, Bars := x44.Bars } : Pack)).set s34.2.2.toNat ({ Name := x46.Name, Version := x46.Version, Size := w64 ((w64 ((w64 ((w64 (s34.2.1 + 1)) + 1)) + 1)) + 1), Provides := x46.Provides, Needs := x46.Needs, Bars := x46.Bars } : Pack)).set s34.2.2.toNat ({ Name := x48.Name, Version := x48.Version, Size := x48.Size, Provides := x50.2, Needs := x48.Needs, Bars := x48.Bars } : Pack)).set s34.2.2.toNat ({ Name := x54.Name, Version := x54.Version, Size := x54.Size, Provides := x54.Provides, Needs := x56.2, Bars := x54.Bars } : Pack))), (1, iv x56.1), (5, iv s34.2.2)] [(0, .lent 8 ((((((((s34.1.set s34.2.2.toNat ({ Name := x36, Version := x38.Version, Size := x38.Size, Provides := x38.Provides, Needs := x38.Needs, Bars := x38.Bars } : Pack)).set s34.2.2.toNat ({ Name := x40.Name, Version := ({ A := w64 (s34.2.1 + 1), B := x40.Version.B, C := x40.Version.C } : Version), Size := x40.Size, Provides := x40.Provides, Needs := x40.Needs, Bars := x40.Bars } : Pack)).set s34.2.2.toNat ({ Name := x42.Name, Version := ({ A := x42.Version.A, B := w64 ((w64 (s34.2.1 + 1)) + 1), C := x42.Version.C } : Version), Size := x42.Size, Provides := x42.Provides, Needs := x42.Needs, Bars := x42.Bars } : Pack)).set s34.2.2.toNat ({ Name := x44.Name, Version := ({ A := x44.Version.A, B := x44.Version.B, C := w64 ((w64 ((w64 (s34.2.1 + 1)) + 1)) + 1) } : Version), Size := x44.Size, Provides := x44.Provides, Needs := x44.Needs, Bars := x44.Bars } : Pack)).set s34.2.2.toNat ({ Name := x46.Name, Version := x46.Version, Size := w64 ((w64 ((w64 ((w64 (s34.2.1 + 1)) + 1)) + 1)) + 1), Provides := x46.Provides, Needs := x46.Needs, Bars := x46.Bars } : Pack)).set s34.2.2.toNat ({ Name := x48.Name, Version := x48.Version, Size := x48.Size, Provides := x50.2, Needs := x48.Needs, Bars := x48.Bars } : Pack)).set s34.2.2.toNat ({ Name := x54.Name, Version := x54.Version, Size := x54.Size, Provides := x54.Provides, Needs := x56.2, Bars := x54.Bars } : Pack)).map (Pack.enc true)) s34.2.2.toNat 7 1 x60.Bars.length), (1, rE 7 Term.enc x60.Bars)] (by kernel_rfl) ?_
    refine J_bind (fun x62 h63 => ?_)
    refine J_g 1724415 [] [(0, rr 0 (((((((s34.1.set s34.2.2.toNat ({ Name := x36, Version := x38.Version, Size := x38.Size, Provides := x38.Provides, Needs := x38.Needs, Bars := x38.Bars } : Pack)).set s34.2.2.toNat ({ Name := x40.Name, Version := ({ A := w64 (s34.2.1 + 1), B := x40.Version.B, C := x40.Version.C } : Version), Size := x40.Size, Provides := x40.Provides, Needs := x40.Needs, Bars := x40.Bars } : Pack)).set s34.2.2.toNat ({ Name := x42.Name, Version := ({ A := x42.Version.A, B := w64 ((w64 (s34.2.1 + 1)) + 1), C := x42.Version.C } : Version), Size := x42.Size, Provides := x42.Provides, Needs := x42.Needs, Bars := x42.Bars } : Pack)).set s34.2.2.toNat ({ Name := x44.Name, Version := ({ A := x44.Version.A, B := x44.Version.B, C := w64 ((w64 ((w64 (s34.2.1 + 1)) + 1)) + 1) } : Version), Size := x44.Size, Provides := x44.Provides, Needs := x44.Needs, Bars := x44.Bars } : Pack)).set s34.2.2.toNat ({ Name := x46.Name, Version := x46.Version, Size := w64 ((w64 ((w64 ((w64 (s34.2.1 + 1)) + 1)) + 1)) + 1), Provides := x46.Provides, Needs := x46.Needs, Bars := x46.Bars } : Pack)).set s34.2.2.toNat ({ Name := x48.Name, Version := x48.Version, Size := x48.Size, Provides := x50.2, Needs := x48.Needs, Bars := x48.Bars } : Pack)).set s34.2.2.toNat ({ Name := x54.Name, Version := x54.Version, Size := x54.Size, Provides := x54.Provides, Needs := x56.2, Bars := x54.Bars } : Pack))), (1, iv x62.1), (5, iv s34.2.2)] [(0, .lent 8 ((((((((s34.1.set s34.2.2.toNat ({ Name := x36, Version := x38.Version, Size := x38.Size, Provides := x38.Provides, Needs := x38.Needs, Bars := x38.Bars } : Pack)).set s34.2.2.toNat ({ Name := x40.Name, Version := ({ A := w64 (s34.2.1 + 1), B := x40.Version.B, C := x40.Version.C } : Version), Size := x40.Size, Provides := x40.Provides, Needs := x40.Needs, Bars := x40.Bars } : Pack)).set s34.2.2.toNat ({ Name := x42.Name, Version := ({ A := x42.Version.A, B := w64 ((w64 (s34.2.1 + 1)) + 1), C := x42.Version.C } : Version), Size := x42.Size, Provides := x42.Provides, Needs := x42.Needs, Bars := x42.Bars } : Pack)).set s34.2.2.toNat ({ Name := x44.Name, Version := ({ A := x44.Version.A, B := x44.Version.B, C := w64 ((w64 ((w64 (s34.2.1 + 1)) + 1)) + 1) } : Version), Size := x44.Size, Provides := x44.Provides, Needs := x44.Needs, Bars := x44.Bars } : Pack)).set s34.2.2.toNat ({ Name := x46.Name, Version := x46.Version, Size := w64 ((w64 ((w64 ((w64 (s34.2.1 + 1)) + 1)) + 1)) + 1), Provides := x46.Provides, Needs := x46.Needs, Bars := x46.Bars } : Pack)).set s34.2.2.toNat ({ Name := x48.Name, Version := x48.Version, Size := x48.Size, Provides := x50.2, Needs := x48.Needs, Bars := x48.Bars } : Pack)).set s34.2.2.toNat ({ Name := x54.Name, Version := x54.Version, Size := x54.Size, Provides := x54.Provides, Needs := x56.2, Bars := x54.Bars } : Pack)).map (Pack.enc true)) s34.2.2.toNat 7 1 x60.Bars.length), (1, rE 7 Term.enc x62.2)] (orcC 2 (x_ixl (kk := .i64) 47 132 8 0 (Pack.enc true) (.tmp 65) (.tmp 66) s34.2.2.toNat 7 1 x60.Bars.length h61) (orcC 4 (x_ldl 24 0 (.tmp 68) 8 (Pack.enc true) (((((((s34.1.set s34.2.2.toNat ({ Name := x36, Version := x38.Version, Size := x38.Size, Provides := x38.Provides, Needs := x38.Needs, Bars := x38.Bars } : Pack)).set s34.2.2.toNat ({ Name := x40.Name, Version := ({ A := w64 (s34.2.1 + 1), B := x40.Version.B, C := x40.Version.C } : Version), Size := x40.Size, Provides := x40.Provides, Needs := x40.Needs, Bars := x40.Bars } : Pack)).set s34.2.2.toNat ({ Name := x42.Name, Version := ({ A := x42.Version.A, B := w64 ((w64 (s34.2.1 + 1)) + 1), C := x42.Version.C } : Version), Size := x42.Size, Provides := x42.Provides, Needs := x42.Needs, Bars := x42.Bars } : Pack)).set s34.2.2.toNat ({ Name := x44.Name, Version := ({ A := x44.Version.A, B := x44.Version.B, C := w64 ((w64 ((w64 (s34.2.1 + 1)) + 1)) + 1) } : Version), Size := x44.Size, Provides := x44.Provides, Needs := x44.Needs, Bars := x44.Bars } : Pack)).set s34.2.2.toNat ({ Name := x46.Name, Version := x46.Version, Size := w64 ((w64 ((w64 ((w64 (s34.2.1 + 1)) + 1)) + 1)) + 1), Provides := x46.Provides, Needs := x46.Needs, Bars := x46.Bars } : Pack)).set s34.2.2.toNat ({ Name := x48.Name, Version := x48.Version, Size := x48.Size, Provides := x50.2, Needs := x48.Needs, Bars := x48.Bars } : Pack)).set s34.2.2.toNat ({ Name := x54.Name, Version := x54.Version, Size := x54.Size, Provides := x54.Provides, Needs := x56.2, Bars := x54.Bars } : Pack)) s34.2.2.toNat 7 1 x60.Bars.length) (orcC 6 (x_c1 («as» := [rr 1 x60.Bars, iv x56.1]) [(.tmp 69), (.tmp 70)] [24, 3] false [(1, rE 7 Term.enc x60.Bars)] [1] (.cons (.rf rfl) (.cons (.same rfl) (.nil))) (laws_markTermSr.ok x60.Bars x56.1) h63 (.same rfl rfl)) orcN))) ?_
    refine J_bind (fun u64 h65 => ?_)
    refine J_backT (ix := s34.2.2) (enc := (Pack.enc true)) (b := ({ Name := x60.Name, Version := x60.Version, Size := x60.Size, Provides := x60.Provides, Needs := x60.Needs, Bars := x62.2 } : Pack)) 0 7 1 h61 rfl rfl rfl rfl (same_len h65) (Nat.le_of_ble_eq_true rfl) ((List.length_map _).trans (same_len h65)) ?_
    refine J_wk [(0, rr 0 (((((((s34.1.set s34.2.2.toNat ({ Name := x36, Version := x38.Version, Size := x38.Size, Provides := x38.Provides, Needs := x38.Needs, Bars := x38.Bars } : Pack)).set s34.2.2.toNat ({ Name := x40.Name, Version := ({ A := w64 (s34.2.1 + 1), B := x40.Version.B, C := x40.Version.C } : Version), Size := x40.Size, Provides := x40.Provides, Needs := x40.Needs, Bars := x40.Bars } : Pack)).set s34.2.2.toNat ({ Name := x42.Name, Version := ({ A := x42.Version.A, B := w64 ((w64 (s34.2.1 + 1)) + 1), C := x42.Version.C } : Version), Size := x42.Size, Provides := x42.Provides, Needs := x42.Needs, Bars := x42.Bars } : Pack)).set s34.2.2.toNat ({ Name := x44.Name, Version := ({ A := x44.Version.A, B := x44.Version.B, C := w64 ((w64 ((w64 (s34.2.1 + 1)) + 1)) + 1) } : Version), Size := x44.Size, Provides := x44.Provides, Needs := x44.Needs, Bars := x44.Bars } : Pack)).set s34.2.2.toNat ({ Name := x46.Name, Version := x46.Version, Size := w64 ((w64 ((w64 ((w64 (s34.2.1 + 1)) + 1)) + 1)) + 1), Provides := x46.Provides, Needs := x46.Needs, Bars := x46.Bars } : Pack)).set s34.2.2.toNat ({ Name := x48.Name, Version := x48.Version, Size := x48.Size, Provides := x50.2, Needs := x48.Needs, Bars := x48.Bars } : Pack)).set s34.2.2.toNat ({ Name := x54.Name, Version := x54.Version, Size := x54.Size, Provides := x54.Provides, Needs := x56.2, Bars := x54.Bars } : Pack))), (1, iv x62.1), (5, iv s34.2.2)] [(0, rE 8 (Pack.enc true) ((((((((s34.1.set s34.2.2.toNat ({ Name := x36, Version := x38.Version, Size := x38.Size, Provides := x38.Provides, Needs := x38.Needs, Bars := x38.Bars } : Pack)).set s34.2.2.toNat ({ Name := x40.Name, Version := ({ A := w64 (s34.2.1 + 1), B := x40.Version.B, C := x40.Version.C } : Version), Size := x40.Size, Provides := x40.Provides, Needs := x40.Needs, Bars := x40.Bars } : Pack)).set s34.2.2.toNat ({ Name := x42.Name, Version := ({ A := x42.Version.A, B := w64 ((w64 (s34.2.1 + 1)) + 1), C := x42.Version.C } : Version), Size := x42.Size, Provides := x42.Provides, Needs := x42.Needs, Bars := x42.Bars } : Pack)).set s34.2.2.toNat ({ Name := x44.Name, Version := ({ A := x44.Version.A, B := x44.Version.B, C := w64 ((w64 ((w64 (s34.2.1 + 1)) + 1)) + 1) } : Version), Size := x44.Size, Provides := x44.Provides, Needs := x44.Needs, Bars := x44.Bars } : Pack)).set s34.2.2.toNat ({ Name := x46.Name, Version := x46.Version, Size := w64 ((w64 ((w64 ((w64 (s34.2.1 + 1)) + 1)) + 1)) + 1), Provides := x46.Provides, Needs := x46.Needs, Bars := x46.Bars } : Pack)).set s34.2.2.toNat ({ Name := x48.Name, Version := x48.Version, Size := x48.Size, Provides := x50.2, Needs := x48.Needs, Bars := x48.Bars } : Pack)).set s34.2.2.toNat ({ Name := x54.Name, Version := x54.Version, Size := x54.Size, Provides := x54.Provides, Needs := x56.2, Bars := x54.Bars } : Pack)).set s34.2.2.toNat ({ Name := x60.Name, Version := x60.Version, Size := x60.Size, Provides := x60.Provides, Needs := x60.Needs, Bars := x62.2 } : Pack)))] (by kernel_rfl) ?_
    refine J_st (σ' := St.mk' [(0, rr 0 ((((((((s34.1.set s34.2.2.toNat ({ Name := x36, Version := x38.Version, Size := x38.Size, Provides := x38.Provides, Needs := x38.Needs, Bars := x38.Bars } : Pack)).set s34.2.2.toNat ({ Name := x40.Name, Version := ({ A := w64 (s34.2.1 + 1), B := x40.Version.B, C := x40.Version.C } : Version), Size := x40.Size, Provides := x40.Provides, Needs := x40.Needs, Bars := x40.Bars } : Pack)).set s34.2.2.toNat ({ Name := x42.Name, Version := ({ A := x42.Version.A, B := w64 ((w64 (s34.2.1 + 1)) + 1), C := x42.Version.C } : Version), Size := x42.Size, Provides := x42.Provides, Needs := x42.Needs, Bars := x42.Bars } : Pack)).set s34.2.2.toNat ({ Name := x44.Name, Version := ({ A := x44.Version.A, B := x44.Version.B, C := w64 ((w64 ((w64 (s34.2.1 + 1)) + 1)) + 1) } : Version), Size := x44.Size, Provides := x44.Provides, Needs := x44.Needs, Bars := x44.Bars } : Pack)).set s34.2.2.toNat ({ Name := x46.Name, Version := x46.Version, Size := w64 ((w64 ((w64 ((w64 (s34.2.1 + 1)) + 1)) + 1)) + 1), Provides := x46.Provides, Needs := x46.Needs, Bars := x46.Bars } : Pack)).set s34.2.2.toNat ({ Name := x48.Name, Version := x48.Version, Size := x48.Size, Provides := x50.2, Needs := x48.Needs, Bars := x48.Bars } : Pack)).set s34.2.2.toNat ({ Name := x54.Name, Version := x54.Version, Size := x54.Size, Provides := x54.Provides, Needs := x56.2, Bars := x54.Bars } : Pack)).set s34.2.2.toNat ({ Name := x60.Name, Version := x60.Version, Size := x60.Size, Provides := x60.Provides, Needs := x60.Needs, Bars := x62.2 } : Pack))), (1, iv x62.1), (5, iv s34.2.2)] [(0, rE 8 (Pack.enc true) ((((((((s34.1.set s34.2.2.toNat ({ Name := x36, Version := x38.Version, Size := x38.Size, Provides := x38.Provides, Needs := x38.Needs, Bars := x38.Bars } : Pack)).set s34.2.2.toNat ({ Name := x40.Name, Version := ({ A := w64 (s34.2.1 + 1), B := x40.Version.B, C := x40.Version.C } : Version), Size := x40.Size, Provides := x40.Provides, Needs := x40.Needs, Bars := x40.Bars } : Pack)).set s34.2.2.toNat ({ Name := x42.Name, Version := ({ A := x42.Version.A, B := w64 ((w64 (s34.2.1 + 1)) + 1), C := x42.Version.C } : Version), Size := x42.Size, Provides := x42.Provides, Needs := x42.Needs, Bars := x42.Bars } : Pack)).set s34.2.2.toNat ({ Name := x44.Name, Version := ({ A := x44.Version.A, B := x44.Version.B, C := w64 ((w64 ((w64 (s34.2.1 + 1)) + 1)) + 1) } : Version), Size := x44.Size, Provides := x44.Provides, Needs := x44.Needs, Bars := x44.Bars } : Pack)).set s34.2.2.toNat ({ Name := x46.Name, Version := x46.Version, Size := w64 ((w64 ((w64 ((w64 (s34.2.1 + 1)) + 1)) + 1)) + 1), Provides := x46.Provides, Needs := x46.Needs, Bars := x46.Bars } : Pack)).set s34.2.2.toNat ({ Name := x48.Name, Version := x48.Version, Size := x48.Size, Provides := x50.2, Needs := x48.Needs, Bars := x48.Bars } : Pack)).set s34.2.2.toNat ({ Name := x54.Name, Version := x54.Version, Size := x54.Size, Provides := x54.Provides, Needs := x56.2, Bars := x54.Bars } : Pack)).set s34.2.2.toNat ({ Name := x60.Name, Version := x60.Version, Size := x60.Size, Provides := x60.Provides, Needs := x60.Needs, Bars := x62.2 } : Pack)))]) (by simp only [rr, List.length_set]) ?_
    refine J_g 211 [] [(0, rr 0 ((((((((s34.1.set s34.2.2.toNat ({ Name := x36, Version := x38.Version, Size := x38.Size, Provides := x38.Provides, Needs := x38.Needs, Bars := x38.Bars } : Pack)).set s34.2.2.toNat ({ Name := x40.Name, Version := ({ A := w64 (s34.2.1 + 1), B := x40.Version.B, C := x40.Version.C } : Version), Size := x40.Size, Provides := x40.Provides, Needs := x40.Needs, Bars := x40.Bars } : Pack)).set s34.2.2.toNat ({ Name := x42.Name, Version := ({ A := x42.Version.A, B := w64 ((w64 (s34.2.1 + 1)) + 1), C := x42.Version.C } : Version), Size := x42.Size, Provides := x42.Provides, Needs := x42.Needs, Bars := x42.Bars } : Pack)).set s34.2.2.toNat ({ Name := x44.Name, Version := ({ A := x44.Version.A, B := x44.Version.B, C := w64 ((w64 ((w64 (s34.2.1 + 1)) + 1)) + 1) } : Version), Size := x44.Size, Provides := x44.Provides, Needs := x44.Needs, Bars := x44.Bars } : Pack)).set s34.2.2.toNat ({ Name := x46.Name, Version := x46.Version, Size := w64 ((w64 ((w64 ((w64 (s34.2.1 + 1)) + 1)) + 1)) + 1), Provides := x46.Provides, Needs := x46.Needs, Bars := x46.Bars } : Pack)).set s34.2.2.toNat ({ Name := x48.Name, Version := x48.Version, Size := x48.Size, Provides := x50.2, Needs := x48.Needs, Bars := x48.Bars } : Pack)).set s34.2.2.toNat ({ Name := x54.Name, Version := x54.Version, Size := x54.Size, Provides := x54.Provides, Needs := x56.2, Bars := x54.Bars } : Pack)).set s34.2.2.toNat ({ Name := x60.Name, Version := x60.Version, Size := x60.Size, Provides := x60.Provides, Needs := x60.Needs, Bars := x62.2 } : Pack))), (1, iv x62.1), (5, iv (w64 (s34.2.2 + 1)))] [(0, rE 8 (Pack.enc true) ((((((((s34.1.set s34.2.2.toNat ({ Name := x36, Version := x38.Version, Size := x38.Size, Provides := x38.Provides, Needs := x38.Needs, Bars := x38.Bars } : Pack)).set s34.2.2.toNat ({ Name := x40.Name, Version := ({ A := w64 (s34.2.1 + 1), B := x40.Version.B, C := x40.Version.C } : Version), Size := x40.Size, Provides := x40.Provides, Needs := x40.Needs, Bars := x40.Bars } : Pack)).set s34.2.2.toNat ({ Name := x42.Name, Version := ({ A := x42.Version.A, B := w64 ((w64 (s34.2.1 + 1)) + 1), C := x42.Version.C } : Version), Size := x42.Size, Provides := x42.Provides, Needs := x42.Needs, Bars := x42.Bars } : Pack)).set s34.2.2.toNat ({ Name := x44.Name, Version := ({ A := x44.Version.A, B := x44.Version.B, C := w64 ((w64 ((w64 (s34.2.1 + 1)) + 1)) + 1) } : Version), Size := x44.Size, Provides := x44.Provides, Needs := x44.Needs, Bars := x44.Bars } : Pack)).set s34.2.2.toNat ({ Name := x46.Name, Version := x46.Version, Size := w64 ((w64 ((w64 ((w64 (s34.2.1 + 1)) + 1)) + 1)) + 1), Provides := x46.Provides, Needs := x46.Needs, Bars := x46.Bars } : Pack)).set s34.2.2.toNat ({ Name := x48.Name, Version := x48.Version, Size := x48.Size, Provides := x50.2, Needs := x48.Needs, Bars := x48.Bars } : Pack)).set s34.2.2.toNat ({ Name := x54.Name, Version := x54.Version, Size := x54.Size, Provides := x54.Provides, Needs := x56.2, Bars := x54.Bars } : Pack)).set s34.2.2.toNat ({ Name := x60.Name, Version := x60.Version, Size := x60.Size, Provides := x60.Provides, Needs := x60.Needs, Bars := x62.2 } : Pack)))] orcN ?_
    exact J_q (J_b (ih ((((((((s34.1.set s34.2.2.toNat ({ Name := x36, Version := x38.Version, Size := x38.Size, Provides := x38.Provides, Needs := x38.Needs, Bars := x38.Bars } : Pack)).set s34.2.2.toNat ({ Name := x40.Name, Version := ({ A := w64 (s34.2.1 + 1), B := x40.Version.B, C := x40.Version.C } : Version), Size := x40.Size, Provides := x40.Provides, Needs := x40.Needs, Bars := x40.Bars } : Pack)).set s34.2.2.toNat ({ Name := x42.Name, Version := ({ A := x42.Version.A, B := w64 ((w64 (s34.2.1 + 1)) + 1), C := x42.Version.C } : Version), Size := x42.Size, Provides := x42.Provides, Needs := x42.Needs, Bars := x42.Bars } : Pack)).set s34.2.2.toNat ({ Name := x44.Name, Version := ({ A := x44.Version.A, B := x44.Version.B, C := w64 ((w64 ((w64 (s34.2.1 + 1)) + 1)) + 1) } : Version), Size := x44.Size, Provides := x44.Provides, Needs := x44.Needs, Bars := x44.Bars } : Pack)).set s34.2.2.toNat ({ Name := x46.Name, Version := x46.Version, Size := w64 ((w64 ((w64 ((w64 (s34.2.1 + 1)) + 1)) + 1)) + 1), Provides := x46.Provides, Needs := x46.Needs, Bars := x46.Bars } : Pack)).set s34.2.2.toNat ({ Name := x48.Name, Version := x48.Version, Size := x48.Size, Provides := x50.2, Needs := x48.Needs, Bars := x48.Bars } : Pack)).set s34.2.2.toNat ({ Name := x54.Name, Version := x54.Version, Size := x54.Size, Provides := x54.Provides, Needs := x56.2, Bars := x54.Bars } : Pack)).set s34.2.2.toNat ({ Name := x60.Name, Version := x60.Version, Size := x60.Size, Provides := x60.Provides, Needs := x60.Needs, Bars := x62.2 } : Pack), x62.1, w64 (s34.2.2 + 1)))) rfl
  · exact J_qw (hk (s34.1, s34.2.1)) rfl

theorem laws_markPackSr.ok (a1 : (List Pack)) (a2 : Int) : Ok Tryz.prog 27 [rr 0 a1, iv a2] [rE 8 (Pack.enc true) a1] ((laws_markPackSr a1 a2).map fun r => (iv r.1, [rE 8 (Pack.enc true) r.2])) := by
  refine Ok_of3 c27 Tryz.f27 1 73 (fun q => ?_)
  unfold laws_markPackSr
  refine J_g 2 [] [(0, rr 0 a1), (1, iv a2)] [(0, rE 8 (Pack.enc true) a1)] orcN ?_
  refine J_g 12 [] [(0, rr 0 a1), (1, iv a2), (5, iv 0)] [(0, rE 8 (Pack.enc true) a1)] orcN ?_
  refine J_lq (laws_markPackSr_l1.ok q _ (fun v66 => J_j ?_) (a1, a2, 0))
  refine J_g 14 [] [(4, iv v66.2)] [(0, rE 8 (Pack.enc true) v66.1)] orcN ?_
  exact J_r1 rfl

noncomputable def c229 : Code := (Tryz.f229.body).getD .skip

theorem laws_markByteSr_l1.ok  (q : Wd) (kn : ((List Int) × Int) → Option (D × List Ent)) (hk : ∀ v : ((List Int) × Int), J (q.g Tryz.prog 229 1 20) c229 (atI c229 7) (St.mk' [(1, iv v.2)] [(0, rE 1 eU8 v.1)]) (some v) kn) :
    ∀ s6 : ((List Int) × Int × Int), J (q.g Tryz.prog 229 1 20) c229 (atI c229 52) (St.mk' [(0, rr 0 s6.1), (1, iv s6.2.1), (5, iv s6.2.2)] [(0, rE 1 eU8 s6.1)]) (laws_markByteSr_l1 s6) kn := by
  refine J_lp (fun g ih s6 => ?_)
  unfold laws_markByteSr_l1b
  refine J_g 208 [] [(0, rr 0 s6.1), (1, iv s6.2.1), (5, iv s6.2.2), (9, bv (decide (s6.2.2 < (s6.1.length : Int))))] [(0, rE 1 eU8 s6.1)] orcN ?_
  refine J_if2 9 (fun h7 => ?_) (fun h7 => ?_)
  · refine J_bind (fun x8 h9 => ?_)
    refine J_g 840 [] [(0, rr 0 s6.1), (1, iv s6.2.1), (5, iv s6.2.2)] [(0, rE 1 eU8 (s6.1.set s6.2.2.toNat (IntKind.u8.wrap (s6.2.1))))] (orcC 4 (x_ixr (kk := .i64) 22 5 1 0 eU8 (.tmp 12) (.tmp 13) h9) (orcD 5 (x_st (b := IntKind.u8.wrap (s6.2.1)) 5 1 0 0 eU8 (uv (IntKind.u8.wrap (s6.2.1))) (.tmp 16) (.tmp 15) h9 rfl) orcN)) ?_
    refine J_st (σ' := St.mk' [(0, rr 0 (s6.1.set s6.2.2.toNat (IntKind.u8.wrap (s6.2.1)))), (1, iv s6.2.1), (5, iv s6.2.2)] [(0, rE 1 eU8 (s6.1.set s6.2.2.toNat (IntKind.u8.wrap (s6.2.1))))]) (by simp only [rr, List.length_set]) ?_
    refine J_g 841 [] [(0, rr 0 (s6.1.set s6.2.2.toNat (IntKind.u8.wrap (s6.2.1)))), (1, iv (w64 (s6.2.1 + 1))), (5, iv s6.2.2)] [(0, rE 1 eU8 (s6.1.set s6.2.2.toNat (IntKind.u8.wrap (s6.2.1))))] orcN ?_
    refine J_g 211 [] [(0, rr 0 (s6.1.set s6.2.2.toNat (IntKind.u8.wrap (s6.2.1)))), (1, iv (w64 (s6.2.1 + 1))), (5, iv (w64 (s6.2.2 + 1)))] [(0, rE 1 eU8 (s6.1.set s6.2.2.toNat (IntKind.u8.wrap (s6.2.1))))] orcN ?_
    exact J_q (J_b (ih (s6.1.set s6.2.2.toNat (IntKind.u8.wrap (s6.2.1)), w64 (s6.2.1 + 1), w64 (s6.2.2 + 1)))) rfl
  · exact J_qw (hk (s6.1, s6.2.1)) rfl

theorem laws_markByteSr.ok (a1 : (List Int)) (a2 : Int) : Ok Tryz.prog 229 [rr 0 a1, iv a2] [rE 1 eU8 a1] ((laws_markByteSr a1 a2).map fun r => (iv r.1, [rE 1 eU8 r.2])) := by
  refine Ok_of3 c229 Tryz.f229 1 20 (fun q => ?_)
  unfold laws_markByteSr
  refine J_g 2 [] [(0, rr 0 a1), (1, iv a2)] [(0, rE 1 eU8 a1)] orcN ?_
  refine J_g 12 [] [(0, rr 0 a1), (1, iv a2), (5, iv 0)] [(0, rE 1 eU8 a1)] orcN ?_
  refine J_lq (laws_markByteSr_l1.ok q _ (fun v10 => J_j ?_) (a1, a2, 0))
  refine J_g 14 [] [(4, iv v10.2)] [(0, rE 1 eU8 v10.1)] orcN ?_
  exact J_r1 rfl

noncomputable def c125 : Code := (Tryz.f125.body).getD .skip

theorem laws_markFileSr_l1.ok  (q : Wd) (kn : ((List File) × Int) → Option (D × List Ent)) (hk : ∀ v : ((List File) × Int), J (q.g Tryz.prog 125 1 28) c125 (atI c125 7) (St.mk' [(1, iv v.2)] [(0, rE 2 (File.enc true) v.1)]) (some v) kn) :
    ∀ s14 : ((List File) × Int × Int), J (q.g Tryz.prog 125 1 28) c125 (atI c125 52) (St.mk' [(0, rr 0 s14.1), (1, iv s14.2.1), (5, iv s14.2.2)] [(0, rE 2 (File.enc true) s14.1)]) (laws_markFileSr_l1 s14) kn := by
  refine J_lp (fun g ih s14 => ?_)
  unfold laws_markFileSr_l1b
  refine J_g 208 [] [(0, rr 0 s14.1), (1, iv s14.2.1), (5, iv s14.2.2), (9, bv (decide (s14.2.2 < (s14.1.length : Int))))] [(0, rE 2 (File.enc true) s14.1)] orcN ?_
  refine J_if2 9 (fun h15 => ?_) (fun h15 => ?_)
  · refine J_bind (fun x16 h17 => ?_)
    refine J_bind (fun x18 h19 => ?_)
    refine J_g 840 [] [(0, rr 0 s14.1), (1, iv s14.2.1), (5, iv s14.2.2)] [(0, rE 2 (File.enc true) (s14.1.set s14.2.2.toNat ({ Path := x16, Data := x18.Data } : File)))] (orcC 3 (x_c0 [(.tmp 14)] [3] (laws_markText.ok s14.2.1) h17) (orcC 4 (x_ixr (kk := .i64) 27 175 2 0 (File.enc true) (.tmp 12) (.tmp 13) h19) (orcD 6 (x_st (b := ({ Path := x16, Data := x18.Data } : File)) 9 2 0 0 (File.enc true) (sv x16) (.tmp 17) (.tmp 15) h19 rfl) orcN))) ?_
    refine J_st (σ' := St.mk' [(0, rr 0 (s14.1.set s14.2.2.toNat ({ Path := x16, Data := x18.Data } : File))), (1, iv s14.2.1), (5, iv s14.2.2)] [(0, rE 2 (File.enc true) (s14.1.set s14.2.2.toNat ({ Path := x16, Data := x18.Data } : File)))]) (by simp only [rr, List.length_set]) ?_
    refine J_g 1682 [] [(0, rr 0 (s14.1.set s14.2.2.toNat ({ Path := x16, Data := x18.Data } : File))), (1, iv (w64 (s14.2.1 + 1))), (5, iv s14.2.2)] [(0, rE 2 (File.enc true) (s14.1.set s14.2.2.toNat ({ Path := x16, Data := x18.Data } : File)))] orcN ?_
    refine J_bind (fun x20 h21 => ?_)
    refine J_lendT (ix := s14.2.2) (enc := (File.enc true)) 0 1 1 h21 rfl rfl (by kernel_rfl) ?_
    refine J_wk [(0, rr 0 (s14.1.set s14.2.2.toNat ({ Path := x16, Data := x18.Data } : File))), (1, iv (w64 (s14.2.1 + 1))), (5, iv s14.2.2)] [(0, .lent 2 ((s14.1.set s14.2.2.toNat ({ Path := x16, Data := x18.Data } : File)).map (File.enc true)) s14.2.2.toNat 1 1 x20.Data.length), (1, rE 1 eU8 x20.Data)] (by kernel_rfl) ?_
    refine J_bind (fun x22 h23 => ?_)
    refine J_g 1683 [] [(0, rr 0 (s14.1.set s14.2.2.toNat ({ Path := x16, Data := x18.Data } : File))), (1, iv x22.1), (5, iv s14.2.2)] [(0, .lent 2 ((s14.1.set s14.2.2.toNat ({ Path := x16, Data := x18.Data } : File)).map (File.enc true)) s14.2.2.toNat 1 1 x20.Data.length), (1, rE 1 eU8 x22.2)] (orcC 2 (x_ixl (kk := .i64) 27 175 2 0 (File.enc true) (.tmp 20) (.tmp 21) s14.2.2.toNat 1 1 x20.Data.length h21) (orcC 4 (x_ldl 22 0 (.tmp 23) 2 (File.enc true) (s14.1.set s14.2.2.toNat ({ Path := x16, Data := x18.Data } : File)) s14.2.2.toNat 1 1 x20.Data.length) (orcC 6 (x_c1 («as» := [rr 1 x20.Data, iv (w64 (s14.2.1 + 1))]) [(.tmp 24), (.tmp 25)] [22, 3] false [(1, rE 1 eU8 x20.Data)] [1] (.cons (.rf rfl) (.cons (.same rfl) (.nil))) (laws_markByteSr.ok x20.Data (w64 (s14.2.1 + 1))) h23 (.same rfl rfl)) orcN))) ?_
    refine J_bind (fun u24 h25 => ?_)
    refine J_backT (ix := s14.2.2) (enc := (File.enc true)) (b := ({ Path := x20.Path, Data := x22.2 } : File)) 0 1 1 h21 rfl rfl rfl rfl (same_len h25) (Nat.le_of_ble_eq_true rfl) ((List.length_map _).trans (same_len h25)) ?_
    refine J_wk [(0, rr 0 (s14.1.set s14.2.2.toNat ({ Path := x16, Data := x18.Data } : File))), (1, iv x22.1), (5, iv s14.2.2)] [(0, rE 2 (File.enc true) ((s14.1.set s14.2.2.toNat ({ Path := x16, Data := x18.Data } : File)).set s14.2.2.toNat ({ Path := x20.Path, Data := x22.2 } : File)))] (by kernel_rfl) ?_
    refine J_st (σ' := St.mk' [(0, rr 0 ((s14.1.set s14.2.2.toNat ({ Path := x16, Data := x18.Data } : File)).set s14.2.2.toNat ({ Path := x20.Path, Data := x22.2 } : File))), (1, iv x22.1), (5, iv s14.2.2)] [(0, rE 2 (File.enc true) ((s14.1.set s14.2.2.toNat ({ Path := x16, Data := x18.Data } : File)).set s14.2.2.toNat ({ Path := x20.Path, Data := x22.2 } : File)))]) (by simp only [rr, List.length_set]) ?_
    refine J_g 211 [] [(0, rr 0 ((s14.1.set s14.2.2.toNat ({ Path := x16, Data := x18.Data } : File)).set s14.2.2.toNat ({ Path := x20.Path, Data := x22.2 } : File))), (1, iv x22.1), (5, iv (w64 (s14.2.2 + 1)))] [(0, rE 2 (File.enc true) ((s14.1.set s14.2.2.toNat ({ Path := x16, Data := x18.Data } : File)).set s14.2.2.toNat ({ Path := x20.Path, Data := x22.2 } : File)))] orcN ?_
    exact J_q (J_b (ih ((s14.1.set s14.2.2.toNat ({ Path := x16, Data := x18.Data } : File)).set s14.2.2.toNat ({ Path := x20.Path, Data := x22.2 } : File), x22.1, w64 (s14.2.2 + 1)))) rfl
  · exact J_qw (hk (s14.1, s14.2.1)) rfl

theorem laws_markFileSr.ok (a1 : (List File)) (a2 : Int) : Ok Tryz.prog 125 [rr 0 a1, iv a2] [rE 2 (File.enc true) a1] ((laws_markFileSr a1 a2).map fun r => (iv r.1, [rE 2 (File.enc true) r.2])) := by
  refine Ok_of3 c125 Tryz.f125 1 28 (fun q => ?_)
  unfold laws_markFileSr
  refine J_g 2 [] [(0, rr 0 a1), (1, iv a2)] [(0, rE 2 (File.enc true) a1)] orcN ?_
  refine J_g 12 [] [(0, rr 0 a1), (1, iv a2), (5, iv 0)] [(0, rE 2 (File.enc true) a1)] orcN ?_
  refine J_lq (laws_markFileSr_l1.ok q _ (fun v26 => J_j ?_) (a1, a2, 0))
  refine J_g 14 [] [(4, iv v26.2)] [(0, rE 2 (File.enc true) v26.1)] orcN ?_
  exact J_r1 rfl

noncomputable def c47 : Code := (Tryz.f47.body).getD .skip

theorem laws_markDiskg.ok (a1 : Disk) (a2 : Int) : Ok Tryz.prog 47 [.ag [rr 0 a1.Files, iv a1.Budget, iv a1.Writes, iv a1.Stop, bv a1.Down], iv a2] [rE 2 (File.enc true) a1.Files] ((laws_markDiskg a1 a2).map fun r => (iv r.1, [rE 2 (File.enc true) r.2])) := by
  refine Ok_of3 c47 Tryz.f47 1 10 (fun q => ?_)
  unfold laws_markDiskg
  refine J_g 2 [(0, 1)] [(1, iv a2), (2, pp 1)] [(0, rE 2 (File.enc true) a1.Files), (1, .box [rr 0 a1.Files, iv a1.Budget, iv a1.Writes, iv a1.Stop, bv a1.Down])] orcN ?_
  refine J_bind (fun x3 h4 => ?_)
  refine J_g 6 [] [(1, iv x3.1)] [(0, rE 2 (File.enc true) x3.2)] (orcC 3 (x_c1 («as» := [rr 0 a1.Files, iv a2]) [(.tmp 6), (.tmp 7)] [27, 3] false [(0, rE 2 (File.enc true) a1.Files)] [0] (.cons (.rf rfl) (.cons (.same rfl) (.nil))) (laws_markFileSr.ok a1.Files a2) h4 (.same rfl rfl)) orcN) ?_
  refine J_bind (fun u5 h6 => ?_)
  refine J_g 14 [] [(4, iv x3.1)] [(0, rE 2 (File.enc true) x3.2)] orcN ?_
  exact J_r1 rfl

noncomputable def c48 : Code := (Tryz.f48.body).getD .skip

theorem laws_markInt64Sr_l1.ok  (q : Wd) (kn : ((List Int) × Int) → Option (D × List Ent)) (hk : ∀ v : ((List Int) × Int), J (q.g Tryz.prog 48 1 19) c48 (atI c48 7) (St.mk' [(1, iv v.2)] [(0, rE 1 eI64 v.1)]) (some v) kn) :
    ∀ s6 : ((List Int) × Int × Int), J (q.g Tryz.prog 48 1 19) c48 (atI c48 52) (St.mk' [(0, rr 0 s6.1), (1, iv s6.2.1), (5, iv s6.2.2)] [(0, rE 1 eI64 s6.1)]) (laws_markInt64Sr_l1 s6) kn := by
  refine J_lp (fun g ih s6 => ?_)
  unfold laws_markInt64Sr_l1b
  refine J_g 208 [] [(0, rr 0 s6.1), (1, iv s6.2.1), (5, iv s6.2.2), (9, bv (decide (s6.2.2 < (s6.1.length : Int))))] [(0, rE 1 eI64 s6.1)] orcN ?_
  refine J_if2 9 (fun h7 => ?_) (fun h7 => ?_)
  · refine J_bind (fun x8 h9 => ?_)
    refine J_g 840 [] [(0, rr 0 s6.1), (1, iv s6.2.1), (5, iv s6.2.2)] [(0, rE 1 eI64 (s6.1.set s6.2.2.toNat s6.2.1))] (orcC 3 (x_ixr (kk := .i64) 70 2 1 0 eI64 (.tmp 12) (.tmp 13) h9) (orcD 4 (x_st (b := s6.2.1) 2 1 0 0 eI64 (iv s6.2.1) (.tmp 15) (.tmp 14) h9 rfl) orcN)) ?_
    refine J_st (σ' := St.mk' [(0, rr 0 (s6.1.set s6.2.2.toNat s6.2.1)), (1, iv s6.2.1), (5, iv s6.2.2)] [(0, rE 1 eI64 (s6.1.set s6.2.2.toNat s6.2.1))]) (by simp only [rr, List.length_set]) ?_
    refine J_g 841 [] [(0, rr 0 (s6.1.set s6.2.2.toNat s6.2.1)), (1, iv (w64 (s6.2.1 + 1))), (5, iv s6.2.2)] [(0, rE 1 eI64 (s6.1.set s6.2.2.toNat s6.2.1))] orcN ?_
    refine J_g 211 [] [(0, rr 0 (s6.1.set s6.2.2.toNat s6.2.1)), (1, iv (w64 (s6.2.1 + 1))), (5, iv (w64 (s6.2.2 + 1)))] [(0, rE 1 eI64 (s6.1.set s6.2.2.toNat s6.2.1))] orcN ?_
    exact J_q (J_b (ih (s6.1.set s6.2.2.toNat s6.2.1, w64 (s6.2.1 + 1), w64 (s6.2.2 + 1)))) rfl
  · exact J_qw (hk (s6.1, s6.2.1)) rfl

theorem laws_markInt64Sr.ok (a1 : (List Int)) (a2 : Int) : Ok Tryz.prog 48 [rr 0 a1, iv a2] [rE 1 eI64 a1] ((laws_markInt64Sr a1 a2).map fun r => (iv r.1, [rE 1 eI64 r.2])) := by
  refine Ok_of3 c48 Tryz.f48 1 19 (fun q => ?_)
  unfold laws_markInt64Sr
  refine J_g 2 [] [(0, rr 0 a1), (1, iv a2)] [(0, rE 1 eI64 a1)] orcN ?_
  refine J_g 12 [] [(0, rr 0 a1), (1, iv a2), (5, iv 0)] [(0, rE 1 eI64 a1)] orcN ?_
  refine J_lq (laws_markInt64Sr_l1.ok q _ (fun v10 => J_j ?_) (a1, a2, 0))
  refine J_g 14 [] [(4, iv v10.2)] [(0, rE 1 eI64 v10.1)] orcN ?_
  exact J_r1 rfl

noncomputable def c54 : Code := (Tryz.f54.body).getD .skip

theorem laws_markSetResultg.ok (a1 : SetResult) (a2 : Int) : Ok Tryz.prog 54 [.ag [iv a1.Code, iv a1.At, rr 0 a1.Set], iv a2] [rE 1 eI64 a1.Set] ((laws_markSetResultg a1 a2).map fun r => (iv r.1, [rE 1 eI64 r.2])) := by
  refine Ok_of3 c54 Tryz.f54 1 10 (fun q => ?_)
  unfold laws_markSetResultg
  refine J_g 2 [(0, 1)] [(1, iv a2), (2, pp 1)] [(0, rE 1 eI64 a1.Set), (1, .box [iv a1.Code, iv a1.At, rr 0 a1.Set])] orcN ?_
  refine J_bind (fun x3 h4 => ?_)
  refine J_g 6 [] [(1, iv x3.1)] [(0, rE 1 eI64 x3.2)] (orcC 3 (x_c1 («as» := [rr 0 a1.Set, iv a2]) [(.tmp 6), (.tmp 7)] [70, 3] false [(0, rE 1 eI64 a1.Set)] [0] (.cons (.rf rfl) (.cons (.same rfl) (.nil))) (laws_markInt64Sr.ok a1.Set a2) h4 (.same rfl rfl)) orcN) ?_
  refine J_bind (fun u5 h6 => ?_)
  refine J_g 14 [] [(4, iv x3.1)] [(0, rE 1 eI64 x3.2)] orcN ?_
  exact J_r1 rfl

noncomputable def c131 : Code := (Tryz.f131.body).getD .skip

theorem laws_heldInt64S_l1.ok (a1 : (List Int)) (q : Wd) (kn : Int → Option (D × List Ent)) (hk : ∀ v : Int, J (q.g Tryz.prog 131 0 21) c131 (atI c131 7) (St.mk' [(1, iv v)] []) (some v) kn) :
    ∀ s7 : (Int × Int), J (q.g Tryz.prog 131 0 21) c131 (atI c131 52) (St.mk' [(0, sl 1 eI64 a1), (1, iv s7.1), (5, iv s7.2)] []) (laws_heldInt64S_l1 a1 s7) (Fl.go (fun r : Int => some (iv r, [])) kn) := by
  refine J_lp (fun g ih s7 => ?_)
  unfold laws_heldInt64S_l1b
  refine J_g 208 [] [(0, sl 1 eI64 a1), (1, iv s7.1), (5, iv s7.2), (9, bv (decide (s7.2 < (a1.length : Int))))] [] orcN ?_
  refine J_if2 9 (fun h8 => ?_) (fun h8 => ?_)
  · refine J_bind (fun x9 h10 => ?_)
    refine J_g 1680 [] [(0, sl 1 eI64 a1), (1, iv s7.1), (5, iv s7.2), (17, bv (x9 != s7.1))] [] (orcC 2 (x_ix (kk := .i64) 70 2 1 eI64 (.tmp 12) (.tmp 13) h10) orcN) ?_
    refine J_if2 17 (fun h11 => ?_) (fun h11 => ?_)
    · refine J_g 6724 [] [(4, iv (-1))] [] orcN ?_
      exact J_r1 rfl
    · refine J_g 841 [] [(0, sl 1 eI64 a1), (1, iv (w64 (s7.1 + 1))), (5, iv s7.2)] [] orcN ?_
      refine J_g 211 [] [(0, sl 1 eI64 a1), (1, iv (w64 (s7.1 + 1))), (5, iv (w64 (s7.2 + 1)))] [] orcN ?_
      exact J_q (J_b (ih (w64 (s7.1 + 1), w64 (s7.2 + 1)))) rfl
  · exact J_qw (hk s7.1) rfl

theorem laws_heldInt64S.ok (a1 : (List Int)) (a2 : Int) : Ok Tryz.prog 131 [sl 1 eI64 a1, iv a2] [] ((laws_heldInt64S a1 a2).map fun r => (iv r, [])) := by
  refine Ok_of3 c131 Tryz.f131 0 21 (fun q => ?_)
  unfold laws_heldInt64S
  refine J_g 2 [] [(0, sl 1 eI64 a1), (1, iv a2)] [] orcN ?_
  refine J_g 12 [] [(0, sl 1 eI64 a1), (1, iv a2), (5, iv 0)] [] orcN ?_
  refine J_lqF (K0 := (fun r : Int => some (iv r, []))) (fun _ => rfl) (laws_heldInt64S_l1.ok a1 q _ (fun v12 => J_j ?_) (a2, 0))
  refine J_g 14 [] [(4, iv v12)] [] orcN ?_
  exact J_r1 rfl

noncomputable def c55 : Code := (Tryz.f55.body).getD .skip

theorem laws_heldSetResult.ok (a1 : SetResult) (a2 : Int) : Ok Tryz.prog 55 [.ag (SetResult.enc false a1), iv a2] [] ((laws_heldSetResult a1 a2).map fun r => (iv r, [])) := by
  refine Ok_of3 c55 Tryz.f55 0 12 (fun q => ?_)
  unfold laws_heldSetResult
  refine J_g 2 [(0, 0)] [(1, iv a2), (2, pp 0)] [(0, .box (SetResult.enc false a1))] orcN ?_
  refine J_bind (fun x3 h4 => ?_)
  refine J_g 6 [] [(1, iv x3)] [] (orcC 3 (x_c0 [(.tmp 6), (.tmp 7)] [70, 3] (laws_heldInt64S.ok a1.Set a2) h4) orcN) ?_
  refine J_g 28 [] [(1, iv x3), (10, bv (decide (x3 < 0)))] [] orcN ?_
  refine J_if2 10 (fun h5 => ?_) (fun h5 => ?_)
  · refine J_g 116 [] [(4, iv (-1))] [] orcN ?_
    exact J_r1 rfl
  · refine J_g 30 [] [(4, iv x3)] [] orcN ?_
    exact J_r1 rfl

noncomputable def c8 : Code := (Tryz.f8.body).getD .skip

theorem laws_FnExactSetOfGen.ok (a1 : (List Pack)) (a2 : Disk) (a3 : Int) : Ok Tryz.prog 8 [sl 8 (Pack.enc false) a1, .ag (Disk.enc false a2), iv a3] [] ((laws_FnExactSetOfGen a1 a2 a3).map fun r => (bv r, [])) := by
  refine Ok_of3 c8 Tryz.f8 0 97 (fun q => ?_)
  unfold laws_FnExactSetOfGen
  refine J_g 2 [(0, 0)] [(0, sl 8 (Pack.enc false) a1), (2, iv a3), (4, pp 0)] [(0, .box (Disk.enc false a2))] orcN ?_
  refine J_g 6 [] [(0, sl 8 (Pack.enc false) a1), (2, iv a3), (4, pp 0), (7, iv 1048576)] [(0, .box (Disk.enc false a2))] orcN ?_
  refine J_bind (fun x4 h5 => ?_)
  refine J_g 14 [] [(0, sl 8 (Pack.enc false) a1), (2, iv a3), (4, pp 0), (7, iv x4)] [(0, .box (Disk.enc false a2))] (orcC 2 (x_c0 [(.tmp 16), (.tmp 17)] [45, 3] (laws_szPackS.ok a1 1048576) h5) orcN) ?_
  refine J_g 60 [] [(0, sl 8 (Pack.enc false) a1), (2, iv a3), (4, pp 0), (7, iv x4), (20, bv (decide (x4 < 0)))] [(0, .box (Disk.enc false a2))] orcN ?_
  refine J_if2 20 (fun h6 => ?_) (fun h6 => ?_)
  · refine J_g 244 [] [(6, bv true)] [] orcN ?_
    exact J_r1 rfl
  · refine J_bind (fun x7 h8 => ?_)
    refine J_g 62 [] [(0, sl 8 (Pack.enc false) a1), (2, iv a3), (4, pp 0), (7, iv x7)] [(0, .box (Disk.enc false a2))] (orcC 2 (x_c0 [(.tmp 21), (.tmp 22)] [73, 3] (laws_szDisk.ok a2 x4) h8) orcN) ?_
    refine J_g 252 [] [(0, sl 8 (Pack.enc false) a1), (2, iv a3), (4, pp 0), (25, bv (decide (x7 < 0)))] [(0, .box (Disk.enc false a2))] orcN ?_
    refine J_if2 25 (fun h9 => ?_) (fun h9 => ?_)
    · refine J_g 1012 [] [(6, bv true)] [] orcN ?_
      exact J_r1 rfl
    · refine J_bind (fun x10 h11 => ?_)
      refine J_bind (fun x12 h13 => ?_)
      refine J_bind (fun x14 h15 => ?_)
      refine J_g 254 [(6, 4)] [(0, sl 8 (Pack.enc false) a1), (2, iv a3), (4, pp 0), (8, pp 4)] [(0, .box (Disk.enc false a2)), (3, rE 1 eI64 x14.Set), (4, .box [iv x14.Code, iv x14.At, rr 3 x14.Set])] (orcC 1 (x_c1 («as» := [sl 8 (Pack.enc false) a1]) [(.tmp 26)] [45] false [] [] (.cons (.same rfl) (.nil)) (laws_toPackS.ok a1) h11 (.own 1)) (orcC 3 (x_c1 («as» := [.ag (Disk.enc false a2)]) [(.tmp 28)] [73] false [] [] (.cons (.same rfl) (.nil)) (laws_toDisk.ok a2) h13 (.ag (.cons (.own 2) (.cons (.same rfl rfl) (.cons (.same rfl rfl) (.cons (.same rfl rfl) (.cons (.same rfl rfl) (.nil)))))))) (orcC 5 (x_c1 («as» := [rr 1 x10, .ag [rr 2 x12.Files, iv x12.Budget, iv x12.Writes, iv x12.Stop, bv x12.Down], iv a3]) [(.tmp 27), (.tmp 29), (.tmp 30)] [47, 29, 2] true [(1, rE 8 (Pack.enc true) x10), (2, rE 2 (File.enc true) x12.Files)] [] (.cons (am_b (.head _) (Pack.ro true) rfl) (.cons (.ag (.cons (am_b (.tail _ (.head _)) (File.ro true) rfl) (.cons (.same rfl) (.cons (.same rfl) (.cons (.same rfl) (.cons (.same rfl) (.nil))))))) (.cons (.same rfl) (.nil)))) (spec_SetOfGen.ok x10 x12 a3) h15 (.ag (.cons (.same rfl rfl) (.cons (.same rfl rfl) (.cons (.own 3) (.nil))))) (hbor := fun _ => ⟨rfl, (flat_ag (SetResult.fl _))⟩)) orcN))) ?_
      refine J_bind (fun x16 h17 => ?_)
      refine J_g 510 [] [(0, sl 8 (Pack.enc false) a1), (2, iv a3), (4, pp 0), (8, pp 4), (9, rr 5 x16)] [(0, .box (Disk.enc false a2)), (3, rE 1 eI64 x14.Set), (4, .box [iv x14.Code, iv x14.At, rr 3 x14.Set]), (5, rE 8 (Pack.enc true) x16)] (orcC 1 (x_c1 («as» := [sl 8 (Pack.enc false) a1]) [(.tmp 32)] [45] false [] [] (.cons (.same rfl) (.nil)) (laws_toPackS.ok a1) h17 (.own 5)) orcN) ?_
      refine J_bind (fun x18 h19 => ?_)
      refine J_g 1022 [(2, 7)] [(0, sl 8 (Pack.enc false) a1), (2, iv a3), (4, pp 0), (8, pp 4), (9, rr 5 x16), (10, pp 7)] [(0, .box (Disk.enc false a2)), (3, rE 1 eI64 x14.Set), (4, .box [iv x14.Code, iv x14.At, rr 3 x14.Set]), (5, rE 8 (Pack.enc true) x16), (6, rE 2 (File.enc true) x18.Files), (7, .box [rr 6 x18.Files, iv x18.Budget, iv x18.Writes, iv x18.Stop, bv x18.Down])] (orcC 1 (x_c1 («as» := [.ag (Disk.enc false a2)]) [(.tmp 34)] [73] false [] [] (.cons (.same rfl) (.nil)) (laws_toDisk.ok a2) h19 (.ag (.cons (.own 6) (.cons (.same rfl rfl) (.cons (.same rfl rfl) (.cons (.same rfl rfl) (.cons (.same rfl rfl) (.nil)))))))) orcN) ?_
      refine J_bind (fun x20 h21 => ?_)
      refine J_g 2046 [(4, 9)] [(0, sl 8 (Pack.enc false) a1), (2, iv a3), (4, pp 0), (8, pp 4), (9, rr 5 x16), (10, pp 7), (11, pp 9)] [(0, .box (Disk.enc false a2)), (3, rE 1 eI64 x14.Set), (4, .box [iv x14.Code, iv x14.At, rr 3 x14.Set]), (5, rE 8 (Pack.enc true) x16), (6, rE 2 (File.enc true) x18.Files), (7, .box [rr 6 x18.Files, iv x18.Budget, iv x18.Writes, iv x18.Stop, bv x18.Down]), (8, rE 1 eI64 x20.Set), (9, .box [iv x20.Code, iv x20.At, rr 8 x20.Set])] (orcC 3 (x_c1 («as» := [rr 5 x16, .ag [rr 6 x18.Files, iv x18.Budget, iv x18.Writes, iv x18.Stop, bv x18.Down], iv a3]) [(.tmp 36), (.tmp 37), (.tmp 38)] [47, 29, 2] true [(5, rE 8 (Pack.enc true) x16), (6, rE 2 (File.enc true) x18.Files)] [] (.cons (am_b (.head _) (Pack.ro true) rfl) (.cons (.ag (.cons (am_b (.tail _ (.head _)) (File.ro true) rfl) (.cons (.same rfl) (.cons (.same rfl) (.cons (.same rfl) (.cons (.same rfl) (.nil))))))) (.cons (.same rfl) (.nil)))) (impl_SetOfGen.ok x16 x18 a3) h21 (.ag (.cons (.same rfl rfl) (.cons (.same rfl rfl) (.cons (.own 8) (.nil))))) (hbor := fun _ => ⟨rfl, (flat_ag (SetResult.fl _))⟩)) orcN) ?_
      refine J_bind (fun x22 h23 => ?_)
      refine J_g 8188 [] [(0, sl 8 (Pack.enc false) a1), (2, iv a3), (4, pp 0), (8, pp 4), (9, rr 5 x16), (10, pp 7), (11, pp 9), (43, bv (!x22))] [(0, .box (Disk.enc false a2)), (3, rE 1 eI64 x14.Set), (4, .box [iv x14.Code, iv x14.At, rr 3 x14.Set]), (5, rE 8 (Pack.enc true) x16), (6, rE 2 (File.enc true) x18.Files), (7, .box [rr 6 x18.Files, iv x18.Budget, iv x18.Writes, iv x18.Stop, bv x18.Down]), (8, rE 1 eI64 x20.Set), (9, .box [iv x20.Code, iv x20.At, rr 8 x20.Set])] (orcC 2 (x_c1 («as» := [.ag [iv x20.Code, iv x20.At, rr 8 x20.Set], .ag [iv x14.Code, iv x14.At, rr 3 x14.Set]]) [(.tmp 40), (.tmp 41)] [85, 85] true [(8, rE 1 eI64 x20.Set), (3, rE 1 eI64 x14.Set)] [] (.cons (.ag (.cons (.same rfl) (.cons (.same rfl) (.cons (am_b (.head _) (fun _ => rfl) rfl) (.nil))))) (.cons (.ag (.cons (.same rfl) (.cons (.same rfl) (.cons (am_b (.tail _ (.head _)) (fun _ => rfl) rfl) (.nil))))) (.nil))) (laws_eqSetResult.ok x20 x14) h23 (.same rfl rfl) (hbor := fun _ => ⟨rfl, flat_sc⟩)) orcN) ?_
      refine J_if2 43 (fun h24 => ?_) (fun h24 => ?_)
      · refine J_g 32756 [] [(6, bv false)] [] orcN ?_
        exact J_r1 rfl
      · refine J_bind (fun x25 h26 => ?_)
        refine J_bind (fun x27 h28 => ?_)
        refine J_g 16380 [] [(0, sl 8 (Pack.enc false) a1), (2, iv a3), (4, pp 0), (8, pp 4), (9, rr 5 x16), (10, pp 7), (11, pp 9), (48, bv (!x27))] [(0, .box (Disk.enc false a2)), (3, rE 1 eI64 x14.Set), (4, .box [iv x14.Code, iv x14.At, rr 3 x14.Set]), (5, rE 8 (Pack.enc true) x16), (6, rE 2 (File.enc true) x18.Files), (7, .box [rr 6 x18.Files, iv x18.Budget, iv x18.Writes, iv x18.Stop, bv x18.Down]), (8, rE 1 eI64 x20.Set), (9, .box [iv x20.Code, iv x20.At, rr 8 x20.Set])] (orcC 2 (x_c1 («as» := [sl 8 (Pack.enc false) a1]) [(.tmp 45)] [45] false [] [] (.cons (.same rfl) (.nil)) (laws_toPackS.ok a1) h26 (.own 10)) (orcC 3 (x_c1 («as» := [rr 5 x16, rr 10 x25]) [(.tmp 44), (.tmp 46)] [47, 47] true [(5, rE 8 (Pack.enc true) x16), (10, rE 8 (Pack.enc true) x25)] [] (.cons (am_b (.head _) (Pack.ro true) rfl) (.cons (am_b (.tail _ (.head _)) (Pack.ro true) rfl) (.nil))) (laws_eqPackS.ok x16 x25) h28 (.same rfl rfl) (hbor := fun _ => ⟨rfl, flat_sc⟩)) orcN)) ?_
        refine J_if2 48 (fun h29 => ?_) (fun h29 => ?_)
        · refine J_g 65524 [] [(6, bv false)] [] orcN ?_
          exact J_r1 rfl
        · refine J_bind (fun x30 h31 => ?_)
          refine J_bind (fun x32 h33 => ?_)
          refine J_g 32764 [] [(0, sl 8 (Pack.enc false) a1), (2, iv a3), (4, pp 0), (8, pp 4), (9, rr 5 x16), (10, pp 7), (11, pp 9), (53, bv (!x32))] [(0, .box (Disk.enc false a2)), (3, rE 1 eI64 x14.Set), (4, .box [iv x14.Code, iv x14.At, rr 3 x14.Set]), (5, rE 8 (Pack.enc true) x16), (6, rE 2 (File.enc true) x18.Files), (7, .box [rr 6 x18.Files, iv x18.Budget, iv x18.Writes, iv x18.Stop, bv x18.Down]), (8, rE 1 eI64 x20.Set), (9, .box [iv x20.Code, iv x20.At, rr 8 x20.Set])] (orcC 2 (x_c1 («as» := [.ag (Disk.enc false a2)]) [(.tmp 50)] [73] false [] [] (.cons (.same rfl) (.nil)) (laws_toDisk.ok a2) h31 (.ag (.cons (.own 10) (.cons (.same rfl rfl) (.cons (.same rfl rfl) (.cons (.same rfl rfl) (.cons (.same rfl rfl) (.nil)))))))) (orcC 3 (x_c1 («as» := [.ag [rr 6 x18.Files, iv x18.Budget, iv x18.Writes, iv x18.Stop, bv x18.Down], .ag [rr 10 x30.Files, iv x30.Budget, iv x30.Writes, iv x30.Stop, bv x30.Down]]) [(.tmp 49), (.tmp 51)] [29, 29] true [(6, rE 2 (File.enc true) x18.Files), (10, rE 2 (File.enc true) x30.Files)] [] (.cons (.ag (.cons (am_b (.head _) (File.ro true) rfl) (.cons (.same rfl) (.cons (.same rfl) (.cons (.same rfl) (.cons (.same rfl) (.nil))))))) (.cons (.ag (.cons (am_b (.tail _ (.head _)) (File.ro true) rfl) (.cons (.same rfl) (.cons (.same rfl) (.cons (.same rfl) (.cons (.same rfl) (.nil))))))) (.nil))) (laws_eqDisk.ok x18 x30) h33 (.same rfl rfl) (hbor := fun _ => ⟨rfl, flat_sc⟩)) orcN)) ?_
          refine J_if2 53 (fun h34 => ?_) (fun h34 => ?_)
          · refine J_g 131060 [] [(6, bv false)] [] orcN ?_
            exact J_r1 rfl
          · refine J_g 32766 [] [(0, sl 8 (Pack.enc false) a1), (2, iv a3), (4, pp 0), (8, pp 4), (9, rr 5 x16), (10, pp 7), (11, pp 9), (12, iv 1)] [(0, .box (Disk.enc false a2)), (3, rE 1 eI64 x14.Set), (4, .box [iv x14.Code, iv x14.At, rr 3 x14.Set]), (5, rE 8 (Pack.enc true) x16), (6, rE 2 (File.enc true) x18.Files), (7, .box [rr 6 x18.Files, iv x18.Budget, iv x18.Writes, iv x18.Stop, bv x18.Down]), (8, rE 1 eI64 x20.Set), (9, .box [iv x20.Code, iv x20.At, rr 8 x20.Set])] orcN ?_
            refine J_bind (fun x35 h36 => ?_)
            refine J_g 65534 [] [(0, sl 8 (Pack.enc false) a1), (2, iv a3), (4, pp 0), (8, pp 4), (10, pp 7), (11, pp 9), (12, iv x35.1)] [(0, .box (Disk.enc false a2)), (3, rE 1 eI64 x14.Set), (4, .box [iv x14.Code, iv x14.At, rr 3 x14.Set]), (6, rE 2 (File.enc true) x18.Files), (7, .box [rr 6 x18.Files, iv x18.Budget, iv x18.Writes, iv x18.Stop, bv x18.Down]), (8, rE 1 eI64 x20.Set), (9, .box [iv x20.Code, iv x20.At, rr 8 x20.Set])] (orcC 2 (x_c1 («as» := [rr 5 x16, iv 1]) [(.tmp 54), (.tmp 55)] [47, 3] false [(5, rE 8 (Pack.enc true) x16)] [5] (.cons (.rf rfl) (.cons (.same rfl) (.nil))) (laws_markPackSr.ok x16 1) h36 (.same rfl rfl)) orcN) ?_
            refine J_bind (fun x37 h38 => ?_)
            refine J_g 131070 [] [(0, sl 8 (Pack.enc false) a1), (2, iv a3), (4, pp 0), (8, pp 4), (11, pp 9), (12, iv x37.1)] [(0, .box (Disk.enc false a2)), (3, rE 1 eI64 x14.Set), (4, .box [iv x14.Code, iv x14.At, rr 3 x14.Set]), (8, rE 1 eI64 x20.Set), (9, .box [iv x20.Code, iv x20.At, rr 8 x20.Set])] (orcC 2 (x_c1 («as» := [.ag [rr 6 x18.Files, iv x18.Budget, iv x18.Writes, iv x18.Stop, bv x18.Down], iv x35.1]) [(.tmp 57), (.tmp 58)] [29, 3] false [(6, rE 2 (File.enc true) x18.Files)] [6] (.cons (.ag (.cons (.rf rfl) (.cons (.same rfl) (.cons (.same rfl) (.cons (.same rfl) (.cons (.same rfl) (.nil))))))) (.cons (.same rfl) (.nil))) (laws_markDiskg.ok x18 x35.1) h38 (.same rfl rfl)) orcN) ?_
            refine J_join (atI c8 524285) (fun v42 : Bool => St.mk' [(0, sl 8 (Pack.enc false) a1), (2, iv a3), (4, pp 0), (8, pp 4), (11, pp 9), (67, bv v42)] [(0, .box (Disk.enc false a2)), (3, rE 1 eI64 x14.Set), (4, .box [iv x14.Code, iv x14.At, rr 3 x14.Set]), (8, rE 1 eI64 x20.Set), (9, .box [iv x20.Code, iv x20.At, rr 8 x20.Set])]) (fun v42 => ?_) (fun jv42 => ?_)
            · refine J_if2 67 (fun h43 => ?_) (fun h43 => ?_)
              · refine J_g 2097140 [] [(6, bv false)] [] orcN ?_
                exact J_r1 rfl
              · refine J_g 524286 [] [(0, sl 8 (Pack.enc false) a1), (2, iv a3), (4, pp 0), (8, pp 4), (11, pp 9), (13, iv 1)] [(0, .box (Disk.enc false a2)), (3, rE 1 eI64 x14.Set), (4, .box [iv x14.Code, iv x14.At, rr 3 x14.Set]), (8, rE 1 eI64 x20.Set), (9, .box [iv x20.Code, iv x20.At, rr 8 x20.Set])] orcN ?_
                refine J_bind (fun x44 h45 => ?_)
                refine J_g 1048574 [] [(0, sl 8 (Pack.enc false) a1), (2, iv a3), (4, pp 0), (8, pp 4), (11, pp 9), (13, iv x44.1)] [(0, .box (Disk.enc false a2)), (3, rE 1 eI64 x14.Set), (4, .box [iv x14.Code, iv x14.At, rr 3 x14.Set]), (8, rE 1 eI64 x44.2), (9, .box [iv x20.Code, iv x20.At, rr 8 x20.Set])] (orcC 2 (x_c1 («as» := [.ag [iv x20.Code, iv x20.At, rr 8 x20.Set], iv 1]) [(.tmp 68), (.tmp 69)] [85, 3] false [(8, rE 1 eI64 x20.Set)] [8] (.cons (.ag (.cons (.same rfl) (.cons (.same rfl) (.cons (.rf rfl) (.nil))))) (.cons (.same rfl) (.nil))) (laws_markSetResultg.ok x20 1) h45 (.same rfl rfl)) orcN) ?_
                refine J_bind (fun u46 h47 => ?_)
                refine J_st (σ' := St.mk' [(0, sl 8 (Pack.enc false) a1), (2, iv a3), (4, pp 0), (8, pp 4), (11, pp 9), (13, iv x44.1)] [(0, .box (Disk.enc false a2)), (3, rE 1 eI64 x14.Set), (4, .box [iv x14.Code, iv x14.At, rr 3 x14.Set]), (8, rE 1 eI64 x44.2), (9, .box [iv x20.Code, iv x20.At, rr 8 x44.2])]) (by simp only [rr, same_len h47]) ?_
                refine J_g 2097150 [] [(0, sl 8 (Pack.enc false) a1), (2, iv a3), (4, pp 0), (8, pp 4), (11, pp 9), (13, iv x44.1), (14, iv 1)] [(0, .box (Disk.enc false a2)), (3, rE 1 eI64 x14.Set), (4, .box [iv x14.Code, iv x14.At, rr 3 x14.Set]), (8, rE 1 eI64 x44.2), (9, .box [iv x20.Code, iv x20.At, rr 8 x44.2])] orcN ?_
                refine J_bind (fun x48 h49 => ?_)
                refine J_g 4194302 [] [(0, sl 8 (Pack.enc false) a1), (2, iv a3), (4, pp 0), (8, pp 4), (11, pp 9), (13, iv x44.1), (14, iv x48)] [(0, .box (Disk.enc false a2)), (3, rE 1 eI64 x14.Set), (4, .box [iv x14.Code, iv x14.At, rr 3 x14.Set]), (8, rE 1 eI64 x44.2), (9, .box [iv x20.Code, iv x20.At, rr 8 x44.2])] (orcC 2 (x_c1 («as» := [.ag [iv x20.Code, iv x20.At, rr 8 x44.2], iv 1]) [(.tmp 71), (.tmp 72)] [85, 3] true [(8, rE 1 eI64 x44.2)] [] (.cons (.ag (.cons (.same rfl) (.cons (.same rfl) (.cons (am_b (.head _) (fun _ => rfl) rfl) (.nil))))) (.cons (.same rfl) (.nil))) (laws_heldSetResult.ok ({ Code := x20.Code, At := x20.At, Set := x44.2 } : SetResult) 1) h49 (.same rfl rfl) (hbor := fun _ => ⟨rfl, flat_sc⟩)) orcN) ?_
                refine J_g 16777212 [] [(0, sl 8 (Pack.enc false) a1), (2, iv a3), (4, pp 0), (8, pp 4), (11, pp 9), (13, iv x44.1), (14, iv x48), (75, bv (decide (x48 < 0)))] [(0, .box (Disk.enc false a2)), (3, rE 1 eI64 x14.Set), (4, .box [iv x14.Code, iv x14.At, rr 3 x14.Set]), (8, rE 1 eI64 x44.2), (9, .box [iv x20.Code, iv x20.At, rr 8 x44.2])] orcN ?_
                refine J_if2 75 (fun h50 => ?_) (fun h50 => ?_)
                · refine J_g 67108852 [] [(6, bv false)] [] orcN ?_
                  exact J_r1 rfl
                · refine J_g 33554428 [] [(0, sl 8 (Pack.enc false) a1), (2, iv a3), (4, pp 0), (8, pp 4), (11, pp 9), (13, iv x44.1), (78, bv (x48 != x44.1))] [(0, .box (Disk.enc false a2)), (3, rE 1 eI64 x14.Set), (4, .box [iv x14.Code, iv x14.At, rr 3 x14.Set]), (8, rE 1 eI64 x44.2), (9, .box [iv x20.Code, iv x20.At, rr 8 x44.2])] orcN ?_
                  refine J_if2 78 (fun h51 => ?_) (fun h51 => ?_)
                  · refine J_g 134217716 [] [(6, bv false)] [] orcN ?_
                    exact J_r1 rfl
                  · refine J_bind (fun x52 h53 => ?_)
                    refine J_bind (fun x54 h55 => ?_)
                    refine J_bind (fun x56 h57 => ?_)
                    refine J_g 33554430 [(6, 13)] [(8, pp 4), (11, pp 9), (13, iv x44.1), (15, pp 13)] [(3, rE 1 eI64 x14.Set), (4, .box [iv x14.Code, iv x14.At, rr 3 x14.Set]), (8, rE 1 eI64 x44.2), (9, .box [iv x20.Code, iv x20.At, rr 8 x44.2]), (12, rE 1 eI64 x56.Set), (13, .box [iv x56.Code, iv x56.At, rr 12 x56.Set])] (orcC 1 (x_c1 («as» := [sl 8 (Pack.enc false) a1]) [(.tmp 79)] [45] false [] [] (.cons (.same rfl) (.nil)) (laws_toPackS.ok a1) h53 (.own 10)) (orcC 3 (x_c1 («as» := [.ag (Disk.enc false a2)]) [(.tmp 81)] [73] false [] [] (.cons (.same rfl) (.nil)) (laws_toDisk.ok a2) h55 (.ag (.cons (.own 11) (.cons (.same rfl rfl) (.cons (.same rfl rfl) (.cons (.same rfl rfl) (.cons (.same rfl rfl) (.nil)))))))) (orcC 5 (x_c1 («as» := [rr 10 x52, .ag [rr 11 x54.Files, iv x54.Budget, iv x54.Writes, iv x54.Stop, bv x54.Down], iv a3]) [(.tmp 80), (.tmp 82), (.tmp 83)] [47, 29, 2] true [(10, rE 8 (Pack.enc true) x52), (11, rE 2 (File.enc true) x54.Files)] [] (.cons (am_b (.head _) (Pack.ro true) rfl) (.cons (.ag (.cons (am_b (.tail _ (.head _)) (File.ro true) rfl) (.cons (.same rfl) (.cons (.same rfl) (.cons (.same rfl) (.cons (.same rfl) (.nil))))))) (.cons (.same rfl) (.nil)))) (impl_SetOfGen.ok x52 x54 a3) h57 (.ag (.cons (.same rfl rfl) (.cons (.same rfl rfl) (.cons (.own 12) (.nil))))) (hbor := fun _ => ⟨rfl, (flat_ag (SetResult.fl _))⟩)) orcN))) ?_
                    refine J_bind (fun x58 h59 => ?_)
                    refine J_g 134217724 [] [(11, pp 9), (13, iv x44.1), (88, bv (!x58))] [(8, rE 1 eI64 x44.2), (9, .box [iv x20.Code, iv x20.At, rr 8 x44.2])] (orcC 2 (x_c1 («as» := [.ag [iv x56.Code, iv x56.At, rr 12 x56.Set], .ag [iv x14.Code, iv x14.At, rr 3 x14.Set]]) [(.tmp 85), (.tmp 86)] [85, 85] true [(12, rE 1 eI64 x56.Set), (3, rE 1 eI64 x14.Set)] [] (.cons (.ag (.cons (.same rfl) (.cons (.same rfl) (.cons (am_b (.head _) (fun _ => rfl) rfl) (.nil))))) (.cons (.ag (.cons (.same rfl) (.cons (.same rfl) (.cons (am_b (.tail _ (.head _)) (fun _ => rfl) rfl) (.nil))))) (.nil))) (laws_eqSetResult.ok x56 x14) h59 (.same rfl rfl) (hbor := fun _ => ⟨rfl, flat_sc⟩)) orcN) ?_
                    refine J_if2 88 (fun h60 => ?_) (fun h60 => ?_)
                    · refine J_g 536870900 [] [(6, bv false)] [] orcN ?_
                      exact J_r1 rfl
                    · refine J_g 134217726 [] [(11, pp 9), (13, iv x44.1), (14, iv 1)] [(8, rE 1 eI64 x44.2), (9, .box [iv x20.Code, iv x20.At, rr 8 x44.2])] orcN ?_
                      refine J_bind (fun x61 h62 => ?_)
                      refine J_g 268435454 [] [(13, iv x44.1), (14, iv x61)] [] (orcC 2 (x_c1 («as» := [.ag [iv x20.Code, iv x20.At, rr 8 x44.2], iv 1]) [(.tmp 89), (.tmp 90)] [85, 3] true [(8, rE 1 eI64 x44.2)] [] (.cons (.ag (.cons (.same rfl) (.cons (.same rfl) (.cons (am_b (.head _) (fun _ => rfl) rfl) (.nil))))) (.cons (.same rfl) (.nil))) (laws_heldSetResult.ok ({ Code := x20.Code, At := x20.At, Set := x44.2 } : SetResult) 1) h62 (.same rfl rfl) (hbor := fun _ => ⟨rfl, flat_sc⟩)) orcN) ?_
                      refine J_g 1073741820 [] [(13, iv x44.1), (14, iv x61), (93, bv (decide (x61 < 0)))] [] orcN ?_
                      refine J_if2 93 (fun h63 => ?_) (fun h63 => ?_)
                      · refine J_g 4294967284 [] [(6, bv false)] [] orcN ?_
                        exact J_r1 rfl
                      · refine J_g 2147483644 [] [(96, bv (x61 != x44.1))] [] orcN ?_
                        refine J_if2 96 (fun h64 => ?_) (fun h64 => ?_)
                        · refine J_g 8589934580 [] [(6, bv false)] [] orcN ?_
                          exact J_r1 rfl
                        · refine J_g 2147483646 [] [(6, bv true)] [] orcN ?_
                          exact J_r1 rfl
            · refine J_ite (fun h39 => ?_) (fun h39 => ?_)
              · refine J_g 524284 [] [(0, sl 8 (Pack.enc false) a1), (2, iv a3), (4, pp 0), (8, pp 4), (11, pp 9), (67, bv true)] [(0, .box (Disk.enc false a2)), (3, rE 1 eI64 x14.Set), (4, .box [iv x14.Code, iv x14.At, rr 3 x14.Set]), (8, rE 1 eI64 x20.Set), (9, .box [iv x20.Code, iv x20.At, rr 8 x20.Set])] (orcL 2 [(61, bv (decide (x37.1 < 0)))] [] h39 orcN) ?_
                exact J_qw (J_j (jv42 true)) rfl
              · refine J_bind (fun x40 h41 => ?_)
                refine J_g 524284 [] [(0, sl 8 (Pack.enc false) a1), (2, iv a3), (4, pp 0), (8, pp 4), (11, pp 9), (67, bv (!x40))] [(0, .box (Disk.enc false a2)), (3, rE 1 eI64 x14.Set), (4, .box [iv x14.Code, iv x14.At, rr 3 x14.Set]), (8, rE 1 eI64 x20.Set), (9, .box [iv x20.Code, iv x20.At, rr 8 x20.Set])] (orcL 2 [(61, bv (decide (x37.1 < 0)))] [] h39 (orcH 5 2 62 false (x_c1 («as» := [.ag [iv x20.Code, iv x20.At, rr 8 x20.Set], .ag [iv x14.Code, iv x14.At, rr 3 x14.Set]]) [(.tmp 63), (.tmp 64)] [85, 85] true [(8, rE 1 eI64 x20.Set), (3, rE 1 eI64 x14.Set)] [] (.cons (.ag (.cons (.same rfl) (.cons (.same rfl) (.cons (am_b (.head _) (fun _ => rfl) rfl) (.nil))))) (.cons (.ag (.cons (.same rfl) (.cons (.same rfl) (.cons (am_b (.tail _ (.head _)) (fun _ => rfl) rfl) (.nil))))) (.nil))) (laws_eqSetResult.ok x20 x14) h41 (.same rfl rfl) (hbor := fun _ => ⟨rfl, flat_sc⟩)) orcN)) ?_
                exact J_qw (J_j (jv42 (!x40))) rfl

end Go.Told

import Derived.Test.YtedpgkmkdhlcaaaToldAsksWithout
import Derived.Test.YtedpgkmkdhlcaaaProg
set_option linter.unusedVariables false
set_option maxRecDepth 4000
namespace Go.Told
open Go Go.Im Go.Proofs

noncomputable def c19 : Code := (Try.f19.body).getD .skip

theorem laws_szTerm.ok (a1 : Term) (a2 : Int) : Ok Try.prog 19 [.ag (Term.enc a1), iv a2] [] ((laws_szTerm a1 a2).map fun r => (iv r, [])) := by
  refine Ok_of3 c19 Try.f19 0 13 (fun q => ?_)
  unfold laws_szTerm
  refine J_g 2 [(0, 0)] [(1, iv a2), (2, pp 0)] [(0, .box (Term.enc a1))] orcN ?_
  refine J_g 6 [] [(1, iv (w64 (a2 - (a1.Name.size : Int))))] [] orcN ?_
  refine J_g 28 [] [(1, iv (w64 (a2 - (a1.Name.size : Int)))), (11, bv (decide ((w64 (a2 - (a1.Name.size : Int))) < 0)))] [] orcN ?_
  refine J_if2 11 (fun h3 => ?_) (fun h3 => ?_)
  · refine J_g 116 [] [(4, iv (-1))] [] orcN ?_
    exact J_r1 rfl
  · refine J_g 30 [] [(4, iv (w64 (a2 - (a1.Name.size : Int))))] [] orcN ?_
    exact J_r1 rfl

noncomputable def c18 : Code := (Try.f18.body).getD .skip

theorem laws_szTermS_l1.ok (a1 : (List Term)) (q : Wd) (kn : Int → Option (D × List Ent)) (hk : ∀ v : Int, J (q.g Try.prog 18 0 27) c18 (atI c18 31) (St.mk' [(1, iv v)] []) (some v) kn) :
    ∀ s10 : (Int × Int), J (q.g Try.prog 18 0 27) c18 (atI c18 244) (St.mk' [(0, sl 7 Term.enc a1), (1, iv s10.1), (5, iv s10.2)] []) (laws_szTermS_l1 a1 s10) (Fl.go (fun r : Int => some (iv r, [])) kn) := by
  refine J_lp (fun g ih s10 => ?_)
  unfold laws_szTermS_l1b
  refine J_g 976 [] [(0, sl 7 Term.enc a1), (1, iv s10.1), (5, iv s10.2), (15, bv (decide (s10.2 < (a1.length : Int))))] [] orcN ?_
  refine J_if2 15 (fun h11 => ?_) (fun h11 => ?_)
  · refine J_bind (fun x12 h13 => ?_)
    refine J_bind (fun x14 h15 => ?_)
    refine J_g 3912 [] [(0, sl 7 Term.enc a1), (1, iv x14), (5, iv s10.2)] [] (orcC 2 (x_ix (kk := .i64) 31 35 7 Term.enc (.tmp 18) (.tmp 19) h13) (orcC 5 (x_c0 [(.tmp 21), (.tmp 22)] [35, 3] (laws_szTerm.ok x12 s10.1) h15) orcN)) ?_
    refine J_g 7826 [] [(0, sl 7 Term.enc a1), (1, iv x14), (5, iv s10.2), (25, bv (decide (x14 < 0)))] [] orcN ?_
    refine J_if2 25 (fun h16 => ?_) (fun h16 => ?_)
    · refine J_g 31308 [] [(4, iv (-1))] [] orcN ?_
      exact J_r1 rfl
    · refine J_g 979 [] [(0, sl 7 Term.enc a1), (1, iv x14), (5, iv (w64 (s10.2 + 1)))] [] orcN ?_
      exact J_q (J_b (ih (x14, w64 (s10.2 + 1)))) rfl
  · exact J_qw (hk s10.1) rfl

theorem laws_szTermS.ok (a1 : (List Term)) (a2 : Int) : Ok Try.prog 18 [sl 7 Term.enc a1, iv a2] [] ((laws_szTermS a1 a2).map fun r => (iv r, [])) := by
  refine Ok_of3 c18 Try.f18 0 27 (fun q => ?_)
  unfold laws_szTermS
  refine J_g 2 [] [(0, sl 7 Term.enc a1), (1, iv a2)] [] orcN ?_
  refine J_g 6 [] [(0, sl 7 Term.enc a1), (1, iv (w64 (a2 - (a1.length : Int))))] [] orcN ?_
  refine J_g 28 [] [(0, sl 7 Term.enc a1), (1, iv (w64 (a2 - (a1.length : Int)))), (11, bv (decide ((w64 (a2 - (a1.length : Int))) < 0)))] [] orcN ?_
  refine J_if2 11 (fun h3 => ?_) (fun h3 => ?_)
  · refine J_g 116 [] [(4, iv (-1))] [] orcN ?_
    exact J_r1 rfl
  · refine J_g 60 [] [(0, sl 7 Term.enc a1), (1, iv (w64 (a2 - (a1.length : Int)))), (5, iv 0)] [] orcN ?_
    refine J_lqF (K0 := (fun r : Int => some (iv r, []))) (fun _ => rfl) (laws_szTermS_l1.ok a1 q _ (fun v17 => J_j ?_) (w64 (a2 - (a1.length : Int)), 0))
    refine J_g 62 [] [(4, iv v17)] [] orcN ?_
    exact J_r1 rfl

noncomputable def c62 : Code := (Try.f62.body).getD .skip

theorem laws_toVersion.ok (a1 : Version) : Ok Try.prog 62 [.ag (Version.enc a1)] [] ((laws_toVersion a1).map fun r => (.ag (Version.enc r), [])) := by
  refine Ok_of3 c62 Try.f62 0 14 (fun q => ?_)
  unfold laws_toVersion
  refine J_g 2 [(0, 0), (1, 1)] [(1, pp 0), (2, pp 1)] [(0, .box (Version.enc a1)), (1, .box [iv 0, iv 0, iv 0])] orcN ?_
  refine J_g 6 [(0, 2)] [(1, pp 0), (2, pp 1), (3, pp 2)] [(0, .box (Version.enc a1)), (1, .box [iv 0, iv 0, iv 0]), (2, .box [iv 0, iv 0, iv 0])] orcN ?_
  refine J_g 14 [] [(1, pp 0), (2, pp 1), (3, pp 2)] [(0, .box (Version.enc a1)), (1, .box [iv 0, iv 0, iv 0]), (2, .box [iv a1.A, iv 0, iv 0])] orcN ?_
  refine J_g 30 [] [(1, pp 0), (2, pp 1), (3, pp 2)] [(0, .box (Version.enc a1)), (1, .box [iv 0, iv 0, iv 0]), (2, .box [iv a1.A, iv a1.B, iv 0])] orcN ?_
  refine J_g 62 [] [(2, pp 1), (3, pp 2)] [(1, .box [iv 0, iv 0, iv 0]), (2, .box (Version.enc a1))] orcN ?_
  refine J_g 126 [] [(2, pp 1)] [(1, .box (Version.enc a1))] orcN ?_
  exact J_r1 rfl

noncomputable def c22 : Code := (Try.f22.body).getD .skip

theorem laws_toTerm.ok (a1 : Term) : Ok Try.prog 22 [.ag (Term.enc a1)] [] ((laws_toTerm a1).map fun r => (.ag (Term.enc r), [])) := by
  refine Ok_of3 c22 Try.f22 0 16 (fun q => ?_)
  unfold laws_toTerm
  refine J_g 2 [(0, 0), (1, 1)] [(1, pp 0), (2, pp 1)] [(0, .box (Term.enc a1)), (1, .box [sv ByteArray.empty, iv 0, iv 0, iv 0, iv 0, iv 0, iv 0])] orcN ?_
  refine J_g 6 [(0, 2)] [(1, pp 0), (2, pp 1), (3, pp 2)] [(0, .box (Term.enc a1)), (1, .box [sv ByteArray.empty, iv 0, iv 0, iv 0, iv 0, iv 0, iv 0]), (2, .box [sv ByteArray.empty, iv 0, iv 0, iv 0, iv 0, iv 0, iv 0])] orcN ?_
  refine J_g 14 [] [(1, pp 0), (2, pp 1), (3, pp 2)] [(0, .box (Term.enc a1)), (1, .box [sv ByteArray.empty, iv 0, iv 0, iv 0, iv 0, iv 0, iv 0]), (2, .box [sv a1.Name, iv 0, iv 0, iv 0, iv 0, iv 0, iv 0])] orcN ?_
  refine J_bind (fun x2 h3 => ?_)
  refine J_g 30 [] [(1, pp 0), (2, pp 1), (3, pp 2)] [(0, .box (Term.enc a1)), (1, .box [sv ByteArray.empty, iv 0, iv 0, iv 0, iv 0, iv 0, iv 0]), (2, .box [sv a1.Name, iv x2.A, iv x2.B, iv x2.C, iv 0, iv 0, iv 0])] (orcC 2 (x_c0 [(.tmp 8)] [33] (laws_toVersion.ok a1.Low) h3) orcN) ?_
  refine J_bind (fun x4 h5 => ?_)
  refine J_g 62 [] [(2, pp 1), (3, pp 2)] [(1, .box [sv ByteArray.empty, iv 0, iv 0, iv 0, iv 0, iv 0, iv 0]), (2, .box [sv a1.Name, iv x2.A, iv x2.B, iv x2.C, iv x4.A, iv x4.B, iv x4.C])] (orcC 2 (x_c0 [(.tmp 12)] [33] (laws_toVersion.ok a1.High) h5) orcN) ?_
  refine J_g 126 [] [(2, pp 1)] [(1, .box [sv a1.Name, iv x2.A, iv x2.B, iv x2.C, iv x4.A, iv x4.B, iv x4.C])] orcN ?_
  exact J_r1 rfl

noncomputable def c21 : Code := (Try.f21.body).getD .skip

theorem laws_toTermS_l1.ok (a1 : (List Term)) (q : Wd) (kn : (List Term) → Option (D × List Ent)) (hk : ∀ v : (List Term), J (q.g Try.prog 21 0 23) c21 (atI c21 15) (St.mk' [(3, rr 0 v)] [(0, rE 7 Term.enc v)]) (some v) kn) :
    ∀ s11 : ((List Term) × Int), J (q.g Try.prog 21 0 23) c21 (atI c21 116) (St.mk' [(0, sl 7 Term.enc a1), (3, rr 0 s11.1), (4, iv s11.2)] [(0, rE 7 Term.enc s11.1)]) (laws_toTermS_l1 a1 s11) kn := by
  refine J_lp (fun g ih s11 => ?_)
  unfold laws_toTermS_l1b
  refine J_g 464 [] [(0, sl 7 Term.enc a1), (3, rr 0 s11.1), (4, iv s11.2), (11, bv (decide (s11.2 < (a1.length : Int))))] [(0, rE 7 Term.enc s11.1)] orcN ?_
  refine J_if2 11 (fun h12 => ?_) (fun h12 => ?_)
  · refine J_bind (fun x13 h14 => ?_)
    refine J_bind (fun x15 h16 => ?_)
    refine J_bind (fun x17 h18 => ?_)
    refine J_g 932 [] [(0, sl 7 Term.enc a1), (3, rr 0 s11.1), (4, iv s11.2)] [(0, rE 7 Term.enc (s11.1.set s11.2.toNat x15))] (orcC 4 (x_ix (kk := .i64) 31 35 7 Term.enc (.tmp 16) (.tmp 17) h14) (orcC 6 (x_c0 [(.tmp 19)] [35] (laws_toTerm.ok x13) h16) (orcC 7 (x_ixr (kk := .i64) 38 43 7 0 Term.enc (.tmp 14) (.tmp 15) h18) (orcD 8 (x_st (b := x15) 43 7 0 0 Term.enc (.ag (Term.enc x15)) (.tmp 21) (.tmp 20) h18 rfl) orcN)))) ?_
    refine J_st (σ' := St.mk' [(0, sl 7 Term.enc a1), (3, rr 0 (s11.1.set s11.2.toNat x15)), (4, iv s11.2)] [(0, rE 7 Term.enc (s11.1.set s11.2.toNat x15))]) (by simp only [rr, List.length_set]) ?_
    refine J_g 467 [] [(0, sl 7 Term.enc a1), (3, rr 0 (s11.1.set s11.2.toNat x15)), (4, iv (w64 (s11.2 + 1)))] [(0, rE 7 Term.enc (s11.1.set s11.2.toNat x15))] orcN ?_
    exact J_q (J_b (ih (s11.1.set s11.2.toNat x15, w64 (s11.2 + 1)))) rfl
  · exact J_qw (hk s11.1) rfl

theorem laws_toTermS.ok (a1 : (List Term)) : Ok Try.prog 21 [sl 7 Term.enc a1] [] ((laws_toTermS a1).map fun r => (so 7 Term.enc r, [])) := by
  refine Ok_of3 c21 Try.f21 0 23 (fun q => ?_)
  unfold laws_toTermS
  refine J_g 2 [] [(0, sl 7 Term.enc a1)] [] orcN ?_
  refine J_bind (fun x2 h3 => ?_)
  refine J_g 6 [] [(0, sl 7 Term.enc a1), (3, rr 0 x2)] [(0, rE 7 Term.enc x2)] (orcC 2 (x_mk 38 43 7 64 0 Term.enc ({ Name := ByteArray.empty, Low := ({ A := 0, B := 0, C := 0 } : Version), High := ({ A := 0, B := 0, C := 0 } : Version) } : Term) (.tmp 6) h3 (.keep rfl (.keep rfl (.keep rfl (.keep rfl (.keep rfl (.keep rfl (.keep rfl (.nil))))))))) orcN) ?_
  refine J_g 28 [] [(0, sl 7 Term.enc a1), (3, rr 0 x2), (4, iv 0)] [(0, rE 7 Term.enc x2)] orcN ?_
  refine J_lq (laws_toTermS_l1.ok a1 q _ (fun v19 => J_j ?_) (x2, 0))
  refine J_g 30 [] [(2, rr 0 v19)] [(0, rE 7 Term.enc v19)] orcN ?_
  exact J_rm (ds := [rr 0 v19]) (ds' := [so 7 Term.enc v19]) (.cons (.cell (.move (.head _) (List.length_map _) (by decide) (.nil))) (.nil) (by decide)) rfl

noncomputable def c27 : Code := (Try.f27.body).getD .skip

theorem spec_AsksWithout_l1.ok (a1 : (List Term)) (a2 : ByteArray) (q : Wd) (kn : (List Term) → Option (D × List Ent)) (hk : ∀ v : (List Term), J (q.g Try.prog 27 0 29) c27 (atI c27 15) (St.mk' [(5, rr 0 v)] [(0, rE 7 Term.enc v)]) (some v) kn) :
    ∀ s12 : ((List Term) × Int), J (q.g Try.prog 27 0 29) c27 (atI c27 116) (St.mk' [(0, sl 7 Term.enc a1), (1, sv a2), (5, rr 0 s12.1), (6, iv s12.2)] [(0, rE 7 Term.enc s12.1)]) (spec_AsksWithout_l1 a1 a2 s12) kn := by
  refine J_lp (fun g ih s12 => ?_)
  unfold spec_AsksWithout_l1b
  refine J_g 464 [] [(0, sl 7 Term.enc a1), (1, sv a2), (5, rr 0 s12.1), (6, iv s12.2), (11, bv (decide (s12.2 < (a1.length : Int))))] [(0, rE 7 Term.enc s12.1)] orcN ?_
  refine J_if2 11 (fun h13 => ?_) (fun h13 => ?_)
  · refine J_bind (fun x14 h15 => ?_)
    refine J_g 1864 [] [(0, sl 7 Term.enc a1), (1, sv a2), (5, rr 0 s12.1), (6, iv s12.2), (20, bv (!(seq x14.Name a2)))] [(0, rE 7 Term.enc s12.1)] (orcC 2 (x_ix (kk := .i64) 38 43 7 Term.enc (.tmp 14) (.tmp 15) h15) orcN) ?_
    refine J_join (aft c27 932) (fun v21 : (List Term) => St.mk' [(0, sl 7 Term.enc a1), (1, sv a2), (5, rr 2 v21), (6, iv s12.2)] [(2, rE 7 Term.enc v21)]) (fun v21 => ?_) (fun jv21 => ?_)
    · refine J_g 467 [] [(0, sl 7 Term.enc a1), (1, sv a2), (5, rr 2 v21), (6, iv (w64 (s12.2 + 1)))] [(2, rE 7 Term.enc v21)] orcN ?_
      refine J_ren 2 0 (Nat.le_of_ble_eq_true rfl) (Nat.le_of_ble_eq_true rfl) ?_
      exact J_q (J_b (ih (v21, w64 (s12.2 + 1)))) rfl
    · refine J_if2 20 (fun h16 => ?_) (fun h16 => ?_)
      · refine J_bind (fun x17 h18 => ?_)
        refine J_bind (fun x19 h20 => ?_)
        refine J_g 3730 [] [(0, sl 7 Term.enc a1), (1, sv a2), (5, rr 2 x19), (6, iv s12.2)] [(2, rE 7 Term.enc x19)] (orcC 3 (x_ix (kk := .i64) 38 43 7 Term.enc (.tmp 22) (.tmp 23) h18) (orcC 5 (x_bp 38 43 7 1 Term.enc [x17] [0] [(.tmp 25)] [.ag (Term.enc x17)]) (orcC 6 (x_ap 38 38 43 43 7 64 2 0 1 Term.enc (.tmp 21) (.tmp 26) h20) orcN))) ?_
        exact J_qw (J_j (jv21 x19)) rfl
      · refine J_ren 0 2 (Nat.le_of_ble_eq_true rfl) (Nat.le_of_ble_eq_true rfl) ?_
        exact J_qw (J_j (jv21 s12.1)) rfl
  · exact J_qw (hk s12.1) rfl

theorem spec_AsksWithout.ok (a1 : (List Term)) (a2 : ByteArray) : Ok Try.prog 27 [sl 7 Term.enc a1, sv a2] [] ((spec_AsksWithout a1 a2).map fun r => (so 7 Term.enc r, [])) := by
  refine Ok_of3 c27 Try.f27 0 29 (fun q => ?_)
  unfold spec_AsksWithout
  refine J_g 2 [] [(0, sl 7 Term.enc a1), (1, sv a2)] [] orcN ?_
  refine J_g 6 [] [(0, sl 7 Term.enc a1), (1, sv a2), (5, rr 0 ([] : List Term))] [(0, rE 7 Term.enc ([] : List Term))] (orcC 0 (x_bp 38 43 7 0 Term.enc ([] : List Term) [] [] []) orcN) ?_
  refine J_g 28 [] [(0, sl 7 Term.enc a1), (1, sv a2), (5, rr 0 ([] : List Term)), (6, iv 0)] [(0, rE 7 Term.enc ([] : List Term))] orcN ?_
  refine J_lq (spec_AsksWithout_l1.ok a1 a2 q _ (fun v22 => J_j ?_) (([] : List Term), 0))
  refine J_g 30 [] [(4, rr 0 v22)] [(0, rE 7 Term.enc v22)] orcN ?_
  exact J_rm (ds := [rr 0 v22]) (ds' := [so 7 Term.enc v22]) (.cons (.cell (.move (.head _) (List.length_map _) (by decide) (.nil))) (.nil) (by decide)) rfl

noncomputable def c66 : Code := (Try.f66.body).getD .skip

theorem slices_Clone_LimplTerm.ok (a1 : (List Term)) : Ok Try.prog 66 [sl 7 Term.enc a1] [] ((slices_Clone_LimplTerm a1).map fun r => (so 7 Term.enc r, [])) := by
  refine Ok_of3 c66 Try.f66 0 8 (fun q => ?_)
  unfold slices_Clone_LimplTerm
  refine J_g 2 [] [(0, sl 7 Term.enc a1)] [] orcN ?_
  refine J_g 12 [] [(0, sl 7 Term.enc a1), (4, .nb a1.length)] [] (orcC 1 (x_nileq (xs := a1) 38 43 38 7 Term.enc (.tmp 3)) orcN) ?_
  refine J_nb 4 rfl (fun h2 => ?_) ?_
  · obtain rfl : a1 = [] := List.eq_nil_of_length_eq_zero h2
    refine J_told (e' := some ([] : List Term)) (by kernel_rfl) ?_
    refine J_g 52 [] [(2, nv)] [] orcN ?_
    exact J_rm (ds := [nv]) (ds' := [so 7 Term.enc ([] : List Term)]) (.cons (.cell (.nilsl true 7 (.nil))) (.nil) (by decide)) rfl
  · refine J_bind (fun x3 h4 => ?_)
    refine J_g 14 [] [(2, rr 1 x3)] [(1, rE 7 Term.enc x3)] (orcC 0 (x_bp 38 43 7 0 Term.enc ([] : List Term) [] [] []) (orcC 2 (x_aps 38 38 43 43 7 64 1 0 Term.enc (.tmp 5) (.tmp 6) h4) orcN)) ?_
    exact J_rm (ds := [rr 1 x3]) (ds' := [so 7 Term.enc x3]) (.cons (.cell (.move (.head _) (List.length_map _) (by decide) (.nil))) (.nil) (by decide)) rfl

noncomputable def c67 : Code := (Try.f67.body).getD .skip

theorem impl_AsksWithout_1.ok (a1 : Term) (a2 : ByteArray) : Ok Try.prog 67 [.ag (Term.enc a1), pp 0] [.box [sv a2]] ((impl_AsksWithout_1 a1 a2).map fun r => (bv r, [.box [sv a2]])) := by
  refine Ok_of3 c67 Try.f67 1 8 (fun q => ?_)
  unfold impl_AsksWithout_1
  refine J_g 2 [(0, 1)] [(1, pp 0), (2, pp 1)] [(0, .box [sv a2]), (1, .box (Term.enc a1))] orcN ?_
  refine J_g 6 [] [(3, bv (seq a1.Name a2))] [(0, .box [sv a2])] orcN ?_
  exact J_r1 rfl

noncomputable def c104 : Code := (Try.f104.body).getD .skip

theorem slices_IndexFunc_LimplTermr_impl_AsksWithout_1_l1.ok (a1 : (List Term)) (a2 : ByteArray) (q : Wd) (kn : Unit → Option (D × List Ent)) (hk : ∀ v : Unit, J (q.g Try.prog 104 2 19) c104 (atI c104 7) (St.mk' [] [(0, rE 7 Term.enc a1), (1, .box [sv a2])]) (some v) kn) :
    ∀ s9 : Int, J (q.g Try.prog 104 2 19) c104 (atI c104 52) (St.mk' [(0, rr 0 a1), (1, .fn 67 [pp 1]), (7, iv (a1.length : Int)), (8, iv s9)] [(0, rE 7 Term.enc a1), (1, .box [sv a2])]) (slices_IndexFunc_LimplTermr_impl_AsksWithout_1_l1 a1 a2 s9) (Fl.go (fun r : Int => some (iv r, [rE 7 Term.enc a1, .box [sv a2]])) kn) := by
  refine J_lp (fun g ih s9 => ?_)
  unfold slices_IndexFunc_LimplTermr_impl_AsksWithout_1_l1b
  refine J_g 104 [] [(0, rr 0 a1), (1, .fn 67 [pp 1]), (7, iv (a1.length : Int)), (8, iv s9), (9, bv (decide (s9 < (a1.length : Int))))] [(0, rE 7 Term.enc a1), (1, .box [sv a2])] orcN ?_
  refine J_if2 9 (fun h10 => ?_) (fun h10 => ?_)
  · refine J_g 1688 [] [(0, rr 0 a1), (1, .fn 67 [pp 1]), (5, iv s9), (7, iv (a1.length : Int)), (8, iv s9)] [(0, rE 7 Term.enc a1), (1, .box [sv a2])] orcN ?_
    refine J_bind (fun x11 h12 => ?_)
    refine J_bind (fun x13 h14 => ?_)
    refine J_g 3378 [] [(0, rr 0 a1), (1, .fn 67 [pp 1]), (5, iv s9), (7, iv (a1.length : Int)), (8, iv s9), (16, bv x13)] [(0, rE 7 Term.enc a1), (1, .box [sv a2])] (orcC 3 (x_ixr (kk := .i64) 38 43 7 0 Term.enc (.tmp 12) (.tmp 13) h12) (orcC 4 (x_ldr (d := .ag (Term.enc x11)) 43 7 0 0 Term.enc (.tmp 14) h12 (by kernel_rfl)) (orcC 5 (x_ro [(1, .box [sv a2])] [] (x_c1v 11 [(.tmp 15)] [43] false [(1, .box [sv a2])] [1] [.ag (Term.enc x11)] [pp 1] (.cons (.same rfl) (.cons (.pt rfl) (.nil))) (impl_AsksWithout_1.ok x11 a2) h14 (.same rfl rfl))) orcN))) ?_
    refine J_if2 16 (fun h15 => ?_) (fun h15 => ?_)
    · refine J_g 13516 [] [(4, iv s9)] [(0, rE 7 Term.enc a1), (1, .box [sv a2])] orcN ?_
      exact J_r1 rfl
    · refine J_g 423 [] [(0, rr 0 a1), (1, .fn 67 [pp 1]), (7, iv (a1.length : Int)), (8, iv (w64 (s9 + 1)))] [(0, rE 7 Term.enc a1), (1, .box [sv a2])] orcN ?_
      exact J_q (J_b (ih (w64 (s9 + 1)))) rfl
  · exact J_qw (hk ()) rfl

theorem slices_IndexFunc_LimplTermr_impl_AsksWithout_1.ok (a1 : (List Term)) (a2 : ByteArray) : Ok Try.prog 104 [rr 0 a1, .fn 67 [pp 1]] [rE 7 Term.enc a1, .box [sv a2]] ((slices_IndexFunc_LimplTermr_impl_AsksWithout_1 a1 a2).map fun r => (iv r, [rE 7 Term.enc a1, .box [sv a2]])) := by
  refine Ok_of3 c104 Try.f104 2 19 (fun q => ?_)
  unfold slices_IndexFunc_LimplTermr_impl_AsksWithout_1
  refine J_g 2 [] [(0, rr 0 a1), (1, .fn 67 [pp 1])] [(0, rE 7 Term.enc a1), (1, .box [sv a2])] orcN ?_
  refine J_g 12 [] [(0, rr 0 a1), (1, .fn 67 [pp 1]), (7, iv (a1.length : Int)), (8, iv 0)] [(0, rE 7 Term.enc a1), (1, .box [sv a2])] orcN ?_
  refine J_lqF (K0 := (fun r : Int => some (iv r, [rE 7 Term.enc a1, .box [sv a2]]))) (fun _ => rfl) (slices_IndexFunc_LimplTermr_impl_AsksWithout_1_l1.ok a1 a2 q _ (fun v16 => J_j ?_) 0)
  refine J_g 14 [] [(4, iv (-1))] [(0, rE 7 Term.enc a1), (1, .box [sv a2])] orcN ?_
  exact J_r1 rfl

noncomputable def c65 : Code := (Try.f65.body).getD .skip

theorem slices_DeleteFunc_LimplTermr_impl_AsksWithout_1_l1.ok (a2 : ByteArray) (q : Wd) (kn : ((List Term) × Int) → Option (D × List Ent)) (hk : ∀ v : ((List Term) × Int), J (q.g Try.prog 65 2 42) c65 (atI c65 31) (St.mk' [(0, rr 1 v.1), (5, iv v.2)] [(0, .box [sv a2]), (1, rE 7 Term.enc v.1)]) (some v) kn) :
    ∀ s15 : ((List Term) × Int × Int), J (q.g Try.prog 65 2 42) c65 (atI c65 244) (St.mk' [(0, rr 1 s15.1), (1, .fn 67 [pp 0]), (5, iv s15.2.1), (6, iv s15.2.2)] [(0, .box [sv a2]), (1, rE 7 Term.enc s15.1)]) (slices_DeleteFunc_LimplTermr_impl_AsksWithout_1_l1 a2 s15) kn := by
  refine J_lp (fun g ih s15 => ?_)
  unfold slices_DeleteFunc_LimplTermr_impl_AsksWithout_1_l1b
  refine J_g 976 [] [(0, rr 1 s15.1), (1, .fn 67 [pp 0]), (5, iv s15.2.1), (6, iv s15.2.2), (19, bv (decide (s15.2.2 < (s15.1.length : Int))))] [(0, .box [sv a2]), (1, rE 7 Term.enc s15.1)] orcN ?_
  refine J_if2 19 (fun h16 => ?_) (fun h16 => ?_)
  · refine J_bind (fun x17 h18 => ?_)
    refine J_g 3912 [(4, 2)] [(0, rr 1 s15.1), (1, .fn 67 [pp 0]), (5, iv s15.2.1), (6, iv s15.2.2), (7, pp 2)] [(0, .box [sv a2]), (1, rE 7 Term.enc s15.1), (2, .box (Term.enc x17))] (orcC 2 (x_ixr (kk := .i64) 38 43 7 1 Term.enc (.tmp 22) (.tmp 23) h18) (orcC 3 (x_ldr (d := .ag (Term.enc x17)) 43 7 1 0 Term.enc (.tmp 24) h18 (by kernel_rfl)) orcN)) ?_
    refine J_bind (fun x19 h20 => ?_)
    refine J_g 7826 [] [(0, rr 1 s15.1), (1, .fn 67 [pp 0]), (5, iv s15.2.1), (6, iv s15.2.2), (7, pp 2), (29, bv (!x19))] [(0, .box [sv a2]), (1, rE 7 Term.enc s15.1), (2, .box (Term.enc x17))] (orcC 2 (x_ro [(0, .box [sv a2])] [] (x_c1v 26 [(.tmp 27)] [43] false [(0, .box [sv a2])] [0] [.ag (Term.enc x17)] [pp 0] (.cons (.same rfl) (.cons (.pt rfl) (.nil))) (impl_AsksWithout_1.ok x17 a2) h20 (.same rfl rfl))) orcN) ?_
    refine J_join (aft c65 1956) (fun v24 : ((List Term) × Int) => St.mk' [(0, rr 1 v24.1), (1, .fn 67 [pp 0]), (5, iv v24.2), (6, iv s15.2.2)] [(0, .box [sv a2]), (1, rE 7 Term.enc v24.1)]) (fun v24 => ?_) (fun jv24 => ?_)
    · refine J_g 979 [] [(0, rr 1 v24.1), (1, .fn 67 [pp 0]), (5, iv v24.2), (6, iv (w64 (s15.2.2 + 1)))] [(0, .box [sv a2]), (1, rE 7 Term.enc v24.1)] orcN ?_
      exact J_q (J_b (ih (v24.1, v24.2, w64 (s15.2.2 + 1)))) rfl
    · refine J_if2 29 (fun h21 => ?_) (fun h21 => ?_)
      · refine J_bind (fun x22 h23 => ?_)
        refine J_g 31308 [] [(0, rr 1 s15.1), (1, .fn 67 [pp 0]), (5, iv s15.2.1), (6, iv s15.2.2)] [(0, .box [sv a2]), (1, rE 7 Term.enc (s15.1.set s15.2.1.toNat x17))] (orcC 3 (x_ixr (kk := .i64) 38 43 7 1 Term.enc (.tmp 30) (.tmp 31) h23) (orcD 4 (x_st (b := x17) 43 7 1 0 Term.enc (.ag (Term.enc x17)) (.tmp 33) (.tmp 32) h23 rfl) orcN)) ?_
        refine J_st (σ' := St.mk' [(0, rr 1 (s15.1.set s15.2.1.toNat x17)), (1, .fn 67 [pp 0]), (5, iv s15.2.1), (6, iv s15.2.2)] [(0, .box [sv a2]), (1, rE 7 Term.enc (s15.1.set s15.2.1.toNat x17))]) (by simp only [rr, List.length_set]) ?_
        refine J_g 31309 [] [(0, rr 1 (s15.1.set s15.2.1.toNat x17)), (1, .fn 67 [pp 0]), (5, iv (w64 (s15.2.1 + 1))), (6, iv s15.2.2)] [(0, .box [sv a2]), (1, rE 7 Term.enc (s15.1.set s15.2.1.toNat x17))] orcN ?_
        exact J_qw (J_j (jv24 (s15.1.set s15.2.1.toNat x17, w64 (s15.2.1 + 1)))) rfl
      · exact J_qw (J_j (jv24 (s15.1, s15.2.1))) rfl
  · exact J_qw (hk (s15.1, s15.2.1)) rfl

theorem slices_DeleteFunc_LimplTermr_impl_AsksWithout_1.ok (a1 : (List Term)) (a2 : ByteArray) : Ok Try.prog 65 [rr 1 a1, .fn 67 [pp 0]] [.box [sv a2], rE 7 Term.enc a1] ((slices_DeleteFunc_LimplTermr_impl_AsksWithout_1 a1 a2).map fun r => (so 7 Term.enc r, [.box [sv a2]])) := by
  refine Ok_of3 c65 Try.f65 2 42 (fun q => ?_)
  unfold slices_DeleteFunc_LimplTermr_impl_AsksWithout_1
  refine J_g 2 [] [(0, rr 1 a1), (1, .fn 67 [pp 0])] [(0, .box [sv a2]), (1, rE 7 Term.enc a1)] orcN ?_
  refine J_bind (fun x3 h4 => ?_)
  refine J_g 6 [] [(0, rr 1 a1), (1, .fn 67 [pp 0]), (5, iv x3)] [(0, .box [sv a2]), (1, rE 7 Term.enc a1)] (orcC 2 (x_ro [(1, rE 7 Term.enc a1), (0, .box [sv a2])] [] (x_c1 («as» := [rr 1 a1, .fn 67 [pp 0]]) [(.tmp 8), (.tmp 9)] [38, 94] false [(1, rE 7 Term.enc a1), (0, .box [sv a2])] [1, 0] (.cons (.rf rfl) (.cons (.fn (.cons (.pt rfl) (.nil))) (.nil))) (slices_IndexFunc_LimplTermr_impl_AsksWithout_1.ok a1 a2) h4 (.same rfl rfl))) orcN) ?_
  refine J_g 28 [] [(0, rr 1 a1), (1, .fn 67 [pp 0]), (5, iv x3), (12, bv (x3 == (-1)))] [(0, .box [sv a2]), (1, rE 7 Term.enc a1)] orcN ?_
  refine J_if2 12 (fun h5 => ?_) (fun h5 => ?_)
  · refine J_g 116 [] [(4, rr 1 a1)] [(0, .box [sv a2]), (1, rE 7 Term.enc a1)] orcN ?_
    exact J_rm (ds := [rr 1 a1]) (ds' := [so 7 Term.enc a1]) (.cons (.cell (.move (.tail _ (.head _)) (List.length_map _) (by decide) (.nil))) (.nil) (by decide)) rfl
  · refine J_g 60 [] [(0, rr 1 a1), (1, .fn 67 [pp 0]), (5, iv x3), (6, iv (w64 (x3 + 1)))] [(0, .box [sv a2]), (1, rE 7 Term.enc a1)] orcN ?_
    refine J_lq (slices_DeleteFunc_LimplTermr_impl_AsksWithout_1_l1.ok a2 q _ (fun v25 => J_j ?_) (a1, x3, w64 (x3 + 1)))
    refine J_bind (fun x26 h27 => ?_)
    refine J_bind (fun x28 h29 => ?_)
    refine J_g 62 [] [(0, rr 1 v25.1), (5, iv v25.2)] [(0, .box [sv a2]), (1, rE 7 Term.enc x28)] (orcC 2 (x_slr 38 43 7 1 Term.enc (.tmp 36) (some (.tmp 37)) none h27) (orcD 3 (x_clr (l := v25.2) (a := ({ Name := ByteArray.empty, Low := ({ A := 0, B := 0, C := 0 } : Version), High := ({ A := 0, B := 0, C := 0 } : Version) } : Term)) 38 43 7 1 Term.enc (.tmp 38) h29 (.keep rfl (.keep rfl (.keep rfl (.keep rfl (.keep rfl (.keep rfl (.keep rfl (.nil))))))))) orcN)) ?_
    refine J_st (σ' := St.mk' [(0, rr 1 x28), (5, iv v25.2)] [(0, .box [sv a2]), (1, rE 7 Term.enc x28)]) (by simp only [rr, clrw_len h29]) ?_
    refine J_bind (fun x30 h31 => ?_)
    refine J_g 126 [] [(4, rr 2 x30)] [(0, .box [sv a2]), (2, rE 7 Term.enc x30)] (orcC 2 (x_cut 38 43 7 1 2 Term.enc (.tmp 39) none (some (.tmp 40)) h31) orcN) ?_
    exact J_rm (ds := [rr 2 x30]) (ds' := [so 7 Term.enc x30]) (.cons (.cell (.move (.tail _ (.head _)) (List.length_map _) (by decide) (.nil))) (.nil) (by decide)) rfl

noncomputable def c28 : Code := (Try.f28.body).getD .skip

theorem impl_AsksWithout.ok (a1 : (List Term)) (a2 : ByteArray) : Ok Try.prog 28 [sl 7 Term.enc a1, sv a2] [] ((impl_AsksWithout a1 a2).map fun r => (so 7 Term.enc r, [])) := by
  refine Ok_of3 c28 Try.f28 0 9 (fun q => ?_)
  unfold impl_AsksWithout
  refine J_g 2 [(0, 0)] [(0, sl 7 Term.enc a1), (3, pp 0)] [(0, .box [sv a2])] orcN ?_
  refine J_bind (fun x3 h4 => ?_)
  refine J_bind (fun x5 h6 => ?_)
  refine J_g 6 [] [(4, rr 2 x5)] [(2, rE 7 Term.enc x5)] (orcC 1 (x_c1 («as» := [sl 7 Term.enc a1]) [(.tmp 5)] [38] false [] [] (.cons (.same rfl) (.nil)) (slices_Clone_LimplTerm.ok a1) h4 (.own 1)) (orcC 3 (x_c1 («as» := [rr 1 x3, .fn 67 [pp 0]]) [(.tmp 6), (.tmp 7)] [38, 94] false [(0, .box [sv a2]), (1, rE 7 Term.enc x3)] [0, 1] (.cons (.rf rfl) (.cons (.fn (.cons (.pt rfl) (.nil))) (.nil))) (slices_DeleteFunc_LimplTermr_impl_AsksWithout_1.ok x3 a2) h6 (.own 2)) orcN)) ?_
  exact J_rm (ds := [rr 2 x5]) (ds' := [so 7 Term.enc x5]) (.cons (.cell (.move (.head _) (List.length_map _) (by decide) (.nil))) (.nil) (by decide)) rfl

noncomputable def c103 : Code := (Try.f103.body).getD .skip

theorem laws_eqVersion.ok (a1 : Version) (a2 : Version) : Ok Try.prog 103 [.ag (Version.enc a1), .ag (Version.enc a2)] [] ((laws_eqVersion a1 a2).map fun r => (bv r, [])) := by
  refine Ok_of3 c103 Try.f103 0 20 (fun q => ?_)
  unfold laws_eqVersion
  refine J_g 2 [(0, 0), (1, 1)] [(2, pp 0), (3, pp 1)] [(0, .box (Version.enc a1)), (1, .box (Version.enc a2))] orcN ?_
  refine J_g 12 [] [(2, pp 0), (3, pp 1), (9, bv (a1.A != a2.A))] [(0, .box (Version.enc a1)), (1, .box (Version.enc a2))] orcN ?_
  refine J_if2 9 (fun h3 => ?_) (fun h3 => ?_)
  · refine J_g 52 [] [(4, bv false)] [] orcN ?_
    exact J_r1 rfl
  · refine J_g 28 [] [(2, pp 0), (3, pp 1), (14, bv (a1.B != a2.B))] [(0, .box (Version.enc a1)), (1, .box (Version.enc a2))] orcN ?_
    refine J_if2 14 (fun h4 => ?_) (fun h4 => ?_)
    · refine J_g 116 [] [(4, bv false)] [] orcN ?_
      exact J_r1 rfl
    · refine J_g 60 [] [(19, bv (a1.C != a2.C))] [] orcN ?_
      refine J_if2 19 (fun h5 => ?_) (fun h5 => ?_)
      · refine J_g 244 [] [(4, bv false)] [] orcN ?_
        exact J_r1 rfl
      · refine J_g 62 [] [(4, bv true)] [] orcN ?_
        exact J_r1 rfl

noncomputable def c63 : Code := (Try.f63.body).getD .skip

theorem laws_eqTerm.ok (a1 : Term) (a2 : Term) : Ok Try.prog 63 [.ag (Term.enc a1), .ag (Term.enc a2)] [] ((laws_eqTerm a1 a2).map fun r => (bv r, [])) := by
  refine Ok_of3 c63 Try.f63 0 22 (fun q => ?_)
  unfold laws_eqTerm
  refine J_g 2 [(0, 0), (1, 1)] [(2, pp 0), (3, pp 1)] [(0, .box (Term.enc a1)), (1, .box (Term.enc a2))] orcN ?_
  refine J_g 12 [] [(2, pp 0), (3, pp 1), (9, bv (!(seq a1.Name a2.Name)))] [(0, .box (Term.enc a1)), (1, .box (Term.enc a2))] orcN ?_
  refine J_if2 9 (fun h3 => ?_) (fun h3 => ?_)
  · refine J_g 52 [] [(4, bv false)] [] orcN ?_
    exact J_r1 rfl
  · refine J_bind (fun x4 h5 => ?_)
    refine J_g 28 [] [(2, pp 0), (3, pp 1), (15, bv (!x4))] [(0, .box (Term.enc a1)), (1, .box (Term.enc a2))] (orcC 4 (x_c0 [(.tmp 11), (.tmp 13)] [41, 41] (laws_eqVersion.ok a1.Low a2.Low) h5) orcN) ?_
    refine J_if2 15 (fun h6 => ?_) (fun h6 => ?_)
    · refine J_g 116 [] [(4, bv false)] [] orcN ?_
      exact J_r1 rfl
    · refine J_bind (fun x7 h8 => ?_)
      refine J_g 60 [] [(21, bv (!x7))] [] (orcC 4 (x_c0 [(.tmp 17), (.tmp 19)] [41, 41] (laws_eqVersion.ok a1.High a2.High) h8) orcN) ?_
      refine J_if2 21 (fun h9 => ?_) (fun h9 => ?_)
      · refine J_g 244 [] [(4, bv false)] [] orcN ?_
        exact J_r1 rfl
      · refine J_g 62 [] [(4, bv true)] [] orcN ?_
        exact J_r1 rfl

noncomputable def c24 : Code := (Try.f24.body).getD .skip

theorem laws_eqTermS_l1.ok (a1 : (List Term)) (a2 : (List Term)) (q : Wd) (kn : Unit → Option (D × List Ent)) (hk : ∀ v : Unit, J (q.g Try.prog 24 0 27) c24 (atI c24 15) (St.mk' [] []) (some v) kn) :
    ∀ s12 : Int, J (q.g Try.prog 24 0 27) c24 (atI c24 116) (St.mk' [(0, sl 7 Term.enc a1), (1, sl 7 Term.enc a2), (5, iv s12)] []) (laws_eqTermS_l1 a1 a2 s12) (Fl.go (fun r : Bool => some (bv r, [])) kn) := by
  refine J_lp (fun g ih s12 => ?_)
  unfold laws_eqTermS_l1b
  refine J_g 464 [] [(0, sl 7 Term.enc a1), (1, sl 7 Term.enc a2), (5, iv s12), (14, bv (decide (s12 < (a1.length : Int))))] [] orcN ?_
  refine J_if2 14 (fun h13 => ?_) (fun h13 => ?_)
  · refine J_bind (fun x14 h15 => ?_)
    refine J_bind (fun x16 h17 => ?_)
    refine J_bind (fun x18 h19 => ?_)
    refine J_g 1864 [] [(0, sl 7 Term.enc a1), (1, sl 7 Term.enc a2), (5, iv s12), (26, bv (!x18))] [] (orcC 2 (x_ix (kk := .i64) 38 43 7 Term.enc (.tmp 17) (.tmp 18) h15) (orcC 6 (x_ix (kk := .i64) 38 43 7 Term.enc (.tmp 21) (.tmp 22) h17) (orcC 8 (x_c0 [(.tmp 20), (.tmp 24)] [43, 43] (laws_eqTerm.ok x14 x16) h19) orcN))) ?_
    refine J_if2 26 (fun h20 => ?_) (fun h20 => ?_)
    · refine J_g 7460 [] [(4, bv false)] [] orcN ?_
      exact J_r1 rfl
    · refine J_g 467 [] [(0, sl 7 Term.enc a1), (1, sl 7 Term.enc a2), (5, iv (w64 (s12 + 1)))] [] orcN ?_
      exact J_q (J_b (ih (w64 (s12 + 1)))) rfl
  · exact J_qw (hk ()) rfl

theorem laws_eqTermS.ok (a1 : (List Term)) (a2 : (List Term)) : Ok Try.prog 24 [sl 7 Term.enc a1, sl 7 Term.enc a2] [] ((laws_eqTermS a1 a2).map fun r => (bv r, [])) := by
  refine Ok_of3 c24 Try.f24 0 27 (fun q => ?_)
  unfold laws_eqTermS
  refine J_g 2 [] [(0, sl 7 Term.enc a1), (1, sl 7 Term.enc a2)] [] orcN ?_
  refine J_g 12 [] [(0, sl 7 Term.enc a1), (1, sl 7 Term.enc a2), (10, bv ((a1.length : Int) != (a2.length : Int)))] [] orcN ?_
  refine J_if2 10 (fun h3 => ?_) (fun h3 => ?_)
  · refine J_g 52 [] [(4, bv false)] [] orcN ?_
    exact J_r1 rfl
  · refine J_g 28 [] [(0, sl 7 Term.enc a1), (1, sl 7 Term.enc a2), (5, iv 0)] [] orcN ?_
    refine J_lqF (K0 := (fun r : Bool => some (bv r, []))) (fun _ => rfl) (laws_eqTermS_l1.ok a1 a2 q _ (fun v21 => J_j ?_) 0)
    refine J_g 30 [] [(4, bv true)] [] orcN ?_
    exact J_r1 rfl

noncomputable def c64 : Code := (Try.f64.body).getD .skip

theorem laws_markText_l1.ok  (q : Wd) (kn : ByteArray → Option (D × List Ent)) (hk : ∀ v : ByteArray, J (q.g Try.prog 64 0 20) c64 (atI c64 31) (St.mk' [(3, sv v)] []) (some v) kn) :
    ∀ s6 : (Int × ByteArray), J (q.g Try.prog 64 0 20) c64 (atI c64 120) (St.mk' [(0, iv s6.1), (3, sv s6.2)] []) (laws_markText_l1 s6) kn := by
  refine J_lp (fun g ih s6 => ?_)
  unfold laws_markText_l1b
  refine J_g 480 [] [(0, iv s6.1), (3, sv s6.2), (7, bv (decide (s6.1 > 0)))] [] orcN ?_
  refine J_if2 7 (fun h7 => ?_) (fun h7 => ?_)
  · refine J_bind (fun x8 h9 => ?_)
    refine J_g 964 [] [(0, iv s6.1), (3, sv x8)] [] (orcC 4 (x_bp 68 5 1 0 eU8 [IntKind.u8.wrap (w64 (48 + (s6.1.tmod 10)))] [0] [(.tmp 11)] [uv (IntKind.u8.wrap (w64 (48 + (s6.1.tmod 10))))]) (orcC 5 (x_b2sr (xs := [IntKind.u8.wrap (w64 (48 + (s6.1.tmod 10)))]) 68 9 5 0 (.tmp 12)) (orcC 7 (x_cat 9 9 (.tmp 13) (.tmp 14) h9) orcN))) ?_
    refine J_g 965 [] [(0, iv (w64 (s6.1.tdiv 10))), (3, sv x8)] [] orcN ?_
    exact J_q (J_b (ih (w64 (s6.1.tdiv 10), x8))) rfl
  · exact J_qw (hk s6.2) rfl

theorem laws_markText.ok (a1 : Int) : Ok Try.prog 64 [iv a1] [] ((laws_markText a1).map fun r => (sv r, [])) := by
  refine Ok_of3 c64 Try.f64 0 20 (fun q => ?_)
  unfold laws_markText
  refine J_g 2 [] [(0, iv a1)] [] orcN ?_
  refine J_g 12 [] [(0, iv a1), (5, bv (decide (a1 ≤ 0)))] [] orcN ?_
  refine J_if2 5 (fun h2 => ?_) (fun h2 => ?_)
  · refine J_g 52 [] [(2, sv (bs [109, 48]))] [] orcN ?_
    exact J_r1 rfl
  · refine J_g 14 [] [(0, iv a1), (3, sv (bs []))] [] orcN ?_
    refine J_lq (laws_markText_l1.ok q _ (fun v10 => J_j ?_) (a1, bs []))
    refine J_bind (fun x11 h12 => ?_)
    refine J_g 62 [] [(2, sv x11)] [] (orcC 1 (x_cat 9 9 (.const (.string (bs [109]))) (.tmp 18) h12) orcN) ?_
    exact J_r1 rfl

noncomputable def c25 : Code := (Try.f25.body).getD .skip

theorem laws_markTermSr_l1.ok  (q : Wd) (kn : ((List Term) × Int) → Option (D × List Ent)) (hk : ∀ v : ((List Term) × Int), J (q.g Try.prog 25 1 69) c25 (atI c25 7) (St.mk' [(1, iv v.2)] [(0, rE 7 Term.enc v.1)]) (some v) kn) :
    ∀ s20 : ((List Term) × Int × Int), J (q.g Try.prog 25 1 69) c25 (atI c25 52) (St.mk' [(0, rr 0 s20.1), (1, iv s20.2.1), (5, iv s20.2.2)] [(0, rE 7 Term.enc s20.1)]) (laws_markTermSr_l1 s20) kn := by
  refine J_lp (fun g ih s20 => ?_)
  unfold laws_markTermSr_l1b
  refine J_g 208 [] [(0, rr 0 s20.1), (1, iv s20.2.1), (5, iv s20.2.2), (9, bv (decide (s20.2.2 < (s20.1.length : Int))))] [(0, rE 7 Term.enc s20.1)] orcN ?_
  refine J_if2 9 (fun h21 => ?_) (fun h21 => ?_)
  · refine J_bind (fun x22 h23 => ?_)
    refine J_bind (fun x24 h25 => ?_)
    refine J_g 840 [] [(0, rr 0 s20.1), (1, iv s20.2.1), (5, iv s20.2.2)] [(0, rE 7 Term.enc (s20.1.set s20.2.2.toNat ({ Name := x22, Low := x24.Low, High := x24.High } : Term)))] (orcC 3 (x_c0 [(.tmp 14)] [3] (laws_markText.ok s20.2.1) h23) (orcC 4 (x_ixr (kk := .i64) 38 43 7 0 Term.enc (.tmp 12) (.tmp 13) h25) (orcD 6 (x_st (b := ({ Name := x22, Low := x24.Low, High := x24.High } : Term)) 9 7 0 0 Term.enc (sv x22) (.tmp 17) (.tmp 15) h25 rfl) orcN))) ?_
    refine J_st (σ' := St.mk' [(0, rr 0 (s20.1.set s20.2.2.toNat ({ Name := x22, Low := x24.Low, High := x24.High } : Term))), (1, iv s20.2.1), (5, iv s20.2.2)] [(0, rE 7 Term.enc (s20.1.set s20.2.2.toNat ({ Name := x22, Low := x24.Low, High := x24.High } : Term)))]) (by simp only [rr, List.length_set]) ?_
    refine J_g 1682 [] [(0, rr 0 (s20.1.set s20.2.2.toNat ({ Name := x22, Low := x24.Low, High := x24.High } : Term))), (1, iv (w64 (s20.2.1 + 1))), (5, iv s20.2.2)] [(0, rE 7 Term.enc (s20.1.set s20.2.2.toNat ({ Name := x22, Low := x24.Low, High := x24.High } : Term)))] orcN ?_
    refine J_bind (fun x26 h27 => ?_)
    refine J_g 3366 [] [(0, rr 0 (s20.1.set s20.2.2.toNat ({ Name := x22, Low := x24.Low, High := x24.High } : Term))), (1, iv (w64 (s20.2.1 + 1))), (5, iv s20.2.2)] [(0, rE 7 Term.enc ((s20.1.set s20.2.2.toNat ({ Name := x22, Low := x24.Low, High := x24.High } : Term)).set s20.2.2.toNat ({ Name := x26.Name, Low := ({ A := w64 (s20.2.1 + 1), B := x26.Low.B, C := x26.Low.C } : Version), High := x26.High } : Term)))] (orcC 3 (x_ixr (kk := .i64) 38 43 7 0 Term.enc (.tmp 20) (.tmp 21) h27) (orcD 6 (x_st (b := ({ Name := x26.Name, Low := ({ A := w64 (s20.2.1 + 1), B := x26.Low.B, C := x26.Low.C } : Version), High := x26.High } : Term)) 2 7 0 1 Term.enc (iv (w64 (s20.2.1 + 1))) (.tmp 25) (.tmp 22) h27 rfl) orcN)) ?_
    refine J_st (σ' := St.mk' [(0, rr 0 ((s20.1.set s20.2.2.toNat ({ Name := x22, Low := x24.Low, High := x24.High } : Term)).set s20.2.2.toNat ({ Name := x26.Name, Low := ({ A := w64 (s20.2.1 + 1), B := x26.Low.B, C := x26.Low.C } : Version), High := x26.High } : Term))), (1, iv (w64 (s20.2.1 + 1))), (5, iv s20.2.2)] [(0, rE 7 Term.enc ((s20.1.set s20.2.2.toNat ({ Name := x22, Low := x24.Low, High := x24.High } : Term)).set s20.2.2.toNat ({ Name := x26.Name, Low := ({ A := w64 (s20.2.1 + 1), B := x26.Low.B, C := x26.Low.C } : Version), High := x26.High } : Term)))]) (by simp only [rr, List.length_set]) ?_
    refine J_g 6734 [] [(0, rr 0 ((s20.1.set s20.2.2.toNat ({ Name := x22, Low := x24.Low, High := x24.High } : Term)).set s20.2.2.toNat ({ Name := x26.Name, Low := ({ A := w64 (s20.2.1 + 1), B := x26.Low.B, C := x26.Low.C } : Version), High := x26.High } : Term))), (1, iv (w64 ((w64 (s20.2.1 + 1)) + 1))), (5, iv s20.2.2)] [(0, rE 7 Term.enc ((s20.1.set s20.2.2.toNat ({ Name := x22, Low := x24.Low, High := x24.High } : Term)).set s20.2.2.toNat ({ Name := x26.Name, Low := ({ A := w64 (s20.2.1 + 1), B := x26.Low.B, C := x26.Low.C } : Version), High := x26.High } : Term)))] orcN ?_
    refine J_bind (fun x28 h29 => ?_)
    refine J_g 13470 [] [(0, rr 0 ((s20.1.set s20.2.2.toNat ({ Name := x22, Low := x24.Low, High := x24.High } : Term)).set s20.2.2.toNat ({ Name := x26.Name, Low := ({ A := w64 (s20.2.1 + 1), B := x26.Low.B, C := x26.Low.C } : Version), High := x26.High } : Term))), (1, iv (w64 ((w64 (s20.2.1 + 1)) + 1))), (5, iv s20.2.2)] [(0, rE 7 Term.enc (((s20.1.set s20.2.2.toNat ({ Name := x22, Low := x24.Low, High := x24.High } : Term)).set s20.2.2.toNat ({ Name := x26.Name, Low := ({ A := w64 (s20.2.1 + 1), B := x26.Low.B, C := x26.Low.C } : Version), High := x26.High } : Term)).set s20.2.2.toNat ({ Name := x28.Name, Low := ({ A := x28.Low.A, B := w64 ((w64 (s20.2.1 + 1)) + 1), C := x28.Low.C } : Version), High := x28.High } : Term)))] (orcC 3 (x_ixr (kk := .i64) 38 43 7 0 Term.enc (.tmp 28) (.tmp 29) h29) (orcD 6 (x_st (b := ({ Name := x28.Name, Low := ({ A := x28.Low.A, B := w64 ((w64 (s20.2.1 + 1)) + 1), C := x28.Low.C } : Version), High := x28.High } : Term)) 2 7 0 2 Term.enc (iv (w64 ((w64 (s20.2.1 + 1)) + 1))) (.tmp 33) (.tmp 30) h29 rfl) orcN)) ?_
    refine J_st (σ' := St.mk' [(0, rr 0 (((s20.1.set s20.2.2.toNat ({ Name := x22, Low := x24.Low, High := x24.High } : Term)).set s20.2.2.toNat ({ Name := x26.Name, Low := ({ A := w64 (s20.2.1 + 1), B := x26.Low.B, C := x26.Low.C } : Version), High := x26.High } : Term)).set s20.2.2.toNat ({ Name := x28.Name, Low := ({ A := x28.Low.A, B := w64 ((w64 (s20.2.1 + 1)) + 1), C := x28.Low.C } : Version), High := x28.High } : Term))), (1, iv (w64 ((w64 (s20.2.1 + 1)) + 1))), (5, iv s20.2.2)] [(0, rE 7 Term.enc (((s20.1.set s20.2.2.toNat ({ Name := x22, Low := x24.Low, High := x24.High } : Term)).set s20.2.2.toNat ({ Name := x26.Name, Low := ({ A := w64 (s20.2.1 + 1), B := x26.Low.B, C := x26.Low.C } : Version), High := x26.High } : Term)).set s20.2.2.toNat ({ Name := x28.Name, Low := ({ A := x28.Low.A, B := w64 ((w64 (s20.2.1 + 1)) + 1), C := x28.Low.C } : Version), High := x28.High } : Term)))]) (by simp only [rr, List.length_set]) ?_
    refine J_g 26942 [] [(0, rr 0 (((s20.1.set s20.2.2.toNat ({ Name := x22, Low := x24.Low, High := x24.High } : Term)).set s20.2.2.toNat ({ Name := x26.Name, Low := ({ A := w64 (s20.2.1 + 1), B := x26.Low.B, C := x26.Low.C } : Version), High := x26.High } : Term)).set s20.2.2.toNat ({ Name := x28.Name, Low := ({ A := x28.Low.A, B := w64 ((w64 (s20.2.1 + 1)) + 1), C := x28.Low.C } : Version), High := x28.High } : Term))), (1, iv (w64 ((w64 ((w64 (s20.2.1 + 1)) + 1)) + 1))), (5, iv s20.2.2)] [(0, rE 7 Term.enc (((s20.1.set s20.2.2.toNat ({ Name := x22, Low := x24.Low, High := x24.High } : Term)).set s20.2.2.toNat ({ Name := x26.Name, Low := ({ A := w64 (s20.2.1 + 1), B := x26.Low.B, C := x26.Low.C } : Version), High := x26.High } : Term)).set s20.2.2.toNat ({ Name := x28.Name, Low := ({ A := x28.Low.A, B := w64 ((w64 (s20.2.1 + 1)) + 1), C := x28.Low.C } : Version), High := x28.High } : Term)))] orcN ?_
    refine J_bind (fun x30 h31 => ?_)
    refine J_g 53886 [] [(0, rr 0 (((s20.1.set s20.2.2.toNat ({ Name := x22, Low := x24.Low, High := x24.High } : Term)).set s20.2.2.toNat ({ Name := x26.Name, Low := ({ A := w64 (s20.2.1 + 1), B := x26.Low.B, C := x26.Low.C } : Version), High := x26.High } : Term)).set s20.2.2.toNat ({ Name := x28.Name, Low := ({ A := x28.Low.A, B := w64 ((w64 (s20.2.1 + 1)) + 1), C := x28.Low.C } : Version), High := x28.High } : Term))), (1, iv (w64 ((w64 ((w64 (s20.2.1 + 1)) + 1)) + 1))), (5, iv s20.2.2)] [(0, rE 7 Term.enc ((((s20.1.set s20.2.2.toNat ({ Name := x22, Low := x24.Low, High := x24.High } : Term)).set s20.2.2.toNat ({ Name := x26.Name, Low := ({ A := w64 (s20.2.1 + 1), B := x26.Low.B, C := x26.Low.C } : Version), High := x26.High } : Term)).set s20.2.2.toNat ({ Name := x28.Name, Low := ({ A := x28.Low.A, B := w64 ((w64 (s20.2.1 + 1)) + 1), C := x28.Low.C } : Version), High := x28.High } : Term)).set s20.2.2.toNat ({ Name := x30.Name, Low := ({ A := x30.Low.A, B := x30.Low.B, C := w64 ((w64 ((w64 (s20.2.1 + 1)) + 1)) + 1) } : Version), High := x30.High } : Term)))] (orcC 3 (x_ixr (kk := .i64) 38 43 7 0 Term.enc (.tmp 36) (.tmp 37) h31) (orcD 6 (x_st (b := ({ Name := x30.Name, Low := ({ A := x30.Low.A, B := x30.Low.B, C := w64 ((w64 ((w64 (s20.2.1 + 1)) + 1)) + 1) } : Version), High := x30.High } : Term)) 2 7 0 3 Term.enc (iv (w64 ((w64 ((w64 (s20.2.1 + 1)) + 1)) + 1))) (.tmp 41) (.tmp 38) h31 rfl) orcN)) ?_
    refine J_st (σ' := St.mk' [(0, rr 0 ((((s20.1.set s20.2.2.toNat ({ Name := x22, Low := x24.Low, High := x24.High } : Term)).set s20.2.2.toNat ({ Name := x26.Name, Low := ({ A := w64 (s20.2.1 + 1), B := x26.Low.B, C := x26.Low.C } : Version), High := x26.High } : Term)).set s20.2.2.toNat ({ Name := x28.Name, Low := ({ A := x28.Low.A, B := w64 ((w64 (s20.2.1 + 1)) + 1), C := x28.Low.C } : Version), High := x28.High } : Term)).set s20.2.2.toNat ({ Name := x30.Name, Low := ({ A := x30.Low.A, B := x30.Low.B, C := w64 ((w64 ((w64 (s20.2.1 + 1)) + 1)) + 1) } : Version), High := x30.High } : Term))), (1, iv (w64 ((w64 ((w64 (s20.2.1 + 1)) + 1)) + 1))), (5, iv s20.2.2)] [(0, rE 7 Term.enc ((((s20.1.set s20.2.2.toNat ({ Name := x22, Low := x24.Low, High := x24.High } : Term)).set s20.2.2.toNat ({ Name := x26.Name, Low := ({ A := w64 (s20.2.1 + 1), B := x26.Low.B, C := x26.Low.C } : Version), High := x26.High } : Term)).set s20.2.2.toNat ({ Name := x28.Name, Low := ({ A := x28.Low.A, B := w64 ((w64 (s20.2.1 + 1)) + 1), C := x28.Low.C } : Version), High := x28.High } : Term)).set s20.2.2.toNat ({ Name := x30.Name, Low := ({ A := x30.Low.A, B := x30.Low.B, C := w64 ((w64 ((w64 (s20.2.1 + 1)) + 1)) + 1) } : Version), High := x30.High } : Term)))]) (by simp only [rr, List.length_set]) ?_
    refine J_g 107774 [] [(0, rr 0 ((((s20.1.set s20.2.2.toNat ({ Name := x22, Low := x24.Low, High := x24.High } : Term)).set s20.2.2.toNat ({ Name := x26.Name, Low := ({ A := w64 (s20.2.1 + 1), B := x26.Low.B, C := x26.Low.C } : Version), High := x26.High } : Term)).set s20.2.2.toNat ({ Name := x28.Name, Low := ({ A := x28.Low.A, B := w64 ((w64 (s20.2.1 + 1)) + 1), C := x28.Low.C } : Version), High := x28.High } : Term)).set s20.2.2.toNat ({ Name := x30.Name, Low := ({ A := x30.Low.A, B := x30.Low.B, C := w64 ((w64 ((w64 (s20.2.1 + 1)) + 1)) + 1) } : Version), High := x30.High } : Term))), (1, iv (w64 ((w64 ((w64 ((w64 (s20.2.1 + 1)) + 1)) + 1)) + 1))), (5, iv s20.2.2)] [(0, rE 7 Term.enc ((((s20.1.set s20.2.2.toNat ({ Name := x22, Low := x24.Low, High := x24.High } : Term)).set s20.2.2.toNat ({ Name := x26.Name, Low := ({ A := w64 (s20.2.1 + 1), B := x26.Low.B, C := x26.Low.C } : Version), High := x26.High } : Term)).set s20.2.2.toNat ({ Name := x28.Name, Low := ({ A := x28.Low.A, B := w64 ((w64 (s20.2.1 + 1)) + 1), C := x28.Low.C } : Version), High := x28.High } : Term)).set s20.2.2.toNat ({ Name := x30.Name, Low := ({ A := x30.Low.A, B := x30.Low.B, C := w64 ((w64 ((w64 (s20.2.1 + 1)) + 1)) + 1) } : Version), High := x30.High } : Term)))] orcN ?_
    refine J_bind (fun x32 h33 => ?_)
    refine J_g 215550 [] [(0, rr 0 ((((s20.1.set s20.2.2.toNat ({ Name := x22, Low := x24.Low, High := x24.High } : Term)).set s20.2.2.toNat ({ Name := x26.Name, Low := ({ A := w64 (s20.2.1 + 1), B := x26.Low.B, C := x26.Low.C } : Version), High := x26.High } : Term)).set s20.2.2.toNat ({ Name := x28.Name, Low := ({ A := x28.Low.A, B := w64 ((w64 (s20.2.1 + 1)) + 1), C := x28.Low.C } : Version), High := x28.High } : Term)).set s20.2.2.toNat ({ Name := x30.Name, Low := ({ A := x30.Low.A, B := x30.Low.B, C := w64 ((w64 ((w64 (s20.2.1 + 1)) + 1)) + 1) } : Version), High := x30.High } : Term))), (1, iv (w64 ((w64 ((w64 ((w64 (s20.2.1 + 1)) + 1)) + 1)) + 1))), (5, iv s20.2.2)] [(0, rE 7 Term.enc (((((s20.1.set s20.2.2.toNat ({ Name := x22, Low := x24.Low, High := x24.High } : Term)).set s20.2.2.toNat ({ Name := x26.Name, Low := ({ A := w64 (s20.2.1 + 1), B := x26.Low.B, C := x26.Low.C } : Version), High := x26.High } : Term)).set s20.2.2.toNat ({ Name := x28.Name, Low := ({ A := x28.Low.A, B := w64 ((w64 (s20.2.1 + 1)) + 1), C := x28.Low.C } : Version), High := x28.High } : Term)).set s20.2.2.toNat ({ Name := x30.Name, Low := ({ A := x30.Low.A, B := x30.Low.B, C := w64 ((w64 ((w64 (s20.2.1 + 1)) + 1)) + 1) } : Version), High := x30.High } : Term)).set s20.2.2.toNat ({ Name := x32.Name, Low := x32.Low, High := ({ A := w64 ((w64 ((w64 ((w64 (s20.2.1 + 1)) + 1)) + 1)) + 1), B := x32.High.B, C := x32.High.C } : Version) } : Term)))] (orcC 3 (x_ixr (kk := .i64) 38 43 7 0 Term.enc (.tmp 44) (.tmp 45) h33) (orcD 6 (x_st (b := ({ Name := x32.Name, Low := x32.Low, High := ({ A := w64 ((w64 ((w64 ((w64 (s20.2.1 + 1)) + 1)) + 1)) + 1), B := x32.High.B, C := x32.High.C } : Version) } : Term)) 2 7 0 4 Term.enc (iv (w64 ((w64 ((w64 ((w64 (s20.2.1 + 1)) + 1)) + 1)) + 1))) (.tmp 49) (.tmp 46) h33 rfl) orcN)) ?_
    refine J_st (σ' := St.mk' [(0, rr 0 (((((s20.1.set s20.2.2.toNat ({ Name := x22, Low := x24.Low, High := x24.High } : Term)).set s20.2.2.toNat ({ Name := x26.Name, Low := ({ A := w64 (s20.2.1 + 1), B := x26.Low.B, C := x26.Low.C } : Version), High := x26.High } : Term)).set s20.2.2.toNat ({ Name := x28.Name, Low := ({ A := x28.Low.A, B := w64 ((w64 (s20.2.1 + 1)) + 1), C := x28.Low.C } : Version), High := x28.High } : Term)).set s20.2.2.toNat ({ Name := x30.Name, Low := ({ A := x30.Low.A, B := x30.Low.B, C := w64 ((w64 ((w64 (s20.2.1 + 1)) + 1)) + 1) } : Version), High := x30.High } : Term)).set s20.2.2.toNat ({ Name := x32.Name, Low := x32.Low, High := ({ A := w64 ((w64 ((w64 ((w64 (s20.2.1 + 1)) + 1)) + 1)) + 1), B := x32.High.B, C := x32.High.C } : Version) } : Term))), (1, iv (w64 ((w64 ((w64 ((w64 (s20.2.1 + 1)) + 1)) + 1)) + 1))), (5, iv s20.2.2)] [(0, rE 7 Term.enc (((((s20.1.set s20.2.2.toNat ({ Name := x22, Low := x24.Low, High := x24.High } : Term)).set s20.2.2.toNat ({ Name := x26.Name, Low := ({ A := w64 (s20.2.1 + 1), B := x26.Low.B, C := x26.Low.C } : Version), High := x26.High } : Term)).set s20.2.2.toNat ({ Name := x28.Name, Low := ({ A := x28.Low.A, B := w64 ((w64 (s20.2.1 + 1)) + 1), C := x28.Low.C } : Version), High := x28.High } : Term)).set s20.2.2.toNat ({ Name := x30.Name, Low := ({ A := x30.Low.A, B := x30.Low.B, C := w64 ((w64 ((w64 (s20.2.1 + 1)) + 1)) + 1) } : Version), High := x30.High } : Term)).set s20.2.2.toNat ({ Name := x32.Name, Low := x32.Low, High := ({ A := w64 ((w64 ((w64 ((w64 (s20.2.1 + 1)) + 1)) + 1)) + 1), B := x32.High.B, C := x32.High.C } : Version) } : Term)))]) (by simp only [rr, List.length_set]) ?_
    refine J_g 431102 [] [(0, rr 0 (((((s20.1.set s20.2.2.toNat ({ Name := x22, Low := x24.Low, High := x24.High } : Term)).set s20.2.2.toNat ({ Name := x26.Name, Low := ({ A := w64 (s20.2.1 + 1), B := x26.Low.B, C := x26.Low.C } : Version), High := x26.High } : Term)).set s20.2.2.toNat ({ Name := x28.Name, Low := ({ A := x28.Low.A, B := w64 ((w64 (s20.2.1 + 1)) + 1), C := x28.Low.C } : Version), High := x28.High } : Term)).set s20.2.2.toNat ({ Name := x30.Name, Low := ({ A := x30.Low.A, B := x30.Low.B, C := w64 ((w64 ((w64 (s20.2.1 + 1)) + 1)) + 1) } : Version), High := x30.High } : Term)).set s20.2.2.toNat ({ Name := x32.Name, Low := x32.Low, High := ({ A := w64 ((w64 ((w64 ((w64 (s20.2.1 + 1)) + 1)) + 1)) + 1), B := x32.High.B, C := x32.High.C } : Version) } : Term))), (1, iv (w64 ((w64 ((w64 ((w64 ((w64 (s20.2.1 + 1)) + 1)) + 1)) + 1)) + 1))), (5, iv s20.2.2)] [(0, rE 7 Term.enc (((((s20.1.set s20.2.2.toNat ({ Name := x22, Low := x24.Low, High := x24.High } : Term)).set s20.2.2.toNat ({ Name := x26.Name, Low := ({ A := w64 (s20.2.1 + 1), B := x26.Low.B, C := x26.Low.C } : Version), High := x26.High } : Term)).set s20.2.2.toNat ({ Name := x28.Name, Low := ({ A := x28.Low.A, B := w64 ((w64 (s20.2.1 + 1)) + 1), C := x28.Low.C } : Version), High := x28.High } : Term)).set s20.2.2.toNat ({ Name := x30.Name, Low := ({ A := x30.Low.A, B := x30.Low.B, C := w64 ((w64 ((w64 (s20.2.1 + 1)) + 1)) + 1) } : Version), High := x30.High } : Term)).set s20.2.2.toNat ({ Name := x32.Name, Low := x32.Low, High := ({ A := w64 ((w64 ((w64 ((w64 (s20.2.1 + 1)) + 1)) + 1)) + 1), B := x32.High.B, C := x32.High.C } : Version) } : Term)))] orcN ?_
    refine J_bind (fun x34 h35 => ?_)
    refine J_g 862206 [] [(0, rr 0 (((((s20.1.set s20.2.2.toNat ({ Name := x22, Low := x24.Low, High := x24.High } : Term)).set s20.2.2.toNat ({ Name := x26.Name, Low := ({ A := w64 (s20.2.1 + 1), B := x26.Low.B, C := x26.Low.C } : Version), High := x26.High } : Term)).set s20.2.2.toNat ({ Name := x28.Name, Low := ({ A := x28.Low.A, B := w64 ((w64 (s20.2.1 + 1)) + 1), C := x28.Low.C } : Version), High := x28.High } : Term)).set s20.2.2.toNat ({ Name := x30.Name, Low := ({ A := x30.Low.A, B := x30.Low.B, C := w64 ((w64 ((w64 (s20.2.1 + 1)) + 1)) + 1) } : Version), High := x30.High } : Term)).set s20.2.2.toNat ({ Name := x32.Name, Low := x32.Low, High := ({ A := w64 ((w64 ((w64 ((w64 (s20.2.1 + 1)) + 1)) + 1)) + 1), B := x32.High.B, C := x32.High.C } : Version) } : Term))), (1, iv (w64 ((w64 ((w64 ((w64 ((w64 (s20.2.1 + 1)) + 1)) + 1)) + 1)) + 1))), (5, iv s20.2.2)] [(0, rE 7 Term.enc ((((((s20.1.set s20.2.2.toNat ({ Name := x22, Low := x24.Low, High := x24.High } : Term)).set s20.2.2.toNat ({ Name := x26.Name, Low := ({ A := w64 (s20.2.1 + 1), B := x26.Low.B, C := x26.Low.C } : Version), High := x26.High } : Term)).set s20.2.2.toNat ({ Name := x28.Name, Low := ({ A := x28.Low.A, B := w64 ((w64 (s20.2.1 + 1)) + 1), C := x28.Low.C } : Version), High := x28.High } : Term)).set s20.2.2.toNat ({ Name := x30.Name, Low := ({ A := x30.Low.A, B := x30.Low.B, C := w64 ((w64 ((w64 (s20.2.1 + 1)) + 1)) + 1) } : Version), High := x30.High } : Term)).set s20.2.2.toNat ({ Name := x32.Name, Low := x32.Low, High := ({ A := w64 ((w64 ((w64 ((w64 (s20.2.1 + 1)) + 1)) + 1)) + 1), B := x32.High.B, C := x32.High.C } : Version) } : Term)).set s20.2.2.toNat ({ Name := x34.Name, Low := x34.Low, High := ({ A := x34.High.A, B := w64 ((w64 ((w64 ((w64 ((w64 (s20.2.1 + 1)) + 1)) + 1)) + 1)) + 1), C := x34.High.C } : Version) } : Term)))] (orcC 3 (x_ixr (kk := .i64) 38 43 7 0 Term.enc (.tmp 52) (.tmp 53) h35) (orcD 6 (x_st (b := ({ Name := x34.Name, Low := x34.Low, High := ({ A := x34.High.A, B := w64 ((w64 ((w64 ((w64 ((w64 (s20.2.1 + 1)) + 1)) + 1)) + 1)) + 1), C := x34.High.C } : Version) } : Term)) 2 7 0 5 Term.enc (iv (w64 ((w64 ((w64 ((w64 ((w64 (s20.2.1 + 1)) + 1)) + 1)) + 1)) + 1))) (.tmp 57) (.tmp 54) h35 rfl) orcN)) ?_
    refine J_st (σ' := St.mk' [(0, rr 0 ((((((s20.1.set s20.2.2.toNat ({ Name := x22, Low := x24.Low, High := x24.High } : Term)).set s20.2.2.toNat ({ Name := x26.Name, Low := ({ A := w64 (s20.2.1 + 1), B := x26.Low.B, C := x26.Low.C } : Version), High := x26.High } : Term)).set s20.2.2.toNat ({ Name := x28.Name, Low := ({ A := x28.Low.A, B := w64 ((w64 (s20.2.1 + 1)) + 1), C := x28.Low.C } : Version), High := x28.High } : Term)).set s20.2.2.toNat ({ Name := x30.Name, Low := ({ A := x30.Low.A, B := x30.Low.B, C := w64 ((w64 ((w64 (s20.2.1 + 1)) + 1)) + 1) } : Version), High := x30.High } : Term)).set s20.2.2.toNat ({ Name := x32.Name, Low := x32.Low, High := ({ A := w64 ((w64 ((w64 ((w64 (s20.2.1 + 1)) + 1)) + 1)) + 1), B := x32.High.B, C := x32.High.C } : Version) } : Term)).set s20.2.2.toNat ({ Name := x34.Name, Low := x34.Low, High := ({ A := x34.High.A, B := w64 ((w64 ((w64 ((w64 ((w64 (s20.2.1 + 1)) + 1)) + 1)) + 1)) + 1), C := x34.High.C } : Version) } : Term))), (1, iv (w64 ((w64 ((w64 ((w64 ((w64 (s20.2.1 + 1)) + 1)) + 1)) + 1)) + 1))), (5, iv s20.2.2)] [(0, rE 7 Term.enc ((((((s20.1.set s20.2.2.toNat ({ Name := x22, Low := x24.Low, High := x24.High } : Term)).set s20.2.2.toNat ({ Name := x26.Name, Low := ({ A := w64 (s20.2.1 + 1), B := x26.Low.B, C := x26.Low.C } : Version), High := x26.High } : Term)).set s20.2.2.toNat ({ Name := x28.Name, Low := ({ A := x28.Low.A, B := w64 ((w64 (s20.2.1 + 1)) + 1), C := x28.Low.C } : Version), High := x28.High } : Term)).set s20.2.2.toNat ({ Name := x30.Name, Low := ({ A := x30.Low.A, B := x30.Low.B, C := w64 ((w64 ((w64 (s20.2.1 + 1)) + 1)) + 1) } : Version), High := x30.High } : Term)).set s20.2.2.toNat ({ Name := x32.Name, Low := x32.Low, High := ({ A := w64 ((w64 ((w64 ((w64 (s20.2.1 + 1)) + 1)) + 1)) + 1), B := x32.High.B, C := x32.High.C } : Version) } : Term)).set s20.2.2.toNat ({ Name := x34.Name, Low := x34.Low, High := ({ A := x34.High.A, B := w64 ((w64 ((w64 ((w64 ((w64 (s20.2.1 + 1)) + 1)) + 1)) + 1)) + 1), C := x34.High.C } : Version) } : Term)))]) (by simp only [rr, List.length_set]) ?_
    refine J_g 1724414 [] [(0, rr 0 ((((((s20.1.set s20.2.2.toNat ({ Name := x22, Low := x24.Low, High := x24.High } : Term)).set s20.2.2.toNat ({ Name := x26.Name, Low := ({ A := w64 (s20.2.1 + 1), B := x26.Low.B, C := x26.Low.C } : Version), High := x26.High } : Term)).set s20.2.2.toNat ({ Name := x28.Name, Low := ({ A := x28.Low.A, B := w64 ((w64 (s20.2.1 + 1)) + 1), C := x28.Low.C } : Version), High := x28.High } : Term)).set s20.2.2.toNat ({ Name := x30.Name, Low := ({ A := x30.Low.A, B := x30.Low.B, C := w64 ((w64 ((w64 (s20.2.1 + 1)) + 1)) + 1) } : Version), High := x30.High } : Term)).set s20.2.2.toNat ({ Name := x32.Name, Low := x32.Low, High := ({ A := w64 ((w64 ((w64 ((w64 (s20.2.1 + 1)) + 1)) + 1)) + 1), B := x32.High.B, C := x32.High.C } : Version) } : Term)).set s20.2.2.toNat ({ Name := x34.Name, Low := x34.Low, High := ({ A := x34.High.A, B := w64 ((w64 ((w64 ((w64 ((w64 (s20.2.1 + 1)) + 1)) + 1)) + 1)) + 1), C := x34.High.C } : Version) } : Term))), (1, iv (w64 ((w64 ((w64 ((w64 ((w64 ((w64 (s20.2.1 + 1)) + 1)) + 1)) + 1)) + 1)) + 1))), (5, iv s20.2.2)] [(0, rE 7 Term.enc ((((((s20.1.set s20.2.2.toNat ({ Name := x22, Low := x24.Low, High := x24.High } : Term)).set s20.2.2.toNat ({ Name := x26.Name, Low := ({ A := w64 (s20.2.1 + 1), B := x26.Low.B, C := x26.Low.C } : Version), High := x26.High } : Term)).set s20.2.2.toNat ({ Name := x28.Name, Low := ({ A := x28.Low.A, B := w64 ((w64 (s20.2.1 + 1)) + 1), C := x28.Low.C } : Version), High := x28.High } : Term)).set s20.2.2.toNat ({ Name := x30.Name, Low := ({ A := x30.Low.A, B := x30.Low.B, C := w64 ((w64 ((w64 (s20.2.1 + 1)) + 1)) + 1) } : Version), High := x30.High } : Term)).set s20.2.2.toNat ({ Name := x32.Name, Low := x32.Low, High := ({ A := w64 ((w64 ((w64 ((w64 (s20.2.1 + 1)) + 1)) + 1)) + 1), B := x32.High.B, C := x32.High.C } : Version) } : Term)).set s20.2.2.toNat ({ Name := x34.Name, Low := x34.Low, High := ({ A := x34.High.A, B := w64 ((w64 ((w64 ((w64 ((w64 (s20.2.1 + 1)) + 1)) + 1)) + 1)) + 1), C := x34.High.C } : Version) } : Term)))] orcN ?_
    refine J_bind (fun x36 h37 => ?_)
    refine J_g 3448830 [] [(0, rr 0 ((((((s20.1.set s20.2.2.toNat ({ Name := x22, Low := x24.Low, High := x24.High } : Term)).set s20.2.2.toNat ({ Name := x26.Name, Low := ({ A := w64 (s20.2.1 + 1), B := x26.Low.B, C := x26.Low.C } : Version), High := x26.High } : Term)).set s20.2.2.toNat ({ Name := x28.Name, Low := ({ A := x28.Low.A, B := w64 ((w64 (s20.2.1 + 1)) + 1), C := x28.Low.C } : Version), High := x28.High } : Term)).set s20.2.2.toNat ({ Name := x30.Name, Low := ({ A := x30.Low.A, B := x30.Low.B, C := w64 ((w64 ((w64 (s20.2.1 + 1)) + 1)) + 1) } : Version), High := x30.High } : Term)).set s20.2.2.toNat ({ Name := x32.Name, Low := x32.Low, High := ({ A := w64 ((w64 ((w64 ((w64 (s20.2.1 + 1)) + 1)) + 1)) + 1), B := x32.High.B, C := x32.High.C } : Version) } : Term)).set s20.2.2.toNat ({ Name := x34.Name, Low := x34.Low, High := ({ A := x34.High.A, B := w64 ((w64 ((w64 ((w64 ((w64 (s20.2.1 + 1)) + 1)) + 1)) + 1)) + 1), C := x34.High.C } : Version) } : Term))), (1, iv (w64 ((w64 ((w64 ((w64 ((w64 ((w64 (s20.2.1 + 1)) + 1)) + 1)) + 1)) + 1)) + 1))), (5, iv s20.2.2)] [(0, rE 7 Term.enc (((((((s20.1.set s20.2.2.toNat ({ Name := x22, Low := x24.Low, High := x24.High } : Term)).set s20.2.2.toNat ({ Name := x26.Name, Low := ({ A := w64 (s20.2.1 + 1), B := x26.Low.B, C := x26.Low.C } : Version), High := x26.High } : Term)).set s20.2.2.toNat ({ Name := x28.Name, Low := ({ A := x28.Low.A, B := w64 ((w64 (s20.2.1 + 1)) + 1), C := x28.Low.C } : Version), High := x28.High } : Term)).set s20.2.2.toNat ({ Name := x30.Name, Low := ({ A := x30.Low.A, B := x30.Low.B, C := w64 ((w64 ((w64 (s20.2.1 + 1)) + 1)) + 1) } : Version), High := x30.High } : Term)).set s20.2.2.toNat ({ Name := x32.Name, Low := x32.Low, High := ({ A := w64 ((w64 ((w64 ((w64 (s20.2.1 + 1)) + 1)) + 1)) + 1), B := x32.High.B, C := x32.High.C } : Version) } : Term)).set s20.2.2.toNat ({ Name := x34.Name, Low := x34.Low, High := ({ A := x34.High.A, B := w64 ((w64 ((w64 ((w64 ((w64 (s20.2.1 + 1)) + 1)) + 1)) + 1)) + 1), C := x34.High.C } : Version) } : Term)).set s20.2.2.toNat ({ Name := x36.Name, Low := x36.Low, High := ({ A := x36.High.A, B := x36.High.B, C := w64 ((w64 ((w64 ((w64 ((w64 ((w64 (s20.2.1 + 1)) + 1)) + 1)) + 1)) + 1)) + 1) } : Version) } : Term)))] (orcC 3 (x_ixr (kk := .i64) 38 43 7 0 Term.enc (.tmp 60) (.tmp 61) h37) (orcD 6 (x_st (b := ({ Name := x36.Name, Low := x36.Low, High := ({ A := x36.High.A, B := x36.High.B, C := w64 ((w64 ((w64 ((w64 ((w64 ((w64 (s20.2.1 + 1)) + 1)) + 1)) + 1)) + 1)) + 1) } : Version) } : Term)) 2 7 0 6 Term.enc (iv (w64 ((w64 ((w64 ((w64 ((w64 ((w64 (s20.2.1 + 1)) + 1)) + 1)) + 1)) + 1)) + 1))) (.tmp 65) (.tmp 62) h37 rfl) orcN)) ?_
    refine J_st (σ' := St.mk' [(0, rr 0 (((((((s20.1.set s20.2.2.toNat ({ Name := x22, Low := x24.Low, High := x24.High } : Term)).set s20.2.2.toNat ({ Name := x26.Name, Low := ({ A := w64 (s20.2.1 + 1), B := x26.Low.B, C := x26.Low.C } : Version), High := x26.High } : Term)).set s20.2.2.toNat ({ Name := x28.Name, Low := ({ A := x28.Low.A, B := w64 ((w64 (s20.2.1 + 1)) + 1), C := x28.Low.C } : Version), High := x28.High } : Term)).set s20.2.2.toNat ({ Name := x30.Name, Low := ({ A := x30.Low.A, B := x30.Low.B, C := w64 ((w64 ((w64 (s20.2.1 + 1)) + 1)) + 1) } : Version), High := x30.High } : Term)).set s20.2.2.toNat ({ Name := x32.Name, Low := x32.Low, High := ({ A := w64 ((w64 ((w64 ((w64 (s20.2.1 + 1)) + 1)) + 1)) + 1), B := x32.High.B, C := x32.High.C } : Version) } : Term)).set s20.2.2.toNat ({ Name := x34.Name, Low := x34.Low, High := ({ A := x34.High.A, B := w64 ((w64 ((w64 ((w64 ((w64 (s20.2.1 + 1)) + 1)) + 1)) + 1)) + 1), C := x34.High.C } : Version) } : Term)).set s20.2.2.toNat ({ Name := x36.Name, Low := x36.Low, High := ({ A := x36.High.A, B := x36.High.B, C := w64 ((w64 ((w64 ((w64 ((w64 ((w64 (s20.2.1 + 1)) + 1)) + 1)) + 1)) + 1)) + 1) } : Version) } : Term))), (1, iv (w64 ((w64 ((w64 ((w64 ((w64 ((w64 (s20.2.1 + 1)) + 1)) + 1)) + 1)) + 1)) + 1))), (5, iv s20.2.2)] [(0, rE 7 Term.enc (((((((s20.1.set s20.2.2.toNat ({ Name := x22, Low := x24.Low, High := x24.High } : Term)).set s20.2.2.toNat ({ Name := x26.Name, Low := ({ A := w64 (s20.2.1 + 1), B := x26.Low.B, C := x26.Low.C } : Version), High := x26.High } : Term)).set s20.2.2.toNat ({ Name := x28.Name, Low := ({ A := x28.Low.A, B := w64 ((w64 (s20.2.1 + 1)) + 1), C := x28.Low.C } : Version), High := x28.High } : Term)).set s20.2.2.toNat ({ Name := x30.Name, Low := ({ A := x30.Low.A, B := x30.Low.B, C := w64 ((w64 ((w64 (s20.2.1 + 1)) + 1)) + 1) } : Version), High := x30.High } : Term)).set s20.2.2.toNat ({ Name := x32.Name, Low := x32.Low, High := ({ A := w64 ((w64 ((w64 ((w64 (s20.2.1 + 1)) + 1)) + 1)) + 1), B := x32.High.B, C := x32.High.C } : Version) } : Term)).set s20.2.2.toNat ({ Name := x34.Name, Low := x34.Low, High := ({ A := x34.High.A, B := w64 ((w64 ((w64 ((w64 ((w64 (s20.2.1 + 1)) + 1)) + 1)) + 1)) + 1), C := x34.High.C } : Version) } : Term)).set s20.2.2.toNat ({ Name := x36.Name, Low := x36.Low, High := ({ A := x36.High.A, B := x36.High.B, C := w64 ((w64 ((w64 ((w64 ((w64 ((w64 (s20.2.1 + 1)) + 1)) + 1)) + 1)) + 1)) + 1) } : Version) } : Term)))]) (by simp only [rr, List.length_set]) ?_
    refine J_g 3448831 [] [(0, rr 0 (((((((s20.1.set s20.2.2.toNat ({ Name := x22, Low := x24.Low, High := x24.High } : Term)).set s20.2.2.toNat ({ Name := x26.Name, Low := ({ A := w64 (s20.2.1 + 1), B := x26.Low.B, C := x26.Low.C } : Version), High := x26.High } : Term)).set s20.2.2.toNat ({ Name := x28.Name, Low := ({ A := x28.Low.A, B := w64 ((w64 (s20.2.1 + 1)) + 1), C := x28.Low.C } : Version), High := x28.High } : Term)).set s20.2.2.toNat ({ Name := x30.Name, Low := ({ A := x30.Low.A, B := x30.Low.B, C := w64 ((w64 ((w64 (s20.2.1 + 1)) + 1)) + 1) } : Version), High := x30.High } : Term)).set s20.2.2.toNat ({ Name := x32.Name, Low := x32.Low, High := ({ A := w64 ((w64 ((w64 ((w64 (s20.2.1 + 1)) + 1)) + 1)) + 1), B := x32.High.B, C := x32.High.C } : Version) } : Term)).set s20.2.2.toNat ({ Name := x34.Name, Low := x34.Low, High := ({ A := x34.High.A, B := w64 ((w64 ((w64 ((w64 ((w64 (s20.2.1 + 1)) + 1)) + 1)) + 1)) + 1), C := x34.High.C } : Version) } : Term)).set s20.2.2.toNat ({ Name := x36.Name, Low := x36.Low, High := ({ A := x36.High.A, B := x36.High.B, C := w64 ((w64 ((w64 ((w64 ((w64 ((w64 (s20.2.1 + 1)) + 1)) + 1)) + 1)) + 1)) + 1) } : Version) } : Term))), (1, iv (w64 ((w64 ((w64 ((w64 ((w64 ((w64 ((w64 (s20.2.1 + 1)) + 1)) + 1)) + 1)) + 1)) + 1)) + 1))), (5, iv s20.2.2)] [(0, rE 7 Term.enc (((((((s20.1.set s20.2.2.toNat ({ Name := x22, Low := x24.Low, High := x24.High } : Term)).set s20.2.2.toNat ({ Name := x26.Name, Low := ({ A := w64 (s20.2.1 + 1), B := x26.Low.B, C := x26.Low.C } : Version), High := x26.High } : Term)).set s20.2.2.toNat ({ Name := x28.Name, Low := ({ A := x28.Low.A, B := w64 ((w64 (s20.2.1 + 1)) + 1), C := x28.Low.C } : Version), High := x28.High } : Term)).set s20.2.2.toNat ({ Name := x30.Name, Low := ({ A := x30.Low.A, B := x30.Low.B, C := w64 ((w64 ((w64 (s20.2.1 + 1)) + 1)) + 1) } : Version), High := x30.High } : Term)).set s20.2.2.toNat ({ Name := x32.Name, Low := x32.Low, High := ({ A := w64 ((w64 ((w64 ((w64 (s20.2.1 + 1)) + 1)) + 1)) + 1), B := x32.High.B, C := x32.High.C } : Version) } : Term)).set s20.2.2.toNat ({ Name := x34.Name, Low := x34.Low, High := ({ A := x34.High.A, B := w64 ((w64 ((w64 ((w64 ((w64 (s20.2.1 + 1)) + 1)) + 1)) + 1)) + 1), C := x34.High.C } : Version) } : Term)).set s20.2.2.toNat ({ Name := x36.Name, Low := x36.Low, High := ({ A := x36.High.A, B := x36.High.B, C := w64 ((w64 ((w64 ((w64 ((w64 ((w64 (s20.2.1 + 1)) + 1)) + 1)) + 1)) + 1)) + 1) } : Version) } : Term)))] orcN ?_
    refine J_g 211 [] [(0, rr 0 (((((((s20.1.set s20.2.2.toNat ({ Name := x22, Low := x24.Low, High := x24.High } : Term)).set s20.2.2.toNat ({ Name := x26.Name, Low := ({ A := w64 (s20.2.1 + 1), B := x26.Low.B, C := x26.Low.C } : Version), High := x26.High } : Term)).set s20.2.2.toNat ({ Name := x28.Name, Low := ({ A := x28.Low.A, B := w64 ((w64 (s20.2.1 + 1)) + 1), C := x28.Low.C } : Version), High := x28.High } : Term)).set s20.2.2.toNat ({ Name := x30.Name, Low := ({ A := x30.Low.A, B := x30.Low.B, C := w64 ((w64 ((w64 (s20.2.1 + 1)) + 1)) + 1) } : Version), High := x30.High } : Term)).set s20.2.2.toNat ({ Name := x32.Name, Low := x32.Low, High := ({ A := w64 ((w64 ((w64 ((w64 (s20.2.1 + 1)) + 1)) + 1)) + 1), B := x32.High.B, C := x32.High.C } : Version) } : Term)).set s20.2.2.toNat ({ Name := x34.Name, Low := x34.Low, High := ({ A := x34.High.A, B := w64 ((w64 ((w64 ((w64 ((w64 (s20.2.1 + 1)) + 1)) + 1)) + 1)) + 1), C := x34.High.C } : Version) } : Term)).set s20.2.2.toNat ({ Name := x36.Name, Low := x36.Low, High := ({ A := x36.High.A, B := x36.High.B, C := w64 ((w64 ((w64 ((w64 ((w64 ((w64 (s20.2.1 + 1)) + 1)) + 1)) + 1)) + 1)) + 1) } : Version) } : Term))), (1, iv (w64 ((w64 ((w64 ((w64 ((w64 ((w64 ((w64 (s20.2.1 + 1)) + 1)) + 1)) + 1)) + 1)) + 1)) + 1))), (5, iv (w64 (s20.2.2 + 1)))] [(0, rE 7 Term.enc (((((((s20.1.set s20.2.2.toNat ({ Name := x22, Low := x24.Low, High := x24.High } : Term)).set s20.2.2.toNat ({ Name := x26.Name, Low := ({ A := w64 (s20.2.1 + 1), B := x26.Low.B, C := x26.Low.C } : Version), High := x26.High } : Term)).set s20.2.2.toNat ({ Name := x28.Name, Low := ({ A := x28.Low.A, B := w64 ((w64 (s20.2.1 + 1)) + 1), C := x28.Low.C } : Version), High := x28.High } : Term)).set s20.2.2.toNat ({ Name := x30.Name, Low := ({ A := x30.Low.A, B := x30.Low.B, C := w64 ((w64 ((w64 (s20.2.1 + 1)) + 1)) + 1) } : Version), High := x30.High } : Term)).set s20.2.2.toNat ({ Name := x32.Name, Low := x32.Low, High := ({ A := w64 ((w64 ((w64 ((w64 (s20.2.1 + 1)) + 1)) + 1)) + 1), B := x32.High.B, C := x32.High.C } : Version) } : Term)).set s20.2.2.toNat ({ Name := x34.Name, Low := x34.Low, High := ({ A := x34.High.A, B := w64 ((w64 ((w64 ((w64 ((w64 (s20.2.1 + 1)) + 1)) + 1)) + 1)) + 1), C := x34.High.C } : Version) } : Term)).set s20.2.2.toNat ({ Name := x36.Name, Low := x36.Low, High := ({ A := x36.High.A, B := x36.High.B, C := w64 ((w64 ((w64 ((w64 ((w64 ((w64 (s20.2.1 + 1)) + 1)) + 1)) + 1)) + 1)) + 1) } : Version) } : Term)))] orcN ?_
    exact J_q (J_b (ih (((((((s20.1.set s20.2.2.toNat ({ Name := x22, Low := x24.Low, High := x24.High } : Term)).set s20.2.2.toNat ({ Name := x26.Name, Low := ({ A := w64 (s20.2.1 + 1), B := x26.Low.B, C := x26.Low.C } : Version), High := x26.High } : Term)).set s20.2.2.toNat ({ Name := x28.Name, Low := ({ A := x28.Low.A, B := w64 ((w64 (s20.2.1 + 1)) + 1), C := x28.Low.C } : Version), High := x28.High } : Term)).set s20.2.2.toNat ({ Name := x30.Name, Low := ({ A := x30.Low.A, B := x30.Low.B, C := w64 ((w64 ((w64 (s20.2.1 + 1)) + 1)) + 1) } : Version), High := x30.High } : Term)).set s20.2.2.toNat ({ Name := x32.Name, Low := x32.Low, High := ({ A := w64 ((w64 ((w64 ((w64 (s20.2.1 + 1)) + 1)) + 1)) + 1), B := x32.High.B, C := x32.High.C } : Version) } : Term)).set s20.2.2.toNat ({ Name := x34.Name, Low := x34.Low, High := ({ A := x34.High.A, B := w64 ((w64 ((w64 ((w64 ((w64 (s20.2.1 + 1)) + 1)) + 1)) + 1)) + 1), C := x34.High.C } : Version) } : Term)).set s20.2.2.toNat ({ Name := x36.Name, Low := x36.Low, High := ({ A := x36.High.A, B := x36.High.B, C := w64 ((w64 ((w64 ((w64 ((w64 ((w64 (s20.2.1 + 1)) + 1)) + 1)) + 1)) + 1)) + 1) } : Version) } : Term), w64 ((w64 ((w64 ((w64 ((w64 ((w64 ((w64 (s20.2.1 + 1)) + 1)) + 1)) + 1)) + 1)) + 1)) + 1), w64 (s20.2.2 + 1)))) rfl
  · exact J_qw (hk (s20.1, s20.2.1)) rfl

theorem laws_markTermSr.ok (a1 : (List Term)) (a2 : Int) : Ok Try.prog 25 [rr 0 a1, iv a2] [rE 7 Term.enc a1] ((laws_markTermSr a1 a2).map fun r => (iv r.1, [rE 7 Term.enc r.2])) := by
  refine Ok_of3 c25 Try.f25 1 69 (fun q => ?_)
  unfold laws_markTermSr
  refine J_g 2 [] [(0, rr 0 a1), (1, iv a2)] [(0, rE 7 Term.enc a1)] orcN ?_
  refine J_g 12 [] [(0, rr 0 a1), (1, iv a2), (5, iv 0)] [(0, rE 7 Term.enc a1)] orcN ?_
  refine J_lq (laws_markTermSr_l1.ok q _ (fun v38 => J_j ?_) (a1, a2, 0))
  refine J_g 14 [] [(4, iv v38.2)] [(0, rE 7 Term.enc v38.1)] orcN ?_
  exact J_r1 rfl

noncomputable def c26 : Code := (Try.f26.body).getD .skip

theorem laws_heldTermS_l1.ok (a1 : (List Term)) (q : Wd) (kn : Int → Option (D × List Ent)) (hk : ∀ v : Int, J (q.g Try.prog 26 0 83) c26 (atI c26 7) (St.mk' [(1, iv v)] []) (some v) kn) :
    ∀ s27 : (Int × Int), J (q.g Try.prog 26 0 83) c26 (atI c26 52) (St.mk' [(0, sl 7 Term.enc a1), (1, iv s27.1), (5, iv s27.2)] []) (laws_heldTermS_l1 a1 s27) (Fl.go (fun r : Int => some (iv r, [])) kn) := by
  refine J_lp (fun g ih s27 => ?_)
  unfold laws_heldTermS_l1b
  refine J_g 208 [] [(0, sl 7 Term.enc a1), (1, iv s27.1), (5, iv s27.2), (9, bv (decide (s27.2 < (a1.length : Int))))] [] orcN ?_
  refine J_if2 9 (fun h28 => ?_) (fun h28 => ?_)
  · refine J_bind (fun x29 h30 => ?_)
    refine J_bind (fun x31 h32 => ?_)
    refine J_g 1680 [] [(0, sl 7 Term.enc a1), (1, iv s27.1), (5, iv s27.2), (19, bv (!(seq x29.Name x31)))] [] (orcC 2 (x_ix (kk := .i64) 38 43 7 Term.enc (.tmp 12) (.tmp 13) h30) (orcC 6 (x_c0 [(.tmp 17)] [3] (laws_markText.ok s27.1) h32) orcN)) ?_
    refine J_if2 19 (fun h33 => ?_) (fun h33 => ?_)
    · refine J_g 6724 [] [(4, iv (-1))] [] orcN ?_
      exact J_r1 rfl
    · refine J_g 1682 [] [(0, sl 7 Term.enc a1), (1, iv (w64 (s27.1 + 1))), (5, iv s27.2)] [] orcN ?_
      refine J_bind (fun x34 h35 => ?_)
      refine J_g 6732 [] [(0, sl 7 Term.enc a1), (1, iv (w64 (s27.1 + 1))), (5, iv s27.2), (29, bv (x34.Low.A != (w64 (s27.1 + 1))))] [] (orcC 2 (x_ix (kk := .i64) 38 43 7 Term.enc (.tmp 22) (.tmp 23) h35) orcN) ?_
      refine J_if2 29 (fun h36 => ?_) (fun h36 => ?_)
      · refine J_g 26932 [] [(4, iv (-1))] [] orcN ?_
        exact J_r1 rfl
      · refine J_g 6734 [] [(0, sl 7 Term.enc a1), (1, iv (w64 ((w64 (s27.1 + 1)) + 1))), (5, iv s27.2)] [] orcN ?_
        refine J_bind (fun x37 h38 => ?_)
        refine J_g 26940 [] [(0, sl 7 Term.enc a1), (1, iv (w64 ((w64 (s27.1 + 1)) + 1))), (5, iv s27.2), (39, bv (x37.Low.B != (w64 ((w64 (s27.1 + 1)) + 1))))] [] (orcC 2 (x_ix (kk := .i64) 38 43 7 Term.enc (.tmp 32) (.tmp 33) h38) orcN) ?_
        refine J_if2 39 (fun h39 => ?_) (fun h39 => ?_)
        · refine J_g 107764 [] [(4, iv (-1))] [] orcN ?_
          exact J_r1 rfl
        · refine J_g 26942 [] [(0, sl 7 Term.enc a1), (1, iv (w64 ((w64 ((w64 (s27.1 + 1)) + 1)) + 1))), (5, iv s27.2)] [] orcN ?_
          refine J_bind (fun x40 h41 => ?_)
          refine J_g 107772 [] [(0, sl 7 Term.enc a1), (1, iv (w64 ((w64 ((w64 (s27.1 + 1)) + 1)) + 1))), (5, iv s27.2), (49, bv (x40.Low.C != (w64 ((w64 ((w64 (s27.1 + 1)) + 1)) + 1))))] [] (orcC 2 (x_ix (kk := .i64) 38 43 7 Term.enc (.tmp 42) (.tmp 43) h41) orcN) ?_
          refine J_if2 49 (fun h42 => ?_) (fun h42 => ?_)
          · refine J_g 431092 [] [(4, iv (-1))] [] orcN ?_
            exact J_r1 rfl
          · refine J_g 107774 [] [(0, sl 7 Term.enc a1), (1, iv (w64 ((w64 ((w64 ((w64 (s27.1 + 1)) + 1)) + 1)) + 1))), (5, iv s27.2)] [] orcN ?_
            refine J_bind (fun x43 h44 => ?_)
            refine J_g 431100 [] [(0, sl 7 Term.enc a1), (1, iv (w64 ((w64 ((w64 ((w64 (s27.1 + 1)) + 1)) + 1)) + 1))), (5, iv s27.2), (59, bv (x43.High.A != (w64 ((w64 ((w64 ((w64 (s27.1 + 1)) + 1)) + 1)) + 1))))] [] (orcC 2 (x_ix (kk := .i64) 38 43 7 Term.enc (.tmp 52) (.tmp 53) h44) orcN) ?_
            refine J_if2 59 (fun h45 => ?_) (fun h45 => ?_)
            · refine J_g 1724404 [] [(4, iv (-1))] [] orcN ?_
              exact J_r1 rfl
            · refine J_g 431102 [] [(0, sl 7 Term.enc a1), (1, iv (w64 ((w64 ((w64 ((w64 ((w64 (s27.1 + 1)) + 1)) + 1)) + 1)) + 1))), (5, iv s27.2)] [] orcN ?_
              refine J_bind (fun x46 h47 => ?_)
              refine J_g 1724412 [] [(0, sl 7 Term.enc a1), (1, iv (w64 ((w64 ((w64 ((w64 ((w64 (s27.1 + 1)) + 1)) + 1)) + 1)) + 1))), (5, iv s27.2), (69, bv (x46.High.B != (w64 ((w64 ((w64 ((w64 ((w64 (s27.1 + 1)) + 1)) + 1)) + 1)) + 1))))] [] (orcC 2 (x_ix (kk := .i64) 38 43 7 Term.enc (.tmp 62) (.tmp 63) h47) orcN) ?_
              refine J_if2 69 (fun h48 => ?_) (fun h48 => ?_)
              · refine J_g 6897652 [] [(4, iv (-1))] [] orcN ?_
                exact J_r1 rfl
              · refine J_g 1724414 [] [(0, sl 7 Term.enc a1), (1, iv (w64 ((w64 ((w64 ((w64 ((w64 ((w64 (s27.1 + 1)) + 1)) + 1)) + 1)) + 1)) + 1))), (5, iv s27.2)] [] orcN ?_
                refine J_bind (fun x49 h50 => ?_)
                refine J_g 6897660 [] [(0, sl 7 Term.enc a1), (1, iv (w64 ((w64 ((w64 ((w64 ((w64 ((w64 (s27.1 + 1)) + 1)) + 1)) + 1)) + 1)) + 1))), (5, iv s27.2), (79, bv (x49.High.C != (w64 ((w64 ((w64 ((w64 ((w64 ((w64 (s27.1 + 1)) + 1)) + 1)) + 1)) + 1)) + 1))))] [] (orcC 2 (x_ix (kk := .i64) 38 43 7 Term.enc (.tmp 72) (.tmp 73) h50) orcN) ?_
                refine J_if2 79 (fun h51 => ?_) (fun h51 => ?_)
                · refine J_g 27590644 [] [(4, iv (-1))] [] orcN ?_
                  exact J_r1 rfl
                · refine J_g 3448831 [] [(0, sl 7 Term.enc a1), (1, iv (w64 ((w64 ((w64 ((w64 ((w64 ((w64 ((w64 (s27.1 + 1)) + 1)) + 1)) + 1)) + 1)) + 1)) + 1))), (5, iv s27.2)] [] orcN ?_
                  refine J_g 211 [] [(0, sl 7 Term.enc a1), (1, iv (w64 ((w64 ((w64 ((w64 ((w64 ((w64 ((w64 (s27.1 + 1)) + 1)) + 1)) + 1)) + 1)) + 1)) + 1))), (5, iv (w64 (s27.2 + 1)))] [] orcN ?_
                  exact J_q (J_b (ih (w64 ((w64 ((w64 ((w64 ((w64 ((w64 ((w64 (s27.1 + 1)) + 1)) + 1)) + 1)) + 1)) + 1)) + 1), w64 (s27.2 + 1)))) rfl
  · exact J_qw (hk s27.1) rfl

theorem laws_heldTermS.ok (a1 : (List Term)) (a2 : Int) : Ok Try.prog 26 [sl 7 Term.enc a1, iv a2] [] ((laws_heldTermS a1 a2).map fun r => (iv r, [])) := by
  refine Ok_of3 c26 Try.f26 0 83 (fun q => ?_)
  unfold laws_heldTermS
  refine J_g 2 [] [(0, sl 7 Term.enc a1), (1, iv a2)] [] orcN ?_
  refine J_g 12 [] [(0, sl 7 Term.enc a1), (1, iv a2), (5, iv 0)] [] orcN ?_
  refine J_lqF (K0 := (fun r : Int => some (iv r, []))) (fun _ => rfl) (laws_heldTermS_l1.ok a1 q _ (fun v52 => J_j ?_) (a2, 0))
  refine J_g 14 [] [(4, iv v52)] [] orcN ?_
  exact J_r1 rfl

noncomputable def c5 : Code := (Try.f5.body).getD .skip

theorem laws_FnExactAsksWithout.ok (a1 : (List Term)) (a2 : ByteArray) : Ok Try.prog 5 [sl 7 Term.enc a1, sv a2] [] ((laws_FnExactAsksWithout a1 a2).map fun r => (bv r, [])) := by
  refine Ok_of3 c5 Try.f5 0 77 (fun q => ?_)
  unfold laws_FnExactAsksWithout
  refine J_g 2 [] [(0, sl 7 Term.enc a1), (1, sv a2)] [] orcN ?_
  refine J_g 12 [] [(0, sl 7 Term.enc a1), (1, sv a2), (15, bv (decide ((a2.size : Int) > 1048576)))] [] orcN ?_
  refine J_if2 15 (fun h3 => ?_) (fun h3 => ?_)
  · refine J_g 52 [] [(4, bv true)] [] orcN ?_
    exact J_r1 rfl
  · refine J_g 14 [] [(0, sl 7 Term.enc a1), (1, sv a2), (5, iv 1048576)] [] orcN ?_
    refine J_bind (fun x4 h5 => ?_)
    refine J_g 30 [] [(0, sl 7 Term.enc a1), (1, sv a2), (5, iv x4)] [] (orcC 2 (x_c0 [(.tmp 16), (.tmp 17)] [31, 3] (laws_szTermS.ok a1 1048576) h5) orcN) ?_
    refine J_g 124 [] [(0, sl 7 Term.enc a1), (1, sv a2), (20, bv (decide (x4 < 0)))] [] orcN ?_
    refine J_if2 20 (fun h6 => ?_) (fun h6 => ?_)
    · refine J_g 500 [] [(4, bv true)] [] orcN ?_
      exact J_r1 rfl
    · refine J_bind (fun x7 h8 => ?_)
      refine J_bind (fun x9 h10 => ?_)
      refine J_g 126 [] [(0, sl 7 Term.enc a1), (1, sv a2), (6, rr 1 x9)] [(1, rE 7 Term.enc x9)] (orcC 1 (x_c1 («as» := [sl 7 Term.enc a1]) [(.tmp 21)] [31] false [] [] (.cons (.same rfl) (.nil)) (laws_toTermS.ok a1) h8 (.own 0)) (orcC 3 (x_c1 («as» := [rr 0 x7, sv a2]) [(.tmp 22), (.tmp 23)] [38, 9] true [(0, rE 7 Term.enc x7)] [] (.cons (am_b (.head _) (fun _ => rfl) rfl) (.cons (.same rfl) (.nil))) (spec_AsksWithout.ok x7 a2) h10 (.own 1) (hbor := fun _ => ⟨rfl, (flat_s (flatM (fun _ => (Term.fl _)) _))⟩)) orcN)) ?_
      refine J_bind (fun x11 h12 => ?_)
      refine J_g 254 [] [(0, sl 7 Term.enc a1), (1, sv a2), (6, rr 1 x9), (7, rr 2 x11)] [(1, rE 7 Term.enc x9), (2, rE 7 Term.enc x11)] (orcC 1 (x_c1 («as» := [sl 7 Term.enc a1]) [(.tmp 25)] [31] false [] [] (.cons (.same rfl) (.nil)) (laws_toTermS.ok a1) h12 (.own 2)) orcN) ?_
      refine J_bind (fun x13 h14 => ?_)
      refine J_g 510 [] [(0, sl 7 Term.enc a1), (1, sv a2), (6, rr 1 x9), (7, rr 2 x11), (8, rr 3 x13)] [(1, rE 7 Term.enc x9), (2, rE 7 Term.enc x11), (3, rE 7 Term.enc x13)] (orcC 2 (x_c1 («as» := [rr 2 x11, sv a2]) [(.tmp 27), (.tmp 28)] [38, 9] true [(2, rE 7 Term.enc x11)] [] (.cons (am_b (.head _) (fun _ => rfl) rfl) (.cons (.same rfl) (.nil))) (impl_AsksWithout.ok x11 a2) h14 (.own 3) (hbor := fun _ => ⟨rfl, (flat_s (flatM (fun _ => (Term.fl _)) _))⟩)) orcN) ?_
      refine J_bind (fun x15 h16 => ?_)
      refine J_g 2044 [] [(0, sl 7 Term.enc a1), (1, sv a2), (6, rr 1 x9), (7, rr 2 x11), (8, rr 3 x13), (33, bv (!x15))] [(1, rE 7 Term.enc x9), (2, rE 7 Term.enc x11), (3, rE 7 Term.enc x13)] (orcC 2 (x_c1 («as» := [rr 3 x13, rr 1 x9]) [(.tmp 30), (.tmp 31)] [38, 38] true [(3, rE 7 Term.enc x13), (1, rE 7 Term.enc x9)] [] (.cons (am_b (.head _) (fun _ => rfl) rfl) (.cons (am_b (.tail _ (.head _)) (fun _ => rfl) rfl) (.nil))) (laws_eqTermS.ok x13 x9) h16 (.same rfl rfl) (hbor := fun _ => ⟨rfl, flat_sc⟩)) orcN) ?_
      refine J_if2 33 (fun h17 => ?_) (fun h17 => ?_)
      · refine J_g 8180 [] [(4, bv false)] [] orcN ?_
        exact J_r1 rfl
      · refine J_bind (fun x18 h19 => ?_)
        refine J_bind (fun x20 h21 => ?_)
        refine J_g 4092 [] [(0, sl 7 Term.enc a1), (1, sv a2), (6, rr 1 x9), (7, rr 2 x11), (8, rr 3 x13), (38, bv (!x20))] [(1, rE 7 Term.enc x9), (2, rE 7 Term.enc x11), (3, rE 7 Term.enc x13)] (orcC 2 (x_c1 («as» := [sl 7 Term.enc a1]) [(.tmp 35)] [31] false [] [] (.cons (.same rfl) (.nil)) (laws_toTermS.ok a1) h19 (.own 4)) (orcC 3 (x_c1 («as» := [rr 2 x11, rr 4 x18]) [(.tmp 34), (.tmp 36)] [38, 38] true [(2, rE 7 Term.enc x11), (4, rE 7 Term.enc x18)] [] (.cons (am_b (.head _) (fun _ => rfl) rfl) (.cons (am_b (.tail _ (.head _)) (fun _ => rfl) rfl) (.nil))) (laws_eqTermS.ok x11 x18) h21 (.same rfl rfl) (hbor := fun _ => ⟨rfl, flat_sc⟩)) orcN)) ?_
        refine J_if2 38 (fun h22 => ?_) (fun h22 => ?_)
        · refine J_g 16372 [] [(4, bv false)] [] orcN ?_
          exact J_r1 rfl
        · refine J_g 4094 [] [(0, sl 7 Term.enc a1), (1, sv a2), (6, rr 1 x9), (7, rr 2 x11), (8, rr 3 x13), (9, iv 1)] [(1, rE 7 Term.enc x9), (2, rE 7 Term.enc x11), (3, rE 7 Term.enc x13)] orcN ?_
          refine J_bind (fun x23 h24 => ?_)
          refine J_g 8190 [] [(0, sl 7 Term.enc a1), (1, sv a2), (6, rr 1 x9), (8, rr 3 x13), (9, iv x23.1)] [(1, rE 7 Term.enc x9), (3, rE 7 Term.enc x13)] (orcC 2 (x_c1 («as» := [rr 2 x11, iv 1]) [(.tmp 39), (.tmp 40)] [38, 3] false [(2, rE 7 Term.enc x11)] [2] (.cons (.rf rfl) (.cons (.same rfl) (.nil))) (laws_markTermSr.ok x11 1) h24 (.same rfl rfl)) orcN) ?_
          refine J_join (atI c5 32765) (fun v28 : Bool => St.mk' [(0, sl 7 Term.enc a1), (1, sv a2), (6, rr 1 x9), (8, rr 3 x13), (49, bv v28)] [(1, rE 7 Term.enc x9), (3, rE 7 Term.enc x13)]) (fun v28 => ?_) (fun jv28 => ?_)
          · refine J_if2 49 (fun h29 => ?_) (fun h29 => ?_)
            · refine J_g 131060 [] [(4, bv false)] [] orcN ?_
              exact J_r1 rfl
            · refine J_g 32766 [] [(0, sl 7 Term.enc a1), (1, sv a2), (6, rr 1 x9), (8, rr 3 x13), (10, iv 1)] [(1, rE 7 Term.enc x9), (3, rE 7 Term.enc x13)] orcN ?_
              refine J_bind (fun x30 h31 => ?_)
              refine J_g 65534 [] [(0, sl 7 Term.enc a1), (1, sv a2), (6, rr 1 x9), (8, rr 3 x13), (10, iv x30.1)] [(1, rE 7 Term.enc x9), (3, rE 7 Term.enc x30.2)] (orcC 2 (x_c1 («as» := [rr 3 x13, iv 1]) [(.tmp 50), (.tmp 51)] [38, 3] false [(3, rE 7 Term.enc x13)] [3] (.cons (.rf rfl) (.cons (.same rfl) (.nil))) (laws_markTermSr.ok x13 1) h31 (.same rfl rfl)) orcN) ?_
              refine J_bind (fun u32 h33 => ?_)
              refine J_st (σ' := St.mk' [(0, sl 7 Term.enc a1), (1, sv a2), (6, rr 1 x9), (8, rr 3 x30.2), (10, iv x30.1)] [(1, rE 7 Term.enc x9), (3, rE 7 Term.enc x30.2)]) (by simp only [rr, same_len h33]) ?_
              refine J_g 131070 [] [(0, sl 7 Term.enc a1), (1, sv a2), (6, rr 1 x9), (8, rr 3 x30.2), (10, iv x30.1), (11, iv 1)] [(1, rE 7 Term.enc x9), (3, rE 7 Term.enc x30.2)] orcN ?_
              refine J_bind (fun x34 h35 => ?_)
              refine J_g 262142 [] [(0, sl 7 Term.enc a1), (1, sv a2), (6, rr 1 x9), (8, rr 3 x30.2), (10, iv x30.1), (11, iv x34)] [(1, rE 7 Term.enc x9), (3, rE 7 Term.enc x30.2)] (orcC 2 (x_c1 («as» := [rr 3 x30.2, iv 1]) [(.tmp 53), (.tmp 54)] [38, 3] true [(3, rE 7 Term.enc x30.2)] [] (.cons (am_b (.head _) (fun _ => rfl) rfl) (.cons (.same rfl) (.nil))) (laws_heldTermS.ok x30.2 1) h35 (.same rfl rfl) (hbor := fun _ => ⟨rfl, flat_sc⟩)) orcN) ?_
              refine J_g 1048572 [] [(0, sl 7 Term.enc a1), (1, sv a2), (6, rr 1 x9), (8, rr 3 x30.2), (10, iv x30.1), (11, iv x34), (57, bv (decide (x34 < 0)))] [(1, rE 7 Term.enc x9), (3, rE 7 Term.enc x30.2)] orcN ?_
              refine J_if2 57 (fun h36 => ?_) (fun h36 => ?_)
              · refine J_g 4194292 [] [(4, bv false)] [] orcN ?_
                exact J_r1 rfl
              · refine J_g 2097148 [] [(0, sl 7 Term.enc a1), (1, sv a2), (6, rr 1 x9), (8, rr 3 x30.2), (10, iv x30.1), (60, bv (x34 != x30.1))] [(1, rE 7 Term.enc x9), (3, rE 7 Term.enc x30.2)] orcN ?_
                refine J_if2 60 (fun h37 => ?_) (fun h37 => ?_)
                · refine J_g 8388596 [] [(4, bv false)] [] orcN ?_
                  exact J_r1 rfl
                · refine J_bind (fun x38 h39 => ?_)
                  refine J_bind (fun x40 h41 => ?_)
                  refine J_g 2097150 [] [(6, rr 1 x9), (8, rr 3 x30.2), (10, iv x30.1), (12, rr 5 x40)] [(1, rE 7 Term.enc x9), (3, rE 7 Term.enc x30.2), (5, rE 7 Term.enc x40)] (orcC 1 (x_c1 («as» := [sl 7 Term.enc a1]) [(.tmp 61)] [31] false [] [] (.cons (.same rfl) (.nil)) (laws_toTermS.ok a1) h39 (.own 4)) (orcC 3 (x_c1 («as» := [rr 4 x38, sv a2]) [(.tmp 62), (.tmp 63)] [38, 9] true [(4, rE 7 Term.enc x38)] [] (.cons (am_b (.head _) (fun _ => rfl) rfl) (.cons (.same rfl) (.nil))) (impl_AsksWithout.ok x38 a2) h41 (.own 5) (hbor := fun _ => ⟨rfl, (flat_s (flatM (fun _ => (Term.fl _)) _))⟩)) orcN)) ?_
                  refine J_bind (fun x42 h43 => ?_)
                  refine J_g 8388604 [] [(8, rr 3 x30.2), (10, iv x30.1), (68, bv (!x42))] [(3, rE 7 Term.enc x30.2)] (orcC 2 (x_c1 («as» := [rr 5 x40, rr 1 x9]) [(.tmp 65), (.tmp 66)] [38, 38] true [(5, rE 7 Term.enc x40), (1, rE 7 Term.enc x9)] [] (.cons (am_b (.head _) (fun _ => rfl) rfl) (.cons (am_b (.tail _ (.head _)) (fun _ => rfl) rfl) (.nil))) (laws_eqTermS.ok x40 x9) h43 (.same rfl rfl) (hbor := fun _ => ⟨rfl, flat_sc⟩)) orcN) ?_
                  refine J_if2 68 (fun h44 => ?_) (fun h44 => ?_)
                  · refine J_g 33554420 [] [(4, bv false)] [] orcN ?_
                    exact J_r1 rfl
                  · refine J_g 8388606 [] [(8, rr 3 x30.2), (10, iv x30.1), (11, iv 1)] [(3, rE 7 Term.enc x30.2)] orcN ?_
                    refine J_bind (fun x45 h46 => ?_)
                    refine J_g 16777214 [] [(10, iv x30.1), (11, iv x45)] [] (orcC 2 (x_c1 («as» := [rr 3 x30.2, iv 1]) [(.tmp 69), (.tmp 70)] [38, 3] true [(3, rE 7 Term.enc x30.2)] [] (.cons (am_b (.head _) (fun _ => rfl) rfl) (.cons (.same rfl) (.nil))) (laws_heldTermS.ok x30.2 1) h46 (.same rfl rfl) (hbor := fun _ => ⟨rfl, flat_sc⟩)) orcN) ?_
                    refine J_g 67108860 [] [(10, iv x30.1), (11, iv x45), (73, bv (decide (x45 < 0)))] [] orcN ?_
                    refine J_if2 73 (fun h47 => ?_) (fun h47 => ?_)
                    · refine J_g 268435444 [] [(4, bv false)] [] orcN ?_
                      exact J_r1 rfl
                    · refine J_g 134217724 [] [(76, bv (x45 != x30.1))] [] orcN ?_
                      refine J_if2 76 (fun h48 => ?_) (fun h48 => ?_)
                      · refine J_g 536870900 [] [(4, bv false)] [] orcN ?_
                        exact J_r1 rfl
                      · refine J_g 134217726 [] [(4, bv true)] [] orcN ?_
                        exact J_r1 rfl
          · refine J_ite (fun h25 => ?_) (fun h25 => ?_)
            · refine J_g 32764 [] [(0, sl 7 Term.enc a1), (1, sv a2), (6, rr 1 x9), (8, rr 3 x13), (49, bv true)] [(1, rE 7 Term.enc x9), (3, rE 7 Term.enc x13)] (orcL 2 [(43, bv (decide (x23.1 < 0)))] [] h25 orcN) ?_
              exact J_qw (J_j (jv28 true)) rfl
            · refine J_bind (fun x26 h27 => ?_)
              refine J_g 32764 [] [(0, sl 7 Term.enc a1), (1, sv a2), (6, rr 1 x9), (8, rr 3 x13), (49, bv (!x26))] [(1, rE 7 Term.enc x9), (3, rE 7 Term.enc x13)] (orcL 2 [(43, bv (decide (x23.1 < 0)))] [] h25 (orcH 5 2 44 false (x_c1 («as» := [rr 3 x13, rr 1 x9]) [(.tmp 45), (.tmp 46)] [38, 38] true [(3, rE 7 Term.enc x13), (1, rE 7 Term.enc x9)] [] (.cons (am_b (.head _) (fun _ => rfl) rfl) (.cons (am_b (.tail _ (.head _)) (fun _ => rfl) rfl) (.nil))) (laws_eqTermS.ok x13 x9) h27 (.same rfl rfl) (hbor := fun _ => ⟨rfl, flat_sc⟩)) orcN)) ?_
              exact J_qw (J_j (jv28 (!x26))) rfl

end Go.Told

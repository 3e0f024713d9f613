import Derived.Test.YtedpgkmkdhlcaaaToldAsksWith
import Derived.Test.YtedpgkmkdhlcaaaProg
set_option linter.unusedVariables false
set_option maxRecDepth 4000
namespace Go.Told
open Go Go.Im Go.Proofs

noncomputable def c19 : Code := (Try.f19.body).getD .skip

theorem laws_szTerm.ok (a1 : Term) (a2 : Int) : Ok Try.prog 19 [.ag (Term.enc a1), iv a2] [] ((laws_szTerm a1 a2).map fun r => (iv r, [])) := by
  refine Ok_of3 c19 Try.f19 0 13 (fun q => ?_)
  unfold laws_szTerm
  refine J_g 2 [(0, 0)] [(1, iv a2), (2, pp 0)] [(0, .box (Term.enc a1))] orcN ?_
  refine J_g 6 [] [(1, iv (w64 (a2 - (a1.Name.size : Int))))] [] orcN ?_
  refine J_g 28 [] [(1, iv (w64 (a2 - (a1.Name.size : Int)))), (11, bv (decide ((w64 (a2 - (a1.Name.size : Int))) < 0)))] [] orcN ?_
  refine J_if2 11 (fun h3 => ?_) (fun h3 => ?_)
  · refine J_g 116 [] [(4, iv (-1))] [] orcN ?_
    exact J_r1 rfl
  · refine J_g 30 [] [(4, iv (w64 (a2 - (a1.Name.size : Int))))] [] orcN ?_
    exact J_r1 rfl

noncomputable def c18 : Code := (Try.f18.body).getD .skip

theorem laws_szTermS_l1.ok (a1 : (List Term)) (q : Wd) (kn : Int → Option (D × List Ent)) (hk : ∀ v : Int, J (q.g Try.prog 18 0 27) c18 (atI c18 31) (St.mk' [(1, iv v)] []) (some v) kn) :
    ∀ s10 : (Int × Int), J (q.g Try.prog 18 0 27) c18 (atI c18 244) (St.mk' [(0, sl 7 Term.enc a1), (1, iv s10.1), (5, iv s10.2)] []) (laws_szTermS_l1 a1 s10) (Fl.go (fun r : Int => some (iv r, [])) kn) := by
  refine J_lp (fun g ih s10 => ?_)
  unfold laws_szTermS_l1b
  refine J_g 976 [] [(0, sl 7 Term.enc a1), (1, iv s10.1), (5, iv s10.2), (15, bv (decide (s10.2 < (a1.length : Int))))] [] orcN ?_
  refine J_if2 15 (fun h11 => ?_) (fun h11 => ?_)
  · refine J_bind (fun x12 h13 => ?_)
    refine J_bind (fun x14 h15 => ?_)
    refine J_g 3912 [] [(0, sl 7 Term.enc a1), (1, iv x14), (5, iv s10.2)] [] (orcC 2 (x_ix (kk := .i64) 31 35 7 Term.enc (.tmp 18) (.tmp 19) h13) (orcC 5 (x_c0 [(.tmp 21), (.tmp 22)] [35, 3] (laws_szTerm.ok x12 s10.1) h15) orcN)) ?_
    refine J_g 7826 [] [(0, sl 7 Term.enc a1), (1, iv x14), (5, iv s10.2), (25, bv (decide (x14 < 0)))] [] orcN ?_
    refine J_if2 25 (fun h16 => ?_) (fun h16 => ?_)
    · refine J_g 31308 [] [(4, iv (-1))] [] orcN ?_
      exact J_r1 rfl
    · refine J_g 979 [] [(0, sl 7 Term.enc a1), (1, iv x14), (5, iv (w64 (s10.2 + 1)))] [] orcN ?_
      exact J_q (J_b (ih (x14, w64 (s10.2 + 1)))) rfl
  · exact J_qw (hk s10.1) rfl

theorem laws_szTermS.ok (a1 : (List Term)) (a2 : Int) : Ok Try.prog 18 [sl 7 Term.enc a1, iv a2] [] ((laws_szTermS a1 a2).map fun r => (iv r, [])) := by
  refine Ok_of3 c18 Try.f18 0 27 (fun q => ?_)
  unfold laws_szTermS
  refine J_g 2 [] [(0, sl 7 Term.enc a1), (1, iv a2)] [] orcN ?_
  refine J_g 6 [] [(0, sl 7 Term.enc a1), (1, iv (w64 (a2 - (a1.length : Int))))] [] orcN ?_
  refine J_g 28 [] [(0, sl 7 Term.enc a1), (1, iv (w64 (a2 - (a1.length : Int)))), (11, bv (decide ((w64 (a2 - (a1.length : Int))) < 0)))] [] orcN ?_
  refine J_if2 11 (fun h3 => ?_) (fun h3 => ?_)
  · refine J_g 116 [] [(4, iv (-1))] [] orcN ?_
    exact J_r1 rfl
  · refine J_g 60 [] [(0, sl 7 Term.enc a1), (1, iv (w64 (a2 - (a1.length : Int)))), (5, iv 0)] [] orcN ?_
    refine J_lqF (K0 := (fun r : Int => some (iv r, []))) (fun _ => rfl) (laws_szTermS_l1.ok a1 q _ (fun v17 => J_j ?_) (w64 (a2 - (a1.length : Int)), 0))
    refine J_g 62 [] [(4, iv v17)] [] orcN ?_
    exact J_r1 rfl

noncomputable def c62 : Code := (Try.f62.body).getD .skip

theorem laws_toVersion.ok (a1 : Version) : Ok Try.prog 62 [.ag (Version.enc a1)] [] ((laws_toVersion a1).map fun r => (.ag (Version.enc r), [])) := by
  refine Ok_of3 c62 Try.f62 0 14 (fun q => ?_)
  unfold laws_toVersion
  refine J_g 2 [(0, 0), (1, 1)] [(1, pp 0), (2, pp 1)] [(0, .box (Version.enc a1)), (1, .box [iv 0, iv 0, iv 0])] orcN ?_
  refine J_g 6 [(0, 2)] [(1, pp 0), (2, pp 1), (3, pp 2)] [(0, .box (Version.enc a1)), (1, .box [iv 0, iv 0, iv 0]), (2, .box [iv 0, iv 0, iv 0])] orcN ?_
  refine J_g 14 [] [(1, pp 0), (2, pp 1), (3, pp 2)] [(0, .box (Version.enc a1)), (1, .box [iv 0, iv 0, iv 0]), (2, .box [iv a1.A, iv 0, iv 0])] orcN ?_
  refine J_g 30 [] [(1, pp 0), (2, pp 1), (3, pp 2)] [(0, .box (Version.enc a1)), (1, .box [iv 0, iv 0, iv 0]), (2, .box [iv a1.A, iv a1.B, iv 0])] orcN ?_
  refine J_g 62 [] [(2, pp 1), (3, pp 2)] [(1, .box [iv 0, iv 0, iv 0]), (2, .box (Version.enc a1))] orcN ?_
  refine J_g 126 [] [(2, pp 1)] [(1, .box (Version.enc a1))] orcN ?_
  exact J_r1 rfl

noncomputable def c22 : Code := (Try.f22.body).getD .skip

theorem laws_toTerm.ok (a1 : Term) : Ok Try.prog 22 [.ag (Term.enc a1)] [] ((laws_toTerm a1).map fun r => (.ag (Term.enc r), [])) := by
  refine Ok_of3 c22 Try.f22 0 16 (fun q => ?_)
  unfold laws_toTerm
  refine J_g 2 [(0, 0), (1, 1)] [(1, pp 0), (2, pp 1)] [(0, .box (Term.enc a1)), (1, .box [sv ByteArray.empty, iv 0, iv 0, iv 0, iv 0, iv 0, iv 0])] orcN ?_
  refine J_g 6 [(0, 2)] [(1, pp 0), (2, pp 1), (3, pp 2)] [(0, .box (Term.enc a1)), (1, .box [sv ByteArray.empty, iv 0, iv 0, iv 0, iv 0, iv 0, iv 0]), (2, .box [sv ByteArray.empty, iv 0, iv 0, iv 0, iv 0, iv 0, iv 0])] orcN ?_
  refine J_g 14 [] [(1, pp 0), (2, pp 1), (3, pp 2)] [(0, .box (Term.enc a1)), (1, .box [sv ByteArray.empty, iv 0, iv 0, iv 0, iv 0, iv 0, iv 0]), (2, .box [sv a1.Name, iv 0, iv 0, iv 0, iv 0, iv 0, iv 0])] orcN ?_
  refine J_bind (fun x2 h3 => ?_)
  refine J_g 30 [] [(1, pp 0), (2, pp 1), (3, pp 2)] [(0, .box (Term.enc a1)), (1, .box [sv ByteArray.empty, iv 0, iv 0, iv 0, iv 0, iv 0, iv 0]), (2, .box [sv a1.Name, iv x2.A, iv x2.B, iv x2.C, iv 0, iv 0, iv 0])] (orcC 2 (x_c0 [(.tmp 8)] [33] (laws_toVersion.ok a1.Low) h3) orcN) ?_
  refine J_bind (fun x4 h5 => ?_)
  refine J_g 62 [] [(2, pp 1), (3, pp 2)] [(1, .box [sv ByteArray.empty, iv 0, iv 0, iv 0, iv 0, iv 0, iv 0]), (2, .box [sv a1.Name, iv x2.A, iv x2.B, iv x2.C, iv x4.A, iv x4.B, iv x4.C])] (orcC 2 (x_c0 [(.tmp 12)] [33] (laws_toVersion.ok a1.High) h5) orcN) ?_
  refine J_g 126 [] [(2, pp 1)] [(1, .box [sv a1.Name, iv x2.A, iv x2.B, iv x2.C, iv x4.A, iv x4.B, iv x4.C])] orcN ?_
  exact J_r1 rfl

noncomputable def c21 : Code := (Try.f21.body).getD .skip

theorem laws_toTermS_l1.ok (a1 : (List Term)) (q : Wd) (kn : (List Term) → Option (D × List Ent)) (hk : ∀ v : (List Term), J (q.g Try.prog 21 0 23) c21 (atI c21 15) (St.mk' [(3, rr 0 v)] [(0, rE 7 Term.enc v)]) (some v) kn) :
    ∀ s11 : ((List Term) × Int), J (q.g Try.prog 21 0 23) c21 (atI c21 116) (St.mk' [(0, sl 7 Term.enc a1), (3, rr 0 s11.1), (4, iv s11.2)] [(0, rE 7 Term.enc s11.1)]) (laws_toTermS_l1 a1 s11) kn := by
  refine J_lp (fun g ih s11 => ?_)
  unfold laws_toTermS_l1b
  refine J_g 464 [] [(0, sl 7 Term.enc a1), (3, rr 0 s11.1), (4, iv s11.2), (11, bv (decide (s11.2 < (a1.length : Int))))] [(0, rE 7 Term.enc s11.1)] orcN ?_
  refine J_if2 11 (fun h12 => ?_) (fun h12 => ?_)
  · refine J_bind (fun x13 h14 => ?_)
    refine J_bind (fun x15 h16 => ?_)
    refine J_bind (fun x17 h18 => ?_)
    refine J_g 932 [] [(0, sl 7 Term.enc a1), (3, rr 0 s11.1), (4, iv s11.2)] [(0, rE 7 Term.enc (s11.1.set s11.2.toNat x15))] (orcC 4 (x_ix (kk := .i64) 31 35 7 Term.enc (.tmp 16) (.tmp 17) h14) (orcC 6 (x_c0 [(.tmp 19)] [35] (laws_toTerm.ok x13) h16) (orcC 7 (x_ixr (kk := .i64) 38 43 7 0 Term.enc (.tmp 14) (.tmp 15) h18) (orcD 8 (x_st (b := x15) 43 7 0 0 Term.enc (.ag (Term.enc x15)) (.tmp 21) (.tmp 20) h18 rfl) orcN)))) ?_
    refine J_st (σ' := St.mk' [(0, sl 7 Term.enc a1), (3, rr 0 (s11.1.set s11.2.toNat x15)), (4, iv s11.2)] [(0, rE 7 Term.enc (s11.1.set s11.2.toNat x15))]) (by simp only [rr, List.length_set]) ?_
    refine J_g 467 [] [(0, sl 7 Term.enc a1), (3, rr 0 (s11.1.set s11.2.toNat x15)), (4, iv (w64 (s11.2 + 1)))] [(0, rE 7 Term.enc (s11.1.set s11.2.toNat x15))] orcN ?_
    exact J_q (J_b (ih (s11.1.set s11.2.toNat x15, w64 (s11.2 + 1)))) rfl
  · exact J_qw (hk s11.1) rfl

theorem laws_toTermS.ok (a1 : (List Term)) : Ok Try.prog 21 [sl 7 Term.enc a1] [] ((laws_toTermS a1).map fun r => (so 7 Term.enc r, [])) := by
  refine Ok_of3 c21 Try.f21 0 23 (fun q => ?_)
  unfold laws_toTermS
  refine J_g 2 [] [(0, sl 7 Term.enc a1)] [] orcN ?_
  refine J_bind (fun x2 h3 => ?_)
  refine J_g 6 [] [(0, sl 7 Term.enc a1), (3, rr 0 x2)] [(0, rE 7 Term.enc x2)] (orcC 2 (x_mk 38 43 7 64 0 Term.enc ({ Name := ByteArray.empty, Low := ({ A := 0, B := 0, C := 0 } : Version), High := ({ A := 0, B := 0, C := 0 } : Version) } : Term) (.tmp 6) h3 (.keep rfl (.keep rfl (.keep rfl (.keep rfl (.keep rfl (.keep rfl (.keep rfl (.nil))))))))) orcN) ?_
  refine J_g 28 [] [(0, sl 7 Term.enc a1), (3, rr 0 x2), (4, iv 0)] [(0, rE 7 Term.enc x2)] orcN ?_
  refine J_lq (laws_toTermS_l1.ok a1 q _ (fun v19 => J_j ?_) (x2, 0))
  refine J_g 30 [] [(2, rr 0 v19)] [(0, rE 7 Term.enc v19)] orcN ?_
  exact J_rm (ds := [rr 0 v19]) (ds' := [so 7 Term.enc v19]) (.cons (.cell (.move (.head _) (List.length_map _) (by decide) (.nil))) (.nil) (by decide)) rfl

noncomputable def c20 : Code := (Try.f20.body).getD .skip

theorem spec_AsksWith_l1.ok (a1 : (List Term)) (a2 : Term) (q : Wd) (kn : ((List Term) × Bool) → Option (D × List Ent)) (hk : ∀ v : ((List Term) × Bool), J (q.g Try.prog 20 0 43) c20 (atI c20 31) (St.mk' [(3, pp 0), (5, rr 1 v.1), (6, bv v.2)] [(0, .box (Term.enc a2)), (1, rE 7 Term.enc v.1)]) (some v) kn) :
    ∀ s15 : ((List Term) × Bool × Int), J (q.g Try.prog 20 0 43) c20 (atI c20 244) (St.mk' [(0, sl 7 Term.enc a1), (3, pp 0), (5, rr 1 s15.1), (6, bv s15.2.1), (7, iv s15.2.2)] [(0, .box (Term.enc a2)), (1, rE 7 Term.enc s15.1)]) (spec_AsksWith_l1 a1 a2 s15) kn := by
  refine J_lp (fun g ih s15 => ?_)
  unfold spec_AsksWith_l1b
  refine J_g 976 [] [(0, sl 7 Term.enc a1), (3, pp 0), (5, rr 1 s15.1), (6, bv s15.2.1), (7, iv s15.2.2), (12, bv (decide (s15.2.2 < (a1.length : Int))))] [(0, .box (Term.enc a2)), (1, rE 7 Term.enc s15.1)] orcN ?_
  refine J_if2 12 (fun h16 => ?_) (fun h16 => ?_)
  · refine J_bind (fun x17 h18 => ?_)
    refine J_g 3912 [] [(0, sl 7 Term.enc a1), (3, pp 0), (5, rr 1 s15.1), (6, bv s15.2.1), (7, iv s15.2.2), (22, bv (!(seq x17.Name a2.Name)))] [(0, .box (Term.enc a2)), (1, rE 7 Term.enc s15.1)] (orcC 2 (x_ix (kk := .i64) 38 43 7 Term.enc (.tmp 15) (.tmp 16) h18) orcN) ?_
    refine J_join (aft c20 1956) (fun v27 : ((List Term) × Bool) => St.mk' [(0, sl 7 Term.enc a1), (3, pp 0), (5, rr 3 v27.1), (6, bv v27.2), (7, iv s15.2.2)] [(0, .box (Term.enc a2)), (3, rE 7 Term.enc v27.1)]) (fun v27 => ?_) (fun jv27 => ?_)
    · refine J_g 979 [] [(0, sl 7 Term.enc a1), (3, pp 0), (5, rr 3 v27.1), (6, bv v27.2), (7, iv (w64 (s15.2.2 + 1)))] [(0, .box (Term.enc a2)), (3, rE 7 Term.enc v27.1)] orcN ?_
      refine J_ren 3 1 (Nat.le_of_ble_eq_true rfl) (Nat.le_of_ble_eq_true rfl) ?_
      exact J_q (J_b (ih (v27.1, v27.2, w64 (s15.2.2 + 1)))) rfl
    · refine J_if2 22 (fun h19 => ?_) (fun h19 => ?_)
      · refine J_bind (fun x20 h21 => ?_)
        refine J_bind (fun x22 h23 => ?_)
        refine J_g 7826 [] [(0, sl 7 Term.enc a1), (3, pp 0), (5, rr 3 x22), (6, bv s15.2.1), (7, iv s15.2.2)] [(0, .box (Term.enc a2)), (3, rE 7 Term.enc x22)] (orcC 3 (x_ix (kk := .i64) 38 43 7 Term.enc (.tmp 24) (.tmp 25) h21) (orcC 5 (x_bp 38 43 7 2 Term.enc [x20] [0] [(.tmp 27)] [.ag (Term.enc x20)]) (orcC 6 (x_ap 38 38 43 43 7 64 3 1 2 Term.enc (.tmp 23) (.tmp 28) h23) orcN))) ?_
        exact J_qw (J_j (jv27 (x22, s15.2.1))) rfl
      · refine J_g 15654 [] [(0, sl 7 Term.enc a1), (3, pp 0), (5, rr 1 s15.1), (6, bv s15.2.1), (7, iv s15.2.2), (31, bv (!s15.2.1))] [(0, .box (Term.enc a2)), (1, rE 7 Term.enc s15.1)] orcN ?_
        refine J_if2 31 (fun h24 => ?_) (fun h24 => ?_)
        · refine J_bind (fun x25 h26 => ?_)
          refine J_g 62620 [] [(0, sl 7 Term.enc a1), (3, pp 0), (5, rr 3 x25), (7, iv s15.2.2)] [(0, .box (Term.enc a2)), (3, rE 7 Term.enc x25)] (orcC 2 (x_bp 38 43 7 2 Term.enc [a2] [0] [(.tmp 33)] [.ag (Term.enc a2)]) (orcC 3 (x_ap 38 38 43 43 7 64 3 1 2 Term.enc (.tmp 32) (.tmp 34) h26) orcN)) ?_
          refine J_g 62621 [] [(0, sl 7 Term.enc a1), (3, pp 0), (5, rr 3 x25), (6, bv true), (7, iv s15.2.2)] [(0, .box (Term.enc a2)), (3, rE 7 Term.enc x25)] orcN ?_
          exact J_qw (J_j (jv27 (x25, true))) rfl
        · refine J_ren 1 3 (Nat.le_of_ble_eq_true rfl) (Nat.le_of_ble_eq_true rfl) ?_
          exact J_qw (J_j (jv27 (s15.1, s15.2.1))) rfl
  · exact J_qw (hk (s15.1, s15.2.1)) rfl

theorem spec_AsksWith.ok (a1 : (List Term)) (a2 : Term) : Ok Try.prog 20 [sl 7 Term.enc a1, .ag (Term.enc a2)] [] ((spec_AsksWith a1 a2).map fun r => (so 7 Term.enc r, [])) := by
  refine Ok_of3 c20 Try.f20 0 43 (fun q => ?_)
  unfold spec_AsksWith
  refine J_g 2 [(0, 0)] [(0, sl 7 Term.enc a1), (3, pp 0)] [(0, .box (Term.enc a2))] orcN ?_
  refine J_g 6 [] [(0, sl 7 Term.enc a1), (3, pp 0), (5, rr 1 ([] : List Term))] [(0, .box (Term.enc a2)), (1, rE 7 Term.enc ([] : List Term))] (orcC 0 (x_bp 38 43 7 1 Term.enc ([] : List Term) [] [] []) orcN) ?_
  refine J_g 14 [] [(0, sl 7 Term.enc a1), (3, pp 0), (5, rr 1 ([] : List Term)), (6, bv false)] [(0, .box (Term.enc a2)), (1, rE 7 Term.enc ([] : List Term))] orcN ?_
  refine J_g 60 [] [(0, sl 7 Term.enc a1), (3, pp 0), (5, rr 1 ([] : List Term)), (6, bv false), (7, iv 0)] [(0, .box (Term.enc a2)), (1, rE 7 Term.enc ([] : List Term))] orcN ?_
  refine J_lq (spec_AsksWith_l1.ok a1 a2 q _ (fun v28 => J_j ?_) (([] : List Term), false, 0))
  refine J_g 124 [] [(3, pp 0), (5, rr 1 v28.1), (37, bv (!v28.2))] [(0, .box (Term.enc a2)), (1, rE 7 Term.enc v28.1)] orcN ?_
  refine J_join (atI c20 63) (fun v32 : (List Term) => St.mk' [(5, rr 3 v32)] [(3, rE 7 Term.enc v32)]) (fun v32 => ?_) (fun jv32 => ?_)
  · refine J_g 126 [] [(4, rr 3 v32)] [(3, rE 7 Term.enc v32)] orcN ?_
    exact J_rm (ds := [rr 3 v32]) (ds' := [so 7 Term.enc v32]) (.cons (.cell (.move (.head _) (List.length_map _) (by decide) (.nil))) (.nil) (by decide)) rfl
  · refine J_if2 37 (fun h29 => ?_) (fun h29 => ?_)
    · refine J_bind (fun x30 h31 => ?_)
      refine J_g 250 [] [(5, rr 3 x30)] [(3, rE 7 Term.enc x30)] (orcC 2 (x_bp 38 43 7 2 Term.enc [a2] [0] [(.tmp 39)] [.ag (Term.enc a2)]) (orcC 3 (x_ap 38 38 43 43 7 64 3 1 2 Term.enc (.tmp 38) (.tmp 40) h31) orcN)) ?_
      exact J_qw (J_j (jv32 x30)) rfl
    · refine J_ren 1 3 (Nat.le_of_ble_eq_true rfl) (Nat.le_of_ble_eq_true rfl) ?_
      exact J_qw (J_j (jv32 v28.1)) rfl

noncomputable def c23 : Code := (Try.f23.body).getD .skip

theorem impl_AsksWith_l1.ok (a1 : (List Term)) (a2 : Term) (q : Wd) (kn : ((List Term) × Bool) → Option (D × List Ent)) (hk : ∀ v : ((List Term) × Bool), J (q.g Try.prog 23 0 41) c23 (atI c23 15) (St.mk' [(3, pp 0), (5, rr 1 v.1), (6, bv v.2)] [(0, .box (Term.enc a2)), (1, rE 7 Term.enc v.1)]) (some v) kn) :
    ∀ s13 : ((List Term) × Bool × Int), J (q.g Try.prog 23 0 41) c23 (atI c23 116) (St.mk' [(3, pp 0), (5, rr 1 s13.1), (6, bv s13.2.1), (10, sl 7 Term.enc a1), (11, iv (a1.length : Int)), (12, iv s13.2.2)] [(0, .box (Term.enc a2)), (1, rE 7 Term.enc s13.1)]) (impl_AsksWith_l1 a1 a2 s13) kn := by
  refine J_lp (fun g ih s13 => ?_)
  unfold impl_AsksWith_l1b
  refine J_g 232 [] [(3, pp 0), (5, rr 1 s13.1), (6, bv s13.2.1), (10, sl 7 Term.enc a1), (11, iv (a1.length : Int)), (12, iv s13.2.2), (13, bv (decide (s13.2.2 < (a1.length : Int))))] [(0, .box (Term.enc a2)), (1, rE 7 Term.enc s13.1)] orcN ?_
  refine J_if2 13 (fun h14 => ?_) (fun h14 => ?_)
  · refine J_bind (fun x15 h16 => ?_)
    refine J_g 3736 [(2, 2)] [(3, pp 0), (5, rr 1 s13.1), (6, bv s13.2.1), (8, pp 2), (10, sl 7 Term.enc a1), (11, iv (a1.length : Int)), (12, iv s13.2.2)] [(0, .box (Term.enc a2)), (1, rE 7 Term.enc s13.1), (2, .box (Term.enc x15))] (orcC 0 (x_ix (kk := .i64) 38 43 7 Term.enc (.tmp 10) (.tmp 12) h16) orcN) ?_
    refine J_g 14948 [] [(3, pp 0), (5, rr 1 s13.1), (6, bv s13.2.1), (8, pp 2), (10, sl 7 Term.enc a1), (11, iv (a1.length : Int)), (12, iv s13.2.2), (16, bv (!(seq x15.Name a2.Name)))] [(0, .box (Term.enc a2)), (1, rE 7 Term.enc s13.1), (2, .box (Term.enc x15))] orcN ?_
    refine J_join (aft c23 7474) (fun v23 : ((List Term) × Bool) => St.mk' [(3, pp 0), (5, rr 4 v23.1), (6, bv v23.2), (10, sl 7 Term.enc a1), (11, iv (a1.length : Int)), (12, iv s13.2.2)] [(0, .box (Term.enc a2)), (4, rE 7 Term.enc v23.1)]) (fun v23 => ?_) (fun jv23 => ?_)
    · refine J_g 935 [] [(3, pp 0), (5, rr 4 v23.1), (6, bv v23.2), (10, sl 7 Term.enc a1), (11, iv (a1.length : Int)), (12, iv (w64 (s13.2.2 + 1)))] [(0, .box (Term.enc a2)), (4, rE 7 Term.enc v23.1)] orcN ?_
      refine J_ren 4 1 (Nat.le_of_ble_eq_true rfl) (Nat.le_of_ble_eq_true rfl) ?_
      exact J_q (J_b (ih (v23.1, v23.2, w64 (s13.2.2 + 1)))) rfl
    · refine J_if2 16 (fun h17 => ?_) (fun h17 => ?_)
      · refine J_bind (fun x18 h19 => ?_)
        refine J_g 29898 [] [(3, pp 0), (5, rr 4 x18), (6, bv s13.2.1), (10, sl 7 Term.enc a1), (11, iv (a1.length : Int)), (12, iv s13.2.2)] [(0, .box (Term.enc a2)), (4, rE 7 Term.enc x18)] (orcC 2 (x_bp 38 43 7 3 Term.enc [x15] [0] [(.tmp 23)] [.ag (Term.enc x15)]) (orcC 3 (x_ap 38 38 43 43 7 64 4 1 3 Term.enc (.tmp 22) (.tmp 24) h19) orcN)) ?_
        exact J_qw (J_j (jv23 (x18, s13.2.1))) rfl
      · refine J_g 59798 [] [(3, pp 0), (5, rr 1 s13.1), (6, bv s13.2.1), (10, sl 7 Term.enc a1), (11, iv (a1.length : Int)), (12, iv s13.2.2), (26, bv (!s13.2.1))] [(0, .box (Term.enc a2)), (1, rE 7 Term.enc s13.1)] orcN ?_
        refine J_if2 26 (fun h20 => ?_) (fun h20 => ?_)
        · refine J_bind (fun x21 h22 => ?_)
          refine J_g 119598 [] [(3, pp 0), (5, rr 3 x21), (6, bv true), (10, sl 7 Term.enc a1), (11, iv (a1.length : Int)), (12, iv s13.2.2)] [(0, .box (Term.enc a2)), (3, rE 7 Term.enc x21)] (orcC 2 (x_bp 38 43 7 2 Term.enc [a2] [0] [(.tmp 30)] [.ag (Term.enc a2)]) (orcC 3 (x_ap 38 38 43 43 7 64 3 1 2 Term.enc (.tmp 29) (.tmp 31) h22) orcN)) ?_
          refine J_ren 3 4 (Nat.le_of_ble_eq_true rfl) (Nat.le_of_ble_eq_true rfl) ?_
          exact J_qw (J_j (jv23 (x21, true))) rfl
        · refine J_ren 1 4 (Nat.le_of_ble_eq_true rfl) (Nat.le_of_ble_eq_true rfl) ?_
          exact J_qw (J_j (jv23 (s13.1, s13.2.1))) rfl
  · exact J_qw (hk (s13.1, s13.2.1)) rfl

theorem impl_AsksWith.ok (a1 : (List Term)) (a2 : Term) : Ok Try.prog 23 [sl 7 Term.enc a1, .ag (Term.enc a2)] [] ((impl_AsksWith a1 a2).map fun r => (so 7 Term.enc r, [])) := by
  refine Ok_of3 c23 Try.f23 0 41 (fun q => ?_)
  unfold impl_AsksWith
  refine J_g 2 [(0, 0)] [(0, sl 7 Term.enc a1), (3, pp 0)] [(0, .box (Term.enc a2))] orcN ?_
  refine J_g 6 [] [(0, sl 7 Term.enc a1), (3, pp 0), (5, rr 1 ([] : List Term)), (6, bv false)] [(0, .box (Term.enc a2)), (1, rE 7 Term.enc ([] : List Term))] (orcC 0 (x_bp 38 43 7 1 Term.enc ([] : List Term) [] [] []) orcN) ?_
  refine J_g 28 [] [(3, pp 0), (5, rr 1 ([] : List Term)), (6, bv false), (10, sl 7 Term.enc a1), (11, iv (a1.length : Int)), (12, iv 0)] [(0, .box (Term.enc a2)), (1, rE 7 Term.enc ([] : List Term))] orcN ?_
  refine J_lq (impl_AsksWith_l1.ok a1 a2 q _ (fun v24 => J_j ?_) (([] : List Term), false, 0))
  refine J_g 60 [] [(3, pp 0), (5, rr 1 v24.1), (35, bv (!v24.2))] [(0, .box (Term.enc a2)), (1, rE 7 Term.enc v24.1)] orcN ?_
  refine J_join (atI c23 31) (fun v28 : (List Term) => St.mk' [(5, rr 3 v28)] [(3, rE 7 Term.enc v28)]) (fun v28 => ?_) (fun jv28 => ?_)
  · refine J_g 62 [] [(4, rr 3 v28)] [(3, rE 7 Term.enc v28)] orcN ?_
    exact J_rm (ds := [rr 3 v28]) (ds' := [so 7 Term.enc v28]) (.cons (.cell (.move (.head _) (List.length_map _) (by decide) (.nil))) (.nil) (by decide)) rfl
  · refine J_if2 35 (fun h25 => ?_) (fun h25 => ?_)
    · refine J_bind (fun x26 h27 => ?_)
      refine J_g 122 [] [(5, rr 3 x26)] [(3, rE 7 Term.enc x26)] (orcC 2 (x_bp 38 43 7 2 Term.enc [a2] [0] [(.tmp 37)] [.ag (Term.enc a2)]) (orcC 3 (x_ap 38 38 43 43 7 64 3 1 2 Term.enc (.tmp 36) (.tmp 38) h27) orcN)) ?_
      exact J_qw (J_j (jv28 x26)) rfl
    · refine J_ren 1 3 (Nat.le_of_ble_eq_true rfl) (Nat.le_of_ble_eq_true rfl) ?_
      exact J_qw (J_j (jv28 v24.1)) rfl

noncomputable def c103 : Code := (Try.f103.body).getD .skip

theorem laws_eqVersion.ok (a1 : Version) (a2 : Version) : Ok Try.prog 103 [.ag (Version.enc a1), .ag (Version.enc a2)] [] ((laws_eqVersion a1 a2).map fun r => (bv r, [])) := by
  refine Ok_of3 c103 Try.f103 0 20 (fun q => ?_)
  unfold laws_eqVersion
  refine J_g 2 [(0, 0), (1, 1)] [(2, pp 0), (3, pp 1)] [(0, .box (Version.enc a1)), (1, .box (Version.enc a2))] orcN ?_
  refine J_g 12 [] [(2, pp 0), (3, pp 1), (9, bv (a1.A != a2.A))] [(0, .box (Version.enc a1)), (1, .box (Version.enc a2))] orcN ?_
  refine J_if2 9 (fun h3 => ?_) (fun h3 => ?_)
  · refine J_g 52 [] [(4, bv false)] [] orcN ?_
    exact J_r1 rfl
  · refine J_g 28 [] [(2, pp 0), (3, pp 1), (14, bv (a1.B != a2.B))] [(0, .box (Version.enc a1)), (1, .box (Version.enc a2))] orcN ?_
    refine J_if2 14 (fun h4 => ?_) (fun h4 => ?_)
    · refine J_g 116 [] [(4, bv false)] [] orcN ?_
      exact J_r1 rfl
    · refine J_g 60 [] [(19, bv (a1.C != a2.C))] [] orcN ?_
      refine J_if2 19 (fun h5 => ?_) (fun h5 => ?_)
      · refine J_g 244 [] [(4, bv false)] [] orcN ?_
        exact J_r1 rfl
      · refine J_g 62 [] [(4, bv true)] [] orcN ?_
        exact J_r1 rfl

noncomputable def c63 : Code := (Try.f63.body).getD .skip

theorem laws_eqTerm.ok (a1 : Term) (a2 : Term) : Ok Try.prog 63 [.ag (Term.enc a1), .ag (Term.enc a2)] [] ((laws_eqTerm a1 a2).map fun r => (bv r, [])) := by
  refine Ok_of3 c63 Try.f63 0 22 (fun q => ?_)
  unfold laws_eqTerm
  refine J_g 2 [(0, 0), (1, 1)] [(2, pp 0), (3, pp 1)] [(0, .box (Term.enc a1)), (1, .box (Term.enc a2))] orcN ?_
  refine J_g 12 [] [(2, pp 0), (3, pp 1), (9, bv (!(seq a1.Name a2.Name)))] [(0, .box (Term.enc a1)), (1, .box (Term.enc a2))] orcN ?_
  refine J_if2 9 (fun h3 => ?_) (fun h3 => ?_)
  · refine J_g 52 [] [(4, bv false)] [] orcN ?_
    exact J_r1 rfl
  · refine J_bind (fun x4 h5 => ?_)
    refine J_g 28 [] [(2, pp 0), (3, pp 1), (15, bv (!x4))] [(0, .box (Term.enc a1)), (1, .box (Term.enc a2))] (orcC 4 (x_c0 [(.tmp 11), (.tmp 13)] [41, 41] (laws_eqVersion.ok a1.Low a2.Low) h5) orcN) ?_
    refine J_if2 15 (fun h6 => ?_) (fun h6 => ?_)
    · refine J_g 116 [] [(4, bv false)] [] orcN ?_
      exact J_r1 rfl
    · refine J_bind (fun x7 h8 => ?_)
      refine J_g 60 [] [(21, bv (!x7))] [] (orcC 4 (x_c0 [(.tmp 17), (.tmp 19)] [41, 41] (laws_eqVersion.ok a1.High a2.High) h8) orcN) ?_
      refine J_if2 21 (fun h9 => ?_) (fun h9 => ?_)
      · refine J_g 244 [] [(4, bv false)] [] orcN ?_
        exact J_r1 rfl
      · refine J_g 62 [] [(4, bv true)] [] orcN ?_
        exact J_r1 rfl

noncomputable def c24 : Code := (Try.f24.body).getD .skip

theorem laws_eqTermS_l1.ok (a1 : (List Term)) (a2 : (List Term)) (q : Wd) (kn : Unit → Option (D × List Ent)) (hk : ∀ v : Unit, J (q.g Try.prog 24 0 27) c24 (atI c24 15) (St.mk' [] []) (some v) kn) :
    ∀ s12 : Int, J (q.g Try.prog 24 0 27) c24 (atI c24 116) (St.mk' [(0, sl 7 Term.enc a1), (1, sl 7 Term.enc a2), (5, iv s12)] []) (laws_eqTermS_l1 a1 a2 s12) (Fl.go (fun r : Bool => some (bv r, [])) kn) := by
  refine J_lp (fun g ih s12 => ?_)
  unfold laws_eqTermS_l1b
  refine J_g 464 [] [(0, sl 7 Term.enc a1), (1, sl 7 Term.enc a2), (5, iv s12), (14, bv (decide (s12 < (a1.length : Int))))] [] orcN ?_
  refine J_if2 14 (fun h13 => ?_) (fun h13 => ?_)
  · refine J_bind (fun x14 h15 => ?_)
    refine J_bind (fun x16 h17 => ?_)
    refine J_bind (fun x18 h19 => ?_)
    refine J_g 1864 [] [(0, sl 7 Term.enc a1), (1, sl 7 Term.enc a2), (5, iv s12), (26, bv (!x18))] [] (orcC 2 (x_ix (kk := .i64) 38 43 7 Term.enc (.tmp 17) (.tmp 18) h15) (orcC 6 (x_ix (kk := .i64) 38 43 7 Term.enc (.tmp 21) (.tmp 22) h17) (orcC 8 (x_c0 [(.tmp 20), (.tmp 24)] [43, 43] (laws_eqTerm.ok x14 x16) h19) orcN))) ?_
    refine J_if2 26 (fun h20 => ?_) (fun h20 => ?_)
    · refine J_g 7460 [] [(4, bv false)] [] orcN ?_
      exact J_r1 rfl
    · refine J_g 467 [] [(0, sl 7 Term.enc a1), (1, sl 7 Term.enc a2), (5, iv (w64 (s12 + 1)))] [] orcN ?_
      exact J_q (J_b (ih (w64 (s12 + 1)))) rfl
  · exact J_qw (hk ()) rfl

theorem laws_eqTermS.ok (a1 : (List Term)) (a2 : (List Term)) : Ok Try.prog 24 [sl 7 Term.enc a1, sl 7 Term.enc a2] [] ((laws_eqTermS a1 a2).map fun r => (bv r, [])) := by
  refine Ok_of3 c24 Try.f24 0 27 (fun q => ?_)
  unfold laws_eqTermS
  refine J_g 2 [] [(0, sl 7 Term.enc a1), (1, sl 7 Term.enc a2)] [] orcN ?_
  refine J_g 12 [] [(0, sl 7 Term.enc a1), (1, sl 7 Term.enc a2), (10, bv ((a1.length : Int) != (a2.length : Int)))] [] orcN ?_
  refine J_if2 10 (fun h3 => ?_) (fun h3 => ?_)
  · refine J_g 52 [] [(4, bv false)] [] orcN ?_
    exact J_r1 rfl
  · refine J_g 28 [] [(0, sl 7 Term.enc a1), (1, sl 7 Term.enc a2), (5, iv 0)] [] orcN ?_
    refine J_lqF (K0 := (fun r : Bool => some (bv r, []))) (fun _ => rfl) (laws_eqTermS_l1.ok a1 a2 q _ (fun v21 => J_j ?_) 0)
    refine J_g 30 [] [(4, bv true)] [] orcN ?_
    exact J_r1 rfl

noncomputable def c64 : Code := (Try.f64.body).getD .skip

theorem laws_markText_l1.ok  (q : Wd) (kn : ByteArray → Option (D × List Ent)) (hk : ∀ v : ByteArray, J (q.g Try.prog 64 0 20) c64 (atI c64 31) (St.mk' [(3, sv v)] []) (some v) kn) :
    ∀ s6 : (Int × ByteArray), J (q.g Try.prog 64 0 20) c64 (atI c64 120) (St.mk' [(0, iv s6.1), (3, sv s6.2)] []) (laws_markText_l1 s6) kn := by
  refine J_lp (fun g ih s6 => ?_)
  unfold laws_markText_l1b
  refine J_g 480 [] [(0, iv s6.1), (3, sv s6.2), (7, bv (decide (s6.1 > 0)))] [] orcN ?_
  refine J_if2 7 (fun h7 => ?_) (fun h7 => ?_)
  · refine J_bind (fun x8 h9 => ?_)
    refine J_g 964 [] [(0, iv s6.1), (3, sv x8)] [] (orcC 4 (x_bp 68 5 1 0 eU8 [IntKind.u8.wrap (w64 (48 + (s6.1.tmod 10)))] [0] [(.tmp 11)] [uv (IntKind.u8.wrap (w64 (48 + (s6.1.tmod 10))))]) (orcC 5 (x_b2sr (xs := [IntKind.u8.wrap (w64 (48 + (s6.1.tmod 10)))]) 68 9 5 0 (.tmp 12)) (orcC 7 (x_cat 9 9 (.tmp 13) (.tmp 14) h9) orcN))) ?_
    refine J_g 965 [] [(0, iv (w64 (s6.1.tdiv 10))), (3, sv x8)] [] orcN ?_
    exact J_q (J_b (ih (w64 (s6.1.tdiv 10), x8))) rfl
  · exact J_qw (hk s6.2) rfl

theorem laws_markText.ok (a1 : Int) : Ok Try.prog 64 [iv a1] [] ((laws_markText a1).map fun r => (sv r, [])) := by
  refine Ok_of3 c64 Try.f64 0 20 (fun q => ?_)
  unfold laws_markText
  refine J_g 2 [] [(0, iv a1)] [] orcN ?_
  refine J_g 12 [] [(0, iv a1), (5, bv (decide (a1 ≤ 0)))] [] orcN ?_
  refine J_if2 5 (fun h2 => ?_) (fun h2 => ?_)
  · refine J_g 52 [] [(2, sv (bs [109, 48]))] [] orcN ?_
    exact J_r1 rfl
  · refine J_g 14 [] [(0, iv a1), (3, sv (bs []))] [] orcN ?_
    refine J_lq (laws_markText_l1.ok q _ (fun v10 => J_j ?_) (a1, bs []))
    refine J_bind (fun x11 h12 => ?_)
    refine J_g 62 [] [(2, sv x11)] [] (orcC 1 (x_cat 9 9 (.const (.string (bs [109]))) (.tmp 18) h12) orcN) ?_
    exact J_r1 rfl

noncomputable def c25 : Code := (Try.f25.body).getD .skip

theorem laws_markTermSr_l1.ok  (q : Wd) (kn : ((List Term) × Int) → Option (D × List Ent)) (hk : ∀ v : ((List Term) × Int), J (q.g Try.prog 25 1 69) c25 (atI c25 7) (St.mk' [(1, iv v.2)] [(0, rE 7 Term.enc v.1)]) (some v) kn) :
    ∀ s20 : ((List Term) × Int × Int), J (q.g Try.prog 25 1 69) c25 (atI c25 52) (St.mk' [(0, rr 0 s20.1), (1, iv s20.2.1), (5, iv s20.2.2)] [(0, rE 7 Term.enc s20.1)]) (laws_markTermSr_l1 s20) kn := by
  refine J_lp (fun g ih s20 => ?_)
  unfold laws_markTermSr_l1b
  refine J_g 208 [] [(0, rr 0 s20.1), (1, iv s20.2.1), (5, iv s20.2.2), (9, bv (decide (s20.2.2 < (s20.1.length : Int))))] [(0, rE 7 Term.enc s20.1)] orcN ?_
  refine J_if2 9 (fun h21 => ?_) (fun h21 => ?_)
  · refine J_bind (fun x22 h23 => ?_)
    refine J_bind (fun x24 h25 => ?_)
    refine J_g 840 [] [(0, rr 0 s20.1), (1, iv s20.2.1), (5, iv s20.2.2)] [(0, rE 7 Term.enc (s20.1.set s20.2.2.toNat ({ Name := x22, Low := x24.Low, High := x24.High } : Term)))] (orcC 3 (x_c0 [(.tmp 14)] [3] (laws_markText.ok s20.2.1) h23) (orcC 4 (x_ixr (kk := .i64) 38 43 7 0 Term.enc (.tmp 12) (.tmp 13) h25) (orcD 6 (x_st (b := ({ Name := x22, Low := x24.Low, High := x24.High } : Term)) 9 7 0 0 Term.enc (sv x22) (.tmp 17) (.tmp 15) h25 rfl) orcN))) ?_
    refine J_st (σ' := St.mk' [(0, rr 0 (s20.1.set s20.2.2.toNat ({ Name := x22, Low := x24.Low, High := x24.High } : Term))), (1, iv s20.2.1), (5, iv s20.2.2)] [(0, rE 7 Term.enc (s20.1.set s20.2.2.toNat ({ Name := x22, Low := x24.Low, High := x24.High } : Term)))]) (by simp only [rr, List.length_set]) ?_
    refine J_g 1682 [] [(0, rr 0 (s20.1.set s20.2.2.toNat ({ Name := x22, Low := x24.Low, High := x24.High } : Term))), (1, iv (w64 (s20.2.1 + 1))), (5, iv s20.2.2)] [(0, rE 7 Term.enc (s20.1.set s20.2.2.toNat ({ Name := x22, Low := x24.Low, High := x24.High } : Term)))] orcN ?_
    refine J_bind (fun x26 h27 => ?_)
    refine J_g 3366 [] [(0, rr 0 (s20.1.set s20.2.2.toNat ({ Name := x22, Low := x24.Low, High := x24.High } : Term))), (1, iv (w64 (s20.2.1 + 1))), (5, iv s20.2.2)] [(0, rE 7 Term.enc ((s20.1.set s20.2.2.toNat ({ Name := x22, Low := x24.Low, High := x24.High } : Term)).set s20.2.2.toNat ({ Name := x26.Name, Low := ({ A := w64 (s20.2.1 + 1), B := x26.Low.B, C := x26.Low.C } : Version), High := x26.High } : Term)))] (orcC 3 (x_ixr (kk := .i64) 38 43 7 0 Term.enc (.tmp 20) (.tmp 21) h27) (orcD 6 (x_st (b := ({ Name := x26.Name, Low := ({ A := w64 (s20.2.1 + 1), B := x26.Low.B, C := x26.Low.C } : Version), High := x26.High } : Term)) 2 7 0 1 Term.enc (iv (w64 (s20.2.1 + 1))) (.tmp 25) (.tmp 22) h27 rfl) orcN)) ?_
    refine J_st (σ' := St.mk' [(0, rr 0 ((s20.1.set s20.2.2.toNat ({ Name := x22, Low := x24.Low, High := x24.High } : Term)).set s20.2.2.toNat ({ Name := x26.Name, Low := ({ A := w64 (s20.2.1 + 1), B := x26.Low.B, C := x26.Low.C } : Version), High := x26.High } : Term))), (1, iv (w64 (s20.2.1 + 1))), (5, iv s20.2.2)] [(0, rE 7 Term.enc ((s20.1.set s20.2.2.toNat ({ Name := x22, Low := x24.Low, High := x24.High } : Term)).set s20.2.2.toNat ({ Name := x26.Name, Low := ({ A := w64 (s20.2.1 + 1), B := x26.Low.B, C := x26.Low.C } : Version), High := x26.High } : Term)))]) (by simp only [rr, List.length_set]) ?_
    refine J_g 6734 [] [(0, rr 0 ((s20.1.set s20.2.2.toNat ({ Name := x22, Low := x24.Low, High := x24.High } : Term)).set s20.2.2.toNat ({ Name := x26.Name, Low := ({ A := w64 (s20.2.1 + 1), B := x26.Low.B, C := x26.Low.C } : Version), High := x26.High } : Term))), (1, iv (w64 ((w64 (s20.2.1 + 1)) + 1))), (5, iv s20.2.2)] [(0, rE 7 Term.enc ((s20.1.set s20.2.2.toNat ({ Name := x22, Low := x24.Low, High := x24.High } : Term)).set s20.2.2.toNat ({ Name := x26.Name, Low := ({ A := w64 (s20.2.1 + 1), B := x26.Low.B, C := x26.Low.C } : Version), High := x26.High } : Term)))] orcN ?_
    refine J_bind (fun x28 h29 => ?_)
    refine J_g 13470 [] [(0, rr 0 ((s20.1.set s20.2.2.toNat ({ Name := x22, Low := x24.Low, High := x24.High } : Term)).set s20.2.2.toNat ({ Name := x26.Name, Low := ({ A := w64 (s20.2.1 + 1), B := x26.Low.B, C := x26.Low.C } : Version), High := x26.High } : Term))), (1, iv (w64 ((w64 (s20.2.1 + 1)) + 1))), (5, iv s20.2.2)] [(0, rE 7 Term.enc (((s20.1.set s20.2.2.toNat ({ Name := x22, Low := x24.Low, High := x24.High } : Term)).set s20.2.2.toNat ({ Name := x26.Name, Low := ({ A := w64 (s20.2.1 + 1), B := x26.Low.B, C := x26.Low.C } : Version), High := x26.High } : Term)).set s20.2.2.toNat ({ Name := x28.Name, Low := ({ A := x28.Low.A, B := w64 ((w64 (s20.2.1 + 1)) + 1), C := x28.Low.C } : Version), High := x28.High } : Term)))] (orcC 3 (x_ixr (kk := .i64) 38 43 7 0 Term.enc (.tmp 28) (.tmp 29) h29) (orcD 6 (x_st (b := ({ Name := x28.Name, Low := ({ A := x28.Low.A, B := w64 ((w64 (s20.2.1 + 1)) + 1), C := x28.Low.C } : Version), High := x28.High } : Term)) 2 7 0 2 Term.enc (iv (w64 ((w64 (s20.2.1 + 1)) + 1))) (.tmp 33) (.tmp 30) h29 rfl) orcN)) ?_
    refine J_st (σ' := St.mk' [(0, rr 0 (((s20.1.set s20.2.2.toNat ({ Name := x22, Low := x24.Low, High := x24.High } : Term)).set s20.2.2.toNat ({ Name := x26.Name, Low := ({ A := w64 (s20.2.1 + 1), B := x26.Low.B, C := x26.Low.C } : Version), High := x26.High } : Term)).set s20.2.2.toNat ({ Name := x28.Name, Low := ({ A := x28.Low.A, B := w64 ((w64 (s20.2.1 + 1)) + 1), C := x28.Low.C } : Version), High := x28.High } : Term))), (1, iv (w64 ((w64 (s20.2.1 + 1)) + 1))), (5, iv s20.2.2)] [(0, rE 7 Term.enc (((s20.1.set s20.2.2.toNat ({ Name := x22, Low := x24.Low, High := x24.High } : Term)).set s20.2.2.toNat ({ Name := x26.Name, Low := ({ A := w64 (s20.2.1 + 1), B := x26.Low.B, C := x26.Low.C } : Version), High := x26.High } : Term)).set s20.2.2.toNat ({ Name := x28.Name, Low := ({ A := x28.Low.A, B := w64 ((w64 (s20.2.1 + 1)) + 1), C := x28.Low.C } : Version), High := x28.High } : Term)))]) (by simp only [rr, List.length_set]) ?_
    refine J_g 26942 [] [(0, rr 0 (((s20.1.set s20.2.2.toNat ({ Name := x22, Low := x24.Low, High := x24.High } : Term)).set s20.2.2.toNat ({ Name := x26.Name, Low := ({ A := w64 (s20.2.1 + 1), B := x26.Low.B, C := x26.Low.C } : Version), High := x26.High } : Term)).set s20.2.2.toNat ({ Name := x28.Name, Low := ({ A := x28.Low.A, B := w64 ((w64 (s20.2.1 + 1)) + 1), C := x28.Low.C } : Version), High := x28.High } : Term))), (1, iv (w64 ((w64 ((w64 (s20.2.1 + 1)) + 1)) + 1))), (5, iv s20.2.2)] [(0, rE 7 Term.enc (((s20.1.set s20.2.2.toNat ({ Name := x22, Low := x24.Low, High := x24.High } : Term)).set s20.2.2.toNat ({ Name := x26.Name, Low := ({ A := w64 (s20.2.1 + 1), B := x26.Low.B, C := x26.Low.C } : Version), High := x26.High } : Term)).set s20.2.2.toNat ({ Name := x28.Name, Low := ({ A := x28.Low.A, B := w64 ((w64 (s20.2.1 + 1)) + 1), C := x28.Low.C } : Version), High := x28.High } : Term)))] orcN ?_
    refine J_bind (fun x30 h31 => ?_)
    refine J_g 53886 [] [(0, rr 0 (((s20.1.set s20.2.2.toNat ({ Name := x22, Low := x24.Low, High := x24.High } : Term)).set s20.2.2.toNat ({ Name := x26.Name, Low := ({ A := w64 (s20.2.1 + 1), B := x26.Low.B, C := x26.Low.C } : Version), High := x26.High } : Term)).set s20.2.2.toNat ({ Name := x28.Name, Low := ({ A := x28.Low.A, B := w64 ((w64 (s20.2.1 + 1)) + 1), C := x28.Low.C } : Version), High := x28.High } : Term))), (1, iv (w64 ((w64 ((w64 (s20.2.1 + 1)) + 1)) + 1))), (5, iv s20.2.2)] [(0, rE 7 Term.enc ((((s20.1.set s20.2.2.toNat ({ Name := x22, Low := x24.Low, High := x24.High } : Term)).set s20.2.2.toNat ({ Name := x26.Name, Low := ({ A := w64 (s20.2.1 + 1), B := x26.Low.B, C := x26.Low.C } : Version), High := x26.High } : Term)).set s20.2.2.toNat ({ Name := x28.Name, Low := ({ A := x28.Low.A, B := w64 ((w64 (s20.2.1 + 1)) + 1), C := x28.Low.C } : Version), High := x28.High } : Term)).set s20.2.2.toNat ({ Name := x30.Name, Low := ({ A := x30.Low.A, B := x30.Low.B, C := w64 ((w64 ((w64 (s20.2.1 + 1)) + 1)) + 1) } : Version), High := x30.High } : Term)))] (orcC 3 (x_ixr (kk := .i64) 38 43 7 0 Term.enc (.tmp 36) (.tmp 37) h31) (orcD 6 (x_st (b := ({ Name := x30.Name, Low := ({ A := x30.Low.A, B := x30.Low.B, C := w64 ((w64 ((w64 (s20.2.1 + 1)) + 1)) + 1) } : Version), High := x30.High } : Term)) 2 7 0 3 Term.enc (iv (w64 ((w64 ((w64 (s20.2.1 + 1)) + 1)) + 1))) (.tmp 41) (.tmp 38) h31 rfl) orcN)) ?_
    refine J_st (σ' := St.mk' [(0, rr 0 ((((s20.1.set s20.2.2.toNat ({ Name := x22, Low := x24.Low, High := x24.High } : Term)).set s20.2.2.toNat ({ Name := x26.Name, Low := ({ A := w64 (s20.2.1 + 1), B := x26.Low.B, C := x26.Low.C } : Version), High := x26.High } : Term)).set s20.2.2.toNat ({ Name := x28.Name, Low := ({ A := x28.Low.A, B := w64 ((w64 (s20.2.1 + 1)) + 1), C := x28.Low.C } : Version), High := x28.High } : Term)).set s20.2.2.toNat ({ Name := x30.Name, Low := ({ A := x30.Low.A, B := x30.Low.B, C := w64 ((w64 ((w64 (s20.2.1 + 1)) + 1)) + 1) } : Version), High := x30.High } : Term))), (1, iv (w64 ((w64 ((w64 (s20.2.1 + 1)) + 1)) + 1))), (5, iv s20.2.2)] [(0, rE 7 Term.enc ((((s20.1.set s20.2.2.toNat ({ Name := x22, Low := x24.Low, High := x24.High } : Term)).set s20.2.2.toNat ({ Name := x26.Name, Low := ({ A := w64 (s20.2.1 + 1), B := x26.Low.B, C := x26.Low.C } : Version), High := x26.High } : Term)).set s20.2.2.toNat ({ Name := x28.Name, Low := ({ A := x28.Low.A, B := w64 ((w64 (s20.2.1 + 1)) + 1), C := x28.Low.C } : Version), High := x28.High } : Term)).set s20.2.2.toNat ({ Name := x30.Name, Low := ({ A := x30.Low.A, B := x30.Low.B, C := w64 ((w64 ((w64 (s20.2.1 + 1)) + 1)) + 1) } : Version), High := x30.High } : Term)))]) (by simp only [rr, List.length_set]) ?_
    refine J_g 107774 [] [(0, rr 0 ((((s20.1.set s20.2.2.toNat ({ Name := x22, Low := x24.Low, High := x24.High } : Term)).set s20.2.2.toNat ({ Name := x26.Name, Low := ({ A := w64 (s20.2.1 + 1), B := x26.Low.B, C := x26.Low.C } : Version), High := x26.High } : Term)).set s20.2.2.toNat ({ Name := x28.Name, Low := ({ A := x28.Low.A, B := w64 ((w64 (s20.2.1 + 1)) + 1), C := x28.Low.C } : Version), High := x28.High } : Term)).set s20.2.2.toNat ({ Name := x30.Name, Low := ({ A := x30.Low.A, B := x30.Low.B, C := w64 ((w64 ((w64 (s20.2.1 + 1)) + 1)) + 1) } : Version), High := x30.High } : Term))), (1, iv (w64 ((w64 ((w64 ((w64 (s20.2.1 + 1)) + 1)) + 1)) + 1))), (5, iv s20.2.2)] [(0, rE 7 Term.enc ((((s20.1.set s20.2.2.toNat ({ Name := x22, Low := x24.Low, High := x24.High } : Term)).set s20.2.2.toNat ({ Name := x26.Name, Low := ({ A := w64 (s20.2.1 + 1), B := x26.Low.B, C := x26.Low.C } : Version), High := x26.High } : Term)).set s20.2.2.toNat ({ Name := x28.Name, Low := ({ A := x28.Low.A, B := w64 ((w64 (s20.2.1 + 1)) + 1), C := x28.Low.C } : Version), High := x28.High } : Term)).set s20.2.2.toNat ({ Name := x30.Name, Low := ({ A := x30.Low.A, B := x30.Low.B, C := w64 ((w64 ((w64 (s20.2.1 + 1)) + 1)) + 1) } : Version), High := x30.High } : Term)))] orcN ?_
    refine J_bind (fun x32 h33 => ?_)
    refine J_g 215550 [] [(0, rr 0 ((((s20.1.set s20.2.2.toNat ({ Name := x22, Low := x24.Low, High := x24.High } : Term)).set s20.2.2.toNat ({ Name := x26.Name, Low := ({ A := w64 (s20.2.1 + 1), B := x26.Low.B, C := x26.Low.C } : Version), High := x26.High } : Term)).set s20.2.2.toNat ({ Name := x28.Name, Low := ({ A := x28.Low.A, B := w64 ((w64 (s20.2.1 + 1)) + 1), C := x28.Low.C } : Version), High := x28.High } : Term)).set s20.2.2.toNat ({ Name := x30.Name, Low := ({ A := x30.Low.A, B := x30.Low.B, C := w64 ((w64 ((w64 (s20.2.1 + 1)) + 1)) + 1) } : Version), High := x30.High } : Term))), (1, iv (w64 ((w64 ((w64 ((w64 (s20.2.1 + 1)) + 1)) + 1)) + 1))), (5, iv s20.2.2)] [(0, rE 7 Term.enc (((((s20.1.set s20.2.2.toNat ({ Name := x22, Low := x24.Low, High := x24.High } : Term)).set s20.2.2.toNat ({ Name := x26.Name, Low := ({ A := w64 (s20.2.1 + 1), B := x26.Low.B, C := x26.Low.C } : Version), High := x26.High } : Term)).set s20.2.2.toNat ({ Name := x28.Name, Low := ({ A := x28.Low.A, B := w64 ((w64 (s20.2.1 + 1)) + 1), C := x28.Low.C } : Version), High := x28.High } : Term)).set s20.2.2.toNat ({ Name := x30.Name, Low := ({ A := x30.Low.A, B := x30.Low.B, C := w64 ((w64 ((w64 (s20.2.1 + 1)) + 1)) + 1) } : Version), High := x30.High } : Term)).set s20.2.2.toNat ({ Name := x32.Name, Low := x32.Low, High := ({ A := w64 ((w64 ((w64 ((w64 (s20.2.1 + 1)) + 1)) + 1)) + 1), B := x32.High.B, C := x32.High.C } : Version) } : Term)))] (orcC 3 (x_ixr (kk := .i64) 38 43 7 0 Term.enc (.tmp 44) (.tmp 45) h33) (orcD 6 (x_st (b := ({ Name := x32.Name, Low := x32.Low, High := ({ A := w64 ((w64 ((w64 ((w64 (s20.2.1 + 1)) + 1)) + 1)) + 1), B := x32.High.B, C := x32.High.C } : Version) } : Term)) 2 7 0 4 Term.enc (iv (w64 ((w64 ((w64 ((w64 (s20.2.1 + 1)) + 1)) + 1)) + 1))) (.tmp 49) (.tmp 46) h33 rfl) orcN)) ?_
    refine J_st (σ' := St.mk' [(0, rr 0 (((((s20.1.set s20.2.2.toNat ({ Name := x22, Low := x24.Low, High := x24.High } : Term)).set s20.2.2.toNat ({ Name := x26.Name, Low := ({ A := w64 (s20.2.1 + 1), B := x26.Low.B, C := x26.Low.C } : Version), High := x26.High } : Term)).set s20.2.2.toNat ({ Name := x28.Name, Low := ({ A := x28.Low.A, B := w64 ((w64 (s20.2.1 + 1)) + 1), C := x28.Low.C } : Version), High := x28.High } : Term)).set s20.2.2.toNat ({ Name := x30.Name, Low := ({ A := x30.Low.A, B := x30.Low.B, C := w64 ((w64 ((w64 (s20.2.1 + 1)) + 1)) + 1) } : Version), High := x30.High } : Term)).set s20.2.2.toNat ({ Name := x32.Name, Low := x32.Low, High := ({ A := w64 ((w64 ((w64 ((w64 (s20.2.1 + 1)) + 1)) + 1)) + 1), B := x32.High.B, C := x32.High.C } : Version) } : Term))), (1, iv (w64 ((w64 ((w64 ((w64 (s20.2.1 + 1)) + 1)) + 1)) + 1))), (5, iv s20.2.2)] [(0, rE 7 Term.enc (((((s20.1.set s20.2.2.toNat ({ Name := x22, Low := x24.Low, High := x24.High } : Term)).set s20.2.2.toNat ({ Name := x26.Name, Low := ({ A := w64 (s20.2.1 + 1), B := x26.Low.B, C := x26.Low.C } : Version), High := x26.High } : Term)).set s20.2.2.toNat ({ Name := x28.Name, Low := ({ A := x28.Low.A, B := w64 ((w64 (s20.2.1 + 1)) + 1), C := x28.Low.C } : Version), High := x28.High } : Term)).set s20.2.2.toNat ({ Name := x30.Name, Low := ({ A := x30.Low.A, B := x30.Low.B, C := w64 ((w64 ((w64 (s20.2.1 + 1)) + 1)) + 1) } : Version), High := x30.High } : Term)).set s20.2.2.toNat ({ Name := x32.Name, Low := x32.Low, High := ({ A := w64 ((w64 ((w64 ((w64 (s20.2.1 + 1)) + 1)) + 1)) + 1), B := x32.High.B, C := x32.High.C } : Version) } : Term)))]) (by simp only [rr, List.length_set]) ?_
    refine J_g 431102 [] [(0, rr 0 (((((s20.1.set s20.2.2.toNat ({ Name := x22, Low := x24.Low, High := x24.High } : Term)).set s20.2.2.toNat ({ Name := x26.Name, Low := ({ A := w64 (s20.2.1 + 1), B := x26.Low.B, C := x26.Low.C } : Version), High := x26.High } : Term)).set s20.2.2.toNat ({ Name := x28.Name, Low := ({ A := x28.Low.A, B := w64 ((w64 (s20.2.1 + 1)) + 1), C := x28.Low.C } : Version), High := x28.High } : Term)).set s20.2.2.toNat ({ Name := x30.Name, Low := ({ A := x30.Low.A, B := x30.Low.B, C := w64 ((w64 ((w64 (s20.2.1 + 1)) + 1)) + 1) } : Version), High := x30.High } : Term)).set s20.2.2.toNat ({ Name := x32.Name, Low := x32.Low, High := ({ A := w64 ((w64 ((w64 ((w64 (s20.2.1 + 1)) + 1)) + 1)) + 1), B := x32.High.B, C := x32.High.C } : Version) } : Term))), (1, iv (w64 ((w64 ((w64 ((w64 ((w64 (s20.2.1 + 1)) + 1)) + 1)) + 1)) + 1))), (5, iv s20.2.2)] [(0, rE 7 Term.enc (((((s20.1.set s20.2.2.toNat ({ Name := x22, Low := x24.Low, High := x24.High } : Term)).set s20.2.2.toNat ({ Name := x26.Name, Low := ({ A := w64 (s20.2.1 + 1), B := x26.Low.B, C := x26.Low.C } : Version), High := x26.High } : Term)).set s20.2.2.toNat ({ Name := x28.Name, Low := ({ A := x28.Low.A, B := w64 ((w64 (s20.2.1 + 1)) + 1), C := x28.Low.C } : Version), High := x28.High } : Term)).set s20.2.2.toNat ({ Name := x30.Name, Low := ({ A := x30.Low.A, B := x30.Low.B, C := w64 ((w64 ((w64 (s20.2.1 + 1)) + 1)) + 1) } : Version), High := x30.High } : Term)).set s20.2.2.toNat ({ Name := x32.Name, Low := x32.Low, High := ({ A := w64 ((w64 ((w64 ((w64 (s20.2.1 + 1)) + 1)) + 1)) + 1), B := x32.High.B, C := x32.High.C } : Version) } : Term)))] orcN ?_
    refine J_bind (fun x34 h35 => ?_)
    refine J_g 862206 [] [(0, rr 0 (((((s20.1.set s20.2.2.toNat ({ Name := x22, Low := x24.Low, High := x24.High } : Term)).set s20.2.2.toNat ({ Name := x26.Name, Low := ({ A := w64 (s20.2.1 + 1), B := x26.Low.B, C := x26.Low.C } : Version), High := x26.High } : Term)).set s20.2.2.toNat ({ Name := x28.Name, Low := ({ A := x28.Low.A, B := w64 ((w64 (s20.2.1 + 1)) + 1), C := x28.Low.C } : Version), High := x28.High } : Term)).set s20.2.2.toNat ({ Name := x30.Name, Low := ({ A := x30.Low.A, B := x30.Low.B, C := w64 ((w64 ((w64 (s20.2.1 + 1)) + 1)) + 1) } : Version), High := x30.High } : Term)).set s20.2.2.toNat ({ Name := x32.Name, Low := x32.Low, High := ({ A := w64 ((w64 ((w64 ((w64 (s20.2.1 + 1)) + 1)) + 1)) + 1), B := x32.High.B, C := x32.High.C } : Version) } : Term))), (1, iv (w64 ((w64 ((w64 ((w64 ((w64 (s20.2.1 + 1)) + 1)) + 1)) + 1)) + 1))), (5, iv s20.2.2)] [(0, rE 7 Term.enc ((((((s20.1.set s20.2.2.toNat ({ Name := x22, Low := x24.Low, High := x24.High } : Term)).set s20.2.2.toNat ({ Name := x26.Name, Low := ({ A := w64 (s20.2.1 + 1), B := x26.Low.B, C := x26.Low.C } : Version), High := x26.High } : Term)).set s20.2.2.toNat ({ Name := x28.Name, Low := ({ A := x28.Low.A, B := w64 ((w64 (s20.2.1 + 1)) + 1), C := x28.Low.C } : Version), High := x28.High } : Term)).set s20.2.2.toNat ({ Name := x30.Name, Low := ({ A := x30.Low.A, B := x30.Low.B, C := w64 ((w64 ((w64 (s20.2.1 + 1)) + 1)) + 1) } : Version), High := x30.High } : Term)).set s20.2.2.toNat ({ Name := x32.Name, Low := x32.Low, High := ({ A := w64 ((w64 ((w64 ((w64 (s20.2.1 + 1)) + 1)) + 1)) + 1), B := x32.High.B, C := x32.High.C } : Version) } : Term)).set s20.2.2.toNat ({ Name := x34.Name, Low := x34.Low, High := ({ A := x34.High.A, B := w64 ((w64 ((w64 ((w64 ((w64 (s20.2.1 + 1)) + 1)) + 1)) + 1)) + 1), C := x34.High.C } : Version) } : Term)))] (orcC 3 (x_ixr (kk := .i64) 38 43 7 0 Term.enc (.tmp 52) (.tmp 53) h35) (orcD 6 (x_st (b := ({ Name := x34.Name, Low := x34.Low, High := ({ A := x34.High.A, B := w64 ((w64 ((w64 ((w64 ((w64 (s20.2.1 + 1)) + 1)) + 1)) + 1)) + 1), C := x34.High.C } : Version) } : Term)) 2 7 0 5 Term.enc (iv (w64 ((w64 ((w64 ((w64 ((w64 (s20.2.1 + 1)) + 1)) + 1)) + 1)) + 1))) (.tmp 57) (.tmp 54) h35 rfl) orcN)) ?_
    refine J_st (σ' := St.mk' [(0, rr 0 ((((((s20.1.set s20.2.2.toNat ({ Name := x22, Low := x24.Low, High := x24.High } : Term)).set s20.2.2.toNat ({ Name := x26.Name, Low := ({ A := w64 (s20.2.1 + 1), B := x26.Low.B, C := x26.Low.C } : Version), High := x26.High } : Term)).set s20.2.2.toNat ({ Name := x28.Name, Low := ({ A := x28.Low.A, B := w64 ((w64 (s20.2.1 + 1)) + 1), C := x28.Low.C } : Version), High := x28.High } : Term)).set s20.2.2.toNat ({ Name := x30.Name, Low := ({ A := x30.Low.A, B := x30.Low.B, C := w64 ((w64 ((w64 (s20.2.1 + 1)) + 1)) + 1) } : Version), High := x30.High } : Term)).set s20.2.2.toNat ({ Name := x32.Name, Low := x32.Low, High := ({ A := w64 ((w64 ((w64 ((w64 (s20.2.1 + 1)) + 1)) + 1)) + 1), B := x32.High.B, C := x32.High.C } : Version) } : Term)).set s20.2.2.toNat ({ Name := x34.Name, Low := x34.Low, High := ({ A := x34.High.A, B := w64 ((w64 ((w64 ((w64 ((w64 (s20.2.1 + 1)) + 1)) + 1)) + 1)) + 1), C := x34.High.C } : Version) } : Term))), (1, iv (w64 ((w64 ((w64 ((w64 ((w64 (s20.2.1 + 1)) + 1)) + 1)) + 1)) + 1))), (5, iv s20.2.2)] [(0, rE 7 Term.enc ((((((s20.1.set s20.2.2.toNat ({ Name := x22, Low := x24.Low, High := x24.High } : Term)).set s20.2.2.toNat ({ Name := x26.Name, Low := ({ A := w64 (s20.2.1 + 1), B := x26.Low.B, C := x26.Low.C } : Version), High := x26.High } : Term)).set s20.2.2.toNat ({ Name := x28.Name, Low := ({ A := x28.Low.A, B := w64 ((w64 (s20.2.1 + 1)) + 1), C := x28.Low.C } : Version), High := x28.High } : Term)).set s20.2.2.toNat ({ Name := x30.Name, Low := ({ A := x30.Low.A, B := x30.Low.B, C := w64 ((w64 ((w64 (s20.2.1 + 1)) + 1)) + 1) } : Version), High := x30.High } : Term)).set s20.2.2.toNat ({ Name := x32.Name, Low := x32.Low, High := ({ A := w64 ((w64 ((w64 ((w64 (s20.2.1 + 1)) + 1)) + 1)) + 1), B := x32.High.B, C := x32.High.C } : Version) } : Term)).set s20.2.2.toNat ({ Name := x34.Name, Low := x34.Low, High := ({ A := x34.High.A, B := w64 ((w64 ((w64 ((w64 ((w64 (s20.2.1 + 1)) + 1)) + 1)) + 1)) + 1), C := x34.High.C } : Version) } : Term)))]) (by simp only [rr, List.length_set]) ?_
    refine J_g 1724414 [] [(0, rr 0 ((((((s20.1.set s20.2.2.toNat ({ Name := x22, Low := x24.Low, High := x24.High } : Term)).set s20.2.2.toNat ({ Name := x26.Name, Low := ({ A := w64 (s20.2.1 + 1), B := x26.Low.B, C := x26.Low.C } : Version), High := x26.High } : Term)).set s20.2.2.toNat ({ Name := x28.Name, Low := ({ A := x28.Low.A, B := w64 ((w64 (s20.2.1 + 1)) + 1), C := x28.Low.C } : Version), High := x28.High } : Term)).set s20.2.2.toNat ({ Name := x30.Name, Low := ({ A := x30.Low.A, B := x30.Low.B, C := w64 ((w64 ((w64 (s20.2.1 + 1)) + 1)) + 1) } : Version), High := x30.High } : Term)).set s20.2.2.toNat ({ Name := x32.Name, Low := x32.Low, High := ({ A := w64 ((w64 ((w64 ((w64 (s20.2.1 + 1)) + 1)) + 1)) + 1), B := x32.High.B, C := x32.High.C } : Version) } : Term)).set s20.2.2.toNat ({ Name := x34.Name, Low := x34.Low, High := ({ A := x34.High.A, B := w64 ((w64 ((w64 ((w64 ((w64 (s20.2.1 + 1)) + 1)) + 1)) + 1)) + 1), C := x34.High.C } : Version) } : Term))), (1, iv (w64 ((w64 ((w64 ((w64 ((w64 ((w64 (s20.2.1 + 1)) + 1)) + 1)) + 1)) + 1)) + 1))), (5, iv s20.2.2)] [(0, rE 7 Term.enc ((((((s20.1.set s20.2.2.toNat ({ Name := x22, Low := x24.Low, High := x24.High } : Term)).set s20.2.2.toNat ({ Name := x26.Name, Low := ({ A := w64 (s20.2.1 + 1), B := x26.Low.B, C := x26.Low.C } : Version), High := x26.High } : Term)).set s20.2.2.toNat ({ Name := x28.Name, Low := ({ A := x28.Low.A, B := w64 ((w64 (s20.2.1 + 1)) + 1), C := x28.Low.C } : Version), High := x28.High } : Term)).set s20.2.2.toNat ({ Name := x30.Name, Low := ({ A := x30.Low.A, B := x30.Low.B, C := w64 ((w64 ((w64 (s20.2.1 + 1)) + 1)) + 1) } : Version), High := x30.High } : Term)).set s20.2.2.toNat ({ Name := x32.Name, Low := x32.Low, High := ({ A := w64 ((w64 ((w64 ((w64 (s20.2.1 + 1)) + 1)) + 1)) + 1), B := x32.High.B, C := x32.High.C } : Version) } : Term)).set s20.2.2.toNat ({ Name := x34.Name, Low := x34.Low, High := ({ A := x34.High.A, B := w64 ((w64 ((w64 ((w64 ((w64 (s20.2.1 + 1)) + 1)) + 1)) + 1)) + 1), C := x34.High.C } : Version) } : Term)))] orcN ?_
    refine J_bind (fun x36 h37 => ?_)
    refine J_g 3448830 [] [(0, rr 0 ((((((s20.1.set s20.2.2.toNat ({ Name := x22, Low := x24.Low, High := x24.High } : Term)).set s20.2.2.toNat ({ Name := x26.Name, Low := ({ A := w64 (s20.2.1 + 1), B := x26.Low.B, C := x26.Low.C } : Version), High := x26.High } : Term)).set s20.2.2.toNat ({ Name := x28.Name, Low := ({ A := x28.Low.A, B := w64 ((w64 (s20.2.1 + 1)) + 1), C := x28.Low.C } : Version), High := x28.High } : Term)).set s20.2.2.toNat ({ Name := x30.Name, Low := ({ A := x30.Low.A, B := x30.Low.B, C := w64 ((w64 ((w64 (s20.2.1 + 1)) + 1)) + 1) } : Version), High := x30.High } : Term)).set s20.2.2.toNat ({ Name := x32.Name, Low := x32.Low, High := ({ A := w64 ((w64 ((w64 ((w64 (s20.2.1 + 1)) + 1)) + 1)) + 1), B := x32.High.B, C := x32.High.C } : Version) } : Term)).set s20.2.2.toNat ({ Name := x34.Name, Low := x34.Low, High := ({ A := x34.High.A, B := w64 ((w64 ((w64 ((w64 ((w64 (s20.2.1 + 1)) + 1)) + 1)) + 1)) + 1), C := x34.High.C } : Version) } : Term))), (1, iv (w64 ((w64 ((w64 ((w64 ((w64 ((w64 (s20.2.1 + 1)) + 1)) + 1)) + 1)) + 1)) + 1))), (5, iv s20.2.2)] [(0, rE 7 Term.enc (((((((s20.1.set s20.2.2.toNat ({ Name := x22, Low := x24.Low, High := x24.High } : Term)).set s20.2.2.toNat ({ Name := x26.Name, Low := ({ A := w64 (s20.2.1 + 1), B := x26.Low.B, C := x26.Low.C } : Version), High := x26.High } : Term)).set s20.2.2.toNat ({ Name := x28.Name, Low := ({ A := x28.Low.A, B := w64 ((w64 (s20.2.1 + 1)) + 1), C := x28.Low.C } : Version), High := x28.High } : Term)).set s20.2.2.toNat ({ Name := x30.Name, Low := ({ A := x30.Low.A, B := x30.Low.B, C := w64 ((w64 ((w64 (s20.2.1 + 1)) + 1)) + 1) } : Version), High := x30.High } : Term)).set s20.2.2.toNat ({ Name := x32.Name, Low := x32.Low, High := ({ A := w64 ((w64 ((w64 ((w64 (s20.2.1 + 1)) + 1)) + 1)) + 1), B := x32.High.B, C := x32.High.C } : Version) } : Term)).set s20.2.2.toNat ({ Name := x34.Name, Low := x34.Low, High := ({ A := x34.High.A, B := w64 ((w64 ((w64 ((w64 ((w64 (s20.2.1 + 1)) + 1)) + 1)) + 1)) + 1), C := x34.High.C } : Version) } : Term)).set s20.2.2.toNat ({ Name := x36.Name, Low := x36.Low, High := ({ A := x36.High.A, B := x36.High.B, C := w64 ((w64 ((w64 ((w64 ((w64 ((w64 (s20.2.1 + 1)) + 1)) + 1)) + 1)) + 1)) + 1) } : Version) } : Term)))] (orcC 3 (x_ixr (kk := .i64) 38 43 7 0 Term.enc (.tmp 60) (.tmp 61) h37) (orcD 6 (x_st (b := ({ Name := x36.Name, Low := x36.Low, High := ({ A := x36.High.A, B := x36.High.B, C := w64 ((w64 ((w64 ((w64 ((w64 ((w64 (s20.2.1 + 1)) + 1)) + 1)) + 1)) + 1)) + 1) } : Version) } : Term)) 2 7 0 6 Term.enc (iv (w64 ((w64 ((w64 ((w64 ((w64 ((w64 (s20.2.1 + 1)) + 1)) + 1)) + 1)) + 1)) + 1))) (.tmp 65) (.tmp 62) h37 rfl) orcN)) ?_
    refine J_st (σ' := St.mk' [(0, rr 0 (((((((s20.1.set s20.2.2.toNat ({ Name := x22, Low := x24.Low, High := x24.High } : Term)).set s20.2.2.toNat ({ Name := x26.Name, Low := ({ A := w64 (s20.2.1 + 1), B := x26.Low.B, C := x26.Low.C } : Version), High := x26.High } : Term)).set s20.2.2.toNat ({ Name := x28.Name, Low := ({ A := x28.Low.A, B := w64 ((w64 (s20.2.1 + 1)) + 1), C := x28.Low.C } : Version), High := x28.High } : Term)).set s20.2.2.toNat ({ Name := x30.Name, Low := ({ A := x30.Low.A, B := x30.Low.B, C := w64 ((w64 ((w64 (s20.2.1 + 1)) + 1)) + 1) } : Version), High := x30.High } : Term)).set s20.2.2.toNat ({ Name := x32.Name, Low := x32.Low, High := ({ A := w64 ((w64 ((w64 ((w64 (s20.2.1 + 1)) + 1)) + 1)) + 1), B := x32.High.B, C := x32.High.C } : Version) } : Term)).set s20.2.2.toNat ({ Name := x34.Name, Low := x34.Low, High := ({ A := x34.High.A, B := w64 ((w64 ((w64 ((w64 ((w64 (s20.2.1 + 1)) + 1)) + 1)) + 1)) + 1), C := x34.High.C } : Version) } : Term)).set s20.2.2.toNat ({ Name := x36.Name, Low := x36.Low, High := ({ A := x36.High.A, B := x36.High.B, C := w64 ((w64 ((w64 ((w64 ((w64 ((w64 (s20.2.1 + 1)) + 1)) + 1)) + 1)) + 1)) + 1) } : Version) } : Term))), (1, iv (w64 ((w64 ((w64 ((w64 ((w64 ((w64 (s20.2.1 + 1)) + 1)) + 1)) + 1)) + 1)) + 1))), (5, iv s20.2.2)] [(0, rE 7 Term.enc (((((((s20.1.set s20.2.2.toNat ({ Name := x22, Low := x24.Low, High := x24.High } : Term)).set s20.2.2.toNat ({ Name := x26.Name, Low := ({ A := w64 (s20.2.1 + 1), B := x26.Low.B, C := x26.Low.C } : Version), High := x26.High } : Term)).set s20.2.2.toNat ({ Name := x28.Name, Low := ({ A := x28.Low.A, B := w64 ((w64 (s20.2.1 + 1)) + 1), C := x28.Low.C } : Version), High := x28.High } : Term)).set s20.2.2.toNat ({ Name := x30.Name, Low := ({ A := x30.Low.A, B := x30.Low.B, C := w64 ((w64 ((w64 (s20.2.1 + 1)) + 1)) + 1) } : Version), High := x30.High } : Term)).set s20.2.2.toNat ({ Name := x32.Name, Low := x32.Low, High := ({ A := w64 ((w64 ((w64 ((w64 (s20.2.1 + 1)) + 1)) + 1)) + 1), B := x32.High.B, C := x32.High.C } : Version) } : Term)).set s20.2.2.toNat ({ Name := x34.Name, Low := x34.Low, High := ({ A := x34.High.A, B := w64 ((w64 ((w64 ((w64 ((w64 (s20.2.1 + 1)) + 1)) + 1)) + 1)) + 1), C := x34.High.C } : Version) } : Term)).set s20.2.2.toNat ({ Name := x36.Name, Low := x36.Low, High := ({ A := x36.High.A, B := x36.High.B, C := w64 ((w64 ((w64 ((w64 ((w64 ((w64 (s20.2.1 + 1)) + 1)) + 1)) + 1)) + 1)) + 1) } : Version) } : Term)))]) (by simp only [rr, List.length_set]) ?_
    refine J_g 3448831 [] [(0, rr 0 (((((((s20.1.set s20.2.2.toNat ({ Name := x22, Low := x24.Low, High := x24.High } : Term)).set s20.2.2.toNat ({ Name := x26.Name, Low := ({ A := w64 (s20.2.1 + 1), B := x26.Low.B, C := x26.Low.C } : Version), High := x26.High } : Term)).set s20.2.2.toNat ({ Name := x28.Name, Low := ({ A := x28.Low.A, B := w64 ((w64 (s20.2.1 + 1)) + 1), C := x28.Low.C } : Version), High := x28.High } : Term)).set s20.2.2.toNat ({ Name := x30.Name, Low := ({ A := x30.Low.A, B := x30.Low.B, C := w64 ((w64 ((w64 (s20.2.1 + 1)) + 1)) + 1) } : Version), High := x30.High } : Term)).set s20.2.2.toNat ({ Name := x32.Name, Low := x32.Low, High := ({ A := w64 ((w64 ((w64 ((w64 (s20.2.1 + 1)) + 1)) + 1)) + 1), B := x32.High.B, C := x32.High.C } : Version) } : Term)).set s20.2.2.toNat ({ Name := x34.Name, Low := x34.Low, High := ({ A := x34.High.A, B := w64 ((w64 ((w64 ((w64 ((w64 (s20.2.1 + 1)) + 1)) + 1)) + 1)) + 1), C := x34.High.C } : Version) } : Term)).set s20.2.2.toNat ({ Name := x36.Name, Low := x36.Low, High := ({ A := x36.High.A, B := x36.High.B, C := w64 ((w64 ((w64 ((w64 ((w64 ((w64 (s20.2.1 + 1)) + 1)) + 1)) + 1)) + 1)) + 1) } : Version) } : Term))), (1, iv (w64 ((w64 ((w64 ((w64 ((w64 ((w64 ((w64 (s20.2.1 + 1)) + 1)) + 1)) + 1)) + 1)) + 1)) + 1))), (5, iv s20.2.2)] [(0, rE 7 Term.enc (((((((s20.1.set s20.2.2.toNat ({ Name := x22, Low := x24.Low, High := x24.High } : Term)).set s20.2.2.toNat ({ Name := x26.Name, Low := ({ A := w64 (s20.2.1 + 1), B := x26.Low.B, C := x26.Low.C } : Version), High := x26.High } : Term)).set s20.2.2.toNat ({ Name := x28.Name, Low := ({ A := x28.Low.A, B := w64 ((w64 (s20.2.1 + 1)) + 1), C := x28.Low.C } : Version), High := x28.High } : Term)).set s20.2.2.toNat ({ Name := x30.Name, Low := ({ A := x30.Low.A, B := x30.Low.B, C := w64 ((w64 ((w64 (s20.2.1 + 1)) + 1)) + 1) } : Version), High := x30.High } : Term)).set s20.2.2.toNat ({ Name := x32.Name, Low := x32.Low, High := ({ A := w64 ((w64 ((w64 ((w64 (s20.2.1 + 1)) + 1)) + 1)) + 1), B := x32.High.B, C := x32.High.C } : Version) } : Term)).set s20.2.2.toNat ({ Name := x34.Name, Low := x34.Low, High := ({ A := x34.High.A, B := w64 ((w64 ((w64 ((w64 ((w64 (s20.2.1 + 1)) + 1)) + 1)) + 1)) + 1), C := x34.High.C } : Version) } : Term)).set s20.2.2.toNat ({ Name := x36.Name, Low := x36.Low, High := ({ A := x36.High.A, B := x36.High.B, C := w64 ((w64 ((w64 ((w64 ((w64 ((w64 (s20.2.1 + 1)) + 1)) + 1)) + 1)) + 1)) + 1) } : Version) } : Term)))] orcN ?_
    refine J_g 211 [] [(0, rr 0 (((((((s20.1.set s20.2.2.toNat ({ Name := x22, Low := x24.Low, High := x24.High } : Term)).set s20.2.2.toNat ({ Name := x26.Name, Low := ({ A := w64 (s20.2.1 + 1), B := x26.Low.B, C := x26.Low.C } : Version), High := x26.High } : Term)).set s20.2.2.toNat ({ Name := x28.Name, Low := ({ A := x28.Low.A, B := w64 ((w64 (s20.2.1 + 1)) + 1), C := x28.Low.C } : Version), High := x28.High } : Term)).set s20.2.2.toNat ({ Name := x30.Name, Low := ({ A := x30.Low.A, B := x30.Low.B, C := w64 ((w64 ((w64 (s20.2.1 + 1)) + 1)) + 1) } : Version), High := x30.High } : Term)).set s20.2.2.toNat ({ Name := x32.Name, Low := x32.Low, High := ({ A := w64 ((w64 ((w64 ((w64 (s20.2.1 + 1)) + 1)) + 1)) + 1), B := x32.High.B, C := x32.High.C } : Version) } : Term)).set s20.2.2.toNat ({ Name := x34.Name, Low := x34.Low, High := ({ A := x34.High.A, B := w64 ((w64 ((w64 ((w64 ((w64 (s20.2.1 + 1)) + 1)) + 1)) + 1)) + 1), C := x34.High.C } : Version) } : Term)).set s20.2.2.toNat ({ Name := x36.Name, Low := x36.Low, High := ({ A := x36.High.A, B := x36.High.B, C := w64 ((w64 ((w64 ((w64 ((w64 ((w64 (s20.2.1 + 1)) + 1)) + 1)) + 1)) + 1)) + 1) } : Version) } : Term))), (1, iv (w64 ((w64 ((w64 ((w64 ((w64 ((w64 ((w64 (s20.2.1 + 1)) + 1)) + 1)) + 1)) + 1)) + 1)) + 1))), (5, iv (w64 (s20.2.2 + 1)))] [(0, rE 7 Term.enc (((((((s20.1.set s20.2.2.toNat ({ Name := x22, Low := x24.Low, High := x24.High } : Term)).set s20.2.2.toNat ({ Name := x26.Name, Low := ({ A := w64 (s20.2.1 + 1), B := x26.Low.B, C := x26.Low.C } : Version), High := x26.High } : Term)).set s20.2.2.toNat ({ Name := x28.Name, Low := ({ A := x28.Low.A, B := w64 ((w64 (s20.2.1 + 1)) + 1), C := x28.Low.C } : Version), High := x28.High } : Term)).set s20.2.2.toNat ({ Name := x30.Name, Low := ({ A := x30.Low.A, B := x30.Low.B, C := w64 ((w64 ((w64 (s20.2.1 + 1)) + 1)) + 1) } : Version), High := x30.High } : Term)).set s20.2.2.toNat ({ Name := x32.Name, Low := x32.Low, High := ({ A := w64 ((w64 ((w64 ((w64 (s20.2.1 + 1)) + 1)) + 1)) + 1), B := x32.High.B, C := x32.High.C } : Version) } : Term)).set s20.2.2.toNat ({ Name := x34.Name, Low := x34.Low, High := ({ A := x34.High.A, B := w64 ((w64 ((w64 ((w64 ((w64 (s20.2.1 + 1)) + 1)) + 1)) + 1)) + 1), C := x34.High.C } : Version) } : Term)).set s20.2.2.toNat ({ Name := x36.Name, Low := x36.Low, High := ({ A := x36.High.A, B := x36.High.B, C := w64 ((w64 ((w64 ((w64 ((w64 ((w64 (s20.2.1 + 1)) + 1)) + 1)) + 1)) + 1)) + 1) } : Version) } : Term)))] orcN ?_
    exact J_q (J_b (ih (((((((s20.1.set s20.2.2.toNat ({ Name := x22, Low := x24.Low, High := x24.High } : Term)).set s20.2.2.toNat ({ Name := x26.Name, Low := ({ A := w64 (s20.2.1 + 1), B := x26.Low.B, C := x26.Low.C } : Version), High := x26.High } : Term)).set s20.2.2.toNat ({ Name := x28.Name, Low := ({ A := x28.Low.A, B := w64 ((w64 (s20.2.1 + 1)) + 1), C := x28.Low.C } : Version), High := x28.High } : Term)).set s20.2.2.toNat ({ Name := x30.Name, Low := ({ A := x30.Low.A, B := x30.Low.B, C := w64 ((w64 ((w64 (s20.2.1 + 1)) + 1)) + 1) } : Version), High := x30.High } : Term)).set s20.2.2.toNat ({ Name := x32.Name, Low := x32.Low, High := ({ A := w64 ((w64 ((w64 ((w64 (s20.2.1 + 1)) + 1)) + 1)) + 1), B := x32.High.B, C := x32.High.C } : Version) } : Term)).set s20.2.2.toNat ({ Name := x34.Name, Low := x34.Low, High := ({ A := x34.High.A, B := w64 ((w64 ((w64 ((w64 ((w64 (s20.2.1 + 1)) + 1)) + 1)) + 1)) + 1), C := x34.High.C } : Version) } : Term)).set s20.2.2.toNat ({ Name := x36.Name, Low := x36.Low, High := ({ A := x36.High.A, B := x36.High.B, C := w64 ((w64 ((w64 ((w64 ((w64 ((w64 (s20.2.1 + 1)) + 1)) + 1)) + 1)) + 1)) + 1) } : Version) } : Term), w64 ((w64 ((w64 ((w64 ((w64 ((w64 ((w64 (s20.2.1 + 1)) + 1)) + 1)) + 1)) + 1)) + 1)) + 1), w64 (s20.2.2 + 1)))) rfl
  · exact J_qw (hk (s20.1, s20.2.1)) rfl

theorem laws_markTermSr.ok (a1 : (List Term)) (a2 : Int) : Ok Try.prog 25 [rr 0 a1, iv a2] [rE 7 Term.enc a1] ((laws_markTermSr a1 a2).map fun r => (iv r.1, [rE 7 Term.enc r.2])) := by
  refine Ok_of3 c25 Try.f25 1 69 (fun q => ?_)
  unfold laws_markTermSr
  refine J_g 2 [] [(0, rr 0 a1), (1, iv a2)] [(0, rE 7 Term.enc a1)] orcN ?_
  refine J_g 12 [] [(0, rr 0 a1), (1, iv a2), (5, iv 0)] [(0, rE 7 Term.enc a1)] orcN ?_
  refine J_lq (laws_markTermSr_l1.ok q _ (fun v38 => J_j ?_) (a1, a2, 0))
  refine J_g 14 [] [(4, iv v38.2)] [(0, rE 7 Term.enc v38.1)] orcN ?_
  exact J_r1 rfl

noncomputable def c26 : Code := (Try.f26.body).getD .skip

theorem laws_heldTermS_l1.ok (a1 : (List Term)) (q : Wd) (kn : Int → Option (D × List Ent)) (hk : ∀ v : Int, J (q.g Try.prog 26 0 83) c26 (atI c26 7) (St.mk' [(1, iv v)] []) (some v) kn) :
    ∀ s27 : (Int × Int), J (q.g Try.prog 26 0 83) c26 (atI c26 52) (St.mk' [(0, sl 7 Term.enc a1), (1, iv s27.1), (5, iv s27.2)] []) (laws_heldTermS_l1 a1 s27) (Fl.go (fun r : Int => some (iv r, [])) kn) := by
  refine J_lp (fun g ih s27 => ?_)
  unfold laws_heldTermS_l1b
  refine J_g 208 [] [(0, sl 7 Term.enc a1), (1, iv s27.1), (5, iv s27.2), (9, bv (decide (s27.2 < (a1.length : Int))))] [] orcN ?_
  refine J_if2 9 (fun h28 => ?_) (fun h28 => ?_)
  · refine J_bind (fun x29 h30 => ?_)
    refine J_bind (fun x31 h32 => ?_)
    refine J_g 1680 [] [(0, sl 7 Term.enc a1), (1, iv s27.1), (5, iv s27.2), (19, bv (!(seq x29.Name x31)))] [] (orcC 2 (x_ix (kk := .i64) 38 43 7 Term.enc (.tmp 12) (.tmp 13) h30) (orcC 6 (x_c0 [(.tmp 17)] [3] (laws_markText.ok s27.1) h32) orcN)) ?_
    refine J_if2 19 (fun h33 => ?_) (fun h33 => ?_)
    · refine J_g 6724 [] [(4, iv (-1))] [] orcN ?_
      exact J_r1 rfl
    · refine J_g 1682 [] [(0, sl 7 Term.enc a1), (1, iv (w64 (s27.1 + 1))), (5, iv s27.2)] [] orcN ?_
      refine J_bind (fun x34 h35 => ?_)
      refine J_g 6732 [] [(0, sl 7 Term.enc a1), (1, iv (w64 (s27.1 + 1))), (5, iv s27.2), (29, bv (x34.Low.A != (w64 (s27.1 + 1))))] [] (orcC 2 (x_ix (kk := .i64) 38 43 7 Term.enc (.tmp 22) (.tmp 23) h35) orcN) ?_
      refine J_if2 29 (fun h36 => ?_) (fun h36 => ?_)
      · refine J_g 26932 [] [(4, iv (-1))] [] orcN ?_
        exact J_r1 rfl
      · refine J_g 6734 [] [(0, sl 7 Term.enc a1), (1, iv (w64 ((w64 (s27.1 + 1)) + 1))), (5, iv s27.2)] [] orcN ?_
        refine J_bind (fun x37 h38 => ?_)
        refine J_g 26940 [] [(0, sl 7 Term.enc a1), (1, iv (w64 ((w64 (s27.1 + 1)) + 1))), (5, iv s27.2), (39, bv (x37.Low.B != (w64 ((w64 (s27.1 + 1)) + 1))))] [] (orcC 2 (x_ix (kk := .i64) 38 43 7 Term.enc (.tmp 32) (.tmp 33) h38) orcN) ?_
        refine J_if2 39 (fun h39 => ?_) (fun h39 => ?_)
        · refine J_g 107764 [] [(4, iv (-1))] [] orcN ?_
          exact J_r1 rfl
        · refine J_g 26942 [] [(0, sl 7 Term.enc a1), (1, iv (w64 ((w64 ((w64 (s27.1 + 1)) + 1)) + 1))), (5, iv s27.2)] [] orcN ?_
          refine J_bind (fun x40 h41 => ?_)
          refine J_g 107772 [] [(0, sl 7 Term.enc a1), (1, iv (w64 ((w64 ((w64 (s27.1 + 1)) + 1)) + 1))), (5, iv s27.2), (49, bv (x40.Low.C != (w64 ((w64 ((w64 (s27.1 + 1)) + 1)) + 1))))] [] (orcC 2 (x_ix (kk := .i64) 38 43 7 Term.enc (.tmp 42) (.tmp 43) h41) orcN) ?_
          refine J_if2 49 (fun h42 => ?_) (fun h42 => ?_)
          · refine J_g 431092 [] [(4, iv (-1))] [] orcN ?_
            exact J_r1 rfl
          · refine J_g 107774 [] [(0, sl 7 Term.enc a1), (1, iv (w64 ((w64 ((w64 ((w64 (s27.1 + 1)) + 1)) + 1)) + 1))), (5, iv s27.2)] [] orcN ?_
            refine J_bind (fun x43 h44 => ?_)
            refine J_g 431100 [] [(0, sl 7 Term.enc a1), (1, iv (w64 ((w64 ((w64 ((w64 (s27.1 + 1)) + 1)) + 1)) + 1))), (5, iv s27.2), (59, bv (x43.High.A != (w64 ((w64 ((w64 ((w64 (s27.1 + 1)) + 1)) + 1)) + 1))))] [] (orcC 2 (x_ix (kk := .i64) 38 43 7 Term.enc (.tmp 52) (.tmp 53) h44) orcN) ?_
            refine J_if2 59 (fun h45 => ?_) (fun h45 => ?_)
            · refine J_g 1724404 [] [(4, iv (-1))] [] orcN ?_
              exact J_r1 rfl
            · refine J_g 431102 [] [(0, sl 7 Term.enc a1), (1, iv (w64 ((w64 ((w64 ((w64 ((w64 (s27.1 + 1)) + 1)) + 1)) + 1)) + 1))), (5, iv s27.2)] [] orcN ?_
              refine J_bind (fun x46 h47 => ?_)
              refine J_g 1724412 [] [(0, sl 7 Term.enc a1), (1, iv (w64 ((w64 ((w64 ((w64 ((w64 (s27.1 + 1)) + 1)) + 1)) + 1)) + 1))), (5, iv s27.2), (69, bv (x46.High.B != (w64 ((w64 ((w64 ((w64 ((w64 (s27.1 + 1)) + 1)) + 1)) + 1)) + 1))))] [] (orcC 2 (x_ix (kk := .i64) 38 43 7 Term.enc (.tmp 62) (.tmp 63) h47) orcN) ?_
              refine J_if2 69 (fun h48 => ?_) (fun h48 => ?_)
              · refine J_g 6897652 [] [(4, iv (-1))] [] orcN ?_
                exact J_r1 rfl
              · refine J_g 1724414 [] [(0, sl 7 Term.enc a1), (1, iv (w64 ((w64 ((w64 ((w64 ((w64 ((w64 (s27.1 + 1)) + 1)) + 1)) + 1)) + 1)) + 1))), (5, iv s27.2)] [] orcN ?_
                refine J_bind (fun x49 h50 => ?_)
                refine J_g 6897660 [] [(0, sl 7 Term.enc a1), (1, iv (w64 ((w64 ((w64 ((w64 ((w64 ((w64 (s27.1 + 1)) + 1)) + 1)) + 1)) + 1)) + 1))), (5, iv s27.2), (79, bv (x49.High.C != (w64 ((w64 ((w64 ((w64 ((w64 ((w64 (s27.1 + 1)) + 1)) + 1)) + 1)) + 1)) + 1))))] [] (orcC 2 (x_ix (kk := .i64) 38 43 7 Term.enc (.tmp 72) (.tmp 73) h50) orcN) ?_
                refine J_if2 79 (fun h51 => ?_) (fun h51 => ?_)
                · refine J_g 27590644 [] [(4, iv (-1))] [] orcN ?_
                  exact J_r1 rfl
                · refine J_g 3448831 [] [(0, sl 7 Term.enc a1), (1, iv (w64 ((w64 ((w64 ((w64 ((w64 ((w64 ((w64 (s27.1 + 1)) + 1)) + 1)) + 1)) + 1)) + 1)) + 1))), (5, iv s27.2)] [] orcN ?_
                  refine J_g 211 [] [(0, sl 7 Term.enc a1), (1, iv (w64 ((w64 ((w64 ((w64 ((w64 ((w64 ((w64 (s27.1 + 1)) + 1)) + 1)) + 1)) + 1)) + 1)) + 1))), (5, iv (w64 (s27.2 + 1)))] [] orcN ?_
                  exact J_q (J_b (ih (w64 ((w64 ((w64 ((w64 ((w64 ((w64 ((w64 (s27.1 + 1)) + 1)) + 1)) + 1)) + 1)) + 1)) + 1), w64 (s27.2 + 1)))) rfl
  · exact J_qw (hk s27.1) rfl

theorem laws_heldTermS.ok (a1 : (List Term)) (a2 : Int) : Ok Try.prog 26 [sl 7 Term.enc a1, iv a2] [] ((laws_heldTermS a1 a2).map fun r => (iv r, [])) := by
  refine Ok_of3 c26 Try.f26 0 83 (fun q => ?_)
  unfold laws_heldTermS
  refine J_g 2 [] [(0, sl 7 Term.enc a1), (1, iv a2)] [] orcN ?_
  refine J_g 12 [] [(0, sl 7 Term.enc a1), (1, iv a2), (5, iv 0)] [] orcN ?_
  refine J_lqF (K0 := (fun r : Int => some (iv r, []))) (fun _ => rfl) (laws_heldTermS_l1.ok a1 q _ (fun v52 => J_j ?_) (a2, 0))
  refine J_g 14 [] [(4, iv v52)] [] orcN ?_
  exact J_r1 rfl

noncomputable def c4 : Code := (Try.f4.body).getD .skip

theorem laws_FnExactAsksWith.ok (a1 : (List Term)) (a2 : Term) : Ok Try.prog 4 [sl 7 Term.enc a1, .ag (Term.enc a2)] [] ((laws_FnExactAsksWith a1 a2).map fun r => (bv r, [])) := by
  refine Ok_of3 c4 Try.f4 0 82 (fun q => ?_)
  unfold laws_FnExactAsksWith
  refine J_g 2 [(0, 0)] [(0, sl 7 Term.enc a1), (3, pp 0)] [(0, .box (Term.enc a2))] orcN ?_
  refine J_g 6 [] [(0, sl 7 Term.enc a1), (3, pp 0), (5, iv 1048576)] [(0, .box (Term.enc a2))] orcN ?_
  refine J_bind (fun x3 h4 => ?_)
  refine J_g 14 [] [(0, sl 7 Term.enc a1), (3, pp 0), (5, iv x3)] [(0, .box (Term.enc a2))] (orcC 2 (x_c0 [(.tmp 13), (.tmp 14)] [31, 3] (laws_szTermS.ok a1 1048576) h4) orcN) ?_
  refine J_g 60 [] [(0, sl 7 Term.enc a1), (3, pp 0), (5, iv x3), (17, bv (decide (x3 < 0)))] [(0, .box (Term.enc a2))] orcN ?_
  refine J_if2 17 (fun h5 => ?_) (fun h5 => ?_)
  · refine J_g 244 [] [(4, bv true)] [] orcN ?_
    exact J_r1 rfl
  · refine J_bind (fun x6 h7 => ?_)
    refine J_g 62 [] [(0, sl 7 Term.enc a1), (3, pp 0), (5, iv x6)] [(0, .box (Term.enc a2))] (orcC 2 (x_c0 [(.tmp 18), (.tmp 19)] [35, 3] (laws_szTerm.ok a2 x3) h7) orcN) ?_
    refine J_g 252 [] [(0, sl 7 Term.enc a1), (3, pp 0), (22, bv (decide (x6 < 0)))] [(0, .box (Term.enc a2))] orcN ?_
    refine J_if2 22 (fun h8 => ?_) (fun h8 => ?_)
    · refine J_g 1012 [] [(4, bv true)] [] orcN ?_
      exact J_r1 rfl
    · refine J_bind (fun x9 h10 => ?_)
      refine J_bind (fun x11 h12 => ?_)
      refine J_bind (fun x13 h14 => ?_)
      refine J_g 254 [] [(0, sl 7 Term.enc a1), (3, pp 0), (6, rr 2 x13)] [(0, .box (Term.enc a2)), (2, rE 7 Term.enc x13)] (orcC 1 (x_c1 («as» := [sl 7 Term.enc a1]) [(.tmp 23)] [31] false [] [] (.cons (.same rfl) (.nil)) (laws_toTermS.ok a1) h10 (.own 1)) (orcC 3 (x_c0 [(.tmp 25)] [35] (laws_toTerm.ok a2) h12) (orcC 4 (x_c1 («as» := [rr 1 x9, .ag (Term.enc x11)]) [(.tmp 24), (.tmp 26)] [38, 43] true [(1, rE 7 Term.enc x9)] [] (.cons (am_b (.head _) (fun _ => rfl) rfl) (.cons (.same rfl) (.nil))) (spec_AsksWith.ok x9 x11) h14 (.own 2) (hbor := fun _ => ⟨rfl, (flat_s (flatM (fun _ => (Term.fl _)) _))⟩)) orcN))) ?_
      refine J_bind (fun x15 h16 => ?_)
      refine J_g 510 [] [(0, sl 7 Term.enc a1), (3, pp 0), (6, rr 2 x13), (7, rr 3 x15)] [(0, .box (Term.enc a2)), (2, rE 7 Term.enc x13), (3, rE 7 Term.enc x15)] (orcC 1 (x_c1 («as» := [sl 7 Term.enc a1]) [(.tmp 28)] [31] false [] [] (.cons (.same rfl) (.nil)) (laws_toTermS.ok a1) h16 (.own 3)) orcN) ?_
      refine J_bind (fun x17 h18 => ?_)
      refine J_bind (fun x19 h20 => ?_)
      refine J_g 1022 [] [(0, sl 7 Term.enc a1), (3, pp 0), (6, rr 2 x13), (7, rr 3 x15), (8, rr 4 x19)] [(0, .box (Term.enc a2)), (2, rE 7 Term.enc x13), (3, rE 7 Term.enc x15), (4, rE 7 Term.enc x19)] (orcC 2 (x_c0 [(.tmp 31)] [35] (laws_toTerm.ok a2) h18) (orcC 3 (x_c1 («as» := [rr 3 x15, .ag (Term.enc x17)]) [(.tmp 30), (.tmp 32)] [38, 43] true [(3, rE 7 Term.enc x15)] [] (.cons (am_b (.head _) (fun _ => rfl) rfl) (.cons (.same rfl) (.nil))) (impl_AsksWith.ok x15 x17) h20 (.own 4) (hbor := fun _ => ⟨rfl, (flat_s (flatM (fun _ => (Term.fl _)) _))⟩)) orcN)) ?_
      refine J_bind (fun x21 h22 => ?_)
      refine J_g 4092 [] [(0, sl 7 Term.enc a1), (3, pp 0), (6, rr 2 x13), (7, rr 3 x15), (8, rr 4 x19), (37, bv (!x21))] [(0, .box (Term.enc a2)), (2, rE 7 Term.enc x13), (3, rE 7 Term.enc x15), (4, rE 7 Term.enc x19)] (orcC 2 (x_c1 («as» := [rr 4 x19, rr 2 x13]) [(.tmp 34), (.tmp 35)] [38, 38] true [(4, rE 7 Term.enc x19), (2, rE 7 Term.enc x13)] [] (.cons (am_b (.head _) (fun _ => rfl) rfl) (.cons (am_b (.tail _ (.head _)) (fun _ => rfl) rfl) (.nil))) (laws_eqTermS.ok x19 x13) h22 (.same rfl rfl) (hbor := fun _ => ⟨rfl, flat_sc⟩)) orcN) ?_
      refine J_if2 37 (fun h23 => ?_) (fun h23 => ?_)
      · refine J_g 16372 [] [(4, bv false)] [] orcN ?_
        exact J_r1 rfl
      · refine J_bind (fun x24 h25 => ?_)
        refine J_bind (fun x26 h27 => ?_)
        refine J_g 8188 [] [(0, sl 7 Term.enc a1), (3, pp 0), (6, rr 2 x13), (7, rr 3 x15), (8, rr 4 x19), (42, bv (!x26))] [(0, .box (Term.enc a2)), (2, rE 7 Term.enc x13), (3, rE 7 Term.enc x15), (4, rE 7 Term.enc x19)] (orcC 2 (x_c1 («as» := [sl 7 Term.enc a1]) [(.tmp 39)] [31] false [] [] (.cons (.same rfl) (.nil)) (laws_toTermS.ok a1) h25 (.own 5)) (orcC 3 (x_c1 («as» := [rr 3 x15, rr 5 x24]) [(.tmp 38), (.tmp 40)] [38, 38] true [(3, rE 7 Term.enc x15), (5, rE 7 Term.enc x24)] [] (.cons (am_b (.head _) (fun _ => rfl) rfl) (.cons (am_b (.tail _ (.head _)) (fun _ => rfl) rfl) (.nil))) (laws_eqTermS.ok x15 x24) h27 (.same rfl rfl) (hbor := fun _ => ⟨rfl, flat_sc⟩)) orcN)) ?_
        refine J_if2 42 (fun h28 => ?_) (fun h28 => ?_)
        · refine J_g 32756 [] [(4, bv false)] [] orcN ?_
          exact J_r1 rfl
        · refine J_g 8190 [] [(0, sl 7 Term.enc a1), (3, pp 0), (6, rr 2 x13), (7, rr 3 x15), (8, rr 4 x19), (9, iv 1)] [(0, .box (Term.enc a2)), (2, rE 7 Term.enc x13), (3, rE 7 Term.enc x15), (4, rE 7 Term.enc x19)] orcN ?_
          refine J_bind (fun x29 h30 => ?_)
          refine J_g 16382 [] [(0, sl 7 Term.enc a1), (3, pp 0), (6, rr 2 x13), (8, rr 4 x19), (9, iv x29.1)] [(0, .box (Term.enc a2)), (2, rE 7 Term.enc x13), (4, rE 7 Term.enc x19)] (orcC 2 (x_c1 («as» := [rr 3 x15, iv 1]) [(.tmp 43), (.tmp 44)] [38, 3] false [(3, rE 7 Term.enc x15)] [3] (.cons (.rf rfl) (.cons (.same rfl) (.nil))) (laws_markTermSr.ok x15 1) h30 (.same rfl rfl)) orcN) ?_
          refine J_join (atI c4 65533) (fun v34 : Bool => St.mk' [(0, sl 7 Term.enc a1), (3, pp 0), (6, rr 2 x13), (8, rr 4 x19), (53, bv v34)] [(0, .box (Term.enc a2)), (2, rE 7 Term.enc x13), (4, rE 7 Term.enc x19)]) (fun v34 => ?_) (fun jv34 => ?_)
          · refine J_if2 53 (fun h35 => ?_) (fun h35 => ?_)
            · refine J_g 262132 [] [(4, bv false)] [] orcN ?_
              exact J_r1 rfl
            · refine J_g 65534 [] [(0, sl 7 Term.enc a1), (3, pp 0), (6, rr 2 x13), (8, rr 4 x19), (10, iv 1)] [(0, .box (Term.enc a2)), (2, rE 7 Term.enc x13), (4, rE 7 Term.enc x19)] orcN ?_
              refine J_bind (fun x36 h37 => ?_)
              refine J_g 131070 [] [(0, sl 7 Term.enc a1), (3, pp 0), (6, rr 2 x13), (8, rr 4 x19), (10, iv x36.1)] [(0, .box (Term.enc a2)), (2, rE 7 Term.enc x13), (4, rE 7 Term.enc x36.2)] (orcC 2 (x_c1 («as» := [rr 4 x19, iv 1]) [(.tmp 54), (.tmp 55)] [38, 3] false [(4, rE 7 Term.enc x19)] [4] (.cons (.rf rfl) (.cons (.same rfl) (.nil))) (laws_markTermSr.ok x19 1) h37 (.same rfl rfl)) orcN) ?_
              refine J_bind (fun u38 h39 => ?_)
              refine J_st (σ' := St.mk' [(0, sl 7 Term.enc a1), (3, pp 0), (6, rr 2 x13), (8, rr 4 x36.2), (10, iv x36.1)] [(0, .box (Term.enc a2)), (2, rE 7 Term.enc x13), (4, rE 7 Term.enc x36.2)]) (by simp only [rr, same_len h39]) ?_
              refine J_g 262142 [] [(0, sl 7 Term.enc a1), (3, pp 0), (6, rr 2 x13), (8, rr 4 x36.2), (10, iv x36.1), (11, iv 1)] [(0, .box (Term.enc a2)), (2, rE 7 Term.enc x13), (4, rE 7 Term.enc x36.2)] orcN ?_
              refine J_bind (fun x40 h41 => ?_)
              refine J_g 524286 [] [(0, sl 7 Term.enc a1), (3, pp 0), (6, rr 2 x13), (8, rr 4 x36.2), (10, iv x36.1), (11, iv x40)] [(0, .box (Term.enc a2)), (2, rE 7 Term.enc x13), (4, rE 7 Term.enc x36.2)] (orcC 2 (x_c1 («as» := [rr 4 x36.2, iv 1]) [(.tmp 57), (.tmp 58)] [38, 3] true [(4, rE 7 Term.enc x36.2)] [] (.cons (am_b (.head _) (fun _ => rfl) rfl) (.cons (.same rfl) (.nil))) (laws_heldTermS.ok x36.2 1) h41 (.same rfl rfl) (hbor := fun _ => ⟨rfl, flat_sc⟩)) orcN) ?_
              refine J_g 2097148 [] [(0, sl 7 Term.enc a1), (3, pp 0), (6, rr 2 x13), (8, rr 4 x36.2), (10, iv x36.1), (11, iv x40), (61, bv (decide (x40 < 0)))] [(0, .box (Term.enc a2)), (2, rE 7 Term.enc x13), (4, rE 7 Term.enc x36.2)] orcN ?_
              refine J_if2 61 (fun h42 => ?_) (fun h42 => ?_)
              · refine J_g 8388596 [] [(4, bv false)] [] orcN ?_
                exact J_r1 rfl
              · refine J_g 4194300 [] [(0, sl 7 Term.enc a1), (3, pp 0), (6, rr 2 x13), (8, rr 4 x36.2), (10, iv x36.1), (64, bv (x40 != x36.1))] [(0, .box (Term.enc a2)), (2, rE 7 Term.enc x13), (4, rE 7 Term.enc x36.2)] orcN ?_
                refine J_if2 64 (fun h43 => ?_) (fun h43 => ?_)
                · refine J_g 16777204 [] [(4, bv false)] [] orcN ?_
                  exact J_r1 rfl
                · refine J_bind (fun x44 h45 => ?_)
                  refine J_bind (fun x46 h47 => ?_)
                  refine J_bind (fun x48 h49 => ?_)
                  refine J_g 4194302 [] [(6, rr 2 x13), (8, rr 4 x36.2), (10, iv x36.1), (12, rr 6 x48)] [(2, rE 7 Term.enc x13), (4, rE 7 Term.enc x36.2), (6, rE 7 Term.enc x48)] (orcC 1 (x_c1 («as» := [sl 7 Term.enc a1]) [(.tmp 65)] [31] false [] [] (.cons (.same rfl) (.nil)) (laws_toTermS.ok a1) h45 (.own 5)) (orcC 3 (x_c0 [(.tmp 67)] [35] (laws_toTerm.ok a2) h47) (orcC 4 (x_c1 («as» := [rr 5 x44, .ag (Term.enc x46)]) [(.tmp 66), (.tmp 68)] [38, 43] true [(5, rE 7 Term.enc x44)] [] (.cons (am_b (.head _) (fun _ => rfl) rfl) (.cons (.same rfl) (.nil))) (impl_AsksWith.ok x44 x46) h49 (.own 6) (hbor := fun _ => ⟨rfl, (flat_s (flatM (fun _ => (Term.fl _)) _))⟩)) orcN))) ?_
                  refine J_bind (fun x50 h51 => ?_)
                  refine J_g 16777212 [] [(8, rr 4 x36.2), (10, iv x36.1), (73, bv (!x50))] [(4, rE 7 Term.enc x36.2)] (orcC 2 (x_c1 («as» := [rr 6 x48, rr 2 x13]) [(.tmp 70), (.tmp 71)] [38, 38] true [(6, rE 7 Term.enc x48), (2, rE 7 Term.enc x13)] [] (.cons (am_b (.head _) (fun _ => rfl) rfl) (.cons (am_b (.tail _ (.head _)) (fun _ => rfl) rfl) (.nil))) (laws_eqTermS.ok x48 x13) h51 (.same rfl rfl) (hbor := fun _ => ⟨rfl, flat_sc⟩)) orcN) ?_
                  refine J_if2 73 (fun h52 => ?_) (fun h52 => ?_)
                  · refine J_g 67108852 [] [(4, bv false)] [] orcN ?_
                    exact J_r1 rfl
                  · refine J_g 16777214 [] [(8, rr 4 x36.2), (10, iv x36.1), (11, iv 1)] [(4, rE 7 Term.enc x36.2)] orcN ?_
                    refine J_bind (fun x53 h54 => ?_)
                    refine J_g 33554430 [] [(10, iv x36.1), (11, iv x53)] [] (orcC 2 (x_c1 («as» := [rr 4 x36.2, iv 1]) [(.tmp 74), (.tmp 75)] [38, 3] true [(4, rE 7 Term.enc x36.2)] [] (.cons (am_b (.head _) (fun _ => rfl) rfl) (.cons (.same rfl) (.nil))) (laws_heldTermS.ok x36.2 1) h54 (.same rfl rfl) (hbor := fun _ => ⟨rfl, flat_sc⟩)) orcN) ?_
                    refine J_g 134217724 [] [(10, iv x36.1), (11, iv x53), (78, bv (decide (x53 < 0)))] [] orcN ?_
                    refine J_if2 78 (fun h55 => ?_) (fun h55 => ?_)
                    · refine J_g 536870900 [] [(4, bv false)] [] orcN ?_
                      exact J_r1 rfl
                    · refine J_g 268435452 [] [(81, bv (x53 != x36.1))] [] orcN ?_
                      refine J_if2 81 (fun h56 => ?_) (fun h56 => ?_)
                      · refine J_g 1073741812 [] [(4, bv false)] [] orcN ?_
                        exact J_r1 rfl
                      · refine J_g 268435454 [] [(4, bv true)] [] orcN ?_
                        exact J_r1 rfl
          · refine J_ite (fun h31 => ?_) (fun h31 => ?_)
            · refine J_g 65532 [] [(0, sl 7 Term.enc a1), (3, pp 0), (6, rr 2 x13), (8, rr 4 x19), (53, bv true)] [(0, .box (Term.enc a2)), (2, rE 7 Term.enc x13), (4, rE 7 Term.enc x19)] (orcL 2 [(47, bv (decide (x29.1 < 0)))] [] h31 orcN) ?_
              exact J_qw (J_j (jv34 true)) rfl
            · refine J_bind (fun x32 h33 => ?_)
              refine J_g 65532 [] [(0, sl 7 Term.enc a1), (3, pp 0), (6, rr 2 x13), (8, rr 4 x19), (53, bv (!x32))] [(0, .box (Term.enc a2)), (2, rE 7 Term.enc x13), (4, rE 7 Term.enc x19)] (orcL 2 [(47, bv (decide (x29.1 < 0)))] [] h31 (orcH 5 2 48 false (x_c1 («as» := [rr 4 x19, rr 2 x13]) [(.tmp 49), (.tmp 50)] [38, 38] true [(4, rE 7 Term.enc x19), (2, rE 7 Term.enc x13)] [] (.cons (am_b (.head _) (fun _ => rfl) rfl) (.cons (am_b (.tail _ (.head _)) (fun _ => rfl) rfl) (.nil))) (laws_eqTermS.ok x19 x13) h33 (.same rfl rfl) (hbor := fun _ => ⟨rfl, flat_sc⟩)) orcN)) ?_
              exact J_qw (J_j (jv34 (!x32))) rfl

end Go.Told

import Derived.Test.YtbifnchjphefeaaDoorToldPackPath
import Derived.Test.YtbifnchjphefeaaDoorShelf
import Derived.Test.YtbifnchjphefeaaDoorProg
set_option linter.unusedVariables false
set_option maxRecDepth 4000
namespace Go.Told
open Go Go.Im Go.Proofs

noncomputable def c35 : Code := (Tryd.f35.body).getD .skip

theorem laws_szStringS_l1.ok (a1 : (List ByteArray)) (q : Wd) (kn : Int → Option (D × List Ent)) (hk : ∀ v : Int, J (q.g Tryd.prog 35 0 28) c35 (atI c35 31) (St.mk' [(1, iv v)] []) (some v) kn) :
    ∀ s8 : (Int × Int), J (q.g Tryd.prog 35 0 28) c35 (atI c35 244) (St.mk' [(0, sl 1 eStr a1), (1, iv s8.1), (5, iv s8.2)] []) (laws_szStringS_l1 a1 s8) (Fl.go (fun r : Int => some (iv r, [])) kn) := by
  refine J_lp (fun g ih s8 => ?_)
  unfold laws_szStringS_l1b
  refine J_g 976 [] [(0, sl 1 eStr a1), (1, iv s8.1), (5, iv s8.2), (15, bv (decide (s8.2 < (a1.length : Int))))] [] orcN ?_
  refine J_if2 15 (fun h9 => ?_) (fun h9 => ?_)
  · refine J_bind (fun x10 h11 => ?_)
    refine J_g 3912 [] [(0, sl 1 eStr a1), (1, iv (w64 (s8.1 - (x10.size : Int)))), (5, iv s8.2)] [] (orcC 3 (x_ix (kk := .i64) 33 9 1 eStr (.tmp 19) (.tmp 20) h11) orcN) ?_
    refine J_g 7826 [] [(0, sl 1 eStr a1), (1, iv (w64 (s8.1 - (x10.size : Int)))), (5, iv s8.2), (26, bv (decide ((w64 (s8.1 - (x10.size : Int))) < 0)))] [] orcN ?_
    refine J_if2 26 (fun h12 => ?_) (fun h12 => ?_)
    · refine J_g 31308 [] [(4, iv (-1))] [] orcN ?_
      exact J_r1 rfl
    · refine J_g 979 [] [(0, sl 1 eStr a1), (1, iv (w64 (s8.1 - (x10.size : Int)))), (5, iv (w64 (s8.2 + 1)))] [] orcN ?_
      exact J_q (J_b (ih (w64 (s8.1 - (x10.size : Int)), w64 (s8.2 + 1)))) rfl
  · exact J_qw (hk s8.1) rfl

theorem laws_szStringS.ok (a1 : (List ByteArray)) (a2 : Int) : Ok Tryd.prog 35 [sl 1 eStr a1, iv a2] [] ((laws_szStringS a1 a2).map fun r => (iv r, [])) := by
  refine Ok_of3 c35 Tryd.f35 0 28 (fun q => ?_)
  unfold laws_szStringS
  refine J_g 2 [] [(0, sl 1 eStr a1), (1, iv a2)] [] orcN ?_
  refine J_g 6 [] [(0, sl 1 eStr a1), (1, iv (w64 (a2 - (a1.length : Int))))] [] orcN ?_
  refine J_g 28 [] [(0, sl 1 eStr a1), (1, iv (w64 (a2 - (a1.length : Int)))), (11, bv (decide ((w64 (a2 - (a1.length : Int))) < 0)))] [] orcN ?_
  refine J_if2 11 (fun h3 => ?_) (fun h3 => ?_)
  · refine J_g 116 [] [(4, iv (-1))] [] orcN ?_
    exact J_r1 rfl
  · refine J_g 60 [] [(0, sl 1 eStr a1), (1, iv (w64 (a2 - (a1.length : Int)))), (5, iv 0)] [] orcN ?_
    refine J_lqF (K0 := (fun r : Int => some (iv r, []))) (fun _ => rfl) (laws_szStringS_l1.ok a1 q _ (fun v13 => J_j ?_) (w64 (a2 - (a1.length : Int)), 0))
    refine J_g 62 [] [(4, iv v13)] [] orcN ?_
    exact J_r1 rfl

noncomputable def c28 : Code := (Tryd.f28.body).getD .skip

theorem laws_szTerm.ok (a1 : Term) (a2 : Int) : Ok Tryd.prog 28 [.ag (Term.enc a1), iv a2] [] ((laws_szTerm a1 a2).map fun r => (iv r, [])) := by
  refine Ok_of3 c28 Tryd.f28 0 13 (fun q => ?_)
  unfold laws_szTerm
  refine J_g 2 [(0, 0)] [(1, iv a2), (2, pp 0)] [(0, .box (Term.enc a1))] orcN ?_
  refine J_g 6 [] [(1, iv (w64 (a2 - (a1.Name.size : Int))))] [] orcN ?_
  refine J_g 28 [] [(1, iv (w64 (a2 - (a1.Name.size : Int)))), (11, bv (decide ((w64 (a2 - (a1.Name.size : Int))) < 0)))] [] orcN ?_
  refine J_if2 11 (fun h3 => ?_) (fun h3 => ?_)
  · refine J_g 116 [] [(4, iv (-1))] [] orcN ?_
    exact J_r1 rfl
  · refine J_g 30 [] [(4, iv (w64 (a2 - (a1.Name.size : Int))))] [] orcN ?_
    exact J_r1 rfl

noncomputable def c9 : Code := (Tryd.f9.body).getD .skip

theorem laws_szTermS_l1.ok (a1 : (List Term)) (q : Wd) (kn : Int → Option (D × List Ent)) (hk : ∀ v : Int, J (q.g Tryd.prog 9 0 27) c9 (atI c9 31) (St.mk' [(1, iv v)] []) (some v) kn) :
    ∀ s10 : (Int × Int), J (q.g Tryd.prog 9 0 27) c9 (atI c9 244) (St.mk' [(0, sl 7 Term.enc a1), (1, iv s10.1), (5, iv s10.2)] []) (laws_szTermS_l1 a1 s10) (Fl.go (fun r : Int => some (iv r, [])) kn) := by
  refine J_lp (fun g ih s10 => ?_)
  unfold laws_szTermS_l1b
  refine J_g 976 [] [(0, sl 7 Term.enc a1), (1, iv s10.1), (5, iv s10.2), (15, bv (decide (s10.2 < (a1.length : Int))))] [] orcN ?_
  refine J_if2 15 (fun h11 => ?_) (fun h11 => ?_)
  · refine J_bind (fun x12 h13 => ?_)
    refine J_bind (fun x14 h15 => ?_)
    refine J_g 3912 [] [(0, sl 7 Term.enc a1), (1, iv x14), (5, iv s10.2)] [] (orcC 2 (x_ix (kk := .i64) 24 57 7 Term.enc (.tmp 18) (.tmp 19) h13) (orcC 5 (x_c0 [(.tmp 21), (.tmp 22)] [57, 3] (laws_szTerm.ok x12 s10.1) h15) orcN)) ?_
    refine J_g 7826 [] [(0, sl 7 Term.enc a1), (1, iv x14), (5, iv s10.2), (25, bv (decide (x14 < 0)))] [] orcN ?_
    refine J_if2 25 (fun h16 => ?_) (fun h16 => ?_)
    · refine J_g 31308 [] [(4, iv (-1))] [] orcN ?_
      exact J_r1 rfl
    · refine J_g 979 [] [(0, sl 7 Term.enc a1), (1, iv x14), (5, iv (w64 (s10.2 + 1)))] [] orcN ?_
      exact J_q (J_b (ih (x14, w64 (s10.2 + 1)))) rfl
  · exact J_qw (hk s10.1) rfl

theorem laws_szTermS.ok (a1 : (List Term)) (a2 : Int) : Ok Tryd.prog 9 [sl 7 Term.enc a1, iv a2] [] ((laws_szTermS a1 a2).map fun r => (iv r, [])) := by
  refine Ok_of3 c9 Tryd.f9 0 27 (fun q => ?_)
  unfold laws_szTermS
  refine J_g 2 [] [(0, sl 7 Term.enc a1), (1, iv a2)] [] orcN ?_
  refine J_g 6 [] [(0, sl 7 Term.enc a1), (1, iv (w64 (a2 - (a1.length : Int))))] [] orcN ?_
  refine J_g 28 [] [(0, sl 7 Term.enc a1), (1, iv (w64 (a2 - (a1.length : Int)))), (11, bv (decide ((w64 (a2 - (a1.length : Int))) < 0)))] [] orcN ?_
  refine J_if2 11 (fun h3 => ?_) (fun h3 => ?_)
  · refine J_g 116 [] [(4, iv (-1))] [] orcN ?_
    exact J_r1 rfl
  · refine J_g 60 [] [(0, sl 7 Term.enc a1), (1, iv (w64 (a2 - (a1.length : Int)))), (5, iv 0)] [] orcN ?_
    refine J_lqF (K0 := (fun r : Int => some (iv r, []))) (fun _ => rfl) (laws_szTermS_l1.ok a1 q _ (fun v17 => J_j ?_) (w64 (a2 - (a1.length : Int)), 0))
    refine J_g 62 [] [(4, iv v17)] [] orcN ?_
    exact J_r1 rfl

noncomputable def c36 : Code := (Tryd.f36.body).getD .skip

theorem laws_szTermSS_l1.ok (a1 : (List (List Term))) (q : Wd) (kn : Int → Option (D × List Ent)) (hk : ∀ v : Int, J (q.g Tryd.prog 36 0 27) c36 (atI c36 31) (St.mk' [(1, iv v)] []) (some v) kn) :
    ∀ s10 : (Int × Int), J (q.g Tryd.prog 36 0 27) c36 (atI c36 244) (St.mk' [(0, sl 1 (eSl false 7 Term.enc) a1), (1, iv s10.1), (5, iv s10.2)] []) (laws_szTermSS_l1 a1 s10) (Fl.go (fun r : Int => some (iv r, [])) kn) := by
  refine J_lp (fun g ih s10 => ?_)
  unfold laws_szTermSS_l1b
  refine J_g 976 [] [(0, sl 1 (eSl false 7 Term.enc) a1), (1, iv s10.1), (5, iv s10.2), (15, bv (decide (s10.2 < (a1.length : Int))))] [] orcN ?_
  refine J_if2 15 (fun h11 => ?_) (fun h11 => ?_)
  · refine J_bind (fun x12 h13 => ?_)
    refine J_bind (fun x14 h15 => ?_)
    refine J_g 3912 [] [(0, sl 1 (eSl false 7 Term.enc) a1), (1, iv x14), (5, iv s10.2)] [] (orcC 2 (x_ix (kk := .i64) 34 24 1 (eSl false 7 Term.enc) (.tmp 18) (.tmp 19) h13) (orcC 5 (x_c0 [(.tmp 21), (.tmp 22)] [24, 3] (laws_szTermS.ok x12 s10.1) h15) orcN)) ?_
    refine J_g 7826 [] [(0, sl 1 (eSl false 7 Term.enc) a1), (1, iv x14), (5, iv s10.2), (25, bv (decide (x14 < 0)))] [] orcN ?_
    refine J_if2 25 (fun h16 => ?_) (fun h16 => ?_)
    · refine J_g 31308 [] [(4, iv (-1))] [] orcN ?_
      exact J_r1 rfl
    · refine J_g 979 [] [(0, sl 1 (eSl false 7 Term.enc) a1), (1, iv x14), (5, iv (w64 (s10.2 + 1)))] [] orcN ?_
      exact J_q (J_b (ih (x14, w64 (s10.2 + 1)))) rfl
  · exact J_qw (hk s10.1) rfl

theorem laws_szTermSS.ok (a1 : (List (List Term))) (a2 : Int) : Ok Tryd.prog 36 [sl 1 (eSl false 7 Term.enc) a1, iv a2] [] ((laws_szTermSS a1 a2).map fun r => (iv r, [])) := by
  refine Ok_of3 c36 Tryd.f36 0 27 (fun q => ?_)
  unfold laws_szTermSS
  refine J_g 2 [] [(0, sl 1 (eSl false 7 Term.enc) a1), (1, iv a2)] [] orcN ?_
  refine J_g 6 [] [(0, sl 1 (eSl false 7 Term.enc) a1), (1, iv (w64 (a2 - (a1.length : Int))))] [] orcN ?_
  refine J_g 28 [] [(0, sl 1 (eSl false 7 Term.enc) a1), (1, iv (w64 (a2 - (a1.length : Int)))), (11, bv (decide ((w64 (a2 - (a1.length : Int))) < 0)))] [] orcN ?_
  refine J_if2 11 (fun h3 => ?_) (fun h3 => ?_)
  · refine J_g 116 [] [(4, iv (-1))] [] orcN ?_
    exact J_r1 rfl
  · refine J_g 60 [] [(0, sl 1 (eSl false 7 Term.enc) a1), (1, iv (w64 (a2 - (a1.length : Int)))), (5, iv 0)] [] orcN ?_
    refine J_lqF (K0 := (fun r : Int => some (iv r, []))) (fun _ => rfl) (laws_szTermSS_l1.ok a1 q _ (fun v17 => J_j ?_) (w64 (a2 - (a1.length : Int)), 0))
    refine J_g 62 [] [(4, iv v17)] [] orcN ?_
    exact J_r1 rfl

noncomputable def c14 : Code := (Tryd.f14.body).getD .skip

theorem laws_szPack.ok (a1 : Pack) (a2 : Int) : Ok Tryd.prog 14 [.ag (Pack.enc false a1), iv a2] [] ((laws_szPack a1 a2).map fun r => (iv r, [])) := by
  refine Ok_of3 c14 Tryd.f14 0 31 (fun q => ?_)
  unfold laws_szPack
  refine J_g 2 [(0, 0)] [(1, iv a2), (2, pp 0)] [(0, .box (Pack.enc false a1))] orcN ?_
  refine J_g 6 [] [(1, iv (w64 (a2 - (a1.Name.size : Int)))), (2, pp 0)] [(0, .box (Pack.enc false a1))] orcN ?_
  refine J_g 28 [] [(1, iv (w64 (a2 - (a1.Name.size : Int)))), (2, pp 0), (11, bv (decide ((w64 (a2 - (a1.Name.size : Int))) < 0)))] [(0, .box (Pack.enc false a1))] orcN ?_
  refine J_if2 11 (fun h3 => ?_) (fun h3 => ?_)
  · refine J_g 116 [] [(4, iv (-1))] [] orcN ?_
    exact J_r1 rfl
  · refine J_bind (fun x4 h5 => ?_)
    refine J_g 30 [] [(1, iv x4), (2, pp 0)] [(0, .box (Pack.enc false a1))] (orcC 3 (x_c0 [(.tmp 13), (.tmp 14)] [33, 3] (laws_szStringS.ok a1.Provides (w64 (a2 - (a1.Name.size : Int)))) h5) orcN) ?_
    refine J_g 124 [] [(1, iv x4), (2, pp 0), (17, bv (decide (x4 < 0)))] [(0, .box (Pack.enc false a1))] orcN ?_
    refine J_if2 17 (fun h6 => ?_) (fun h6 => ?_)
    · refine J_g 500 [] [(4, iv (-1))] [] orcN ?_
      exact J_r1 rfl
    · refine J_bind (fun x7 h8 => ?_)
      refine J_g 126 [] [(1, iv x7), (2, pp 0)] [(0, .box (Pack.enc false a1))] (orcC 3 (x_c0 [(.tmp 19), (.tmp 20)] [34, 3] (laws_szTermSS.ok a1.Needs x4) h8) orcN) ?_
      refine J_g 508 [] [(1, iv x7), (2, pp 0), (23, bv (decide (x7 < 0)))] [(0, .box (Pack.enc false a1))] orcN ?_
      refine J_if2 23 (fun h9 => ?_) (fun h9 => ?_)
      · refine J_g 2036 [] [(4, iv (-1))] [] orcN ?_
        exact J_r1 rfl
      · refine J_bind (fun x10 h11 => ?_)
        refine J_g 510 [] [(1, iv x10)] [] (orcC 3 (x_c0 [(.tmp 25), (.tmp 26)] [24, 3] (laws_szTermS.ok a1.Bars x7) h11) orcN) ?_
        refine J_g 2044 [] [(1, iv x10), (29, bv (decide (x10 < 0)))] [] orcN ?_
        refine J_if2 29 (fun h12 => ?_) (fun h12 => ?_)
        · refine J_g 8180 [] [(4, iv (-1))] [] orcN ?_
          exact J_r1 rfl
        · refine J_g 2046 [] [(4, iv x10)] [] orcN ?_
          exact J_r1 rfl

noncomputable def c39 : Code := (Tryd.f39.body).getD .skip

theorem laws_toVersion.ok (a1 : Version) : Ok Tryd.prog 39 [.ag (Version.enc a1)] [] ((laws_toVersion a1).map fun r => (.ag (Version.enc r), [])) := by
  refine Ok_of3 c39 Tryd.f39 0 14 (fun q => ?_)
  unfold laws_toVersion
  refine J_g 2 [(0, 0), (1, 1)] [(1, pp 0), (2, pp 1)] [(0, .box (Version.enc a1)), (1, .box [iv 0, iv 0, iv 0])] orcN ?_
  refine J_g 6 [(0, 2)] [(1, pp 0), (2, pp 1), (3, pp 2)] [(0, .box (Version.enc a1)), (1, .box [iv 0, iv 0, iv 0]), (2, .box [iv 0, iv 0, iv 0])] orcN ?_
  refine J_g 14 [] [(1, pp 0), (2, pp 1), (3, pp 2)] [(0, .box (Version.enc a1)), (1, .box [iv 0, iv 0, iv 0]), (2, .box [iv a1.A, iv 0, iv 0])] orcN ?_
  refine J_g 30 [] [(1, pp 0), (2, pp 1), (3, pp 2)] [(0, .box (Version.enc a1)), (1, .box [iv 0, iv 0, iv 0]), (2, .box [iv a1.A, iv a1.B, iv 0])] orcN ?_
  refine J_g 62 [] [(2, pp 1), (3, pp 2)] [(1, .box [iv 0, iv 0, iv 0]), (2, .box (Version.enc a1))] orcN ?_
  refine J_g 126 [] [(2, pp 1)] [(1, .box (Version.enc a1))] orcN ?_
  exact J_r1 rfl

noncomputable def c40 : Code := (Tryd.f40.body).getD .skip

theorem laws_toStringS_l1.ok (a1 : (List ByteArray)) (q : Wd) (kn : (List ByteArray) → Option (D × List Ent)) (hk : ∀ v : (List ByteArray), J (q.g Tryd.prog 40 0 22) c40 (atI c40 15) (St.mk' [(3, rr 0 v)] [(0, rE 1 eStr v)]) (some v) kn) :
    ∀ s9 : ((List ByteArray) × Int), J (q.g Tryd.prog 40 0 22) c40 (atI c40 116) (St.mk' [(0, sl 1 eStr a1), (3, rr 0 s9.1), (4, iv s9.2)] [(0, rE 1 eStr s9.1)]) (laws_toStringS_l1 a1 s9) kn := by
  refine J_lp (fun g ih s9 => ?_)
  unfold laws_toStringS_l1b
  refine J_g 464 [] [(0, sl 1 eStr a1), (3, rr 0 s9.1), (4, iv s9.2), (11, bv (decide (s9.2 < (a1.length : Int))))] [(0, rE 1 eStr s9.1)] orcN ?_
  refine J_if2 11 (fun h10 => ?_) (fun h10 => ?_)
  · refine J_bind (fun x11 h12 => ?_)
    refine J_bind (fun x13 h14 => ?_)
    refine J_g 932 [] [(0, sl 1 eStr a1), (3, rr 0 s9.1), (4, iv s9.2)] [(0, rE 1 eStr (s9.1.set s9.2.toNat x11))] (orcC 4 (x_ix (kk := .i64) 33 9 1 eStr (.tmp 16) (.tmp 17) h12) (orcC 6 (x_ixr (kk := .i64) 33 9 1 0 eStr (.tmp 14) (.tmp 15) h14) (orcD 7 (x_st (b := x11) 9 1 0 0 eStr (sv x11) (.tmp 20) (.tmp 19) h14 rfl) orcN))) ?_
    refine J_st (σ' := St.mk' [(0, sl 1 eStr a1), (3, rr 0 (s9.1.set s9.2.toNat x11)), (4, iv s9.2)] [(0, rE 1 eStr (s9.1.set s9.2.toNat x11))]) (by simp only [rr, List.length_set]) ?_
    refine J_g 467 [] [(0, sl 1 eStr a1), (3, rr 0 (s9.1.set s9.2.toNat x11)), (4, iv (w64 (s9.2 + 1)))] [(0, rE 1 eStr (s9.1.set s9.2.toNat x11))] orcN ?_
    exact J_q (J_b (ih (s9.1.set s9.2.toNat x11, w64 (s9.2 + 1)))) rfl
  · exact J_qw (hk s9.1) rfl

theorem laws_toStringS.ok (a1 : (List ByteArray)) : Ok Tryd.prog 40 [sl 1 eStr a1] [] ((laws_toStringS a1).map fun r => (so 1 eStr r, [])) := by
  refine Ok_of3 c40 Tryd.f40 0 22 (fun q => ?_)
  unfold laws_toStringS
  refine J_g 2 [] [(0, sl 1 eStr a1)] [] orcN ?_
  refine J_bind (fun x2 h3 => ?_)
  refine J_g 6 [] [(0, sl 1 eStr a1), (3, rr 0 x2)] [(0, rE 1 eStr x2)] (orcC 2 (x_mk 33 9 1 16 0 eStr ByteArray.empty (.tmp 6) h3 (.keep rfl (.nil))) orcN) ?_
  refine J_g 28 [] [(0, sl 1 eStr a1), (3, rr 0 x2), (4, iv 0)] [(0, rE 1 eStr x2)] orcN ?_
  refine J_lq (laws_toStringS_l1.ok a1 q _ (fun v15 => J_j ?_) (x2, 0))
  refine J_g 30 [] [(2, rr 0 v15)] [(0, rE 1 eStr v15)] orcN ?_
  exact J_rm (ds := [rr 0 v15]) (ds' := [so 1 eStr v15]) (.cons (.cell (.move (.head _) (List.length_map _) (by decide) (.nil))) (.nil) (by decide)) rfl

noncomputable def c31 : Code := (Tryd.f31.body).getD .skip

theorem laws_toTerm.ok (a1 : Term) : Ok Tryd.prog 31 [.ag (Term.enc a1)] [] ((laws_toTerm a1).map fun r => (.ag (Term.enc r), [])) := by
  refine Ok_of3 c31 Tryd.f31 0 16 (fun q => ?_)
  unfold laws_toTerm
  refine J_g 2 [(0, 0), (1, 1)] [(1, pp 0), (2, pp 1)] [(0, .box (Term.enc a1)), (1, .box [sv ByteArray.empty, iv 0, iv 0, iv 0, iv 0, iv 0, iv 0])] orcN ?_
  refine J_g 6 [(0, 2)] [(1, pp 0), (2, pp 1), (3, pp 2)] [(0, .box (Term.enc a1)), (1, .box [sv ByteArray.empty, iv 0, iv 0, iv 0, iv 0, iv 0, iv 0]), (2, .box [sv ByteArray.empty, iv 0, iv 0, iv 0, iv 0, iv 0, iv 0])] orcN ?_
  refine J_g 14 [] [(1, pp 0), (2, pp 1), (3, pp 2)] [(0, .box (Term.enc a1)), (1, .box [sv ByteArray.empty, iv 0, iv 0, iv 0, iv 0, iv 0, iv 0]), (2, .box [sv a1.Name, iv 0, iv 0, iv 0, iv 0, iv 0, iv 0])] orcN ?_
  refine J_bind (fun x2 h3 => ?_)
  refine J_g 30 [] [(1, pp 0), (2, pp 1), (3, pp 2)] [(0, .box (Term.enc a1)), (1, .box [sv ByteArray.empty, iv 0, iv 0, iv 0, iv 0, iv 0, iv 0]), (2, .box [sv a1.Name, iv x2.A, iv x2.B, iv x2.C, iv 0, iv 0, iv 0])] (orcC 2 (x_c0 [(.tmp 8)] [32] (laws_toVersion.ok a1.Low) h3) orcN) ?_
  refine J_bind (fun x4 h5 => ?_)
  refine J_g 62 [] [(2, pp 1), (3, pp 2)] [(1, .box [sv ByteArray.empty, iv 0, iv 0, iv 0, iv 0, iv 0, iv 0]), (2, .box [sv a1.Name, iv x2.A, iv x2.B, iv x2.C, iv x4.A, iv x4.B, iv x4.C])] (orcC 2 (x_c0 [(.tmp 12)] [32] (laws_toVersion.ok a1.High) h5) orcN) ?_
  refine J_g 126 [] [(2, pp 1)] [(1, .box [sv a1.Name, iv x2.A, iv x2.B, iv x2.C, iv x4.A, iv x4.B, iv x4.C])] orcN ?_
  exact J_r1 rfl

noncomputable def c11 : Code := (Tryd.f11.body).getD .skip

theorem laws_toTermS_l1.ok (a1 : (List Term)) (q : Wd) (kn : (List Term) → Option (D × List Ent)) (hk : ∀ v : (List Term), J (q.g Tryd.prog 11 0 23) c11 (atI c11 15) (St.mk' [(3, rr 0 v)] [(0, rE 7 Term.enc v)]) (some v) kn) :
    ∀ s11 : ((List Term) × Int), J (q.g Tryd.prog 11 0 23) c11 (atI c11 116) (St.mk' [(0, sl 7 Term.enc a1), (3, rr 0 s11.1), (4, iv s11.2)] [(0, rE 7 Term.enc s11.1)]) (laws_toTermS_l1 a1 s11) kn := by
  refine J_lp (fun g ih s11 => ?_)
  unfold laws_toTermS_l1b
  refine J_g 464 [] [(0, sl 7 Term.enc a1), (3, rr 0 s11.1), (4, iv s11.2), (11, bv (decide (s11.2 < (a1.length : Int))))] [(0, rE 7 Term.enc s11.1)] orcN ?_
  refine J_if2 11 (fun h12 => ?_) (fun h12 => ?_)
  · refine J_bind (fun x13 h14 => ?_)
    refine J_bind (fun x15 h16 => ?_)
    refine J_bind (fun x17 h18 => ?_)
    refine J_g 932 [] [(0, sl 7 Term.enc a1), (3, rr 0 s11.1), (4, iv s11.2)] [(0, rE 7 Term.enc (s11.1.set s11.2.toNat x15))] (orcC 4 (x_ix (kk := .i64) 24 57 7 Term.enc (.tmp 16) (.tmp 17) h14) (orcC 6 (x_c0 [(.tmp 19)] [57] (laws_toTerm.ok x13) h16) (orcC 7 (x_ixr (kk := .i64) 27 60 7 0 Term.enc (.tmp 14) (.tmp 15) h18) (orcD 8 (x_st (b := x15) 60 7 0 0 Term.enc (.ag (Term.enc x15)) (.tmp 21) (.tmp 20) h18 rfl) orcN)))) ?_
    refine J_st (σ' := St.mk' [(0, sl 7 Term.enc a1), (3, rr 0 (s11.1.set s11.2.toNat x15)), (4, iv s11.2)] [(0, rE 7 Term.enc (s11.1.set s11.2.toNat x15))]) (by simp only [rr, List.length_set]) ?_
    refine J_g 467 [] [(0, sl 7 Term.enc a1), (3, rr 0 (s11.1.set s11.2.toNat x15)), (4, iv (w64 (s11.2 + 1)))] [(0, rE 7 Term.enc (s11.1.set s11.2.toNat x15))] orcN ?_
    exact J_q (J_b (ih (s11.1.set s11.2.toNat x15, w64 (s11.2 + 1)))) rfl
  · exact J_qw (hk s11.1) rfl

theorem laws_toTermS.ok (a1 : (List Term)) : Ok Tryd.prog 11 [sl 7 Term.enc a1] [] ((laws_toTermS a1).map fun r => (so 7 Term.enc r, [])) := by
  refine Ok_of3 c11 Tryd.f11 0 23 (fun q => ?_)
  unfold laws_toTermS
  refine J_g 2 [] [(0, sl 7 Term.enc a1)] [] orcN ?_
  refine J_bind (fun x2 h3 => ?_)
  refine J_g 6 [] [(0, sl 7 Term.enc a1), (3, rr 0 x2)] [(0, rE 7 Term.enc x2)] (orcC 2 (x_mk 27 60 7 64 0 Term.enc ({ Name := ByteArray.empty, Low := ({ A := 0, B := 0, C := 0 } : Version), High := ({ A := 0, B := 0, C := 0 } : Version) } : Term) (.tmp 6) h3 (.keep rfl (.keep rfl (.keep rfl (.keep rfl (.keep rfl (.keep rfl (.keep rfl (.nil))))))))) orcN) ?_
  refine J_g 28 [] [(0, sl 7 Term.enc a1), (3, rr 0 x2), (4, iv 0)] [(0, rE 7 Term.enc x2)] orcN ?_
  refine J_lq (laws_toTermS_l1.ok a1 q _ (fun v19 => J_j ?_) (x2, 0))
  refine J_g 30 [] [(2, rr 0 v19)] [(0, rE 7 Term.enc v19)] orcN ?_
  exact J_rm (ds := [rr 0 v19]) (ds' := [so 7 Term.enc v19]) (.cons (.cell (.move (.head _) (List.length_map _) (by decide) (.nil))) (.nil) (by decide)) rfl

noncomputable def c41 : Code := (Tryd.f41.body).getD .skip

theorem laws_toTermSS_l1.ok (a1 : (List (List Term))) (q : Wd) (kn : (List (List Term)) → Option (D × List Ent)) (hk : ∀ v : (List (List Term)), J (q.g Tryd.prog 41 0 23) c41 (atI c41 15) (St.mk' [(3, rr 0 v)] [(0, rE 1 (eSl true 7 Term.enc) v)]) (some v) kn) :
    ∀ s11 : ((List (List Term)) × Int), J (q.g Tryd.prog 41 0 23) c41 (atI c41 116) (St.mk' [(0, sl 1 (eSl false 7 Term.enc) a1), (3, rr 0 s11.1), (4, iv s11.2)] [(0, rE 1 (eSl true 7 Term.enc) s11.1)]) (laws_toTermSS_l1 a1 s11) kn := by
  refine J_lp (fun g ih s11 => ?_)
  unfold laws_toTermSS_l1b
  refine J_g 464 [] [(0, sl 1 (eSl false 7 Term.enc) a1), (3, rr 0 s11.1), (4, iv s11.2), (11, bv (decide (s11.2 < (a1.length : Int))))] [(0, rE 1 (eSl true 7 Term.enc) s11.1)] orcN ?_
  refine J_if2 11 (fun h12 => ?_) (fun h12 => ?_)
  · refine J_bind (fun x13 h14 => ?_)
    refine J_bind (fun x15 h16 => ?_)
    refine J_bind (fun x17 h18 => ?_)
    refine J_g 932 [] [(0, sl 1 (eSl false 7 Term.enc) a1), (3, rr 0 s11.1), (4, iv s11.2)] [(0, rE 1 (eSl true 7 Term.enc) (s11.1.set s11.2.toNat x15))] (orcC 4 (x_ix (kk := .i64) 34 24 1 (eSl false 7 Term.enc) (.tmp 16) (.tmp 17) h14) (orcC 6 (x_c1 («as» := [sl 7 Term.enc x13]) [(.tmp 19)] [24] false [] [] (.cons (.same rfl) (.nil)) (laws_toTermS.ok x13) h16 (.own 1)) (orcC 7 (x_ixr (kk := .i64) 40 27 1 0 (eSl true 7 Term.enc) (.tmp 14) (.tmp 15) h18) (orcD 8 (x_stm (b := x15) (es' := [so 7 Term.enc x15]) (ts := [1]) 27 1 0 0 (eSl true 7 Term.enc) (rr 1 x15) (.tmp 21) (.tmp 20) [(1, rE 7 Term.enc x15)] h18 (.move (.head _) (List.length_map _) (by decide) (.nil)) rfl) orcN)))) ?_
    refine J_st (σ' := St.mk' [(0, sl 1 (eSl false 7 Term.enc) a1), (3, rr 0 (s11.1.set s11.2.toNat x15)), (4, iv s11.2)] [(0, rE 1 (eSl true 7 Term.enc) (s11.1.set s11.2.toNat x15))]) (by simp only [rr, List.length_set]) ?_
    refine J_g 467 [] [(0, sl 1 (eSl false 7 Term.enc) a1), (3, rr 0 (s11.1.set s11.2.toNat x15)), (4, iv (w64 (s11.2 + 1)))] [(0, rE 1 (eSl true 7 Term.enc) (s11.1.set s11.2.toNat x15))] orcN ?_
    exact J_q (J_b (ih (s11.1.set s11.2.toNat x15, w64 (s11.2 + 1)))) rfl
  · exact J_qw (hk s11.1) rfl

theorem laws_toTermSS.ok (a1 : (List (List Term))) : Ok Tryd.prog 41 [sl 1 (eSl false 7 Term.enc) a1] [] ((laws_toTermSS a1).map fun r => (so 1 (eSl true 7 Term.enc) r, [])) := by
  refine Ok_of3 c41 Tryd.f41 0 23 (fun q => ?_)
  unfold laws_toTermSS
  refine J_g 2 [] [(0, sl 1 (eSl false 7 Term.enc) a1)] [] orcN ?_
  refine J_bind (fun x2 h3 => ?_)
  refine J_g 6 [] [(0, sl 1 (eSl false 7 Term.enc) a1), (3, rr 0 x2)] [(0, rE 1 (eSl true 7 Term.enc) x2)] (orcC 2 (x_mk 40 27 1 24 0 (eSl true 7 Term.enc) ([] : List Term) (.tmp 6) h3 (.nilsl true 7 (.nil))) orcN) ?_
  refine J_g 28 [] [(0, sl 1 (eSl false 7 Term.enc) a1), (3, rr 0 x2), (4, iv 0)] [(0, rE 1 (eSl true 7 Term.enc) x2)] orcN ?_
  refine J_lq (laws_toTermSS_l1.ok a1 q _ (fun v19 => J_j ?_) (x2, 0))
  refine J_g 30 [] [(2, rr 0 v19)] [(0, rE 1 (eSl true 7 Term.enc) v19)] orcN ?_
  exact J_rm (ds := [rr 0 v19]) (ds' := [so 1 (eSl true 7 Term.enc) v19]) (.cons (.cell (.move (.head _) (List.length_map _) (by decide) (.nil))) (.nil) (by decide)) rfl

noncomputable def c16 : Code := (Tryd.f16.body).getD .skip

theorem laws_toPack.ok (a1 : Pack) : Ok Tryd.prog 16 [.ag (Pack.enc false a1)] [] ((laws_toPack a1).map fun r => (.ag [sv r.Name, iv r.Version.A, iv r.Version.B, iv r.Version.C, iv r.Size, so 1 eStr r.Provides, so 1 (eSl true 7 Term.enc) r.Needs, so 7 Term.enc r.Bars], [])) := by
  refine Ok_of3 c16 Tryd.f16 0 27 (fun q => ?_)
  unfold laws_toPack
  refine J_g 2 [(0, 0), (1, 1)] [(1, pp 0), (2, pp 1)] [(0, .box (Pack.enc false a1)), (1, .box [sv ByteArray.empty, iv 0, iv 0, iv 0, iv 0, nv, nv, nv])] orcN ?_
  refine J_g 6 [(0, 2)] [(1, pp 0), (2, pp 1), (3, pp 2)] [(0, .box (Pack.enc false a1)), (1, .box [sv ByteArray.empty, iv 0, iv 0, iv 0, iv 0, nv, nv, nv]), (2, .box [sv ByteArray.empty, iv 0, iv 0, iv 0, iv 0, nv, nv, nv])] orcN ?_
  refine J_g 14 [] [(1, pp 0), (2, pp 1), (3, pp 2)] [(0, .box (Pack.enc false a1)), (1, .box [sv ByteArray.empty, iv 0, iv 0, iv 0, iv 0, nv, nv, nv]), (2, .box [sv a1.Name, iv 0, iv 0, iv 0, iv 0, nv, nv, nv])] orcN ?_
  refine J_bind (fun x2 h3 => ?_)
  refine J_g 30 [] [(1, pp 0), (2, pp 1), (3, pp 2)] [(0, .box (Pack.enc false a1)), (1, .box [sv ByteArray.empty, iv 0, iv 0, iv 0, iv 0, nv, nv, nv]), (2, .box [sv a1.Name, iv x2.A, iv x2.B, iv x2.C, iv 0, nv, nv, nv])] (orcC 2 (x_c0 [(.tmp 8)] [32] (laws_toVersion.ok a1.Version) h3) orcN) ?_
  refine J_g 62 [] [(1, pp 0), (2, pp 1), (3, pp 2)] [(0, .box (Pack.enc false a1)), (1, .box [sv ByteArray.empty, iv 0, iv 0, iv 0, iv 0, nv, nv, nv]), (2, .box [sv a1.Name, iv x2.A, iv x2.B, iv x2.C, iv a1.Size, nv, nv, nv])] orcN ?_
  refine J_bind (fun x4 h5 => ?_)
  refine J_g 126 [] [(1, pp 0), (2, pp 1), (3, pp 2)] [(0, .box (Pack.enc false a1)), (1, .box [sv ByteArray.empty, iv 0, iv 0, iv 0, iv 0, nv, nv, nv]), (2, .box [sv a1.Name, iv x2.A, iv x2.B, iv x2.C, iv a1.Size, rr 3 x4, nv, nv]), (3, rE 1 eStr x4)] (orcC 2 (x_c1 («as» := [sl 1 eStr a1.Provides]) [(.tmp 15)] [33] false [] [] (.cons (.same rfl) (.nil)) (laws_toStringS.ok a1.Provides) h5 (.own 3)) orcN) ?_
  refine J_bind (fun x6 h7 => ?_)
  refine J_g 254 [] [(1, pp 0), (2, pp 1), (3, pp 2)] [(0, .box (Pack.enc false a1)), (1, .box [sv ByteArray.empty, iv 0, iv 0, iv 0, iv 0, nv, nv, nv]), (2, .box [sv a1.Name, iv x2.A, iv x2.B, iv x2.C, iv a1.Size, rr 3 x4, rr 4 x6, nv]), (3, rE 1 eStr x4), (4, rE 1 (eSl true 7 Term.enc) x6)] (orcC 2 (x_c1 («as» := [sl 1 (eSl false 7 Term.enc) a1.Needs]) [(.tmp 19)] [34] false [] [] (.cons (.same rfl) (.nil)) (laws_toTermSS.ok a1.Needs) h7 (.own 4)) orcN) ?_
  refine J_bind (fun x8 h9 => ?_)
  refine J_g 510 [] [(2, pp 1), (3, pp 2)] [(1, .box [sv ByteArray.empty, iv 0, iv 0, iv 0, iv 0, nv, nv, nv]), (2, .box [sv a1.Name, iv x2.A, iv x2.B, iv x2.C, iv a1.Size, rr 3 x4, rr 4 x6, rr 5 x8]), (3, rE 1 eStr x4), (4, rE 1 (eSl true 7 Term.enc) x6), (5, rE 7 Term.enc x8)] (orcC 2 (x_c1 («as» := [sl 7 Term.enc a1.Bars]) [(.tmp 23)] [24] false [] [] (.cons (.same rfl) (.nil)) (laws_toTermS.ok a1.Bars) h9 (.own 5)) orcN) ?_
  refine J_g 1022 [] [(2, pp 1)] [(1, .box [sv a1.Name, iv x2.A, iv x2.B, iv x2.C, iv a1.Size, rr 3 x4, rr 4 x6, rr 5 x8]), (3, rE 1 eStr x4), (4, rE 1 (eSl true 7 Term.enc) x6), (5, rE 7 Term.enc x8)] orcN ?_
  exact J_rm (ds := [.ag [sv a1.Name, iv x2.A, iv x2.B, iv x2.C, iv a1.Size, rr 3 x4, rr 4 x6, rr 5 x8]]) (ds' := [.ag [sv a1.Name, iv x2.A, iv x2.B, iv x2.C, iv a1.Size, so 1 eStr x4, so 1 (eSl true 7 Term.enc) x6, so 7 Term.enc x8]]) (.cons (.ag (.keep rfl (.keep rfl (.keep rfl (.keep rfl (.keep rfl (.move (.tail _ (.head _)) (List.length_map _) (by decide) (.move (.tail _ (.tail _ (.head _))) (List.length_map _) (by decide) (.move (.tail _ (.tail _ (.tail _ (.head _)))) (List.length_map _) (by decide) (.nil)))))))))) (.nil) (by decide)) rfl

noncomputable def c85 : Code := (Tryd.f85.body).getD .skip

theorem spec_l1Letter.ok (a1 : Int) : Ok Tryd.prog 85 [uv a1] [] ((spec_l1Letter a1).map fun r => (bv r, [])) := by
  refine Ok_of3 c85 Tryd.f85 0 9 (fun q => ?_)
  unfold spec_l1Letter
  refine J_g 2 [] [(0, uv a1)] [] orcN ?_
  refine J_ite (fun h2 => ?_) (fun h2 => ?_)
  · refine J_g 6 [] [(2, bv (decide (a1 ≤ 122)))] [] (orcL 2 [(4, bv (decide (a1 ≥ 97)))] [] h2 orcN) ?_
    exact J_r1 rfl
  · refine J_g 6 [] [(2, bv false)] [] (orcL 2 [(4, bv (decide (a1 ≥ 97)))] [] h2 orcN) ?_
    exact J_r1 rfl

noncomputable def c108 : Code := (Tryd.f108.body).getD .skip

theorem spec_l1Digit.ok (a1 : Int) : Ok Tryd.prog 108 [uv a1] [] ((spec_l1Digit a1).map fun r => (bv r, [])) := by
  refine Ok_of3 c108 Tryd.f108 0 9 (fun q => ?_)
  unfold spec_l1Digit
  refine J_g 2 [] [(0, uv a1)] [] orcN ?_
  refine J_ite (fun h2 => ?_) (fun h2 => ?_)
  · refine J_g 6 [] [(2, bv (decide (a1 ≤ 57)))] [] (orcL 2 [(4, bv (decide (a1 ≥ 48)))] [] h2 orcN) ?_
    exact J_r1 rfl
  · refine J_g 6 [] [(2, bv false)] [] (orcL 2 [(4, bv (decide (a1 ≥ 48)))] [] h2 orcN) ?_
    exact J_r1 rfl

noncomputable def c86 : Code := (Tryd.f86.body).getD .skip

theorem spec_l1Name.ok (a1 : Int) : Ok Tryd.prog 86 [uv a1] [] ((spec_l1Name a1).map fun r => (bv r, [])) := by
  refine Ok_of3 c86 Tryd.f86 0 13 (fun q => ?_)
  unfold spec_l1Name
  refine J_g 2 [] [(0, uv a1)] [] orcN ?_
  refine J_bind (fun x2 h3 => ?_)
  refine J_ite (fun h4 => ?_) (fun h4 => ?_)
  · refine J_g 6 [] [(2, bv true)] [] (orcC 1 (x_c0 [(.tmp 3)] [5] (spec_l1Letter.ok a1) h3) (orcL 2 [(4, bv x2)] [] h4 orcN)) ?_
    exact J_r1 rfl
  · refine J_bind (fun x5 h6 => ?_)
    refine J_ite (fun h7 => ?_) (fun h7 => ?_)
    · refine J_g 6 [] [(2, bv true)] [] (orcC 1 (x_c0 [(.tmp 3)] [5] (spec_l1Letter.ok a1) h3) (orcL 2 [(4, bv x2)] [] h4 (orcH 4 2 5 false (x_c0 [(.tmp 6)] [5] (spec_l1Digit.ok a1) h6) (orcL 6 [(8, bv x5)] [] h7 orcN)))) ?_
      exact J_r1 rfl
    · refine J_g 6 [] [(2, bv (a1 == 95))] [] (orcC 1 (x_c0 [(.tmp 3)] [5] (spec_l1Letter.ok a1) h3) (orcL 2 [(4, bv x2)] [] h4 (orcH 4 2 5 false (x_c0 [(.tmp 6)] [5] (spec_l1Digit.ok a1) h6) (orcL 6 [(8, bv x5)] [] h7 orcN)))) ?_
      exact J_r1 rfl

noncomputable def c59 : Code := (Tryd.f59.body).getD .skip

theorem spec_NameFault_l1.ok (a1 : ByteArray) (q : Wd) (kn : Unit → Option (D × List Ent)) (hk : ∀ v : Unit, J (q.g Tryd.prog 59 0 29) c59 (atI c59 15) (St.mk' [] []) (some v) kn) :
    ∀ s16 : Int, J (q.g Tryd.prog 59 0 29) c59 (atI c59 116) (St.mk' [(0, sv a1), (3, iv s16)] []) (spec_NameFault_l1 a1 s16) (Fl.go (fun r : Int => some (iv r, [])) kn) := by
  refine J_lp (fun g ih s16 => ?_)
  unfold spec_NameFault_l1b
  refine J_g 464 [] [(0, sv a1), (3, iv s16), (21, bv (decide (s16 < (a1.size : Int))))] [] orcN ?_
  refine J_if2 21 (fun h17 => ?_) (fun h17 => ?_)
  · refine J_bind (fun x18 h19 => ?_)
    refine J_bind (fun x20 h21 => ?_)
    refine J_g 1864 [] [(0, sv a1), (3, iv s16), (28, bv (!x20))] [] (orcC 2 (x_bi (kk := .i64) 9 (.tmp 24) (.tmp 25) h19) (orcC 3 (x_c0 [(.tmp 26)] [5] (spec_l1Name.ok x18) h21) orcN)) ?_
    refine J_if2 28 (fun h22 => ?_) (fun h22 => ?_)
    · refine J_g 7460 [] [(2, iv 5)] [] orcN ?_
      exact J_r1 rfl
    · refine J_g 467 [] [(0, sv a1), (3, iv (w64 (s16 + 1)))] [] orcN ?_
      exact J_q (J_b (ih (w64 (s16 + 1)))) rfl
  · exact J_qw (hk ()) rfl

theorem spec_NameFault.ok (a1 : ByteArray) : Ok Tryd.prog 59 [sv a1] [] ((spec_NameFault a1).map fun r => (iv r, [])) := by
  refine Ok_of3 c59 Tryd.f59 0 29 (fun q => ?_)
  unfold spec_NameFault
  refine J_g 2 [] [(0, sv a1)] [] orcN ?_
  refine J_join (atI c59 13) (fun v8 : Bool => St.mk' [(0, sv a1), (17, bv v8)] []) (fun v8 => ?_) (fun jv8 => ?_)
  · refine J_if2 17 (fun h9 => ?_) (fun h9 => ?_)
    · refine J_g 52 [] [(2, iv 5)] [] orcN ?_
      exact J_r1 rfl
    · refine J_g 28 [] [(0, sv a1), (3, iv 0)] [] orcN ?_
      refine J_lqF (K0 := (fun r : Int => some (iv r, []))) (fun _ => rfl) (spec_NameFault_l1.ok a1 q _ (fun v23 => J_j ?_) 0)
      refine J_g 30 [] [(2, iv 0)] [] orcN ?_
      exact J_r1 rfl
  · refine J_ite (fun h2 => ?_) (fun h2 => ?_)
    · refine J_g 12 [] [(0, sv a1), (17, bv true)] [] (orcL 3 [(6, bv (decide ((a1.size : Int) < 1)))] [] h2 orcN) ?_
      exact J_qw (J_j (jv8 true)) rfl
    · refine J_ite (fun h3 => ?_) (fun h3 => ?_)
      · refine J_g 12 [] [(0, sv a1), (17, bv true)] [] (orcL 3 [(6, bv (decide ((a1.size : Int) < 1)))] [] h2 (orcL 8 [(11, bv (decide ((a1.size : Int) > 12)))] [] h3 orcN)) ?_
        exact J_qw (J_j (jv8 true)) rfl
      · refine J_bind (fun x4 h5 => ?_)
        refine J_bind (fun x6 h7 => ?_)
        refine J_g 12 [] [(0, sv a1), (17, bv (!x6))] [] (orcL 3 [(6, bv (decide ((a1.size : Int) < 1)))] [] h2 (orcL 8 [(11, bv (decide ((a1.size : Int) > 12)))] [] h3 (orcH 10 8 12 false (x_bi (kk := .i64) 9 (.tmp 13) (.const (.int .i64 0)) h5) (orcH 11 8 12 false (x_c0 [(.tmp 14)] [5] (spec_l1Letter.ok x4) h7) orcN)))) ?_
        exact J_qw (J_j (jv8 (!x6))) rfl

noncomputable def c24 : Code := (Tryd.f24.body).getD .skip

theorem spec_l1In.ok (a1 : Int) (a2 : Int) (a3 : Int) : Ok Tryd.prog 24 [iv a1, iv a2, iv a3] [] ((spec_l1In a1 a2 a3).map fun r => (bv r, [])) := by
  refine Ok_of3 c24 Tryd.f24 0 15 (fun q => ?_)
  unfold spec_l1In
  refine J_g 2 [] [(0, iv a1), (1, iv a2), (2, iv a3)] [] orcN ?_
  refine J_ite (fun h4 => ?_) (fun h4 => ?_)
  · refine J_g 6 [] [(6, bv (decide (a1 ≤ a3)))] [] (orcL 3 [(9, bv (decide (a1 ≥ a2)))] [] h4 orcN) ?_
    exact J_r1 rfl
  · refine J_g 6 [] [(6, bv false)] [] (orcL 3 [(9, bv (decide (a1 ≥ a2)))] [] h4 orcN) ?_
    exact J_r1 rfl

noncomputable def c60 : Code := (Tryd.f60.body).getD .skip

theorem spec_VersionFault.ok (a1 : Version) : Ok Tryd.prog 60 [.ag (Version.enc a1)] [] ((spec_VersionFault a1).map fun r => (iv r, [])) := by
  refine Ok_of3 c60 Tryd.f60 0 19 (fun q => ?_)
  unfold spec_VersionFault
  refine J_g 2 [(0, 0)] [(1, pp 0)] [(0, .box (Version.enc a1))] orcN ?_
  refine J_bind (fun x2 h3 => ?_)
  refine J_join (atI c60 13) (fun v10 : Bool => St.mk' [(18, bv v10)] []) (fun v10 => ?_) (fun jv10 => ?_)
  · refine J_if2 18 (fun h11 => ?_) (fun h11 => ?_)
    · refine J_g 52 [] [(2, iv 3)] [] orcN ?_
      exact J_r1 rfl
    · refine J_g 14 [] [(2, iv 0)] [] orcN ?_
      exact J_r1 rfl
  · refine J_ite (fun h4 => ?_) (fun h4 => ?_)
    · refine J_g 12 [] [(18, bv true)] [] (orcC 2 (x_c0 [(.tmp 4), (.const (.int .i64 0)), (.const (.int .i64 999))] [2, 2, 2] (spec_l1In.ok a1.A 0 999) h3) (orcL 4 [(6, bv (!x2))] [] h4 orcN)) ?_
      exact J_qw (J_j (jv10 true)) rfl
    · refine J_bind (fun x5 h6 => ?_)
      refine J_ite (fun h7 => ?_) (fun h7 => ?_)
      · refine J_g 12 [] [(18, bv true)] [] (orcC 2 (x_c0 [(.tmp 4), (.const (.int .i64 0)), (.const (.int .i64 999))] [2, 2, 2] (spec_l1In.ok a1.A 0 999) h3) (orcL 4 [(6, bv (!x2))] [] h4 (orcH 7 4 7 false (x_c0 [(.tmp 9), (.const (.int .i64 0)), (.const (.int .i64 999))] [2, 2, 2] (spec_l1In.ok a1.B 0 999) h6) (orcL 10 [(12, bv (!x5))] [] h7 orcN)))) ?_
        exact J_qw (J_j (jv10 true)) rfl
      · refine J_bind (fun x8 h9 => ?_)
        refine J_g 12 [] [(18, bv (!x8))] [] (orcC 2 (x_c0 [(.tmp 4), (.const (.int .i64 0)), (.const (.int .i64 999))] [2, 2, 2] (spec_l1In.ok a1.A 0 999) h3) (orcL 4 [(6, bv (!x2))] [] h4 (orcH 7 4 7 false (x_c0 [(.tmp 9), (.const (.int .i64 0)), (.const (.int .i64 999))] [2, 2, 2] (spec_l1In.ok a1.B 0 999) h6) (orcL 10 [(12, bv (!x5))] [] h7 (orcH 13 10 13 false (x_c0 [(.tmp 15), (.const (.int .i64 0)), (.const (.int .i64 999))] [2, 2, 2] (spec_l1In.ok a1.C 0 999) h9) orcN))))) ?_
        exact J_qw (J_j (jv10 (!x8))) rfl

noncomputable def c61 : Code := (Tryd.f61.body).getD .skip

theorem spec_l2Holds_l1.ok (a1 : (List ByteArray)) (a2 : ByteArray) (q : Wd) (kn : Unit → Option (D × List Ent)) (hk : ∀ v : Unit, J (q.g Tryd.prog 61 0 18) c61 (atI c61 7) (St.mk' [] []) (some v) kn) :
    ∀ s7 : Int, J (q.g Tryd.prog 61 0 18) c61 (atI c61 52) (St.mk' [(0, sl 1 eStr a1), (1, sv a2), (5, iv s7)] []) (spec_l2Holds_l1 a1 a2 s7) (Fl.go (fun r : Bool => some (bv r, [])) kn) := by
  refine J_lp (fun g ih s7 => ?_)
  unfold spec_l2Holds_l1b
  refine J_g 208 [] [(0, sl 1 eStr a1), (1, sv a2), (5, iv s7), (9, bv (decide (s7 < (a1.length : Int))))] [] orcN ?_
  refine J_if2 9 (fun h8 => ?_) (fun h8 => ?_)
  · refine J_bind (fun x9 h10 => ?_)
    refine J_g 840 [] [(0, sl 1 eStr a1), (1, sv a2), (5, iv s7), (17, bv (seq x9 a2))] [] (orcC 2 (x_ix (kk := .i64) 33 9 1 eStr (.tmp 12) (.tmp 13) h10) orcN) ?_
    refine J_if2 17 (fun h11 => ?_) (fun h11 => ?_)
    · refine J_g 3364 [] [(4, bv true)] [] orcN ?_
      exact J_r1 rfl
    · refine J_g 211 [] [(0, sl 1 eStr a1), (1, sv a2), (5, iv (w64 (s7 + 1)))] [] orcN ?_
      exact J_q (J_b (ih (w64 (s7 + 1)))) rfl
  · exact J_qw (hk ()) rfl

theorem spec_l2Holds.ok (a1 : (List ByteArray)) (a2 : ByteArray) : Ok Tryd.prog 61 [sl 1 eStr a1, sv a2] [] ((spec_l2Holds a1 a2).map fun r => (bv r, [])) := by
  refine Ok_of3 c61 Tryd.f61 0 18 (fun q => ?_)
  unfold spec_l2Holds
  refine J_g 2 [] [(0, sl 1 eStr a1), (1, sv a2)] [] orcN ?_
  refine J_g 12 [] [(0, sl 1 eStr a1), (1, sv a2), (5, iv 0)] [] orcN ?_
  refine J_lqF (K0 := (fun r : Bool => some (bv r, []))) (fun _ => rfl) (spec_l2Holds_l1.ok a1 a2 q _ (fun v12 => J_j ?_) 0)
  refine J_g 14 [] [(4, bv false)] [] orcN ?_
  exact J_r1 rfl

noncomputable def c82 : Code := (Tryd.f82.body).getD .skip

theorem spec_l1Top.ok  : Ok Tryd.prog 82 [] [] ((spec_l1Top).map fun r => (.ag (Version.enc r), [])) := by
  refine Ok_of3 c82 Tryd.f82 0 2 (fun q => ?_)
  unfold spec_l1Top
  refine J_g 2 [(0, 0)] [(0, pp 0)] [(0, .box [iv 0, iv 0, iv 0])] orcN ?_
  refine J_g 6 [] [(0, pp 0)] [(0, .box [iv 1000, iv 0, iv 0])] orcN ?_
  exact J_r1 rfl

noncomputable def c105 : Code := (Tryd.f105.body).getD .skip

theorem spec_l1Sign.ok (a1 : Int) (a2 : Int) : Ok Tryd.prog 105 [iv a1, iv a2] [] ((spec_l1Sign a1 a2).map fun r => (iv r, [])) := by
  refine Ok_of3 c105 Tryd.f105 0 11 (fun q => ?_)
  unfold spec_l1Sign
  refine J_g 2 [] [(0, iv a1), (1, iv a2)] [] orcN ?_
  refine J_g 12 [] [(0, iv a1), (1, iv a2), (7, bv (decide (a1 < a2)))] [] orcN ?_
  refine J_if2 7 (fun h3 => ?_) (fun h3 => ?_)
  · refine J_g 52 [] [(4, iv (-1))] [] orcN ?_
    exact J_r1 rfl
  · refine J_g 28 [] [(10, bv (decide (a1 > a2)))] [] orcN ?_
    refine J_if2 10 (fun h4 => ?_) (fun h4 => ?_)
    · refine J_g 116 [] [(4, iv 1)] [] orcN ?_
      exact J_r1 rfl
    · refine J_g 30 [] [(4, iv 0)] [] orcN ?_
      exact J_r1 rfl

noncomputable def c83 : Code := (Tryd.f83.body).getD .skip

theorem spec_CompareVersions.ok (a1 : Version) (a2 : Version) : Ok Tryd.prog 83 [.ag (Version.enc a1), .ag (Version.enc a2)] [] ((spec_CompareVersions a1 a2).map fun r => (iv r, [])) := by
  refine Ok_of3 c83 Tryd.f83 0 28 (fun q => ?_)
  unfold spec_CompareVersions
  refine J_g 2 [(0, 0), (1, 1)] [(2, pp 0), (3, pp 1)] [(0, .box (Version.enc a1)), (1, .box (Version.enc a2))] orcN ?_
  refine J_bind (fun x3 h4 => ?_)
  refine J_g 12 [] [(2, pp 0), (3, pp 1), (5, iv x3)] [(0, .box (Version.enc a1)), (1, .box (Version.enc a2))] (orcC 4 (x_c0 [(.tmp 8), (.tmp 10)] [2, 2] (spec_l1Sign.ok a1.A a2.A) h4) orcN) ?_
  refine J_g 26 [] [(2, pp 0), (3, pp 1), (5, iv x3), (13, bv (x3 != 0))] [(0, .box (Version.enc a1)), (1, .box (Version.enc a2))] orcN ?_
  refine J_if2 13 (fun h5 => ?_) (fun h5 => ?_)
  · refine J_g 108 [] [(4, iv x3)] [] orcN ?_
    exact J_r1 rfl
  · refine J_bind (fun x6 h7 => ?_)
    refine J_g 28 [] [(2, pp 0), (3, pp 1), (6, iv x6)] [(0, .box (Version.enc a1)), (1, .box (Version.enc a2))] (orcC 4 (x_c0 [(.tmp 16), (.tmp 18)] [2, 2] (spec_l1Sign.ok a1.B a2.B) h7) orcN) ?_
    refine J_g 58 [] [(2, pp 0), (3, pp 1), (6, iv x6), (21, bv (x6 != 0))] [(0, .box (Version.enc a1)), (1, .box (Version.enc a2))] orcN ?_
    refine J_if2 21 (fun h8 => ?_) (fun h8 => ?_)
    · refine J_g 236 [] [(4, iv x6)] [] orcN ?_
      exact J_r1 rfl
    · refine J_bind (fun x9 h10 => ?_)
      refine J_g 30 [] [(4, iv x9)] [] (orcC 4 (x_c0 [(.tmp 24), (.tmp 26)] [2, 2] (spec_l1Sign.ok a1.C a2.C) h10) orcN) ?_
      exact J_r1 rfl

noncomputable def c54 : Code := (Tryd.f54.body).getD .skip

theorem spec_TermFault.ok (a1 : Term) : Ok Tryd.prog 54 [.ag (Term.enc a1)] [] ((spec_TermFault a1).map fun r => (iv r, [])) := by
  refine Ok_of3 c54 Tryd.f54 0 33 (fun q => ?_)
  unfold spec_TermFault
  refine J_g 2 [(0, 0)] [(1, pp 0)] [(0, .box (Term.enc a1))] orcN ?_
  refine J_bind (fun x2 h3 => ?_)
  refine J_g 12 [] [(1, pp 0), (3, iv x2)] [(0, .box (Term.enc a1))] (orcC 2 (x_c0 [(.tmp 6)] [9] (spec_NameFault.ok a1.Name) h3) orcN) ?_
  refine J_g 26 [] [(1, pp 0), (3, iv x2), (9, bv (x2 != 0))] [(0, .box (Term.enc a1))] orcN ?_
  refine J_if2 9 (fun h4 => ?_) (fun h4 => ?_)
  · refine J_g 108 [] [(2, iv x2)] [] orcN ?_
    exact J_r1 rfl
  · refine J_bind (fun x5 h6 => ?_)
    refine J_g 28 [] [(1, pp 0), (4, iv x5)] [(0, .box (Term.enc a1))] (orcC 2 (x_c0 [(.tmp 12)] [39] (spec_VersionFault.ok a1.Low) h6) orcN) ?_
    refine J_g 58 [] [(1, pp 0), (4, iv x5), (15, bv (x5 != 0))] [(0, .box (Term.enc a1))] orcN ?_
    refine J_if2 15 (fun h7 => ?_) (fun h7 => ?_)
    · refine J_g 236 [] [(2, iv x5)] [] orcN ?_
      exact J_r1 rfl
    · refine J_bind (fun x8 h9 => ?_)
      refine J_join (atI c54 61) (fun v13 : Bool => St.mk' [(1, pp 0), (26, bv v13)] [(0, .box (Term.enc a1))]) (fun v13 => ?_) (fun jv13 => ?_)
      · refine J_if2 26 (fun h14 => ?_) (fun h14 => ?_)
        · refine J_g 244 [] [(2, iv 3)] [] orcN ?_
          exact J_r1 rfl
        · refine J_bind (fun x15 h16 => ?_)
          refine J_g 124 [] [(32, bv (decide (x15 ≥ 0)))] [] (orcC 4 (x_c0 [(.tmp 28), (.tmp 30)] [39, 39] (spec_CompareVersions.ok a1.Low a1.High) h16) orcN) ?_
          refine J_if2 32 (fun h17 => ?_) (fun h17 => ?_)
          · refine J_g 500 [] [(2, iv 1)] [] orcN ?_
            exact J_r1 rfl
          · refine J_g 126 [] [(2, iv 0)] [] orcN ?_
            exact J_r1 rfl
      · refine J_ite (fun h10 => ?_) (fun h10 => ?_)
        · refine J_bind (fun x11 h12 => ?_)
          refine J_g 60 [] [(1, pp 0), (26, bv (x11 != 0))] [(0, .box (Term.enc a1))] (orcC 2 (x_c0 [] [] (spec_l1Top.ok) h9) (orcC 3 (x_seq (b := .neq) (r := (a1.High.A == x8.A && (a1.High.B == x8.B && (a1.High.C == x8.C && true)))) 39 39 (.tmp 18) (.tmp 19) [.int .i64 a1.High.A, .int .i64 a1.High.B, .int .i64 a1.High.C] [.int .i64 x8.A, .int .i64 x8.B, .int .i64 x8.C] (.inr ⟨rfl, rfl⟩)) (orcL 4 [(20, bv (!(a1.High.A == x8.A && (a1.High.B == x8.B && (a1.High.C == x8.C && true)))))] [] h10 (orcH 7 4 21 true (x_c0 [(.tmp 23)] [39] (spec_VersionFault.ok a1.High) h12) orcN)))) ?_
          exact J_qw (J_j (jv13 (x11 != 0))) rfl
        · refine J_g 60 [] [(1, pp 0), (26, bv false)] [(0, .box (Term.enc a1))] (orcC 2 (x_c0 [] [] (spec_l1Top.ok) h9) (orcC 3 (x_seq (b := .neq) (r := (a1.High.A == x8.A && (a1.High.B == x8.B && (a1.High.C == x8.C && true)))) 39 39 (.tmp 18) (.tmp 19) [.int .i64 a1.High.A, .int .i64 a1.High.B, .int .i64 a1.High.C] [.int .i64 x8.A, .int .i64 x8.B, .int .i64 x8.C] (.inr ⟨rfl, rfl⟩)) (orcL 4 [(20, bv (!(a1.High.A == x8.A && (a1.High.B == x8.B && (a1.High.C == x8.C && true)))))] [] h10 orcN))) ?_
          exact J_qw (J_j (jv13 false)) rfl

noncomputable def c29 : Code := (Tryd.f29.body).getD .skip

theorem spec_l2Terms_l1.ok (a1 : (List Term)) (q : Wd) (kn : Unit → Option (D × List Ent)) (hk : ∀ v : Unit, J (q.g Tryd.prog 29 0 19) c29 (atI c29 7) (St.mk' [] []) (some v) kn) :
    ∀ s8 : Int, J (q.g Tryd.prog 29 0 19) c29 (atI c29 52) (St.mk' [(0, sl 7 Term.enc a1), (3, iv s8)] []) (spec_l2Terms_l1 a1 s8) (Fl.go (fun r : Int => some (iv r, [])) kn) := by
  refine J_lp (fun g ih s8 => ?_)
  unfold spec_l2Terms_l1b
  refine J_g 208 [] [(0, sl 7 Term.enc a1), (3, iv s8), (8, bv (decide (s8 < (a1.length : Int))))] [] orcN ?_
  refine J_if2 8 (fun h9 => ?_) (fun h9 => ?_)
  · refine J_bind (fun x10 h11 => ?_)
    refine J_bind (fun x12 h13 => ?_)
    refine J_g 840 [] [(0, sl 7 Term.enc a1), (3, iv s8), (4, iv x12)] [] (orcC 2 (x_ix (kk := .i64) 27 60 7 Term.enc (.tmp 11) (.tmp 12) h11) (orcC 4 (x_c0 [(.tmp 14)] [60] (spec_TermFault.ok x10) h13) orcN)) ?_
    refine J_g 1682 [] [(0, sl 7 Term.enc a1), (3, iv s8), (4, iv x12), (17, bv (x12 != 0))] [] orcN ?_
    refine J_if2 17 (fun h14 => ?_) (fun h14 => ?_)
    · refine J_g 6732 [] [(2, iv x12)] [] orcN ?_
      exact J_r1 rfl
    · refine J_g 211 [] [(0, sl 7 Term.enc a1), (3, iv (w64 (s8 + 1)))] [] orcN ?_
      exact J_q (J_b (ih (w64 (s8 + 1)))) rfl
  · exact J_qw (hk ()) rfl

theorem spec_l2Terms.ok (a1 : (List Term)) : Ok Tryd.prog 29 [sl 7 Term.enc a1] [] ((spec_l2Terms a1).map fun r => (iv r, [])) := by
  refine Ok_of3 c29 Tryd.f29 0 19 (fun q => ?_)
  unfold spec_l2Terms
  refine J_g 2 [] [(0, sl 7 Term.enc a1)] [] orcN ?_
  refine J_g 12 [] [(0, sl 7 Term.enc a1), (3, iv 0)] [] orcN ?_
  refine J_lqF (K0 := (fun r : Int => some (iv r, []))) (fun _ => rfl) (spec_l2Terms_l1.ok a1 q _ (fun v15 => J_j ?_) 0)
  refine J_g 14 [] [(2, iv 0)] [] orcN ?_
  exact J_r1 rfl

noncomputable def c37 : Code := (Tryd.f37.body).getD .skip

theorem spec_PackFault_l3.ok (a1 : Pack) (q : Wd) (kn : Unit → Option (D × List Ent)) (hk : ∀ v : Unit, J (q.g Tryd.prog 37 0 118) c37 (atI c37 511) (St.mk' [(1, pp 0)] [(0, .box (Pack.enc false a1))]) (some v) kn) :
    ∀ s70 : Int, J (q.g Tryd.prog 37 0 118) c37 (atI c37 4084) (St.mk' [(1, pp 0), (8, iv s70)] [(0, .box (Pack.enc false a1))]) (spec_PackFault_l3 a1 s70) (Fl.go (fun r : Int => some (iv r, [])) kn) := by
  refine J_lp (fun g ih s70 => ?_)
  unfold spec_PackFault_l3b
  refine J_g 16336 [] [(1, pp 0), (8, iv s70), (96, bv (decide (s70 < (a1.Needs.length : Int))))] [(0, .box (Pack.enc false a1))] orcN ?_
  refine J_if2 96 (fun h71 => ?_) (fun h71 => ?_)
  · refine J_bind (fun x72 h73 => ?_)
    refine J_g 130704 [] [(1, pp 0), (8, iv s70), (105, bv ((x72.length : Int) == 0))] [(0, .box (Pack.enc false a1))] (orcC 3 (x_ix (kk := .i64) 40 27 1 (eSl false 7 Term.enc) (.tmp 100) (.tmp 101) h73) orcN) ?_
    refine J_if2 105 (fun h74 => ?_) (fun h74 => ?_)
    · refine J_g 522820 [] [(2, iv 1)] [] orcN ?_
      exact J_r1 rfl
    · refine J_bind (fun x75 h76 => ?_)
      refine J_bind (fun x77 h78 => ?_)
      refine J_g 130706 [] [(1, pp 0), (8, iv s70), (9, iv x77)] [(0, .box (Pack.enc false a1))] (orcC 3 (x_ix (kk := .i64) 40 27 1 (eSl false 7 Term.enc) (.tmp 107) (.tmp 108) h76) (orcC 5 (x_c0 [(.tmp 110)] [27] (spec_l2Terms.ok x75) h78) orcN)) ?_
      refine J_g 261414 [] [(1, pp 0), (8, iv s70), (9, iv x77), (113, bv (x77 != 0))] [(0, .box (Pack.enc false a1))] orcN ?_
      refine J_if2 113 (fun h79 => ?_) (fun h79 => ?_)
      · refine J_g 1045660 [] [(2, iv x77)] [] orcN ?_
        exact J_r1 rfl
      · refine J_g 16339 [] [(1, pp 0), (8, iv (w64 (s70 + 1)))] [(0, .box (Pack.enc false a1))] orcN ?_
        exact J_q (J_b (ih (w64 (s70 + 1)))) rfl
  · exact J_qw (hk ()) rfl

theorem spec_PackFault_l2.ok (a1 : Pack) (q : Wd) (kn : Unit → Option (D × List Ent)) (hk : ∀ v : Unit, J (q.g Tryd.prog 37 0 118) c37 (atI c37 255) (St.mk' [(1, pp 0)] [(0, .box (Pack.enc false a1))]) (some v) kn) :
    ∀ s42 : Int, J (q.g Tryd.prog 37 0 118) c37 (atI c37 2036) (St.mk' [(1, pp 0), (6, iv s42)] [(0, .box (Pack.enc false a1))]) (spec_PackFault_l2 a1 s42) (Fl.go (fun r : Int => some (iv r, [])) kn) := by
  refine J_lp (fun g ih s42 => ?_)
  unfold spec_PackFault_l2b
  refine J_g 8144 [] [(1, pp 0), (6, iv s42), (60, bv (decide (s42 < (a1.Provides.length : Int))))] [(0, .box (Pack.enc false a1))] orcN ?_
  refine J_if2 60 (fun h43 => ?_) (fun h43 => ?_)
  · refine J_bind (fun x44 h45 => ?_)
    refine J_bind (fun x46 h47 => ?_)
    refine J_g 65168 [] [(1, pp 0), (6, iv s42), (7, iv x46)] [(0, .box (Pack.enc false a1))] (orcC 3 (x_ix (kk := .i64) 33 9 1 eStr (.tmp 64) (.tmp 65) h45) (orcC 5 (x_c0 [(.tmp 67)] [9] (spec_NameFault.ok x44) h47) orcN)) ?_
    refine J_g 130338 [] [(1, pp 0), (6, iv s42), (7, iv x46), (70, bv (x46 != 0))] [(0, .box (Pack.enc false a1))] orcN ?_
    refine J_if2 70 (fun h48 => ?_) (fun h48 => ?_)
    · refine J_g 521356 [] [(2, iv x46)] [] orcN ?_
      exact J_r1 rfl
    · refine J_bind (fun x49 h50 => ?_)
      refine J_join (atI c37 65171) (fun v58 : Bool => St.mk' [(1, pp 0), (6, iv s42), (91, bv v58)] [(0, .box (Pack.enc false a1))]) (fun v58 => ?_) (fun jv58 => ?_)
      · refine J_if2 91 (fun h59 => ?_) (fun h59 => ?_)
        · refine J_g 260684 [] [(2, iv 6)] [] orcN ?_
          exact J_r1 rfl
        · refine J_g 8147 [] [(1, pp 0), (6, iv (w64 (s42 + 1)))] [(0, .box (Pack.enc false a1))] orcN ?_
          exact J_q (J_b (ih (w64 (s42 + 1)))) rfl
      · refine J_ite (fun h51 => ?_) (fun h51 => ?_)
        · refine J_g 65170 [] [(1, pp 0), (6, iv s42), (91, bv true)] [(0, .box (Pack.enc false a1))] (orcC 3 (x_ix (kk := .i64) 33 9 1 eStr (.tmp 73) (.tmp 74) h50) (orcL 8 [(79, bv (seq x49 a1.Name))] [] h51 orcN)) ?_
          exact J_qw (J_j (jv58 true)) rfl
        · refine J_bind (fun x52 h53 => ?_)
          refine J_bind (fun x54 h55 => ?_)
          refine J_bind (fun x56 h57 => ?_)
          refine J_g 65170 [] [(1, pp 0), (6, iv s42), (91, bv x56)] [(0, .box (Pack.enc false a1))] (orcC 3 (x_ix (kk := .i64) 33 9 1 eStr (.tmp 73) (.tmp 74) h50) (orcL 8 [(79, bv (seq x49 a1.Name))] [] h51 (orcH 12 8 80 false (x_ls 33 9 1 eStr (.tmp 82) none (some (.tmp 83)) h53) (orcH 16 8 80 false (x_ix (kk := .i64) 33 9 1 eStr (.tmp 86) (.tmp 87) h55) (orcH 18 8 80 false (x_c0 [(.tmp 84), (.tmp 89)] [33, 9] (spec_l2Holds.ok x52 x54) h57) orcN))))) ?_
          exact J_qw (J_j (jv58 x56)) rfl
  · exact J_qw (hk ()) rfl

theorem spec_PackFault_l1.ok (a1 : Pack) (q : Wd) (kn : Unit → Option (D × List Ent)) (hk : ∀ v : Unit, J (q.g Tryd.prog 37 0 118) c37 (atI c37 127) (St.mk' [(1, pp 0)] [(0, .box (Pack.enc false a1))]) (some v) kn) :
    ∀ s19 : Int, J (q.g Tryd.prog 37 0 118) c37 (atI c37 1012) (St.mk' [(1, pp 0), (5, iv s19)] [(0, .box (Pack.enc false a1))]) (spec_PackFault_l1 a1 s19) (Fl.go (fun r : Int => some (iv r, [])) kn) := by
  refine J_lp (fun g ih s19 => ?_)
  unfold spec_PackFault_l1b
  refine J_g 4048 [] [(1, pp 0), (5, iv s19), (46, bv (decide (s19 < (a1.Needs.length : Int))))] [(0, .box (Pack.enc false a1))] orcN ?_
  refine J_if2 46 (fun h20 => ?_) (fun h20 => ?_)
  · refine J_bind (fun x21 h22 => ?_)
    refine J_g 16200 [] [(1, pp 0), (5, iv s19), (55, bv (decide ((x21.length : Int) > 4)))] [(0, .box (Pack.enc false a1))] (orcC 3 (x_ix (kk := .i64) 40 27 1 (eSl false 7 Term.enc) (.tmp 50) (.tmp 51) h22) orcN) ?_
    refine J_if2 55 (fun h23 => ?_) (fun h23 => ?_)
    · refine J_g 64804 [] [(2, iv 2)] [] orcN ?_
      exact J_r1 rfl
    · refine J_g 4051 [] [(1, pp 0), (5, iv (w64 (s19 + 1)))] [(0, .box (Pack.enc false a1))] orcN ?_
      exact J_q (J_b (ih (w64 (s19 + 1)))) rfl
  · exact J_qw (hk ()) rfl

theorem spec_PackFault.ok (a1 : Pack) : Ok Tryd.prog 37 [.ag (Pack.enc false a1)] [] ((spec_PackFault a1).map fun r => (iv r, [])) := by
  refine Ok_of3 c37 Tryd.f37 0 118 (fun q => ?_)
  unfold spec_PackFault
  refine J_g 2 [(0, 0)] [(1, pp 0)] [(0, .box (Pack.enc false a1))] orcN ?_
  refine J_bind (fun x2 h3 => ?_)
  refine J_g 12 [] [(1, pp 0), (3, iv x2)] [(0, .box (Pack.enc false a1))] (orcC 2 (x_c0 [(.tmp 11)] [9] (spec_NameFault.ok a1.Name) h3) orcN) ?_
  refine J_g 26 [] [(1, pp 0), (3, iv x2), (14, bv (x2 != 0))] [(0, .box (Pack.enc false a1))] orcN ?_
  refine J_if2 14 (fun h4 => ?_) (fun h4 => ?_)
  · refine J_g 108 [] [(2, iv x2)] [] orcN ?_
    exact J_r1 rfl
  · refine J_bind (fun x5 h6 => ?_)
    refine J_g 28 [] [(1, pp 0), (4, iv x5)] [(0, .box (Pack.enc false a1))] (orcC 2 (x_c0 [(.tmp 17)] [39] (spec_VersionFault.ok a1.Version) h6) orcN) ?_
    refine J_g 58 [] [(1, pp 0), (4, iv x5), (20, bv (x5 != 0))] [(0, .box (Pack.enc false a1))] orcN ?_
    refine J_if2 20 (fun h7 => ?_) (fun h7 => ?_)
    · refine J_g 236 [] [(2, iv x5)] [] orcN ?_
      exact J_r1 rfl
    · refine J_bind (fun x8 h9 => ?_)
      refine J_g 60 [] [(1, pp 0), (25, bv (!x8))] [(0, .box (Pack.enc false a1))] (orcC 2 (x_c0 [(.tmp 23), (.const (.int .i64 1)), (.const (.int .i64 200))] [2, 2, 2] (spec_l1In.ok a1.Size 1 200) h9) orcN) ?_
      refine J_if2 25 (fun h10 => ?_) (fun h10 => ?_)
      · refine J_g 244 [] [(2, iv 3)] [] orcN ?_
        exact J_r1 rfl
      · refine J_join (atI c37 125) (fun v13 : Bool => St.mk' [(1, pp 0), (41, bv v13)] [(0, .box (Pack.enc false a1))]) (fun v13 => ?_) (fun jv13 => ?_)
        · refine J_if2 41 (fun h14 => ?_) (fun h14 => ?_)
          · refine J_g 500 [] [(2, iv 2)] [] orcN ?_
            exact J_r1 rfl
          · refine J_g 252 [] [(1, pp 0), (5, iv 0)] [(0, .box (Pack.enc false a1))] orcN ?_
            refine J_lqF (K0 := (fun r : Int => some (iv r, []))) (fun _ => rfl) (spec_PackFault_l1.ok a1 q _ (fun v24 => J_j ?_) 0)
            refine J_g 508 [] [(1, pp 0), (6, iv 0)] [(0, .box (Pack.enc false a1))] orcN ?_
            refine J_lqF (K0 := (fun r : Int => some (iv r, []))) (fun _ => rfl) (spec_PackFault_l2.ok a1 q _ (fun v60 => J_j ?_) 0)
            refine J_g 1020 [] [(1, pp 0), (8, iv 0)] [(0, .box (Pack.enc false a1))] orcN ?_
            refine J_lqF (K0 := (fun r : Int => some (iv r, []))) (fun _ => rfl) (spec_PackFault_l3.ok a1 q _ (fun v80 => J_j ?_) 0)
            refine J_bind (fun x81 h82 => ?_)
            refine J_g 1022 [] [(2, iv x81)] [] (orcC 2 (x_c0 [(.tmp 116)] [27] (spec_l2Terms.ok a1.Bars) h82) orcN) ?_
            exact J_r1 rfl
        · refine J_ite (fun h11 => ?_) (fun h11 => ?_)
          · refine J_g 124 [] [(1, pp 0), (41, bv true)] [(0, .box (Pack.enc false a1))] (orcL 4 [(29, bv (decide ((a1.Provides.length : Int) > 4)))] [] h11 orcN) ?_
            exact J_qw (J_j (jv13 true)) rfl
          · refine J_ite (fun h12 => ?_) (fun h12 => ?_)
            · refine J_g 124 [] [(1, pp 0), (41, bv true)] [(0, .box (Pack.enc false a1))] (orcL 4 [(29, bv (decide ((a1.Provides.length : Int) > 4)))] [] h11 (orcL 10 [(35, bv (decide ((a1.Needs.length : Int) > 4)))] [] h12 orcN)) ?_
              exact J_qw (J_j (jv13 true)) rfl
            · refine J_g 124 [] [(1, pp 0), (41, bv (decide ((a1.Bars.length : Int) > 4)))] [(0, .box (Pack.enc false a1))] (orcL 4 [(29, bv (decide ((a1.Provides.length : Int) > 4)))] [] h11 (orcL 10 [(35, bv (decide ((a1.Needs.length : Int) > 4)))] [] h12 orcN)) ?_
              exact J_qw (J_j (jv13 (decide ((a1.Bars.length : Int) > 4)))) rfl

noncomputable def c25 : Code := (Tryd.f25.body).getD .skip

theorem spec_l1Decimal.ok (a1 : Int) : Ok Tryd.prog 25 [iv a1] [] ((spec_l1Decimal a1).map fun r => (sv r, [])) := by
  have key : ∀ (n : Nat) (a1 : Int), Ok Tryd.prog 25 [iv a1] [] ((recF spec_l1Decimal_r n a1).map fun r => (sv r, [])) := by
    intro n
    induction n with
    | zero => intro a1; exact Ok_none
    | succ n ih =>
      intro a1
      refine Ok_of3 c25 Tryd.f25 0 20 (fun q => ?_)
      unfold recF spec_l1Decimal_r
      refine J_g 2 [] [(0, iv a1)] [] orcN ?_
      refine J_g 12 [] [(0, iv a1), (4, bv (decide (a1 < 10)))] [] orcN ?_
      refine J_if2 4 (fun h2 => ?_) (fun h2 => ?_)
      · refine J_g 52 [] [(2, sv (b2s [IntKind.u8.wrap (w64 (48 + a1))]))] [] (orcC 3 (x_bp 74 5 1 0 eU8 [IntKind.u8.wrap (w64 (48 + a1))] [0] [(.tmp 7)] [uv (IntKind.u8.wrap (w64 (48 + a1)))]) (orcC 4 (x_b2sr (xs := [IntKind.u8.wrap (w64 (48 + a1))]) 74 9 5 0 (.tmp 8)) orcN)) ?_
        exact J_r1 rfl
      · refine J_bind (fun x3 h4 => ?_)
        refine J_bind (fun x5 h6 => ?_)
        refine J_g 14 [] [(2, sv x5)] [] (orcC 2 (x_c0 [(.tmp 11)] [2] (ih (w64 (a1.tdiv 10))) h4) (orcC 7 (x_bp 74 5 1 0 eU8 [IntKind.u8.wrap (w64 (48 + (a1.tmod 10)))] [0] [(.tmp 16)] [uv (IntKind.u8.wrap (w64 (48 + (a1.tmod 10))))]) (orcC 8 (x_b2sr (xs := [IntKind.u8.wrap (w64 (48 + (a1.tmod 10)))]) 74 9 5 0 (.tmp 17)) (orcC 9 (x_cat 9 9 (.tmp 12) (.tmp 18) h6) orcN)))) ?_
        exact J_r1 rfl
  exact key 64 a1

noncomputable def c62 : Code := (Tryd.f62.body).getD .skip

theorem spec_FormatVersion.ok (a1 : Version) : Ok Tryd.prog 62 [.ag (Version.enc a1)] [] ((spec_FormatVersion a1).map fun r => (sv r, [])) := by
  refine Ok_of3 c62 Tryd.f62 0 19 (fun q => ?_)
  unfold spec_FormatVersion
  refine J_g 2 [(0, 0)] [(1, pp 0)] [(0, .box (Version.enc a1))] orcN ?_
  refine J_bind (fun x2 h3 => ?_)
  refine J_g 12 [] [(1, pp 0), (5, bv (x2 != 0))] [(0, .box (Version.enc a1))] (orcC 1 (x_c0 [(.tmp 3)] [39] (spec_VersionFault.ok a1) h3) orcN) ?_
  refine J_if2 5 (fun h4 => ?_) (fun h4 => ?_)
  · refine J_g 52 [] [(2, sv (bs []))] [] orcN ?_
    exact J_r1 rfl
  · refine J_bind (fun x5 h6 => ?_)
    refine J_bind (fun x7 h8 => ?_)
    refine J_bind (fun x9 h10 => ?_)
    refine J_bind (fun x11 h12 => ?_)
    refine J_bind (fun x13 h14 => ?_)
    refine J_bind (fun x15 h16 => ?_)
    refine J_bind (fun x17 h18 => ?_)
    refine J_g 14 [] [(2, sv x17)] [] (orcC 2 (x_c0 [(.tmp 7)] [2] (spec_l1Decimal.ok a1.A) h6) (orcC 3 (x_cat 9 9 (.tmp 8) (.const (.string (bs [46]))) h8) (orcC 6 (x_c0 [(.tmp 11)] [2] (spec_l1Decimal.ok a1.B) h10) (orcC 7 (x_cat 9 9 (.tmp 9) (.tmp 12) h12) (orcC 8 (x_cat 9 9 (.tmp 13) (.const (.string (bs [46]))) h14) (orcC 11 (x_c0 [(.tmp 16)] [2] (spec_l1Decimal.ok a1.C) h16) (orcC 12 (x_cat 9 9 (.tmp 14) (.tmp 17) h18) orcN))))))) ?_
    exact J_r1 rfl

noncomputable def c38 : Code := (Tryd.f38.body).getD .skip

theorem spec_l8Path.ok (a1 : Pack) : Ok Tryd.prog 38 [.ag (Pack.enc false a1)] [] ((spec_l8Path a1).map fun r => (sv r, [])) := by
  refine Ok_of3 c38 Tryd.f38 0 11 (fun q => ?_)
  unfold spec_l8Path
  refine J_g 2 [(0, 0)] [(1, pp 0)] [(0, .box (Pack.enc false a1))] orcN ?_
  refine J_bind (fun x2 h3 => ?_)
  refine J_bind (fun x4 h5 => ?_)
  refine J_bind (fun x6 h7 => ?_)
  refine J_bind (fun x8 h9 => ?_)
  refine J_g 6 [] [(2, sv x8)] [] (orcC 2 (x_cat 9 9 (.const (.string (bs [112, 107, 103, 47]))) (.tmp 4) h3) (orcC 3 (x_cat 9 9 (.tmp 5) (.const (.string (bs [45]))) h5) (orcC 6 (x_c0 [(.tmp 8)] [39] (spec_FormatVersion.ok a1.Version) h7) (orcC 7 (x_cat 9 9 (.tmp 6) (.tmp 9) h9) orcN)))) ?_
  exact J_r1 rfl

noncomputable def c15 : Code := (Tryd.f15.body).getD .skip

theorem spec_PackPath.ok (a1 : Pack) : Ok Tryd.prog 15 [.ag (Pack.enc false a1)] [] ((spec_PackPath a1).map fun r => (sv r, [])) := by
  refine Ok_of3 c15 Tryd.f15 0 8 (fun q => ?_)
  unfold spec_PackPath
  refine J_g 2 [(0, 0)] [(1, pp 0)] [(0, .box (Pack.enc false a1))] orcN ?_
  refine J_bind (fun x2 h3 => ?_)
  refine J_g 12 [] [(1, pp 0), (5, bv (x2 != 0))] [(0, .box (Pack.enc false a1))] (orcC 1 (x_c0 [(.tmp 3)] [42] (spec_PackFault.ok a1) h3) orcN) ?_
  refine J_if2 5 (fun h4 => ?_) (fun h4 => ?_)
  · refine J_g 52 [] [(2, sv (bs []))] [] orcN ?_
    exact J_r1 rfl
  · refine J_bind (fun x5 h6 => ?_)
    refine J_g 14 [] [(2, sv x5)] [] (orcC 1 (x_c0 [(.tmp 6)] [42] (spec_l8Path.ok a1) h6) orcN) ?_
    exact J_r1 rfl

noncomputable def c87 : Code := (Tryd.f87.body).getD .skip

theorem impl_isNameByte.ok (a1 : Int) : Ok Tryd.prog 87 [uv a1] [] ((impl_isNameByte a1).map fun r => (bv r, [])) := by
  refine Ok_of3 c87 Tryd.f87 0 21 (fun q => ?_)
  unfold impl_isNameByte
  refine J_g 2 [] [(0, uv a1)] [] orcN ?_
  refine J_ite (fun h2 => ?_) (fun h2 => ?_)
  · refine J_ite (fun h3 => ?_) (fun h3 => ?_)
    · refine J_g 6 [] [(2, bv true)] [] (orcL 2 [(4, bv (decide (a1 ≥ 97)))] [] h2 (orcL 6 [(8, bv (decide (a1 ≤ 122)))] [] h3 (orcV 9 (orcU (i := 9) (g := 6) (t := 9) (b := false) (v := (.bool true)) (.inl rfl) (by kernel_rfl) (by kernel_rfl)) (orcV 10 (orcU (i := 10) (g := 9) (t := 12) (b := true) (v := undef) (.inr rfl) (by kernel_rfl) (by kernel_rfl)) (orcV 11 (orcU (i := 11) (g := 9) (t := 12) (b := true) (v := undef) (.inr rfl) (by kernel_rfl) (by kernel_rfl)) orcN))))) ?_
      exact J_r1 rfl
    · refine J_ite (fun h4 => ?_) (fun h4 => ?_)
      · refine J_ite (fun h5 => ?_) (fun h5 => ?_)
        · refine J_g 6 [] [(2, bv true)] [] (orcL 2 [(4, bv (decide (a1 ≥ 97)))] [] h2 (orcL 6 [(8, bv (decide (a1 ≤ 122)))] [] h3 (orcLG 9 6 9 false [(11, bv (decide (a1 ≥ 48)))] [] h4 (orcL 14 [(16, bv (decide (a1 ≤ 57)))] [] h5 orcN)))) ?_
          exact J_r1 rfl
        · refine J_g 6 [] [(2, bv (a1 == 95))] [] (orcL 2 [(4, bv (decide (a1 ≥ 97)))] [] h2 (orcL 6 [(8, bv (decide (a1 ≤ 122)))] [] h3 (orcLG 9 6 9 false [(11, bv (decide (a1 ≥ 48)))] [] h4 (orcL 14 [(16, bv (decide (a1 ≤ 57)))] [] h5 orcN)))) ?_
          exact J_r1 rfl
      · refine J_g 6 [] [(2, bv (a1 == 95))] [] (orcL 2 [(4, bv (decide (a1 ≥ 97)))] [] h2 (orcL 6 [(8, bv (decide (a1 ≤ 122)))] [] h3 (orcLG 9 6 9 false [(11, bv (decide (a1 ≥ 48)))] [] h4 orcN))) ?_
        exact J_r1 rfl
  · refine J_ite (fun h6 => ?_) (fun h6 => ?_)
    · refine J_ite (fun h7 => ?_) (fun h7 => ?_)
      · refine J_g 6 [] [(2, bv true)] [] (orcL 2 [(4, bv (decide (a1 ≥ 97)))] [] h2 (orcLG 9 6 9 false [(11, bv (decide (a1 ≥ 48)))] [] h6 (orcL 14 [(16, bv (decide (a1 ≤ 57)))] [] h7 orcN))) ?_
        exact J_r1 rfl
      · refine J_g 6 [] [(2, bv (a1 == 95))] [] (orcL 2 [(4, bv (decide (a1 ≥ 97)))] [] h2 (orcLG 9 6 9 false [(11, bv (decide (a1 ≥ 48)))] [] h6 (orcL 14 [(16, bv (decide (a1 ≤ 57)))] [] h7 orcN))) ?_
        exact J_r1 rfl
    · refine J_g 6 [] [(2, bv (a1 == 95))] [] (orcL 2 [(4, bv (decide (a1 ≥ 97)))] [] h2 (orcLG 9 6 9 false [(11, bv (decide (a1 ≥ 48)))] [] h6 orcN)) ?_
      exact J_r1 rfl

noncomputable def c64 : Code := (Tryd.f64.body).getD .skip

theorem impl_NameFault_l1.ok (a1 : ByteArray) (q : Wd) (kn : Unit → Option (D × List Ent)) (hk : ∀ v : Unit, J (q.g Tryd.prog 64 0 33) c64 (atI c64 15) (St.mk' [] []) (some v) kn) :
    ∀ s17 : Int, J (q.g Tryd.prog 64 0 33) c64 (atI c64 116) (St.mk' [(0, sv a1), (23, iv (a1.size : Int)), (24, iv s17)] []) (impl_NameFault_l1 a1 s17) (Fl.go (fun r : Int => some (iv r, [])) kn) := by
  refine J_lp (fun g ih s17 => ?_)
  unfold impl_NameFault_l1b
  refine J_g 232 [] [(0, sv a1), (23, iv (a1.size : Int)), (24, iv s17), (25, bv (decide (s17 < (a1.size : Int))))] [] orcN ?_
  refine J_if2 25 (fun h18 => ?_) (fun h18 => ?_)
  · refine J_g 3736 [] [(0, sv a1), (3, iv s17), (23, iv (a1.size : Int)), (24, iv s17)] [] orcN ?_
    refine J_bind (fun x19 h20 => ?_)
    refine J_bind (fun x21 h22 => ?_)
    refine J_g 7474 [] [(0, sv a1), (23, iv (a1.size : Int)), (24, iv s17), (31, bv (!x21))] [] (orcC 2 (x_bi (kk := .i64) 9 (.tmp 27) (.tmp 28) h20) (orcC 3 (x_c0 [(.tmp 29)] [5] (impl_isNameByte.ok x19) h22) orcN)) ?_
    refine J_if2 31 (fun h23 => ?_) (fun h23 => ?_)
    · refine J_g 29900 [] [(2, iv 5)] [] orcN ?_
      exact J_r1 rfl
    · refine J_g 935 [] [(0, sv a1), (23, iv (a1.size : Int)), (24, iv (w64 (s17 + 1)))] [] orcN ?_
      exact J_q (J_b (ih (w64 (s17 + 1)))) rfl
  · exact J_qw (hk ()) rfl

theorem impl_NameFault.ok (a1 : ByteArray) : Ok Tryd.prog 64 [sv a1] [] ((impl_NameFault a1).map fun r => (iv r, [])) := by
  refine Ok_of3 c64 Tryd.f64 0 33 (fun q => ?_)
  unfold impl_NameFault
  refine J_g 2 [] [(0, sv a1)] [] orcN ?_
  refine J_join (atI c64 13) (fun v9 : Bool => St.mk' [(0, sv a1), (21, bv v9)] []) (fun v9 => ?_) (fun jv9 => ?_)
  · refine J_if2 21 (fun h10 => ?_) (fun h10 => ?_)
    · refine J_g 52 [] [(2, iv 5)] [] orcN ?_
      exact J_r1 rfl
    · refine J_g 28 [] [(0, sv a1), (23, iv (a1.size : Int)), (24, iv 0)] [] orcN ?_
      refine J_lqF (K0 := (fun r : Int => some (iv r, []))) (fun _ => rfl) (impl_NameFault_l1.ok a1 q _ (fun v24 => J_j ?_) 0)
      refine J_g 30 [] [(2, iv 0)] [] orcN ?_
      exact J_r1 rfl
  · refine J_ite (fun h2 => ?_) (fun h2 => ?_)
    · refine J_g 12 [] [(0, sv a1), (21, bv true)] [] (orcL 3 [(6, bv (decide ((a1.size : Int) < 1)))] [] h2 orcN) ?_
      exact J_qw (J_j (jv9 true)) rfl
    · refine J_ite (fun h3 => ?_) (fun h3 => ?_)
      · refine J_g 12 [] [(0, sv a1), (21, bv true)] [] (orcL 3 [(6, bv (decide ((a1.size : Int) < 1)))] [] h2 (orcL 8 [(11, bv (decide ((a1.size : Int) > 12)))] [] h3 orcN)) ?_
        exact J_qw (J_j (jv9 true)) rfl
      · refine J_bind (fun x4 h5 => ?_)
        refine J_ite (fun h6 => ?_) (fun h6 => ?_)
        · refine J_g 12 [] [(0, sv a1), (21, bv true)] [] (orcL 3 [(6, bv (decide ((a1.size : Int) < 1)))] [] h2 (orcL 8 [(11, bv (decide ((a1.size : Int) > 12)))] [] h3 (orcH 10 8 12 false (x_bi (kk := .i64) 9 (.tmp 13) (.const (.int .i64 0)) h5) (orcL 13 [(16, bv (decide (x4 < 97)))] [] h6 orcN)))) ?_
          exact J_qw (J_j (jv9 true)) rfl
        · refine J_bind (fun x7 h8 => ?_)
          refine J_g 12 [] [(0, sv a1), (21, bv (decide (x7 > 122)))] [] (orcL 3 [(6, bv (decide ((a1.size : Int) < 1)))] [] h2 (orcL 8 [(11, bv (decide ((a1.size : Int) > 12)))] [] h3 (orcH 10 8 12 false (x_bi (kk := .i64) 9 (.tmp 13) (.const (.int .i64 0)) h5) (orcL 13 [(16, bv (decide (x4 < 97)))] [] h6 (orcH 15 13 17 false (x_bi (kk := .i64) 9 (.tmp 18) (.const (.int .i64 0)) h8) orcN))))) ?_
          exact J_qw (J_j (jv9 (decide (x7 > 122)))) rfl

noncomputable def c26 : Code := (Tryd.f26.body).getD .skip

theorem impl_within.ok (a1 : Int) (a2 : Int) (a3 : Int) : Ok Tryd.prog 26 [iv a1, iv a2, iv a3] [] ((impl_within a1 a2 a3).map fun r => (bv r, [])) := by
  refine Ok_of3 c26 Tryd.f26 0 15 (fun q => ?_)
  unfold impl_within
  refine J_g 2 [] [(0, iv a1), (1, iv a2), (2, iv a3)] [] orcN ?_
  refine J_ite (fun h4 => ?_) (fun h4 => ?_)
  · refine J_g 6 [] [(6, bv (decide (a1 ≤ a3)))] [] (orcL 3 [(9, bv (decide (a2 ≤ a1)))] [] h4 orcN) ?_
    exact J_r1 rfl
  · refine J_g 6 [] [(6, bv false)] [] (orcL 3 [(9, bv (decide (a2 ≤ a1)))] [] h4 orcN) ?_
    exact J_r1 rfl

noncomputable def c65 : Code := (Tryd.f65.body).getD .skip

theorem impl_VersionFault.ok (a1 : Version) : Ok Tryd.prog 65 [.ag (Version.enc a1)] [] ((impl_VersionFault a1).map fun r => (iv r, [])) := by
  refine Ok_of3 c65 Tryd.f65 0 19 (fun q => ?_)
  unfold impl_VersionFault
  refine J_g 2 [(0, 0)] [(1, pp 0)] [(0, .box (Version.enc a1))] orcN ?_
  refine J_bind (fun x2 h3 => ?_)
  refine J_join (atI c65 13) (fun v10 : Bool => St.mk' [(18, bv v10)] []) (fun v10 => ?_) (fun jv10 => ?_)
  · refine J_if2 18 (fun h11 => ?_) (fun h11 => ?_)
    · refine J_g 52 [] [(2, iv 3)] [] orcN ?_
      exact J_r1 rfl
    · refine J_g 14 [] [(2, iv 0)] [] orcN ?_
      exact J_r1 rfl
  · refine J_ite (fun h4 => ?_) (fun h4 => ?_)
    · refine J_g 12 [] [(18, bv true)] [] (orcC 2 (x_c0 [(.tmp 4), (.const (.int .i64 0)), (.const (.int .i64 999))] [2, 2, 2] (impl_within.ok a1.A 0 999) h3) (orcL 4 [(6, bv (!x2))] [] h4 orcN)) ?_
      exact J_qw (J_j (jv10 true)) rfl
    · refine J_bind (fun x5 h6 => ?_)
      refine J_ite (fun h7 => ?_) (fun h7 => ?_)
      · refine J_g 12 [] [(18, bv true)] [] (orcC 2 (x_c0 [(.tmp 4), (.const (.int .i64 0)), (.const (.int .i64 999))] [2, 2, 2] (impl_within.ok a1.A 0 999) h3) (orcL 4 [(6, bv (!x2))] [] h4 (orcH 7 4 7 false (x_c0 [(.tmp 9), (.const (.int .i64 0)), (.const (.int .i64 999))] [2, 2, 2] (impl_within.ok a1.B 0 999) h6) (orcL 10 [(12, bv (!x5))] [] h7 orcN)))) ?_
        exact J_qw (J_j (jv10 true)) rfl
      · refine J_bind (fun x8 h9 => ?_)
        refine J_g 12 [] [(18, bv (!x8))] [] (orcC 2 (x_c0 [(.tmp 4), (.const (.int .i64 0)), (.const (.int .i64 999))] [2, 2, 2] (impl_within.ok a1.A 0 999) h3) (orcL 4 [(6, bv (!x2))] [] h4 (orcH 7 4 7 false (x_c0 [(.tmp 9), (.const (.int .i64 0)), (.const (.int .i64 999))] [2, 2, 2] (impl_within.ok a1.B 0 999) h6) (orcL 10 [(12, bv (!x5))] [] h7 (orcH 13 10 13 false (x_c0 [(.tmp 15), (.const (.int .i64 0)), (.const (.int .i64 999))] [2, 2, 2] (impl_within.ok a1.C 0 999) h9) orcN))))) ?_
        exact J_qw (J_j (jv10 (!x8))) rfl

noncomputable def c63 : Code := (Tryd.f63.body).getD .skip

theorem impl_firstCode_l1.ok (a1 : (List Int)) (q : Wd) (kn : Unit → Option (D × List Ent)) (hk : ∀ v : Unit, J (q.g Tryd.prog 63 0 15) c63 (atI c63 7) (St.mk' [] []) (some v) kn) :
    ∀ s6 : Int, J (q.g Tryd.prog 63 0 15) c63 (atI c63 52) (St.mk' [(5, sl 1 eI64 a1), (6, iv (a1.length : Int)), (7, iv s6)] []) (impl_firstCode_l1 a1 s6) (Fl.go (fun r : Int => some (iv r, [])) kn) := by
  refine J_lp (fun g ih s6 => ?_)
  unfold impl_firstCode_l1b
  refine J_g 104 [] [(5, sl 1 eI64 a1), (6, iv (a1.length : Int)), (7, iv s6), (8, bv (decide (s6 < (a1.length : Int))))] [] orcN ?_
  refine J_if2 8 (fun h7 => ?_) (fun h7 => ?_)
  · refine J_bind (fun x8 h9 => ?_)
    refine J_g 1688 [] [(4, iv x8), (5, sl 1 eI64 a1), (6, iv (a1.length : Int)), (7, iv s6)] [] (orcC 0 (x_ix (kk := .i64) 114 2 1 eI64 (.tmp 5) (.tmp 7) h9) orcN) ?_
    refine J_g 3378 [] [(4, iv x8), (5, sl 1 eI64 a1), (6, iv (a1.length : Int)), (7, iv s6), (12, bv (x8 != 0))] [] orcN ?_
    refine J_if2 12 (fun h10 => ?_) (fun h10 => ?_)
    · refine J_g 13516 [] [(2, iv x8)] [] orcN ?_
      exact J_r1 rfl
    · refine J_g 423 [] [(5, sl 1 eI64 a1), (6, iv (a1.length : Int)), (7, iv (w64 (s6 + 1)))] [] orcN ?_
      exact J_q (J_b (ih (w64 (s6 + 1)))) rfl
  · exact J_qw (hk ()) rfl

theorem impl_firstCode.ok (a1 : (List Int)) : Ok Tryd.prog 63 [sl 1 eI64 a1] [] ((impl_firstCode a1).map fun r => (iv r, [])) := by
  refine Ok_of3 c63 Tryd.f63 0 15 (fun q => ?_)
  unfold impl_firstCode
  refine J_g 2 [] [(0, sl 1 eI64 a1)] [] orcN ?_
  refine J_g 12 [] [(5, sl 1 eI64 a1), (6, iv (a1.length : Int)), (7, iv 0)] [] orcN ?_
  refine J_lqF (K0 := (fun r : Int => some (iv r, []))) (fun _ => rfl) (impl_firstCode_l1.ok a1 q _ (fun v11 => J_j ?_) 0)
  refine J_g 14 [] [(2, iv 0)] [] orcN ?_
  exact J_r1 rfl

noncomputable def c67 : Code := (Tryd.f67.body).getD .skip

theorem impl_PackFault_1.ok (a1 : (List Term)) : Ok Tryd.prog 67 [sl 7 Term.enc a1] [] ((impl_PackFault_1 a1).map fun r => (bv r, [])) := by
  refine Ok_of3 c67 Tryd.f67 0 6 (fun q => ?_)
  unfold impl_PackFault_1
  refine J_g 2 [] [(0, sl 7 Term.enc a1)] [] orcN ?_
  refine J_g 6 [] [(2, bv (decide ((a1.length : Int) > 4)))] [] orcN ?_
  exact J_r1 rfl

noncomputable def c88 : Code := (Tryd.f88.body).getD .skip

theorem slices_IndexFunc_LLimplTerm_impl_PackFault_1_l1.ok (a1 : (List (List Term))) (q : Wd) (kn : Unit → Option (D × List Ent)) (hk : ∀ v : Unit, J (q.g Tryd.prog 88 0 19) c88 (atI c88 7) (St.mk' [] []) (some v) kn) :
    ∀ s8 : Int, J (q.g Tryd.prog 88 0 19) c88 (atI c88 52) (St.mk' [(0, sl 1 (eSl false 7 Term.enc) a1), (1, .fn 67 []), (7, iv (a1.length : Int)), (8, iv s8)] []) (slices_IndexFunc_LLimplTerm_impl_PackFault_1_l1 a1 s8) (Fl.go (fun r : Int => some (iv r, [])) kn) := by
  refine J_lp (fun g ih s8 => ?_)
  unfold slices_IndexFunc_LLimplTerm_impl_PackFault_1_l1b
  refine J_g 104 [] [(0, sl 1 (eSl false 7 Term.enc) a1), (1, .fn 67 []), (7, iv (a1.length : Int)), (8, iv s8), (9, bv (decide (s8 < (a1.length : Int))))] [] orcN ?_
  refine J_if2 9 (fun h9 => ?_) (fun h9 => ?_)
  · refine J_g 1688 [] [(0, sl 1 (eSl false 7 Term.enc) a1), (1, .fn 67 []), (5, iv s8), (7, iv (a1.length : Int)), (8, iv s8)] [] orcN ?_
    refine J_bind (fun x10 h11 => ?_)
    refine J_bind (fun x12 h13 => ?_)
    refine J_g 3378 [] [(0, sl 1 (eSl false 7 Term.enc) a1), (1, .fn 67 []), (5, iv s8), (7, iv (a1.length : Int)), (8, iv s8), (16, bv x12)] [] (orcC 3 (x_ix (kk := .i64) 40 27 1 (eSl false 7 Term.enc) (.tmp 12) (.tmp 13) h11) (orcC 5 (x_c0v («as» := [sl 7 Term.enc x10]) (caps := []) 11 [(.tmp 15)] [27] (impl_PackFault_1.ok x10) h13) orcN)) ?_
    refine J_if2 16 (fun h14 => ?_) (fun h14 => ?_)
    · refine J_g 13516 [] [(4, iv s8)] [] orcN ?_
      exact J_r1 rfl
    · refine J_g 423 [] [(0, sl 1 (eSl false 7 Term.enc) a1), (1, .fn 67 []), (7, iv (a1.length : Int)), (8, iv (w64 (s8 + 1)))] [] orcN ?_
      exact J_q (J_b (ih (w64 (s8 + 1)))) rfl
  · exact J_qw (hk ()) rfl

theorem slices_IndexFunc_LLimplTerm_impl_PackFault_1.ok (a1 : (List (List Term))) : Ok Tryd.prog 88 [sl 1 (eSl false 7 Term.enc) a1, .fn 67 []] [] ((slices_IndexFunc_LLimplTerm_impl_PackFault_1 a1).map fun r => (iv r, [])) := by
  refine Ok_of3 c88 Tryd.f88 0 19 (fun q => ?_)
  unfold slices_IndexFunc_LLimplTerm_impl_PackFault_1
  refine J_g 2 [] [(0, sl 1 (eSl false 7 Term.enc) a1), (1, .fn 67 [])] [] orcN ?_
  refine J_g 12 [] [(0, sl 1 (eSl false 7 Term.enc) a1), (1, .fn 67 []), (7, iv (a1.length : Int)), (8, iv 0)] [] orcN ?_
  refine J_lqF (K0 := (fun r : Int => some (iv r, []))) (fun _ => rfl) (slices_IndexFunc_LLimplTerm_impl_PackFault_1_l1.ok a1 q _ (fun v15 => J_j ?_) 0)
  refine J_g 14 [] [(4, iv (-1))] [] orcN ?_
  exact J_r1 rfl

noncomputable def c66 : Code := (Tryd.f66.body).getD .skip

theorem slices_ContainsFunc_LLimplTerm_impl_PackFault_1.ok (a1 : (List (List Term))) : Ok Tryd.prog 66 [sl 1 (eSl false 7 Term.enc) a1, .fn 67 []] [] ((slices_ContainsFunc_LLimplTerm_impl_PackFault_1 a1).map fun r => (bv r, [])) := by
  refine Ok_of3 c66 Tryd.f66 0 9 (fun q => ?_)
  unfold slices_ContainsFunc_LLimplTerm_impl_PackFault_1
  refine J_g 2 [] [(0, sl 1 (eSl false 7 Term.enc) a1), (1, .fn 67 [])] [] orcN ?_
  refine J_bind (fun x2 h3 => ?_)
  refine J_g 6 [] [(4, bv (decide (x2 ≥ 0)))] [] (orcC 2 (x_c1 («as» := [sl 1 (eSl false 7 Term.enc) a1, .fn 67 []]) [(.tmp 5), (.tmp 6)] [40, 89] false [] [] (.cons (.same rfl) (.cons (.fn (.nil)) (.nil))) (slices_IndexFunc_LLimplTerm_impl_PackFault_1.ok a1) h3 (.same rfl rfl)) orcN) ?_
  exact J_r1 rfl

noncomputable def c89 : Code := (Tryd.f89.body).getD .skip

theorem slices_Index_Lstring_l1.ok (a1 : (List ByteArray)) (a2 : ByteArray) (q : Wd) (kn : Unit → Option (D × List Ent)) (hk : ∀ v : Unit, J (q.g Tryd.prog 89 0 19) c89 (atI c89 7) (St.mk' [] []) (some v) kn) :
    ∀ s7 : Int, J (q.g Tryd.prog 89 0 19) c89 (atI c89 52) (St.mk' [(0, sl 1 eStr a1), (1, sv a2), (7, iv (a1.length : Int)), (8, iv s7)] []) (slices_Index_Lstring_l1 a1 a2 s7) (Fl.go (fun r : Int => some (iv r, [])) kn) := by
  refine J_lp (fun g ih s7 => ?_)
  unfold slices_Index_Lstring_l1b
  refine J_g 104 [] [(0, sl 1 eStr a1), (1, sv a2), (7, iv (a1.length : Int)), (8, iv s7), (9, bv (decide (s7 < (a1.length : Int))))] [] orcN ?_
  refine J_if2 9 (fun h8 => ?_) (fun h8 => ?_)
  · refine J_g 1688 [] [(0, sl 1 eStr a1), (1, sv a2), (5, iv s7), (7, iv (a1.length : Int)), (8, iv s7)] [] orcN ?_
    refine J_bind (fun x9 h10 => ?_)
    refine J_g 3378 [] [(0, sl 1 eStr a1), (1, sv a2), (5, iv s7), (7, iv (a1.length : Int)), (8, iv s7), (16, bv (seq a2 x9))] [] (orcC 3 (x_ix (kk := .i64) 33 9 1 eStr (.tmp 12) (.tmp 13) h10) orcN) ?_
    refine J_if2 16 (fun h11 => ?_) (fun h11 => ?_)
    · refine J_g 13516 [] [(4, iv s7)] [] orcN ?_
      exact J_r1 rfl
    · refine J_g 423 [] [(0, sl 1 eStr a1), (1, sv a2), (7, iv (a1.length : Int)), (8, iv (w64 (s7 + 1)))] [] orcN ?_
      exact J_q (J_b (ih (w64 (s7 + 1)))) rfl
  · exact J_qw (hk ()) rfl

theorem slices_Index_Lstring.ok (a1 : (List ByteArray)) (a2 : ByteArray) : Ok Tryd.prog 89 [sl 1 eStr a1, sv a2] [] ((slices_Index_Lstring a1 a2).map fun r => (iv r, [])) := by
  refine Ok_of3 c89 Tryd.f89 0 19 (fun q => ?_)
  unfold slices_Index_Lstring
  refine J_g 2 [] [(0, sl 1 eStr a1), (1, sv a2)] [] orcN ?_
  refine J_g 12 [] [(0, sl 1 eStr a1), (1, sv a2), (7, iv (a1.length : Int)), (8, iv 0)] [] orcN ?_
  refine J_lqF (K0 := (fun r : Int => some (iv r, []))) (fun _ => rfl) (slices_Index_Lstring_l1.ok a1 a2 q _ (fun v12 => J_j ?_) 0)
  refine J_g 14 [] [(4, iv (-1))] [] orcN ?_
  exact J_r1 rfl

noncomputable def c68 : Code := (Tryd.f68.body).getD .skip

theorem slices_Contains_Lstring.ok (a1 : (List ByteArray)) (a2 : ByteArray) : Ok Tryd.prog 68 [sl 1 eStr a1, sv a2] [] ((slices_Contains_Lstring a1 a2).map fun r => (bv r, [])) := by
  refine Ok_of3 c68 Tryd.f68 0 9 (fun q => ?_)
  unfold slices_Contains_Lstring
  refine J_g 2 [] [(0, sl 1 eStr a1), (1, sv a2)] [] orcN ?_
  refine J_bind (fun x3 h4 => ?_)
  refine J_g 6 [] [(4, bv (decide (x3 ≥ 0)))] [] (orcC 2 (x_c0 [(.tmp 5), (.tmp 6)] [33, 9] (slices_Index_Lstring.ok a1 a2) h4) orcN) ?_
  exact J_r1 rfl

noncomputable def c58 : Code := (Tryd.f58.body).getD .skip

theorem impl_top.ok  : Ok Tryd.prog 58 [] [] ((impl_top).map fun r => (.ag (Version.enc r), [])) := by
  refine Ok_of3 c58 Tryd.f58 0 2 (fun q => ?_)
  unfold impl_top
  refine J_g 2 [(0, 0)] [(0, pp 0)] [(0, .box [iv 0, iv 0, iv 0])] orcN ?_
  refine J_g 6 [] [(0, pp 0)] [(0, .box [iv 1000, iv 0, iv 0])] orcN ?_
  exact J_r1 rfl

noncomputable def c118 : Code := (Tryd.f118.body).getD .skip

theorem cmp_isNaN_int64.ok (a1 : Int) : Ok Tryd.prog 118 [iv a1] [] ((cmp_isNaN_int64 a1).map fun r => (bv r, [])) := by
  refine Ok_of3 c118 Tryd.f118 0 6 (fun q => ?_)
  unfold cmp_isNaN_int64
  refine J_g 2 [] [(0, iv a1)] [] orcN ?_
  refine J_g 6 [] [(2, bv (a1 != a1))] [] orcN ?_
  exact J_r1 rfl

noncomputable def c107 : Code := (Tryd.f107.body).getD .skip

theorem cmp_Compare_int64.ok (a1 : Int) (a2 : Int) : Ok Tryd.prog 107 [iv a1, iv a2] [] ((cmp_Compare_int64 a1 a2).map fun r => (iv r, [])) := by
  refine Ok_of3 c107 Tryd.f107 0 20 (fun q => ?_)
  unfold cmp_Compare_int64
  refine J_g 2 [] [(0, iv a1), (1, iv a2)] [] orcN ?_
  refine J_bind (fun x3 h4 => ?_)
  refine J_g 6 [] [(0, iv a1), (1, iv a2), (5, bv x3)] [] (orcC 1 (x_c0 [(.tmp 7)] [2] (cmp_isNaN_int64.ok a1) h4) orcN) ?_
  refine J_bind (fun x5 h6 => ?_)
  refine J_g 14 [] [(0, iv a1), (1, iv a2), (5, bv x3), (6, bv x5)] [] (orcC 1 (x_c0 [(.tmp 9)] [2] (cmp_isNaN_int64.ok a2) h6) orcN) ?_
  refine J_g 60 [] [(0, iv a1), (1, iv a2), (6, bv x5), (11, bv x3)] [] orcN ?_
  refine J_if2 11 (fun h7 => ?_) (fun h7 => ?_)
  · refine J_g 488 [] [(12, bv x5)] [] orcN ?_
    refine J_if2 12 (fun h8 => ?_) (fun h8 => ?_)
    · refine J_g 1956 [] [(4, iv 0)] [] orcN ?_
      exact J_r1 rfl
    · refine J_g 490 [] [(4, iv (-1))] [] orcN ?_
      exact J_r1 rfl
  · refine J_g 124 [] [(0, iv a1), (1, iv a2), (13, bv x5)] [] orcN ?_
    refine J_if2 13 (fun h9 => ?_) (fun h9 => ?_)
    · refine J_g 500 [] [(4, iv 1)] [] orcN ?_
      exact J_r1 rfl
    · refine J_g 252 [] [(0, iv a1), (1, iv a2), (16, bv (decide (a1 < a2)))] [] orcN ?_
      refine J_if2 16 (fun h10 => ?_) (fun h10 => ?_)
      · refine J_g 1012 [] [(4, iv (-1))] [] orcN ?_
        exact J_r1 rfl
      · refine J_g 508 [] [(19, bv (decide (a1 > a2)))] [] orcN ?_
        refine J_if2 19 (fun h11 => ?_) (fun h11 => ?_)
        · refine J_g 2036 [] [(4, iv 1)] [] orcN ?_
          exact J_r1 rfl
        · refine J_g 510 [] [(4, iv 0)] [] orcN ?_
          exact J_r1 rfl

noncomputable def c106 : Code := (Tryd.f106.body).getD .skip

theorem cmp_Or_int_l1.ok (a1 : (List Int)) (q : Wd) (kn : Unit → Option (D × List Ent)) (hk : ∀ v : Unit, J (q.g Tryd.prog 106 0 18) c106 (atI c106 15) (St.mk' [(3, iv 0)] []) (some v) kn) :
    ∀ s6 : Int, J (q.g Tryd.prog 106 0 18) c106 (atI c106 116) (St.mk' [(3, iv 0), (6, sl 1 eI64 a1), (7, iv (a1.length : Int)), (8, iv s6)] []) (cmp_Or_int_l1 a1 s6) (Fl.go (fun r : Int => some (iv r, [])) kn) := by
  refine J_lp (fun g ih s6 => ?_)
  unfold cmp_Or_int_l1b
  refine J_g 232 [] [(3, iv 0), (6, sl 1 eI64 a1), (7, iv (a1.length : Int)), (8, iv s6), (9, bv (decide (s6 < (a1.length : Int))))] [] orcN ?_
  refine J_if2 9 (fun h7 => ?_) (fun h7 => ?_)
  · refine J_bind (fun x8 h9 => ?_)
    refine J_g 3736 [] [(3, iv 0), (5, iv x8), (6, sl 1 eI64 a1), (7, iv (a1.length : Int)), (8, iv s6)] [] (orcC 0 (x_ix (kk := .i64) 143 3 1 eI64 (.tmp 6) (.tmp 8) h9) orcN) ?_
    refine J_g 7474 [] [(3, iv 0), (5, iv x8), (6, sl 1 eI64 a1), (7, iv (a1.length : Int)), (8, iv s6), (14, bv (x8 != 0))] [] orcN ?_
    refine J_if2 14 (fun h10 => ?_) (fun h10 => ?_)
    · refine J_g 29900 [] [(2, iv x8)] [] orcN ?_
      exact J_r1 rfl
    · refine J_g 935 [] [(3, iv 0), (6, sl 1 eI64 a1), (7, iv (a1.length : Int)), (8, iv (w64 (s6 + 1)))] [] orcN ?_
      exact J_q (J_b (ih (w64 (s6 + 1)))) rfl
  · exact J_qw (hk ()) rfl

theorem cmp_Or_int.ok (a1 : (List Int)) : Ok Tryd.prog 106 [sl 1 eI64 a1] [] ((cmp_Or_int a1).map fun r => (iv r, [])) := by
  refine Ok_of3 c106 Tryd.f106 0 18 (fun q => ?_)
  unfold cmp_Or_int
  refine J_g 2 [] [(0, sl 1 eI64 a1)] [] orcN ?_
  refine J_g 6 [] [(0, sl 1 eI64 a1), (3, iv 0)] [] orcN ?_
  refine J_g 28 [] [(3, iv 0), (6, sl 1 eI64 a1), (7, iv (a1.length : Int)), (8, iv 0)] [] orcN ?_
  refine J_lqF (K0 := (fun r : Int => some (iv r, []))) (fun _ => rfl) (cmp_Or_int_l1.ok a1 q _ (fun v11 => J_j ?_) 0)
  refine J_g 30 [] [(2, iv 0)] [] orcN ?_
  exact J_r1 rfl

noncomputable def c84 : Code := (Tryd.f84.body).getD .skip

theorem impl_compare.ok (a1 : Version) (a2 : Version) : Ok Tryd.prog 84 [.ag (Version.enc a1), .ag (Version.enc a2)] [] ((impl_compare a1 a2).map fun r => (iv r, [])) := by
  refine Ok_of3 c84 Tryd.f84 0 22 (fun q => ?_)
  unfold impl_compare
  refine J_g 2 [(0, 0), (1, 1)] [(2, pp 0), (3, pp 1)] [(0, .box (Version.enc a1)), (1, .box (Version.enc a2))] orcN ?_
  refine J_bind (fun x3 h4 => ?_)
  refine J_bind (fun x5 h6 => ?_)
  refine J_bind (fun x7 h8 => ?_)
  refine J_bind (fun x9 h10 => ?_)
  refine J_g 6 [] [(4, iv x9)] [] (orcC 4 (x_c0 [(.tmp 6), (.tmp 8)] [2, 2] (cmp_Compare_int64.ok a1.A a2.A) h4) (orcC 9 (x_c0 [(.tmp 11), (.tmp 13)] [2, 2] (cmp_Compare_int64.ok a1.B a2.B) h6) (orcC 14 (x_c0 [(.tmp 16), (.tmp 18)] [2, 2] (cmp_Compare_int64.ok a1.C a2.C) h8) (orcC 15 (x_bp 143 3 1 2 eI64 [x3, x5, x7] [0, 1, 2] [(.tmp 9), (.tmp 14), (.tmp 19)] [iv x3, iv x5, iv x7]) (orcC 16 (x_c1 («as» := [rr 2 [x3, x5, x7]]) [(.tmp 20)] [143] true [(2, rE 1 eI64 [x3, x5, x7])] [] (.cons (am_b (.head _) (fun _ => rfl) rfl) (.nil)) (cmp_Or_int.ok [x3, x5, x7]) h10 (.same rfl rfl) (hbor := fun _ => ⟨rfl, flat_sc⟩)) orcN))))) ?_
  exact J_r1 rfl

noncomputable def c56 : Code := (Tryd.f56.body).getD .skip

theorem impl_TermFault.ok (a1 : Term) : Ok Tryd.prog 56 [.ag (Term.enc a1)] [] ((impl_TermFault a1).map fun r => (iv r, [])) := by
  refine Ok_of3 c56 Tryd.f56 0 35 (fun q => ?_)
  unfold impl_TermFault
  refine J_g 2 [(0, 0)] [(1, pp 0)] [(0, .box (Term.enc a1))] orcN ?_
  refine J_bind (fun x2 h3 => ?_)
  refine J_g 12 [] [(1, pp 0), (3, iv x2)] [(0, .box (Term.enc a1))] (orcC 2 (x_c0 [(.tmp 6)] [9] (impl_NameFault.ok a1.Name) h3) orcN) ?_
  refine J_g 26 [] [(1, pp 0), (3, iv x2), (9, bv (x2 != 0))] [(0, .box (Term.enc a1))] orcN ?_
  refine J_if2 9 (fun h4 => ?_) (fun h4 => ?_)
  · refine J_g 108 [] [(2, iv x2)] [] orcN ?_
    exact J_r1 rfl
  · refine J_bind (fun x5 h6 => ?_)
    refine J_g 28 [] [(1, pp 0), (4, iv x5)] [(0, .box (Term.enc a1))] (orcC 2 (x_c0 [(.tmp 12)] [39] (impl_VersionFault.ok a1.Low) h6) orcN) ?_
    refine J_g 58 [] [(1, pp 0), (4, iv x5), (15, bv (x5 != 0))] [(0, .box (Term.enc a1))] orcN ?_
    refine J_if2 15 (fun h7 => ?_) (fun h7 => ?_)
    · refine J_g 236 [] [(2, iv x5)] [] orcN ?_
      exact J_r1 rfl
    · refine J_bind (fun x8 h9 => ?_)
      refine J_join (atI c56 121) (fun v13 : Bool => St.mk' [(1, pp 0), (17, bv v13)] [(0, .box (Term.enc a1))]) (fun v13 => ?_) (fun jv13 => ?_)
      · refine J_if2 17 (fun h14 => ?_) (fun h14 => ?_)
        · refine J_g 484 [] [(2, iv 3)] [] orcN ?_
          exact J_r1 rfl
        · refine J_bind (fun x15 h16 => ?_)
          refine J_g 486 [] [(28, bv (decide (x15 ≥ 0)))] [] (orcC 4 (x_c0 [(.tmp 30), (.tmp 32)] [39, 39] (impl_compare.ok a1.Low a1.High) h16) orcN) ?_
          refine J_if2 28 (fun h17 => ?_) (fun h17 => ?_)
          · refine J_g 1948 [] [(2, iv 1)] [] orcN ?_
            exact J_r1 rfl
          · refine J_g 62 [] [(2, iv 0)] [] orcN ?_
            exact J_r1 rfl
      · refine J_ite (fun h10 => ?_) (fun h10 => ?_)
        · refine J_bind (fun x11 h12 => ?_)
          refine J_g 120 [] [(1, pp 0), (17, bv (x11 != 0))] [(0, .box (Term.enc a1))] (orcC 2 (x_c0 [] [] (impl_top.ok) h9) (orcC 3 (x_seq (b := .neq) (r := (a1.High.A == x8.A && (a1.High.B == x8.B && (a1.High.C == x8.C && true)))) 39 39 (.tmp 19) (.tmp 20) [.int .i64 a1.High.A, .int .i64 a1.High.B, .int .i64 a1.High.C] [.int .i64 x8.A, .int .i64 x8.B, .int .i64 x8.C] (.inr ⟨rfl, rfl⟩)) (orcL 4 [(21, bv (!(a1.High.A == x8.A && (a1.High.B == x8.B && (a1.High.C == x8.C && true)))))] [] h10 (orcH 7 4 22 true (x_c0 [(.tmp 24)] [39] (impl_VersionFault.ok a1.High) h12) orcN)))) ?_
          exact J_qw (J_j (jv13 (x11 != 0))) rfl
        · refine J_g 120 [] [(1, pp 0), (17, bv false)] [(0, .box (Term.enc a1))] (orcC 2 (x_c0 [] [] (impl_top.ok) h9) (orcC 3 (x_seq (b := .neq) (r := (a1.High.A == x8.A && (a1.High.B == x8.B && (a1.High.C == x8.C && true)))) 39 39 (.tmp 19) (.tmp 20) [.int .i64 a1.High.A, .int .i64 a1.High.B, .int .i64 a1.High.C] [.int .i64 x8.A, .int .i64 x8.B, .int .i64 x8.C] (.inr ⟨rfl, rfl⟩)) (orcL 4 [(21, bv (!(a1.High.A == x8.A && (a1.High.B == x8.B && (a1.High.C == x8.C && true)))))] [] h10 orcN))) ?_
          exact J_qw (J_j (jv13 false)) rfl

noncomputable def c32 : Code := (Tryd.f32.body).getD .skip

theorem impl_termsFault_l1.ok (a1 : (List Term)) (q : Wd) (kn : Unit → Option (D × List Ent)) (hk : ∀ v : Unit, J (q.g Tryd.prog 32 0 18) c32 (atI c32 7) (St.mk' [] []) (some v) kn) :
    ∀ s8 : Int, J (q.g Tryd.prog 32 0 18) c32 (atI c32 52) (St.mk' [(6, sl 7 Term.enc a1), (7, iv (a1.length : Int)), (8, iv s8)] []) (impl_termsFault_l1 a1 s8) (Fl.go (fun r : Int => some (iv r, [])) kn) := by
  refine J_lp (fun g ih s8 => ?_)
  unfold impl_termsFault_l1b
  refine J_g 104 [] [(6, sl 7 Term.enc a1), (7, iv (a1.length : Int)), (8, iv s8), (9, bv (decide (s8 < (a1.length : Int))))] [] orcN ?_
  refine J_if2 9 (fun h9 => ?_) (fun h9 => ?_)
  · refine J_bind (fun x10 h11 => ?_)
    refine J_g 1688 [(2, 0)] [(4, pp 0), (6, sl 7 Term.enc a1), (7, iv (a1.length : Int)), (8, iv s8)] [(0, .box (Term.enc x10))] (orcC 0 (x_ix (kk := .i64) 27 60 7 Term.enc (.tmp 6) (.tmp 8) h11) orcN) ?_
    refine J_bind (fun x12 h13 => ?_)
    refine J_g 3378 [] [(5, iv x12), (6, sl 7 Term.enc a1), (7, iv (a1.length : Int)), (8, iv s8)] [] (orcC 1 (x_c0 [(.tmp 12)] [60] (impl_TermFault.ok x10) h13) orcN) ?_
    refine J_g 6758 [] [(5, iv x12), (6, sl 7 Term.enc a1), (7, iv (a1.length : Int)), (8, iv s8), (15, bv (x12 != 0))] [] orcN ?_
    refine J_if2 15 (fun h14 => ?_) (fun h14 => ?_)
    · refine J_g 27036 [] [(2, iv x12)] [] orcN ?_
      exact J_r1 rfl
    · refine J_g 423 [] [(6, sl 7 Term.enc a1), (7, iv (a1.length : Int)), (8, iv (w64 (s8 + 1)))] [] orcN ?_
      exact J_q (J_b (ih (w64 (s8 + 1)))) rfl
  · exact J_qw (hk ()) rfl

theorem impl_termsFault.ok (a1 : (List Term)) : Ok Tryd.prog 32 [sl 7 Term.enc a1] [] ((impl_termsFault a1).map fun r => (iv r, [])) := by
  refine Ok_of3 c32 Tryd.f32 0 18 (fun q => ?_)
  unfold impl_termsFault
  refine J_g 2 [] [(0, sl 7 Term.enc a1)] [] orcN ?_
  refine J_g 12 [] [(6, sl 7 Term.enc a1), (7, iv (a1.length : Int)), (8, iv 0)] [] orcN ?_
  refine J_lqF (K0 := (fun r : Int => some (iv r, []))) (fun _ => rfl) (impl_termsFault_l1.ok a1 q _ (fun v15 => J_j ?_) 0)
  refine J_g 14 [] [(2, iv 0)] [] orcN ?_
  exact J_r1 rfl

noncomputable def c42 : Code := (Tryd.f42.body).getD .skip

theorem impl_PackFault_l2.ok (a1 : Pack) (q : Wd) (kn : Unit → Option (D × List Ent)) (hk : ∀ v : Unit, J (q.g Tryd.prog 42 0 93) c42 (atI c42 63) (St.mk' [(1, pp 0)] [(0, .box (Pack.enc false a1))]) (some v) kn) :
    ∀ s54 : Int, J (q.g Tryd.prog 42 0 93) c42 (atI c42 500) (St.mk' [(1, pp 0), (75, sl 1 (eSl false 7 Term.enc) a1.Needs), (76, iv (a1.Needs.length : Int)), (77, iv s54)] [(0, .box (Pack.enc false a1))]) (impl_PackFault_l2 a1 s54) (Fl.go (fun r : Int => some (iv r, [])) kn) := by
  refine J_lp (fun g ih s54 => ?_)
  unfold impl_PackFault_l2b
  refine J_g 1000 [] [(1, pp 0), (75, sl 1 (eSl false 7 Term.enc) a1.Needs), (76, iv (a1.Needs.length : Int)), (77, iv s54), (78, bv (decide (s54 < (a1.Needs.length : Int))))] [(0, .box (Pack.enc false a1))] orcN ?_
  refine J_if2 78 (fun h55 => ?_) (fun h55 => ?_)
  · refine J_bind (fun x56 h57 => ?_)
    refine J_g 16024 [] [(1, pp 0), (8, sl 7 Term.enc x56), (75, sl 1 (eSl false 7 Term.enc) a1.Needs), (76, iv (a1.Needs.length : Int)), (77, iv s54)] [(0, .box (Pack.enc false a1))] (orcC 0 (x_ix (kk := .i64) 40 27 1 (eSl false 7 Term.enc) (.tmp 75) (.tmp 77) h57) orcN) ?_
    refine J_g 64100 [] [(1, pp 0), (8, sl 7 Term.enc x56), (75, sl 1 (eSl false 7 Term.enc) a1.Needs), (76, iv (a1.Needs.length : Int)), (77, iv s54), (83, bv ((x56.length : Int) == 0))] [(0, .box (Pack.enc false a1))] orcN ?_
    refine J_if2 83 (fun h58 => ?_) (fun h58 => ?_)
    · refine J_g 256404 [] [(2, iv 1)] [] orcN ?_
      exact J_r1 rfl
    · refine J_bind (fun x59 h60 => ?_)
      refine J_g 64102 [] [(1, pp 0), (9, iv x59), (75, sl 1 (eSl false 7 Term.enc) a1.Needs), (76, iv (a1.Needs.length : Int)), (77, iv s54)] [(0, .box (Pack.enc false a1))] (orcC 1 (x_c0 [(.tmp 84)] [27] (impl_termsFault.ok x56) h60) orcN) ?_
      refine J_g 128206 [] [(1, pp 0), (9, iv x59), (75, sl 1 (eSl false 7 Term.enc) a1.Needs), (76, iv (a1.Needs.length : Int)), (77, iv s54), (87, bv (x59 != 0))] [(0, .box (Pack.enc false a1))] orcN ?_
      refine J_if2 87 (fun h61 => ?_) (fun h61 => ?_)
      · refine J_g 512828 [] [(2, iv x59)] [] orcN ?_
        exact J_r1 rfl
      · refine J_g 4007 [] [(1, pp 0), (75, sl 1 (eSl false 7 Term.enc) a1.Needs), (76, iv (a1.Needs.length : Int)), (77, iv (w64 (s54 + 1)))] [(0, .box (Pack.enc false a1))] orcN ?_
        exact J_q (J_b (ih (w64 (s54 + 1)))) rfl
  · exact J_qw (hk ()) rfl

theorem impl_PackFault_l1.ok (a1 : Pack) (q : Wd) (kn : Unit → Option (D × List Ent)) (hk : ∀ v : Unit, J (q.g Tryd.prog 42 0 93) c42 (atI c42 31) (St.mk' [(1, pp 0)] [(0, .box (Pack.enc false a1))]) (some v) kn) :
    ∀ s32 : Int, J (q.g Tryd.prog 42 0 93) c42 (atI c42 244) (St.mk' [(1, pp 0), (49, sl 1 eStr a1.Provides), (50, iv (a1.Provides.length : Int)), (51, iv s32)] [(0, .box (Pack.enc false a1))]) (impl_PackFault_l1 a1 s32) (Fl.go (fun r : Int => some (iv r, [])) kn) := by
  refine J_lp (fun g ih s32 => ?_)
  unfold impl_PackFault_l1b
  refine J_g 488 [] [(1, pp 0), (49, sl 1 eStr a1.Provides), (50, iv (a1.Provides.length : Int)), (51, iv s32), (52, bv (decide (s32 < (a1.Provides.length : Int))))] [(0, .box (Pack.enc false a1))] orcN ?_
  refine J_if2 52 (fun h33 => ?_) (fun h33 => ?_)
  · refine J_bind (fun x34 h35 => ?_)
    refine J_g 7832 [] [(1, pp 0), (4, iv s32), (5, sv x34), (49, sl 1 eStr a1.Provides), (50, iv (a1.Provides.length : Int)), (51, iv s32)] [(0, .box (Pack.enc false a1))] (orcC 1 (x_ix (kk := .i64) 33 9 1 eStr (.tmp 49) (.tmp 51) h35) orcN) ?_
    refine J_bind (fun x36 h37 => ?_)
    refine J_g 31332 [] [(1, pp 0), (4, iv s32), (5, sv x34), (6, iv x36), (49, sl 1 eStr a1.Provides), (50, iv (a1.Provides.length : Int)), (51, iv s32)] [(0, .box (Pack.enc false a1))] (orcC 1 (x_c0 [(.tmp 56)] [9] (impl_NameFault.ok x34) h37) orcN) ?_
    refine J_g 62666 [] [(1, pp 0), (4, iv s32), (5, sv x34), (6, iv x36), (49, sl 1 eStr a1.Provides), (50, iv (a1.Provides.length : Int)), (51, iv s32), (59, bv (x36 != 0))] [(0, .box (Pack.enc false a1))] orcN ?_
    refine J_if2 59 (fun h38 => ?_) (fun h38 => ?_)
    · refine J_g 250668 [] [(2, iv x36)] [] orcN ?_
      exact J_r1 rfl
    · refine J_join (atI c42 31335) (fun v44 : Bool => St.mk' [(1, pp 0), (49, sl 1 eStr a1.Provides), (50, iv (a1.Provides.length : Int)), (51, iv s32), (72, bv v44)] [(0, .box (Pack.enc false a1))]) (fun v44 => ?_) (fun jv44 => ?_)
      · refine J_if2 72 (fun h45 => ?_) (fun h45 => ?_)
        · refine J_g 125340 [] [(2, iv 6)] [] orcN ?_
          exact J_r1 rfl
        · refine J_g 1959 [] [(1, pp 0), (49, sl 1 eStr a1.Provides), (50, iv (a1.Provides.length : Int)), (51, iv (w64 (s32 + 1)))] [(0, .box (Pack.enc false a1))] orcN ?_
          exact J_q (J_b (ih (w64 (s32 + 1)))) rfl
      · refine J_ite (fun h39 => ?_) (fun h39 => ?_)
        · refine J_g 31334 [] [(1, pp 0), (49, sl 1 eStr a1.Provides), (50, iv (a1.Provides.length : Int)), (51, iv s32), (72, bv true)] [(0, .box (Pack.enc false a1))] (orcL 4 [(64, bv (seq x34 a1.Name))] [] h39 orcN) ?_
          exact J_qw (J_j (jv44 true)) rfl
        · refine J_bind (fun x40 h41 => ?_)
          refine J_bind (fun x42 h43 => ?_)
          refine J_g 31334 [] [(1, pp 0), (49, sl 1 eStr a1.Provides), (50, iv (a1.Provides.length : Int)), (51, iv s32), (72, bv x42)] [(0, .box (Pack.enc false a1))] (orcL 4 [(64, bv (seq x34 a1.Name))] [] h39 (orcH 8 4 65 false (x_ls 33 9 1 eStr (.tmp 67) none (some (.tmp 68)) h41) (orcH 10 4 65 false (x_c0 [(.tmp 69), (.tmp 70)] [33, 9] (slices_Contains_Lstring.ok x40 x34) h43) orcN))) ?_
          exact J_qw (J_j (jv44 x42)) rfl
  · exact J_qw (hk ()) rfl

theorem impl_PackFault.ok (a1 : Pack) : Ok Tryd.prog 42 [.ag (Pack.enc false a1)] [] ((impl_PackFault a1).map fun r => (iv r, [])) := by
  refine Ok_of3 c42 Tryd.f42 0 93 (fun q => ?_)
  unfold impl_PackFault
  refine J_g 2 [(0, 0)] [(1, pp 0)] [(0, .box (Pack.enc false a1))] orcN ?_
  refine J_bind (fun x2 h3 => ?_)
  refine J_bind (fun x4 h5 => ?_)
  refine J_bind (fun x6 h7 => ?_)
  refine J_g 12 [] [(1, pp 0), (3, iv x6)] [(0, .box (Pack.enc false a1))] (orcC 2 (x_c0 [(.tmp 11)] [9] (impl_NameFault.ok a1.Name) h3) (orcC 5 (x_c0 [(.tmp 14)] [39] (impl_VersionFault.ok a1.Version) h5) (orcC 6 (x_bp 114 2 1 1 eI64 [x2, x4] [0, 1] [(.tmp 12), (.tmp 15)] [iv x2, iv x4]) (orcC 7 (x_c1 («as» := [rr 1 [x2, x4]]) [(.tmp 16)] [114] true [(1, rE 1 eI64 [x2, x4])] [] (.cons (am_b (.head _) (fun _ => rfl) rfl) (.nil)) (impl_firstCode.ok [x2, x4]) h7 (.same rfl rfl) (hbor := fun _ => ⟨rfl, flat_sc⟩)) orcN)))) ?_
  refine J_g 26 [] [(1, pp 0), (3, iv x6), (19, bv (x6 != 0))] [(0, .box (Pack.enc false a1))] orcN ?_
  refine J_if2 19 (fun h8 => ?_) (fun h8 => ?_)
  · refine J_g 108 [] [(2, iv x6)] [] orcN ?_
    exact J_r1 rfl
  · refine J_bind (fun x9 h10 => ?_)
    refine J_g 56 [] [(1, pp 0), (21, bv (!x9))] [(0, .box (Pack.enc false a1))] (orcC 2 (x_c0 [(.tmp 23), (.const (.int .i64 1)), (.const (.int .i64 200))] [2, 2, 2] (impl_within.ok a1.Size 1 200) h10) orcN) ?_
    refine J_if2 21 (fun h11 => ?_) (fun h11 => ?_)
    · refine J_g 228 [] [(2, iv 3)] [] orcN ?_
      exact J_r1 rfl
    · refine J_join (atI c42 231) (fun v17 : Bool => St.mk' [(1, pp 0), (26, bv v17)] [(0, .box (Pack.enc false a1))]) (fun v17 => ?_) (fun jv17 => ?_)
      · refine J_if2 26 (fun h18 => ?_) (fun h18 => ?_)
        · refine J_g 924 [] [(2, iv 2)] [] orcN ?_
          exact J_r1 rfl
        · refine J_g 60 [] [(1, pp 0), (49, sl 1 eStr a1.Provides), (50, iv (a1.Provides.length : Int)), (51, iv 0)] [(0, .box (Pack.enc false a1))] orcN ?_
          refine J_lqF (K0 := (fun r : Int => some (iv r, []))) (fun _ => rfl) (impl_PackFault_l1.ok a1 q _ (fun v46 => J_j ?_) 0)
          refine J_g 124 [] [(1, pp 0), (75, sl 1 (eSl false 7 Term.enc) a1.Needs), (76, iv (a1.Needs.length : Int)), (77, iv 0)] [(0, .box (Pack.enc false a1))] orcN ?_
          refine J_lqF (K0 := (fun r : Int => some (iv r, []))) (fun _ => rfl) (impl_PackFault_l2.ok a1 q _ (fun v62 => J_j ?_) 0)
          refine J_bind (fun x63 h64 => ?_)
          refine J_g 126 [] [(2, iv x63)] [] (orcC 2 (x_c0 [(.tmp 91)] [27] (impl_termsFault.ok a1.Bars) h64) orcN) ?_
          exact J_r1 rfl
      · refine J_ite (fun h12 => ?_) (fun h12 => ?_)
        · refine J_g 230 [] [(1, pp 0), (26, bv true)] [(0, .box (Pack.enc false a1))] (orcL 4 [(30, bv (decide ((a1.Provides.length : Int) > 4)))] [] h12 orcN) ?_
          exact J_qw (J_j (jv17 true)) rfl
        · refine J_ite (fun h13 => ?_) (fun h13 => ?_)
          · refine J_g 230 [] [(1, pp 0), (26, bv true)] [(0, .box (Pack.enc false a1))] (orcL 4 [(30, bv (decide ((a1.Provides.length : Int) > 4)))] [] h12 (orcL 10 [(36, bv (decide ((a1.Needs.length : Int) > 4)))] [] h13 orcN)) ?_
            exact J_qw (J_j (jv17 true)) rfl
          · refine J_ite (fun h14 => ?_) (fun h14 => ?_)
            · refine J_g 230 [] [(1, pp 0), (26, bv true)] [(0, .box (Pack.enc false a1))] (orcL 4 [(30, bv (decide ((a1.Provides.length : Int) > 4)))] [] h12 (orcL 10 [(36, bv (decide ((a1.Needs.length : Int) > 4)))] [] h13 (orcL 16 [(42, bv (decide ((a1.Bars.length : Int) > 4)))] [] h14 orcN))) ?_
              exact J_qw (J_j (jv17 true)) rfl
            · refine J_bind (fun x15 h16 => ?_)
              refine J_g 230 [] [(1, pp 0), (26, bv x15)] [(0, .box (Pack.enc false a1))] (orcL 4 [(30, bv (decide ((a1.Provides.length : Int) > 4)))] [] h12 (orcL 10 [(36, bv (decide ((a1.Needs.length : Int) > 4)))] [] h13 (orcL 16 [(42, bv (decide ((a1.Bars.length : Int) > 4)))] [] h14 (orcH 19 16 43 false (x_c1 («as» := [sl 1 (eSl false 7 Term.enc) a1.Needs, .fn 67 []]) [(.tmp 45), (.func 67)] [40, 89] false [] [] (.cons (.same rfl) (.cons (.fn (.nil)) (.nil))) (slices_ContainsFunc_LLimplTerm_impl_PackFault_1.ok a1.Needs) h16 (.same rfl rfl)) orcN)))) ?_
              exact J_qw (J_j (jv17 x15)) rfl

theorem strconv_FormatInt.ok (a1 a2 : Int) : Ok Tryd.prog 75 [iv a1, iv a2] [] ((strconv_FormatInt a1 a2).map fun r => (sv r, [])) := by
  unfold strconv_FormatInt
  split
  · rename_i h
    obtain ⟨rfl, h0, h1⟩ := h
    exact Ok_grow (vs := [.int .i64 a1, .int .i64 10]) (fun w hG => Tryd.strconv_FormatInt_10 a1 h0 h1 w (tabIs_of (g := 1) hG (by kernel_rfl) (by kernel_rfl)))
  · exact fun _ h => by cases h

noncomputable def c52 : Code := (Tryd.f52.body).getD .skip

theorem impl_dec.ok (a1 : Int) : Ok Tryd.prog 52 [iv a1] [] ((impl_dec a1).map fun r => (sv r, [])) := by
  refine Ok_of3 c52 Tryd.f52 0 5 (fun q => ?_)
  unfold impl_dec
  refine J_g 2 [] [(0, iv a1)] [] orcN ?_
  refine J_bind (fun x2 h3 => ?_)
  refine J_g 6 [] [(2, sv x2)] [] (orcC 1 (x_c0 [(.tmp 3), (.const (.int .i64 10))] [2, 3] (strconv_FormatInt.ok a1 10) h3) orcN) ?_
  exact J_r1 rfl

noncomputable def c57 : Code := (Tryd.f57.body).getD .skip

theorem impl_Version_text.ok (a1 : Version) : Ok Tryd.prog 57 [.ag (Version.enc a1)] [] ((impl_Version_text a1).map fun r => (sv r, [])) := by
  refine Ok_of3 c57 Tryd.f57 0 16 (fun q => ?_)
  unfold impl_Version_text
  refine J_g 2 [(0, 0)] [(1, pp 0)] [(0, .box (Version.enc a1))] orcN ?_
  refine J_bind (fun x2 h3 => ?_)
  refine J_bind (fun x4 h5 => ?_)
  refine J_bind (fun x6 h7 => ?_)
  refine J_bind (fun x8 h9 => ?_)
  refine J_bind (fun x10 h11 => ?_)
  refine J_bind (fun x12 h13 => ?_)
  refine J_bind (fun x14 h15 => ?_)
  refine J_g 6 [] [(2, sv x14)] [] (orcC 2 (x_c0 [(.tmp 4)] [2] (impl_dec.ok a1.A) h3) (orcC 3 (x_cat 9 9 (.tmp 5) (.const (.string (bs [46]))) h5) (orcC 6 (x_c0 [(.tmp 8)] [2] (impl_dec.ok a1.B) h7) (orcC 7 (x_cat 9 9 (.tmp 6) (.tmp 9) h9) (orcC 8 (x_cat 9 9 (.tmp 10) (.const (.string (bs [46]))) h11) (orcC 11 (x_c0 [(.tmp 13)] [2] (impl_dec.ok a1.C) h13) (orcC 12 (x_cat 9 9 (.tmp 11) (.tmp 14) h15) orcN))))))) ?_
  exact J_r1 rfl

noncomputable def c43 : Code := (Tryd.f43.body).getD .skip

theorem impl_Pack_path.ok (a1 : Pack) : Ok Tryd.prog 43 [.ag (Pack.enc false a1)] [] ((impl_Pack_path a1).map fun r => (sv r, [])) := by
  refine Ok_of3 c43 Tryd.f43 0 11 (fun q => ?_)
  unfold impl_Pack_path
  refine J_g 2 [(0, 0)] [(1, pp 0)] [(0, .box (Pack.enc false a1))] orcN ?_
  refine J_bind (fun x2 h3 => ?_)
  refine J_bind (fun x4 h5 => ?_)
  refine J_bind (fun x6 h7 => ?_)
  refine J_bind (fun x8 h9 => ?_)
  refine J_g 6 [] [(2, sv x8)] [] (orcC 2 (x_cat 9 9 (.const (.string (bs [112, 107, 103, 47]))) (.tmp 4) h3) (orcC 3 (x_cat 9 9 (.tmp 5) (.const (.string (bs [45]))) h5) (orcC 6 (x_c0 [(.tmp 8)] [39] (impl_Version_text.ok a1.Version) h7) (orcC 7 (x_cat 9 9 (.tmp 6) (.tmp 9) h9) orcN)))) ?_
  exact J_r1 rfl

noncomputable def c17 : Code := (Tryd.f17.body).getD .skip

theorem impl_PackPath.ok (a1 : Pack) : Ok Tryd.prog 17 [.ag (Pack.enc false a1)] [] ((impl_PackPath a1).map fun r => (sv r, [])) := by
  refine Ok_of3 c17 Tryd.f17 0 8 (fun q => ?_)
  unfold impl_PackPath
  refine J_g 2 [(0, 0)] [(1, pp 0)] [(0, .box (Pack.enc false a1))] orcN ?_
  refine J_bind (fun x2 h3 => ?_)
  refine J_g 12 [] [(1, pp 0), (5, bv (x2 != 0))] [(0, .box (Pack.enc false a1))] (orcC 1 (x_c0 [(.tmp 3)] [42] (impl_PackFault.ok a1) h3) orcN) ?_
  refine J_if2 5 (fun h4 => ?_) (fun h4 => ?_)
  · refine J_g 52 [] [(2, sv (bs []))] [] orcN ?_
    exact J_r1 rfl
  · refine J_bind (fun x5 h6 => ?_)
    refine J_g 14 [] [(2, sv x5)] [] (orcC 1 (x_c0 [(.tmp 6)] [42] (impl_Pack_path.ok a1) h6) orcN) ?_
    exact J_r1 rfl

noncomputable def c44 : Code := (Tryd.f44.body).getD .skip

theorem laws_eqVersion.ok (a1 : Version) (a2 : Version) : Ok Tryd.prog 44 [.ag (Version.enc a1), .ag (Version.enc a2)] [] ((laws_eqVersion a1 a2).map fun r => (bv r, [])) := by
  refine Ok_of3 c44 Tryd.f44 0 20 (fun q => ?_)
  unfold laws_eqVersion
  refine J_g 2 [(0, 0), (1, 1)] [(2, pp 0), (3, pp 1)] [(0, .box (Version.enc a1)), (1, .box (Version.enc a2))] orcN ?_
  refine J_g 12 [] [(2, pp 0), (3, pp 1), (9, bv (a1.A != a2.A))] [(0, .box (Version.enc a1)), (1, .box (Version.enc a2))] orcN ?_
  refine J_if2 9 (fun h3 => ?_) (fun h3 => ?_)
  · refine J_g 52 [] [(4, bv false)] [] orcN ?_
    exact J_r1 rfl
  · refine J_g 28 [] [(2, pp 0), (3, pp 1), (14, bv (a1.B != a2.B))] [(0, .box (Version.enc a1)), (1, .box (Version.enc a2))] orcN ?_
    refine J_if2 14 (fun h4 => ?_) (fun h4 => ?_)
    · refine J_g 116 [] [(4, bv false)] [] orcN ?_
      exact J_r1 rfl
    · refine J_g 60 [] [(19, bv (a1.C != a2.C))] [] orcN ?_
      refine J_if2 19 (fun h5 => ?_) (fun h5 => ?_)
      · refine J_g 244 [] [(4, bv false)] [] orcN ?_
        exact J_r1 rfl
      · refine J_g 62 [] [(4, bv true)] [] orcN ?_
        exact J_r1 rfl

noncomputable def c45 : Code := (Tryd.f45.body).getD .skip

theorem laws_eqStringS_l1.ok (a1 : (List ByteArray)) (a2 : (List ByteArray)) (q : Wd) (kn : Unit → Option (D × List Ent)) (hk : ∀ v : Unit, J (q.g Tryd.prog 45 0 26) c45 (atI c45 15) (St.mk' [] []) (some v) kn) :
    ∀ s10 : Int, J (q.g Tryd.prog 45 0 26) c45 (atI c45 116) (St.mk' [(0, sl 1 eStr a1), (1, sl 1 eStr a2), (5, iv s10)] []) (laws_eqStringS_l1 a1 a2 s10) (Fl.go (fun r : Bool => some (bv r, [])) kn) := by
  refine J_lp (fun g ih s10 => ?_)
  unfold laws_eqStringS_l1b
  refine J_g 464 [] [(0, sl 1 eStr a1), (1, sl 1 eStr a2), (5, iv s10), (14, bv (decide (s10 < (a1.length : Int))))] [] orcN ?_
  refine J_if2 14 (fun h11 => ?_) (fun h11 => ?_)
  · refine J_bind (fun x12 h13 => ?_)
    refine J_bind (fun x14 h15 => ?_)
    refine J_g 1864 [] [(0, sl 1 eStr a1), (1, sl 1 eStr a2), (5, iv s10), (25, bv (!(seq x12 x14)))] [] (orcC 2 (x_ix (kk := .i64) 33 9 1 eStr (.tmp 17) (.tmp 18) h13) (orcC 6 (x_ix (kk := .i64) 33 9 1 eStr (.tmp 21) (.tmp 22) h15) orcN)) ?_
    refine J_if2 25 (fun h16 => ?_) (fun h16 => ?_)
    · refine J_g 7460 [] [(4, bv false)] [] orcN ?_
      exact J_r1 rfl
    · refine J_g 467 [] [(0, sl 1 eStr a1), (1, sl 1 eStr a2), (5, iv (w64 (s10 + 1)))] [] orcN ?_
      exact J_q (J_b (ih (w64 (s10 + 1)))) rfl
  · exact J_qw (hk ()) rfl

theorem laws_eqStringS.ok (a1 : (List ByteArray)) (a2 : (List ByteArray)) : Ok Tryd.prog 45 [sl 1 eStr a1, sl 1 eStr a2] [] ((laws_eqStringS a1 a2).map fun r => (bv r, [])) := by
  refine Ok_of3 c45 Tryd.f45 0 26 (fun q => ?_)
  unfold laws_eqStringS
  refine J_g 2 [] [(0, sl 1 eStr a1), (1, sl 1 eStr a2)] [] orcN ?_
  refine J_g 12 [] [(0, sl 1 eStr a1), (1, sl 1 eStr a2), (10, bv ((a1.length : Int) != (a2.length : Int)))] [] orcN ?_
  refine J_if2 10 (fun h3 => ?_) (fun h3 => ?_)
  · refine J_g 52 [] [(4, bv false)] [] orcN ?_
    exact J_r1 rfl
  · refine J_g 28 [] [(0, sl 1 eStr a1), (1, sl 1 eStr a2), (5, iv 0)] [] orcN ?_
    refine J_lqF (K0 := (fun r : Bool => some (bv r, []))) (fun _ => rfl) (laws_eqStringS_l1.ok a1 a2 q _ (fun v17 => J_j ?_) 0)
    refine J_g 30 [] [(4, bv true)] [] orcN ?_
    exact J_r1 rfl

noncomputable def c34 : Code := (Tryd.f34.body).getD .skip

theorem laws_eqTerm.ok (a1 : Term) (a2 : Term) : Ok Tryd.prog 34 [.ag (Term.enc a1), .ag (Term.enc a2)] [] ((laws_eqTerm a1 a2).map fun r => (bv r, [])) := by
  refine Ok_of3 c34 Tryd.f34 0 22 (fun q => ?_)
  unfold laws_eqTerm
  refine J_g 2 [(0, 0), (1, 1)] [(2, pp 0), (3, pp 1)] [(0, .box (Term.enc a1)), (1, .box (Term.enc a2))] orcN ?_
  refine J_g 12 [] [(2, pp 0), (3, pp 1), (9, bv (!(seq a1.Name a2.Name)))] [(0, .box (Term.enc a1)), (1, .box (Term.enc a2))] orcN ?_
  refine J_if2 9 (fun h3 => ?_) (fun h3 => ?_)
  · refine J_g 52 [] [(4, bv false)] [] orcN ?_
    exact J_r1 rfl
  · refine J_bind (fun x4 h5 => ?_)
    refine J_g 28 [] [(2, pp 0), (3, pp 1), (15, bv (!x4))] [(0, .box (Term.enc a1)), (1, .box (Term.enc a2))] (orcC 4 (x_c0 [(.tmp 11), (.tmp 13)] [39, 39] (laws_eqVersion.ok a1.Low a2.Low) h5) orcN) ?_
    refine J_if2 15 (fun h6 => ?_) (fun h6 => ?_)
    · refine J_g 116 [] [(4, bv false)] [] orcN ?_
      exact J_r1 rfl
    · refine J_bind (fun x7 h8 => ?_)
      refine J_g 60 [] [(21, bv (!x7))] [] (orcC 4 (x_c0 [(.tmp 17), (.tmp 19)] [39, 39] (laws_eqVersion.ok a1.High a2.High) h8) orcN) ?_
      refine J_if2 21 (fun h9 => ?_) (fun h9 => ?_)
      · refine J_g 244 [] [(4, bv false)] [] orcN ?_
        exact J_r1 rfl
      · refine J_g 62 [] [(4, bv true)] [] orcN ?_
        exact J_r1 rfl

noncomputable def c13 : Code := (Tryd.f13.body).getD .skip

theorem laws_eqTermS_l1.ok (a1 : (List Term)) (a2 : (List Term)) (q : Wd) (kn : Unit → Option (D × List Ent)) (hk : ∀ v : Unit, J (q.g Tryd.prog 13 0 27) c13 (atI c13 15) (St.mk' [] []) (some v) kn) :
    ∀ s12 : Int, J (q.g Tryd.prog 13 0 27) c13 (atI c13 116) (St.mk' [(0, sl 7 Term.enc a1), (1, sl 7 Term.enc a2), (5, iv s12)] []) (laws_eqTermS_l1 a1 a2 s12) (Fl.go (fun r : Bool => some (bv r, [])) kn) := by
  refine J_lp (fun g ih s12 => ?_)
  unfold laws_eqTermS_l1b
  refine J_g 464 [] [(0, sl 7 Term.enc a1), (1, sl 7 Term.enc a2), (5, iv s12), (14, bv (decide (s12 < (a1.length : Int))))] [] orcN ?_
  refine J_if2 14 (fun h13 => ?_) (fun h13 => ?_)
  · refine J_bind (fun x14 h15 => ?_)
    refine J_bind (fun x16 h17 => ?_)
    refine J_bind (fun x18 h19 => ?_)
    refine J_g 1864 [] [(0, sl 7 Term.enc a1), (1, sl 7 Term.enc a2), (5, iv s12), (26, bv (!x18))] [] (orcC 2 (x_ix (kk := .i64) 27 60 7 Term.enc (.tmp 17) (.tmp 18) h15) (orcC 6 (x_ix (kk := .i64) 27 60 7 Term.enc (.tmp 21) (.tmp 22) h17) (orcC 8 (x_c0 [(.tmp 20), (.tmp 24)] [60, 60] (laws_eqTerm.ok x14 x16) h19) orcN))) ?_
    refine J_if2 26 (fun h20 => ?_) (fun h20 => ?_)
    · refine J_g 7460 [] [(4, bv false)] [] orcN ?_
      exact J_r1 rfl
    · refine J_g 467 [] [(0, sl 7 Term.enc a1), (1, sl 7 Term.enc a2), (5, iv (w64 (s12 + 1)))] [] orcN ?_
      exact J_q (J_b (ih (w64 (s12 + 1)))) rfl
  · exact J_qw (hk ()) rfl

theorem laws_eqTermS.ok (a1 : (List Term)) (a2 : (List Term)) : Ok Tryd.prog 13 [sl 7 Term.enc a1, sl 7 Term.enc a2] [] ((laws_eqTermS a1 a2).map fun r => (bv r, [])) := by
  refine Ok_of3 c13 Tryd.f13 0 27 (fun q => ?_)
  unfold laws_eqTermS
  refine J_g 2 [] [(0, sl 7 Term.enc a1), (1, sl 7 Term.enc a2)] [] orcN ?_
  refine J_g 12 [] [(0, sl 7 Term.enc a1), (1, sl 7 Term.enc a2), (10, bv ((a1.length : Int) != (a2.length : Int)))] [] orcN ?_
  refine J_if2 10 (fun h3 => ?_) (fun h3 => ?_)
  · refine J_g 52 [] [(4, bv false)] [] orcN ?_
    exact J_r1 rfl
  · refine J_g 28 [] [(0, sl 7 Term.enc a1), (1, sl 7 Term.enc a2), (5, iv 0)] [] orcN ?_
    refine J_lqF (K0 := (fun r : Bool => some (bv r, []))) (fun _ => rfl) (laws_eqTermS_l1.ok a1 a2 q _ (fun v21 => J_j ?_) 0)
    refine J_g 30 [] [(4, bv true)] [] orcN ?_
    exact J_r1 rfl

noncomputable def c46 : Code := (Tryd.f46.body).getD .skip

theorem laws_eqTermSS_l1.ok (a1 : (List (List Term))) (a2 : (List (List Term))) (q : Wd) (kn : Unit → Option (D × List Ent)) (hk : ∀ v : Unit, J (q.g Tryd.prog 46 0 27) c46 (atI c46 15) (St.mk' [] []) (some v) kn) :
    ∀ s12 : Int, J (q.g Tryd.prog 46 0 27) c46 (atI c46 116) (St.mk' [(0, sl 1 (eSl false 7 Term.enc) a1), (1, sl 1 (eSl false 7 Term.enc) a2), (5, iv s12)] []) (laws_eqTermSS_l1 a1 a2 s12) (Fl.go (fun r : Bool => some (bv r, [])) kn) := by
  refine J_lp (fun g ih s12 => ?_)
  unfold laws_eqTermSS_l1b
  refine J_g 464 [] [(0, sl 1 (eSl false 7 Term.enc) a1), (1, sl 1 (eSl false 7 Term.enc) a2), (5, iv s12), (14, bv (decide (s12 < (a1.length : Int))))] [] orcN ?_
  refine J_if2 14 (fun h13 => ?_) (fun h13 => ?_)
  · refine J_bind (fun x14 h15 => ?_)
    refine J_bind (fun x16 h17 => ?_)
    refine J_bind (fun x18 h19 => ?_)
    refine J_g 1864 [] [(0, sl 1 (eSl false 7 Term.enc) a1), (1, sl 1 (eSl false 7 Term.enc) a2), (5, iv s12), (26, bv (!x18))] [] (orcC 2 (x_ix (kk := .i64) 40 27 1 (eSl false 7 Term.enc) (.tmp 17) (.tmp 18) h15) (orcC 6 (x_ix (kk := .i64) 40 27 1 (eSl false 7 Term.enc) (.tmp 21) (.tmp 22) h17) (orcC 8 (x_c0 [(.tmp 20), (.tmp 24)] [27, 27] (laws_eqTermS.ok x14 x16) h19) orcN))) ?_
    refine J_if2 26 (fun h20 => ?_) (fun h20 => ?_)
    · refine J_g 7460 [] [(4, bv false)] [] orcN ?_
      exact J_r1 rfl
    · refine J_g 467 [] [(0, sl 1 (eSl false 7 Term.enc) a1), (1, sl 1 (eSl false 7 Term.enc) a2), (5, iv (w64 (s12 + 1)))] [] orcN ?_
      exact J_q (J_b (ih (w64 (s12 + 1)))) rfl
  · exact J_qw (hk ()) rfl

theorem laws_eqTermSS.ok (a1 : (List (List Term))) (a2 : (List (List Term))) : Ok Tryd.prog 46 [sl 1 (eSl false 7 Term.enc) a1, sl 1 (eSl false 7 Term.enc) a2] [] ((laws_eqTermSS a1 a2).map fun r => (bv r, [])) := by
  refine Ok_of3 c46 Tryd.f46 0 27 (fun q => ?_)
  unfold laws_eqTermSS
  refine J_g 2 [] [(0, sl 1 (eSl false 7 Term.enc) a1), (1, sl 1 (eSl false 7 Term.enc) a2)] [] orcN ?_
  refine J_g 12 [] [(0, sl 1 (eSl false 7 Term.enc) a1), (1, sl 1 (eSl false 7 Term.enc) a2), (10, bv ((a1.length : Int) != (a2.length : Int)))] [] orcN ?_
  refine J_if2 10 (fun h3 => ?_) (fun h3 => ?_)
  · refine J_g 52 [] [(4, bv false)] [] orcN ?_
    exact J_r1 rfl
  · refine J_g 28 [] [(0, sl 1 (eSl false 7 Term.enc) a1), (1, sl 1 (eSl false 7 Term.enc) a2), (5, iv 0)] [] orcN ?_
    refine J_lqF (K0 := (fun r : Bool => some (bv r, []))) (fun _ => rfl) (laws_eqTermSS_l1.ok a1 a2 q _ (fun v21 => J_j ?_) 0)
    refine J_g 30 [] [(4, bv true)] [] orcN ?_
    exact J_r1 rfl

noncomputable def c18 : Code := (Tryd.f18.body).getD .skip

theorem laws_eqPack.ok (a1 : Pack) (a2 : Pack) : Ok Tryd.prog 18 [.ag (Pack.enc false a1), .ag (Pack.enc false a2)] [] ((laws_eqPack a1 a2).map fun r => (bv r, [])) := by
  refine Ok_of3 c18 Tryd.f18 0 39 (fun q => ?_)
  unfold laws_eqPack
  refine J_g 2 [(0, 0), (1, 1)] [(2, pp 0), (3, pp 1)] [(0, .box (Pack.enc false a1)), (1, .box (Pack.enc false a2))] orcN ?_
  refine J_g 12 [] [(2, pp 0), (3, pp 1), (9, bv (!(seq a1.Name a2.Name)))] [(0, .box (Pack.enc false a1)), (1, .box (Pack.enc false a2))] orcN ?_
  refine J_if2 9 (fun h3 => ?_) (fun h3 => ?_)
  · refine J_g 52 [] [(4, bv false)] [] orcN ?_
    exact J_r1 rfl
  · refine J_bind (fun x4 h5 => ?_)
    refine J_g 28 [] [(2, pp 0), (3, pp 1), (15, bv (!x4))] [(0, .box (Pack.enc false a1)), (1, .box (Pack.enc false a2))] (orcC 4 (x_c0 [(.tmp 11), (.tmp 13)] [39, 39] (laws_eqVersion.ok a1.Version a2.Version) h5) orcN) ?_
    refine J_if2 15 (fun h6 => ?_) (fun h6 => ?_)
    · refine J_g 116 [] [(4, bv false)] [] orcN ?_
      exact J_r1 rfl
    · refine J_g 60 [] [(2, pp 0), (3, pp 1), (20, bv (a1.Size != a2.Size))] [(0, .box (Pack.enc false a1)), (1, .box (Pack.enc false a2))] orcN ?_
      refine J_if2 20 (fun h7 => ?_) (fun h7 => ?_)
      · refine J_g 244 [] [(4, bv false)] [] orcN ?_
        exact J_r1 rfl
      · refine J_bind (fun x8 h9 => ?_)
        refine J_g 124 [] [(2, pp 0), (3, pp 1), (26, bv (!x8))] [(0, .box (Pack.enc false a1)), (1, .box (Pack.enc false a2))] (orcC 4 (x_c0 [(.tmp 22), (.tmp 24)] [33, 33] (laws_eqStringS.ok a1.Provides a2.Provides) h9) orcN) ?_
        refine J_if2 26 (fun h10 => ?_) (fun h10 => ?_)
        · refine J_g 500 [] [(4, bv false)] [] orcN ?_
          exact J_r1 rfl
        · refine J_bind (fun x11 h12 => ?_)
          refine J_g 252 [] [(2, pp 0), (3, pp 1), (32, bv (!x11))] [(0, .box (Pack.enc false a1)), (1, .box (Pack.enc false a2))] (orcC 4 (x_c0 [(.tmp 28), (.tmp 30)] [40, 40] (laws_eqTermSS.ok a1.Needs a2.Needs) h12) orcN) ?_
          refine J_if2 32 (fun h13 => ?_) (fun h13 => ?_)
          · refine J_g 1012 [] [(4, bv false)] [] orcN ?_
            exact J_r1 rfl
          · refine J_bind (fun x14 h15 => ?_)
            refine J_g 508 [] [(38, bv (!x14))] [] (orcC 4 (x_c0 [(.tmp 34), (.tmp 36)] [27, 27] (laws_eqTermS.ok a1.Bars a2.Bars) h15) orcN) ?_
            refine J_if2 38 (fun h16 => ?_) (fun h16 => ?_)
            · refine J_g 2036 [] [(4, bv false)] [] orcN ?_
              exact J_r1 rfl
            · refine J_g 510 [] [(4, bv true)] [] orcN ?_
              exact J_r1 rfl

noncomputable def c5 : Code := (Tryd.f5.body).getD .skip

theorem laws_FnExactPackPath.ok (a1 : Pack) : Ok Tryd.prog 5 [.ag (Pack.enc false a1)] [] ((laws_FnExactPackPath a1).map fun r => (bv r, [])) := by
  refine Ok_of3 c5 Tryd.f5 0 27 (fun q => ?_)
  unfold laws_FnExactPackPath
  refine J_g 2 [(0, 0)] [(1, pp 0)] [(0, .box (Pack.enc false a1))] orcN ?_
  refine J_g 6 [] [(1, pp 0), (3, iv 1048576)] [(0, .box (Pack.enc false a1))] orcN ?_
  refine J_bind (fun x2 h3 => ?_)
  refine J_g 14 [] [(1, pp 0), (3, iv x2)] [(0, .box (Pack.enc false a1))] (orcC 2 (x_c0 [(.tmp 7), (.tmp 8)] [36, 3] (laws_szPack.ok a1 1048576) h3) orcN) ?_
  refine J_g 60 [] [(1, pp 0), (11, bv (decide (x2 < 0)))] [(0, .box (Pack.enc false a1))] orcN ?_
  refine J_if2 11 (fun h4 => ?_) (fun h4 => ?_)
  · refine J_g 244 [] [(2, bv true)] [] orcN ?_
    exact J_r1 rfl
  · refine J_bind (fun x5 h6 => ?_)
    refine J_bind (fun x7 h8 => ?_)
    refine J_g 62 [] [(1, pp 0), (4, sv x7)] [(0, .box (Pack.enc false a1))] (orcC 1 (x_c1 («as» := [.ag (Pack.enc false a1)]) [(.tmp 12)] [36] false [] [] (.cons (.same rfl) (.nil)) (laws_toPack.ok a1) h6 (.ag (.cons (.same rfl rfl) (.cons (.same rfl rfl) (.cons (.same rfl rfl) (.cons (.same rfl rfl) (.cons (.same rfl rfl) (.cons (.own 1) (.cons (.own 2) (.cons (.own 3) (.nil))))))))))) (orcC 2 (x_c1 («as» := [.ag [sv x5.Name, iv x5.Version.A, iv x5.Version.B, iv x5.Version.C, iv x5.Size, rr 1 x5.Provides, rr 2 x5.Needs, rr 3 x5.Bars]]) [(.tmp 13)] [42] true [(1, rE 1 eStr x5.Provides), (2, rE 1 (eSl true 7 Term.enc) x5.Needs), (3, rE 7 Term.enc x5.Bars)] [] (.cons (.ag (.cons (.same rfl) (.cons (.same rfl) (.cons (.same rfl) (.cons (.same rfl) (.cons (.same rfl) (.cons (am_b (.head _) (fun _ => rfl) rfl) (.cons (am_b (.tail _ (.head _)) (eSl_ro (fun _ => rfl)) rfl) (.cons (am_b (.tail _ (.tail _ (.head _))) (fun _ => rfl) rfl) (.nil)))))))))) (.nil)) (spec_PackPath.ok x5) h8 (.same rfl rfl) (hbor := fun _ => ⟨rfl, flat_sc⟩)) orcN)) ?_
    refine J_bind (fun x9 h10 => ?_)
    refine J_g 126 [(2, 4)] [(1, pp 0), (4, sv x7), (5, pp 4)] [(0, .box (Pack.enc false a1)), (1, rE 1 eStr x9.Provides), (2, rE 1 (eSl true 7 Term.enc) x9.Needs), (3, rE 7 Term.enc x9.Bars), (4, .box [sv x9.Name, iv x9.Version.A, iv x9.Version.B, iv x9.Version.C, iv x9.Size, rr 1 x9.Provides, rr 2 x9.Needs, rr 3 x9.Bars])] (orcC 1 (x_c1 («as» := [.ag (Pack.enc false a1)]) [(.tmp 15)] [36] false [] [] (.cons (.same rfl) (.nil)) (laws_toPack.ok a1) h10 (.ag (.cons (.same rfl rfl) (.cons (.same rfl rfl) (.cons (.same rfl rfl) (.cons (.same rfl rfl) (.cons (.same rfl rfl) (.cons (.own 1) (.cons (.own 2) (.cons (.own 3) (.nil))))))))))) orcN) ?_
    refine J_bind (fun x11 h12 => ?_)
    refine J_g 254 [] [(1, pp 0), (4, sv x7), (5, pp 4), (6, sv x11)] [(0, .box (Pack.enc false a1)), (1, rE 1 eStr x9.Provides), (2, rE 1 (eSl true 7 Term.enc) x9.Needs), (3, rE 7 Term.enc x9.Bars), (4, .box [sv x9.Name, iv x9.Version.A, iv x9.Version.B, iv x9.Version.C, iv x9.Size, rr 1 x9.Provides, rr 2 x9.Needs, rr 3 x9.Bars])] (orcC 1 (x_c1 («as» := [.ag [sv x9.Name, iv x9.Version.A, iv x9.Version.B, iv x9.Version.C, iv x9.Size, rr 1 x9.Provides, rr 2 x9.Needs, rr 3 x9.Bars]]) [(.tmp 17)] [42] true [(1, rE 1 eStr x9.Provides), (2, rE 1 (eSl true 7 Term.enc) x9.Needs), (3, rE 7 Term.enc x9.Bars)] [] (.cons (.ag (.cons (.same rfl) (.cons (.same rfl) (.cons (.same rfl) (.cons (.same rfl) (.cons (.same rfl) (.cons (am_b (.head _) (fun _ => rfl) rfl) (.cons (am_b (.tail _ (.head _)) (eSl_ro (fun _ => rfl)) rfl) (.cons (am_b (.tail _ (.tail _ (.head _))) (fun _ => rfl) rfl) (.nil)))))))))) (.nil)) (impl_PackPath.ok x9) h12 (.same rfl rfl) (hbor := fun _ => ⟨rfl, flat_sc⟩)) orcN) ?_
    refine J_g 1020 [] [(1, pp 0), (5, pp 4), (21, bv (!(seq x11 x7)))] [(0, .box (Pack.enc false a1)), (1, rE 1 eStr x9.Provides), (2, rE 1 (eSl true 7 Term.enc) x9.Needs), (3, rE 7 Term.enc x9.Bars), (4, .box [sv x9.Name, iv x9.Version.A, iv x9.Version.B, iv x9.Version.C, iv x9.Size, rr 1 x9.Provides, rr 2 x9.Needs, rr 3 x9.Bars])] orcN ?_
    refine J_if2 21 (fun h13 => ?_) (fun h13 => ?_)
    · refine J_g 4084 [] [(2, bv false)] [] orcN ?_
      exact J_r1 rfl
    · refine J_bind (fun x14 h15 => ?_)
      refine J_bind (fun x16 h17 => ?_)
      refine J_g 2044 [] [(26, bv (!x16))] [] (orcC 2 (x_c1 («as» := [.ag (Pack.enc false a1)]) [(.tmp 23)] [36] false [] [] (.cons (.same rfl) (.nil)) (laws_toPack.ok a1) h15 (.ag (.cons (.same rfl rfl) (.cons (.same rfl rfl) (.cons (.same rfl rfl) (.cons (.same rfl rfl) (.cons (.same rfl rfl) (.cons (.own 5) (.cons (.own 6) (.cons (.own 7) (.nil))))))))))) (orcC 3 (x_c1 («as» := [.ag [sv x9.Name, iv x9.Version.A, iv x9.Version.B, iv x9.Version.C, iv x9.Size, rr 1 x9.Provides, rr 2 x9.Needs, rr 3 x9.Bars], .ag [sv x14.Name, iv x14.Version.A, iv x14.Version.B, iv x14.Version.C, iv x14.Size, rr 5 x14.Provides, rr 6 x14.Needs, rr 7 x14.Bars]]) [(.tmp 22), (.tmp 24)] [42, 42] true [(1, rE 1 eStr x9.Provides), (2, rE 1 (eSl true 7 Term.enc) x9.Needs), (3, rE 7 Term.enc x9.Bars), (5, rE 1 eStr x14.Provides), (6, rE 1 (eSl true 7 Term.enc) x14.Needs), (7, rE 7 Term.enc x14.Bars)] [] (.cons (.ag (.cons (.same rfl) (.cons (.same rfl) (.cons (.same rfl) (.cons (.same rfl) (.cons (.same rfl) (.cons (am_b (.head _) (fun _ => rfl) rfl) (.cons (am_b (.tail _ (.head _)) (eSl_ro (fun _ => rfl)) rfl) (.cons (am_b (.tail _ (.tail _ (.head _))) (fun _ => rfl) rfl) (.nil)))))))))) (.cons (.ag (.cons (.same rfl) (.cons (.same rfl) (.cons (.same rfl) (.cons (.same rfl) (.cons (.same rfl) (.cons (am_b (.tail _ (.tail _ (.tail _ (.head _)))) (fun _ => rfl) rfl) (.cons (am_b (.tail _ (.tail _ (.tail _ (.tail _ (.head _))))) (eSl_ro (fun _ => rfl)) rfl) (.cons (am_b (.tail _ (.tail _ (.tail _ (.tail _ (.tail _ (.head _)))))) (fun _ => rfl) rfl) (.nil)))))))))) (.nil))) (laws_eqPack.ok x9 x14) h17 (.same rfl rfl) (hbor := fun _ => ⟨rfl, flat_sc⟩)) orcN)) ?_
      refine J_if2 26 (fun h18 => ?_) (fun h18 => ?_)
      · refine J_g 8180 [] [(2, bv false)] [] orcN ?_
        exact J_r1 rfl
      · refine J_g 2046 [] [(2, bv true)] [] orcN ?_
        exact J_r1 rfl

end Go.Told

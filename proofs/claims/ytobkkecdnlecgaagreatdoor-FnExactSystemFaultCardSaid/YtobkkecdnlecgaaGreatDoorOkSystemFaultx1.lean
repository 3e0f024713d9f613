import Derived.Test.YtobkkecdnlecgaaGreatDoorToldSystemFault
import Derived.Test.YtobkkecdnlecgaaGreatDoorShelfSystemFault
import Derived.Test.YtobkkecdnlecgaaGreatDoorProg
set_option linter.unusedVariables false
set_option maxRecDepth 4000
namespace Go.Told
open Go Go.Im Go.Proofs

noncomputable def c109 : Code := (Tryz.f109.body).getD .skip

theorem laws_szStringS_l1.ok (a1 : (List ByteArray)) (q : Wd) (kn : Int → Option (D × List Ent)) (hk : ∀ v : Int, J (q.g Tryz.prog 109 0 28) c109 (atI c109 31) (St.mk' [(1, iv v)] []) (some v) kn) :
    ∀ s8 : (Int × Int), J (q.g Tryz.prog 109 0 28) c109 (atI c109 244) (St.mk' [(0, sl 1 eStr a1), (1, iv s8.1), (5, iv s8.2)] []) (laws_szStringS_l1 a1 s8) (Fl.go (fun r : Int => some (iv r, [])) kn) := by
  refine J_lp (fun g ih s8 => ?_)
  unfold laws_szStringS_l1b
  refine J_g 976 [] [(0, sl 1 eStr a1), (1, iv s8.1), (5, iv s8.2), (15, bv (decide (s8.2 < (a1.length : Int))))] [] orcN ?_
  refine J_if2 15 (fun h9 => ?_) (fun h9 => ?_)
  · refine J_bind (fun x10 h11 => ?_)
    refine J_g 3912 [] [(0, sl 1 eStr a1), (1, iv (w64 (s8.1 - (x10.size : Int)))), (5, iv s8.2)] [] (orcC 3 (x_ix (kk := .i64) 86 9 1 eStr (.tmp 19) (.tmp 20) h11) orcN) ?_
    refine J_g 7826 [] [(0, sl 1 eStr a1), (1, iv (w64 (s8.1 - (x10.size : Int)))), (5, iv s8.2), (26, bv (decide ((w64 (s8.1 - (x10.size : Int))) < 0)))] [] orcN ?_
    refine J_if2 26 (fun h12 => ?_) (fun h12 => ?_)
    · refine J_g 31308 [] [(4, iv (-1))] [] orcN ?_
      exact J_r1 rfl
    · refine J_g 979 [] [(0, sl 1 eStr a1), (1, iv (w64 (s8.1 - (x10.size : Int)))), (5, iv (w64 (s8.2 + 1)))] [] orcN ?_
      exact J_q (J_b (ih (w64 (s8.1 - (x10.size : Int)), w64 (s8.2 + 1)))) rfl
  · exact J_qw (hk s8.1) rfl

theorem laws_szStringS.ok (a1 : (List ByteArray)) (a2 : Int) : Ok Tryz.prog 109 [sl 1 eStr a1, iv a2] [] ((laws_szStringS a1 a2).map fun r => (iv r, [])) := by
  refine Ok_of3 c109 Tryz.f109 0 28 (fun q => ?_)
  unfold laws_szStringS
  refine J_g 2 [] [(0, sl 1 eStr a1), (1, iv a2)] [] orcN ?_
  refine J_g 6 [] [(0, sl 1 eStr a1), (1, iv (w64 (a2 - (a1.length : Int))))] [] orcN ?_
  refine J_g 28 [] [(0, sl 1 eStr a1), (1, iv (w64 (a2 - (a1.length : Int)))), (11, bv (decide ((w64 (a2 - (a1.length : Int))) < 0)))] [] orcN ?_
  refine J_if2 11 (fun h3 => ?_) (fun h3 => ?_)
  · refine J_g 116 [] [(4, iv (-1))] [] orcN ?_
    exact J_r1 rfl
  · refine J_g 60 [] [(0, sl 1 eStr a1), (1, iv (w64 (a2 - (a1.length : Int)))), (5, iv 0)] [] orcN ?_
    refine J_lqF (K0 := (fun r : Int => some (iv r, []))) (fun _ => rfl) (laws_szStringS_l1.ok a1 q _ (fun v13 => J_j ?_) (w64 (a2 - (a1.length : Int)), 0))
    refine J_g 62 [] [(4, iv v13)] [] orcN ?_
    exact J_r1 rfl

noncomputable def c195 : Code := (Tryz.f195.body).getD .skip

theorem laws_szTerm.ok (a1 : Term) (a2 : Int) : Ok Tryz.prog 195 [.ag (Term.enc a1), iv a2] [] ((laws_szTerm a1 a2).map fun r => (iv r, [])) := by
  refine Ok_of3 c195 Tryz.f195 0 13 (fun q => ?_)
  unfold laws_szTerm
  refine J_g 2 [(0, 0)] [(1, iv a2), (2, pp 0)] [(0, .box (Term.enc a1))] orcN ?_
  refine J_g 6 [] [(1, iv (w64 (a2 - (a1.Name.size : Int))))] [] orcN ?_
  refine J_g 28 [] [(1, iv (w64 (a2 - (a1.Name.size : Int)))), (11, bv (decide ((w64 (a2 - (a1.Name.size : Int))) < 0)))] [] orcN ?_
  refine J_if2 11 (fun h3 => ?_) (fun h3 => ?_)
  · refine J_g 116 [] [(4, iv (-1))] [] orcN ?_
    exact J_r1 rfl
  · refine J_g 30 [] [(4, iv (w64 (a2 - (a1.Name.size : Int))))] [] orcN ?_
    exact J_r1 rfl

noncomputable def c111 : Code := (Tryz.f111.body).getD .skip

theorem laws_szTermS_l1.ok (a1 : (List Term)) (q : Wd) (kn : Int → Option (D × List Ent)) (hk : ∀ v : Int, J (q.g Tryz.prog 111 0 27) c111 (atI c111 31) (St.mk' [(1, iv v)] []) (some v) kn) :
    ∀ s10 : (Int × Int), J (q.g Tryz.prog 111 0 27) c111 (atI c111 244) (St.mk' [(0, sl 7 Term.enc a1), (1, iv s10.1), (5, iv s10.2)] []) (laws_szTermS_l1 a1 s10) (Fl.go (fun r : Int => some (iv r, [])) kn) := by
  refine J_lp (fun g ih s10 => ?_)
  unfold laws_szTermS_l1b
  refine J_g 976 [] [(0, sl 7 Term.enc a1), (1, iv s10.1), (5, iv s10.2), (15, bv (decide (s10.2 < (a1.length : Int))))] [] orcN ?_
  refine J_if2 15 (fun h11 => ?_) (fun h11 => ?_)
  · refine J_bind (fun x12 h13 => ?_)
    refine J_bind (fun x14 h15 => ?_)
    refine J_g 3912 [] [(0, sl 7 Term.enc a1), (1, iv x14), (5, iv s10.2)] [] (orcC 2 (x_ix (kk := .i64) 88 224 7 Term.enc (.tmp 18) (.tmp 19) h13) (orcC 5 (x_c0 [(.tmp 21), (.tmp 22)] [224, 3] (laws_szTerm.ok x12 s10.1) h15) orcN)) ?_
    refine J_g 7826 [] [(0, sl 7 Term.enc a1), (1, iv x14), (5, iv s10.2), (25, bv (decide (x14 < 0)))] [] orcN ?_
    refine J_if2 25 (fun h16 => ?_) (fun h16 => ?_)
    · refine J_g 31308 [] [(4, iv (-1))] [] orcN ?_
      exact J_r1 rfl
    · refine J_g 979 [] [(0, sl 7 Term.enc a1), (1, iv x14), (5, iv (w64 (s10.2 + 1)))] [] orcN ?_
      exact J_q (J_b (ih (x14, w64 (s10.2 + 1)))) rfl
  · exact J_qw (hk s10.1) rfl

theorem laws_szTermS.ok (a1 : (List Term)) (a2 : Int) : Ok Tryz.prog 111 [sl 7 Term.enc a1, iv a2] [] ((laws_szTermS a1 a2).map fun r => (iv r, [])) := by
  refine Ok_of3 c111 Tryz.f111 0 27 (fun q => ?_)
  unfold laws_szTermS
  refine J_g 2 [] [(0, sl 7 Term.enc a1), (1, iv a2)] [] orcN ?_
  refine J_g 6 [] [(0, sl 7 Term.enc a1), (1, iv (w64 (a2 - (a1.length : Int))))] [] orcN ?_
  refine J_g 28 [] [(0, sl 7 Term.enc a1), (1, iv (w64 (a2 - (a1.length : Int)))), (11, bv (decide ((w64 (a2 - (a1.length : Int))) < 0)))] [] orcN ?_
  refine J_if2 11 (fun h3 => ?_) (fun h3 => ?_)
  · refine J_g 116 [] [(4, iv (-1))] [] orcN ?_
    exact J_r1 rfl
  · refine J_g 60 [] [(0, sl 7 Term.enc a1), (1, iv (w64 (a2 - (a1.length : Int)))), (5, iv 0)] [] orcN ?_
    refine J_lqF (K0 := (fun r : Int => some (iv r, []))) (fun _ => rfl) (laws_szTermS_l1.ok a1 q _ (fun v17 => J_j ?_) (w64 (a2 - (a1.length : Int)), 0))
    refine J_g 62 [] [(4, iv v17)] [] orcN ?_
    exact J_r1 rfl

noncomputable def c110 : Code := (Tryz.f110.body).getD .skip

theorem laws_szTermSS_l1.ok (a1 : (List (List Term))) (q : Wd) (kn : Int → Option (D × List Ent)) (hk : ∀ v : Int, J (q.g Tryz.prog 110 0 27) c110 (atI c110 31) (St.mk' [(1, iv v)] []) (some v) kn) :
    ∀ s10 : (Int × Int), J (q.g Tryz.prog 110 0 27) c110 (atI c110 244) (St.mk' [(0, sl 1 (eSl false 7 Term.enc) a1), (1, iv s10.1), (5, iv s10.2)] []) (laws_szTermSS_l1 a1 s10) (Fl.go (fun r : Int => some (iv r, [])) kn) := by
  refine J_lp (fun g ih s10 => ?_)
  unfold laws_szTermSS_l1b
  refine J_g 976 [] [(0, sl 1 (eSl false 7 Term.enc) a1), (1, iv s10.1), (5, iv s10.2), (15, bv (decide (s10.2 < (a1.length : Int))))] [] orcN ?_
  refine J_if2 15 (fun h11 => ?_) (fun h11 => ?_)
  · refine J_bind (fun x12 h13 => ?_)
    refine J_bind (fun x14 h15 => ?_)
    refine J_g 3912 [] [(0, sl 1 (eSl false 7 Term.enc) a1), (1, iv x14), (5, iv s10.2)] [] (orcC 2 (x_ix (kk := .i64) 87 88 1 (eSl false 7 Term.enc) (.tmp 18) (.tmp 19) h13) (orcC 5 (x_c0 [(.tmp 21), (.tmp 22)] [88, 3] (laws_szTermS.ok x12 s10.1) h15) orcN)) ?_
    refine J_g 7826 [] [(0, sl 1 (eSl false 7 Term.enc) a1), (1, iv x14), (5, iv s10.2), (25, bv (decide (x14 < 0)))] [] orcN ?_
    refine J_if2 25 (fun h16 => ?_) (fun h16 => ?_)
    · refine J_g 31308 [] [(4, iv (-1))] [] orcN ?_
      exact J_r1 rfl
    · refine J_g 979 [] [(0, sl 1 (eSl false 7 Term.enc) a1), (1, iv x14), (5, iv (w64 (s10.2 + 1)))] [] orcN ?_
      exact J_q (J_b (ih (x14, w64 (s10.2 + 1)))) rfl
  · exact J_qw (hk s10.1) rfl

theorem laws_szTermSS.ok (a1 : (List (List Term))) (a2 : Int) : Ok Tryz.prog 110 [sl 1 (eSl false 7 Term.enc) a1, iv a2] [] ((laws_szTermSS a1 a2).map fun r => (iv r, [])) := by
  refine Ok_of3 c110 Tryz.f110 0 27 (fun q => ?_)
  unfold laws_szTermSS
  refine J_g 2 [] [(0, sl 1 (eSl false 7 Term.enc) a1), (1, iv a2)] [] orcN ?_
  refine J_g 6 [] [(0, sl 1 (eSl false 7 Term.enc) a1), (1, iv (w64 (a2 - (a1.length : Int))))] [] orcN ?_
  refine J_g 28 [] [(0, sl 1 (eSl false 7 Term.enc) a1), (1, iv (w64 (a2 - (a1.length : Int)))), (11, bv (decide ((w64 (a2 - (a1.length : Int))) < 0)))] [] orcN ?_
  refine J_if2 11 (fun h3 => ?_) (fun h3 => ?_)
  · refine J_g 116 [] [(4, iv (-1))] [] orcN ?_
    exact J_r1 rfl
  · refine J_g 60 [] [(0, sl 1 (eSl false 7 Term.enc) a1), (1, iv (w64 (a2 - (a1.length : Int)))), (5, iv 0)] [] orcN ?_
    refine J_lqF (K0 := (fun r : Int => some (iv r, []))) (fun _ => rfl) (laws_szTermSS_l1.ok a1 q _ (fun v17 => J_j ?_) (w64 (a2 - (a1.length : Int)), 0))
    refine J_g 62 [] [(4, iv v17)] [] orcN ?_
    exact J_r1 rfl

noncomputable def c51 : Code := (Tryz.f51.body).getD .skip

theorem laws_szPack.ok (a1 : Pack) (a2 : Int) : Ok Tryz.prog 51 [.ag (Pack.enc false a1), iv a2] [] ((laws_szPack a1 a2).map fun r => (iv r, [])) := by
  refine Ok_of3 c51 Tryz.f51 0 31 (fun q => ?_)
  unfold laws_szPack
  refine J_g 2 [(0, 0)] [(1, iv a2), (2, pp 0)] [(0, .box (Pack.enc false a1))] orcN ?_
  refine J_g 6 [] [(1, iv (w64 (a2 - (a1.Name.size : Int)))), (2, pp 0)] [(0, .box (Pack.enc false a1))] orcN ?_
  refine J_g 28 [] [(1, iv (w64 (a2 - (a1.Name.size : Int)))), (2, pp 0), (11, bv (decide ((w64 (a2 - (a1.Name.size : Int))) < 0)))] [(0, .box (Pack.enc false a1))] orcN ?_
  refine J_if2 11 (fun h3 => ?_) (fun h3 => ?_)
  · refine J_g 116 [] [(4, iv (-1))] [] orcN ?_
    exact J_r1 rfl
  · refine J_bind (fun x4 h5 => ?_)
    refine J_g 30 [] [(1, iv x4), (2, pp 0)] [(0, .box (Pack.enc false a1))] (orcC 3 (x_c0 [(.tmp 13), (.tmp 14)] [86, 3] (laws_szStringS.ok a1.Provides (w64 (a2 - (a1.Name.size : Int)))) h5) orcN) ?_
    refine J_g 124 [] [(1, iv x4), (2, pp 0), (17, bv (decide (x4 < 0)))] [(0, .box (Pack.enc false a1))] orcN ?_
    refine J_if2 17 (fun h6 => ?_) (fun h6 => ?_)
    · refine J_g 500 [] [(4, iv (-1))] [] orcN ?_
      exact J_r1 rfl
    · refine J_bind (fun x7 h8 => ?_)
      refine J_g 126 [] [(1, iv x7), (2, pp 0)] [(0, .box (Pack.enc false a1))] (orcC 3 (x_c0 [(.tmp 19), (.tmp 20)] [87, 3] (laws_szTermSS.ok a1.Needs x4) h8) orcN) ?_
      refine J_g 508 [] [(1, iv x7), (2, pp 0), (23, bv (decide (x7 < 0)))] [(0, .box (Pack.enc false a1))] orcN ?_
      refine J_if2 23 (fun h9 => ?_) (fun h9 => ?_)
      · refine J_g 2036 [] [(4, iv (-1))] [] orcN ?_
        exact J_r1 rfl
      · refine J_bind (fun x10 h11 => ?_)
        refine J_g 510 [] [(1, iv x10)] [] (orcC 3 (x_c0 [(.tmp 25), (.tmp 26)] [88, 3] (laws_szTermS.ok a1.Bars x7) h11) orcN) ?_
        refine J_g 2044 [] [(1, iv x10), (29, bv (decide (x10 < 0)))] [] orcN ?_
        refine J_if2 29 (fun h12 => ?_) (fun h12 => ?_)
        · refine J_g 8180 [] [(4, iv (-1))] [] orcN ?_
          exact J_r1 rfl
        · refine J_g 2046 [] [(4, iv x10)] [] orcN ?_
          exact J_r1 rfl

noncomputable def c13 : Code := (Tryz.f13.body).getD .skip

theorem laws_szPackS_l1.ok (a1 : (List Pack)) (q : Wd) (kn : Int → Option (D × List Ent)) (hk : ∀ v : Int, J (q.g Tryz.prog 13 0 27) c13 (atI c13 31) (St.mk' [(1, iv v)] []) (some v) kn) :
    ∀ s10 : (Int × Int), J (q.g Tryz.prog 13 0 27) c13 (atI c13 244) (St.mk' [(0, sl 8 (Pack.enc false) a1), (1, iv s10.1), (5, iv s10.2)] []) (laws_szPackS_l1 a1 s10) (Fl.go (fun r : Int => some (iv r, [])) kn) := by
  refine J_lp (fun g ih s10 => ?_)
  unfold laws_szPackS_l1b
  refine J_g 976 [] [(0, sl 8 (Pack.enc false) a1), (1, iv s10.1), (5, iv s10.2), (15, bv (decide (s10.2 < (a1.length : Int))))] [] orcN ?_
  refine J_if2 15 (fun h11 => ?_) (fun h11 => ?_)
  · refine J_bind (fun x12 h13 => ?_)
    refine J_bind (fun x14 h15 => ?_)
    refine J_g 3912 [] [(0, sl 8 (Pack.enc false) a1), (1, iv x14), (5, iv s10.2)] [] (orcC 2 (x_ix (kk := .i64) 22 90 8 (Pack.enc false) (.tmp 18) (.tmp 19) h13) (orcC 5 (x_c0 [(.tmp 21), (.tmp 22)] [90, 3] (laws_szPack.ok x12 s10.1) h15) orcN)) ?_
    refine J_g 7826 [] [(0, sl 8 (Pack.enc false) a1), (1, iv x14), (5, iv s10.2), (25, bv (decide (x14 < 0)))] [] orcN ?_
    refine J_if2 25 (fun h16 => ?_) (fun h16 => ?_)
    · refine J_g 31308 [] [(4, iv (-1))] [] orcN ?_
      exact J_r1 rfl
    · refine J_g 979 [] [(0, sl 8 (Pack.enc false) a1), (1, iv x14), (5, iv (w64 (s10.2 + 1)))] [] orcN ?_
      exact J_q (J_b (ih (x14, w64 (s10.2 + 1)))) rfl
  · exact J_qw (hk s10.1) rfl

theorem laws_szPackS.ok (a1 : (List Pack)) (a2 : Int) : Ok Tryz.prog 13 [sl 8 (Pack.enc false) a1, iv a2] [] ((laws_szPackS a1 a2).map fun r => (iv r, [])) := by
  refine Ok_of3 c13 Tryz.f13 0 27 (fun q => ?_)
  unfold laws_szPackS
  refine J_g 2 [] [(0, sl 8 (Pack.enc false) a1), (1, iv a2)] [] orcN ?_
  refine J_g 6 [] [(0, sl 8 (Pack.enc false) a1), (1, iv (w64 (a2 - (a1.length : Int))))] [] orcN ?_
  refine J_g 28 [] [(0, sl 8 (Pack.enc false) a1), (1, iv (w64 (a2 - (a1.length : Int)))), (11, bv (decide ((w64 (a2 - (a1.length : Int))) < 0)))] [] orcN ?_
  refine J_if2 11 (fun h3 => ?_) (fun h3 => ?_)
  · refine J_g 116 [] [(4, iv (-1))] [] orcN ?_
    exact J_r1 rfl
  · refine J_g 60 [] [(0, sl 8 (Pack.enc false) a1), (1, iv (w64 (a2 - (a1.length : Int)))), (5, iv 0)] [] orcN ?_
    refine J_lqF (K0 := (fun r : Int => some (iv r, []))) (fun _ => rfl) (laws_szPackS_l1.ok a1 q _ (fun v17 => J_j ?_) (w64 (a2 - (a1.length : Int)), 0))
    refine J_g 62 [] [(4, iv v17)] [] orcN ?_
    exact J_r1 rfl

noncomputable def c196 : Code := (Tryz.f196.body).getD .skip

theorem laws_szByteS.ok (a1 : (List Int)) (a2 : Int) : Ok Tryz.prog 196 [sl 1 eU8 a1, iv a2] [] ((laws_szByteS a1 a2).map fun r => (iv r, [])) := by
  refine Ok_of3 c196 Tryz.f196 0 12 (fun q => ?_)
  unfold laws_szByteS
  refine J_g 2 [] [(0, sl 1 eU8 a1), (1, iv a2)] [] orcN ?_
  refine J_g 6 [] [(1, iv (w64 (a2 - (a1.length : Int))))] [] orcN ?_
  refine J_g 28 [] [(1, iv (w64 (a2 - (a1.length : Int)))), (10, bv (decide ((w64 (a2 - (a1.length : Int))) < 0)))] [] orcN ?_
  refine J_if2 10 (fun h3 => ?_) (fun h3 => ?_)
  · refine J_g 116 [] [(4, iv (-1))] [] orcN ?_
    exact J_r1 rfl
  · refine J_g 30 [] [(4, iv (w64 (a2 - (a1.length : Int))))] [] orcN ?_
    exact J_r1 rfl

noncomputable def c112 : Code := (Tryz.f112.body).getD .skip

theorem laws_szFile.ok (a1 : File) (a2 : Int) : Ok Tryz.prog 112 [.ag (File.enc false a1), iv a2] [] ((laws_szFile a1 a2).map fun r => (iv r, [])) := by
  refine Ok_of3 c112 Tryz.f112 0 19 (fun q => ?_)
  unfold laws_szFile
  refine J_g 2 [(0, 0)] [(1, iv a2), (2, pp 0)] [(0, .box (File.enc false a1))] orcN ?_
  refine J_g 6 [] [(1, iv (w64 (a2 - (a1.Path.size : Int)))), (2, pp 0)] [(0, .box (File.enc false a1))] orcN ?_
  refine J_g 28 [] [(1, iv (w64 (a2 - (a1.Path.size : Int)))), (2, pp 0), (11, bv (decide ((w64 (a2 - (a1.Path.size : Int))) < 0)))] [(0, .box (File.enc false a1))] orcN ?_
  refine J_if2 11 (fun h3 => ?_) (fun h3 => ?_)
  · refine J_g 116 [] [(4, iv (-1))] [] orcN ?_
    exact J_r1 rfl
  · refine J_bind (fun x4 h5 => ?_)
    refine J_g 30 [] [(1, iv x4)] [] (orcC 3 (x_c0 [(.tmp 13), (.tmp 14)] [121, 3] (laws_szByteS.ok a1.Data (w64 (a2 - (a1.Path.size : Int)))) h5) orcN) ?_
    refine J_g 124 [] [(1, iv x4), (17, bv (decide (x4 < 0)))] [] orcN ?_
    refine J_if2 17 (fun h6 => ?_) (fun h6 => ?_)
    · refine J_g 500 [] [(4, iv (-1))] [] orcN ?_
      exact J_r1 rfl
    · refine J_g 126 [] [(4, iv x4)] [] orcN ?_
      exact J_r1 rfl

noncomputable def c52 : Code := (Tryz.f52.body).getD .skip

theorem laws_szFileS_l1.ok (a1 : (List File)) (q : Wd) (kn : Int → Option (D × List Ent)) (hk : ∀ v : Int, J (q.g Tryz.prog 52 0 27) c52 (atI c52 31) (St.mk' [(1, iv v)] []) (some v) kn) :
    ∀ s10 : (Int × Int), J (q.g Tryz.prog 52 0 27) c52 (atI c52 244) (St.mk' [(0, sl 2 (File.enc false) a1), (1, iv s10.1), (5, iv s10.2)] []) (laws_szFileS_l1 a1 s10) (Fl.go (fun r : Int => some (iv r, [])) kn) := by
  refine J_lp (fun g ih s10 => ?_)
  unfold laws_szFileS_l1b
  refine J_g 976 [] [(0, sl 2 (File.enc false) a1), (1, iv s10.1), (5, iv s10.2), (15, bv (decide (s10.2 < (a1.length : Int))))] [] orcN ?_
  refine J_if2 15 (fun h11 => ?_) (fun h11 => ?_)
  · refine J_bind (fun x12 h13 => ?_)
    refine J_bind (fun x14 h15 => ?_)
    refine J_g 3912 [] [(0, sl 2 (File.enc false) a1), (1, iv x14), (5, iv s10.2)] [] (orcC 2 (x_ix (kk := .i64) 23 158 2 (File.enc false) (.tmp 18) (.tmp 19) h13) (orcC 5 (x_c0 [(.tmp 21), (.tmp 22)] [158, 3] (laws_szFile.ok x12 s10.1) h15) orcN)) ?_
    refine J_g 7826 [] [(0, sl 2 (File.enc false) a1), (1, iv x14), (5, iv s10.2), (25, bv (decide (x14 < 0)))] [] orcN ?_
    refine J_if2 25 (fun h16 => ?_) (fun h16 => ?_)
    · refine J_g 31308 [] [(4, iv (-1))] [] orcN ?_
      exact J_r1 rfl
    · refine J_g 979 [] [(0, sl 2 (File.enc false) a1), (1, iv x14), (5, iv (w64 (s10.2 + 1)))] [] orcN ?_
      exact J_q (J_b (ih (x14, w64 (s10.2 + 1)))) rfl
  · exact J_qw (hk s10.1) rfl

theorem laws_szFileS.ok (a1 : (List File)) (a2 : Int) : Ok Tryz.prog 52 [sl 2 (File.enc false) a1, iv a2] [] ((laws_szFileS a1 a2).map fun r => (iv r, [])) := by
  refine Ok_of3 c52 Tryz.f52 0 27 (fun q => ?_)
  unfold laws_szFileS
  refine J_g 2 [] [(0, sl 2 (File.enc false) a1), (1, iv a2)] [] orcN ?_
  refine J_g 6 [] [(0, sl 2 (File.enc false) a1), (1, iv (w64 (a2 - (a1.length : Int))))] [] orcN ?_
  refine J_g 28 [] [(0, sl 2 (File.enc false) a1), (1, iv (w64 (a2 - (a1.length : Int)))), (11, bv (decide ((w64 (a2 - (a1.length : Int))) < 0)))] [] orcN ?_
  refine J_if2 11 (fun h3 => ?_) (fun h3 => ?_)
  · refine J_g 116 [] [(4, iv (-1))] [] orcN ?_
    exact J_r1 rfl
  · refine J_g 60 [] [(0, sl 2 (File.enc false) a1), (1, iv (w64 (a2 - (a1.length : Int)))), (5, iv 0)] [] orcN ?_
    refine J_lqF (K0 := (fun r : Int => some (iv r, []))) (fun _ => rfl) (laws_szFileS_l1.ok a1 q _ (fun v17 => J_j ?_) (w64 (a2 - (a1.length : Int)), 0))
    refine J_g 62 [] [(4, iv v17)] [] orcN ?_
    exact J_r1 rfl

noncomputable def c14 : Code := (Tryz.f14.body).getD .skip

theorem laws_szDisk.ok (a1 : Disk) (a2 : Int) : Ok Tryz.prog 14 [.ag (Disk.enc false a1), iv a2] [] ((laws_szDisk a1 a2).map fun r => (iv r, [])) := by
  refine Ok_of3 c14 Tryz.f14 0 12 (fun q => ?_)
  unfold laws_szDisk
  refine J_g 2 [(0, 0)] [(1, iv a2), (2, pp 0)] [(0, .box (Disk.enc false a1))] orcN ?_
  refine J_bind (fun x3 h4 => ?_)
  refine J_g 6 [] [(1, iv x3)] [] (orcC 3 (x_c0 [(.tmp 6), (.tmp 7)] [23, 3] (laws_szFileS.ok a1.Files a2) h4) orcN) ?_
  refine J_g 28 [] [(1, iv x3), (10, bv (decide (x3 < 0)))] [] orcN ?_
  refine J_if2 10 (fun h5 => ?_) (fun h5 => ?_)
  · refine J_g 116 [] [(4, iv (-1))] [] orcN ?_
    exact J_r1 rfl
  · refine J_g 30 [] [(4, iv x3)] [] orcN ?_
    exact J_r1 rfl

noncomputable def c8 : Code := (Tryz.f8.body).getD .skip

theorem laws_szSystem.ok (a1 : System) (a2 : Int) : Ok Tryz.prog 8 [.ag (System.enc false a1), iv a2] [] ((laws_szSystem a1 a2).map fun r => (iv r, [])) := by
  refine Ok_of3 c8 Tryz.f8 0 18 (fun q => ?_)
  unfold laws_szSystem
  refine J_g 2 [(0, 0)] [(1, iv a2), (2, pp 0)] [(0, .box (System.enc false a1))] orcN ?_
  refine J_bind (fun x3 h4 => ?_)
  refine J_g 6 [] [(1, iv x3), (2, pp 0)] [(0, .box (System.enc false a1))] (orcC 3 (x_c0 [(.tmp 6), (.tmp 7)] [22, 3] (laws_szPackS.ok a1.Catalog a2) h4) orcN) ?_
  refine J_g 28 [] [(1, iv x3), (2, pp 0), (10, bv (decide (x3 < 0)))] [(0, .box (System.enc false a1))] orcN ?_
  refine J_if2 10 (fun h5 => ?_) (fun h5 => ?_)
  · refine J_g 116 [] [(4, iv (-1))] [] orcN ?_
    exact J_r1 rfl
  · refine J_bind (fun x6 h7 => ?_)
    refine J_g 30 [] [(1, iv x6)] [] (orcC 3 (x_c0 [(.tmp 12), (.tmp 13)] [25, 3] (laws_szDisk.ok a1.Disk x3) h7) orcN) ?_
    refine J_g 124 [] [(1, iv x6), (16, bv (decide (x6 < 0)))] [] orcN ?_
    refine J_if2 16 (fun h8 => ?_) (fun h8 => ?_)
    · refine J_g 500 [] [(4, iv (-1))] [] orcN ?_
      exact J_r1 rfl
    · refine J_g 126 [] [(4, iv x6)] [] orcN ?_
      exact J_r1 rfl

noncomputable def c121 : Code := (Tryz.f121.body).getD .skip

theorem laws_toVersion.ok (a1 : Version) : Ok Tryz.prog 121 [.ag (Version.enc a1)] [] ((laws_toVersion a1).map fun r => (.ag (Version.enc r), [])) := by
  refine Ok_of3 c121 Tryz.f121 0 14 (fun q => ?_)
  unfold laws_toVersion
  refine J_g 2 [(0, 0), (1, 1)] [(1, pp 0), (2, pp 1)] [(0, .box (Version.enc a1)), (1, .box [iv 0, iv 0, iv 0])] orcN ?_
  refine J_g 6 [(0, 2)] [(1, pp 0), (2, pp 1), (3, pp 2)] [(0, .box (Version.enc a1)), (1, .box [iv 0, iv 0, iv 0]), (2, .box [iv 0, iv 0, iv 0])] orcN ?_
  refine J_g 14 [] [(1, pp 0), (2, pp 1), (3, pp 2)] [(0, .box (Version.enc a1)), (1, .box [iv 0, iv 0, iv 0]), (2, .box [iv a1.A, iv 0, iv 0])] orcN ?_
  refine J_g 30 [] [(1, pp 0), (2, pp 1), (3, pp 2)] [(0, .box (Version.enc a1)), (1, .box [iv 0, iv 0, iv 0]), (2, .box [iv a1.A, iv a1.B, iv 0])] orcN ?_
  refine J_g 62 [] [(2, pp 1), (3, pp 2)] [(1, .box [iv 0, iv 0, iv 0]), (2, .box (Version.enc a1))] orcN ?_
  refine J_g 126 [] [(2, pp 1)] [(1, .box (Version.enc a1))] orcN ?_
  exact J_r1 rfl

noncomputable def c122 : Code := (Tryz.f122.body).getD .skip

theorem laws_toStringS_l1.ok (a1 : (List ByteArray)) (q : Wd) (kn : (List ByteArray) → Option (D × List Ent)) (hk : ∀ v : (List ByteArray), J (q.g Tryz.prog 122 0 22) c122 (atI c122 15) (St.mk' [(3, rr 0 v)] [(0, rE 1 eStr v)]) (some v) kn) :
    ∀ s9 : ((List ByteArray) × Int), J (q.g Tryz.prog 122 0 22) c122 (atI c122 116) (St.mk' [(0, sl 1 eStr a1), (3, rr 0 s9.1), (4, iv s9.2)] [(0, rE 1 eStr s9.1)]) (laws_toStringS_l1 a1 s9) kn := by
  refine J_lp (fun g ih s9 => ?_)
  unfold laws_toStringS_l1b
  refine J_g 464 [] [(0, sl 1 eStr a1), (3, rr 0 s9.1), (4, iv s9.2), (11, bv (decide (s9.2 < (a1.length : Int))))] [(0, rE 1 eStr s9.1)] orcN ?_
  refine J_if2 11 (fun h10 => ?_) (fun h10 => ?_)
  · refine J_bind (fun x11 h12 => ?_)
    refine J_bind (fun x13 h14 => ?_)
    refine J_g 932 [] [(0, sl 1 eStr a1), (3, rr 0 s9.1), (4, iv s9.2)] [(0, rE 1 eStr (s9.1.set s9.2.toNat x11))] (orcC 4 (x_ix (kk := .i64) 86 9 1 eStr (.tmp 16) (.tmp 17) h12) (orcC 6 (x_ixr (kk := .i64) 86 9 1 0 eStr (.tmp 14) (.tmp 15) h14) (orcD 7 (x_st (b := x11) 9 1 0 0 eStr (sv x11) (.tmp 20) (.tmp 19) h14 rfl) orcN))) ?_
    refine J_st (σ' := St.mk' [(0, sl 1 eStr a1), (3, rr 0 (s9.1.set s9.2.toNat x11)), (4, iv s9.2)] [(0, rE 1 eStr (s9.1.set s9.2.toNat x11))]) (by simp only [rr, List.length_set]) ?_
    refine J_g 467 [] [(0, sl 1 eStr a1), (3, rr 0 (s9.1.set s9.2.toNat x11)), (4, iv (w64 (s9.2 + 1)))] [(0, rE 1 eStr (s9.1.set s9.2.toNat x11))] orcN ?_
    exact J_q (J_b (ih (s9.1.set s9.2.toNat x11, w64 (s9.2 + 1)))) rfl
  · exact J_qw (hk s9.1) rfl

theorem laws_toStringS.ok (a1 : (List ByteArray)) : Ok Tryz.prog 122 [sl 1 eStr a1] [] ((laws_toStringS a1).map fun r => (so 1 eStr r, [])) := by
  refine Ok_of3 c122 Tryz.f122 0 22 (fun q => ?_)
  unfold laws_toStringS
  refine J_g 2 [] [(0, sl 1 eStr a1)] [] orcN ?_
  refine J_bind (fun x2 h3 => ?_)
  refine J_g 6 [] [(0, sl 1 eStr a1), (3, rr 0 x2)] [(0, rE 1 eStr x2)] (orcC 2 (x_mk 86 9 1 16 0 eStr ByteArray.empty (.tmp 6) h3 (.keep rfl (.nil))) orcN) ?_
  refine J_g 28 [] [(0, sl 1 eStr a1), (3, rr 0 x2), (4, iv 0)] [(0, rE 1 eStr x2)] orcN ?_
  refine J_lq (laws_toStringS_l1.ok a1 q _ (fun v15 => J_j ?_) (x2, 0))
  refine J_g 30 [] [(2, rr 0 v15)] [(0, rE 1 eStr v15)] orcN ?_
  exact J_rm (ds := [rr 0 v15]) (ds' := [so 1 eStr v15]) (.cons (.cell (.move (.head _) (List.length_map _) (by decide) (.nil))) (.nil) (by decide)) rfl

noncomputable def c198 : Code := (Tryz.f198.body).getD .skip

theorem laws_toTerm.ok (a1 : Term) : Ok Tryz.prog 198 [.ag (Term.enc a1)] [] ((laws_toTerm a1).map fun r => (.ag (Term.enc r), [])) := by
  refine Ok_of3 c198 Tryz.f198 0 16 (fun q => ?_)
  unfold laws_toTerm
  refine J_g 2 [(0, 0), (1, 1)] [(1, pp 0), (2, pp 1)] [(0, .box (Term.enc a1)), (1, .box [sv ByteArray.empty, iv 0, iv 0, iv 0, iv 0, iv 0, iv 0])] orcN ?_
  refine J_g 6 [(0, 2)] [(1, pp 0), (2, pp 1), (3, pp 2)] [(0, .box (Term.enc a1)), (1, .box [sv ByteArray.empty, iv 0, iv 0, iv 0, iv 0, iv 0, iv 0]), (2, .box [sv ByteArray.empty, iv 0, iv 0, iv 0, iv 0, iv 0, iv 0])] orcN ?_
  refine J_g 14 [] [(1, pp 0), (2, pp 1), (3, pp 2)] [(0, .box (Term.enc a1)), (1, .box [sv ByteArray.empty, iv 0, iv 0, iv 0, iv 0, iv 0, iv 0]), (2, .box [sv a1.Name, iv 0, iv 0, iv 0, iv 0, iv 0, iv 0])] orcN ?_
  refine J_bind (fun x2 h3 => ?_)
  refine J_g 30 [] [(1, pp 0), (2, pp 1), (3, pp 2)] [(0, .box (Term.enc a1)), (1, .box [sv ByteArray.empty, iv 0, iv 0, iv 0, iv 0, iv 0, iv 0]), (2, .box [sv a1.Name, iv x2.A, iv x2.B, iv x2.C, iv 0, iv 0, iv 0])] (orcC 2 (x_c0 [(.tmp 8)] [85] (laws_toVersion.ok a1.Low) h3) orcN) ?_
  refine J_bind (fun x4 h5 => ?_)
  refine J_g 62 [] [(2, pp 1), (3, pp 2)] [(1, .box [sv ByteArray.empty, iv 0, iv 0, iv 0, iv 0, iv 0, iv 0]), (2, .box [sv a1.Name, iv x2.A, iv x2.B, iv x2.C, iv x4.A, iv x4.B, iv x4.C])] (orcC 2 (x_c0 [(.tmp 12)] [85] (laws_toVersion.ok a1.High) h5) orcN) ?_
  refine J_g 126 [] [(2, pp 1)] [(1, .box [sv a1.Name, iv x2.A, iv x2.B, iv x2.C, iv x4.A, iv x4.B, iv x4.C])] orcN ?_
  exact J_r1 rfl

noncomputable def c124 : Code := (Tryz.f124.body).getD .skip

theorem laws_toTermS_l1.ok (a1 : (List Term)) (q : Wd) (kn : (List Term) → Option (D × List Ent)) (hk : ∀ v : (List Term), J (q.g Tryz.prog 124 0 23) c124 (atI c124 15) (St.mk' [(3, rr 0 v)] [(0, rE 7 Term.enc v)]) (some v) kn) :
    ∀ s11 : ((List Term) × Int), J (q.g Tryz.prog 124 0 23) c124 (atI c124 116) (St.mk' [(0, sl 7 Term.enc a1), (3, rr 0 s11.1), (4, iv s11.2)] [(0, rE 7 Term.enc s11.1)]) (laws_toTermS_l1 a1 s11) kn := by
  refine J_lp (fun g ih s11 => ?_)
  unfold laws_toTermS_l1b
  refine J_g 464 [] [(0, sl 7 Term.enc a1), (3, rr 0 s11.1), (4, iv s11.2), (11, bv (decide (s11.2 < (a1.length : Int))))] [(0, rE 7 Term.enc s11.1)] orcN ?_
  refine J_if2 11 (fun h12 => ?_) (fun h12 => ?_)
  · refine J_bind (fun x13 h14 => ?_)
    refine J_bind (fun x15 h16 => ?_)
    refine J_bind (fun x17 h18 => ?_)
    refine J_g 932 [] [(0, sl 7 Term.enc a1), (3, rr 0 s11.1), (4, iv s11.2)] [(0, rE 7 Term.enc (s11.1.set s11.2.toNat x15))] (orcC 4 (x_ix (kk := .i64) 88 224 7 Term.enc (.tmp 16) (.tmp 17) h14) (orcC 6 (x_c0 [(.tmp 19)] [224] (laws_toTerm.ok x13) h16) (orcC 7 (x_ixr (kk := .i64) 75 149 7 0 Term.enc (.tmp 14) (.tmp 15) h18) (orcD 8 (x_st (b := x15) 149 7 0 0 Term.enc (.ag (Term.enc x15)) (.tmp 21) (.tmp 20) h18 rfl) orcN)))) ?_
    refine J_st (σ' := St.mk' [(0, sl 7 Term.enc a1), (3, rr 0 (s11.1.set s11.2.toNat x15)), (4, iv s11.2)] [(0, rE 7 Term.enc (s11.1.set s11.2.toNat x15))]) (by simp only [rr, List.length_set]) ?_
    refine J_g 467 [] [(0, sl 7 Term.enc a1), (3, rr 0 (s11.1.set s11.2.toNat x15)), (4, iv (w64 (s11.2 + 1)))] [(0, rE 7 Term.enc (s11.1.set s11.2.toNat x15))] orcN ?_
    exact J_q (J_b (ih (s11.1.set s11.2.toNat x15, w64 (s11.2 + 1)))) rfl
  · exact J_qw (hk s11.1) rfl

theorem laws_toTermS.ok (a1 : (List Term)) : Ok Tryz.prog 124 [sl 7 Term.enc a1] [] ((laws_toTermS a1).map fun r => (so 7 Term.enc r, [])) := by
  refine Ok_of3 c124 Tryz.f124 0 23 (fun q => ?_)
  unfold laws_toTermS
  refine J_g 2 [] [(0, sl 7 Term.enc a1)] [] orcN ?_
  refine J_bind (fun x2 h3 => ?_)
  refine J_g 6 [] [(0, sl 7 Term.enc a1), (3, rr 0 x2)] [(0, rE 7 Term.enc x2)] (orcC 2 (x_mk 75 149 7 64 0 Term.enc ({ Name := ByteArray.empty, Low := ({ A := 0, B := 0, C := 0 } : Version), High := ({ A := 0, B := 0, C := 0 } : Version) } : Term) (.tmp 6) h3 (.keep rfl (.keep rfl (.keep rfl (.keep rfl (.keep rfl (.keep rfl (.keep rfl (.nil))))))))) orcN) ?_
  refine J_g 28 [] [(0, sl 7 Term.enc a1), (3, rr 0 x2), (4, iv 0)] [(0, rE 7 Term.enc x2)] orcN ?_
  refine J_lq (laws_toTermS_l1.ok a1 q _ (fun v19 => J_j ?_) (x2, 0))
  refine J_g 30 [] [(2, rr 0 v19)] [(0, rE 7 Term.enc v19)] orcN ?_
  exact J_rm (ds := [rr 0 v19]) (ds' := [so 7 Term.enc v19]) (.cons (.cell (.move (.head _) (List.length_map _) (by decide) (.nil))) (.nil) (by decide)) rfl

noncomputable def c123 : Code := (Tryz.f123.body).getD .skip

theorem laws_toTermSS_l1.ok (a1 : (List (List Term))) (q : Wd) (kn : (List (List Term)) → Option (D × List Ent)) (hk : ∀ v : (List (List Term)), J (q.g Tryz.prog 123 0 23) c123 (atI c123 15) (St.mk' [(3, rr 0 v)] [(0, rE 1 (eSl true 7 Term.enc) v)]) (some v) kn) :
    ∀ s11 : ((List (List Term)) × Int), J (q.g Tryz.prog 123 0 23) c123 (atI c123 116) (St.mk' [(0, sl 1 (eSl false 7 Term.enc) a1), (3, rr 0 s11.1), (4, iv s11.2)] [(0, rE 1 (eSl true 7 Term.enc) s11.1)]) (laws_toTermSS_l1 a1 s11) kn := by
  refine J_lp (fun g ih s11 => ?_)
  unfold laws_toTermSS_l1b
  refine J_g 464 [] [(0, sl 1 (eSl false 7 Term.enc) a1), (3, rr 0 s11.1), (4, iv s11.2), (11, bv (decide (s11.2 < (a1.length : Int))))] [(0, rE 1 (eSl true 7 Term.enc) s11.1)] orcN ?_
  refine J_if2 11 (fun h12 => ?_) (fun h12 => ?_)
  · refine J_bind (fun x13 h14 => ?_)
    refine J_bind (fun x15 h16 => ?_)
    refine J_bind (fun x17 h18 => ?_)
    refine J_g 932 [] [(0, sl 1 (eSl false 7 Term.enc) a1), (3, rr 0 s11.1), (4, iv s11.2)] [(0, rE 1 (eSl true 7 Term.enc) (s11.1.set s11.2.toNat x15))] (orcC 4 (x_ix (kk := .i64) 87 88 1 (eSl false 7 Term.enc) (.tmp 16) (.tmp 17) h14) (orcC 6 (x_c1 («as» := [sl 7 Term.enc x13]) [(.tmp 19)] [88] false [] [] (.cons (.same rfl) (.nil)) (laws_toTermS.ok x13) h16 (.own 1)) (orcC 7 (x_ixr (kk := .i64) 100 75 1 0 (eSl true 7 Term.enc) (.tmp 14) (.tmp 15) h18) (orcD 8 (x_stm (b := x15) (es' := [so 7 Term.enc x15]) (ts := [1]) 75 1 0 0 (eSl true 7 Term.enc) (rr 1 x15) (.tmp 21) (.tmp 20) [(1, rE 7 Term.enc x15)] h18 (.move (.head _) (List.length_map _) (by decide) (.nil)) rfl) orcN)))) ?_
    refine J_st (σ' := St.mk' [(0, sl 1 (eSl false 7 Term.enc) a1), (3, rr 0 (s11.1.set s11.2.toNat x15)), (4, iv s11.2)] [(0, rE 1 (eSl true 7 Term.enc) (s11.1.set s11.2.toNat x15))]) (by simp only [rr, List.length_set]) ?_
    refine J_g 467 [] [(0, sl 1 (eSl false 7 Term.enc) a1), (3, rr 0 (s11.1.set s11.2.toNat x15)), (4, iv (w64 (s11.2 + 1)))] [(0, rE 1 (eSl true 7 Term.enc) (s11.1.set s11.2.toNat x15))] orcN ?_
    exact J_q (J_b (ih (s11.1.set s11.2.toNat x15, w64 (s11.2 + 1)))) rfl
  · exact J_qw (hk s11.1) rfl

theorem laws_toTermSS.ok (a1 : (List (List Term))) : Ok Tryz.prog 123 [sl 1 (eSl false 7 Term.enc) a1] [] ((laws_toTermSS a1).map fun r => (so 1 (eSl true 7 Term.enc) r, [])) := by
  refine Ok_of3 c123 Tryz.f123 0 23 (fun q => ?_)
  unfold laws_toTermSS
  refine J_g 2 [] [(0, sl 1 (eSl false 7 Term.enc) a1)] [] orcN ?_
  refine J_bind (fun x2 h3 => ?_)
  refine J_g 6 [] [(0, sl 1 (eSl false 7 Term.enc) a1), (3, rr 0 x2)] [(0, rE 1 (eSl true 7 Term.enc) x2)] (orcC 2 (x_mk 100 75 1 24 0 (eSl true 7 Term.enc) ([] : List Term) (.tmp 6) h3 (.nilsl true 7 (.nil))) orcN) ?_
  refine J_g 28 [] [(0, sl 1 (eSl false 7 Term.enc) a1), (3, rr 0 x2), (4, iv 0)] [(0, rE 1 (eSl true 7 Term.enc) x2)] orcN ?_
  refine J_lq (laws_toTermSS_l1.ok a1 q _ (fun v19 => J_j ?_) (x2, 0))
  refine J_g 30 [] [(2, rr 0 v19)] [(0, rE 1 (eSl true 7 Term.enc) v19)] orcN ?_
  exact J_rm (ds := [rr 0 v19]) (ds' := [so 1 (eSl true 7 Term.enc) v19]) (.cons (.cell (.move (.head _) (List.length_map _) (by decide) (.nil))) (.nil) (by decide)) rfl

noncomputable def c60 : Code := (Tryz.f60.body).getD .skip

theorem laws_toPack.ok (a1 : Pack) : Ok Tryz.prog 60 [.ag (Pack.enc false a1)] [] ((laws_toPack a1).map fun r => (.ag [sv r.Name, iv r.Version.A, iv r.Version.B, iv r.Version.C, iv r.Size, so 1 eStr r.Provides, so 1 (eSl true 7 Term.enc) r.Needs, so 7 Term.enc r.Bars], [])) := by
  refine Ok_of3 c60 Tryz.f60 0 27 (fun q => ?_)
  unfold laws_toPack
  refine J_g 2 [(0, 0), (1, 1)] [(1, pp 0), (2, pp 1)] [(0, .box (Pack.enc false a1)), (1, .box [sv ByteArray.empty, iv 0, iv 0, iv 0, iv 0, nv, nv, nv])] orcN ?_
  refine J_g 6 [(0, 2)] [(1, pp 0), (2, pp 1), (3, pp 2)] [(0, .box (Pack.enc false a1)), (1, .box [sv ByteArray.empty, iv 0, iv 0, iv 0, iv 0, nv, nv, nv]), (2, .box [sv ByteArray.empty, iv 0, iv 0, iv 0, iv 0, nv, nv, nv])] orcN ?_
  refine J_g 14 [] [(1, pp 0), (2, pp 1), (3, pp 2)] [(0, .box (Pack.enc false a1)), (1, .box [sv ByteArray.empty, iv 0, iv 0, iv 0, iv 0, nv, nv, nv]), (2, .box [sv a1.Name, iv 0, iv 0, iv 0, iv 0, nv, nv, nv])] orcN ?_
  refine J_bind (fun x2 h3 => ?_)
  refine J_g 30 [] [(1, pp 0), (2, pp 1), (3, pp 2)] [(0, .box (Pack.enc false a1)), (1, .box [sv ByteArray.empty, iv 0, iv 0, iv 0, iv 0, nv, nv, nv]), (2, .box [sv a1.Name, iv x2.A, iv x2.B, iv x2.C, iv 0, nv, nv, nv])] (orcC 2 (x_c0 [(.tmp 8)] [85] (laws_toVersion.ok a1.Version) h3) orcN) ?_
  refine J_g 62 [] [(1, pp 0), (2, pp 1), (3, pp 2)] [(0, .box (Pack.enc false a1)), (1, .box [sv ByteArray.empty, iv 0, iv 0, iv 0, iv 0, nv, nv, nv]), (2, .box [sv a1.Name, iv x2.A, iv x2.B, iv x2.C, iv a1.Size, nv, nv, nv])] orcN ?_
  refine J_bind (fun x4 h5 => ?_)
  refine J_g 126 [] [(1, pp 0), (2, pp 1), (3, pp 2)] [(0, .box (Pack.enc false a1)), (1, .box [sv ByteArray.empty, iv 0, iv 0, iv 0, iv 0, nv, nv, nv]), (2, .box [sv a1.Name, iv x2.A, iv x2.B, iv x2.C, iv a1.Size, rr 3 x4, nv, nv]), (3, rE 1 eStr x4)] (orcC 2 (x_c1 («as» := [sl 1 eStr a1.Provides]) [(.tmp 15)] [86] false [] [] (.cons (.same rfl) (.nil)) (laws_toStringS.ok a1.Provides) h5 (.own 3)) orcN) ?_
  refine J_bind (fun x6 h7 => ?_)
  refine J_g 254 [] [(1, pp 0), (2, pp 1), (3, pp 2)] [(0, .box (Pack.enc false a1)), (1, .box [sv ByteArray.empty, iv 0, iv 0, iv 0, iv 0, nv, nv, nv]), (2, .box [sv a1.Name, iv x2.A, iv x2.B, iv x2.C, iv a1.Size, rr 3 x4, rr 4 x6, nv]), (3, rE 1 eStr x4), (4, rE 1 (eSl true 7 Term.enc) x6)] (orcC 2 (x_c1 («as» := [sl 1 (eSl false 7 Term.enc) a1.Needs]) [(.tmp 19)] [87] false [] [] (.cons (.same rfl) (.nil)) (laws_toTermSS.ok a1.Needs) h7 (.own 4)) orcN) ?_
  refine J_bind (fun x8 h9 => ?_)
  refine J_g 510 [] [(2, pp 1), (3, pp 2)] [(1, .box [sv ByteArray.empty, iv 0, iv 0, iv 0, iv 0, nv, nv, nv]), (2, .box [sv a1.Name, iv x2.A, iv x2.B, iv x2.C, iv a1.Size, rr 3 x4, rr 4 x6, rr 5 x8]), (3, rE 1 eStr x4), (4, rE 1 (eSl true 7 Term.enc) x6), (5, rE 7 Term.enc x8)] (orcC 2 (x_c1 («as» := [sl 7 Term.enc a1.Bars]) [(.tmp 23)] [88] false [] [] (.cons (.same rfl) (.nil)) (laws_toTermS.ok a1.Bars) h9 (.own 5)) orcN) ?_
  refine J_g 1022 [] [(2, pp 1)] [(1, .box [sv a1.Name, iv x2.A, iv x2.B, iv x2.C, iv a1.Size, rr 3 x4, rr 4 x6, rr 5 x8]), (3, rE 1 eStr x4), (4, rE 1 (eSl true 7 Term.enc) x6), (5, rE 7 Term.enc x8)] orcN ?_
  exact J_rm (ds := [.ag [sv a1.Name, iv x2.A, iv x2.B, iv x2.C, iv a1.Size, rr 3 x4, rr 4 x6, rr 5 x8]]) (ds' := [.ag [sv a1.Name, iv x2.A, iv x2.B, iv x2.C, iv a1.Size, so 1 eStr x4, so 1 (eSl true 7 Term.enc) x6, so 7 Term.enc x8]]) (.cons (.ag (.keep rfl (.keep rfl (.keep rfl (.keep rfl (.keep rfl (.move (.tail _ (.head _)) (List.length_map _) (by decide) (.move (.tail _ (.tail _ (.head _))) (List.length_map _) (by decide) (.move (.tail _ (.tail _ (.tail _ (.head _)))) (List.length_map _) (by decide) (.nil)))))))))) (.nil) (by decide)) rfl

noncomputable def c16 : Code := (Tryz.f16.body).getD .skip

theorem laws_toPackS_l1.ok (a1 : (List Pack)) (q : Wd) (kn : (List Pack) → Option (D × List Ent)) (hk : ∀ v : (List Pack), J (q.g Tryz.prog 16 0 23) c16 (atI c16 15) (St.mk' [(3, rr 0 v)] [(0, rE 8 (Pack.enc true) v)]) (some v) kn) :
    ∀ s11 : ((List Pack) × Int), J (q.g Tryz.prog 16 0 23) c16 (atI c16 116) (St.mk' [(0, sl 8 (Pack.enc false) a1), (3, rr 0 s11.1), (4, iv s11.2)] [(0, rE 8 (Pack.enc true) s11.1)]) (laws_toPackS_l1 a1 s11) kn := by
  refine J_lp (fun g ih s11 => ?_)
  unfold laws_toPackS_l1b
  refine J_g 464 [] [(0, sl 8 (Pack.enc false) a1), (3, rr 0 s11.1), (4, iv s11.2), (11, bv (decide (s11.2 < (a1.length : Int))))] [(0, rE 8 (Pack.enc true) s11.1)] orcN ?_
  refine J_if2 11 (fun h12 => ?_) (fun h12 => ?_)
  · refine J_bind (fun x13 h14 => ?_)
    refine J_bind (fun x15 h16 => ?_)
    refine J_bind (fun x17 h18 => ?_)
    refine J_g 932 [] [(0, sl 8 (Pack.enc false) a1), (3, rr 0 s11.1), (4, iv s11.2)] [(0, rE 8 (Pack.enc true) (s11.1.set s11.2.toNat x15))] (orcC 4 (x_ix (kk := .i64) 22 90 8 (Pack.enc false) (.tmp 16) (.tmp 17) h14) (orcC 6 (x_c1 («as» := [.ag (Pack.enc false x13)]) [(.tmp 19)] [90] false [] [] (.cons (.same rfl) (.nil)) (laws_toPack.ok x13) h16 (.ag (.cons (.same rfl rfl) (.cons (.same rfl rfl) (.cons (.same rfl rfl) (.cons (.same rfl rfl) (.cons (.same rfl rfl) (.cons (.own 1) (.cons (.own 2) (.cons (.own 3) (.nil))))))))))) (orcC 7 (x_ixr (kk := .i64) 30 102 8 0 (Pack.enc true) (.tmp 14) (.tmp 15) h18) (orcD 8 (x_stm (b := x15) (es' := [sv x15.Name, iv x15.Version.A, iv x15.Version.B, iv x15.Version.C, iv x15.Size, so 1 eStr x15.Provides, so 1 (eSl true 7 Term.enc) x15.Needs, so 7 Term.enc x15.Bars]) (ts := [1, 2, 3]) 102 8 0 0 (Pack.enc true) (.ag [sv x15.Name, iv x15.Version.A, iv x15.Version.B, iv x15.Version.C, iv x15.Size, rr 1 x15.Provides, rr 2 x15.Needs, rr 3 x15.Bars]) (.tmp 21) (.tmp 20) [(1, rE 1 eStr x15.Provides), (2, rE 1 (eSl true 7 Term.enc) x15.Needs), (3, rE 7 Term.enc x15.Bars)] h18 (.keep rfl (.keep rfl (.keep rfl (.keep rfl (.keep rfl (.move (.head _) (List.length_map _) (by decide) (.move (.tail _ (.head _)) (List.length_map _) (by decide) (.move (.tail _ (.tail _ (.head _))) (List.length_map _) (by decide) (.nil))))))))) rfl) orcN)))) ?_
    refine J_st (σ' := St.mk' [(0, sl 8 (Pack.enc false) a1), (3, rr 0 (s11.1.set s11.2.toNat x15)), (4, iv s11.2)] [(0, rE 8 (Pack.enc true) (s11.1.set s11.2.toNat x15))]) (by simp only [rr, List.length_set]) ?_
    refine J_g 467 [] [(0, sl 8 (Pack.enc false) a1), (3, rr 0 (s11.1.set s11.2.toNat x15)), (4, iv (w64 (s11.2 + 1)))] [(0, rE 8 (Pack.enc true) (s11.1.set s11.2.toNat x15))] orcN ?_
    exact J_q (J_b (ih (s11.1.set s11.2.toNat x15, w64 (s11.2 + 1)))) rfl
  · exact J_qw (hk s11.1) rfl

theorem laws_toPackS.ok (a1 : (List Pack)) : Ok Tryz.prog 16 [sl 8 (Pack.enc false) a1] [] ((laws_toPackS a1).map fun r => (so 8 (Pack.enc true) r, [])) := by
  refine Ok_of3 c16 Tryz.f16 0 23 (fun q => ?_)
  unfold laws_toPackS
  refine J_g 2 [] [(0, sl 8 (Pack.enc false) a1)] [] orcN ?_
  refine J_bind (fun x2 h3 => ?_)
  refine J_g 6 [] [(0, sl 8 (Pack.enc false) a1), (3, rr 0 x2)] [(0, rE 8 (Pack.enc true) x2)] (orcC 2 (x_mk 30 102 8 120 0 (Pack.enc true) ({ Name := ByteArray.empty, Version := ({ A := 0, B := 0, C := 0 } : Version), Size := 0, Provides := ([] : List ByteArray), Needs := ([] : List (List Term)), Bars := ([] : List Term) } : Pack) (.tmp 6) h3 (.keep rfl (.keep rfl (.keep rfl (.keep rfl (.keep rfl (.nilsl true 1 (.nilsl true 1 (.nilsl true 7 (.nil)))))))))) orcN) ?_
  refine J_g 28 [] [(0, sl 8 (Pack.enc false) a1), (3, rr 0 x2), (4, iv 0)] [(0, rE 8 (Pack.enc true) x2)] orcN ?_
  refine J_lq (laws_toPackS_l1.ok a1 q _ (fun v19 => J_j ?_) (x2, 0))
  refine J_g 30 [] [(2, rr 0 v19)] [(0, rE 8 (Pack.enc true) v19)] orcN ?_
  exact J_rm (ds := [rr 0 v19]) (ds' := [so 8 (Pack.enc true) v19]) (.cons (.cell (.move (.head _) (List.length_map _) (by decide) (.nil))) (.nil) (by decide)) rfl

noncomputable def c199 : Code := (Tryz.f199.body).getD .skip

theorem laws_toByteS_l1.ok (a1 : (List Int)) (q : Wd) (kn : (List Int) → Option (D × List Ent)) (hk : ∀ v : (List Int), J (q.g Tryz.prog 199 0 22) c199 (atI c199 15) (St.mk' [(3, rr 0 v)] [(0, rE 1 eU8 v)]) (some v) kn) :
    ∀ s9 : ((List Int) × Int), J (q.g Tryz.prog 199 0 22) c199 (atI c199 116) (St.mk' [(0, sl 1 eU8 a1), (3, rr 0 s9.1), (4, iv s9.2)] [(0, rE 1 eU8 s9.1)]) (laws_toByteS_l1 a1 s9) kn := by
  refine J_lp (fun g ih s9 => ?_)
  unfold laws_toByteS_l1b
  refine J_g 464 [] [(0, sl 1 eU8 a1), (3, rr 0 s9.1), (4, iv s9.2), (11, bv (decide (s9.2 < (a1.length : Int))))] [(0, rE 1 eU8 s9.1)] orcN ?_
  refine J_if2 11 (fun h10 => ?_) (fun h10 => ?_)
  · refine J_bind (fun x11 h12 => ?_)
    refine J_bind (fun x13 h14 => ?_)
    refine J_g 932 [] [(0, sl 1 eU8 a1), (3, rr 0 s9.1), (4, iv s9.2)] [(0, rE 1 eU8 (s9.1.set s9.2.toNat x11))] (orcC 4 (x_ix (kk := .i64) 121 5 1 eU8 (.tmp 16) (.tmp 17) h12) (orcC 6 (x_ixr (kk := .i64) 121 5 1 0 eU8 (.tmp 14) (.tmp 15) h14) (orcD 7 (x_st (b := x11) 5 1 0 0 eU8 (uv x11) (.tmp 20) (.tmp 19) h14 rfl) orcN))) ?_
    refine J_st (σ' := St.mk' [(0, sl 1 eU8 a1), (3, rr 0 (s9.1.set s9.2.toNat x11)), (4, iv s9.2)] [(0, rE 1 eU8 (s9.1.set s9.2.toNat x11))]) (by simp only [rr, List.length_set]) ?_
    refine J_g 467 [] [(0, sl 1 eU8 a1), (3, rr 0 (s9.1.set s9.2.toNat x11)), (4, iv (w64 (s9.2 + 1)))] [(0, rE 1 eU8 (s9.1.set s9.2.toNat x11))] orcN ?_
    exact J_q (J_b (ih (s9.1.set s9.2.toNat x11, w64 (s9.2 + 1)))) rfl
  · exact J_qw (hk s9.1) rfl

theorem laws_toByteS.ok (a1 : (List Int)) : Ok Tryz.prog 199 [sl 1 eU8 a1] [] ((laws_toByteS a1).map fun r => (so 1 eU8 r, [])) := by
  refine Ok_of3 c199 Tryz.f199 0 22 (fun q => ?_)
  unfold laws_toByteS
  refine J_g 2 [] [(0, sl 1 eU8 a1)] [] orcN ?_
  refine J_bind (fun x2 h3 => ?_)
  refine J_g 6 [] [(0, sl 1 eU8 a1), (3, rr 0 x2)] [(0, rE 1 eU8 x2)] (orcC 2 (x_mk 121 5 1 1 0 eU8 0 (.tmp 6) h3 (.keep rfl (.nil))) orcN) ?_
  refine J_g 28 [] [(0, sl 1 eU8 a1), (3, rr 0 x2), (4, iv 0)] [(0, rE 1 eU8 x2)] orcN ?_
  refine J_lq (laws_toByteS_l1.ok a1 q _ (fun v15 => J_j ?_) (x2, 0))
  refine J_g 30 [] [(2, rr 0 v15)] [(0, rE 1 eU8 v15)] orcN ?_
  exact J_rm (ds := [rr 0 v15]) (ds' := [so 1 eU8 v15]) (.cons (.cell (.move (.head _) (List.length_map _) (by decide) (.nil))) (.nil) (by decide)) rfl

noncomputable def c125 : Code := (Tryz.f125.body).getD .skip

theorem laws_toFile.ok (a1 : File) : Ok Tryz.prog 125 [.ag (File.enc false a1)] [] ((laws_toFile a1).map fun r => (.ag [sv r.Path, so 1 eU8 r.Data], [])) := by
  refine Ok_of3 c125 Tryz.f125 0 12 (fun q => ?_)
  unfold laws_toFile
  refine J_g 2 [(0, 0), (1, 1)] [(1, pp 0), (2, pp 1)] [(0, .box (File.enc false a1)), (1, .box [sv ByteArray.empty, nv])] orcN ?_
  refine J_g 6 [(0, 2)] [(1, pp 0), (2, pp 1), (3, pp 2)] [(0, .box (File.enc false a1)), (1, .box [sv ByteArray.empty, nv]), (2, .box [sv ByteArray.empty, nv])] orcN ?_
  refine J_g 14 [] [(1, pp 0), (2, pp 1), (3, pp 2)] [(0, .box (File.enc false a1)), (1, .box [sv ByteArray.empty, nv]), (2, .box [sv a1.Path, nv])] orcN ?_
  refine J_bind (fun x2 h3 => ?_)
  refine J_g 30 [] [(2, pp 1), (3, pp 2)] [(1, .box [sv ByteArray.empty, nv]), (2, .box [sv a1.Path, rr 3 x2]), (3, rE 1 eU8 x2)] (orcC 2 (x_c1 («as» := [sl 1 eU8 a1.Data]) [(.tmp 8)] [121] false [] [] (.cons (.same rfl) (.nil)) (laws_toByteS.ok a1.Data) h3 (.own 3)) orcN) ?_
  refine J_g 62 [] [(2, pp 1)] [(1, .box [sv a1.Path, rr 3 x2]), (3, rE 1 eU8 x2)] orcN ?_
  exact J_rm (ds := [.ag [sv a1.Path, rr 3 x2]]) (ds' := [.ag [sv a1.Path, so 1 eU8 x2]]) (.cons (.ag (.keep rfl (.move (.tail _ (.head _)) (List.length_map _) (by decide) (.nil)))) (.nil) (by decide)) rfl

noncomputable def c61 : Code := (Tryz.f61.body).getD .skip

theorem laws_toFileS_l1.ok (a1 : (List File)) (q : Wd) (kn : (List File) → Option (D × List Ent)) (hk : ∀ v : (List File), J (q.g Tryz.prog 61 0 23) c61 (atI c61 15) (St.mk' [(3, rr 0 v)] [(0, rE 2 (File.enc true) v)]) (some v) kn) :
    ∀ s11 : ((List File) × Int), J (q.g Tryz.prog 61 0 23) c61 (atI c61 116) (St.mk' [(0, sl 2 (File.enc false) a1), (3, rr 0 s11.1), (4, iv s11.2)] [(0, rE 2 (File.enc true) s11.1)]) (laws_toFileS_l1 a1 s11) kn := by
  refine J_lp (fun g ih s11 => ?_)
  unfold laws_toFileS_l1b
  refine J_g 464 [] [(0, sl 2 (File.enc false) a1), (3, rr 0 s11.1), (4, iv s11.2), (11, bv (decide (s11.2 < (a1.length : Int))))] [(0, rE 2 (File.enc true) s11.1)] orcN ?_
  refine J_if2 11 (fun h12 => ?_) (fun h12 => ?_)
  · refine J_bind (fun x13 h14 => ?_)
    refine J_bind (fun x15 h16 => ?_)
    refine J_bind (fun x17 h18 => ?_)
    refine J_g 932 [] [(0, sl 2 (File.enc false) a1), (3, rr 0 s11.1), (4, iv s11.2)] [(0, rE 2 (File.enc true) (s11.1.set s11.2.toNat x15))] (orcC 4 (x_ix (kk := .i64) 23 158 2 (File.enc false) (.tmp 16) (.tmp 17) h14) (orcC 6 (x_c1 («as» := [.ag (File.enc false x13)]) [(.tmp 19)] [158] false [] [] (.cons (.same rfl) (.nil)) (laws_toFile.ok x13) h16 (.ag (.cons (.same rfl rfl) (.cons (.own 1) (.nil))))) (orcC 7 (x_ixr (kk := .i64) 31 138 2 0 (File.enc true) (.tmp 14) (.tmp 15) h18) (orcD 8 (x_stm (b := x15) (es' := [sv x15.Path, so 1 eU8 x15.Data]) (ts := [1]) 138 2 0 0 (File.enc true) (.ag [sv x15.Path, rr 1 x15.Data]) (.tmp 21) (.tmp 20) [(1, rE 1 eU8 x15.Data)] h18 (.keep rfl (.move (.head _) (List.length_map _) (by decide) (.nil))) rfl) orcN)))) ?_
    refine J_st (σ' := St.mk' [(0, sl 2 (File.enc false) a1), (3, rr 0 (s11.1.set s11.2.toNat x15)), (4, iv s11.2)] [(0, rE 2 (File.enc true) (s11.1.set s11.2.toNat x15))]) (by simp only [rr, List.length_set]) ?_
    refine J_g 467 [] [(0, sl 2 (File.enc false) a1), (3, rr 0 (s11.1.set s11.2.toNat x15)), (4, iv (w64 (s11.2 + 1)))] [(0, rE 2 (File.enc true) (s11.1.set s11.2.toNat x15))] orcN ?_
    exact J_q (J_b (ih (s11.1.set s11.2.toNat x15, w64 (s11.2 + 1)))) rfl
  · exact J_qw (hk s11.1) rfl

theorem laws_toFileS.ok (a1 : (List File)) : Ok Tryz.prog 61 [sl 2 (File.enc false) a1] [] ((laws_toFileS a1).map fun r => (so 2 (File.enc true) r, [])) := by
  refine Ok_of3 c61 Tryz.f61 0 23 (fun q => ?_)
  unfold laws_toFileS
  refine J_g 2 [] [(0, sl 2 (File.enc false) a1)] [] orcN ?_
  refine J_bind (fun x2 h3 => ?_)
  refine J_g 6 [] [(0, sl 2 (File.enc false) a1), (3, rr 0 x2)] [(0, rE 2 (File.enc true) x2)] (orcC 2 (x_mk 31 138 2 40 0 (File.enc true) ({ Path := ByteArray.empty, Data := ([] : List Int) } : File) (.tmp 6) h3 (.keep rfl (.nilsl true 1 (.nil)))) orcN) ?_
  refine J_g 28 [] [(0, sl 2 (File.enc false) a1), (3, rr 0 x2), (4, iv 0)] [(0, rE 2 (File.enc true) x2)] orcN ?_
  refine J_lq (laws_toFileS_l1.ok a1 q _ (fun v19 => J_j ?_) (x2, 0))
  refine J_g 30 [] [(2, rr 0 v19)] [(0, rE 2 (File.enc true) v19)] orcN ?_
  exact J_rm (ds := [rr 0 v19]) (ds' := [so 2 (File.enc true) v19]) (.cons (.cell (.move (.head _) (List.length_map _) (by decide) (.nil))) (.nil) (by decide)) rfl

noncomputable def c17 : Code := (Tryz.f17.body).getD .skip

theorem laws_toDisk.ok (a1 : Disk) : Ok Tryz.prog 17 [.ag (Disk.enc false a1)] [] ((laws_toDisk a1).map fun r => (.ag (Disk.enc true r), [])) := by
  refine Ok_of3 c17 Tryz.f17 0 21 (fun q => ?_)
  unfold laws_toDisk
  refine J_g 2 [(0, 0), (1, 1)] [(1, pp 0), (2, pp 1)] [(0, .box (Disk.enc false a1)), (1, .box [nv, iv 0, iv 0, iv 0, bv false])] orcN ?_
  refine J_g 6 [(0, 2)] [(1, pp 0), (2, pp 1), (3, pp 2)] [(0, .box (Disk.enc false a1)), (1, .box [nv, iv 0, iv 0, iv 0, bv false]), (2, .box [nv, iv 0, iv 0, iv 0, bv false])] orcN ?_
  refine J_bind (fun x2 h3 => ?_)
  refine J_g 14 [] [(1, pp 0), (2, pp 1), (3, pp 2)] [(0, .box (Disk.enc false a1)), (1, .box [nv, iv 0, iv 0, iv 0, bv false]), (2, .box [rr 3 x2, iv 0, iv 0, iv 0, bv false]), (3, rE 2 (File.enc true) x2)] (orcC 2 (x_c1 («as» := [sl 2 (File.enc false) a1.Files]) [(.tmp 5)] [23] false [] [] (.cons (.same rfl) (.nil)) (laws_toFileS.ok a1.Files) h3 (.own 3)) orcN) ?_
  refine J_g 30 [] [(1, pp 0), (2, pp 1), (3, pp 2)] [(0, .box (Disk.enc false a1)), (1, .box [nv, iv 0, iv 0, iv 0, bv false]), (2, .box [rr 3 x2, iv a1.Budget, iv 0, iv 0, bv false]), (3, rE 2 (File.enc true) x2)] orcN ?_
  refine J_g 62 [] [(1, pp 0), (2, pp 1), (3, pp 2)] [(0, .box (Disk.enc false a1)), (1, .box [nv, iv 0, iv 0, iv 0, bv false]), (2, .box [rr 3 x2, iv a1.Budget, iv a1.Writes, iv 0, bv false]), (3, rE 2 (File.enc true) x2)] orcN ?_
  refine J_g 126 [] [(1, pp 0), (2, pp 1), (3, pp 2)] [(0, .box (Disk.enc false a1)), (1, .box [nv, iv 0, iv 0, iv 0, bv false]), (2, .box [rr 3 x2, iv a1.Budget, iv a1.Writes, iv a1.Stop, bv false]), (3, rE 2 (File.enc true) x2)] orcN ?_
  refine J_g 254 [] [(2, pp 1), (3, pp 2)] [(1, .box [nv, iv 0, iv 0, iv 0, bv false]), (2, .box [rr 3 x2, iv a1.Budget, iv a1.Writes, iv a1.Stop, bv a1.Down]), (3, rE 2 (File.enc true) x2)] orcN ?_
  refine J_g 510 [] [(2, pp 1)] [(1, .box [rr 3 x2, iv a1.Budget, iv a1.Writes, iv a1.Stop, bv a1.Down]), (3, rE 2 (File.enc true) x2)] orcN ?_
  exact J_rm (ds := [.ag [rr 3 x2, iv a1.Budget, iv a1.Writes, iv a1.Stop, bv a1.Down]]) (ds' := [.ag [so 2 (File.enc true) x2, iv a1.Budget, iv a1.Writes, iv a1.Stop, bv a1.Down]]) (.cons (.ag (.move (.tail _ (.head _)) (List.length_map _) (by decide) (.keep rfl (.keep rfl (.keep rfl (.keep rfl (.nil))))))) (.nil) (by decide)) rfl

noncomputable def c10 : Code := (Tryz.f10.body).getD .skip

theorem laws_toSystem.ok (a1 : System) : Ok Tryz.prog 10 [.ag (System.enc false a1)] [] ((laws_toSystem a1).map fun r => (.ag (System.enc true r), [])) := by
  refine Ok_of3 c10 Tryz.f10 0 13 (fun q => ?_)
  unfold laws_toSystem
  refine J_g 2 [(0, 0), (1, 1)] [(1, pp 0), (2, pp 1)] [(0, .box (System.enc false a1)), (1, .box [nv, nv, iv 0, iv 0, iv 0, bv false])] orcN ?_
  refine J_g 6 [(0, 2)] [(1, pp 0), (2, pp 1), (3, pp 2)] [(0, .box (System.enc false a1)), (1, .box [nv, nv, iv 0, iv 0, iv 0, bv false]), (2, .box [nv, nv, iv 0, iv 0, iv 0, bv false])] orcN ?_
  refine J_bind (fun x2 h3 => ?_)
  refine J_g 14 [] [(1, pp 0), (2, pp 1), (3, pp 2)] [(0, .box (System.enc false a1)), (1, .box [nv, nv, iv 0, iv 0, iv 0, bv false]), (2, .box [rr 3 x2, nv, iv 0, iv 0, iv 0, bv false]), (3, rE 8 (Pack.enc true) x2)] (orcC 2 (x_c1 («as» := [sl 8 (Pack.enc false) a1.Catalog]) [(.tmp 5)] [22] false [] [] (.cons (.same rfl) (.nil)) (laws_toPackS.ok a1.Catalog) h3 (.own 3)) orcN) ?_
  refine J_bind (fun x4 h5 => ?_)
  refine J_g 30 [] [(2, pp 1), (3, pp 2)] [(1, .box [nv, nv, iv 0, iv 0, iv 0, bv false]), (2, .box [rr 3 x2, rr 4 x4.Files, iv x4.Budget, iv x4.Writes, iv x4.Stop, bv x4.Down]), (3, rE 8 (Pack.enc true) x2), (4, rE 2 (File.enc true) x4.Files)] (orcC 2 (x_c1 («as» := [.ag (Disk.enc false a1.Disk)]) [(.tmp 9)] [25] false [] [] (.cons (.same rfl) (.nil)) (laws_toDisk.ok a1.Disk) h5 (.ag (.cons (.own 4) (.cons (.same rfl rfl) (.cons (.same rfl rfl) (.cons (.same rfl rfl) (.cons (.same rfl rfl) (.nil)))))))) orcN) ?_
  refine J_g 62 [] [(2, pp 1)] [(1, .box [rr 3 x2, rr 4 x4.Files, iv x4.Budget, iv x4.Writes, iv x4.Stop, bv x4.Down]), (3, rE 8 (Pack.enc true) x2), (4, rE 2 (File.enc true) x4.Files)] orcN ?_
  exact J_rm (ds := [.ag [rr 3 x2, rr 4 x4.Files, iv x4.Budget, iv x4.Writes, iv x4.Stop, bv x4.Down]]) (ds' := [.ag [so 8 (Pack.enc true) x2, so 2 (File.enc true) x4.Files, iv x4.Budget, iv x4.Writes, iv x4.Stop, bv x4.Down]]) (.cons (.ag (.move (.tail _ (.head _)) (List.length_map _) (by decide) (.move (.tail _ (.tail _ (.head _))) (List.length_map _) (by decide) (.keep rfl (.keep rfl (.keep rfl (.keep rfl (.nil)))))))) (.nil) (by decide)) rfl

noncomputable def c289 : Code := (Tryz.f289.body).getD .skip

theorem spec_l1Letter.ok (a1 : Int) : Ok Tryz.prog 289 [uv a1] [] ((spec_l1Letter a1).map fun r => (bv r, [])) := by
  refine Ok_of3 c289 Tryz.f289 0 9 (fun q => ?_)
  unfold spec_l1Letter
  refine J_g 2 [] [(0, uv a1)] [] orcN ?_
  refine J_ite (fun h2 => ?_) (fun h2 => ?_)
  · refine J_g 6 [] [(2, bv (decide (a1 ≤ 122)))] [] (orcL 2 [(4, bv (decide (a1 ≥ 97)))] [] h2 orcN) ?_
    exact J_r1 rfl
  · refine J_g 6 [] [(2, bv false)] [] (orcL 2 [(4, bv (decide (a1 ≥ 97)))] [] h2 orcN) ?_
    exact J_r1 rfl

noncomputable def c233 : Code := (Tryz.f233.body).getD .skip

theorem spec_l1Digit.ok (a1 : Int) : Ok Tryz.prog 233 [uv a1] [] ((spec_l1Digit a1).map fun r => (bv r, [])) := by
  refine Ok_of3 c233 Tryz.f233 0 9 (fun q => ?_)
  unfold spec_l1Digit
  refine J_g 2 [] [(0, uv a1)] [] orcN ?_
  refine J_ite (fun h2 => ?_) (fun h2 => ?_)
  · refine J_g 6 [] [(2, bv (decide (a1 ≤ 57)))] [] (orcL 2 [(4, bv (decide (a1 ≥ 48)))] [] h2 orcN) ?_
    exact J_r1 rfl
  · refine J_g 6 [] [(2, bv false)] [] (orcL 2 [(4, bv (decide (a1 ≥ 48)))] [] h2 orcN) ?_
    exact J_r1 rfl

noncomputable def c236 : Code := (Tryz.f236.body).getD .skip

theorem spec_l1Name.ok (a1 : Int) : Ok Tryz.prog 236 [uv a1] [] ((spec_l1Name a1).map fun r => (bv r, [])) := by
  refine Ok_of3 c236 Tryz.f236 0 13 (fun q => ?_)
  unfold spec_l1Name
  refine J_g 2 [] [(0, uv a1)] [] orcN ?_
  refine J_bind (fun x2 h3 => ?_)
  refine J_ite (fun h4 => ?_) (fun h4 => ?_)
  · refine J_g 6 [] [(2, bv true)] [] (orcC 1 (x_c0 [(.tmp 3)] [5] (spec_l1Letter.ok a1) h3) (orcL 2 [(4, bv x2)] [] h4 orcN)) ?_
    exact J_r1 rfl
  · refine J_bind (fun x5 h6 => ?_)
    refine J_ite (fun h7 => ?_) (fun h7 => ?_)
    · refine J_g 6 [] [(2, bv true)] [] (orcC 1 (x_c0 [(.tmp 3)] [5] (spec_l1Letter.ok a1) h3) (orcL 2 [(4, bv x2)] [] h4 (orcH 4 2 5 false (x_c0 [(.tmp 6)] [5] (spec_l1Digit.ok a1) h6) (orcL 6 [(8, bv x5)] [] h7 orcN)))) ?_
      exact J_r1 rfl
    · refine J_g 6 [] [(2, bv (a1 == 95))] [] (orcC 1 (x_c0 [(.tmp 3)] [5] (spec_l1Letter.ok a1) h3) (orcL 2 [(4, bv x2)] [] h4 (orcH 4 2 5 false (x_c0 [(.tmp 6)] [5] (spec_l1Digit.ok a1) h6) (orcL 6 [(8, bv x5)] [] h7 orcN)))) ?_
      exact J_r1 rfl

noncomputable def c228 : Code := (Tryz.f228.body).getD .skip

theorem spec_NameFault_l1.ok (a1 : ByteArray) (q : Wd) (kn : Unit → Option (D × List Ent)) (hk : ∀ v : Unit, J (q.g Tryz.prog 228 0 29) c228 (atI c228 15) (St.mk' [] []) (some v) kn) :
    ∀ s16 : Int, J (q.g Tryz.prog 228 0 29) c228 (atI c228 116) (St.mk' [(0, sv a1), (3, iv s16)] []) (spec_NameFault_l1 a1 s16) (Fl.go (fun r : Int => some (iv r, [])) kn) := by
  refine J_lp (fun g ih s16 => ?_)
  unfold spec_NameFault_l1b
  refine J_g 464 [] [(0, sv a1), (3, iv s16), (21, bv (decide (s16 < (a1.size : Int))))] [] orcN ?_
  refine J_if2 21 (fun h17 => ?_) (fun h17 => ?_)
  · refine J_bind (fun x18 h19 => ?_)
    refine J_bind (fun x20 h21 => ?_)
    refine J_g 1864 [] [(0, sv a1), (3, iv s16), (28, bv (!x20))] [] (orcC 2 (x_bi (kk := .i64) 9 (.tmp 24) (.tmp 25) h19) (orcC 3 (x_c0 [(.tmp 26)] [5] (spec_l1Name.ok x18) h21) orcN)) ?_
    refine J_if2 28 (fun h22 => ?_) (fun h22 => ?_)
    · refine J_g 7460 [] [(2, iv 5)] [] orcN ?_
      exact J_r1 rfl
    · refine J_g 467 [] [(0, sv a1), (3, iv (w64 (s16 + 1)))] [] orcN ?_
      exact J_q (J_b (ih (w64 (s16 + 1)))) rfl
  · exact J_qw (hk ()) rfl

theorem spec_NameFault.ok (a1 : ByteArray) : Ok Tryz.prog 228 [sv a1] [] ((spec_NameFault a1).map fun r => (iv r, [])) := by
  refine Ok_of3 c228 Tryz.f228 0 29 (fun q => ?_)
  unfold spec_NameFault
  refine J_g 2 [] [(0, sv a1)] [] orcN ?_
  refine J_join (atI c228 13) (fun v8 : Bool => St.mk' [(0, sv a1), (17, bv v8)] []) (fun v8 => ?_) (fun jv8 => ?_)
  · refine J_if2 17 (fun h9 => ?_) (fun h9 => ?_)
    · refine J_g 52 [] [(2, iv 5)] [] orcN ?_
      exact J_r1 rfl
    · refine J_g 28 [] [(0, sv a1), (3, iv 0)] [] orcN ?_
      refine J_lqF (K0 := (fun r : Int => some (iv r, []))) (fun _ => rfl) (spec_NameFault_l1.ok a1 q _ (fun v23 => J_j ?_) 0)
      refine J_g 30 [] [(2, iv 0)] [] orcN ?_
      exact J_r1 rfl
  · refine J_ite (fun h2 => ?_) (fun h2 => ?_)
    · refine J_g 12 [] [(0, sv a1), (17, bv true)] [] (orcL 3 [(6, bv (decide ((a1.size : Int) < 1)))] [] h2 orcN) ?_
      exact J_qw (J_j (jv8 true)) rfl
    · refine J_ite (fun h3 => ?_) (fun h3 => ?_)
      · refine J_g 12 [] [(0, sv a1), (17, bv true)] [] (orcL 3 [(6, bv (decide ((a1.size : Int) < 1)))] [] h2 (orcL 8 [(11, bv (decide ((a1.size : Int) > 12)))] [] h3 orcN)) ?_
        exact J_qw (J_j (jv8 true)) rfl
      · refine J_bind (fun x4 h5 => ?_)
        refine J_bind (fun x6 h7 => ?_)
        refine J_g 12 [] [(0, sv a1), (17, bv (!x6))] [] (orcL 3 [(6, bv (decide ((a1.size : Int) < 1)))] [] h2 (orcL 8 [(11, bv (decide ((a1.size : Int) > 12)))] [] h3 (orcH 10 8 12 false (x_bi (kk := .i64) 9 (.tmp 13) (.const (.int .i64 0)) h5) (orcH 11 8 12 false (x_c0 [(.tmp 14)] [5] (spec_l1Letter.ok x4) h7) orcN)))) ?_
        exact J_qw (J_j (jv8 (!x6))) rfl

noncomputable def c164 : Code := (Tryz.f164.body).getD .skip

theorem spec_l1In.ok (a1 : Int) (a2 : Int) (a3 : Int) : Ok Tryz.prog 164 [iv a1, iv a2, iv a3] [] ((spec_l1In a1 a2 a3).map fun r => (bv r, [])) := by
  refine Ok_of3 c164 Tryz.f164 0 15 (fun q => ?_)
  unfold spec_l1In
  refine J_g 2 [] [(0, iv a1), (1, iv a2), (2, iv a3)] [] orcN ?_
  refine J_ite (fun h4 => ?_) (fun h4 => ?_)
  · refine J_g 6 [] [(6, bv (decide (a1 ≤ a3)))] [] (orcL 3 [(9, bv (decide (a1 ≥ a2)))] [] h4 orcN) ?_
    exact J_r1 rfl
  · refine J_g 6 [] [(6, bv false)] [] (orcL 3 [(9, bv (decide (a1 ≥ a2)))] [] h4 orcN) ?_
    exact J_r1 rfl

noncomputable def c229 : Code := (Tryz.f229.body).getD .skip

theorem spec_VersionFault.ok (a1 : Version) : Ok Tryz.prog 229 [.ag (Version.enc a1)] [] ((spec_VersionFault a1).map fun r => (iv r, [])) := by
  refine Ok_of3 c229 Tryz.f229 0 19 (fun q => ?_)
  unfold spec_VersionFault
  refine J_g 2 [(0, 0)] [(1, pp 0)] [(0, .box (Version.enc a1))] orcN ?_
  refine J_bind (fun x2 h3 => ?_)
  refine J_join (atI c229 13) (fun v10 : Bool => St.mk' [(18, bv v10)] []) (fun v10 => ?_) (fun jv10 => ?_)
  · refine J_if2 18 (fun h11 => ?_) (fun h11 => ?_)
    · refine J_g 52 [] [(2, iv 3)] [] orcN ?_
      exact J_r1 rfl
    · refine J_g 14 [] [(2, iv 0)] [] orcN ?_
      exact J_r1 rfl
  · refine J_ite (fun h4 => ?_) (fun h4 => ?_)
    · refine J_g 12 [] [(18, bv true)] [] (orcC 2 (x_c0 [(.tmp 4), (.const (.int .i64 0)), (.const (.int .i64 999))] [2, 2, 2] (spec_l1In.ok a1.A 0 999) h3) (orcL 4 [(6, bv (!x2))] [] h4 orcN)) ?_
      exact J_qw (J_j (jv10 true)) rfl
    · refine J_bind (fun x5 h6 => ?_)
      refine J_ite (fun h7 => ?_) (fun h7 => ?_)
      · refine J_g 12 [] [(18, bv true)] [] (orcC 2 (x_c0 [(.tmp 4), (.const (.int .i64 0)), (.const (.int .i64 999))] [2, 2, 2] (spec_l1In.ok a1.A 0 999) h3) (orcL 4 [(6, bv (!x2))] [] h4 (orcH 7 4 7 false (x_c0 [(.tmp 9), (.const (.int .i64 0)), (.const (.int .i64 999))] [2, 2, 2] (spec_l1In.ok a1.B 0 999) h6) (orcL 10 [(12, bv (!x5))] [] h7 orcN)))) ?_
        exact J_qw (J_j (jv10 true)) rfl
      · refine J_bind (fun x8 h9 => ?_)
        refine J_g 12 [] [(18, bv (!x8))] [] (orcC 2 (x_c0 [(.tmp 4), (.const (.int .i64 0)), (.const (.int .i64 999))] [2, 2, 2] (spec_l1In.ok a1.A 0 999) h3) (orcL 4 [(6, bv (!x2))] [] h4 (orcH 7 4 7 false (x_c0 [(.tmp 9), (.const (.int .i64 0)), (.const (.int .i64 999))] [2, 2, 2] (spec_l1In.ok a1.B 0 999) h6) (orcL 10 [(12, bv (!x5))] [] h7 (orcH 13 10 13 false (x_c0 [(.tmp 15), (.const (.int .i64 0)), (.const (.int .i64 999))] [2, 2, 2] (spec_l1In.ok a1.C 0 999) h9) orcN))))) ?_
        exact J_qw (J_j (jv10 (!x8))) rfl

noncomputable def c119 : Code := (Tryz.f119.body).getD .skip

theorem spec_l2Holds_l1.ok (a1 : (List ByteArray)) (a2 : ByteArray) (q : Wd) (kn : Unit → Option (D × List Ent)) (hk : ∀ v : Unit, J (q.g Tryz.prog 119 0 18) c119 (atI c119 7) (St.mk' [] []) (some v) kn) :
    ∀ s7 : Int, J (q.g Tryz.prog 119 0 18) c119 (atI c119 52) (St.mk' [(0, sl 1 eStr a1), (1, sv a2), (5, iv s7)] []) (spec_l2Holds_l1 a1 a2 s7) (Fl.go (fun r : Bool => some (bv r, [])) kn) := by
  refine J_lp (fun g ih s7 => ?_)
  unfold spec_l2Holds_l1b
  refine J_g 208 [] [(0, sl 1 eStr a1), (1, sv a2), (5, iv s7), (9, bv (decide (s7 < (a1.length : Int))))] [] orcN ?_
  refine J_if2 9 (fun h8 => ?_) (fun h8 => ?_)
  · refine J_bind (fun x9 h10 => ?_)
    refine J_g 840 [] [(0, sl 1 eStr a1), (1, sv a2), (5, iv s7), (17, bv (seq x9 a2))] [] (orcC 2 (x_ix (kk := .i64) 86 9 1 eStr (.tmp 12) (.tmp 13) h10) orcN) ?_
    refine J_if2 17 (fun h11 => ?_) (fun h11 => ?_)
    · refine J_g 3364 [] [(4, bv true)] [] orcN ?_
      exact J_r1 rfl
    · refine J_g 211 [] [(0, sl 1 eStr a1), (1, sv a2), (5, iv (w64 (s7 + 1)))] [] orcN ?_
      exact J_q (J_b (ih (w64 (s7 + 1)))) rfl
  · exact J_qw (hk ()) rfl

theorem spec_l2Holds.ok (a1 : (List ByteArray)) (a2 : ByteArray) : Ok Tryz.prog 119 [sl 1 eStr a1, sv a2] [] ((spec_l2Holds a1 a2).map fun r => (bv r, [])) := by
  refine Ok_of3 c119 Tryz.f119 0 18 (fun q => ?_)
  unfold spec_l2Holds
  refine J_g 2 [] [(0, sl 1 eStr a1), (1, sv a2)] [] orcN ?_
  refine J_g 12 [] [(0, sl 1 eStr a1), (1, sv a2), (5, iv 0)] [] orcN ?_
  refine J_lqF (K0 := (fun r : Bool => some (bv r, []))) (fun _ => rfl) (spec_l2Holds_l1.ok a1 a2 q _ (fun v12 => J_j ?_) 0)
  refine J_g 14 [] [(4, bv false)] [] orcN ?_
  exact J_r1 rfl

noncomputable def c292 : Code := (Tryz.f292.body).getD .skip

theorem spec_l1Top.ok  : Ok Tryz.prog 292 [] [] ((spec_l1Top).map fun r => (.ag (Version.enc r), [])) := by
  refine Ok_of3 c292 Tryz.f292 0 2 (fun q => ?_)
  unfold spec_l1Top
  refine J_g 2 [(0, 0)] [(0, pp 0)] [(0, .box [iv 0, iv 0, iv 0])] orcN ?_
  refine J_g 6 [] [(0, pp 0)] [(0, .box [iv 1000, iv 0, iv 0])] orcN ?_
  exact J_r1 rfl

noncomputable def c290 : Code := (Tryz.f290.body).getD .skip

theorem spec_l1Sign.ok (a1 : Int) (a2 : Int) : Ok Tryz.prog 290 [iv a1, iv a2] [] ((spec_l1Sign a1 a2).map fun r => (iv r, [])) := by
  refine Ok_of3 c290 Tryz.f290 0 11 (fun q => ?_)
  unfold spec_l1Sign
  refine J_g 2 [] [(0, iv a1), (1, iv a2)] [] orcN ?_
  refine J_g 12 [] [(0, iv a1), (1, iv a2), (7, bv (decide (a1 < a2)))] [] orcN ?_
  refine J_if2 7 (fun h3 => ?_) (fun h3 => ?_)
  · refine J_g 52 [] [(4, iv (-1))] [] orcN ?_
    exact J_r1 rfl
  · refine J_g 28 [] [(10, bv (decide (a1 > a2)))] [] orcN ?_
    refine J_if2 10 (fun h4 => ?_) (fun h4 => ?_)
    · refine J_g 116 [] [(4, iv 1)] [] orcN ?_
      exact J_r1 rfl
    · refine J_g 30 [] [(4, iv 0)] [] orcN ?_
      exact J_r1 rfl

noncomputable def c231 : Code := (Tryz.f231.body).getD .skip

theorem spec_CompareVersions.ok (a1 : Version) (a2 : Version) : Ok Tryz.prog 231 [.ag (Version.enc a1), .ag (Version.enc a2)] [] ((spec_CompareVersions a1 a2).map fun r => (iv r, [])) := by
  refine Ok_of3 c231 Tryz.f231 0 28 (fun q => ?_)
  unfold spec_CompareVersions
  refine J_g 2 [(0, 0), (1, 1)] [(2, pp 0), (3, pp 1)] [(0, .box (Version.enc a1)), (1, .box (Version.enc a2))] orcN ?_
  refine J_bind (fun x3 h4 => ?_)
  refine J_g 12 [] [(2, pp 0), (3, pp 1), (5, iv x3)] [(0, .box (Version.enc a1)), (1, .box (Version.enc a2))] (orcC 4 (x_c0 [(.tmp 8), (.tmp 10)] [2, 2] (spec_l1Sign.ok a1.A a2.A) h4) orcN) ?_
  refine J_g 26 [] [(2, pp 0), (3, pp 1), (5, iv x3), (13, bv (x3 != 0))] [(0, .box (Version.enc a1)), (1, .box (Version.enc a2))] orcN ?_
  refine J_if2 13 (fun h5 => ?_) (fun h5 => ?_)
  · refine J_g 108 [] [(4, iv x3)] [] orcN ?_
    exact J_r1 rfl
  · refine J_bind (fun x6 h7 => ?_)
    refine J_g 28 [] [(2, pp 0), (3, pp 1), (6, iv x6)] [(0, .box (Version.enc a1)), (1, .box (Version.enc a2))] (orcC 4 (x_c0 [(.tmp 16), (.tmp 18)] [2, 2] (spec_l1Sign.ok a1.B a2.B) h7) orcN) ?_
    refine J_g 58 [] [(2, pp 0), (3, pp 1), (6, iv x6), (21, bv (x6 != 0))] [(0, .box (Version.enc a1)), (1, .box (Version.enc a2))] orcN ?_
    refine J_if2 21 (fun h8 => ?_) (fun h8 => ?_)
    · refine J_g 236 [] [(4, iv x6)] [] orcN ?_
      exact J_r1 rfl
    · refine J_bind (fun x9 h10 => ?_)
      refine J_g 30 [] [(4, iv x9)] [] (orcC 4 (x_c0 [(.tmp 24), (.tmp 26)] [2, 2] (spec_l1Sign.ok a1.C a2.C) h10) orcN) ?_
      exact J_r1 rfl

noncomputable def c238 : Code := (Tryz.f238.body).getD .skip

theorem spec_TermFault.ok (a1 : Term) : Ok Tryz.prog 238 [.ag (Term.enc a1)] [] ((spec_TermFault a1).map fun r => (iv r, [])) := by
  refine Ok_of3 c238 Tryz.f238 0 33 (fun q => ?_)
  unfold spec_TermFault
  refine J_g 2 [(0, 0)] [(1, pp 0)] [(0, .box (Term.enc a1))] orcN ?_
  refine J_bind (fun x2 h3 => ?_)
  refine J_g 12 [] [(1, pp 0), (3, iv x2)] [(0, .box (Term.enc a1))] (orcC 2 (x_c0 [(.tmp 6)] [9] (spec_NameFault.ok a1.Name) h3) orcN) ?_
  refine J_g 26 [] [(1, pp 0), (3, iv x2), (9, bv (x2 != 0))] [(0, .box (Term.enc a1))] orcN ?_
  refine J_if2 9 (fun h4 => ?_) (fun h4 => ?_)
  · refine J_g 108 [] [(2, iv x2)] [] orcN ?_
    exact J_r1 rfl
  · refine J_bind (fun x5 h6 => ?_)
    refine J_g 28 [] [(1, pp 0), (4, iv x5)] [(0, .box (Term.enc a1))] (orcC 2 (x_c0 [(.tmp 12)] [99] (spec_VersionFault.ok a1.Low) h6) orcN) ?_
    refine J_g 58 [] [(1, pp 0), (4, iv x5), (15, bv (x5 != 0))] [(0, .box (Term.enc a1))] orcN ?_
    refine J_if2 15 (fun h7 => ?_) (fun h7 => ?_)
    · refine J_g 236 [] [(2, iv x5)] [] orcN ?_
      exact J_r1 rfl
    · refine J_bind (fun x8 h9 => ?_)
      refine J_join (atI c238 61) (fun v13 : Bool => St.mk' [(1, pp 0), (26, bv v13)] [(0, .box (Term.enc a1))]) (fun v13 => ?_) (fun jv13 => ?_)
      · refine J_if2 26 (fun h14 => ?_) (fun h14 => ?_)
        · refine J_g 244 [] [(2, iv 3)] [] orcN ?_
          exact J_r1 rfl
        · refine J_bind (fun x15 h16 => ?_)
          refine J_g 124 [] [(32, bv (decide (x15 ≥ 0)))] [] (orcC 4 (x_c0 [(.tmp 28), (.tmp 30)] [99, 99] (spec_CompareVersions.ok a1.Low a1.High) h16) orcN) ?_
          refine J_if2 32 (fun h17 => ?_) (fun h17 => ?_)
          · refine J_g 500 [] [(2, iv 1)] [] orcN ?_
            exact J_r1 rfl
          · refine J_g 126 [] [(2, iv 0)] [] orcN ?_
            exact J_r1 rfl
      · refine J_ite (fun h10 => ?_) (fun h10 => ?_)
        · refine J_bind (fun x11 h12 => ?_)
          refine J_g 60 [] [(1, pp 0), (26, bv (x11 != 0))] [(0, .box (Term.enc a1))] (orcC 2 (x_c0 [] [] (spec_l1Top.ok) h9) (orcC 3 (x_seq (b := .neq) (r := (a1.High.A == x8.A && (a1.High.B == x8.B && (a1.High.C == x8.C && true)))) 99 99 (.tmp 18) (.tmp 19) [.int .i64 a1.High.A, .int .i64 a1.High.B, .int .i64 a1.High.C] [.int .i64 x8.A, .int .i64 x8.B, .int .i64 x8.C] (.inr ⟨rfl, rfl⟩)) (orcL 4 [(20, bv (!(a1.High.A == x8.A && (a1.High.B == x8.B && (a1.High.C == x8.C && true)))))] [] h10 (orcH 7 4 21 true (x_c0 [(.tmp 23)] [99] (spec_VersionFault.ok a1.High) h12) orcN)))) ?_
          exact J_qw (J_j (jv13 (x11 != 0))) rfl
        · refine J_g 60 [] [(1, pp 0), (26, bv false)] [(0, .box (Term.enc a1))] (orcC 2 (x_c0 [] [] (spec_l1Top.ok) h9) (orcC 3 (x_seq (b := .neq) (r := (a1.High.A == x8.A && (a1.High.B == x8.B && (a1.High.C == x8.C && true)))) 99 99 (.tmp 18) (.tmp 19) [.int .i64 a1.High.A, .int .i64 a1.High.B, .int .i64 a1.High.C] [.int .i64 x8.A, .int .i64 x8.B, .int .i64 x8.C] (.inr ⟨rfl, rfl⟩)) (orcL 4 [(20, bv (!(a1.High.A == x8.A && (a1.High.B == x8.B && (a1.High.C == x8.C && true)))))] [] h10 orcN))) ?_
          exact J_qw (J_j (jv13 false)) rfl

noncomputable def c230 : Code := (Tryz.f230.body).getD .skip

theorem spec_l2Terms_l1.ok (a1 : (List Term)) (q : Wd) (kn : Unit → Option (D × List Ent)) (hk : ∀ v : Unit, J (q.g Tryz.prog 230 0 19) c230 (atI c230 7) (St.mk' [] []) (some v) kn) :
    ∀ s8 : Int, J (q.g Tryz.prog 230 0 19) c230 (atI c230 52) (St.mk' [(0, sl 7 Term.enc a1), (3, iv s8)] []) (spec_l2Terms_l1 a1 s8) (Fl.go (fun r : Int => some (iv r, [])) kn) := by
  refine J_lp (fun g ih s8 => ?_)
  unfold spec_l2Terms_l1b
  refine J_g 208 [] [(0, sl 7 Term.enc a1), (3, iv s8), (8, bv (decide (s8 < (a1.length : Int))))] [] orcN ?_
  refine J_if2 8 (fun h9 => ?_) (fun h9 => ?_)
  · refine J_bind (fun x10 h11 => ?_)
    refine J_bind (fun x12 h13 => ?_)
    refine J_g 840 [] [(0, sl 7 Term.enc a1), (3, iv s8), (4, iv x12)] [] (orcC 2 (x_ix (kk := .i64) 75 149 7 Term.enc (.tmp 11) (.tmp 12) h11) (orcC 4 (x_c0 [(.tmp 14)] [149] (spec_TermFault.ok x10) h13) orcN)) ?_
    refine J_g 1682 [] [(0, sl 7 Term.enc a1), (3, iv s8), (4, iv x12), (17, bv (x12 != 0))] [] orcN ?_
    refine J_if2 17 (fun h14 => ?_) (fun h14 => ?_)
    · refine J_g 6732 [] [(2, iv x12)] [] orcN ?_
      exact J_r1 rfl
    · refine J_g 211 [] [(0, sl 7 Term.enc a1), (3, iv (w64 (s8 + 1)))] [] orcN ?_
      exact J_q (J_b (ih (w64 (s8 + 1)))) rfl
  · exact J_qw (hk ()) rfl

theorem spec_l2Terms.ok (a1 : (List Term)) : Ok Tryz.prog 230 [sl 7 Term.enc a1] [] ((spec_l2Terms a1).map fun r => (iv r, [])) := by
  refine Ok_of3 c230 Tryz.f230 0 19 (fun q => ?_)
  unfold spec_l2Terms
  refine J_g 2 [] [(0, sl 7 Term.enc a1)] [] orcN ?_
  refine J_g 12 [] [(0, sl 7 Term.enc a1), (3, iv 0)] [] orcN ?_
  refine J_lqF (K0 := (fun r : Int => some (iv r, []))) (fun _ => rfl) (spec_l2Terms_l1.ok a1 q _ (fun v15 => J_j ?_) 0)
  refine J_g 14 [] [(2, iv 0)] [] orcN ?_
  exact J_r1 rfl

noncomputable def c162 : Code := (Tryz.f162.body).getD .skip

theorem spec_PackFault_l3.ok (a1 : Pack) (q : Wd) (kn : Unit → Option (D × List Ent)) (hk : ∀ v : Unit, J (q.g Tryz.prog 162 0 118) c162 (atI c162 511) (St.mk' [(1, pp 0)] [(0, .box (Pack.enc false a1))]) (some v) kn) :
    ∀ s70 : Int, J (q.g Tryz.prog 162 0 118) c162 (atI c162 4084) (St.mk' [(1, pp 0), (8, iv s70)] [(0, .box (Pack.enc false a1))]) (spec_PackFault_l3 a1 s70) (Fl.go (fun r : Int => some (iv r, [])) kn) := by
  refine J_lp (fun g ih s70 => ?_)
  unfold spec_PackFault_l3b
  refine J_g 16336 [] [(1, pp 0), (8, iv s70), (96, bv (decide (s70 < (a1.Needs.length : Int))))] [(0, .box (Pack.enc false a1))] orcN ?_
  refine J_if2 96 (fun h71 => ?_) (fun h71 => ?_)
  · refine J_bind (fun x72 h73 => ?_)
    refine J_g 130704 [] [(1, pp 0), (8, iv s70), (105, bv ((x72.length : Int) == 0))] [(0, .box (Pack.enc false a1))] (orcC 3 (x_ix (kk := .i64) 100 75 1 (eSl false 7 Term.enc) (.tmp 100) (.tmp 101) h73) orcN) ?_
    refine J_if2 105 (fun h74 => ?_) (fun h74 => ?_)
    · refine J_g 522820 [] [(2, iv 1)] [] orcN ?_
      exact J_r1 rfl
    · refine J_bind (fun x75 h76 => ?_)
      refine J_bind (fun x77 h78 => ?_)
      refine J_g 130706 [] [(1, pp 0), (8, iv s70), (9, iv x77)] [(0, .box (Pack.enc false a1))] (orcC 3 (x_ix (kk := .i64) 100 75 1 (eSl false 7 Term.enc) (.tmp 107) (.tmp 108) h76) (orcC 5 (x_c0 [(.tmp 110)] [75] (spec_l2Terms.ok x75) h78) orcN)) ?_
      refine J_g 261414 [] [(1, pp 0), (8, iv s70), (9, iv x77), (113, bv (x77 != 0))] [(0, .box (Pack.enc false a1))] orcN ?_
      refine J_if2 113 (fun h79 => ?_) (fun h79 => ?_)
      · refine J_g 1045660 [] [(2, iv x77)] [] orcN ?_
        exact J_r1 rfl
      · refine J_g 16339 [] [(1, pp 0), (8, iv (w64 (s70 + 1)))] [(0, .box (Pack.enc false a1))] orcN ?_
        exact J_q (J_b (ih (w64 (s70 + 1)))) rfl
  · exact J_qw (hk ()) rfl

theorem spec_PackFault_l2.ok (a1 : Pack) (q : Wd) (kn : Unit → Option (D × List Ent)) (hk : ∀ v : Unit, J (q.g Tryz.prog 162 0 118) c162 (atI c162 255) (St.mk' [(1, pp 0)] [(0, .box (Pack.enc false a1))]) (some v) kn) :
    ∀ s42 : Int, J (q.g Tryz.prog 162 0 118) c162 (atI c162 2036) (St.mk' [(1, pp 0), (6, iv s42)] [(0, .box (Pack.enc false a1))]) (spec_PackFault_l2 a1 s42) (Fl.go (fun r : Int => some (iv r, [])) kn) := by
  refine J_lp (fun g ih s42 => ?_)
  unfold spec_PackFault_l2b
  refine J_g 8144 [] [(1, pp 0), (6, iv s42), (60, bv (decide (s42 < (a1.Provides.length : Int))))] [(0, .box (Pack.enc false a1))] orcN ?_
  refine J_if2 60 (fun h43 => ?_) (fun h43 => ?_)
  · refine J_bind (fun x44 h45 => ?_)
    refine J_bind (fun x46 h47 => ?_)
    refine J_g 65168 [] [(1, pp 0), (6, iv s42), (7, iv x46)] [(0, .box (Pack.enc false a1))] (orcC 3 (x_ix (kk := .i64) 86 9 1 eStr (.tmp 64) (.tmp 65) h45) (orcC 5 (x_c0 [(.tmp 67)] [9] (spec_NameFault.ok x44) h47) orcN)) ?_
    refine J_g 130338 [] [(1, pp 0), (6, iv s42), (7, iv x46), (70, bv (x46 != 0))] [(0, .box (Pack.enc false a1))] orcN ?_
    refine J_if2 70 (fun h48 => ?_) (fun h48 => ?_)
    · refine J_g 521356 [] [(2, iv x46)] [] orcN ?_
      exact J_r1 rfl
    · refine J_bind (fun x49 h50 => ?_)
      refine J_join (atI c162 65171) (fun v58 : Bool => St.mk' [(1, pp 0), (6, iv s42), (91, bv v58)] [(0, .box (Pack.enc false a1))]) (fun v58 => ?_) (fun jv58 => ?_)
      · refine J_if2 91 (fun h59 => ?_) (fun h59 => ?_)
        · refine J_g 260684 [] [(2, iv 6)] [] orcN ?_
          exact J_r1 rfl
        · refine J_g 8147 [] [(1, pp 0), (6, iv (w64 (s42 + 1)))] [(0, .box (Pack.enc false a1))] orcN ?_
          exact J_q (J_b (ih (w64 (s42 + 1)))) rfl
      · refine J_ite (fun h51 => ?_) (fun h51 => ?_)
        · refine J_g 65170 [] [(1, pp 0), (6, iv s42), (91, bv true)] [(0, .box (Pack.enc false a1))] (orcC 3 (x_ix (kk := .i64) 86 9 1 eStr (.tmp 73) (.tmp 74) h50) (orcL 8 [(79, bv (seq x49 a1.Name))] [] h51 orcN)) ?_
          exact J_qw (J_j (jv58 true)) rfl
        · refine J_bind (fun x52 h53 => ?_)
          refine J_bind (fun x54 h55 => ?_)
          refine J_bind (fun x56 h57 => ?_)
          refine J_g 65170 [] [(1, pp 0), (6, iv s42), (91, bv x56)] [(0, .box (Pack.enc false a1))] (orcC 3 (x_ix (kk := .i64) 86 9 1 eStr (.tmp 73) (.tmp 74) h50) (orcL 8 [(79, bv (seq x49 a1.Name))] [] h51 (orcH 12 8 80 false (x_ls 86 9 1 eStr (.tmp 82) none (some (.tmp 83)) h53) (orcH 16 8 80 false (x_ix (kk := .i64) 86 9 1 eStr (.tmp 86) (.tmp 87) h55) (orcH 18 8 80 false (x_c0 [(.tmp 84), (.tmp 89)] [86, 9] (spec_l2Holds.ok x52 x54) h57) orcN))))) ?_
          exact J_qw (J_j (jv58 x56)) rfl
  · exact J_qw (hk ()) rfl

theorem spec_PackFault_l1.ok (a1 : Pack) (q : Wd) (kn : Unit → Option (D × List Ent)) (hk : ∀ v : Unit, J (q.g Tryz.prog 162 0 118) c162 (atI c162 127) (St.mk' [(1, pp 0)] [(0, .box (Pack.enc false a1))]) (some v) kn) :
    ∀ s19 : Int, J (q.g Tryz.prog 162 0 118) c162 (atI c162 1012) (St.mk' [(1, pp 0), (5, iv s19)] [(0, .box (Pack.enc false a1))]) (spec_PackFault_l1 a1 s19) (Fl.go (fun r : Int => some (iv r, [])) kn) := by
  refine J_lp (fun g ih s19 => ?_)
  unfold spec_PackFault_l1b
  refine J_g 4048 [] [(1, pp 0), (5, iv s19), (46, bv (decide (s19 < (a1.Needs.length : Int))))] [(0, .box (Pack.enc false a1))] orcN ?_
  refine J_if2 46 (fun h20 => ?_) (fun h20 => ?_)
  · refine J_bind (fun x21 h22 => ?_)
    refine J_g 16200 [] [(1, pp 0), (5, iv s19), (55, bv (decide ((x21.length : Int) > 4)))] [(0, .box (Pack.enc false a1))] (orcC 3 (x_ix (kk := .i64) 100 75 1 (eSl false 7 Term.enc) (.tmp 50) (.tmp 51) h22) orcN) ?_
    refine J_if2 55 (fun h23 => ?_) (fun h23 => ?_)
    · refine J_g 64804 [] [(2, iv 2)] [] orcN ?_
      exact J_r1 rfl
    · refine J_g 4051 [] [(1, pp 0), (5, iv (w64 (s19 + 1)))] [(0, .box (Pack.enc false a1))] orcN ?_
      exact J_q (J_b (ih (w64 (s19 + 1)))) rfl
  · exact J_qw (hk ()) rfl

theorem spec_PackFault.ok (a1 : Pack) : Ok Tryz.prog 162 [.ag (Pack.enc false a1)] [] ((spec_PackFault a1).map fun r => (iv r, [])) := by
  refine Ok_of3 c162 Tryz.f162 0 118 (fun q => ?_)
  unfold spec_PackFault
  refine J_g 2 [(0, 0)] [(1, pp 0)] [(0, .box (Pack.enc false a1))] orcN ?_
  refine J_bind (fun x2 h3 => ?_)
  refine J_g 12 [] [(1, pp 0), (3, iv x2)] [(0, .box (Pack.enc false a1))] (orcC 2 (x_c0 [(.tmp 11)] [9] (spec_NameFault.ok a1.Name) h3) orcN) ?_
  refine J_g 26 [] [(1, pp 0), (3, iv x2), (14, bv (x2 != 0))] [(0, .box (Pack.enc false a1))] orcN ?_
  refine J_if2 14 (fun h4 => ?_) (fun h4 => ?_)
  · refine J_g 108 [] [(2, iv x2)] [] orcN ?_
    exact J_r1 rfl
  · refine J_bind (fun x5 h6 => ?_)
    refine J_g 28 [] [(1, pp 0), (4, iv x5)] [(0, .box (Pack.enc false a1))] (orcC 2 (x_c0 [(.tmp 17)] [99] (spec_VersionFault.ok a1.Version) h6) orcN) ?_
    refine J_g 58 [] [(1, pp 0), (4, iv x5), (20, bv (x5 != 0))] [(0, .box (Pack.enc false a1))] orcN ?_
    refine J_if2 20 (fun h7 => ?_) (fun h7 => ?_)
    · refine J_g 236 [] [(2, iv x5)] [] orcN ?_
      exact J_r1 rfl
    · refine J_bind (fun x8 h9 => ?_)
      refine J_g 60 [] [(1, pp 0), (25, bv (!x8))] [(0, .box (Pack.enc false a1))] (orcC 2 (x_c0 [(.tmp 23), (.const (.int .i64 1)), (.const (.int .i64 200))] [2, 2, 2] (spec_l1In.ok a1.Size 1 200) h9) orcN) ?_
      refine J_if2 25 (fun h10 => ?_) (fun h10 => ?_)
      · refine J_g 244 [] [(2, iv 3)] [] orcN ?_
        exact J_r1 rfl
      · refine J_join (atI c162 125) (fun v13 : Bool => St.mk' [(1, pp 0), (41, bv v13)] [(0, .box (Pack.enc false a1))]) (fun v13 => ?_) (fun jv13 => ?_)
        · refine J_if2 41 (fun h14 => ?_) (fun h14 => ?_)
          · refine J_g 500 [] [(2, iv 2)] [] orcN ?_
            exact J_r1 rfl
          · refine J_g 252 [] [(1, pp 0), (5, iv 0)] [(0, .box (Pack.enc false a1))] orcN ?_
            refine J_lqF (K0 := (fun r : Int => some (iv r, []))) (fun _ => rfl) (spec_PackFault_l1.ok a1 q _ (fun v24 => J_j ?_) 0)
            refine J_g 508 [] [(1, pp 0), (6, iv 0)] [(0, .box (Pack.enc false a1))] orcN ?_
            refine J_lqF (K0 := (fun r : Int => some (iv r, []))) (fun _ => rfl) (spec_PackFault_l2.ok a1 q _ (fun v60 => J_j ?_) 0)
            refine J_g 1020 [] [(1, pp 0), (8, iv 0)] [(0, .box (Pack.enc false a1))] orcN ?_
            refine J_lqF (K0 := (fun r : Int => some (iv r, []))) (fun _ => rfl) (spec_PackFault_l3.ok a1 q _ (fun v80 => J_j ?_) 0)
            refine J_bind (fun x81 h82 => ?_)
            refine J_g 1022 [] [(2, iv x81)] [] (orcC 2 (x_c0 [(.tmp 116)] [75] (spec_l2Terms.ok a1.Bars) h82) orcN) ?_
            exact J_r1 rfl
        · refine J_ite (fun h11 => ?_) (fun h11 => ?_)
          · refine J_g 124 [] [(1, pp 0), (41, bv true)] [(0, .box (Pack.enc false a1))] (orcL 4 [(29, bv (decide ((a1.Provides.length : Int) > 4)))] [] h11 orcN) ?_
            exact J_qw (J_j (jv13 true)) rfl
          · refine J_ite (fun h12 => ?_) (fun h12 => ?_)
            · refine J_g 124 [] [(1, pp 0), (41, bv true)] [(0, .box (Pack.enc false a1))] (orcL 4 [(29, bv (decide ((a1.Provides.length : Int) > 4)))] [] h11 (orcL 10 [(35, bv (decide ((a1.Needs.length : Int) > 4)))] [] h12 orcN)) ?_
              exact J_qw (J_j (jv13 true)) rfl
            · refine J_g 124 [] [(1, pp 0), (41, bv (decide ((a1.Bars.length : Int) > 4)))] [(0, .box (Pack.enc false a1))] (orcL 4 [(29, bv (decide ((a1.Provides.length : Int) > 4)))] [] h11 (orcL 10 [(35, bv (decide ((a1.Needs.length : Int) > 4)))] [] h12 orcN)) ?_
              exact J_qw (J_j (jv13 (decide ((a1.Bars.length : Int) > 4)))) rfl

noncomputable def c163 : Code := (Tryz.f163.body).getD .skip

theorem spec_l2Find_l1.ok (a1 : (List Pack)) (a2 : ByteArray) (a3 : Version) (q : Wd) (kn : Unit → Option (D × List Ent)) (hk : ∀ v : Unit, J (q.g Tryz.prog 163 0 32) c163 (atI c163 7) (St.mk' [] []) (some v) kn) :
    ∀ s14 : Int, J (q.g Tryz.prog 163 0 32) c163 (atI c163 52) (St.mk' [(0, sl 8 (Pack.enc false) a1), (1, sv a2), (5, pp 0), (7, iv s14)] [(0, .box (Version.enc a3))]) (spec_l2Find_l1 a1 a2 a3 s14) (Fl.go (fun r : Int => some (iv r, [])) kn) := by
  refine J_lp (fun g ih s14 => ?_)
  unfold spec_l2Find_l1b
  refine J_g 208 [] [(0, sl 8 (Pack.enc false) a1), (1, sv a2), (5, pp 0), (7, iv s14), (11, bv (decide (s14 < (a1.length : Int))))] [(0, .box (Version.enc a3))] orcN ?_
  refine J_if2 11 (fun h15 => ?_) (fun h15 => ?_)
  · refine J_bind (fun x16 h17 => ?_)
    refine J_join (atI c163 841) (fun v23 : Bool => St.mk' [(0, sl 8 (Pack.enc false) a1), (1, sv a2), (5, pp 0), (7, iv s14), (30, bv v23)] [(0, .box (Version.enc a3))]) (fun v23 => ?_) (fun jv23 => ?_)
    · refine J_if2 30 (fun h24 => ?_) (fun h24 => ?_)
      · refine J_g 3364 [] [(6, iv s14)] [] orcN ?_
        exact J_r1 rfl
      · refine J_g 211 [] [(0, sl 8 (Pack.enc false) a1), (1, sv a2), (5, pp 0), (7, iv (w64 (s14 + 1)))] [(0, .box (Version.enc a3))] orcN ?_
        exact J_q (J_b (ih (w64 (s14 + 1)))) rfl
    · refine J_ite (fun h18 => ?_) (fun h18 => ?_)
      · refine J_bind (fun x19 h20 => ?_)
        refine J_bind (fun x21 h22 => ?_)
        refine J_g 840 [] [(0, sl 8 (Pack.enc false) a1), (1, sv a2), (5, pp 0), (7, iv s14), (30, bv (x21 == 0))] [(0, .box (Version.enc a3))] (orcC 2 (x_ix (kk := .i64) 30 102 8 (Pack.enc false) (.tmp 14) (.tmp 15) h17) (orcL 7 [(20, bv (seq x16.Name a2))] [] h18 (orcH 10 7 21 true (x_ix (kk := .i64) 30 102 8 (Pack.enc false) (.tmp 22) (.tmp 23) h20) (orcH 14 7 21 true (x_c0 [(.tmp 26), (.tmp 27)] [99, 99] (spec_CompareVersions.ok x19.Version a3) h22) orcN)))) ?_
        exact J_qw (J_j (jv23 (x21 == 0))) rfl
      · refine J_g 840 [] [(0, sl 8 (Pack.enc false) a1), (1, sv a2), (5, pp 0), (7, iv s14), (30, bv false)] [(0, .box (Version.enc a3))] (orcC 2 (x_ix (kk := .i64) 30 102 8 (Pack.enc false) (.tmp 14) (.tmp 15) h17) (orcL 7 [(20, bv (seq x16.Name a2))] [] h18 orcN)) ?_
        exact J_qw (J_j (jv23 false)) rfl
  · exact J_qw (hk ()) rfl

theorem spec_l2Find.ok (a1 : (List Pack)) (a2 : ByteArray) (a3 : Version) : Ok Tryz.prog 163 [sl 8 (Pack.enc false) a1, sv a2, .ag (Version.enc a3)] [] ((spec_l2Find a1 a2 a3).map fun r => (iv r, [])) := by
  refine Ok_of3 c163 Tryz.f163 0 32 (fun q => ?_)
  unfold spec_l2Find
  refine J_g 2 [(0, 0)] [(0, sl 8 (Pack.enc false) a1), (1, sv a2), (5, pp 0)] [(0, .box (Version.enc a3))] orcN ?_
  refine J_g 12 [] [(0, sl 8 (Pack.enc false) a1), (1, sv a2), (5, pp 0), (7, iv 0)] [(0, .box (Version.enc a3))] orcN ?_
  refine J_lqF (K0 := (fun r : Int => some (iv r, []))) (fun _ => rfl) (spec_l2Find_l1.ok a1 a2 a3 q _ (fun v25 => J_j ?_) 0)
  refine J_g 14 [] [(6, iv (-1))] [] orcN ?_
  exact J_r1 rfl

noncomputable def c90 : Code := (Tryz.f90.body).getD .skip

theorem spec_CatalogFault_l1.ok (a1 : (List Pack)) (q : Wd) (kn : Unit → Option (D × List Ent)) (hk : ∀ v : Unit, J (q.g Tryz.prog 90 0 37) c90 (atI c90 15) (St.mk' [] []) (some v) kn) :
    ∀ s18 : Int, J (q.g Tryz.prog 90 0 37) c90 (atI c90 116) (St.mk' [(0, sl 8 (Pack.enc false) a1), (3, iv s18)] []) (spec_CatalogFault_l1 a1 s18) (Fl.go (fun r : Int => some (iv r, [])) kn) := by
  refine J_lp (fun g ih s18 => ?_)
  unfold spec_CatalogFault_l1b
  refine J_g 464 [] [(0, sl 8 (Pack.enc false) a1), (3, iv s18), (11, bv (decide (s18 < (a1.length : Int))))] [] orcN ?_
  refine J_if2 11 (fun h19 => ?_) (fun h19 => ?_)
  · refine J_bind (fun x20 h21 => ?_)
    refine J_bind (fun x22 h23 => ?_)
    refine J_g 3728 [] [(0, sl 8 (Pack.enc false) a1), (3, iv s18), (4, iv x22)] [] (orcC 2 (x_ix (kk := .i64) 30 102 8 (Pack.enc false) (.tmp 14) (.tmp 15) h21) (orcC 4 (x_c0 [(.tmp 17)] [102] (spec_PackFault.ok x20) h23) orcN)) ?_
    refine J_g 7458 [] [(0, sl 8 (Pack.enc false) a1), (3, iv s18), (4, iv x22), (20, bv (x22 != 0))] [] orcN ?_
    refine J_if2 20 (fun h24 => ?_) (fun h24 => ?_)
    · refine J_g 29836 [] [(2, iv x22)] [] orcN ?_
      exact J_r1 rfl
    · refine J_bind (fun x25 h26 => ?_)
      refine J_bind (fun x27 h28 => ?_)
      refine J_bind (fun x29 h30 => ?_)
      refine J_bind (fun x31 h32 => ?_)
      refine J_g 3730 [] [(0, sl 8 (Pack.enc false) a1), (3, iv s18), (36, bv (decide (x31 ≥ 0)))] [] (orcC 2 (x_ls 30 102 8 (Pack.enc false) (.tmp 22) none (some (.tmp 23)) h26) (orcC 5 (x_ix (kk := .i64) 30 102 8 (Pack.enc false) (.tmp 25) (.tmp 26) h28) (orcC 10 (x_ix (kk := .i64) 30 102 8 (Pack.enc false) (.tmp 30) (.tmp 31) h30) (orcC 13 (x_c0 [(.tmp 24), (.tmp 29), (.tmp 34)] [30, 9, 99] (spec_l2Find.ok x25 x27.Name x29.Version) h32) orcN)))) ?_
      refine J_if2 36 (fun h33 => ?_) (fun h33 => ?_)
      · refine J_g 14924 [] [(2, iv 6)] [] orcN ?_
        exact J_r1 rfl
      · refine J_g 467 [] [(0, sl 8 (Pack.enc false) a1), (3, iv (w64 (s18 + 1)))] [] orcN ?_
        exact J_q (J_b (ih (w64 (s18 + 1)))) rfl
  · exact J_qw (hk ()) rfl

theorem spec_CatalogFault.ok (a1 : (List Pack)) : Ok Tryz.prog 90 [sl 8 (Pack.enc false) a1] [] ((spec_CatalogFault a1).map fun r => (iv r, [])) := by
  refine Ok_of3 c90 Tryz.f90 0 37 (fun q => ?_)
  unfold spec_CatalogFault
  refine J_g 2 [] [(0, sl 8 (Pack.enc false) a1)] [] orcN ?_
  refine J_g 12 [] [(0, sl 8 (Pack.enc false) a1), (7, bv (decide ((a1.length : Int) > 24)))] [] orcN ?_
  refine J_if2 7 (fun h2 => ?_) (fun h2 => ?_)
  · refine J_g 52 [] [(2, iv 2)] [] orcN ?_
    exact J_r1 rfl
  · refine J_g 28 [] [(0, sl 8 (Pack.enc false) a1), (3, iv 0)] [] orcN ?_
    refine J_lqF (K0 := (fun r : Int => some (iv r, []))) (fun _ => rfl) (spec_CatalogFault_l1.ok a1 q _ (fun v34 => J_j ?_) 0)
    refine J_g 30 [] [(2, iv 0)] [] orcN ?_
    exact J_r1 rfl

noncomputable def c232 : Code := (Tryz.f232.body).getD .skip

theorem spec_l7Byte.ok (a1 : Int) : Ok Tryz.prog 232 [uv a1] [] ((spec_l7Byte a1).map fun r => (bv r, [])) := by
  refine Ok_of3 c232 Tryz.f232 0 17 (fun q => ?_)
  unfold spec_l7Byte
  refine J_g 2 [] [(0, uv a1)] [] orcN ?_
  refine J_bind (fun x2 h3 => ?_)
  refine J_ite (fun h4 => ?_) (fun h4 => ?_)
  · refine J_g 6 [] [(2, bv true)] [] (orcC 1 (x_c0 [(.tmp 3)] [5] (spec_l1Name.ok a1) h3) (orcL 2 [(4, bv x2)] [] h4 orcN)) ?_
    exact J_r1 rfl
  · refine J_ite (fun h5 => ?_) (fun h5 => ?_)
    · refine J_g 6 [] [(2, bv true)] [] (orcC 1 (x_c0 [(.tmp 3)] [5] (spec_l1Name.ok a1) h3) (orcL 2 [(4, bv x2)] [] h4 (orcL 6 [(8, bv (a1 == 46))] [] h5 orcN))) ?_
      exact J_r1 rfl
    · refine J_ite (fun h6 => ?_) (fun h6 => ?_)
      · refine J_g 6 [] [(2, bv true)] [] (orcC 1 (x_c0 [(.tmp 3)] [5] (spec_l1Name.ok a1) h3) (orcL 2 [(4, bv x2)] [] h4 (orcL 6 [(8, bv (a1 == 46))] [] h5 (orcL 10 [(12, bv (a1 == 45))] [] h6 orcN)))) ?_
        exact J_r1 rfl
      · refine J_g 6 [] [(2, bv (a1 == 47))] [] (orcC 1 (x_c0 [(.tmp 3)] [5] (spec_l1Name.ok a1) h3) (orcL 2 [(4, bv x2)] [] h4 (orcL 6 [(8, bv (a1 == 46))] [] h5 (orcL 10 [(12, bv (a1 == 45))] [] h6 orcN)))) ?_
        exact J_r1 rfl

noncomputable def c165 : Code := (Tryz.f165.body).getD .skip

theorem spec_PathFault_l1.ok (a1 : ByteArray) (q : Wd) (kn : Unit → Option (D × List Ent)) (hk : ∀ v : Unit, J (q.g Tryz.prog 165 0 23) c165 (atI c165 15) (St.mk' [] []) (some v) kn) :
    ∀ s11 : Int, J (q.g Tryz.prog 165 0 23) c165 (atI c165 116) (St.mk' [(0, sv a1), (3, iv s11)] []) (spec_PathFault_l1 a1 s11) (Fl.go (fun r : Int => some (iv r, [])) kn) := by
  refine J_lp (fun g ih s11 => ?_)
  unfold spec_PathFault_l1b
  refine J_g 464 [] [(0, sv a1), (3, iv s11), (15, bv (decide (s11 < (a1.size : Int))))] [] orcN ?_
  refine J_if2 15 (fun h12 => ?_) (fun h12 => ?_)
  · refine J_bind (fun x13 h14 => ?_)
    refine J_bind (fun x15 h16 => ?_)
    refine J_g 1864 [] [(0, sv a1), (3, iv s11), (22, bv (!x15))] [] (orcC 2 (x_bi (kk := .i64) 9 (.tmp 18) (.tmp 19) h14) (orcC 3 (x_c0 [(.tmp 20)] [5] (spec_l7Byte.ok x13) h16) orcN)) ?_
    refine J_if2 22 (fun h17 => ?_) (fun h17 => ?_)
    · refine J_g 7460 [] [(2, iv 5)] [] orcN ?_
      exact J_r1 rfl
    · refine J_g 467 [] [(0, sv a1), (3, iv (w64 (s11 + 1)))] [] orcN ?_
      exact J_q (J_b (ih (w64 (s11 + 1)))) rfl
  · exact J_qw (hk ()) rfl

theorem spec_PathFault.ok (a1 : ByteArray) : Ok Tryz.prog 165 [sv a1] [] ((spec_PathFault a1).map fun r => (iv r, [])) := by
  refine Ok_of3 c165 Tryz.f165 0 23 (fun q => ?_)
  unfold spec_PathFault
  refine J_g 2 [] [(0, sv a1)] [] orcN ?_
  refine J_join (atI c165 13) (fun v3 : Bool => St.mk' [(0, sv a1), (11, bv v3)] []) (fun v3 => ?_) (fun jv3 => ?_)
  · refine J_if2 11 (fun h4 => ?_) (fun h4 => ?_)
    · refine J_g 52 [] [(2, iv 5)] [] orcN ?_
      exact J_r1 rfl
    · refine J_g 28 [] [(0, sv a1), (3, iv 0)] [] orcN ?_
      refine J_lqF (K0 := (fun r : Int => some (iv r, []))) (fun _ => rfl) (spec_PathFault_l1.ok a1 q _ (fun v18 => J_j ?_) 0)
      refine J_g 30 [] [(2, iv 0)] [] orcN ?_
      exact J_r1 rfl
  · refine J_ite (fun h2 => ?_) (fun h2 => ?_)
    · refine J_g 12 [] [(0, sv a1), (11, bv true)] [] (orcL 3 [(6, bv (decide ((a1.size : Int) < 1)))] [] h2 orcN) ?_
      exact J_qw (J_j (jv3 true)) rfl
    · refine J_g 12 [] [(0, sv a1), (11, bv (decide ((a1.size : Int) > 40)))] [] (orcL 3 [(6, bv (decide ((a1.size : Int) < 1)))] [] h2 orcN) ?_
      exact J_qw (J_j (jv3 (decide ((a1.size : Int) > 40)))) rfl

noncomputable def c150 : Code := (Tryz.f150.body).getD .skip

theorem spec_l7Total_l1.ok (a1 : Disk) (q : Wd) (kn : Int → Option (D × List Ent)) (hk : ∀ v : Int, J (q.g Tryz.prog 150 1 26) c150 (atI c150 15) (St.mk' [(3, iv v)] [(0, .box (Disk.enc false a1))]) (some v) kn) :
    ∀ s5 : (Int × Int), J (q.g Tryz.prog 150 1 26) c150 (atI c150 116) (St.mk' [(0, pp 0), (3, iv s5.1), (4, iv s5.2)] [(0, .box (Disk.enc false a1))]) (spec_l7Total_l1 a1 s5) kn := by
  refine J_lp (fun g ih s5 => ?_)
  unfold spec_l7Total_l1b
  refine J_g 464 [] [(0, pp 0), (3, iv s5.1), (4, iv s5.2), (11, bv (decide (s5.2 < (a1.Files.length : Int))))] [(0, .box (Disk.enc false a1))] orcN ?_
  refine J_if2 11 (fun h6 => ?_) (fun h6 => ?_)
  · refine J_bind (fun x7 h8 => ?_)
    refine J_g 932 [] [(0, pp 0), (3, iv (w64 (s5.1 + (x7.Data.length : Int)))), (4, iv s5.2)] [(0, .box (Disk.enc false a1))] (orcC 6 (x_ix (kk := .i64) 31 138 2 (File.enc false) (.tmp 18) (.tmp 19) h8) orcN) ?_
    refine J_g 467 [] [(0, pp 0), (3, iv (w64 (s5.1 + (x7.Data.length : Int)))), (4, iv (w64 (s5.2 + 1)))] [(0, .box (Disk.enc false a1))] orcN ?_
    exact J_q (J_b (ih (w64 (s5.1 + (x7.Data.length : Int)), w64 (s5.2 + 1)))) rfl
  · exact J_qw (hk s5.1) rfl

theorem spec_l7Total.ok (a1 : Disk) : Ok Tryz.prog 150 [pp 0] [.box (Disk.enc false a1)] ((spec_l7Total a1).map fun r => (iv r, [.box (Disk.enc false a1)])) := by
  refine Ok_of3 c150 Tryz.f150 1 26 (fun q => ?_)
  unfold spec_l7Total
  refine J_g 2 [] [(0, pp 0)] [(0, .box (Disk.enc false a1))] orcN ?_
  refine J_g 6 [] [(0, pp 0), (3, iv 0)] [(0, .box (Disk.enc false a1))] orcN ?_
  refine J_g 28 [] [(0, pp 0), (3, iv 0), (4, iv 0)] [(0, .box (Disk.enc false a1))] orcN ?_
  refine J_lq (spec_l7Total_l1.ok a1 q _ (fun v9 => J_j ?_) (0, 0))
  refine J_g 30 [] [(2, iv v9)] [(0, .box (Disk.enc false a1))] orcN ?_
  exact J_r1 rfl

noncomputable def c91 : Code := (Tryz.f91.body).getD .skip

theorem spec_DiskFault_l1.ok (a1 : Disk) (q : Wd) (kn : Unit → Option (D × List Ent)) (hk : ∀ v : Unit, J (q.g Tryz.prog 91 0 72) c91 (atI c91 31) (St.mk' [(1, pp 0)] [(0, .box (Disk.enc false a1))]) (some v) kn) :
    ∀ s29 : Int, J (q.g Tryz.prog 91 0 72) c91 (atI c91 244) (St.mk' [(1, pp 0), (3, iv s29)] [(0, .box (Disk.enc false a1))]) (spec_DiskFault_l1 a1 s29) (Fl.go (fun r : Int => some (iv r, [])) kn) := by
  refine J_lp (fun g ih s29 => ?_)
  unfold spec_DiskFault_l1b
  refine J_g 976 [] [(1, pp 0), (3, iv s29), (29, bv (decide (s29 < (a1.Files.length : Int))))] [(0, .box (Disk.enc false a1))] orcN ?_
  refine J_if2 29 (fun h30 => ?_) (fun h30 => ?_)
  · refine J_bind (fun x31 h32 => ?_)
    refine J_bind (fun x33 h34 => ?_)
    refine J_g 7824 [] [(1, pp 0), (3, iv s29), (4, iv x33)] [(0, .box (Disk.enc false a1))] (orcC 3 (x_ix (kk := .i64) 31 138 2 (File.enc false) (.tmp 33) (.tmp 34) h32) (orcC 6 (x_c0 [(.tmp 37)] [9] (spec_PathFault.ok x31.Path) h34) orcN)) ?_
    refine J_g 15650 [] [(1, pp 0), (3, iv s29), (4, iv x33), (40, bv (x33 != 0))] [(0, .box (Disk.enc false a1))] orcN ?_
    refine J_if2 40 (fun h35 => ?_) (fun h35 => ?_)
    · refine J_g 62604 [] [(2, iv x33)] [] orcN ?_
      exact J_r1 rfl
    · refine J_join (atI c91 15653) (fun v41 : Bool => St.mk' [(1, pp 0), (3, iv s29), (59, bv v41)] [(0, .box (Disk.enc false a1))]) (fun v41 => ?_) (fun jv41 => ?_)
      · refine J_if2 59 (fun h42 => ?_) (fun h42 => ?_)
        · refine J_g 62612 [] [(2, iv 1)] [] orcN ?_
          exact J_r1 rfl
        · refine J_bind (fun x43 h44 => ?_)
          refine J_g 15654 [] [(1, pp 0), (3, iv s29), (67, bv (decide ((x43.Data.length : Int) > 4000)))] [(0, .box (Disk.enc false a1))] (orcC 3 (x_ix (kk := .i64) 31 138 2 (File.enc false) (.tmp 61) (.tmp 62) h44) orcN) ?_
          refine J_if2 67 (fun h45 => ?_) (fun h45 => ?_)
          · refine J_g 62620 [] [(2, iv 2)] [] orcN ?_
            exact J_r1 rfl
          · refine J_g 979 [] [(1, pp 0), (3, iv (w64 (s29 + 1)))] [(0, .box (Disk.enc false a1))] orcN ?_
            exact J_q (J_b (ih (w64 (s29 + 1)))) rfl
      · refine J_ite (fun h36 => ?_) (fun h36 => ?_)
        · refine J_bind (fun x37 h38 => ?_)
          refine J_bind (fun x39 h40 => ?_)
          refine J_g 15652 [] [(1, pp 0), (3, iv s29), (59, bv (slt x37.Path x39.Path || seq x37.Path x39.Path))] [(0, .box (Disk.enc false a1))] (orcL 2 [(43, bv (decide (s29 > 0)))] [] h36 (orcH 6 2 44 true (x_ix (kk := .i64) 31 138 2 (File.enc false) (.tmp 46) (.tmp 47) h38) (orcH 13 2 44 true (x_ix (kk := .i64) 31 138 2 (File.enc false) (.tmp 52) (.tmp 54) h40) orcN))) ?_
          exact J_qw (J_j (jv41 (slt x37.Path x39.Path || seq x37.Path x39.Path))) rfl
        · refine J_g 15652 [] [(1, pp 0), (3, iv s29), (59, bv false)] [(0, .box (Disk.enc false a1))] (orcL 2 [(43, bv (decide (s29 > 0)))] [] h36 orcN) ?_
          exact J_qw (J_j (jv41 false)) rfl
  · exact J_qw (hk ()) rfl

theorem spec_DiskFault.ok (a1 : Disk) : Ok Tryz.prog 91 [.ag (Disk.enc false a1)] [] ((spec_DiskFault a1).map fun r => (iv r, [])) := by
  refine Ok_of3 c91 Tryz.f91 0 72 (fun q => ?_)
  unfold spec_DiskFault
  refine J_g 2 [(0, 0)] [(1, pp 0)] [(0, .box (Disk.enc false a1))] orcN ?_
  refine J_bind (fun x2 h3 => ?_)
  refine J_join (atI c91 13) (fun v10 : Bool => St.mk' [(1, pp 0), (20, bv v10)] [(0, .box (Disk.enc false a1))]) (fun v10 => ?_) (fun jv10 => ?_)
  · refine J_if2 20 (fun h11 => ?_) (fun h11 => ?_)
    · refine J_g 52 [] [(2, iv 3)] [] orcN ?_
      exact J_r1 rfl
    · refine J_g 28 [] [(1, pp 0), (24, bv (decide ((a1.Files.length : Int) > 120)))] [(0, .box (Disk.enc false a1))] orcN ?_
      refine J_if2 24 (fun h12 => ?_) (fun h12 => ?_)
      · refine J_g 116 [] [(2, iv 2)] [] orcN ?_
        exact J_r1 rfl
      · refine J_g 60 [] [(1, pp 0), (3, iv 0)] [(0, .box (Disk.enc false a1))] orcN ?_
        refine J_lqF (K0 := (fun r : Int => some (iv r, []))) (fun _ => rfl) (spec_DiskFault_l1.ok a1 q _ (fun v46 => J_j ?_) 0)
        refine J_bind (fun x47 h48 => ?_)
        refine J_g 124 [] [(71, bv (decide (x47 > a1.Budget)))] [] (orcC 0 (x_ro [(0, .box (Disk.enc false a1))] [] (x_c1 («as» := [pp 0]) [(.tmp 1)] [72] false [(0, .box (Disk.enc false a1))] [0] (.cons (.pt rfl) (.nil)) (spec_l7Total.ok a1) h48 (.same rfl rfl))) orcN) ?_
        refine J_if2 71 (fun h49 => ?_) (fun h49 => ?_)
        · refine J_g 500 [] [(2, iv 8)] [] orcN ?_
          exact J_r1 rfl
        · refine J_g 126 [] [(2, iv 0)] [] orcN ?_
          exact J_r1 rfl
  · refine J_ite (fun h4 => ?_) (fun h4 => ?_)
    · refine J_g 12 [] [(1, pp 0), (20, bv true)] [(0, .box (Disk.enc false a1))] (orcC 2 (x_c0 [(.tmp 6), (.const (.int .i64 0)), (.const (.int .i64 20000))] [2, 2, 2] (spec_l1In.ok a1.Budget 0 20000) h3) (orcL 4 [(8, bv (!x2))] [] h4 orcN)) ?_
      exact J_qw (J_j (jv10 true)) rfl
    · refine J_bind (fun x5 h6 => ?_)
      refine J_ite (fun h7 => ?_) (fun h7 => ?_)
      · refine J_g 12 [] [(1, pp 0), (20, bv true)] [(0, .box (Disk.enc false a1))] (orcC 2 (x_c0 [(.tmp 6), (.const (.int .i64 0)), (.const (.int .i64 20000))] [2, 2, 2] (spec_l1In.ok a1.Budget 0 20000) h3) (orcL 4 [(8, bv (!x2))] [] h4 (orcH 7 4 9 false (x_c0 [(.tmp 11), (.const (.int .i64 0)), (.const (.int .i64 1000000000))] [2, 2, 2] (spec_l1In.ok a1.Writes 0 1000000000) h6) (orcL 10 [(14, bv (!x5))] [] h7 orcN)))) ?_
        exact J_qw (J_j (jv10 true)) rfl
      · refine J_bind (fun x8 h9 => ?_)
        refine J_g 12 [] [(1, pp 0), (20, bv (!x8))] [(0, .box (Disk.enc false a1))] (orcC 2 (x_c0 [(.tmp 6), (.const (.int .i64 0)), (.const (.int .i64 20000))] [2, 2, 2] (spec_l1In.ok a1.Budget 0 20000) h3) (orcL 4 [(8, bv (!x2))] [] h4 (orcH 7 4 9 false (x_c0 [(.tmp 11), (.const (.int .i64 0)), (.const (.int .i64 1000000000))] [2, 2, 2] (spec_l1In.ok a1.Writes 0 1000000000) h6) (orcL 10 [(14, bv (!x5))] [] h7 (orcH 13 10 15 false (x_c0 [(.tmp 17), (.const (.int .i64 (-1))), (.const (.int .i64 1000000000))] [2, 2, 2] (spec_l1In.ok a1.Stop (-1) 1000000000) h9) orcN))))) ?_
        exact J_qw (J_j (jv10 (!x8))) rfl

noncomputable def c42 : Code := (Tryz.f42.body).getD .skip

theorem spec_l8Asked.ok (a1 : (List Pack)) (a2 : Disk) : Ok Tryz.prog 42 [sl 8 (Pack.enc false) a1, .ag (Disk.enc false a2)] [] ((spec_l8Asked a1 a2).map fun r => (iv r, [])) := by
  refine Ok_of3 c42 Tryz.f42 0 13 (fun q => ?_)
  unfold spec_l8Asked
  refine J_g 2 [(0, 0)] [(0, sl 8 (Pack.enc false) a1), (3, pp 0)] [(0, .box (Disk.enc false a2))] orcN ?_
  refine J_bind (fun x3 h4 => ?_)
  refine J_g 12 [] [(3, pp 0), (5, iv x3)] [(0, .box (Disk.enc false a2))] (orcC 1 (x_c0 [(.tmp 6)] [30] (spec_CatalogFault.ok a1) h4) orcN) ?_
  refine J_g 26 [] [(3, pp 0), (5, iv x3), (9, bv (x3 != 0))] [(0, .box (Disk.enc false a2))] orcN ?_
  refine J_if2 9 (fun h5 => ?_) (fun h5 => ?_)
  · refine J_g 108 [] [(4, iv x3)] [] orcN ?_
    exact J_r1 rfl
  · refine J_bind (fun x6 h7 => ?_)
    refine J_g 14 [] [(4, iv x6)] [] (orcC 1 (x_c0 [(.tmp 11)] [33] (spec_DiskFault.ok a2) h7) orcN) ?_
    exact J_r1 rfl

noncomputable def c54 : Code := (Tryz.f54.body).getD .skip

theorem spec_l7Find_l1.ok (a1 : Disk) (a2 : ByteArray) (q : Wd) (kn : Unit → Option (D × List Ent)) (hk : ∀ v : Unit, J (q.g Tryz.prog 54 0 26) c54 (atI c54 7) (St.mk' [] []) (some v) kn) :
    ∀ s7 : Int, J (q.g Tryz.prog 54 0 26) c54 (atI c54 52) (St.mk' [(0, .pb [sl 2 (File.enc false) a1.Files, iv a1.Budget, iv a1.Writes, iv a1.Stop, bv a1.Down]), (1, sv a2), (5, iv s7)] []) (spec_l7Find_l1 a1 a2 s7) (Fl.go (fun r : Int => some (iv r, [])) kn) := by
  refine J_lp (fun g ih s7 => ?_)
  unfold spec_l7Find_l1b
  refine J_g 208 [] [(0, .pb [sl 2 (File.enc false) a1.Files, iv a1.Budget, iv a1.Writes, iv a1.Stop, bv a1.Down]), (1, sv a2), (5, iv s7), (12, bv (decide (s7 < (a1.Files.length : Int))))] [] (orcC 2 (x_nilpb (.tmp 7) [sl 2 (File.enc false) a1.Files, iv a1.Budget, iv a1.Writes, iv a1.Stop, bv a1.Down]) (orcC 3 (x_fapb 33 (.tmp 8) 0 0 1 [sl 2 (File.enc false) a1.Files, iv a1.Budget, iv a1.Writes, iv a1.Stop, bv a1.Down]) (orcC 4 (x_ldpb (d := sl 2 (File.enc false) a1.Files) 31 (.tmp 9) [sl 2 (File.enc false) a1.Files]) orcN))) ?_
  refine J_if2 12 (fun h8 => ?_) (fun h8 => ?_)
  · refine J_bind (fun x9 h10 => ?_)
    refine J_g 840 [] [(0, .pb [sl 2 (File.enc false) a1.Files, iv a1.Budget, iv a1.Writes, iv a1.Stop, bv a1.Down]), (1, sv a2), (5, iv s7), (24, bv (seq x9.Path a2))] [] (orcC 1 (x_nilpb (.tmp 15) [sl 2 (File.enc false) a1.Files, iv a1.Budget, iv a1.Writes, iv a1.Stop, bv a1.Down]) (orcC 2 (x_fapb 33 (.tmp 16) 0 0 1 [sl 2 (File.enc false) a1.Files, iv a1.Budget, iv a1.Writes, iv a1.Stop, bv a1.Down]) (orcC 3 (x_ldpb (d := sl 2 (File.enc false) a1.Files) 31 (.tmp 17) [sl 2 (File.enc false) a1.Files]) (orcC 5 (x_ix (kk := .i64) 31 138 2 (File.enc false) (.tmp 18) (.tmp 19) h10) orcN)))) ?_
    refine J_if2 24 (fun h11 => ?_) (fun h11 => ?_)
    · refine J_g 3364 [] [(4, iv s7)] [] orcN ?_
      exact J_r1 rfl
    · refine J_g 211 [] [(0, .pb [sl 2 (File.enc false) a1.Files, iv a1.Budget, iv a1.Writes, iv a1.Stop, bv a1.Down]), (1, sv a2), (5, iv (w64 (s7 + 1)))] [] orcN ?_
      exact J_q (J_b (ih (w64 (s7 + 1)))) rfl
  · exact J_qw (hk ()) rfl

theorem spec_l7Find.ok (a1 : Disk) (a2 : ByteArray) : Ok Tryz.prog 54 [.pb [sl 2 (File.enc false) a1.Files, iv a1.Budget, iv a1.Writes, iv a1.Stop, bv a1.Down], sv a2] [] ((spec_l7Find a1 a2).map fun r => (iv r, [])) := by
  refine Ok_of3 c54 Tryz.f54 0 26 (fun q => ?_)
  unfold spec_l7Find
  refine J_g 2 [] [(0, .pb [sl 2 (File.enc false) a1.Files, iv a1.Budget, iv a1.Writes, iv a1.Stop, bv a1.Down]), (1, sv a2)] [] orcN ?_
  refine J_g 12 [] [(0, .pb [sl 2 (File.enc false) a1.Files, iv a1.Budget, iv a1.Writes, iv a1.Stop, bv a1.Down]), (1, sv a2), (5, iv 0)] [] orcN ?_
  refine J_lqF (K0 := (fun r : Int => some (iv r, []))) (fun _ => rfl) (spec_l7Find_l1.ok a1 a2 q _ (fun v12 => J_j ?_) 0)
  refine J_g 14 [] [(4, iv (-1))] [] orcN ?_
  exact J_r1 rfl

noncomputable def c166 : Code := (Tryz.f166.body).getD .skip

theorem spec_l1Number_l1.ok (a1 : ByteArray) (q : Wd) (kn : Int → Option (D × List Ent)) (hk : ∀ v : Int, J (q.g Tryz.prog 166 0 37) c166 (atI c166 31) (St.mk' [(6, iv v)] []) (some v) kn) :
    ∀ s14 : (Int × Int), J (q.g Tryz.prog 166 0 37) c166 (atI c166 244) (St.mk' [(0, sv a1), (6, iv s14.1), (7, iv s14.2)] []) (spec_l1Number_l1 a1 s14) (Fl.go (fun r : (Int × Bool) => some (.tu [iv r.1, bv r.2], [])) kn) := by
  refine J_lp (fun g ih s14 => ?_)
  unfold spec_l1Number_l1b
  refine J_g 976 [] [(0, sv a1), (6, iv s14.1), (7, iv s14.2), (20, bv (decide (s14.2 < (a1.size : Int))))] [] orcN ?_
  refine J_if2 20 (fun h15 => ?_) (fun h15 => ?_)
  · refine J_bind (fun x16 h17 => ?_)
    refine J_bind (fun x18 h19 => ?_)
    refine J_g 7824 [] [(0, sv a1), (6, iv s14.1), (7, iv s14.2), (27, bv (!x18))] [] (orcC 2 (x_bi (kk := .i64) 9 (.tmp 23) (.tmp 24) h17) (orcC 3 (x_c0 [(.tmp 25)] [5] (spec_l1Digit.ok x16) h19) orcN)) ?_
    refine J_if2 27 (fun h20 => ?_) (fun h20 => ?_)
    · refine J_g 31300 [] [(4, iv 0), (5, bv false)] [] orcN ?_
      exact J_rT rfl
    · refine J_bind (fun x21 h22 => ?_)
      refine J_g 3913 [] [(0, sv a1), (6, iv (w64 ((w64 (s14.1 * 10)) + (w64 (IntKind.u8.wrap (x21 - 48)))))), (7, iv s14.2)] [] (orcC 4 (x_bi (kk := .i64) 9 (.tmp 30) (.tmp 31) h22) orcN) ?_
      refine J_g 979 [] [(0, sv a1), (6, iv (w64 ((w64 (s14.1 * 10)) + (w64 (IntKind.u8.wrap (x21 - 48)))))), (7, iv (w64 (s14.2 + 1)))] [] orcN ?_
      exact J_q (J_b (ih (w64 ((w64 (s14.1 * 10)) + (w64 (IntKind.u8.wrap (x21 - 48)))), w64 (s14.2 + 1)))) rfl
  · exact J_qw (hk s14.1) rfl

theorem spec_l1Number.ok (a1 : ByteArray) (a2 : Int) : Ok Tryz.prog 166 [sv a1, iv a2] [] ((spec_l1Number a1 a2).map fun r => (.tu [iv r.1, bv r.2], [])) := by
  refine Ok_of3 c166 Tryz.f166 0 37 (fun q => ?_)
  unfold spec_l1Number
  refine J_g 2 [] [(0, sv a1), (1, iv a2)] [] orcN ?_
  refine J_join (atI c166 13) (fun v4 : Bool => St.mk' [(0, sv a1), (16, bv v4)] []) (fun v4 => ?_) (fun jv4 => ?_)
  · refine J_if2 16 (fun h5 => ?_) (fun h5 => ?_)
    · refine J_g 52 [] [(4, iv 0), (5, bv false)] [] orcN ?_
      exact J_rT rfl
    · refine J_g 14 [] [(0, sv a1), (6, iv 0)] [] orcN ?_
      refine J_g 60 [] [(0, sv a1), (6, iv 0), (7, iv 0)] [] orcN ?_
      refine J_lqF (K0 := (fun r : (Int × Bool) => some (.tu [iv r.1, bv r.2], []))) (fun _ => rfl) (spec_l1Number_l1.ok a1 q _ (fun v23 => J_j ?_) (0, 0))
      refine J_g 62 [] [(4, iv v23), (5, bv true)] [] orcN ?_
      exact J_rT rfl
  · refine J_ite (fun h3 => ?_) (fun h3 => ?_)
    · refine J_g 12 [] [(0, sv a1), (16, bv true)] [] (orcL 3 [(10, bv (decide ((a1.size : Int) < 1)))] [] h3 orcN) ?_
      exact J_qw (J_j (jv4 true)) rfl
    · refine J_g 12 [] [(0, sv a1), (16, bv (decide ((a1.size : Int) > a2)))] [] (orcL 3 [(10, bv (decide ((a1.size : Int) < 1)))] [] h3 orcN) ?_
      exact J_qw (J_j (jv4 (decide ((a1.size : Int) > a2)))) rfl

noncomputable def c197 : Code := (Tryz.f197.body).getD .skip

theorem spec_l7Begins.ok (a1 : ByteArray) (a2 : ByteArray) : Ok Tryz.prog 197 [sv a1, sv a2] [] ((spec_l7Begins a1 a2).map fun r => (bv r, [])) := by
  refine Ok_of3 c197 Tryz.f197 0 18 (fun q => ?_)
  unfold spec_l7Begins
  refine J_g 2 [] [(0, sv a1), (1, sv a2)] [] orcN ?_
  refine J_ite (fun h3 => ?_) (fun h3 => ?_)
  · refine J_bind (fun x4 h5 => ?_)
    refine J_g 6 [] [(4, bv (seq x4 a2))] [] (orcL 5 [(9, bv (decide ((a1.size : Int) ≥ (a2.size : Int))))] [] h3 (orcH 9 5 10 true (x_ss 9 (.tmp 11) none (some (.tmp 13)) h5) orcN)) ?_
    exact J_r1 rfl
  · refine J_g 6 [] [(4, bv false)] [] (orcL 5 [(9, bv (decide ((a1.size : Int) ≥ (a2.size : Int))))] [] h3 orcN) ?_
    exact J_r1 rfl

noncomputable def c118 : Code := (Tryz.f118.body).getD .skip

theorem spec_l7Paths_l1.ok (a1 : Disk) (a2 : ByteArray) (q : Wd) (kn : (List ByteArray) → Option (D × List Ent)) (hk : ∀ v : (List ByteArray), J (q.g Tryz.prog 118 0 39) c118 (atI c118 15) (St.mk' [(5, rr 0 v)] [(0, rE 1 eStr v)]) (some v) kn) :
    ∀ s14 : ((List ByteArray) × Int), J (q.g Tryz.prog 118 0 39) c118 (atI c118 116) (St.mk' [(0, .pb [sl 2 (File.enc false) a1.Files, iv a1.Budget, iv a1.Writes, iv a1.Stop, bv a1.Down]), (1, sv a2), (5, rr 0 s14.1), (6, iv s14.2)] [(0, rE 1 eStr s14.1)]) (spec_l7Paths_l1 a1 a2 s14) kn := by
  refine J_lp (fun g ih s14 => ?_)
  unfold spec_l7Paths_l1b
  refine J_g 464 [] [(0, .pb [sl 2 (File.enc false) a1.Files, iv a1.Budget, iv a1.Writes, iv a1.Stop, bv a1.Down]), (1, sv a2), (5, rr 0 s14.1), (6, iv s14.2), (14, bv (decide (s14.2 < (a1.Files.length : Int))))] [(0, rE 1 eStr s14.1)] (orcC 2 (x_nilpb (.tmp 9) [sl 2 (File.enc false) a1.Files, iv a1.Budget, iv a1.Writes, iv a1.Stop, bv a1.Down]) (orcC 3 (x_fapb 33 (.tmp 10) 0 0 1 [sl 2 (File.enc false) a1.Files, iv a1.Budget, iv a1.Writes, iv a1.Stop, bv a1.Down]) (orcC 4 (x_ldpb (d := sl 2 (File.enc false) a1.Files) 31 (.tmp 11) [sl 2 (File.enc false) a1.Files]) orcN))) ?_
  refine J_if2 14 (fun h15 => ?_) (fun h15 => ?_)
  · refine J_bind (fun x16 h17 => ?_)
    refine J_bind (fun x18 h19 => ?_)
    refine J_g 1864 [] [(0, .pb [sl 2 (File.enc false) a1.Files, iv a1.Budget, iv a1.Writes, iv a1.Stop, bv a1.Down]), (1, sv a2), (5, rr 0 s14.1), (6, iv s14.2), (26, bv x18)] [(0, rE 1 eStr s14.1)] (orcC 1 (x_nilpb (.tmp 17) [sl 2 (File.enc false) a1.Files, iv a1.Budget, iv a1.Writes, iv a1.Stop, bv a1.Down]) (orcC 2 (x_fapb 33 (.tmp 18) 0 0 1 [sl 2 (File.enc false) a1.Files, iv a1.Budget, iv a1.Writes, iv a1.Stop, bv a1.Down]) (orcC 3 (x_ldpb (d := sl 2 (File.enc false) a1.Files) 31 (.tmp 19) [sl 2 (File.enc false) a1.Files]) (orcC 5 (x_ix (kk := .i64) 31 138 2 (File.enc false) (.tmp 20) (.tmp 21) h17) (orcC 9 (x_c0 [(.tmp 24), (.tmp 25)] [9, 9] (spec_l7Begins.ok x16.Path a2) h19) orcN))))) ?_
    refine J_join (aft c118 932) (fun v25 : (List ByteArray) => St.mk' [(0, .pb [sl 2 (File.enc false) a1.Files, iv a1.Budget, iv a1.Writes, iv a1.Stop, bv a1.Down]), (1, sv a2), (5, rr 2 v25), (6, iv s14.2)] [(2, rE 1 eStr v25)]) (fun v25 => ?_) (fun jv25 => ?_)
    · refine J_g 467 [] [(0, .pb [sl 2 (File.enc false) a1.Files, iv a1.Budget, iv a1.Writes, iv a1.Stop, bv a1.Down]), (1, sv a2), (5, rr 2 v25), (6, iv (w64 (s14.2 + 1)))] [(2, rE 1 eStr v25)] orcN ?_
      refine J_ren 2 0 (Nat.le_of_ble_eq_true rfl) (Nat.le_of_ble_eq_true rfl) ?_
      exact J_q (J_b (ih (v25, w64 (s14.2 + 1)))) rfl
    · refine J_if2 26 (fun h20 => ?_) (fun h20 => ?_)
      · refine J_bind (fun x21 h22 => ?_)
        refine J_bind (fun x23 h24 => ?_)
        refine J_g 3730 [] [(0, .pb [sl 2 (File.enc false) a1.Files, iv a1.Budget, iv a1.Writes, iv a1.Stop, bv a1.Down]), (1, sv a2), (5, rr 2 x23), (6, iv s14.2)] [(2, rE 1 eStr x23)] (orcC 2 (x_nilpb (.tmp 28) [sl 2 (File.enc false) a1.Files, iv a1.Budget, iv a1.Writes, iv a1.Stop, bv a1.Down]) (orcC 3 (x_fapb 33 (.tmp 29) 0 0 1 [sl 2 (File.enc false) a1.Files, iv a1.Budget, iv a1.Writes, iv a1.Stop, bv a1.Down]) (orcC 4 (x_ldpb (d := sl 2 (File.enc false) a1.Files) 31 (.tmp 30) [sl 2 (File.enc false) a1.Files]) (orcC 6 (x_ix (kk := .i64) 31 138 2 (File.enc false) (.tmp 31) (.tmp 32) h22) (orcC 9 (x_bp 86 9 1 1 eStr [x21.Path] [0] [(.tmp 35)] [sv x21.Path]) (orcC 10 (x_ap 86 86 9 9 1 16 2 0 1 eStr (.tmp 27) (.tmp 36) h24) orcN)))))) ?_
        exact J_qw (J_j (jv25 x23)) rfl
      · refine J_ren 0 2 (Nat.le_of_ble_eq_true rfl) (Nat.le_of_ble_eq_true rfl) ?_
        exact J_qw (J_j (jv25 s14.1)) rfl
  · exact J_qw (hk s14.1) rfl

theorem spec_l7Paths.ok (a1 : Disk) (a2 : ByteArray) : Ok Tryz.prog 118 [.pb [sl 2 (File.enc false) a1.Files, iv a1.Budget, iv a1.Writes, iv a1.Stop, bv a1.Down], sv a2] [] ((spec_l7Paths a1 a2).map fun r => (so 1 eStr r, [])) := by
  refine Ok_of3 c118 Tryz.f118 0 39 (fun q => ?_)
  unfold spec_l7Paths
  refine J_g 2 [] [(0, .pb [sl 2 (File.enc false) a1.Files, iv a1.Budget, iv a1.Writes, iv a1.Stop, bv a1.Down]), (1, sv a2)] [] orcN ?_
  refine J_g 6 [] [(0, .pb [sl 2 (File.enc false) a1.Files, iv a1.Budget, iv a1.Writes, iv a1.Stop, bv a1.Down]), (1, sv a2), (5, rr 0 ([] : List ByteArray))] [(0, rE 1 eStr ([] : List ByteArray))] (orcC 0 (x_bp 86 9 1 0 eStr ([] : List ByteArray) [] [] []) orcN) ?_
  refine J_g 28 [] [(0, .pb [sl 2 (File.enc false) a1.Files, iv a1.Budget, iv a1.Writes, iv a1.Stop, bv a1.Down]), (1, sv a2), (5, rr 0 ([] : List ByteArray)), (6, iv 0)] [(0, rE 1 eStr ([] : List ByteArray))] orcN ?_
  refine J_lq (spec_l7Paths_l1.ok a1 a2 q _ (fun v26 => J_j ?_) (([] : List ByteArray), 0))
  refine J_g 30 [] [(4, rr 0 v26)] [(0, rE 1 eStr v26)] orcN ?_
  exact J_rm (ds := [rr 0 v26]) (ds' := [so 1 eStr v26]) (.cons (.cell (.move (.head _) (List.length_map _) (by decide) (.nil))) (.nil) (by decide)) rfl

noncomputable def c79 : Code := (Tryz.f79.body).getD .skip

theorem spec_l1Decimal.ok (a1 : Int) : Ok Tryz.prog 79 [iv a1] [] ((spec_l1Decimal a1).map fun r => (sv r, [])) := by
  have key : ∀ (n : Nat) (a1 : Int), Ok Tryz.prog 79 [iv a1] [] ((recF spec_l1Decimal_r n a1).map fun r => (sv r, [])) := by
    intro n
    induction n with
    | zero => intro a1; exact Ok_none
    | succ n ih =>
      intro a1
      refine Ok_of3 c79 Tryz.f79 0 20 (fun q => ?_)
      unfold recF spec_l1Decimal_r
      refine J_g 2 [] [(0, iv a1)] [] orcN ?_
      refine J_g 12 [] [(0, iv a1), (4, bv (decide (a1 < 10)))] [] orcN ?_
      refine J_if2 4 (fun h2 => ?_) (fun h2 => ?_)
      · refine J_g 52 [] [(2, sv (b2s [IntKind.u8.wrap (w64 (48 + a1))]))] [] (orcC 3 (x_bp 121 5 1 0 eU8 [IntKind.u8.wrap (w64 (48 + a1))] [0] [(.tmp 7)] [uv (IntKind.u8.wrap (w64 (48 + a1)))]) (orcC 4 (x_b2sr (xs := [IntKind.u8.wrap (w64 (48 + a1))]) 121 9 5 0 (.tmp 8)) orcN)) ?_
        exact J_r1 rfl
      · refine J_bind (fun x3 h4 => ?_)
        refine J_bind (fun x5 h6 => ?_)
        refine J_g 14 [] [(2, sv x5)] [] (orcC 2 (x_c0 [(.tmp 11)] [2] (ih (w64 (a1.tdiv 10))) h4) (orcC 7 (x_bp 121 5 1 0 eU8 [IntKind.u8.wrap (w64 (48 + (a1.tmod 10)))] [0] [(.tmp 16)] [uv (IntKind.u8.wrap (w64 (48 + (a1.tmod 10))))]) (orcC 8 (x_b2sr (xs := [IntKind.u8.wrap (w64 (48 + (a1.tmod 10)))]) 121 9 5 0 (.tmp 17)) (orcC 9 (x_cat 9 9 (.tmp 12) (.tmp 18) h6) orcN)))) ?_
        exact J_r1 rfl
  exact key 64 a1

noncomputable def c117 : Code := (Tryz.f117.body).getD .skip

theorem spec_GenPath.ok (a1 : Int) : Ok Tryz.prog 117 [iv a1] [] ((spec_GenPath a1).map fun r => (sv r, [])) := by
  refine Ok_of3 c117 Tryz.f117 0 11 (fun q => ?_)
  unfold spec_GenPath
  refine J_g 2 [] [(0, iv a1)] [] orcN ?_
  refine J_bind (fun x2 h3 => ?_)
  refine J_g 12 [] [(0, iv a1), (5, bv (!x2))] [] (orcC 1 (x_c0 [(.tmp 3), (.const (.int .i64 1)), (.const (.int .i64 999999))] [2, 2, 2] (spec_l1In.ok a1 1 999999) h3) orcN) ?_
  refine J_if2 5 (fun h4 => ?_) (fun h4 => ?_)
  · refine J_g 52 [] [(2, sv (bs []))] [] orcN ?_
    exact J_r1 rfl
  · refine J_bind (fun x5 h6 => ?_)
    refine J_bind (fun x7 h8 => ?_)
    refine J_bind (fun x9 h10 => ?_)
    refine J_g 14 [] [(2, sv x9)] [] (orcC 2 (x_c0 [(.tmp 7)] [2] (spec_l1Decimal.ok (w64 (1000000 + a1))) h6) (orcC 3 (x_ss 9 (.tmp 8) (some (.const (.int .i64 1))) none h8) (orcC 4 (x_cat 9 9 (.const (.string (bs [103, 101, 110, 47]))) (.tmp 9) h10) orcN))) ?_
    exact J_r1 rfl

noncomputable def c114 : Code := (Tryz.f114.body).getD .skip

theorem spec_l8Gens_l1.ok (a1 : Disk) (x2 : (List ByteArray)) (q : Wd) (kn : (List Int) → Option (D × List Ent)) (hk : ∀ v : (List Int), J (q.g Tryz.prog 114 0 41) c114 (atI c114 31) (St.mk' [(3, rr 0 v)] [(0, rE 1 eI64 v)]) (some v) kn) :
    ∀ s21 : ((List Int) × Int), J (q.g Tryz.prog 114 0 41) c114 (atI c114 244) (St.mk' [(3, rr 0 s21.1), (4, rr 1 x2), (5, iv s21.2)] [(0, rE 1 eI64 s21.1), (1, rE 1 eStr x2)]) (spec_l8Gens_l1 a1 x2 s21) kn := by
  refine J_lp (fun g ih s21 => ?_)
  unfold spec_l8Gens_l1b
  refine J_g 976 [] [(3, rr 0 s21.1), (4, rr 1 x2), (5, iv s21.2), (14, bv (decide (s21.2 < (x2.length : Int))))] [(0, rE 1 eI64 s21.1), (1, rE 1 eStr x2)] orcN ?_
  refine J_if2 14 (fun h22 => ?_) (fun h22 => ?_)
  · refine J_bind (fun x23 h24 => ?_)
    refine J_bind (fun x25 h26 => ?_)
    refine J_bind (fun x27 h28 => ?_)
    refine J_g 3912 [] [(3, rr 0 s21.1), (4, rr 1 x2), (5, iv s21.2), (6, iv x27.1), (7, bv x27.2)] [(0, rE 1 eI64 s21.1), (1, rE 1 eStr x2)] (orcC 2 (x_ixr (kk := .i64) 86 9 1 1 eStr (.tmp 18) (.tmp 19) h24) (orcC 3 (x_ldr (d := sv x23) 9 1 1 0 eStr (.tmp 20) h24 (by kernel_rfl)) (orcC 4 (x_ss 9 (.tmp 21) (some (.const (.int .i64 4))) none h26) (orcC 5 (x_c0 [(.tmp 22), (.const (.int .i64 6))] [9, 3] (spec_l1Number.ok x25 6) h28) orcN)))) ?_
    refine J_join (atI c114 7827) (fun v34 : Bool => St.mk' [(3, rr 0 s21.1), (4, rr 1 x2), (5, iv s21.2), (6, iv x27.1), (35, bv v34)] [(0, rE 1 eI64 s21.1), (1, rE 1 eStr x2)]) (fun v34 => ?_) (fun jv34 => ?_)
    · refine J_join (aft c114 1956) (fun v38 : (List Int) => St.mk' [(3, rr 3 v38), (4, rr 1 x2), (5, iv s21.2)] [(1, rE 1 eStr x2), (3, rE 1 eI64 v38)]) (fun v38 => ?_) (fun jv38 => ?_)
      · refine J_g 979 [] [(3, rr 3 v38), (4, rr 1 x2), (5, iv (w64 (s21.2 + 1)))] [(1, rE 1 eStr x2), (3, rE 1 eI64 v38)] orcN ?_
        refine J_ren 3 0 (Nat.le_of_ble_eq_true rfl) (Nat.le_of_ble_eq_true rfl) ?_
        exact J_q (J_b (ih (v38, w64 (s21.2 + 1)))) rfl
      · refine J_if2 35 (fun h35 => ?_) (fun h35 => ?_)
        · refine J_bind (fun x36 h37 => ?_)
          refine J_g 15654 [] [(3, rr 3 x36), (4, rr 1 x2), (5, iv s21.2)] [(1, rE 1 eStr x2), (3, rE 1 eI64 x36)] (orcC 2 (x_bp 39 2 1 2 eI64 [x27.1] [0] [(.tmp 37)] [iv x27.1]) (orcC 3 (x_ap 39 39 2 2 1 8 3 0 2 eI64 (.tmp 36) (.tmp 38) h37) orcN)) ?_
          exact J_qw (J_j (jv38 x36)) rfl
        · refine J_ren 0 3 (Nat.le_of_ble_eq_true rfl) (Nat.le_of_ble_eq_true rfl) ?_
          exact J_qw (J_j (jv38 s21.1)) rfl
    · refine J_ite (fun h29 => ?_) (fun h29 => ?_)
      · refine J_bind (fun x30 h31 => ?_)
        refine J_bind (fun x32 h33 => ?_)
        refine J_g 7826 [] [(3, rr 0 s21.1), (4, rr 1 x2), (5, iv s21.2), (6, iv x27.1), (35, bv (seq x30 x32))] [(0, rE 1 eI64 s21.1), (1, rE 1 eStr x2)] (orcL 1 [(26, bv x27.2)] [] h29 (orcH 3 1 27 true (x_c0 [(.tmp 28)] [2] (spec_GenPath.ok x27.1) h31) (orcH 6 1 27 true (x_ixr (kk := .i64) 86 9 1 1 eStr (.tmp 30) (.tmp 31) h33) (orcH 7 1 27 true (x_ldr (d := sv x32) 9 1 1 0 eStr (.tmp 32) h33 (by kernel_rfl)) orcN)))) ?_
        exact J_qw (J_j (jv34 (seq x30 x32))) rfl
      · refine J_g 7826 [] [(3, rr 0 s21.1), (4, rr 1 x2), (5, iv s21.2), (6, iv x27.1), (35, bv false)] [(0, rE 1 eI64 s21.1), (1, rE 1 eStr x2)] (orcL 1 [(26, bv x27.2)] [] h29 orcN) ?_
        exact J_qw (J_j (jv34 false)) rfl
  · exact J_qw (hk s21.1) rfl

theorem spec_l8Gens.ok (a1 : Disk) : Ok Tryz.prog 114 [.pb [sl 2 (File.enc false) a1.Files, iv a1.Budget, iv a1.Writes, iv a1.Stop, bv a1.Down]] [] ((spec_l8Gens a1).map fun r => (so 1 eI64 r, [])) := by
  refine Ok_of3 c114 Tryz.f114 0 41 (fun q => ?_)
  unfold spec_l8Gens
  refine J_g 2 [] [(0, .pb [sl 2 (File.enc false) a1.Files, iv a1.Budget, iv a1.Writes, iv a1.Stop, bv a1.Down])] [] orcN ?_
  refine J_g 6 [] [(0, .pb [sl 2 (File.enc false) a1.Files, iv a1.Budget, iv a1.Writes, iv a1.Stop, bv a1.Down]), (3, rr 0 ([] : List Int))] [(0, rE 1 eI64 ([] : List Int))] (orcC 0 (x_bp 39 2 1 0 eI64 ([] : List Int) [] [] []) orcN) ?_
  refine J_bind (fun x2 h3 => ?_)
  refine J_g 14 [] [(3, rr 0 ([] : List Int)), (4, rr 1 x2)] [(0, rE 1 eI64 ([] : List Int)), (1, rE 1 eStr x2)] (orcC 1 (x_c1 («as» := [.pb [sl 2 (File.enc false) a1.Files, iv a1.Budget, iv a1.Writes, iv a1.Stop, bv a1.Down], sv (bs [103, 101, 110, 47])]) [(.tmp 9), (.const (.string (bs [103, 101, 110, 47])))] [72, 9] false [] [] (.cons (.pb (.cons (.same rfl) (.cons (.same rfl) (.cons (.same rfl) (.cons (.same rfl) (.cons (.same rfl) (.nil))))))) (.cons (.same rfl) (.nil))) (spec_l7Paths.ok a1 (bs [103, 101, 110, 47])) h3 (.own 1)) orcN) ?_
  refine J_g 60 [] [(3, rr 0 ([] : List Int)), (4, rr 1 x2), (5, iv 0)] [(0, rE 1 eI64 ([] : List Int)), (1, rE 1 eStr x2)] orcN ?_
  refine J_lq (spec_l8Gens_l1.ok a1 x2 q _ (fun v39 => J_j ?_) (([] : List Int), 0))
  refine J_g 62 [] [(2, rr 0 v39)] [(0, rE 1 eI64 v39)] orcN ?_
  exact J_rm (ds := [rr 0 v39]) (ds' := [so 1 eI64 v39]) (.cons (.cell (.move (.head _) (List.length_map _) (by decide) (.nil))) (.nil) (by decide)) rfl

noncomputable def c115 : Code := (Tryz.f115.body).getD .skip

theorem spec_l1Has_l1.ok (a1 : (List Int)) (a2 : Int) (q : Wd) (kn : Unit → Option (D × List Ent)) (hk : ∀ v : Unit, J (q.g Tryz.prog 115 0 18) c115 (atI c115 7) (St.mk' [] []) (some v) kn) :
    ∀ s7 : Int, J (q.g Tryz.prog 115 0 18) c115 (atI c115 52) (St.mk' [(0, sl 1 eI64 a1), (1, iv a2), (5, iv s7)] []) (spec_l1Has_l1 a1 a2 s7) (Fl.go (fun r : Bool => some (bv r, [])) kn) := by
  refine J_lp (fun g ih s7 => ?_)
  unfold spec_l1Has_l1b
  refine J_g 208 [] [(0, sl 1 eI64 a1), (1, iv a2), (5, iv s7), (9, bv (decide (s7 < (a1.length : Int))))] [] orcN ?_
  refine J_if2 9 (fun h8 => ?_) (fun h8 => ?_)
  · refine J_bind (fun x9 h10 => ?_)
    refine J_g 840 [] [(0, sl 1 eI64 a1), (1, iv a2), (5, iv s7), (17, bv (x9 == a2))] [] (orcC 2 (x_ix (kk := .i64) 39 2 1 eI64 (.tmp 12) (.tmp 13) h10) orcN) ?_
    refine J_if2 17 (fun h11 => ?_) (fun h11 => ?_)
    · refine J_g 3364 [] [(4, bv true)] [] orcN ?_
      exact J_r1 rfl
    · refine J_g 211 [] [(0, sl 1 eI64 a1), (1, iv a2), (5, iv (w64 (s7 + 1)))] [] orcN ?_
      exact J_q (J_b (ih (w64 (s7 + 1)))) rfl
  · exact J_qw (hk ()) rfl

theorem spec_l1Has.ok (a1 : (List Int)) (a2 : Int) : Ok Tryz.prog 115 [sl 1 eI64 a1, iv a2] [] ((spec_l1Has a1 a2).map fun r => (bv r, [])) := by
  refine Ok_of3 c115 Tryz.f115 0 18 (fun q => ?_)
  unfold spec_l1Has
  refine J_g 2 [] [(0, sl 1 eI64 a1), (1, iv a2)] [] orcN ?_
  refine J_g 12 [] [(0, sl 1 eI64 a1), (1, iv a2), (5, iv 0)] [] orcN ?_
  refine J_lqF (K0 := (fun r : Bool => some (bv r, []))) (fun _ => rfl) (spec_l1Has_l1.ok a1 a2 q _ (fun v12 => J_j ?_) 0)
  refine J_g 14 [] [(4, bv false)] [] orcN ?_
  exact J_r1 rfl

noncomputable def c92 : Code := (Tryz.f92.body).getD .skip

theorem spec_l8Current.ok (a1 : Disk) : Ok Tryz.prog 92 [.pb [sl 2 (File.enc false) a1.Files, iv a1.Budget, iv a1.Writes, iv a1.Stop, bv a1.Down]] [] ((spec_l8Current a1).map fun r => (iv r, [])) := by
  refine Ok_of3 c92 Tryz.f92 0 33 (fun q => ?_)
  unfold spec_l8Current
  refine J_g 2 [] [(0, .pb [sl 2 (File.enc false) a1.Files, iv a1.Budget, iv a1.Writes, iv a1.Stop, bv a1.Down])] [] orcN ?_
  refine J_bind (fun x2 h3 => ?_)
  refine J_g 6 [] [(0, .pb [sl 2 (File.enc false) a1.Files, iv a1.Budget, iv a1.Writes, iv a1.Stop, bv a1.Down]), (3, iv x2)] [] (orcC 1 (x_c1 («as» := [.pb [sl 2 (File.enc false) a1.Files, iv a1.Budget, iv a1.Writes, iv a1.Stop, bv a1.Down], sv (bs [99, 117, 114])]) [(.tmp 6), (.const (.string (bs [99, 117, 114])))] [72, 9] false [] [] (.cons (.pb (.cons (.same rfl) (.cons (.same rfl) (.cons (.same rfl) (.cons (.same rfl) (.cons (.same rfl) (.nil))))))) (.cons (.same rfl) (.nil))) (spec_l7Find.ok a1 (bs [99, 117, 114])) h3 (.same rfl rfl)) orcN) ?_
  refine J_g 28 [] [(0, .pb [sl 2 (File.enc false) a1.Files, iv a1.Budget, iv a1.Writes, iv a1.Stop, bv a1.Down]), (3, iv x2), (9, bv (decide (x2 < 0)))] [] orcN ?_
  refine J_if2 9 (fun h4 => ?_) (fun h4 => ?_)
  · refine J_g 116 [] [(2, iv 0)] [] orcN ?_
    exact J_r1 rfl
  · refine J_bind (fun x5 h6 => ?_)
    refine J_bind (fun x7 h8 => ?_)
    refine J_g 30 [] [(0, .pb [sl 2 (File.enc false) a1.Files, iv a1.Budget, iv a1.Writes, iv a1.Stop, bv a1.Down]), (4, iv x7.1), (5, bv x7.2)] [] (orcC 1 (x_nilpb (.tmp 11) [sl 2 (File.enc false) a1.Files, iv a1.Budget, iv a1.Writes, iv a1.Stop, bv a1.Down]) (orcC 2 (x_fapb 33 (.tmp 12) 0 0 1 [sl 2 (File.enc false) a1.Files, iv a1.Budget, iv a1.Writes, iv a1.Stop, bv a1.Down]) (orcC 3 (x_ldpb (d := sl 2 (File.enc false) a1.Files) 31 (.tmp 13) [sl 2 (File.enc false) a1.Files]) (orcC 5 (x_ix (kk := .i64) 31 138 2 (File.enc false) (.tmp 14) (.tmp 15) h6) (orcC 8 (x_b2s (xs := x5.Data) 121 9 5 (.tmp 18)) (orcC 9 (x_c0 [(.tmp 19), (.const (.int .i64 6))] [9, 3] (spec_l1Number.ok (b2s x5.Data) 6) h8) orcN)))))) ?_
    refine J_join (atI c92 125) (fun v14 : Bool => St.mk' [(4, iv x7.1), (31, bv v14)] []) (fun v14 => ?_) (fun jv14 => ?_)
    · refine J_if2 31 (fun h15 => ?_) (fun h15 => ?_)
      · refine J_g 500 [] [(2, iv 0)] [] orcN ?_
        exact J_r1 rfl
      · refine J_g 126 [] [(2, iv x7.1)] [] orcN ?_
        exact J_r1 rfl
    · refine J_ite (fun h9 => ?_) (fun h9 => ?_)
      · refine J_g 124 [] [(4, iv x7.1), (31, bv true)] [] (orcL 2 [(24, bv (!x7.2))] [] h9 orcN) ?_
        exact J_qw (J_j (jv14 true)) rfl
      · refine J_bind (fun x10 h11 => ?_)
        refine J_bind (fun x12 h13 => ?_)
        refine J_g 124 [] [(4, iv x7.1), (31, bv (!x12))] [] (orcL 2 [(24, bv (!x7.2))] [] h9 (orcH 4 2 25 false (x_c1 («as» := [.pb [sl 2 (File.enc false) a1.Files, iv a1.Budget, iv a1.Writes, iv a1.Stop, bv a1.Down]]) [(.tmp 26)] [72] false [] [] (.cons (.pb (.cons (.same rfl) (.cons (.same rfl) (.cons (.same rfl) (.cons (.same rfl) (.cons (.same rfl) (.nil))))))) (.nil)) (spec_l8Gens.ok a1) h11 (.own 0)) (orcH 6 2 25 false (x_c1 («as» := [rr 0 x10, iv x7.1]) [(.tmp 27), (.tmp 28)] [39, 2] true [(0, rE 1 eI64 x10)] [] (.cons (am_b (.head _) (fun _ => rfl) rfl) (.cons (.same rfl) (.nil))) (spec_l1Has.ok x10 x7.1) h13 (.same rfl rfl) (hbor := fun _ => ⟨rfl, flat_sc⟩)) orcN))) ?_
        exact J_qw (J_j (jv14 (!x12))) rfl

noncomputable def c235 : Code := (Tryz.f235.body).getD .skip

theorem spec_l1Parts_l1.ok (a1 : ByteArray) (a2 : Int) (q : Wd) (kn : (List ByteArray) → Option (D × List Ent)) (hk : ∀ v : (List ByteArray), J (q.g Tryz.prog 235 0 36) c235 (atI c235 31) (St.mk' [(5, rr 0 v)] [(0, rE 1 eStr v)]) (some v) kn) :
    ∀ s14 : ((List ByteArray) × Int × Int), J (q.g Tryz.prog 235 0 36) c235 (atI c235 244) (St.mk' [(0, sv a1), (1, uv a2), (5, rr 0 s14.1), (6, iv s14.2.1), (7, iv s14.2.2)] [(0, rE 1 eStr s14.1)]) (spec_l1Parts_l1 a1 a2 s14) kn := by
  refine J_lp (fun g ih s14 => ?_)
  unfold spec_l1Parts_l1b
  refine J_g 976 [] [(0, sv a1), (1, uv a2), (5, rr 0 s14.1), (6, iv s14.2.1), (7, iv s14.2.2), (12, bv (decide (s14.2.2 ≤ (a1.size : Int))))] [(0, rE 1 eStr s14.1)] orcN ?_
  refine J_if2 12 (fun h15 => ?_) (fun h15 => ?_)
  · refine J_join (atI c235 3913) (fun v19 : Bool => St.mk' [(0, sv a1), (1, uv a2), (5, rr 0 s14.1), (6, iv s14.2.1), (7, iv s14.2.2), (25, bv v19)] [(0, rE 1 eStr s14.1)]) (fun v19 => ?_) (fun jv19 => ?_)
    · refine J_join (aft c235 1956) (fun v25 : ((List ByteArray) × Int) => St.mk' [(0, sv a1), (1, uv a2), (5, rr 2 v25.1), (6, iv v25.2), (7, iv s14.2.2)] [(2, rE 1 eStr v25.1)]) (fun v25 => ?_) (fun jv25 => ?_)
      · refine J_g 979 [] [(0, sv a1), (1, uv a2), (5, rr 2 v25.1), (6, iv v25.2), (7, iv (w64 (s14.2.2 + 1)))] [(2, rE 1 eStr v25.1)] orcN ?_
        refine J_ren 2 0 (Nat.le_of_ble_eq_true rfl) (Nat.le_of_ble_eq_true rfl) ?_
        exact J_q (J_b (ih (v25.1, v25.2, w64 (s14.2.2 + 1)))) rfl
      · refine J_if2 25 (fun h20 => ?_) (fun h20 => ?_)
        · refine J_bind (fun x21 h22 => ?_)
          refine J_bind (fun x23 h24 => ?_)
          refine J_g 15652 [] [(0, sv a1), (1, uv a2), (5, rr 2 x23), (7, iv s14.2.2)] [(2, rE 1 eStr x23)] (orcC 4 (x_ss 9 (.tmp 27) (some (.tmp 28)) (some (.tmp 29)) h22) (orcC 5 (x_bp 86 9 1 1 eStr [x21] [0] [(.tmp 30)] [sv x21]) (orcC 6 (x_ap 86 86 9 9 1 16 2 0 1 eStr (.tmp 26) (.tmp 31) h24) orcN))) ?_
          refine J_g 15653 [] [(0, sv a1), (1, uv a2), (5, rr 2 x23), (6, iv (w64 (s14.2.2 + 1))), (7, iv s14.2.2)] [(2, rE 1 eStr x23)] orcN ?_
          exact J_qw (J_j (jv25 (x23, w64 (s14.2.2 + 1)))) rfl
        · refine J_ren 0 2 (Nat.le_of_ble_eq_true rfl) (Nat.le_of_ble_eq_true rfl) ?_
          exact J_qw (J_j (jv25 (s14.1, s14.2.1))) rfl
    · refine J_ite (fun h16 => ?_) (fun h16 => ?_)
      · refine J_g 3912 [] [(0, sv a1), (1, uv a2), (5, rr 0 s14.1), (6, iv s14.2.1), (7, iv s14.2.2), (25, bv true)] [(0, rE 1 eStr s14.1)] (orcL 4 [(18, bv (s14.2.2 == (a1.size : Int)))] [] h16 orcN) ?_
        exact J_qw (J_j (jv19 true)) rfl
      · refine J_bind (fun x17 h18 => ?_)
        refine J_g 3912 [] [(0, sv a1), (1, uv a2), (5, rr 0 s14.1), (6, iv s14.2.1), (7, iv s14.2.2), (25, bv (x17 == a2))] [(0, rE 1 eStr s14.1)] (orcL 4 [(18, bv (s14.2.2 == (a1.size : Int)))] [] h16 (orcH 7 4 19 false (x_bi (kk := .i64) 9 (.tmp 20) (.tmp 21) h18) orcN)) ?_
        exact J_qw (J_j (jv19 (x17 == a2))) rfl
  · exact J_qw (hk s14.1) rfl

theorem spec_l1Parts.ok (a1 : ByteArray) (a2 : Int) : Ok Tryz.prog 235 [sv a1, uv a2] [] ((spec_l1Parts a1 a2).map fun r => (so 1 eStr r, [])) := by
  refine Ok_of3 c235 Tryz.f235 0 36 (fun q => ?_)
  unfold spec_l1Parts
  refine J_g 2 [] [(0, sv a1), (1, uv a2)] [] orcN ?_
  refine J_g 6 [] [(0, sv a1), (1, uv a2), (5, rr 0 ([] : List ByteArray))] [(0, rE 1 eStr ([] : List ByteArray))] (orcC 0 (x_bp 86 9 1 0 eStr ([] : List ByteArray) [] [] []) orcN) ?_
  refine J_g 14 [] [(0, sv a1), (1, uv a2), (5, rr 0 ([] : List ByteArray)), (6, iv 0)] [(0, rE 1 eStr ([] : List ByteArray))] orcN ?_
  refine J_g 60 [] [(0, sv a1), (1, uv a2), (5, rr 0 ([] : List ByteArray)), (6, iv 0), (7, iv 0)] [(0, rE 1 eStr ([] : List ByteArray))] orcN ?_
  refine J_lq (spec_l1Parts_l1.ok a1 a2 q _ (fun v26 => J_j ?_) (([] : List ByteArray), 0, 0))
  refine J_g 62 [] [(4, rr 0 v26)] [(0, rE 1 eStr v26)] orcN ?_
  exact J_rm (ds := [rr 0 v26]) (ds' := [so 1 eStr v26]) (.cons (.cell (.move (.head _) (List.length_map _) (by decide) (.nil))) (.nil) (by decide)) rfl

noncomputable def c170 : Code := (Tryz.f170.body).getD .skip

theorem spec_l2Lines.ok (a1 : ByteArray) : Ok Tryz.prog 170 [sv a1] [] ((spec_l2Lines a1).map fun r => (so 1 eStr r, [])) := by
  refine Ok_of3 c170 Tryz.f170 0 19 (fun q => ?_)
  unfold spec_l2Lines
  refine J_g 2 [] [(0, sv a1)] [] orcN ?_
  refine J_bind (fun x2 h3 => ?_)
  refine J_g 6 [] [(3, rr 0 x2)] [(0, rE 1 eStr x2)] (orcC 1 (x_c1 («as» := [sv a1, uv 10]) [(.tmp 4), (.const (.int .u8 10))] [9, 5] false [] [] (.cons (.same rfl) (.cons (.same rfl) (.nil))) (spec_l1Parts.ok a1 10) h3 (.own 0)) orcN) ?_
  refine J_bind (fun x4 h5 => ?_)
  refine J_g 28 [] [(3, rr 0 x2), (12, bv (seq x4 (bs [])))] [(0, rE 1 eStr x2)] (orcC 4 (x_ixr (kk := .i64) 86 9 1 0 eStr (.tmp 6) (.tmp 9) h5) (orcC 5 (x_ldr (d := sv x4) 9 1 0 0 eStr (.tmp 10) h5 (by kernel_rfl)) orcN)) ?_
  refine J_join (atI c170 15) (fun v9 : (List ByteArray) => St.mk' [(3, rr 1 v9)] [(1, rE 1 eStr v9)]) (fun v9 => ?_) (fun jv9 => ?_)
  · refine J_g 30 [] [(2, rr 1 v9)] [(1, rE 1 eStr v9)] orcN ?_
    exact J_rm (ds := [rr 1 v9]) (ds' := [so 1 eStr v9]) (.cons (.cell (.move (.head _) (List.length_map _) (by decide) (.nil))) (.nil) (by decide)) rfl
  · refine J_if2 12 (fun h6 => ?_) (fun h6 => ?_)
    · refine J_bind (fun x7 h8 => ?_)
      refine J_g 58 [] [(3, rr 1 x7)] [(1, rE 1 eStr x7)] (orcC 4 (x_cut 86 9 1 0 1 eStr (.tmp 13) none (some (.tmp 16)) h8) orcN) ?_
      exact J_qw (J_j (jv9 x7)) rfl
    · refine J_ren 0 1 (Nat.le_of_ble_eq_true rfl) (Nat.le_of_ble_eq_true rfl) ?_
      exact J_qw (J_j (jv9 x2)) rfl

noncomputable def c216 : Code := (Tryz.f216.body).getD .skip

theorem spec_l2Words_l1.ok (x2 : (List ByteArray)) (q : Wd) (kn : (List ByteArray) → Option (D × List Ent)) (hk : ∀ v : (List ByteArray), J (q.g Tryz.prog 216 0 28) c216 (atI c216 31) (St.mk' [(3, rr 0 v)] [(0, rE 1 eStr v)]) (some v) kn) :
    ∀ s13 : ((List ByteArray) × Int), J (q.g Tryz.prog 216 0 28) c216 (atI c216 244) (St.mk' [(3, rr 0 s13.1), (4, rr 1 x2), (5, iv s13.2)] [(0, rE 1 eStr s13.1), (1, rE 1 eStr x2)]) (spec_l2Words_l1 x2 s13) kn := by
  refine J_lp (fun g ih s13 => ?_)
  unfold spec_l2Words_l1b
  refine J_g 976 [] [(3, rr 0 s13.1), (4, rr 1 x2), (5, iv s13.2), (12, bv (decide (s13.2 < (x2.length : Int))))] [(0, rE 1 eStr s13.1), (1, rE 1 eStr x2)] orcN ?_
  refine J_if2 12 (fun h14 => ?_) (fun h14 => ?_)
  · refine J_bind (fun x15 h16 => ?_)
    refine J_g 3912 [] [(3, rr 0 s13.1), (4, rr 1 x2), (5, iv s13.2), (19, bv (!(seq x15 (bs []))))] [(0, rE 1 eStr s13.1), (1, rE 1 eStr x2)] (orcC 2 (x_ixr (kk := .i64) 86 9 1 1 eStr (.tmp 15) (.tmp 16) h16) (orcC 3 (x_ldr (d := sv x15) 9 1 1 0 eStr (.tmp 17) h16 (by kernel_rfl)) orcN)) ?_
    refine J_join (aft c216 1956) (fun v22 : (List ByteArray) => St.mk' [(3, rr 3 v22), (4, rr 1 x2), (5, iv s13.2)] [(1, rE 1 eStr x2), (3, rE 1 eStr v22)]) (fun v22 => ?_) (fun jv22 => ?_)
    · refine J_g 979 [] [(3, rr 3 v22), (4, rr 1 x2), (5, iv (w64 (s13.2 + 1)))] [(1, rE 1 eStr x2), (3, rE 1 eStr v22)] orcN ?_
      refine J_ren 3 0 (Nat.le_of_ble_eq_true rfl) (Nat.le_of_ble_eq_true rfl) ?_
      exact J_q (J_b (ih (v22, w64 (s13.2 + 1)))) rfl
    · refine J_if2 19 (fun h17 => ?_) (fun h17 => ?_)
      · refine J_bind (fun x18 h19 => ?_)
        refine J_bind (fun x20 h21 => ?_)
        refine J_g 7826 [] [(3, rr 3 x20), (4, rr 1 x2), (5, iv s13.2)] [(1, rE 1 eStr x2), (3, rE 1 eStr x20)] (orcC 3 (x_ixr (kk := .i64) 86 9 1 1 eStr (.tmp 21) (.tmp 22) h19) (orcC 4 (x_ldr (d := sv x18) 9 1 1 0 eStr (.tmp 23) h19 (by kernel_rfl)) (orcC 5 (x_bp 86 9 1 2 eStr [x18] [0] [(.tmp 24)] [sv x18]) (orcC 6 (x_ap 86 86 9 9 1 16 3 0 2 eStr (.tmp 20) (.tmp 25) h21) orcN)))) ?_
        exact J_qw (J_j (jv22 x20)) rfl
      · refine J_ren 0 3 (Nat.le_of_ble_eq_true rfl) (Nat.le_of_ble_eq_true rfl) ?_
        exact J_qw (J_j (jv22 s13.1)) rfl
  · exact J_qw (hk s13.1) rfl

theorem spec_l2Words.ok (a1 : ByteArray) : Ok Tryz.prog 216 [sv a1] [] ((spec_l2Words a1).map fun r => (so 1 eStr r, [])) := by
  refine Ok_of3 c216 Tryz.f216 0 28 (fun q => ?_)
  unfold spec_l2Words
  refine J_g 2 [] [(0, sv a1)] [] orcN ?_
  refine J_g 6 [] [(0, sv a1), (3, rr 0 ([] : List ByteArray))] [(0, rE 1 eStr ([] : List ByteArray))] (orcC 0 (x_bp 86 9 1 0 eStr ([] : List ByteArray) [] [] []) orcN) ?_
  refine J_bind (fun x2 h3 => ?_)
  refine J_g 14 [] [(3, rr 0 ([] : List ByteArray)), (4, rr 1 x2)] [(0, rE 1 eStr ([] : List ByteArray)), (1, rE 1 eStr x2)] (orcC 1 (x_c1 («as» := [sv a1, uv 32]) [(.tmp 7), (.const (.int .u8 32))] [9, 5] false [] [] (.cons (.same rfl) (.cons (.same rfl) (.nil))) (spec_l1Parts.ok a1 32) h3 (.own 1)) orcN) ?_
  refine J_g 60 [] [(3, rr 0 ([] : List ByteArray)), (4, rr 1 x2), (5, iv 0)] [(0, rE 1 eStr ([] : List ByteArray)), (1, rE 1 eStr x2)] orcN ?_
  refine J_lq (spec_l2Words_l1.ok x2 q _ (fun v23 => J_j ?_) (([] : List ByteArray), 0))
  refine J_g 62 [] [(2, rr 0 v23)] [(0, rE 1 eStr v23)] orcN ?_
  exact J_rm (ds := [rr 0 v23]) (ds' := [so 1 eStr v23]) (.cons (.cell (.move (.head _) (List.length_map _) (by decide) (.nil))) (.nil) (by decide)) rfl

noncomputable def c217 : Code := (Tryz.f217.body).getD .skip

theorem spec_ParseVersion_l1.ok (x2 : (List ByteArray)) (q : Wd) (kn : (List Int) → Option (D × List Ent)) (hk : ∀ v : (List Int), J (q.g Tryz.prog 217 0 47) c217 (atI c217 63) (St.mk' [(2, pp 0), (4, rr 2 v)] [(0, .box [iv 0, iv 0, iv 0, iv 0]), (2, rE 1 eI64 v)]) (some v) kn) :
    ∀ s13 : ((List Int) × Int), J (q.g Tryz.prog 217 0 47) c217 (atI c217 500) (St.mk' [(2, pp 0), (3, rr 1 x2), (4, rr 2 s13.1), (5, iv s13.2)] [(0, .box [iv 0, iv 0, iv 0, iv 0]), (1, rE 1 eStr x2), (2, rE 1 eI64 s13.1)]) (spec_ParseVersion_l1 x2 s13) (Fl.go (fun r : VersionResult => some (.ag (VersionResult.enc r), [])) kn) := by
  refine J_lp (fun g ih s13 => ?_)
  unfold spec_ParseVersion_l1b
  refine J_g 2000 [] [(2, pp 0), (3, rr 1 x2), (4, rr 2 s13.1), (5, iv s13.2), (18, bv (decide (s13.2 < (x2.length : Int))))] [(0, .box [iv 0, iv 0, iv 0, iv 0]), (1, rE 1 eStr x2), (2, rE 1 eI64 s13.1)] orcN ?_
  refine J_if2 18 (fun h14 => ?_) (fun h14 => ?_)
  · refine J_bind (fun x15 h16 => ?_)
    refine J_bind (fun x17 h18 => ?_)
    refine J_g 8008 [] [(2, pp 0), (3, rr 1 x2), (4, rr 2 s13.1), (5, iv s13.2), (6, iv x17.1), (7, bv x17.2)] [(0, .box [iv 0, iv 0, iv 0, iv 0]), (1, rE 1 eStr x2), (2, rE 1 eI64 s13.1)] (orcC 2 (x_ixr (kk := .i64) 86 9 1 1 eStr (.tmp 22) (.tmp 23) h16) (orcC 3 (x_ldr (d := sv x15) 9 1 1 0 eStr (.tmp 24) h16 (by kernel_rfl)) (orcC 4 (x_c0 [(.tmp 25), (.const (.int .i64 3))] [9, 3] (spec_l1Number.ok x15 3) h18) orcN))) ?_
    refine J_g 32036 [] [(2, pp 0), (3, rr 1 x2), (4, rr 2 s13.1), (5, iv s13.2), (6, iv x17.1), (30, bv (!x17.2))] [(0, .box [iv 0, iv 0, iv 0, iv 0]), (1, rE 1 eStr x2), (2, rE 1 eI64 s13.1)] orcN ?_
    refine J_if2 30 (fun h19 => ?_) (fun h19 => ?_)
    · refine J_g 128148 [] [(2, pp 0)] [(0, .box [iv 5, iv 0, iv 0, iv 0])] orcN ?_
      exact J_r1 rfl
    · refine J_bind (fun x20 h21 => ?_)
      refine J_g 16019 [] [(2, pp 0), (3, rr 1 x2), (4, rr 2 s13.1), (5, iv s13.2)] [(0, .box [iv 0, iv 0, iv 0, iv 0]), (1, rE 1 eStr x2), (2, rE 1 eI64 (s13.1.set s13.2.toNat x17.1))] (orcC 3 (x_ixr (kk := .i64) 39 2 1 2 eI64 (.tmp 32) (.tmp 33) h21) (orcD 4 (x_st (b := x17.1) 2 1 2 0 eI64 (iv x17.1) (.tmp 35) (.tmp 34) h21 rfl) orcN)) ?_
      refine J_st (σ' := St.mk' [(2, pp 0), (3, rr 1 x2), (4, rr 2 (s13.1.set s13.2.toNat x17.1)), (5, iv s13.2)] [(0, .box [iv 0, iv 0, iv 0, iv 0]), (1, rE 1 eStr x2), (2, rE 1 eI64 (s13.1.set s13.2.toNat x17.1))]) (by simp only [rr, List.length_set]) ?_
      refine J_g 2003 [] [(2, pp 0), (3, rr 1 x2), (4, rr 2 (s13.1.set s13.2.toNat x17.1)), (5, iv (w64 (s13.2 + 1)))] [(0, .box [iv 0, iv 0, iv 0, iv 0]), (1, rE 1 eStr x2), (2, rE 1 eI64 (s13.1.set s13.2.toNat x17.1))] orcN ?_
      exact J_q (J_b (ih (s13.1.set s13.2.toNat x17.1, w64 (s13.2 + 1)))) rfl
  · exact J_qw (hk s13.1) rfl

theorem spec_ParseVersion.ok (a1 : ByteArray) : Ok Tryz.prog 217 [sv a1] [] ((spec_ParseVersion a1).map fun r => (.ag (VersionResult.enc r), [])) := by
  refine Ok_of3 c217 Tryz.f217 0 47 (fun q => ?_)
  unfold spec_ParseVersion
  refine J_g 2 [(0, 0)] [(0, sv a1), (2, pp 0)] [(0, .box [iv 0, iv 0, iv 0, iv 0])] orcN ?_
  refine J_bind (fun x2 h3 => ?_)
  refine J_g 6 [] [(2, pp 0), (3, rr 1 x2)] [(0, .box [iv 0, iv 0, iv 0, iv 0]), (1, rE 1 eStr x2)] (orcC 1 (x_c1 («as» := [sv a1, uv 46]) [(.tmp 8), (.const (.int .u8 46))] [9, 5] false [] [] (.cons (.same rfl) (.cons (.same rfl) (.nil))) (spec_l1Parts.ok a1 46) h3 (.own 1)) orcN) ?_
  refine J_g 28 [] [(2, pp 0), (3, rr 1 x2), (12, bv (decide ((x2.length : Int) > 3)))] [(0, .box [iv 0, iv 0, iv 0, iv 0]), (1, rE 1 eStr x2)] orcN ?_
  refine J_if2 12 (fun h4 => ?_) (fun h4 => ?_)
  · refine J_g 116 [] [(2, pp 0)] [(0, .box [iv 5, iv 0, iv 0, iv 0])] orcN ?_
    exact J_r1 rfl
  · refine J_g 30 [] [(2, pp 0), (3, rr 1 x2), (4, rr 2 [0, 0, 0])] [(0, .box [iv 0, iv 0, iv 0, iv 0]), (1, rE 1 eStr x2), (2, rE 1 eI64 [0, 0, 0])] (orcC 0 (x_bp 39 2 1 2 eI64 [0, 0, 0] [0, 1, 2] [(.const (.int .i64 0)), (.const (.int .i64 0)), (.const (.int .i64 0))] [iv 0, iv 0, iv 0]) orcN) ?_
    refine J_g 124 [] [(2, pp 0), (3, rr 1 x2), (4, rr 2 [0, 0, 0]), (5, iv 0)] [(0, .box [iv 0, iv 0, iv 0, iv 0]), (1, rE 1 eStr x2), (2, rE 1 eI64 [0, 0, 0])] orcN ?_
    refine J_lqF (K0 := (fun r : VersionResult => some (.ag (VersionResult.enc r), []))) (fun _ => rfl) (spec_ParseVersion_l1.ok x2 q _ (fun v22 => J_j ?_) ([0, 0, 0], 0))
    refine J_bind (fun x23 h24 => ?_)
    refine J_bind (fun x25 h26 => ?_)
    refine J_bind (fun x27 h28 => ?_)
    refine J_g 126 [] [(2, pp 0)] [(0, .box [iv 0, iv x23, iv x25, iv x27])] (orcC 1 (x_ixr (kk := .i64) 39 2 1 2 eI64 (.tmp 36) (.const (.int .i64 0)) h24) (orcC 2 (x_ldr (d := iv x23) 2 1 2 0 eI64 (.tmp 37) h24 (by kernel_rfl)) (orcC 4 (x_ixr (kk := .i64) 39 2 1 2 eI64 (.tmp 39) (.const (.int .i64 1)) h26) (orcC 5 (x_ldr (d := iv x25) 2 1 2 0 eI64 (.tmp 40) h26 (by kernel_rfl)) (orcC 7 (x_ixr (kk := .i64) 39 2 1 2 eI64 (.tmp 42) (.const (.int .i64 2)) h28) (orcC 8 (x_ldr (d := iv x27) 2 1 2 0 eI64 (.tmp 43) h28 (by kernel_rfl)) orcN)))))) ?_
    exact J_r1 rfl

noncomputable def c116 : Code := (Tryz.f116.body).getD .skip

theorem spec_l3Put_l1.ok (a1 : (List Int)) (a2 : Int) (q : Wd) (kn : ((List Int) × Bool) → Option (D × List Ent)) (hk : ∀ v : ((List Int) × Bool), J (q.g Tryz.prog 116 0 43) c116 (atI c116 31) (St.mk' [(1, iv a2), (5, rr 0 v.1), (6, bv v.2)] [(0, rE 1 eI64 v.1)]) (some v) kn) :
    ∀ s16 : ((List Int) × Bool × Int), J (q.g Tryz.prog 116 0 43) c116 (atI c116 244) (St.mk' [(0, sl 1 eI64 a1), (1, iv a2), (5, rr 0 s16.1), (6, bv s16.2.1), (7, iv s16.2.2)] [(0, rE 1 eI64 s16.1)]) (spec_l3Put_l1 a1 a2 s16) kn := by
  refine J_lp (fun g ih s16 => ?_)
  unfold spec_l3Put_l1b
  refine J_g 976 [] [(0, sl 1 eI64 a1), (1, iv a2), (5, rr 0 s16.1), (6, bv s16.2.1), (7, iv s16.2.2), (12, bv (decide (s16.2.2 < (a1.length : Int))))] [(0, rE 1 eI64 s16.1)] orcN ?_
  refine J_if2 12 (fun h17 => ?_) (fun h17 => ?_)
  · refine J_bind (fun x18 h19 => ?_)
    refine J_join (atI c116 7825) (fun v21 : Bool => St.mk' [(0, sl 1 eI64 a1), (1, iv a2), (5, rr 0 s16.1), (6, bv s16.2.1), (7, iv s16.2.2), (24, bv v21)] [(0, rE 1 eI64 s16.1)]) (fun v21 => ?_) (fun jv21 => ?_)
    · refine J_join (atI c116 3913) (fun v25 : ((List Int) × Bool) => St.mk' [(0, sl 1 eI64 a1), (1, iv a2), (5, rr 2 v25.1), (6, bv v25.2), (7, iv s16.2.2)] [(2, rE 1 eI64 v25.1)]) (fun v25 => ?_) (fun jv25 => ?_)
      · refine J_bind (fun x26 h27 => ?_)
        refine J_bind (fun x28 h29 => ?_)
        refine J_g 3913 [] [(0, sl 1 eI64 a1), (1, iv a2), (5, rr 4 x28), (6, bv v25.2), (7, iv s16.2.2)] [(4, rE 1 eI64 x28)] (orcC 3 (x_ix (kk := .i64) 39 2 1 eI64 (.tmp 30) (.tmp 31) h27) (orcC 5 (x_bp 39 2 1 3 eI64 [x26] [0] [(.tmp 33)] [iv x26]) (orcC 6 (x_ap 39 39 2 2 1 8 4 2 3 eI64 (.tmp 29) (.tmp 34) h29) orcN))) ?_
        refine J_g 979 [] [(0, sl 1 eI64 a1), (1, iv a2), (5, rr 4 x28), (6, bv v25.2), (7, iv (w64 (s16.2.2 + 1)))] [(4, rE 1 eI64 x28)] orcN ?_
        refine J_ren 4 0 (Nat.le_of_ble_eq_true rfl) (Nat.le_of_ble_eq_true rfl) ?_
        exact J_q (J_b (ih (x28, v25.2, w64 (s16.2.2 + 1)))) rfl
      · refine J_if2 24 (fun h22 => ?_) (fun h22 => ?_)
        · refine J_bind (fun x23 h24 => ?_)
          refine J_g 31300 [] [(0, sl 1 eI64 a1), (1, iv a2), (5, rr 2 x23), (7, iv s16.2.2)] [(2, rE 1 eI64 x23)] (orcC 2 (x_bp 39 2 1 1 eI64 [a2] [0] [(.tmp 26)] [iv a2]) (orcC 3 (x_ap 39 39 2 2 1 8 2 0 1 eI64 (.tmp 25) (.tmp 27) h24) orcN)) ?_
          refine J_g 31301 [] [(0, sl 1 eI64 a1), (1, iv a2), (5, rr 2 x23), (6, bv true), (7, iv s16.2.2)] [(2, rE 1 eI64 x23)] orcN ?_
          exact J_qw (J_j (jv25 (x23, true))) rfl
        · refine J_ren 0 2 (Nat.le_of_ble_eq_true rfl) (Nat.le_of_ble_eq_true rfl) ?_
          exact J_qw (J_j (jv25 (s16.1, s16.2.1))) rfl
    · refine J_ite (fun h20 => ?_) (fun h20 => ?_)
      · refine J_g 7824 [] [(0, sl 1 eI64 a1), (1, iv a2), (5, rr 0 s16.1), (6, bv s16.2.1), (7, iv s16.2.2), (24, bv (!s16.2.1))] [(0, rE 1 eI64 s16.1)] (orcC 2 (x_ix (kk := .i64) 39 2 1 eI64 (.tmp 15) (.tmp 16) h19) (orcL 6 [(20, bv (decide (x18 > a2)))] [] h20 orcN)) ?_
        exact J_qw (J_j (jv21 (!s16.2.1))) rfl
      · refine J_g 7824 [] [(0, sl 1 eI64 a1), (1, iv a2), (5, rr 0 s16.1), (6, bv s16.2.1), (7, iv s16.2.2), (24, bv false)] [(0, rE 1 eI64 s16.1)] (orcC 2 (x_ix (kk := .i64) 39 2 1 eI64 (.tmp 15) (.tmp 16) h19) (orcL 6 [(20, bv (decide (x18 > a2)))] [] h20 orcN)) ?_
        exact J_qw (J_j (jv21 false)) rfl
  · exact J_qw (hk (s16.1, s16.2.1)) rfl

theorem spec_l3Put.ok (a1 : (List Int)) (a2 : Int) : Ok Tryz.prog 116 [sl 1 eI64 a1, iv a2] [] ((spec_l3Put a1 a2).map fun r => (so 1 eI64 r, [])) := by
  refine Ok_of3 c116 Tryz.f116 0 43 (fun q => ?_)
  unfold spec_l3Put
  refine J_g 2 [] [(0, sl 1 eI64 a1), (1, iv a2)] [] orcN ?_
  refine J_g 6 [] [(0, sl 1 eI64 a1), (1, iv a2), (5, rr 0 ([] : List Int))] [(0, rE 1 eI64 ([] : List Int))] (orcC 0 (x_bp 39 2 1 0 eI64 ([] : List Int) [] [] []) orcN) ?_
  refine J_g 14 [] [(0, sl 1 eI64 a1), (1, iv a2), (5, rr 0 ([] : List Int)), (6, bv false)] [(0, rE 1 eI64 ([] : List Int))] orcN ?_
  refine J_g 60 [] [(0, sl 1 eI64 a1), (1, iv a2), (5, rr 0 ([] : List Int)), (6, bv false), (7, iv 0)] [(0, rE 1 eI64 ([] : List Int))] orcN ?_
  refine J_lq (spec_l3Put_l1.ok a1 a2 q _ (fun v30 => J_j ?_) (([] : List Int), false, 0))
  refine J_g 124 [] [(1, iv a2), (5, rr 0 v30.1), (37, bv (!v30.2))] [(0, rE 1 eI64 v30.1)] orcN ?_
  refine J_join (atI c116 63) (fun v34 : (List Int) => St.mk' [(5, rr 2 v34)] [(2, rE 1 eI64 v34)]) (fun v34 => ?_) (fun jv34 => ?_)
  · refine J_g 126 [] [(4, rr 2 v34)] [(2, rE 1 eI64 v34)] orcN ?_
    exact J_rm (ds := [rr 2 v34]) (ds' := [so 1 eI64 v34]) (.cons (.cell (.move (.head _) (List.length_map _) (by decide) (.nil))) (.nil) (by decide)) rfl
  · refine J_if2 37 (fun h31 => ?_) (fun h31 => ?_)
    · refine J_bind (fun x32 h33 => ?_)
      refine J_g 250 [] [(5, rr 2 x32)] [(2, rE 1 eI64 x32)] (orcC 2 (x_bp 39 2 1 1 eI64 [a2] [0] [(.tmp 39)] [iv a2]) (orcC 3 (x_ap 39 39 2 2 1 8 2 0 1 eI64 (.tmp 38) (.tmp 40) h33) orcN)) ?_
      exact J_qw (J_j (jv34 x32)) rfl
    · refine J_ren 0 2 (Nat.le_of_ble_eq_true rfl) (Nat.le_of_ble_eq_true rfl) ?_
      exact J_qw (J_j (jv34 v30.1)) rfl

noncomputable def c149 : Code := (Tryz.f149.body).getD .skip

theorem spec_l3Parse_l1.ok (a1 : (List Pack)) (x4 : (List ByteArray)) (q : Wd) (kn : (List Int) → Option (D × List Ent)) (hk : ∀ v : (List Int), J (q.g Tryz.prog 149 0 60) c149 (atI c149 63) (St.mk' [(4, pp 0), (6, rr 2 v)] [(0, .box [iv 0, iv 0, nv]), (2, rE 1 eI64 v)]) (some v) kn) :
    ∀ s29 : ((List Int) × Int), J (q.g Tryz.prog 149 0 60) c149 (atI c149 500) (St.mk' [(0, sl 8 (Pack.enc false) a1), (4, pp 0), (5, rr 1 x4), (6, rr 2 s29.1), (7, iv s29.2)] [(0, .box [iv 0, iv 0, nv]), (1, rE 1 eStr x4), (2, rE 1 eI64 s29.1)]) (spec_l3Parse_l1 a1 x4 s29) (Fl.go (fun r : SetResult => some (.ag [iv r.Code, iv r.At, so 1 eI64 r.Set], [])) kn) := by
  refine J_lp (fun g ih s29 => ?_)
  unfold spec_l3Parse_l1b
  refine J_g 2000 [] [(0, sl 8 (Pack.enc false) a1), (4, pp 0), (5, rr 1 x4), (6, rr 2 s29.1), (7, iv s29.2), (21, bv (decide (s29.2 < (x4.length : Int))))] [(0, .box [iv 0, iv 0, nv]), (1, rE 1 eStr x4), (2, rE 1 eI64 s29.1)] orcN ?_
  refine J_if2 21 (fun h30 => ?_) (fun h30 => ?_)
  · refine J_bind (fun x31 h32 => ?_)
    refine J_bind (fun x33 h34 => ?_)
    refine J_g 8008 [] [(0, sl 8 (Pack.enc false) a1), (4, pp 0), (5, rr 1 x4), (6, rr 2 s29.1), (7, iv s29.2), (8, rr 3 x33)] [(0, .box [iv 0, iv 0, nv]), (1, rE 1 eStr x4), (2, rE 1 eI64 s29.1), (3, rE 1 eStr x33)] (orcC 2 (x_ixr (kk := .i64) 86 9 1 1 eStr (.tmp 24) (.tmp 25) h32) (orcC 3 (x_ldr (d := sv x31) 9 1 1 0 eStr (.tmp 26) h32 (by kernel_rfl)) (orcC 4 (x_c1 («as» := [sv x31]) [(.tmp 27)] [9] false [] [] (.cons (.same rfl) (.nil)) (spec_l2Words.ok x31) h34 (.own 3)) orcN))) ?_
    refine J_g 16018 [] [(0, sl 8 (Pack.enc false) a1), (4, pp 0), (5, rr 1 x4), (6, rr 2 s29.1), (7, iv s29.2), (8, rr 3 x33), (9, iv (-1))] [(0, .box [iv 0, iv 0, nv]), (1, rE 1 eStr x4), (2, rE 1 eI64 s29.1), (3, rE 1 eStr x33)] orcN ?_
    refine J_g 64076 [] [(0, sl 8 (Pack.enc false) a1), (4, pp 0), (5, rr 1 x4), (6, rr 2 s29.1), (7, iv s29.2), (8, rr 3 x33), (9, iv (-1)), (31, bv ((x33.length : Int) == 2))] [(0, .box [iv 0, iv 0, nv]), (1, rE 1 eStr x4), (2, rE 1 eI64 s29.1), (3, rE 1 eStr x33)] orcN ?_
    refine J_join (atI c149 32039) (fun v45 : Int => St.mk' [(0, sl 8 (Pack.enc false) a1), (4, pp 0), (5, rr 1 x4), (6, rr 2 s29.1), (7, iv s29.2), (9, iv v45)] [(0, .box [iv 0, iv 0, nv]), (1, rE 1 eStr x4), (2, rE 1 eI64 s29.1)]) (fun v45 => ?_) (fun jv45 => ?_)
    · refine J_join (atI c149 128157) (fun v49 : Bool => St.mk' [(0, sl 8 (Pack.enc false) a1), (4, pp 0), (5, rr 1 x4), (6, rr 2 s29.1), (7, iv s29.2), (9, iv v45), (52, bv v49)] [(0, .box [iv 0, iv 0, nv]), (1, rE 1 eStr x4), (2, rE 1 eI64 s29.1)]) (fun v49 => ?_) (fun jv49 => ?_)
      · refine J_if2 52 (fun h50 => ?_) (fun h50 => ?_)
        · refine J_g 512628 [] [(4, pp 0)] [(0, .box [iv 5, iv s29.2, nv])] orcN ?_
          exact J_rm (ds := [.ag [iv 5, iv s29.2, nv]]) (ds' := [.ag [iv 5, iv s29.2, so 1 eI64 ([] : List Int)]]) (.cons (.ag (.keep rfl (.keep rfl (.nilsl true 1 (.nil))))) (.nil) (by decide)) rfl
        · refine J_bind (fun x51 h52 => ?_)
          refine J_g 64079 [] [(0, sl 8 (Pack.enc false) a1), (4, pp 0), (5, rr 1 x4), (6, rr 3 x51), (7, iv s29.2)] [(0, .box [iv 0, iv 0, nv]), (1, rE 1 eStr x4), (3, rE 1 eI64 x51)] (orcC 2 (x_c1 («as» := [rr 2 s29.1, iv v45]) [(.tmp 55), (.tmp 56)] [39, 2] true [(2, rE 1 eI64 s29.1)] [] (.cons (am_b (.head _) (fun _ => rfl) rfl) (.cons (.same rfl) (.nil))) (spec_l3Put.ok s29.1 v45) h52 (.own 3) (hbor := fun _ => ⟨rfl, (flat_s (flatM (fun _ => (flatK flat_sc flatN)) _))⟩)) orcN) ?_
          refine J_g 2003 [] [(0, sl 8 (Pack.enc false) a1), (4, pp 0), (5, rr 1 x4), (6, rr 3 x51), (7, iv (w64 (s29.2 + 1)))] [(0, .box [iv 0, iv 0, nv]), (1, rE 1 eStr x4), (3, rE 1 eI64 x51)] orcN ?_
          refine J_ren 3 2 (Nat.le_of_ble_eq_true rfl) (Nat.le_of_ble_eq_true rfl) ?_
          exact J_q (J_b (ih (x51, w64 (s29.2 + 1)))) rfl
      · refine J_ite (fun h46 => ?_) (fun h46 => ?_)
        · refine J_g 128156 [] [(0, sl 8 (Pack.enc false) a1), (4, pp 0), (5, rr 1 x4), (6, rr 2 s29.1), (7, iv s29.2), (9, iv v45), (52, bv true)] [(0, .box [iv 0, iv 0, nv]), (1, rE 1 eStr x4), (2, rE 1 eI64 s29.1)] (orcL 2 [(47, bv (decide (v45 < 0)))] [] h46 orcN) ?_
          exact J_qw (J_j (jv49 true)) rfl
        · refine J_bind (fun x47 h48 => ?_)
          refine J_g 128156 [] [(0, sl 8 (Pack.enc false) a1), (4, pp 0), (5, rr 1 x4), (6, rr 2 s29.1), (7, iv s29.2), (9, iv v45), (52, bv x47)] [(0, .box [iv 0, iv 0, nv]), (1, rE 1 eStr x4), (2, rE 1 eI64 s29.1)] (orcL 2 [(47, bv (decide (v45 < 0)))] [] h46 (orcH 5 2 48 false (x_c1 («as» := [rr 2 s29.1, iv v45]) [(.tmp 49), (.tmp 50)] [39, 2] true [(2, rE 1 eI64 s29.1)] [] (.cons (am_b (.head _) (fun _ => rfl) rfl) (.cons (.same rfl) (.nil))) (spec_l1Has.ok s29.1 v45) h48 (.same rfl rfl) (hbor := fun _ => ⟨rfl, flat_sc⟩)) orcN)) ?_
          exact J_qw (J_j (jv49 x47)) rfl
    · refine J_if2 31 (fun h35 => ?_) (fun h35 => ?_)
      · refine J_bind (fun x36 h37 => ?_)
        refine J_bind (fun x38 h39 => ?_)
        refine J_g 256308 [(4, 4)] [(0, sl 8 (Pack.enc false) a1), (4, pp 0), (5, rr 1 x4), (6, rr 2 s29.1), (7, iv s29.2), (8, rr 3 x33), (9, iv (-1)), (10, pp 4)] [(0, .box [iv 0, iv 0, nv]), (1, rE 1 eStr x4), (2, rE 1 eI64 s29.1), (3, rE 1 eStr x33), (4, .box (VersionResult.enc x38))] (orcC 1 (x_ixr (kk := .i64) 86 9 1 3 eStr (.tmp 32) (.const (.int .i64 1)) h37) (orcC 2 (x_ldr (d := sv x36) 9 1 3 0 eStr (.tmp 33) h37 (by kernel_rfl)) (orcC 3 (x_c0 [(.tmp 34)] [9] (spec_ParseVersion.ok x36) h39) orcN))) ?_
        refine J_g 512618 [] [(0, sl 8 (Pack.enc false) a1), (4, pp 0), (5, rr 1 x4), (6, rr 2 s29.1), (7, iv s29.2), (8, rr 3 x33), (9, iv (-1)), (10, pp 4), (38, bv (x38.Code == 0))] [(0, .box [iv 0, iv 0, nv]), (1, rE 1 eStr x4), (2, rE 1 eI64 s29.1), (3, rE 1 eStr x33), (4, .box (VersionResult.enc x38))] orcN ?_
        refine J_if2 38 (fun h40 => ?_) (fun h40 => ?_)
        · refine J_bind (fun x41 h42 => ?_)
          refine J_bind (fun x43 h44 => ?_)
          refine J_g 1025238 [] [(0, sl 8 (Pack.enc false) a1), (4, pp 0), (5, rr 1 x4), (6, rr 2 s29.1), (7, iv s29.2), (9, iv x43)] [(0, .box [iv 0, iv 0, nv]), (1, rE 1 eStr x4), (2, rE 1 eI64 s29.1)] (orcC 2 (x_ixr (kk := .i64) 86 9 1 3 eStr (.tmp 40) (.const (.int .i64 0)) h42) (orcC 3 (x_ldr (d := sv x41) 9 1 3 0 eStr (.tmp 41) h42 (by kernel_rfl)) (orcC 6 (x_c0 [(.tmp 39), (.tmp 42), (.tmp 44)] [30, 9, 99] (spec_l2Find.ok a1 x41 x38.Version) h44) orcN))) ?_
          exact J_qw (J_j (jv45 x43)) rfl
        · exact J_qw (J_j (jv45 (-1))) rfl
      · exact J_qw (J_j (jv45 (-1))) rfl
  · exact J_qw (hk s29.1) rfl

theorem spec_l3Parse.ok (a1 : (List Pack)) (a2 : ByteArray) : Ok Tryz.prog 149 [sl 8 (Pack.enc false) a1, sv a2] [] ((spec_l3Parse a1 a2).map fun r => (.ag [iv r.Code, iv r.At, so 1 eI64 r.Set], [])) := by
  refine Ok_of3 c149 Tryz.f149 0 60 (fun q => ?_)
  unfold spec_l3Parse
  refine J_g 2 [(0, 0)] [(0, sl 8 (Pack.enc false) a1), (1, sv a2), (4, pp 0)] [(0, .box [iv 0, iv 0, nv])] orcN ?_
  refine J_g 12 [] [(0, sl 8 (Pack.enc false) a1), (1, sv a2), (4, pp 0), (13, bv (decide ((a2.size : Int) > 4000)))] [(0, .box [iv 0, iv 0, nv])] orcN ?_
  refine J_if2 13 (fun h3 => ?_) (fun h3 => ?_)
  · refine J_g 52 [] [(4, pp 0)] [(0, .box [iv 2, iv 0, nv])] orcN ?_
    exact J_rm (ds := [.ag [iv 2, iv 0, nv]]) (ds' := [.ag [iv 2, iv 0, so 1 eI64 ([] : List Int)]]) (.cons (.ag (.keep rfl (.keep rfl (.nilsl true 1 (.nil))))) (.nil) (by decide)) rfl
  · refine J_bind (fun x4 h5 => ?_)
    refine J_g 14 [] [(0, sl 8 (Pack.enc false) a1), (4, pp 0), (5, rr 1 x4)] [(0, .box [iv 0, iv 0, nv]), (1, rE 1 eStr x4)] (orcC 1 (x_c1 («as» := [sv a2]) [(.tmp 15)] [9] false [] [] (.cons (.same rfl) (.nil)) (spec_l2Lines.ok a2) h5 (.own 1)) orcN) ?_
    refine J_g 30 [] [(0, sl 8 (Pack.enc false) a1), (4, pp 0), (5, rr 1 x4), (6, rr 2 ([] : List Int))] [(0, .box [iv 0, iv 0, nv]), (1, rE 1 eStr x4), (2, rE 1 eI64 ([] : List Int))] (orcC 0 (x_bp 39 2 1 2 eI64 ([] : List Int) [] [] []) orcN) ?_
    refine J_g 124 [] [(0, sl 8 (Pack.enc false) a1), (4, pp 0), (5, rr 1 x4), (6, rr 2 ([] : List Int)), (7, iv 0)] [(0, .box [iv 0, iv 0, nv]), (1, rE 1 eStr x4), (2, rE 1 eI64 ([] : List Int))] orcN ?_
    refine J_lqF (K0 := (fun r : SetResult => some (.ag [iv r.Code, iv r.At, so 1 eI64 r.Set], []))) (fun _ => rfl) (spec_l3Parse_l1.ok a1 x4 q _ (fun v53 => J_j ?_) (([] : List Int), 0))
    refine J_g 126 [] [(4, pp 0)] [(0, .box [iv 0, iv 0, rr 2 v53]), (2, rE 1 eI64 v53)] orcN ?_
    exact J_rm (ds := [.ag [iv 0, iv 0, rr 2 v53]]) (ds' := [.ag [iv 0, iv 0, so 1 eI64 v53]]) (.cons (.ag (.keep rfl (.keep rfl (.move (.tail _ (.head _)) (List.length_map _) (by decide) (.nil))))) (.nil) (by decide)) rfl

noncomputable def c77 : Code := (Tryz.f77.body).getD .skip

theorem spec_l8Set.ok (a1 : (List Pack)) (a2 : Disk) (a3 : Int) : Ok Tryz.prog 77 [sl 8 (Pack.enc false) a1, .pb [sl 2 (File.enc false) a2.Files, iv a2.Budget, iv a2.Writes, iv a2.Stop, bv a2.Down], iv a3] [] ((spec_l8Set a1 a2 a3).map fun r => (.ag [iv r.Code, iv r.At, so 1 eI64 r.Set], [])) := by
  refine Ok_of3 c77 Tryz.f77 0 35 (fun q => ?_)
  unfold spec_l8Set
  refine J_g 2 [(0, 0)] [(0, sl 8 (Pack.enc false) a1), (1, .pb [sl 2 (File.enc false) a2.Files, iv a2.Budget, iv a2.Writes, iv a2.Stop, bv a2.Down]), (2, iv a3), (6, pp 0)] [(0, .box [iv 0, iv 0, nv])] orcN ?_
  refine J_bind (fun x4 h5 => ?_)
  refine J_bind (fun x6 h7 => ?_)
  refine J_g 12 [] [(0, sl 8 (Pack.enc false) a1), (1, .pb [sl 2 (File.enc false) a2.Files, iv a2.Budget, iv a2.Writes, iv a2.Stop, bv a2.Down]), (2, iv a3), (6, pp 0), (12, bv (!x6))] [(0, .box [iv 0, iv 0, nv])] (orcC 1 (x_c1 («as» := [.pb [sl 2 (File.enc false) a2.Files, iv a2.Budget, iv a2.Writes, iv a2.Stop, bv a2.Down]]) [(.tmp 8)] [72] false [] [] (.cons (.pb (.cons (.same rfl) (.cons (.same rfl) (.cons (.same rfl) (.cons (.same rfl) (.cons (.same rfl) (.nil))))))) (.nil)) (spec_l8Gens.ok a2) h5 (.own 1)) (orcC 3 (x_c1 («as» := [rr 1 x4, iv a3]) [(.tmp 9), (.tmp 10)] [39, 2] true [(1, rE 1 eI64 x4)] [] (.cons (am_b (.head _) (fun _ => rfl) rfl) (.cons (.same rfl) (.nil))) (spec_l1Has.ok x4 a3) h7 (.same rfl rfl) (hbor := fun _ => ⟨rfl, flat_sc⟩)) orcN)) ?_
  refine J_if2 12 (fun h8 => ?_) (fun h8 => ?_)
  · refine J_g 52 [] [(6, pp 0)] [(0, .box [iv 4, iv 0, nv])] orcN ?_
    exact J_rm (ds := [.ag [iv 4, iv 0, nv]]) (ds' := [.ag [iv 4, iv 0, so 1 eI64 ([] : List Int)]]) (.cons (.ag (.keep rfl (.keep rfl (.nilsl true 1 (.nil))))) (.nil) (by decide)) rfl
  · refine J_bind (fun x9 h10 => ?_)
    refine J_bind (fun x11 h12 => ?_)
    refine J_bind (fun x13 h14 => ?_)
    refine J_bind (fun x15 h16 => ?_)
    refine J_g 14 [(14, 2)] [(6, pp 0), (7, pp 2)] [(0, .box [iv 0, iv 0, nv]), (1, rE 1 eI64 x15.Set), (2, .box [iv x15.Code, iv x15.At, rr 1 x15.Set])] (orcC 2 (x_nilpb (.tmp 15) [sl 2 (File.enc false) a2.Files, iv a2.Budget, iv a2.Writes, iv a2.Stop, bv a2.Down]) (orcC 3 (x_fapb 33 (.tmp 16) 0 0 1 [sl 2 (File.enc false) a2.Files, iv a2.Budget, iv a2.Writes, iv a2.Stop, bv a2.Down]) (orcC 4 (x_ldpb (d := sl 2 (File.enc false) a2.Files) 31 (.tmp 17) [sl 2 (File.enc false) a2.Files]) (orcC 7 (x_c0 [(.tmp 20)] [2] (spec_GenPath.ok a3) h10) (orcC 8 (x_c1 («as» := [.pb [sl 2 (File.enc false) a2.Files, iv a2.Budget, iv a2.Writes, iv a2.Stop, bv a2.Down], sv x9]) [(.tmp 19), (.tmp 21)] [72, 9] false [] [] (.cons (.pb (.cons (.same rfl) (.cons (.same rfl) (.cons (.same rfl) (.cons (.same rfl) (.cons (.same rfl) (.nil))))))) (.cons (.same rfl) (.nil))) (spec_l7Find.ok a2 x9) h12 (.same rfl rfl)) (orcC 9 (x_ix (kk := .i64) 31 138 2 (File.enc false) (.tmp 18) (.tmp 22) h14) (orcC 12 (x_b2s (xs := x13.Data) 121 9 5 (.tmp 25)) (orcC 13 (x_c1 («as» := [sl 8 (Pack.enc false) a1, sv (b2s x13.Data)]) [(.tmp 14), (.tmp 26)] [30, 9] false [] [] (.cons (.same rfl) (.cons (.same rfl) (.nil))) (spec_l3Parse.ok a1 (b2s x13.Data)) h16 (.ag (.cons (.same rfl rfl) (.cons (.same rfl rfl) (.cons (.own 1) (.nil)))))) orcN)))))))) ?_
    refine J_g 60 [] [(6, pp 0), (7, pp 2), (30, bv (x15.Code != 0))] [(0, .box [iv 0, iv 0, nv]), (1, rE 1 eI64 x15.Set), (2, .box [iv x15.Code, iv x15.At, rr 1 x15.Set])] orcN ?_
    refine J_if2 30 (fun h17 => ?_) (fun h17 => ?_)
    · refine J_g 244 [] [(6, pp 0)] [(0, .box [iv x15.Code, iv 0, nv])] orcN ?_
      exact J_rm (ds := [.ag [iv x15.Code, iv 0, nv]]) (ds' := [.ag [iv x15.Code, iv 0, so 1 eI64 ([] : List Int)]]) (.cons (.ag (.keep rfl (.keep rfl (.nilsl true 1 (.nil))))) (.nil) (by decide)) rfl
    · refine J_g 62 [] [(6, pp 0)] [(0, .box [iv x15.Code, iv x15.At, rr 1 x15.Set]), (1, rE 1 eI64 x15.Set)] orcN ?_
      exact J_rm (ds := [.ag [iv x15.Code, iv x15.At, rr 1 x15.Set]]) (ds' := [.ag [iv x15.Code, iv x15.At, so 1 eI64 x15.Set]]) (.cons (.ag (.keep rfl (.keep rfl (.move (.tail _ (.head _)) (List.length_map _) (by decide) (.nil))))) (.nil) (by decide)) rfl

noncomputable def c43 : Code := (Tryz.f43.body).getD .skip

theorem spec_l8Shown.ok (a1 : (List Pack)) (a2 : Disk) : Ok Tryz.prog 43 [sl 8 (Pack.enc false) a1, .pb [sl 2 (File.enc false) a2.Files, iv a2.Budget, iv a2.Writes, iv a2.Stop, bv a2.Down]] [] ((spec_l8Shown a1 a2).map fun r => (.ag [iv r.Code, iv r.At, so 1 eI64 r.Set], [])) := by
  refine Ok_of3 c43 Tryz.f43 0 10 (fun q => ?_)
  unfold spec_l8Shown
  refine J_g 2 [(0, 0)] [(0, sl 8 (Pack.enc false) a1), (1, .pb [sl 2 (File.enc false) a2.Files, iv a2.Budget, iv a2.Writes, iv a2.Stop, bv a2.Down]), (4, pp 0)] [(0, .box [iv 0, iv 0, nv])] orcN ?_
  refine J_bind (fun x3 h4 => ?_)
  refine J_bind (fun x5 h6 => ?_)
  refine J_g 6 [] [(4, pp 0)] [(0, .box [iv x5.Code, iv x5.At, rr 1 x5.Set]), (1, rE 1 eI64 x5.Set)] (orcC 3 (x_c1 («as» := [.pb [sl 2 (File.enc false) a2.Files, iv a2.Budget, iv a2.Writes, iv a2.Stop, bv a2.Down]]) [(.tmp 7)] [72] false [] [] (.cons (.pb (.cons (.same rfl) (.cons (.same rfl) (.cons (.same rfl) (.cons (.same rfl) (.cons (.same rfl) (.nil))))))) (.nil)) (spec_l8Current.ok a2) h4 (.same rfl rfl)) (orcC 4 (x_c1 («as» := [sl 8 (Pack.enc false) a1, .pb [sl 2 (File.enc false) a2.Files, iv a2.Budget, iv a2.Writes, iv a2.Stop, bv a2.Down], iv x3]) [(.tmp 5), (.tmp 6), (.tmp 8)] [30, 72, 2] false [] [] (.cons (.same rfl) (.cons (.pb (.cons (.same rfl) (.cons (.same rfl) (.cons (.same rfl) (.cons (.same rfl) (.cons (.same rfl) (.nil))))))) (.cons (.same rfl) (.nil)))) (spec_l8Set.ok a1 a2 x3) h6 (.ag (.cons (.same rfl rfl) (.cons (.same rfl rfl) (.cons (.own 1) (.nil)))))) orcN)) ?_
  exact J_rm (ds := [.ag [iv x5.Code, iv x5.At, rr 1 x5.Set]]) (ds' := [.ag [iv x5.Code, iv x5.At, so 1 eI64 x5.Set]]) (.cons (.ag (.keep rfl (.keep rfl (.move (.tail _ (.head _)) (List.length_map _) (by decide) (.nil))))) (.nil) (by decide)) rfl

noncomputable def c291 : Code := (Tryz.f291.body).getD .skip

theorem spec_l1InTerm.ok (a1 : Term) (a2 : ByteArray) (a3 : Version) : Ok Tryz.prog 291 [.ag (Term.enc a1), sv a2, .ag (Version.enc a3)] [] ((spec_l1InTerm a1 a2 a3).map fun r => (bv r, [])) := by
  refine Ok_of3 c291 Tryz.f291 0 25 (fun q => ?_)
  unfold spec_l1InTerm
  refine J_g 2 [(0, 0), (1, 1)] [(1, sv a2), (3, pp 0), (5, pp 1)] [(0, .box (Term.enc a1)), (1, .box (Version.enc a3))] orcN ?_
  refine J_ite (fun h4 => ?_) (fun h4 => ?_)
  · refine J_bind (fun x5 h6 => ?_)
    refine J_ite (fun h7 => ?_) (fun h7 => ?_)
    · refine J_bind (fun x8 h9 => ?_)
      refine J_g 6 [] [(6, bv (decide (x8 < 0)))] [] (orcL 4 [(10, bv (seq a1.Name a2))] [] h4 (orcH 8 4 11 true (x_c0 [(.tmp 12), (.tmp 14)] [99, 99] (spec_CompareVersions.ok a3 a1.Low) h6) (orcL 11 [(17, bv (decide (x5 ≥ 0)))] [] h7 (orcH 15 11 18 true (x_c0 [(.tmp 19), (.tmp 21)] [99, 99] (spec_CompareVersions.ok a3 a1.High) h9) orcN)))) ?_
      exact J_r1 rfl
    · refine J_g 6 [] [(6, bv false)] [] (orcL 4 [(10, bv (seq a1.Name a2))] [] h4 (orcH 8 4 11 true (x_c0 [(.tmp 12), (.tmp 14)] [99, 99] (spec_CompareVersions.ok a3 a1.Low) h6) (orcL 11 [(17, bv (decide (x5 ≥ 0)))] [] h7 orcN))) ?_
      exact J_r1 rfl
  · refine J_g 6 [] [(6, bv false)] [] (orcL 4 [(10, bv (seq a1.Name a2))] [] h4 orcN) ?_
    exact J_r1 rfl

noncomputable def c234 : Code := (Tryz.f234.body).getD .skip

theorem spec_l2Gives.ok (a1 : Pack) (a2 : Term) : Ok Tryz.prog 234 [.ag (Pack.enc false a1), .ag (Term.enc a2)] [] ((spec_l2Gives a1 a2).map fun r => (bv r, [])) := by
  refine Ok_of3 c234 Tryz.f234 0 25 (fun q => ?_)
  unfold spec_l2Gives
  refine J_g 2 [(0, 0), (1, 1)] [(2, pp 0), (3, pp 1)] [(0, .box (Pack.enc false a1)), (1, .box (Term.enc a2))] orcN ?_
  refine J_ite (fun h3 => ?_) (fun h3 => ?_)
  · refine J_bind (fun x4 h5 => ?_)
    refine J_g 6 [] [(4, bv x4)] [] (orcL 5 [(9, bv (seq a2.Name a1.Name))] [] h3 (orcH 18 12 17 true (x_c0 [(.tmp 18), (.tmp 20), (.tmp 22)] [149, 9, 99] (spec_l1InTerm.ok a2 a2.Name a1.Version) h5) orcN)) ?_
    exact J_r1 rfl
  · refine J_bind (fun x6 h7 => ?_)
    refine J_ite (fun h8 => ?_) (fun h8 => ?_)
    · refine J_bind (fun x9 h10 => ?_)
      refine J_g 6 [] [(4, bv x9)] [] (orcL 5 [(9, bv (seq a2.Name a1.Name))] [] h3 (orcH 10 5 10 false (x_c0 [(.tmp 12), (.tmp 14)] [86, 9] (spec_l2Holds.ok a1.Provides a2.Name) h7) (orcL 12 [(16, bv x6)] [] h8 (orcH 18 12 17 true (x_c0 [(.tmp 18), (.tmp 20), (.tmp 22)] [149, 9, 99] (spec_l1InTerm.ok a2 a2.Name a1.Version) h10) orcN)))) ?_
      exact J_r1 rfl
    · refine J_g 6 [] [(4, bv false)] [] (orcL 5 [(9, bv (seq a2.Name a1.Name))] [] h3 (orcH 10 5 10 false (x_c0 [(.tmp 12), (.tmp 14)] [86, 9] (spec_l2Holds.ok a1.Provides a2.Name) h7) (orcL 12 [(16, bv x6)] [] h8 orcN))) ?_
      exact J_r1 rfl

noncomputable def c168 : Code := (Tryz.f168.body).getD .skip

theorem spec_l3Given_l1.ok (a1 : (List Pack)) (a2 : (List Int)) (a3 : Term) (a4 : Int) (q : Wd) (kn : Unit → Option (D × List Ent)) (hk : ∀ v : Unit, J (q.g Tryz.prog 168 0 33) c168 (atI c168 7) (St.mk' [] []) (some v) kn) :
    ∀ s17 : Int, J (q.g Tryz.prog 168 0 33) c168 (atI c168 52) (St.mk' [(0, sl 8 (Pack.enc false) a1), (1, sl 1 eI64 a2), (3, iv a4), (6, pp 0), (9, iv s17)] [(0, .box (Term.enc a3))]) (spec_l3Given_l1 a1 a2 a3 a4 s17) (Fl.go (fun r : Bool => some (bv r, [])) kn) := by
  refine J_lp (fun g ih s17 => ?_)
  unfold spec_l3Given_l1b
  refine J_g 208 [] [(0, sl 8 (Pack.enc false) a1), (1, sl 1 eI64 a2), (3, iv a4), (6, pp 0), (9, iv s17), (13, bv (decide (s17 < (a2.length : Int))))] [(0, .box (Term.enc a3))] orcN ?_
  refine J_if2 13 (fun h18 => ?_) (fun h18 => ?_)
  · refine J_bind (fun x19 h20 => ?_)
    refine J_join (atI c168 841) (fun v28 : Bool => St.mk' [(0, sl 8 (Pack.enc false) a1), (1, sl 1 eI64 a2), (3, iv a4), (6, pp 0), (9, iv s17), (32, bv v28)] [(0, .box (Term.enc a3))]) (fun v28 => ?_) (fun jv28 => ?_)
    · refine J_if2 32 (fun h29 => ?_) (fun h29 => ?_)
      · refine J_g 3364 [] [(8, bv true)] [] orcN ?_
        exact J_r1 rfl
      · refine J_g 211 [] [(0, sl 8 (Pack.enc false) a1), (1, sl 1 eI64 a2), (3, iv a4), (6, pp 0), (9, iv (w64 (s17 + 1)))] [(0, .box (Term.enc a3))] orcN ?_
        exact J_q (J_b (ih (w64 (s17 + 1)))) rfl
    · refine J_ite (fun h21 => ?_) (fun h21 => ?_)
      · refine J_bind (fun x22 h23 => ?_)
        refine J_bind (fun x24 h25 => ?_)
        refine J_bind (fun x26 h27 => ?_)
        refine J_g 840 [] [(0, sl 8 (Pack.enc false) a1), (1, sl 1 eI64 a2), (3, iv a4), (6, pp 0), (9, iv s17), (32, bv x26)] [(0, .box (Term.enc a3))] (orcC 2 (x_ix (kk := .i64) 39 2 1 eI64 (.tmp 16) (.tmp 17) h20) (orcL 6 [(21, bv (x19 != a4))] [] h21 (orcH 10 6 22 true (x_ix (kk := .i64) 39 2 1 eI64 (.tmp 24) (.tmp 25) h23) (orcH 12 6 22 true (x_ix (kk := .i64) 30 102 8 (Pack.enc false) (.tmp 23) (.tmp 27) h25) (orcH 15 6 22 true (x_c0 [(.tmp 29), (.tmp 30)] [102, 149] (spec_l2Gives.ok x24 a3) h27) orcN))))) ?_
        exact J_qw (J_j (jv28 x26)) rfl
      · refine J_g 840 [] [(0, sl 8 (Pack.enc false) a1), (1, sl 1 eI64 a2), (3, iv a4), (6, pp 0), (9, iv s17), (32, bv false)] [(0, .box (Term.enc a3))] (orcC 2 (x_ix (kk := .i64) 39 2 1 eI64 (.tmp 16) (.tmp 17) h20) (orcL 6 [(21, bv (x19 != a4))] [] h21 orcN)) ?_
        exact J_qw (J_j (jv28 false)) rfl
  · exact J_qw (hk ()) rfl

theorem spec_l3Given.ok (a1 : (List Pack)) (a2 : (List Int)) (a3 : Term) (a4 : Int) : Ok Tryz.prog 168 [sl 8 (Pack.enc false) a1, sl 1 eI64 a2, .ag (Term.enc a3), iv a4] [] ((spec_l3Given a1 a2 a3 a4).map fun r => (bv r, [])) := by
  refine Ok_of3 c168 Tryz.f168 0 33 (fun q => ?_)
  unfold spec_l3Given
  refine J_g 2 [(0, 0)] [(0, sl 8 (Pack.enc false) a1), (1, sl 1 eI64 a2), (3, iv a4), (6, pp 0)] [(0, .box (Term.enc a3))] orcN ?_
  refine J_g 12 [] [(0, sl 8 (Pack.enc false) a1), (1, sl 1 eI64 a2), (3, iv a4), (6, pp 0), (9, iv 0)] [(0, .box (Term.enc a3))] orcN ?_
  refine J_lqF (K0 := (fun r : Bool => some (bv r, []))) (fun _ => rfl) (spec_l3Given_l1.ok a1 a2 a3 a4 q _ (fun v30 => J_j ?_) 0)
  refine J_g 14 [] [(8, bv false)] [] orcN ?_
  exact J_r1 rfl

noncomputable def c167 : Code := (Tryz.f167.body).getD .skip

theorem spec_l3Met_l1.ok (a1 : (List Pack)) (a2 : (List Int)) (a3 : (List Term)) (q : Wd) (kn : Unit → Option (D × List Ent)) (hk : ∀ v : Unit, J (q.g Tryz.prog 167 0 21) c167 (atI c167 7) (St.mk' [] []) (some v) kn) :
    ∀ s10 : Int, J (q.g Tryz.prog 167 0 21) c167 (atI c167 52) (St.mk' [(0, sl 8 (Pack.enc false) a1), (1, sl 1 eI64 a2), (2, sl 7 Term.enc a3), (7, iv s10)] []) (spec_l3Met_l1 a1 a2 a3 s10) (Fl.go (fun r : Bool => some (bv r, [])) kn) := by
  refine J_lp (fun g ih s10 => ?_)
  unfold spec_l3Met_l1b
  refine J_g 208 [] [(0, sl 8 (Pack.enc false) a1), (1, sl 1 eI64 a2), (2, sl 7 Term.enc a3), (7, iv s10), (11, bv (decide (s10 < (a3.length : Int))))] [] orcN ?_
  refine J_if2 11 (fun h11 => ?_) (fun h11 => ?_)
  · refine J_bind (fun x12 h13 => ?_)
    refine J_bind (fun x14 h15 => ?_)
    refine J_g 840 [] [(0, sl 8 (Pack.enc false) a1), (1, sl 1 eI64 a2), (2, sl 7 Term.enc a3), (7, iv s10), (20, bv x14)] [] (orcC 4 (x_ix (kk := .i64) 75 149 7 Term.enc (.tmp 16) (.tmp 17) h13) (orcC 6 (x_c0 [(.tmp 14), (.tmp 15), (.tmp 19), (.const (.int .i64 (-1)))] [30, 39, 149, 2] (spec_l3Given.ok a1 a2 x12 (-1)) h15) orcN)) ?_
    refine J_if2 20 (fun h16 => ?_) (fun h16 => ?_)
    · refine J_g 3364 [] [(6, bv true)] [] orcN ?_
      exact J_r1 rfl
    · refine J_g 211 [] [(0, sl 8 (Pack.enc false) a1), (1, sl 1 eI64 a2), (2, sl 7 Term.enc a3), (7, iv (w64 (s10 + 1)))] [] orcN ?_
      exact J_q (J_b (ih (w64 (s10 + 1)))) rfl
  · exact J_qw (hk ()) rfl

theorem spec_l3Met.ok (a1 : (List Pack)) (a2 : (List Int)) (a3 : (List Term)) : Ok Tryz.prog 167 [sl 8 (Pack.enc false) a1, sl 1 eI64 a2, sl 7 Term.enc a3] [] ((spec_l3Met a1 a2 a3).map fun r => (bv r, [])) := by
  refine Ok_of3 c167 Tryz.f167 0 21 (fun q => ?_)
  unfold spec_l3Met
  refine J_g 2 [] [(0, sl 8 (Pack.enc false) a1), (1, sl 1 eI64 a2), (2, sl 7 Term.enc a3)] [] orcN ?_
  refine J_g 12 [] [(0, sl 8 (Pack.enc false) a1), (1, sl 1 eI64 a2), (2, sl 7 Term.enc a3), (7, iv 0)] [] orcN ?_
  refine J_lqF (K0 := (fun r : Bool => some (bv r, []))) (fun _ => rfl) (spec_l3Met_l1.ok a1 a2 a3 q _ (fun v17 => J_j ?_) 0)
  refine J_g 14 [] [(6, bv false)] [] orcN ?_
  exact J_r1 rfl

noncomputable def c93 : Code := (Tryz.f93.body).getD .skip

theorem spec_l3Faults_l3.ok (a1 : (List Pack)) (a2 : (List Int)) (s82 : ((List Fault) × Int)) (x86 : Pack) (q : Wd) (kn : (List Fault) → Option (D × List Ent)) (hk : ∀ v : (List Fault), J (q.g Tryz.prog 93 0 103) c93 (aft c93 932) (St.mk' [(0, sl 8 (Pack.enc false) a1), (1, sl 1 eI64 a2), (5, rr 0 v), (6, iv s82.2)] [(0, rE 3 Fault.enc v)]) (some v) kn) :
    ∀ s147 : ((List Fault) × Int), J (q.g Tryz.prog 93 0 103) c93 (atI c93 59708) (St.mk' [(0, sl 8 (Pack.enc false) a1), (1, sl 1 eI64 a2), (5, rr 0 s147.1), (6, iv s82.2), (7, pp 1), (10, iv s147.2)] [(0, rE 3 Fault.enc s147.1), (1, .box (Pack.enc false x86))]) (spec_l3Faults_l3 a1 a2 s82 x86 s147) kn := by
  refine J_lp (fun g ih s147 => ?_)
  unfold spec_l3Faults_l3b
  refine J_g 238832 [] [(0, sl 8 (Pack.enc false) a1), (1, sl 1 eI64 a2), (5, rr 0 s147.1), (6, iv s82.2), (7, pp 1), (10, iv s147.2), (78, bv (decide (s147.2 < (x86.Bars.length : Int))))] [(0, rE 3 Fault.enc s147.1), (1, .box (Pack.enc false x86))] orcN ?_
  refine J_if2 78 (fun h148 => ?_) (fun h148 => ?_)
  · refine J_bind (fun x149 h150 => ?_)
    refine J_bind (fun x151 h152 => ?_)
    refine J_bind (fun x153 h154 => ?_)
    refine J_g 955336 [] [(0, sl 8 (Pack.enc false) a1), (1, sl 1 eI64 a2), (5, rr 0 s147.1), (6, iv s82.2), (7, pp 1), (10, iv s147.2), (92, bv x153)] [(0, rE 3 Fault.enc s147.1), (1, .box (Pack.enc false x86))] (orcC 5 (x_ix (kk := .i64) 75 149 7 Term.enc (.tmp 84) (.tmp 85) h150) (orcC 9 (x_ix (kk := .i64) 39 2 1 eI64 (.tmp 88) (.tmp 89) h152) (orcC 11 (x_c0 [(.tmp 81), (.tmp 82), (.tmp 87), (.tmp 91)] [30, 39, 149, 2] (spec_l3Given.ok a1 a2 x149 x151) h154) orcN))) ?_
    refine J_join (aft c93 477668) (fun v160 : (List Fault) => St.mk' [(0, sl 8 (Pack.enc false) a1), (1, sl 1 eI64 a2), (5, rr 3 v160), (6, iv s82.2), (7, pp 1), (10, iv s147.2)] [(1, .box (Pack.enc false x86)), (3, rE 3 Fault.enc v160)]) (fun v160 => ?_) (fun jv160 => ?_)
    · refine J_g 238835 [] [(0, sl 8 (Pack.enc false) a1), (1, sl 1 eI64 a2), (5, rr 3 v160), (6, iv s82.2), (7, pp 1), (10, iv (w64 (s147.2 + 1)))] [(1, .box (Pack.enc false x86)), (3, rE 3 Fault.enc v160)] orcN ?_
      refine J_ren 3 0 (Nat.le_of_ble_eq_true rfl) (Nat.le_of_ble_eq_true rfl) ?_
      exact J_q (J_b (ih (v160, w64 (s147.2 + 1)))) rfl
    · refine J_if2 92 (fun h155 => ?_) (fun h155 => ?_)
      · refine J_bind (fun x156 h157 => ?_)
        refine J_bind (fun x158 h159 => ?_)
        refine J_g 1910674 [] [(0, sl 8 (Pack.enc false) a1), (1, sl 1 eI64 a2), (5, rr 3 x158), (6, iv s82.2), (7, pp 1), (10, iv s147.2)] [(1, .box (Pack.enc false x86)), (3, rE 3 Fault.enc x158)] (orcC 3 (x_ix (kk := .i64) 39 2 1 eI64 (.tmp 94) (.tmp 95) h157) (orcC 7 (x_bp 133 199 3 2 Fault.enc [({ Kind := 3, Pack := x156, At := s147.2 } : Fault)] [0] [(.tmp 99)] [.ag [iv 3, iv x156, iv s147.2]]) (orcC 8 (x_ap 133 133 199 199 3 24 3 0 2 Fault.enc (.tmp 93) (.tmp 100) h159) orcN))) ?_
        exact J_qw (J_j (jv160 x158)) rfl
      · refine J_ren 0 3 (Nat.le_of_ble_eq_true rfl) (Nat.le_of_ble_eq_true rfl) ?_
        exact J_qw (J_j (jv160 s147.1)) rfl
  · exact J_qw (hk s147.1) rfl

theorem spec_l3Faults_l2.ok (a1 : (List Pack)) (a2 : (List Int)) (s82 : ((List Fault) × Int)) (x86 : Pack) (q : Wd) (kn : (List Fault) → Option (D × List Ent)) (hk : ∀ v : (List Fault), J (q.g Tryz.prog 93 0 103) c93 (atI c93 7463) (St.mk' [(0, sl 8 (Pack.enc false) a1), (1, sl 1 eI64 a2), (5, rr 0 v), (6, iv s82.2), (7, pp 1)] [(0, rE 3 Fault.enc v), (1, .box (Pack.enc false x86))]) (some v) kn) :
    ∀ s121 : ((List Fault) × Int), J (q.g Tryz.prog 93 0 103) c93 (atI c93 59700) (St.mk' [(0, sl 8 (Pack.enc false) a1), (1, sl 1 eI64 a2), (5, rr 0 s121.1), (6, iv s82.2), (7, pp 1), (9, iv s121.2)] [(0, rE 3 Fault.enc s121.1), (1, .box (Pack.enc false x86))]) (spec_l3Faults_l2 a1 a2 s82 x86 s121) kn := by
  refine J_lp (fun g ih s121 => ?_)
  unfold spec_l3Faults_l2b
  refine J_g 238800 [] [(0, sl 8 (Pack.enc false) a1), (1, sl 1 eI64 a2), (5, rr 0 s121.1), (6, iv s82.2), (7, pp 1), (9, iv s121.2), (53, bv (decide (s121.2 < (x86.Needs.length : Int))))] [(0, rE 3 Fault.enc s121.1), (1, .box (Pack.enc false x86))] orcN ?_
  refine J_if2 53 (fun h122 => ?_) (fun h122 => ?_)
  · refine J_bind (fun x123 h124 => ?_)
    refine J_bind (fun x125 h126 => ?_)
    refine J_g 955208 [] [(0, sl 8 (Pack.enc false) a1), (1, sl 1 eI64 a2), (5, rr 0 s121.1), (6, iv s82.2), (7, pp 1), (9, iv s121.2), (64, bv (!x125))] [(0, rE 3 Fault.enc s121.1), (1, .box (Pack.enc false x86))] (orcC 5 (x_ix (kk := .i64) 100 75 1 (eSl false 7 Term.enc) (.tmp 59) (.tmp 60) h124) (orcC 7 (x_c0 [(.tmp 56), (.tmp 57), (.tmp 62)] [30, 39, 75] (spec_l3Met.ok a1 a2 x123) h126) orcN)) ?_
    refine J_join (aft c93 477604) (fun v132 : (List Fault) => St.mk' [(0, sl 8 (Pack.enc false) a1), (1, sl 1 eI64 a2), (5, rr 3 v132), (6, iv s82.2), (7, pp 1), (9, iv s121.2)] [(1, .box (Pack.enc false x86)), (3, rE 3 Fault.enc v132)]) (fun v132 => ?_) (fun jv132 => ?_)
    · refine J_g 238803 [] [(0, sl 8 (Pack.enc false) a1), (1, sl 1 eI64 a2), (5, rr 3 v132), (6, iv s82.2), (7, pp 1), (9, iv (w64 (s121.2 + 1)))] [(1, .box (Pack.enc false x86)), (3, rE 3 Fault.enc v132)] orcN ?_
      refine J_ren 3 0 (Nat.le_of_ble_eq_true rfl) (Nat.le_of_ble_eq_true rfl) ?_
      exact J_q (J_b (ih (v132, w64 (s121.2 + 1)))) rfl
    · refine J_if2 64 (fun h127 => ?_) (fun h127 => ?_)
      · refine J_bind (fun x128 h129 => ?_)
        refine J_bind (fun x130 h131 => ?_)
        refine J_g 1910418 [] [(0, sl 8 (Pack.enc false) a1), (1, sl 1 eI64 a2), (5, rr 3 x130), (6, iv s82.2), (7, pp 1), (9, iv s121.2)] [(1, .box (Pack.enc false x86)), (3, rE 3 Fault.enc x130)] (orcC 3 (x_ix (kk := .i64) 39 2 1 eI64 (.tmp 66) (.tmp 67) h129) (orcC 7 (x_bp 133 199 3 2 Fault.enc [({ Kind := 2, Pack := x128, At := s121.2 } : Fault)] [0] [(.tmp 71)] [.ag [iv 2, iv x128, iv s121.2]]) (orcC 8 (x_ap 133 133 199 199 3 24 3 0 2 Fault.enc (.tmp 65) (.tmp 72) h131) orcN))) ?_
        exact J_qw (J_j (jv132 x130)) rfl
      · refine J_ren 0 3 (Nat.le_of_ble_eq_true rfl) (Nat.le_of_ble_eq_true rfl) ?_
        exact J_qw (J_j (jv132 s121.1)) rfl
  · exact J_qw (hk s121.1) rfl

theorem spec_l3Faults_l1.ok (a1 : (List Pack)) (a2 : (List Int)) (s82 : ((List Fault) × Int)) (x86 : Pack) (q : Wd) (kn : (List Fault) → Option (D × List Ent)) (hk : ∀ v : (List Fault), J (q.g Tryz.prog 93 0 103) c93 (atI c93 3731) (St.mk' [(0, sl 8 (Pack.enc false) a1), (1, sl 1 eI64 a2), (5, rr 0 v), (6, iv s82.2), (7, pp 1)] [(0, rE 3 Fault.enc v), (1, .box (Pack.enc false x86))]) (some v) kn) :
    ∀ s98 : Int, J (q.g Tryz.prog 93 0 103) c93 (atI c93 29844) (St.mk' [(0, sl 8 (Pack.enc false) a1), (1, sl 1 eI64 a2), (5, rr 0 s82.1), (6, iv s82.2), (7, pp 1), (8, iv s98)] [(0, rE 3 Fault.enc s82.1), (1, .box (Pack.enc false x86))]) (spec_l3Faults_l1 a1 a2 s82 x86 s98) kn := by
  refine J_lp (fun g ih s98 => ?_)
  unfold spec_l3Faults_l1b
  refine J_g 119376 [] [(0, sl 8 (Pack.enc false) a1), (1, sl 1 eI64 a2), (5, rr 0 s82.1), (6, iv s82.2), (7, pp 1), (8, iv s98), (27, bv (decide (s98 < s82.2)))] [(0, rE 3 Fault.enc s82.1), (1, .box (Pack.enc false x86))] orcN ?_
  refine J_if2 27 (fun h99 => ?_) (fun h99 => ?_)
  · refine J_bind (fun x100 h101 => ?_)
    refine J_bind (fun x102 h103 => ?_)
    refine J_g 477512 [] [(0, sl 8 (Pack.enc false) a1), (1, sl 1 eI64 a2), (5, rr 0 s82.1), (6, iv s82.2), (7, pp 1), (8, iv s98), (40, bv (seq x102.Name x86.Name))] [(0, rE 3 Fault.enc s82.1), (1, .box (Pack.enc false x86))] (orcC 3 (x_ix (kk := .i64) 39 2 1 eI64 (.tmp 31) (.tmp 32) h101) (orcC 5 (x_ix (kk := .i64) 30 102 8 (Pack.enc false) (.tmp 30) (.tmp 34) h103) orcN)) ?_
    refine J_if2 40 (fun h104 => ?_) (fun h104 => ?_)
    · refine J_bind (fun x105 h106 => ?_)
      refine J_bind (fun x107 h108 => ?_)
      refine J_g 1910052 [] [(0, sl 8 (Pack.enc false) a1), (1, sl 1 eI64 a2), (5, rr 3 x107), (6, iv s82.2), (7, pp 1)] [(1, .box (Pack.enc false x86)), (3, rE 3 Fault.enc x107)] (orcC 3 (x_ix (kk := .i64) 39 2 1 eI64 (.tmp 42) (.tmp 43) h106) (orcC 6 (x_bp 133 199 3 2 Fault.enc [({ Kind := 1, Pack := x105, At := 0 } : Fault)] [0] [(.tmp 46)] [.ag [iv 1, iv x105, iv 0]]) (orcC 7 (x_ap 133 133 199 199 3 24 3 0 2 Fault.enc (.tmp 41) (.tmp 47) h108) orcN))) ?_
      refine J_ren 3 0 (Nat.le_of_ble_eq_true rfl) (Nat.le_of_ble_eq_true rfl) ?_
      exact J_qw (hk x107) rfl
    · refine J_g 119379 [] [(0, sl 8 (Pack.enc false) a1), (1, sl 1 eI64 a2), (5, rr 0 s82.1), (6, iv s82.2), (7, pp 1), (8, iv (w64 (s98 + 1)))] [(0, rE 3 Fault.enc s82.1), (1, .box (Pack.enc false x86))] orcN ?_
      exact J_q (J_b (ih (w64 (s98 + 1)))) rfl
  · exact J_qw (hk s82.1) rfl

theorem spec_l3Faults_l4.ok (a1 : (List Pack)) (a2 : (List Int)) (q : Wd) (kn : (List Fault) → Option (D × List Ent)) (hk : ∀ v : (List Fault), J (q.g Tryz.prog 93 0 103) c93 (atI c93 15) (St.mk' [(5, rr 0 v)] [(0, rE 3 Fault.enc v)]) (some v) kn) :
    ∀ s82 : ((List Fault) × Int), J (q.g Tryz.prog 93 0 103) c93 (atI c93 116) (St.mk' [(0, sl 8 (Pack.enc false) a1), (1, sl 1 eI64 a2), (5, rr 0 s82.1), (6, iv s82.2)] [(0, rE 3 Fault.enc s82.1)]) (spec_l3Faults_l4 a1 a2 s82) kn := by
  refine J_lp (fun g ih s82 => ?_)
  unfold spec_l3Faults_l4b
  refine J_g 464 [] [(0, sl 8 (Pack.enc false) a1), (1, sl 1 eI64 a2), (5, rr 0 s82.1), (6, iv s82.2), (15, bv (decide (s82.2 < (a2.length : Int))))] [(0, rE 3 Fault.enc s82.1)] orcN ?_
  refine J_if2 15 (fun h83 => ?_) (fun h83 => ?_)
  · refine J_bind (fun x84 h85 => ?_)
    refine J_bind (fun x86 h87 => ?_)
    refine J_g 1864 [(7, 1)] [(0, sl 8 (Pack.enc false) a1), (1, sl 1 eI64 a2), (5, rr 0 s82.1), (6, iv s82.2), (7, pp 1)] [(0, rE 3 Fault.enc s82.1), (1, .box (Pack.enc false x86))] (orcC 3 (x_ix (kk := .i64) 39 2 1 eI64 (.tmp 19) (.tmp 20) h85) (orcC 5 (x_ix (kk := .i64) 30 102 8 (Pack.enc false) (.tmp 18) (.tmp 22) h87) orcN)) ?_
    refine J_g 7460 [] [(0, sl 8 (Pack.enc false) a1), (1, sl 1 eI64 a2), (5, rr 0 s82.1), (6, iv s82.2), (7, pp 1), (8, iv 0)] [(0, rE 3 Fault.enc s82.1), (1, .box (Pack.enc false x86))] orcN ?_
    refine J_lq (spec_l3Faults_l1.ok a1 a2 s82 x86 q _ (fun v109 => J_j ?_) 0)
    refine J_g 14924 [] [(0, sl 8 (Pack.enc false) a1), (1, sl 1 eI64 a2), (5, rr 0 v109), (6, iv s82.2), (7, pp 1), (9, iv 0)] [(0, rE 3 Fault.enc v109), (1, .box (Pack.enc false x86))] orcN ?_
    refine J_lq (spec_l3Faults_l2.ok a1 a2 s82 x86 q _ (fun v133 => J_j ?_) (v109, 0))
    refine J_g 14926 [] [(0, sl 8 (Pack.enc false) a1), (1, sl 1 eI64 a2), (5, rr 0 v133), (6, iv s82.2), (7, pp 1), (10, iv 0)] [(0, rE 3 Fault.enc v133), (1, .box (Pack.enc false x86))] orcN ?_
    refine J_lq (spec_l3Faults_l3.ok a1 a2 s82 x86 q _ (fun v161 => J_j ?_) (v133, 0))
    refine J_g 467 [] [(0, sl 8 (Pack.enc false) a1), (1, sl 1 eI64 a2), (5, rr 0 v161), (6, iv (w64 (s82.2 + 1)))] [(0, rE 3 Fault.enc v161)] orcN ?_
    exact J_q (J_b (ih (v161, w64 (s82.2 + 1)))) rfl
  · exact J_qw (hk s82.1) rfl

theorem spec_l3Faults.ok (a1 : (List Pack)) (a2 : (List Int)) : Ok Tryz.prog 93 [sl 8 (Pack.enc false) a1, sl 1 eI64 a2] [] ((spec_l3Faults a1 a2).map fun r => (so 3 Fault.enc r, [])) := by
  refine Ok_of3 c93 Tryz.f93 0 103 (fun q => ?_)
  unfold spec_l3Faults
  refine J_g 2 [] [(0, sl 8 (Pack.enc false) a1), (1, sl 1 eI64 a2)] [] orcN ?_
  refine J_g 6 [] [(0, sl 8 (Pack.enc false) a1), (1, sl 1 eI64 a2), (5, rr 0 ([] : List Fault))] [(0, rE 3 Fault.enc ([] : List Fault))] (orcC 0 (x_bp 133 199 3 0 Fault.enc ([] : List Fault) [] [] []) orcN) ?_
  refine J_g 28 [] [(0, sl 8 (Pack.enc false) a1), (1, sl 1 eI64 a2), (5, rr 0 ([] : List Fault)), (6, iv 0)] [(0, rE 3 Fault.enc ([] : List Fault))] orcN ?_
  refine J_lq (spec_l3Faults_l4.ok a1 a2 q _ (fun v162 => J_j ?_) (([] : List Fault), 0))
  refine J_g 30 [] [(4, rr 0 v162)] [(0, rE 3 Fault.enc v162)] orcN ?_
  exact J_rm (ds := [rr 0 v162]) (ds' := [so 3 Fault.enc v162]) (.cons (.cell (.move (.head _) (List.length_map _) (by decide) (.nil))) (.nil) (by decide)) rfl

noncomputable def c44 : Code := (Tryz.f44.body).getD .skip

theorem spec_l3Good.ok (a1 : (List Pack)) (a2 : (List Int)) : Ok Tryz.prog 44 [sl 8 (Pack.enc false) a1, sl 1 eI64 a2] [] ((spec_l3Good a1 a2).map fun r => (bv r, [])) := by
  refine Ok_of3 c44 Tryz.f44 0 10 (fun q => ?_)
  unfold spec_l3Good
  refine J_g 2 [] [(0, sl 8 (Pack.enc false) a1), (1, sl 1 eI64 a2)] [] orcN ?_
  refine J_bind (fun x3 h4 => ?_)
  refine J_g 6 [] [(4, bv ((x3.length : Int) == 0))] [] (orcC 2 (x_c1 («as» := [sl 8 (Pack.enc false) a1, sl 1 eI64 a2]) [(.tmp 5), (.tmp 6)] [30, 39] false [] [] (.cons (.same rfl) (.cons (.same rfl) (.nil))) (spec_l3Faults.ok a1 a2) h4 (.own 0)) orcN) ?_
  exact J_r1 rfl

noncomputable def c169 : Code := (Tryz.f169.body).getD .skip

theorem spec_FormatVersion.ok (a1 : Version) : Ok Tryz.prog 169 [.ag (Version.enc a1)] [] ((spec_FormatVersion a1).map fun r => (sv r, [])) := by
  refine Ok_of3 c169 Tryz.f169 0 19 (fun q => ?_)
  unfold spec_FormatVersion
  refine J_g 2 [(0, 0)] [(1, pp 0)] [(0, .box (Version.enc a1))] orcN ?_
  refine J_bind (fun x2 h3 => ?_)
  refine J_g 12 [] [(1, pp 0), (5, bv (x2 != 0))] [(0, .box (Version.enc a1))] (orcC 1 (x_c0 [(.tmp 3)] [99] (spec_VersionFault.ok a1) h3) orcN) ?_
  refine J_if2 5 (fun h4 => ?_) (fun h4 => ?_)
  · refine J_g 52 [] [(2, sv (bs []))] [] orcN ?_
    exact J_r1 rfl
  · refine J_bind (fun x5 h6 => ?_)
    refine J_bind (fun x7 h8 => ?_)
    refine J_bind (fun x9 h10 => ?_)
    refine J_bind (fun x11 h12 => ?_)
    refine J_bind (fun x13 h14 => ?_)
    refine J_bind (fun x15 h16 => ?_)
    refine J_bind (fun x17 h18 => ?_)
    refine J_g 14 [] [(2, sv x17)] [] (orcC 2 (x_c0 [(.tmp 7)] [2] (spec_l1Decimal.ok a1.A) h6) (orcC 3 (x_cat 9 9 (.tmp 8) (.const (.string (bs [46]))) h8) (orcC 6 (x_c0 [(.tmp 11)] [2] (spec_l1Decimal.ok a1.B) h10) (orcC 7 (x_cat 9 9 (.tmp 9) (.tmp 12) h12) (orcC 8 (x_cat 9 9 (.tmp 13) (.const (.string (bs [46]))) h14) (orcC 11 (x_c0 [(.tmp 16)] [2] (spec_l1Decimal.ok a1.C) h16) (orcC 12 (x_cat 9 9 (.tmp 14) (.tmp 17) h18) orcN))))))) ?_
    exact J_r1 rfl

noncomputable def c94 : Code := (Tryz.f94.body).getD .skip

theorem spec_l8Path.ok (a1 : Pack) : Ok Tryz.prog 94 [.ag (Pack.enc false a1)] [] ((spec_l8Path a1).map fun r => (sv r, [])) := by
  refine Ok_of3 c94 Tryz.f94 0 11 (fun q => ?_)
  unfold spec_l8Path
  refine J_g 2 [(0, 0)] [(1, pp 0)] [(0, .box (Pack.enc false a1))] orcN ?_
  refine J_bind (fun x2 h3 => ?_)
  refine J_bind (fun x4 h5 => ?_)
  refine J_bind (fun x6 h7 => ?_)
  refine J_bind (fun x8 h9 => ?_)
  refine J_g 6 [] [(2, sv x8)] [] (orcC 2 (x_cat 9 9 (.const (.string (bs [112, 107, 103, 47]))) (.tmp 4) h3) (orcC 3 (x_cat 9 9 (.tmp 5) (.const (.string (bs [45]))) h5) (orcC 6 (x_c0 [(.tmp 8)] [99] (spec_FormatVersion.ok a1.Version) h7) (orcC 7 (x_cat 9 9 (.tmp 6) (.tmp 9) h9) orcN)))) ?_
  exact J_r1 rfl

noncomputable def c96 : Code := (Tryz.f96.body).getD .skip

theorem spec_l2Bytes_l2.ok (a1 : Pack) (q : Wd) (kn : (List Int) → Option (D × List Ent)) (hk : ∀ v : (List Int), J (q.g Tryz.prog 96 0 50) c96 (atI c96 63) (St.mk' [(5, rr 1 v)] [(1, rE 1 eU8 v)]) (some v) kn) :
    ∀ s13 : (Int × (List Int) × Int), J (q.g Tryz.prog 96 0 50) c96 (atI c96 500) (St.mk' [(1, pp 0), (3, iv s13.1), (5, rr 1 s13.2.1), (6, iv s13.2.2)] [(0, .box (Pack.enc false a1)), (1, rE 1 eU8 s13.2.1)]) (spec_l2Bytes_l2 a1 s13) kn := by
  refine J_lp (fun g ih s13 => ?_)
  unfold spec_l2Bytes_l2b
  refine J_g 2000 [] [(1, pp 0), (3, iv s13.1), (5, rr 1 s13.2.1), (6, iv s13.2.2), (36, bv (decide (s13.2.2 < a1.Size)))] [(0, .box (Pack.enc false a1)), (1, rE 1 eU8 s13.2.1)] orcN ?_
  refine J_if2 36 (fun h14 => ?_) (fun h14 => ?_)
  · refine J_g 8008 [] [(1, pp 0), (3, iv (s13.1.tmod 256)), (5, rr 1 s13.2.1), (6, iv s13.2.2)] [(0, .box (Pack.enc false a1)), (1, rE 1 eU8 s13.2.1)] orcN ?_
    refine J_bind (fun x15 h16 => ?_)
    refine J_g 16018 [] [(1, pp 0), (3, iv (s13.1.tmod 256)), (5, rr 3 x15), (6, iv s13.2.2)] [(0, .box (Pack.enc false a1)), (3, rE 1 eU8 x15)] (orcC 3 (x_bp 121 5 1 2 eU8 [IntKind.u8.wrap (s13.1.tmod 256)] [0] [(.tmp 43)] [uv (IntKind.u8.wrap (s13.1.tmod 256))]) (orcC 4 (x_ap 121 121 5 5 1 1 3 1 2 eU8 (.tmp 41) (.tmp 44) h16) orcN)) ?_
    refine J_g 16019 [] [(1, pp 0), (3, iv (w64 ((w64 (31 * (s13.1.tmod 256))) + 7))), (5, rr 3 x15), (6, iv s13.2.2)] [(0, .box (Pack.enc false a1)), (3, rE 1 eU8 x15)] orcN ?_
    refine J_g 2003 [] [(1, pp 0), (3, iv (w64 ((w64 (31 * (s13.1.tmod 256))) + 7))), (5, rr 3 x15), (6, iv (w64 (s13.2.2 + 1)))] [(0, .box (Pack.enc false a1)), (3, rE 1 eU8 x15)] orcN ?_
    refine J_ren 3 1 (Nat.le_of_ble_eq_true rfl) (Nat.le_of_ble_eq_true rfl) ?_
    exact J_q (J_b (ih (w64 ((w64 (31 * (s13.1.tmod 256))) + 7), x15, w64 (s13.2.2 + 1)))) rfl
  · exact J_qw (hk s13.2.1) rfl

theorem spec_l2Bytes_l1.ok (a1 : Pack) (q : Wd) (kn : Int → Option (D × List Ent)) (hk : ∀ v : Int, J (q.g Tryz.prog 96 0 50) c96 (atI c96 15) (St.mk' [(1, pp 0), (3, iv v)] [(0, .box (Pack.enc false a1))]) (some v) kn) :
    ∀ s5 : (Int × Int), J (q.g Tryz.prog 96 0 50) c96 (atI c96 116) (St.mk' [(1, pp 0), (3, iv s5.1), (4, iv s5.2)] [(0, .box (Pack.enc false a1))]) (spec_l2Bytes_l1 a1 s5) kn := by
  refine J_lp (fun g ih s5 => ?_)
  unfold spec_l2Bytes_l1b
  refine J_g 464 [] [(1, pp 0), (3, iv s5.1), (4, iv s5.2), (22, bv (decide (s5.2 < (a1.Name.size : Int))))] [(0, .box (Pack.enc false a1))] orcN ?_
  refine J_if2 22 (fun h6 => ?_) (fun h6 => ?_)
  · refine J_bind (fun x7 h8 => ?_)
    refine J_g 932 [] [(1, pp 0), (3, iv (w64 (s5.1 + (w64 (x7))))), (4, iv s5.2)] [(0, .box (Pack.enc false a1))] (orcC 4 (x_bi (kk := .i64) 9 (.tmp 27) (.tmp 28) h8) orcN) ?_
    refine J_g 467 [] [(1, pp 0), (3, iv (w64 (s5.1 + (w64 (x7))))), (4, iv (w64 (s5.2 + 1)))] [(0, .box (Pack.enc false a1))] orcN ?_
    exact J_q (J_b (ih (w64 (s5.1 + (w64 (x7))), w64 (s5.2 + 1)))) rfl
  · exact J_qw (hk s5.1) rfl

theorem spec_l2Bytes.ok (a1 : Pack) : Ok Tryz.prog 96 [.ag (Pack.enc false a1)] [] ((spec_l2Bytes a1).map fun r => (so 1 eU8 r, [])) := by
  refine Ok_of3 c96 Tryz.f96 0 50 (fun q => ?_)
  unfold spec_l2Bytes
  refine J_g 2 [(0, 0)] [(1, pp 0)] [(0, .box (Pack.enc false a1))] orcN ?_
  refine J_g 6 [] [(1, pp 0), (3, iv (w64 ((w64 (a1.Version.A + a1.Version.B)) + a1.Version.C)))] [(0, .box (Pack.enc false a1))] orcN ?_
  refine J_g 28 [] [(1, pp 0), (3, iv (w64 ((w64 (a1.Version.A + a1.Version.B)) + a1.Version.C))), (4, iv 0)] [(0, .box (Pack.enc false a1))] orcN ?_
  refine J_lq (spec_l2Bytes_l1.ok a1 q _ (fun v9 => J_j ?_) (w64 ((w64 (a1.Version.A + a1.Version.B)) + a1.Version.C), 0))
  refine J_g 30 [] [(1, pp 0), (3, iv v9), (5, rr 1 ([] : List Int))] [(0, .box (Pack.enc false a1)), (1, rE 1 eU8 ([] : List Int))] (orcC 0 (x_bp 121 5 1 1 eU8 ([] : List Int) [] [] []) orcN) ?_
  refine J_g 124 [] [(1, pp 0), (3, iv v9), (5, rr 1 ([] : List Int)), (6, iv 0)] [(0, .box (Pack.enc false a1)), (1, rE 1 eU8 ([] : List Int))] orcN ?_
  refine J_lq (spec_l2Bytes_l2.ok a1 q _ (fun v17 => J_j ?_) (v9, ([] : List Int), 0))
  refine J_g 126 [] [(2, rr 1 v17)] [(1, rE 1 eU8 v17)] orcN ?_
  exact J_rm (ds := [rr 1 v17]) (ds' := [so 1 eU8 v17]) (.cons (.cell (.move (.head _) (List.length_map _) (by decide) (.nil))) (.nil) (by decide)) rfl

noncomputable def c95 : Code := (Tryz.f95.body).getD .skip

theorem spec_l8Same.ok (a1 : (List Int)) (a2 : (List Int)) : Ok Tryz.prog 95 [sl 1 eU8 a1, sl 1 eU8 a2] [] ((spec_l8Same a1 a2).map fun r => (bv r, [])) := by
  refine Ok_of3 c95 Tryz.f95 0 10 (fun q => ?_)
  unfold spec_l8Same
  refine J_g 2 [] [(0, sl 1 eU8 a1), (1, sl 1 eU8 a2)] [] orcN ?_
  refine J_g 6 [] [(4, bv (seq (b2s a1) (b2s a2)))] [] (orcC 1 (x_b2s (xs := a1) 121 9 5 (.tmp 5)) (orcC 3 (x_b2s (xs := a2) 121 9 5 (.tmp 7)) orcN)) ?_
  exact J_r1 rfl

noncomputable def c45 : Code := (Tryz.f45.body).getD .skip

theorem spec_l8Lacking_l1.ok (a1 : (List Pack)) (a2 : Disk) (a3 : (List Int)) (q : Wd) (kn : (List Int) → Option (D × List Ent)) (hk : ∀ v : (List Int), J (q.g Tryz.prog 45 0 57) c45 (atI c45 15) (St.mk' [(7, rr 0 v)] [(0, rE 1 eI64 v)]) (some v) kn) :
    ∀ s31 : ((List Int) × Int), J (q.g Tryz.prog 45 0 57) c45 (atI c45 116) (St.mk' [(0, sl 8 (Pack.enc false) a1), (1, .pb [sl 2 (File.enc false) a2.Files, iv a2.Budget, iv a2.Writes, iv a2.Stop, bv a2.Down]), (2, sl 1 eI64 a3), (7, rr 0 s31.1), (8, iv s31.2)] [(0, rE 1 eI64 s31.1)]) (spec_l8Lacking_l1 a1 a2 a3 s31) kn := by
  refine J_lp (fun g ih s31 => ?_)
  unfold spec_l8Lacking_l1b
  refine J_g 464 [] [(0, sl 8 (Pack.enc false) a1), (1, .pb [sl 2 (File.enc false) a2.Files, iv a2.Budget, iv a2.Writes, iv a2.Stop, bv a2.Down]), (2, sl 1 eI64 a3), (7, rr 0 s31.1), (8, iv s31.2), (14, bv (decide (s31.2 < (a3.length : Int))))] [(0, rE 1 eI64 s31.1)] orcN ?_
  refine J_if2 14 (fun h32 => ?_) (fun h32 => ?_)
  · refine J_bind (fun x33 h34 => ?_)
    refine J_bind (fun x35 h36 => ?_)
    refine J_bind (fun x37 h38 => ?_)
    refine J_bind (fun x39 h40 => ?_)
    refine J_g 1864 [] [(0, sl 8 (Pack.enc false) a1), (1, .pb [sl 2 (File.enc false) a2.Files, iv a2.Budget, iv a2.Writes, iv a2.Stop, bv a2.Down]), (2, sl 1 eI64 a3), (7, rr 0 s31.1), (8, iv s31.2), (9, iv x39)] [(0, rE 1 eI64 s31.1)] (orcC 4 (x_ix (kk := .i64) 39 2 1 eI64 (.tmp 19) (.tmp 20) h34) (orcC 6 (x_ix (kk := .i64) 30 102 8 (Pack.enc false) (.tmp 18) (.tmp 22) h36) (orcC 8 (x_c0 [(.tmp 24)] [102] (spec_l8Path.ok x35) h38) (orcC 9 (x_c1 («as» := [.pb [sl 2 (File.enc false) a2.Files, iv a2.Budget, iv a2.Writes, iv a2.Stop, bv a2.Down], sv x37]) [(.tmp 17), (.tmp 25)] [72, 9] false [] [] (.cons (.pb (.cons (.same rfl) (.cons (.same rfl) (.cons (.same rfl) (.cons (.same rfl) (.cons (.same rfl) (.nil))))))) (.cons (.same rfl) (.nil))) (spec_l7Find.ok a2 x37) h40 (.same rfl rfl)) orcN)))) ?_
    refine J_join (atI c45 3731) (fun v52 : Bool => St.mk' [(0, sl 8 (Pack.enc false) a1), (1, .pb [sl 2 (File.enc false) a2.Files, iv a2.Budget, iv a2.Writes, iv a2.Stop, bv a2.Down]), (2, sl 1 eI64 a3), (7, rr 0 s31.1), (8, iv s31.2), (48, bv v52)] [(0, rE 1 eI64 s31.1)]) (fun v52 => ?_) (fun jv52 => ?_)
    · refine J_join (aft c45 932) (fun v58 : (List Int) => St.mk' [(0, sl 8 (Pack.enc false) a1), (1, .pb [sl 2 (File.enc false) a2.Files, iv a2.Budget, iv a2.Writes, iv a2.Stop, bv a2.Down]), (2, sl 1 eI64 a3), (7, rr 2 v58), (8, iv s31.2)] [(2, rE 1 eI64 v58)]) (fun v58 => ?_) (fun jv58 => ?_)
      · refine J_g 467 [] [(0, sl 8 (Pack.enc false) a1), (1, .pb [sl 2 (File.enc false) a2.Files, iv a2.Budget, iv a2.Writes, iv a2.Stop, bv a2.Down]), (2, sl 1 eI64 a3), (7, rr 2 v58), (8, iv (w64 (s31.2 + 1)))] [(2, rE 1 eI64 v58)] orcN ?_
        refine J_ren 2 0 (Nat.le_of_ble_eq_true rfl) (Nat.le_of_ble_eq_true rfl) ?_
        exact J_q (J_b (ih (v58, w64 (s31.2 + 1)))) rfl
      · refine J_if2 48 (fun h53 => ?_) (fun h53 => ?_)
        · refine J_bind (fun x54 h55 => ?_)
          refine J_bind (fun x56 h57 => ?_)
          refine J_g 7462 [] [(0, sl 8 (Pack.enc false) a1), (1, .pb [sl 2 (File.enc false) a2.Files, iv a2.Budget, iv a2.Writes, iv a2.Stop, bv a2.Down]), (2, sl 1 eI64 a3), (7, rr 2 x56), (8, iv s31.2)] [(2, rE 1 eI64 x56)] (orcC 3 (x_ix (kk := .i64) 39 2 1 eI64 (.tmp 50) (.tmp 51) h55) (orcC 5 (x_bp 39 2 1 1 eI64 [x54] [0] [(.tmp 53)] [iv x54]) (orcC 6 (x_ap 39 39 2 2 1 8 2 0 1 eI64 (.tmp 49) (.tmp 54) h57) orcN))) ?_
          exact J_qw (J_j (jv58 x56)) rfl
        · refine J_ren 0 2 (Nat.le_of_ble_eq_true rfl) (Nat.le_of_ble_eq_true rfl) ?_
          exact J_qw (J_j (jv58 s31.1)) rfl
    · refine J_ite (fun h41 => ?_) (fun h41 => ?_)
      · refine J_g 3730 [] [(0, sl 8 (Pack.enc false) a1), (1, .pb [sl 2 (File.enc false) a2.Files, iv a2.Budget, iv a2.Writes, iv a2.Stop, bv a2.Down]), (2, sl 1 eI64 a3), (7, rr 0 s31.1), (8, iv s31.2), (48, bv true)] [(0, rE 1 eI64 s31.1)] (orcL 2 [(28, bv (decide (x39 < 0)))] [] h41 orcN) ?_
        exact J_qw (J_j (jv52 true)) rfl
      · refine J_bind (fun x42 h43 => ?_)
        refine J_bind (fun x44 h45 => ?_)
        refine J_bind (fun x46 h47 => ?_)
        refine J_bind (fun x48 h49 => ?_)
        refine J_bind (fun x50 h51 => ?_)
        refine J_g 3730 [] [(0, sl 8 (Pack.enc false) a1), (1, .pb [sl 2 (File.enc false) a2.Files, iv a2.Budget, iv a2.Writes, iv a2.Stop, bv a2.Down]), (2, sl 1 eI64 a3), (7, rr 0 s31.1), (8, iv s31.2), (48, bv (!x50))] [(0, rE 1 eI64 s31.1)] (orcL 2 [(28, bv (decide (x39 < 0)))] [] h41 (orcH 4 2 29 false (x_nilpb (.tmp 30) [sl 2 (File.enc false) a2.Files, iv a2.Budget, iv a2.Writes, iv a2.Stop, bv a2.Down]) (orcH 5 2 29 false (x_fapb 33 (.tmp 31) 0 0 1 [sl 2 (File.enc false) a2.Files, iv a2.Budget, iv a2.Writes, iv a2.Stop, bv a2.Down]) (orcH 6 2 29 false (x_ldpb (d := sl 2 (File.enc false) a2.Files) 31 (.tmp 32) [sl 2 (File.enc false) a2.Files]) (orcH 8 2 29 false (x_ix (kk := .i64) 31 138 2 (File.enc false) (.tmp 33) (.tmp 34) h43) (orcH 14 2 29 false (x_ix (kk := .i64) 39 2 1 eI64 (.tmp 39) (.tmp 40) h45) (orcH 16 2 29 false (x_ix (kk := .i64) 30 102 8 (Pack.enc false) (.tmp 38) (.tmp 42) h47) (orcH 18 2 29 false (x_c1 («as» := [.ag (Pack.enc false x46)]) [(.tmp 44)] [102] false [] [] (.cons (.same rfl) (.nil)) (spec_l2Bytes.ok x46) h49 (.own 1)) (orcH 19 2 29 false (x_c1 («as» := [sl 1 eU8 x42.Data, rr 1 x48]) [(.tmp 37), (.tmp 45)] [121, 121] true [(1, rE 1 eU8 x48)] [] (.cons (.same rfl) (.cons (am_b (.head _) (fun _ => rfl) rfl) (.nil))) (spec_l8Same.ok x42.Data x48) h51 (.same rfl rfl) (hbor := fun _ => ⟨rfl, flat_sc⟩)) orcN))))))))) ?_
        exact J_qw (J_j (jv52 (!x50))) rfl
  · exact J_qw (hk s31.1) rfl

theorem spec_l8Lacking.ok (a1 : (List Pack)) (a2 : Disk) (a3 : (List Int)) : Ok Tryz.prog 45 [sl 8 (Pack.enc false) a1, .pb [sl 2 (File.enc false) a2.Files, iv a2.Budget, iv a2.Writes, iv a2.Stop, bv a2.Down], sl 1 eI64 a3] [] ((spec_l8Lacking a1 a2 a3).map fun r => (so 1 eI64 r, [])) := by
  refine Ok_of3 c45 Tryz.f45 0 57 (fun q => ?_)
  unfold spec_l8Lacking
  refine J_g 2 [] [(0, sl 8 (Pack.enc false) a1), (1, .pb [sl 2 (File.enc false) a2.Files, iv a2.Budget, iv a2.Writes, iv a2.Stop, bv a2.Down]), (2, sl 1 eI64 a3)] [] orcN ?_
  refine J_g 6 [] [(0, sl 8 (Pack.enc false) a1), (1, .pb [sl 2 (File.enc false) a2.Files, iv a2.Budget, iv a2.Writes, iv a2.Stop, bv a2.Down]), (2, sl 1 eI64 a3), (7, rr 0 ([] : List Int))] [(0, rE 1 eI64 ([] : List Int))] (orcC 0 (x_bp 39 2 1 0 eI64 ([] : List Int) [] [] []) orcN) ?_
  refine J_g 28 [] [(0, sl 8 (Pack.enc false) a1), (1, .pb [sl 2 (File.enc false) a2.Files, iv a2.Budget, iv a2.Writes, iv a2.Stop, bv a2.Down]), (2, sl 1 eI64 a3), (7, rr 0 ([] : List Int)), (8, iv 0)] [(0, rE 1 eI64 ([] : List Int))] orcN ?_
  refine J_lq (spec_l8Lacking_l1.ok a1 a2 a3 q _ (fun v59 => J_j ?_) (([] : List Int), 0))
  refine J_g 30 [] [(6, rr 0 v59)] [(0, rE 1 eI64 v59)] orcN ?_
  exact J_rm (ds := [rr 0 v59]) (ds' := [so 1 eI64 v59]) (.cons (.cell (.move (.head _) (List.length_map _) (by decide) (.nil))) (.nil) (by decide)) rfl

noncomputable def c237 : Code := (Tryz.f237.body).getD .skip

theorem spec_AnyTerm.ok (a1 : ByteArray) : Ok Tryz.prog 237 [sv a1] [] ((spec_AnyTerm a1).map fun r => (.ag (Term.enc r), [])) := by
  refine Ok_of3 c237 Tryz.f237 0 6 (fun q => ?_)
  unfold spec_AnyTerm
  refine J_g 2 [(0, 0)] [(0, sv a1), (2, pp 0)] [(0, .box [sv ByteArray.empty, iv 0, iv 0, iv 0, iv 0, iv 0, iv 0])] orcN ?_
  refine J_bind (fun x2 h3 => ?_)
  refine J_g 6 [] [(2, pp 0)] [(0, .box [sv a1, iv 0, iv 0, iv 0, iv x2.A, iv x2.B, iv x2.C])] (orcC 1 (x_c0 [] [] (spec_l1Top.ok) h3) orcN) ?_
  exact J_r1 rfl

noncomputable def c171 : Code := (Tryz.f171.body).getD .skip

theorem spec_ParseTerm_l2.ok (x20 : Term) (x25 : ByteArray) (q : Wd) (kn : Int → Option (D × List Ent)) (hk : ∀ v : Int, J (q.g Tryz.prog 171 0 97) c171 (atI c171 1023) (St.mk' [(2, pp 0), (4, pp 1), (5, sv x25), (7, iv v)] [(0, .box [iv 0, sv ByteArray.empty, iv 0, iv 0, iv 0, iv 0, iv 0, iv 0]), (1, .box (Term.enc x20))]) (some v) kn) :
    ∀ s32 : Int, J (q.g Tryz.prog 171 0 97) c171 (atI c171 4088) (St.mk' [(2, pp 0), (4, pp 1), (5, sv x25), (7, iv s32)] [(0, .box [iv 0, sv ByteArray.empty, iv 0, iv 0, iv 0, iv 0, iv 0, iv 0]), (1, .box (Term.enc x20))]) (spec_ParseTerm_l2 x20 x25 s32) kn := by
  refine J_lp (fun g ih s32 => ?_)
  unfold spec_ParseTerm_l2b
  refine J_join (atI c171 16353) (fun v36 : Bool => St.mk' [(2, pp 0), (4, pp 1), (5, sv x25), (7, iv s32), (45, bv v36)] [(0, .box [iv 0, sv ByteArray.empty, iv 0, iv 0, iv 0, iv 0, iv 0, iv 0]), (1, .box (Term.enc x20))]) (fun v36 => ?_) (fun jv36 => ?_)
  · refine J_if2 45 (fun h37 => ?_) (fun h37 => ?_)
    · refine J_g 16354 [] [(2, pp 0), (4, pp 1), (5, sv x25), (7, iv (w64 (s32 + 1)))] [(0, .box [iv 0, sv ByteArray.empty, iv 0, iv 0, iv 0, iv 0, iv 0, iv 0]), (1, .box (Term.enc x20))] orcN ?_
      exact J_q (J_b (ih (w64 (s32 + 1)))) rfl
    · exact J_qw (hk s32) rfl
  · refine J_ite (fun h33 => ?_) (fun h33 => ?_)
    · refine J_bind (fun x34 h35 => ?_)
      refine J_g 16352 [] [(2, pp 0), (4, pp 1), (5, sv x25), (7, iv s32), (45, bv (x34 != 60))] [(0, .box [iv 0, sv ByteArray.empty, iv 0, iv 0, iv 0, iv 0, iv 0, iv 0]), (1, .box (Term.enc x20))] (orcL 4 [(39, bv (decide (s32 < (x25.size : Int))))] [] h33 (orcH 7 4 40 true (x_bi (kk := .i64) 9 (.tmp 41) (.tmp 42) h35) orcN)) ?_
      exact J_qw (J_j (jv36 (x34 != 60))) rfl
    · refine J_g 16352 [] [(2, pp 0), (4, pp 1), (5, sv x25), (7, iv s32), (45, bv false)] [(0, .box [iv 0, sv ByteArray.empty, iv 0, iv 0, iv 0, iv 0, iv 0, iv 0]), (1, .box (Term.enc x20))] (orcL 4 [(39, bv (decide (s32 < (x25.size : Int))))] [] h33 orcN) ?_
      exact J_qw (J_j (jv36 false)) rfl

theorem spec_ParseTerm_l1.ok (a1 : ByteArray) (q : Wd) (kn : Int → Option (D × List Ent)) (hk : ∀ v : Int, J (q.g Tryz.prog 171 0 97) c171 (atI c171 15) (St.mk' [(0, sv a1), (2, pp 0), (3, iv v)] [(0, .box [iv 0, sv ByteArray.empty, iv 0, iv 0, iv 0, iv 0, iv 0, iv 0])]) (some v) kn) :
    ∀ s9 : Int, J (q.g Tryz.prog 171 0 97) c171 (atI c171 56) (St.mk' [(0, sv a1), (2, pp 0), (3, iv s9)] [(0, .box [iv 0, sv ByteArray.empty, iv 0, iv 0, iv 0, iv 0, iv 0, iv 0])]) (spec_ParseTerm_l1 a1 s9) kn := by
  refine J_lp (fun g ih s9 => ?_)
  unfold spec_ParseTerm_l1b
  refine J_join (atI c171 225) (fun v15 : Bool => St.mk' [(0, sv a1), (2, pp 0), (3, iv s9), (21, bv v15)] [(0, .box [iv 0, sv ByteArray.empty, iv 0, iv 0, iv 0, iv 0, iv 0, iv 0])]) (fun v15 => ?_) (fun jv15 => ?_)
  · refine J_if2 21 (fun h16 => ?_) (fun h16 => ?_)
    · refine J_g 226 [] [(0, sv a1), (2, pp 0), (3, iv (w64 (s9 + 1)))] [(0, .box [iv 0, sv ByteArray.empty, iv 0, iv 0, iv 0, iv 0, iv 0, iv 0])] orcN ?_
      exact J_q (J_b (ih (w64 (s9 + 1)))) rfl
    · exact J_qw (hk s9) rfl
  · refine J_ite (fun h10 => ?_) (fun h10 => ?_)
    · refine J_bind (fun x11 h12 => ?_)
      refine J_bind (fun x13 h14 => ?_)
      refine J_g 224 [] [(0, sv a1), (2, pp 0), (3, iv s9), (21, bv x13)] [(0, .box [iv 0, sv ByteArray.empty, iv 0, iv 0, iv 0, iv 0, iv 0, iv 0])] (orcL 4 [(15, bv (decide (s9 < (a1.size : Int))))] [] h10 (orcH 7 4 16 true (x_bi (kk := .i64) 9 (.tmp 17) (.tmp 18) h12) (orcH 8 4 16 true (x_c0 [(.tmp 19)] [5] (spec_l1Name.ok x11) h14) orcN))) ?_
      exact J_qw (J_j (jv15 x13)) rfl
    · refine J_g 224 [] [(0, sv a1), (2, pp 0), (3, iv s9), (21, bv false)] [(0, .box [iv 0, sv ByteArray.empty, iv 0, iv 0, iv 0, iv 0, iv 0, iv 0])] (orcL 4 [(15, bv (decide (s9 < (a1.size : Int))))] [] h10 orcN) ?_
      exact J_qw (J_j (jv15 false)) rfl

theorem spec_ParseTerm.ok (a1 : ByteArray) : Ok Tryz.prog 171 [sv a1] [] ((spec_ParseTerm a1).map fun r => (.ag (TermResult.enc r), [])) := by
  refine Ok_of3 c171 Tryz.f171 0 97 (fun q => ?_)
  unfold spec_ParseTerm
  refine J_g 2 [(0, 0)] [(0, sv a1), (2, pp 0)] [(0, .box [iv 0, sv ByteArray.empty, iv 0, iv 0, iv 0, iv 0, iv 0, iv 0])] orcN ?_
  refine J_g 6 [] [(0, sv a1), (2, pp 0), (3, iv 0)] [(0, .box [iv 0, sv ByteArray.empty, iv 0, iv 0, iv 0, iv 0, iv 0, iv 0])] orcN ?_
  refine J_lq (spec_ParseTerm_l1.ok a1 q _ (fun v17 => J_j ?_) 0)
  refine J_bind (fun x18 h19 => ?_)
  refine J_bind (fun x20 h21 => ?_)
  refine J_g 30 [(4, 1)] [(0, sv a1), (2, pp 0), (3, iv v17), (4, pp 1)] [(0, .box [iv 0, sv ByteArray.empty, iv 0, iv 0, iv 0, iv 0, iv 0, iv 0]), (1, .box (Term.enc x20))] (orcC 2 (x_ss 9 (.tmp 24) none (some (.tmp 25)) h19) (orcC 3 (x_c0 [(.tmp 26)] [9] (spec_AnyTerm.ok x18) h21) orcN)) ?_
  refine J_bind (fun x22 h23 => ?_)
  refine J_g 124 [] [(0, sv a1), (2, pp 0), (3, iv v17), (4, pp 1), (31, bv (x22 != 0))] [(0, .box [iv 0, sv ByteArray.empty, iv 0, iv 0, iv 0, iv 0, iv 0, iv 0]), (1, .box (Term.enc x20))] (orcC 2 (x_c0 [(.tmp 29)] [9] (spec_NameFault.ok x20.Name) h23) orcN) ?_
  refine J_if2 31 (fun h24 => ?_) (fun h24 => ?_)
  · refine J_g 500 [] [(2, pp 0)] [(0, .box [iv 5, sv ByteArray.empty, iv 0, iv 0, iv 0, iv 0, iv 0, iv 0])] orcN ?_
    exact J_r1 rfl
  · refine J_bind (fun x25 h26 => ?_)
    refine J_g 126 [] [(2, pp 0), (4, pp 1), (5, sv x25)] [(0, .box [iv 0, sv ByteArray.empty, iv 0, iv 0, iv 0, iv 0, iv 0, iv 0]), (1, .box (Term.enc x20))] (orcC 2 (x_ss 9 (.tmp 33) (some (.tmp 34)) none h26) orcN) ?_
    refine J_g 254 [] [(2, pp 0), (4, pp 1), (5, sv x25)] [(0, .box [iv 0, sv ByteArray.empty, iv 0, iv 0, iv 0, iv 0, iv 0, iv 0]), (1, .box (Term.enc x20))] orcN ?_
    refine J_g 510 [] [(2, pp 0), (4, pp 1), (5, sv x25), (7, iv 0)] [(0, .box [iv 0, sv ByteArray.empty, iv 0, iv 0, iv 0, iv 0, iv 0, iv 0]), (1, .box (Term.enc x20))] orcN ?_
    refine J_lq (spec_ParseTerm_l2.ok x20 x25 q _ (fun v38 => J_j ?_) 0)
    refine J_g 4092 [] [(2, pp 0), (4, pp 1), (5, sv x25), (7, iv v38), (51, bv (decide (v38 < (x25.size : Int))))] [(0, .box [iv 0, sv ByteArray.empty, iv 0, iv 0, iv 0, iv 0, iv 0, iv 0]), (1, .box (Term.enc x20))] orcN ?_
    refine J_joinF (atI c171 2047) (fun v45 : (Int × Int × Int) => St.mk' [(2, pp 0), (4, pp 1), (5, sv x25), (7, iv v38)] [(0, .box [iv 0, sv ByteArray.empty, iv 0, iv 0, iv 0, iv 0, iv 0, iv 0]), (1, .box [sv x20.Name, iv x20.Low.A, iv x20.Low.B, iv x20.Low.C, iv v45.1, iv v45.2.1, iv v45.2.2])]) (fun v45 => ?_) (fun jv45 => ?_)
    · refine J_bind (fun x46 h47 => ?_)
      refine J_g 4094 [] [(2, pp 0), (4, pp 1), (9, sv x46)] [(0, .box [iv 0, sv ByteArray.empty, iv 0, iv 0, iv 0, iv 0, iv 0, iv 0]), (1, .box [sv x20.Name, iv x20.Low.A, iv x20.Low.B, iv x20.Low.C, iv v45.1, iv v45.2.1, iv v45.2.2])] (orcC 2 (x_ss 9 (.tmp 65) none (some (.tmp 66)) h47) orcN) ?_
      refine J_g 16380 [] [(2, pp 0), (4, pp 1), (9, sv x46), (69, bv (!(seq x46 (bs []))))] [(0, .box [iv 0, sv ByteArray.empty, iv 0, iv 0, iv 0, iv 0, iv 0, iv 0]), (1, .box [sv x20.Name, iv x20.Low.A, iv x20.Low.B, iv x20.Low.C, iv v45.1, iv v45.2.1, iv v45.2.2])] orcN ?_
      refine J_joinF (atI c171 8191) (fun v59 : (Int × Int × Int) => St.mk' [(2, pp 0), (4, pp 1)] [(0, .box [iv 0, sv ByteArray.empty, iv 0, iv 0, iv 0, iv 0, iv 0, iv 0]), (1, .box [sv x20.Name, iv v59.1, iv v59.2.1, iv v59.2.2, iv v45.1, iv v45.2.1, iv v45.2.2])]) (fun v59 => ?_) (fun jv59 => ?_)
      · refine J_bind (fun x60 h61 => ?_)
        refine J_g 32764 [] [(2, pp 0), (4, pp 1), (11, iv x60)] [(0, .box [iv 0, sv ByteArray.empty, iv 0, iv 0, iv 0, iv 0, iv 0, iv 0]), (1, .box [sv x20.Name, iv v59.1, iv v59.2.1, iv v59.2.2, iv v45.1, iv v45.2.1, iv v45.2.2])] (orcC 1 (x_c0 [(.tmp 89)] [149] (spec_TermFault.ok ({ Name := x20.Name, Low := ({ A := v59.1, B := v59.2.1, C := v59.2.2 } : Version), High := ({ A := v45.1, B := v45.2.1, C := v45.2.2 } : Version) } : Term)) h61) orcN) ?_
        refine J_g 65530 [] [(2, pp 0), (4, pp 1), (11, iv x60), (92, bv (x60 != 0))] [(0, .box [iv 0, sv ByteArray.empty, iv 0, iv 0, iv 0, iv 0, iv 0, iv 0]), (1, .box [sv x20.Name, iv v59.1, iv v59.2.1, iv v59.2.2, iv v45.1, iv v45.2.1, iv v45.2.2])] orcN ?_
        refine J_if2 92 (fun h62 => ?_) (fun h62 => ?_)
        · refine J_g 262124 [] [(2, pp 0)] [(0, .box [iv x60, sv ByteArray.empty, iv 0, iv 0, iv 0, iv 0, iv 0, iv 0])] orcN ?_
          exact J_r1 rfl
        · refine J_g 32766 [] [(2, pp 0)] [(0, .box [iv 0, sv x20.Name, iv v59.1, iv v59.2.1, iv v59.2.2, iv v45.1, iv v45.2.1, iv v45.2.2])] orcN ?_
          exact J_r1 rfl
      · refine J_if2 69 (fun h48 => ?_) (fun h48 => ?_)
        · refine J_join (atI c171 131049) (fun v52 : Bool => St.mk' [(2, pp 0), (4, pp 1), (9, sv x46), (77, bv v52)] [(0, .box [iv 0, sv ByteArray.empty, iv 0, iv 0, iv 0, iv 0, iv 0, iv 0]), (1, .box [sv x20.Name, iv x20.Low.A, iv x20.Low.B, iv x20.Low.C, iv v45.1, iv v45.2.1, iv v45.2.2])]) (fun v52 => ?_) (fun jv52 => ?_)
          · refine J_if2 77 (fun h53 => ?_) (fun h53 => ?_)
            · refine J_g 524196 [] [(2, pp 0)] [(0, .box [iv 5, sv ByteArray.empty, iv 0, iv 0, iv 0, iv 0, iv 0, iv 0])] orcN ?_
              exact J_r1 rfl
            · refine J_bind (fun x54 h55 => ?_)
              refine J_bind (fun x56 h57 => ?_)
              refine J_g 131050 [(3, 2)] [(2, pp 0), (4, pp 1), (10, pp 2)] [(0, .box [iv 0, sv ByteArray.empty, iv 0, iv 0, iv 0, iv 0, iv 0, iv 0]), (1, .box [sv x20.Name, iv x20.Low.A, iv x20.Low.B, iv x20.Low.C, iv v45.1, iv v45.2.1, iv v45.2.2]), (2, .box (VersionResult.enc x56))] (orcC 1 (x_ss 9 (.tmp 79) (some (.const (.int .i64 2))) none h55) (orcC 2 (x_c0 [(.tmp 80)] [9] (spec_ParseVersion.ok x54) h57) orcN)) ?_
              refine J_g 524204 [] [(2, pp 0), (4, pp 1), (10, pp 2), (84, bv (x56.Code != 0))] [(0, .box [iv 0, sv ByteArray.empty, iv 0, iv 0, iv 0, iv 0, iv 0, iv 0]), (1, .box [sv x20.Name, iv x20.Low.A, iv x20.Low.B, iv x20.Low.C, iv v45.1, iv v45.2.1, iv v45.2.2]), (2, .box (VersionResult.enc x56))] orcN ?_
              refine J_if2 84 (fun h58 => ?_) (fun h58 => ?_)
              · refine J_g 2096820 [] [(2, pp 0)] [(0, .box [iv 5, sv ByteArray.empty, iv 0, iv 0, iv 0, iv 0, iv 0, iv 0])] orcN ?_
                exact J_r1 rfl
              · refine J_g 262103 [] [(2, pp 0), (4, pp 1)] [(0, .box [iv 0, sv ByteArray.empty, iv 0, iv 0, iv 0, iv 0, iv 0, iv 0]), (1, .box [sv x20.Name, iv x56.Version.A, iv x56.Version.B, iv x56.Version.C, iv v45.1, iv v45.2.1, iv v45.2.2])] orcN ?_
                exact J_qw (J_j (jv59 (x56.Version.A, x56.Version.B, x56.Version.C))) rfl
          · refine J_ite (fun h49 => ?_) (fun h49 => ?_)
            · refine J_g 131048 [] [(2, pp 0), (4, pp 1), (9, sv x46), (77, bv true)] [(0, .box [iv 0, sv ByteArray.empty, iv 0, iv 0, iv 0, iv 0, iv 0, iv 0]), (1, .box [sv x20.Name, iv x20.Low.A, iv x20.Low.B, iv x20.Low.C, iv v45.1, iv v45.2.1, iv v45.2.2])] (orcL 3 [(72, bv (decide ((x46.size : Int) < 2)))] [] h49 orcN) ?_
              exact J_qw (J_j (jv52 true)) rfl
            · refine J_bind (fun x50 h51 => ?_)
              refine J_g 131048 [] [(2, pp 0), (4, pp 1), (9, sv x46), (77, bv (!(seq x50 (bs [62, 61]))))] [(0, .box [iv 0, sv ByteArray.empty, iv 0, iv 0, iv 0, iv 0, iv 0, iv 0]), (1, .box [sv x20.Name, iv x20.Low.A, iv x20.Low.B, iv x20.Low.C, iv v45.1, iv v45.2.1, iv v45.2.2])] (orcL 3 [(72, bv (decide ((x46.size : Int) < 2)))] [] h49 (orcH 5 3 73 false (x_ss 9 (.tmp 74) none (some (.const (.int .i64 2))) h51) orcN)) ?_
              exact J_qw (J_j (jv52 (!(seq x50 (bs [62, 61]))))) rfl
        · exact J_qw (J_j (jv59 (x20.Low.A, x20.Low.B, x20.Low.C))) rfl
    · refine J_if2 51 (fun h39 => ?_) (fun h39 => ?_)
      · refine J_bind (fun x40 h41 => ?_)
        refine J_g 16372 [] [(2, pp 0), (4, pp 1), (5, sv x25), (6, sv x40), (7, iv v38)] [(0, .box [iv 0, sv ByteArray.empty, iv 0, iv 0, iv 0, iv 0, iv 0, iv 0]), (1, .box (Term.enc x20))] (orcC 3 (x_ss 9 (.tmp 52) (some (.tmp 54)) none h41) orcN) ?_
        refine J_bind (fun x42 h43 => ?_)
        refine J_g 32746 [(2, 2)] [(2, pp 0), (4, pp 1), (5, sv x25), (7, iv v38), (8, pp 2)] [(0, .box [iv 0, sv ByteArray.empty, iv 0, iv 0, iv 0, iv 0, iv 0, iv 0]), (1, .box (Term.enc x20)), (2, .box (VersionResult.enc x42))] (orcC 1 (x_c0 [(.tmp 56)] [9] (spec_ParseVersion.ok x40) h43) orcN) ?_
        refine J_g 130988 [] [(2, pp 0), (4, pp 1), (5, sv x25), (7, iv v38), (8, pp 2), (60, bv (x42.Code != 0))] [(0, .box [iv 0, sv ByteArray.empty, iv 0, iv 0, iv 0, iv 0, iv 0, iv 0]), (1, .box (Term.enc x20)), (2, .box (VersionResult.enc x42))] orcN ?_
        refine J_if2 60 (fun h44 => ?_) (fun h44 => ?_)
        · refine J_g 523956 [] [(2, pp 0)] [(0, .box [iv 5, sv ByteArray.empty, iv 0, iv 0, iv 0, iv 0, iv 0, iv 0])] orcN ?_
          exact J_r1 rfl
        · refine J_g 65495 [] [(2, pp 0), (4, pp 1), (5, sv x25), (7, iv v38)] [(0, .box [iv 0, sv ByteArray.empty, iv 0, iv 0, iv 0, iv 0, iv 0, iv 0]), (1, .box [sv x20.Name, iv x20.Low.A, iv x20.Low.B, iv x20.Low.C, iv x42.Version.A, iv x42.Version.B, iv x42.Version.C])] orcN ?_
          exact J_qw (J_j (jv45 (x42.Version.A, x42.Version.B, x42.Version.C))) rfl
      · exact J_qw (J_j (jv45 (x20.High.A, x20.High.B, x20.High.C))) rfl

noncomputable def c239 : Code := (Tryz.f239.body).getD .skip

theorem spec_FormatTerm.ok (a1 : Term) : Ok Tryz.prog 239 [.ag (Term.enc a1)] [] ((spec_FormatTerm a1).map fun r => (sv r, [])) := by
  refine Ok_of3 c239 Tryz.f239 0 31 (fun q => ?_)
  unfold spec_FormatTerm
  refine J_g 2 [(0, 0)] [(1, pp 0)] [(0, .box (Term.enc a1))] orcN ?_
  refine J_bind (fun x2 h3 => ?_)
  refine J_g 12 [] [(1, pp 0), (6, bv (x2 != 0))] [(0, .box (Term.enc a1))] (orcC 1 (x_c0 [(.tmp 4)] [149] (spec_TermFault.ok a1) h3) orcN) ?_
  refine J_if2 6 (fun h4 => ?_) (fun h4 => ?_)
  · refine J_g 52 [] [(2, sv (bs []))] [] orcN ?_
    exact J_r1 rfl
  · refine J_g 14 [] [(1, pp 0), (3, sv a1.Name)] [(0, .box (Term.enc a1))] orcN ?_
    refine J_bind (fun x5 h6 => ?_)
    refine J_g 60 [] [(1, pp 0), (3, sv a1.Name), (13, bv (x5 != 0))] [(0, .box (Term.enc a1))] (orcC 3 (x_c0 [(.tmp 10), (.tmp 11)] [99, 99] (spec_CompareVersions.ok a1.Low ({ A := 0, B := 0, C := 0 } : Version)) h6) orcN) ?_
    refine J_join (atI c239 31) (fun v14 : ByteArray => St.mk' [(1, pp 0), (3, sv v14)] [(0, .box (Term.enc a1))]) (fun v14 => ?_) (fun jv14 => ?_)
    · refine J_bind (fun x15 h16 => ?_)
      refine J_g 124 [] [(1, pp 0), (3, sv v14), (23, bv (!(a1.High.A == x15.A && (a1.High.B == x15.B && (a1.High.C == x15.C && true)))))] [(0, .box (Term.enc a1))] (orcC 2 (x_c0 [] [] (spec_l1Top.ok) h16) (orcC 3 (x_seq (b := .neq) (r := (a1.High.A == x15.A && (a1.High.B == x15.B && (a1.High.C == x15.C && true)))) 99 99 (.tmp 21) (.tmp 22) [.int .i64 a1.High.A, .int .i64 a1.High.B, .int .i64 a1.High.C] [.int .i64 x15.A, .int .i64 x15.B, .int .i64 x15.C] (.inr ⟨rfl, rfl⟩)) orcN)) ?_
      refine J_join (atI c239 63) (fun v24 : ByteArray => St.mk' [(3, sv v24)] []) (fun v24 => ?_) (fun jv24 => ?_)
      · refine J_g 126 [] [(2, sv v24)] [] orcN ?_
        exact J_r1 rfl
      · refine J_if2 23 (fun h17 => ?_) (fun h17 => ?_)
        · refine J_bind (fun x18 h19 => ?_)
          refine J_bind (fun x20 h21 => ?_)
          refine J_bind (fun x22 h23 => ?_)
          refine J_g 250 [] [(3, sv x22)] [] (orcC 1 (x_cat 9 9 (.tmp 24) (.const (.string (bs [60]))) h19) (orcC 4 (x_c0 [(.tmp 27)] [99] (spec_FormatVersion.ok a1.High) h21) (orcC 5 (x_cat 9 9 (.tmp 25) (.tmp 28) h23) orcN))) ?_
          exact J_qw (J_j (jv24 x22)) rfl
        · exact J_qw (J_j (jv24 v14)) rfl
    · refine J_if2 13 (fun h7 => ?_) (fun h7 => ?_)
      · refine J_bind (fun x8 h9 => ?_)
        refine J_bind (fun x10 h11 => ?_)
        refine J_bind (fun x12 h13 => ?_)
        refine J_g 122 [] [(1, pp 0), (3, sv x12)] [(0, .box (Term.enc a1))] (orcC 1 (x_cat 9 9 (.tmp 14) (.const (.string (bs [62, 61]))) h9) (orcC 4 (x_c0 [(.tmp 17)] [99] (spec_FormatVersion.ok a1.Low) h11) (orcC 5 (x_cat 9 9 (.tmp 15) (.tmp 18) h13) orcN))) ?_
        exact J_qw (J_j (jv14 x12)) rfl
      · exact J_qw (J_j (jv14 a1.Name)) rfl

noncomputable def c172 : Code := (Tryz.f172.body).getD .skip

theorem spec_l8Text_l1.ok (a1 : (List Term)) (q : Wd) (kn : ByteArray → Option (D × List Ent)) (hk : ∀ v : ByteArray, J (q.g Tryz.prog 172 0 20) c172 (atI c172 15) (St.mk' [(3, sv v)] []) (some v) kn) :
    ∀ s11 : (ByteArray × Int), J (q.g Tryz.prog 172 0 20) c172 (atI c172 116) (St.mk' [(0, sl 7 Term.enc a1), (3, sv s11.1), (4, iv s11.2)] []) (spec_l8Text_l1 a1 s11) kn := by
  refine J_lp (fun g ih s11 => ?_)
  unfold spec_l8Text_l1b
  refine J_g 464 [] [(0, sl 7 Term.enc a1), (3, sv s11.1), (4, iv s11.2), (8, bv (decide (s11.2 < (a1.length : Int))))] [] orcN ?_
  refine J_if2 8 (fun h12 => ?_) (fun h12 => ?_)
  · refine J_bind (fun x13 h14 => ?_)
    refine J_bind (fun x15 h16 => ?_)
    refine J_bind (fun x17 h18 => ?_)
    refine J_bind (fun x19 h20 => ?_)
    refine J_g 932 [] [(0, sl 7 Term.enc a1), (3, sv x19), (4, iv s11.2)] [] (orcC 3 (x_ix (kk := .i64) 75 149 7 Term.enc (.tmp 12) (.tmp 13) h14) (orcC 5 (x_c0 [(.tmp 15)] [149] (spec_FormatTerm.ok x13) h16) (orcC 6 (x_cat 9 9 (.tmp 11) (.tmp 16) h18) (orcC 7 (x_cat 9 9 (.tmp 17) (.const (.string (bs [10]))) h20) orcN)))) ?_
    refine J_g 467 [] [(0, sl 7 Term.enc a1), (3, sv x19), (4, iv (w64 (s11.2 + 1)))] [] orcN ?_
    exact J_q (J_b (ih (x19, w64 (s11.2 + 1)))) rfl
  · exact J_qw (hk s11.1) rfl

theorem spec_l8Text.ok (a1 : (List Term)) : Ok Tryz.prog 172 [sl 7 Term.enc a1] [] ((spec_l8Text a1).map fun r => (sv r, [])) := by
  refine Ok_of3 c172 Tryz.f172 0 20 (fun q => ?_)
  unfold spec_l8Text
  refine J_g 2 [] [(0, sl 7 Term.enc a1)] [] orcN ?_
  refine J_g 6 [] [(0, sl 7 Term.enc a1), (3, sv (bs []))] [] orcN ?_
  refine J_g 28 [] [(0, sl 7 Term.enc a1), (3, sv (bs [])), (4, iv 0)] [] orcN ?_
  refine J_lq (spec_l8Text_l1.ok a1 q _ (fun v21 => J_j ?_) (bs [], 0))
  refine J_g 30 [] [(2, sv v21)] [] orcN ?_
  exact J_r1 rfl

noncomputable def c97 : Code := (Tryz.f97.body).getD .skip

theorem spec_l8Roots_l1.ok (a1 : ByteArray) (x2 : (List ByteArray)) (s22 : ((List Term) × Int)) (x26 : TermResult) (q : Wd) (kn : Unit → Option (D × List Ent)) (hk : ∀ v : Unit, J (q.g Tryz.prog 97 0 58) c97 (atI c97 15655) (St.mk' [(0, sv a1), (4, rr 0 x2), (5, rr 1 s22.1), (6, iv s22.2), (7, pp 2)] [(0, rE 1 eStr x2), (1, rE 7 Term.enc s22.1), (2, .box (TermResult.enc x26))]) (some v) kn) :
    ∀ s33 : Int, J (q.g Tryz.prog 97 0 58) c97 (atI c97 125236) (St.mk' [(0, sv a1), (4, rr 0 x2), (5, rr 1 s22.1), (6, iv s22.2), (7, pp 2), (8, iv s33)] [(0, rE 1 eStr x2), (1, rE 7 Term.enc s22.1), (2, .box (TermResult.enc x26))]) (spec_l8Roots_l1 a1 x2 s22 x26 s33) (Fl.go (fun r : ((List Term) × Bool) => some (.tu [so 7 Term.enc r.1, bv r.2], [])) kn) := by
  refine J_lp (fun g ih s33 => ?_)
  unfold spec_l8Roots_l1b
  refine J_g 500944 [] [(0, sv a1), (4, rr 0 x2), (5, rr 1 s22.1), (6, iv s22.2), (7, pp 2), (8, iv s33), (30, bv (decide (s33 < (s22.1.length : Int))))] [(0, rE 1 eStr x2), (1, rE 7 Term.enc s22.1), (2, .box (TermResult.enc x26))] orcN ?_
  refine J_if2 30 (fun h34 => ?_) (fun h34 => ?_)
  · refine J_bind (fun x35 h36 => ?_)
    refine J_g 2003784 [] [(0, sv a1), (4, rr 0 x2), (5, rr 1 s22.1), (6, iv s22.2), (7, pp 2), (8, iv s33), (41, bv (seq x35.Name x26.Term.Name))] [(0, rE 1 eStr x2), (1, rE 7 Term.enc s22.1), (2, .box (TermResult.enc x26))] (orcC 2 (x_ixr (kk := .i64) 75 149 7 1 Term.enc (.tmp 33) (.tmp 34) h36) (orcC 4 (x_ldr (d := sv x35.Name) 9 7 1 0 Term.enc (.tmp 36) h36 (by kernel_rfl)) orcN)) ?_
    refine J_if2 41 (fun h37 => ?_) (fun h37 => ?_)
    · refine J_g 8015140 [] [(2, rr 1 s22.1), (3, bv false)] [(1, rE 7 Term.enc s22.1)] orcN ?_
      exact J_rm (ds := [rr 1 s22.1, bv false]) (ds' := [so 7 Term.enc s22.1, bv false]) (.cons (.cell (.move (.head _) (List.length_map _) (by decide) (.nil))) (.cons (.cell (.keep rfl (.nil))) (.nil) (by decide)) (by decide)) rfl
    · refine J_g 500947 [] [(0, sv a1), (4, rr 0 x2), (5, rr 1 s22.1), (6, iv s22.2), (7, pp 2), (8, iv (w64 (s33 + 1)))] [(0, rE 1 eStr x2), (1, rE 7 Term.enc s22.1), (2, .box (TermResult.enc x26))] orcN ?_
      exact J_q (J_b (ih (w64 (s33 + 1)))) rfl
  · exact J_qw (hk ()) rfl

theorem spec_l8Roots_l2.ok (a1 : ByteArray) (x2 : (List ByteArray)) (q : Wd) (kn : (List Term) → Option (D × List Ent)) (hk : ∀ v : (List Term), J (q.g Tryz.prog 97 0 58) c97 (atI c97 31) (St.mk' [(0, sv a1), (5, rr 1 v)] [(1, rE 7 Term.enc v)]) (some v) kn) :
    ∀ s22 : ((List Term) × Int), J (q.g Tryz.prog 97 0 58) c97 (atI c97 244) (St.mk' [(0, sv a1), (4, rr 0 x2), (5, rr 1 s22.1), (6, iv s22.2)] [(0, rE 1 eStr x2), (1, rE 7 Term.enc s22.1)]) (spec_l8Roots_l2 a1 x2 s22) (Fl.go (fun r : ((List Term) × Bool) => some (.tu [so 7 Term.enc r.1, bv r.2], [])) kn) := by
  refine J_lp (fun g ih s22 => ?_)
  unfold spec_l8Roots_l2b
  refine J_g 976 [] [(0, sv a1), (4, rr 0 x2), (5, rr 1 s22.1), (6, iv s22.2), (15, bv (decide (s22.2 < (x2.length : Int))))] [(0, rE 1 eStr x2), (1, rE 7 Term.enc s22.1)] orcN ?_
  refine J_if2 15 (fun h23 => ?_) (fun h23 => ?_)
  · refine J_bind (fun x24 h25 => ?_)
    refine J_bind (fun x26 h27 => ?_)
    refine J_g 3912 [(5, 2)] [(0, sv a1), (4, rr 0 x2), (5, rr 1 s22.1), (6, iv s22.2), (7, pp 2)] [(0, rE 1 eStr x2), (1, rE 7 Term.enc s22.1), (2, .box (TermResult.enc x26))] (orcC 2 (x_ixr (kk := .i64) 86 9 1 0 eStr (.tmp 18) (.tmp 19) h25) (orcC 3 (x_ldr (d := sv x24) 9 1 0 0 eStr (.tmp 20) h25 (by kernel_rfl)) (orcC 4 (x_c0 [(.tmp 21)] [9] (spec_ParseTerm.ok x24) h27) orcN))) ?_
    refine J_g 15652 [] [(0, sv a1), (4, rr 0 x2), (5, rr 1 s22.1), (6, iv s22.2), (7, pp 2), (25, bv (x26.Code != 0))] [(0, rE 1 eStr x2), (1, rE 7 Term.enc s22.1), (2, .box (TermResult.enc x26))] orcN ?_
    refine J_if2 25 (fun h28 => ?_) (fun h28 => ?_)
    · refine J_g 62612 [] [(2, rr 1 s22.1), (3, bv false)] [(1, rE 7 Term.enc s22.1)] orcN ?_
      exact J_rm (ds := [rr 1 s22.1, bv false]) (ds' := [so 7 Term.enc s22.1, bv false]) (.cons (.cell (.move (.head _) (List.length_map _) (by decide) (.nil))) (.cons (.cell (.keep rfl (.nil))) (.nil) (by decide)) (by decide)) rfl
    · refine J_g 31308 [] [(0, sv a1), (4, rr 0 x2), (5, rr 1 s22.1), (6, iv s22.2), (7, pp 2), (8, iv 0)] [(0, rE 1 eStr x2), (1, rE 7 Term.enc s22.1), (2, .box (TermResult.enc x26))] orcN ?_
      refine J_lqF (K0 := (fun r : ((List Term) × Bool) => some (.tu [so 7 Term.enc r.1, bv r.2], []))) (fun _ => rfl) (spec_l8Roots_l1.ok a1 x2 s22 x26 q _ (fun v38 => J_j ?_) 0)
      refine J_bind (fun x39 h40 => ?_)
      refine J_g 15655 [] [(0, sv a1), (4, rr 0 x2), (5, rr 4 x39), (6, iv s22.2)] [(0, rE 1 eStr x2), (4, rE 7 Term.enc x39)] (orcC 3 (x_bp 75 149 7 3 Term.enc [x26.Term] [0] [(.tmp 45)] [.ag (Term.enc x26.Term)]) (orcC 4 (x_ap 75 75 149 149 7 64 4 1 3 Term.enc (.tmp 43) (.tmp 46) h40) orcN)) ?_
      refine J_g 979 [] [(0, sv a1), (4, rr 0 x2), (5, rr 4 x39), (6, iv (w64 (s22.2 + 1)))] [(0, rE 1 eStr x2), (4, rE 7 Term.enc x39)] orcN ?_
      refine J_ren 4 1 (Nat.le_of_ble_eq_true rfl) (Nat.le_of_ble_eq_true rfl) ?_
      exact J_q (J_b (ih (x39, w64 (s22.2 + 1)))) rfl
  · exact J_qw (hk s22.1) rfl

theorem spec_l8Roots.ok (a1 : ByteArray) : Ok Tryz.prog 97 [sv a1] [] ((spec_l8Roots a1).map fun r => (.tu [so 7 Term.enc r.1, bv r.2], [])) := by
  refine Ok_of3 c97 Tryz.f97 0 58 (fun q => ?_)
  unfold spec_l8Roots
  refine J_g 2 [] [(0, sv a1)] [] orcN ?_
  refine J_bind (fun x2 h3 => ?_)
  refine J_g 6 [] [(0, sv a1), (4, rr 0 x2)] [(0, rE 1 eStr x2)] (orcC 1 (x_c1 («as» := [sv a1]) [(.tmp 9)] [9] false [] [] (.cons (.same rfl) (.nil)) (spec_l2Lines.ok a1) h3 (.own 0)) orcN) ?_
  refine J_g 14 [] [(0, sv a1), (4, rr 0 x2), (5, rr 1 ([] : List Term))] [(0, rE 1 eStr x2), (1, rE 7 Term.enc ([] : List Term))] (orcC 0 (x_bp 75 149 7 1 Term.enc ([] : List Term) [] [] []) orcN) ?_
  refine J_g 60 [] [(0, sv a1), (4, rr 0 x2), (5, rr 1 ([] : List Term)), (6, iv 0)] [(0, rE 1 eStr x2), (1, rE 7 Term.enc ([] : List Term))] orcN ?_
  refine J_lqF (K0 := (fun r : ((List Term) × Bool) => some (.tu [so 7 Term.enc r.1, bv r.2], []))) (fun _ => rfl) (spec_l8Roots_l2.ok a1 x2 q _ (fun v41 => J_j ?_) (([] : List Term), 0))
  refine J_ite (fun h42 => ?_) (fun h42 => ?_)
  · refine J_bind (fun x43 h44 => ?_)
    refine J_g 62 [] [(2, rr 1 v41), (3, bv (seq x43 a1))] [(1, rE 7 Term.enc v41)] (orcL 4 [(51, bv (decide ((v41.length : Int) ≤ 8)))] [] h42 (orcH 6 4 52 true (x_c1 («as» := [rr 1 v41]) [(.tmp 53)] [75] true [(1, rE 7 Term.enc v41)] [] (.cons (am_b (.head _) (fun _ => rfl) rfl) (.nil)) (spec_l8Text.ok v41) h44 (.same rfl rfl) (hbor := fun _ => ⟨rfl, flat_sc⟩)) orcN)) ?_
    exact J_rm (ds := [rr 1 v41, bv (seq x43 a1)]) (ds' := [so 7 Term.enc v41, bv (seq x43 a1)]) (.cons (.cell (.move (.head _) (List.length_map _) (by decide) (.nil))) (.cons (.cell (.keep rfl (.nil))) (.nil) (by decide)) (by decide)) rfl
  · refine J_g 62 [] [(2, rr 1 v41), (3, bv false)] [(1, rE 7 Term.enc v41)] (orcL 4 [(51, bv (decide ((v41.length : Int) ≤ 8)))] [] h42 orcN) ?_
    exact J_rm (ds := [rr 1 v41, bv false]) (ds' := [so 7 Term.enc v41, bv false]) (.cons (.cell (.move (.head _) (List.length_map _) (by decide) (.nil))) (.cons (.cell (.keep rfl (.nil))) (.nil) (by decide)) (by decide)) rfl

noncomputable def c46 : Code := (Tryz.f46.body).getD .skip

theorem spec_l8Asks.ok (a1 : Disk) : Ok Tryz.prog 46 [.pb [sl 2 (File.enc false) a1.Files, iv a1.Budget, iv a1.Writes, iv a1.Stop, bv a1.Down]] [] ((spec_l8Asks a1).map fun r => (.tu [so 7 Term.enc r.1, bv r.2], [])) := by
  refine Ok_of3 c46 Tryz.f46 0 21 (fun q => ?_)
  unfold spec_l8Asks
  refine J_g 2 [] [(0, .pb [sl 2 (File.enc false) a1.Files, iv a1.Budget, iv a1.Writes, iv a1.Stop, bv a1.Down])] [] orcN ?_
  refine J_bind (fun x2 h3 => ?_)
  refine J_g 6 [] [(0, .pb [sl 2 (File.enc false) a1.Files, iv a1.Budget, iv a1.Writes, iv a1.Stop, bv a1.Down]), (4, iv x2)] [] (orcC 1 (x_c1 («as» := [.pb [sl 2 (File.enc false) a1.Files, iv a1.Budget, iv a1.Writes, iv a1.Stop, bv a1.Down], sv (bs [114, 111, 111, 116, 115])]) [(.tmp 5), (.const (.string (bs [114, 111, 111, 116, 115])))] [72, 9] false [] [] (.cons (.pb (.cons (.same rfl) (.cons (.same rfl) (.cons (.same rfl) (.cons (.same rfl) (.cons (.same rfl) (.nil))))))) (.cons (.same rfl) (.nil))) (spec_l7Find.ok a1 (bs [114, 111, 111, 116, 115])) h3 (.same rfl rfl)) orcN) ?_
  refine J_g 28 [] [(0, .pb [sl 2 (File.enc false) a1.Files, iv a1.Budget, iv a1.Writes, iv a1.Stop, bv a1.Down]), (4, iv x2), (8, bv (decide (x2 < 0)))] [] orcN ?_
  refine J_if2 8 (fun h4 => ?_) (fun h4 => ?_)
  · refine J_g 116 [] [(2, nv), (3, bv true)] [] orcN ?_
    exact J_rm (ds := [nv, bv true]) (ds' := [so 7 Term.enc ([] : List Term), bv true]) (.cons (.cell (.nilsl true 7 (.nil))) (.cons (.cell (.keep rfl (.nil))) (.nil) (by decide)) (by decide)) rfl
  · refine J_bind (fun x5 h6 => ?_)
    refine J_bind (fun x7 h8 => ?_)
    refine J_g 30 [] [(2, rr 0 x7.1), (3, bv x7.2)] [(0, rE 7 Term.enc x7.1)] (orcC 1 (x_nilpb (.tmp 9) [sl 2 (File.enc false) a1.Files, iv a1.Budget, iv a1.Writes, iv a1.Stop, bv a1.Down]) (orcC 2 (x_fapb 33 (.tmp 10) 0 0 1 [sl 2 (File.enc false) a1.Files, iv a1.Budget, iv a1.Writes, iv a1.Stop, bv a1.Down]) (orcC 3 (x_ldpb (d := sl 2 (File.enc false) a1.Files) 31 (.tmp 11) [sl 2 (File.enc false) a1.Files]) (orcC 5 (x_ix (kk := .i64) 31 138 2 (File.enc false) (.tmp 12) (.tmp 13) h6) (orcC 8 (x_b2s (xs := x5.Data) 121 9 5 (.tmp 16)) (orcC 9 (x_c1 («as» := [sv (b2s x5.Data)]) [(.tmp 17)] [9] false [] [] (.cons (.same rfl) (.nil)) (spec_l8Roots.ok (b2s x5.Data)) h8 (.tu (.cons (.own 0) (.cons (.same rfl rfl) (.nil))))) orcN)))))) ?_
    exact J_rm (ds := [rr 0 x7.1, bv x7.2]) (ds' := [so 7 Term.enc x7.1, bv x7.2]) (.cons (.cell (.move (.head _) (List.length_map _) (by decide) (.nil))) (.cons (.cell (.keep rfl (.nil))) (.nil) (by decide)) (by decide)) rfl

noncomputable def c9 : Code := (Tryz.f9.body).getD .skip

theorem spec_SystemFault.ok (a1 : System) : Ok Tryz.prog 9 [.ag (System.enc false a1)] [] ((spec_SystemFault a1).map fun r => (iv r, [])) := by
  refine Ok_of3 c9 Tryz.f9 0 47 (fun q => ?_)
  unfold spec_SystemFault
  refine J_g 2 [] [(1, .pb [sl 8 (Pack.enc false) a1.Catalog, sl 2 (File.enc false) a1.Disk.Files, iv a1.Disk.Budget, iv a1.Disk.Writes, iv a1.Disk.Stop, bv a1.Disk.Down])] [] (orcC 0 (x_boxpb 35 (.tmp 0) (.ag (System.enc false a1))) orcN) ?_
  refine J_bind (fun x2 h3 => ?_)
  refine J_g 12 [] [(1, .pb [sl 8 (Pack.enc false) a1.Catalog, sl 2 (File.enc false) a1.Disk.Files, iv a1.Disk.Budget, iv a1.Disk.Writes, iv a1.Disk.Stop, bv a1.Disk.Down]), (3, iv x2)] [] (orcC 0 (x_fapb 35 (.tmp 1) 0 0 1 [sl 8 (Pack.enc false) a1.Catalog, sl 2 (File.enc false) a1.Disk.Files, iv a1.Disk.Budget, iv a1.Disk.Writes, iv a1.Disk.Stop, bv a1.Disk.Down]) (orcC 1 (x_ldpb (d := sl 8 (Pack.enc false) a1.Catalog) 30 (.tmp 7) [sl 8 (Pack.enc false) a1.Catalog]) (orcC 2 (x_fapb 35 (.tmp 1) 1 1 5 [sl 8 (Pack.enc false) a1.Catalog, sl 2 (File.enc false) a1.Disk.Files, iv a1.Disk.Budget, iv a1.Disk.Writes, iv a1.Disk.Stop, bv a1.Disk.Down]) (orcC 3 (x_ldpb (d := .ag (Disk.enc false a1.Disk)) 33 (.tmp 9) [sl 2 (File.enc false) a1.Disk.Files, iv a1.Disk.Budget, iv a1.Disk.Writes, iv a1.Disk.Stop, bv a1.Disk.Down]) (orcC 4 (x_c0 [(.tmp 8), (.tmp 10)] [30, 33] (spec_l8Asked.ok a1.Catalog a1.Disk) h3) orcN))))) ?_
  refine J_g 26 [] [(1, .pb [sl 8 (Pack.enc false) a1.Catalog, sl 2 (File.enc false) a1.Disk.Files, iv a1.Disk.Budget, iv a1.Disk.Writes, iv a1.Disk.Stop, bv a1.Disk.Down]), (3, iv x2), (13, bv (x2 != 0))] [] orcN ?_
  refine J_if2 13 (fun h4 => ?_) (fun h4 => ?_)
  · refine J_g 108 [] [(2, iv x2)] [] orcN ?_
    exact J_r1 rfl
  · refine J_bind (fun x5 h6 => ?_)
    refine J_g 14 [(4, 1)] [(1, .pb [sl 8 (Pack.enc false) a1.Catalog, sl 2 (File.enc false) a1.Disk.Files, iv a1.Disk.Budget, iv a1.Disk.Writes, iv a1.Disk.Stop, bv a1.Disk.Down]), (4, pp 1)] [(0, rE 1 eI64 x5.Set), (1, .box [iv x5.Code, iv x5.At, rr 0 x5.Set])] (orcC 0 (x_fapb 35 (.tmp 1) 0 0 1 [sl 8 (Pack.enc false) a1.Catalog, sl 2 (File.enc false) a1.Disk.Files, iv a1.Disk.Budget, iv a1.Disk.Writes, iv a1.Disk.Stop, bv a1.Disk.Down]) (orcC 1 (x_ldpb (d := sl 8 (Pack.enc false) a1.Catalog) 30 (.tmp 15) [sl 8 (Pack.enc false) a1.Catalog]) (orcC 2 (x_fapb 35 (.tmp 1) 1 1 5 [sl 8 (Pack.enc false) a1.Catalog, sl 2 (File.enc false) a1.Disk.Files, iv a1.Disk.Budget, iv a1.Disk.Writes, iv a1.Disk.Stop, bv a1.Disk.Down]) (orcC 3 (x_c1 («as» := [sl 8 (Pack.enc false) a1.Catalog, .pb [sl 2 (File.enc false) a1.Disk.Files, iv a1.Disk.Budget, iv a1.Disk.Writes, iv a1.Disk.Stop, bv a1.Disk.Down]]) [(.tmp 16), (.tmp 17)] [30, 72] false [] [] (.cons (.same rfl) (.cons (.pb (.cons (.same rfl) (.cons (.same rfl) (.cons (.same rfl) (.cons (.same rfl) (.cons (.same rfl) (.nil))))))) (.nil))) (spec_l8Shown.ok a1.Catalog a1.Disk) h6 (.ag (.cons (.same rfl rfl) (.cons (.same rfl rfl) (.cons (.own 0) (.nil)))))) orcN)))) ?_
    refine J_g 60 [] [(1, .pb [sl 8 (Pack.enc false) a1.Catalog, sl 2 (File.enc false) a1.Disk.Files, iv a1.Disk.Budget, iv a1.Disk.Writes, iv a1.Disk.Stop, bv a1.Disk.Down]), (4, pp 1), (21, bv (x5.Code != 0))] [(0, rE 1 eI64 x5.Set), (1, .box [iv x5.Code, iv x5.At, rr 0 x5.Set])] orcN ?_
    refine J_if2 21 (fun h7 => ?_) (fun h7 => ?_)
    · refine J_g 244 [] [(2, iv x5.Code)] [] orcN ?_
      exact J_r1 rfl
    · refine J_bind (fun x8 h9 => ?_)
      refine J_join (atI c9 125) (fun v13 : Bool => St.mk' [(1, .pb [sl 8 (Pack.enc false) a1.Catalog, sl 2 (File.enc false) a1.Disk.Files, iv a1.Disk.Budget, iv a1.Disk.Writes, iv a1.Disk.Stop, bv a1.Disk.Down]), (39, bv v13)] []) (fun v13 => ?_) (fun jv13 => ?_)
      · refine J_if2 39 (fun h14 => ?_) (fun h14 => ?_)
        · refine J_g 500 [] [(2, iv 1)] [] orcN ?_
          exact J_r1 rfl
        · refine J_bind (fun x15 h16 => ?_)
          refine J_g 252 [] [(6, bv x15.2)] [] (orcC 0 (x_fapb 35 (.tmp 1) 1 1 5 [sl 8 (Pack.enc false) a1.Catalog, sl 2 (File.enc false) a1.Disk.Files, iv a1.Disk.Budget, iv a1.Disk.Writes, iv a1.Disk.Stop, bv a1.Disk.Down]) (orcC 1 (x_c1 («as» := [.pb [sl 2 (File.enc false) a1.Disk.Files, iv a1.Disk.Budget, iv a1.Disk.Writes, iv a1.Disk.Stop, bv a1.Disk.Down]]) [(.tmp 41)] [72] false [] [] (.cons (.pb (.cons (.same rfl) (.cons (.same rfl) (.cons (.same rfl) (.cons (.same rfl) (.cons (.same rfl) (.nil))))))) (.nil)) (spec_l8Asks.ok a1.Disk) h16 (.tu (.cons (.own 0) (.cons (.same rfl rfl) (.nil))))) orcN)) ?_
          refine J_g 506 [] [(46, bv (!x15.2))] [] orcN ?_
          refine J_if2 46 (fun h17 => ?_) (fun h17 => ?_)
          · refine J_g 2028 [] [(2, iv 5)] [] orcN ?_
            exact J_r1 rfl
          · refine J_g 254 [] [(2, iv 0)] [] orcN ?_
            exact J_r1 rfl
      · refine J_ite (fun h10 => ?_) (fun h10 => ?_)
        · refine J_g 124 [] [(1, .pb [sl 8 (Pack.enc false) a1.Catalog, sl 2 (File.enc false) a1.Disk.Files, iv a1.Disk.Budget, iv a1.Disk.Writes, iv a1.Disk.Stop, bv a1.Disk.Down]), (39, bv true)] [] (orcC 0 (x_fapb 35 (.tmp 1) 0 0 1 [sl 8 (Pack.enc false) a1.Catalog, sl 2 (File.enc false) a1.Disk.Files, iv a1.Disk.Budget, iv a1.Disk.Writes, iv a1.Disk.Stop, bv a1.Disk.Down]) (orcC 1 (x_ldpb (d := sl 8 (Pack.enc false) a1.Catalog) 30 (.tmp 24) [sl 8 (Pack.enc false) a1.Catalog]) (orcC 4 (x_c1 («as» := [sl 8 (Pack.enc false) a1.Catalog, rr 0 x5.Set]) [(.tmp 25), (.tmp 27)] [30, 39] true [(0, rE 1 eI64 x5.Set)] [] (.cons (.same rfl) (.cons (am_b (.head _) (fun _ => rfl) rfl) (.nil))) (spec_l3Good.ok a1.Catalog x5.Set) h9 (.same rfl rfl) (hbor := fun _ => ⟨rfl, flat_sc⟩)) (orcL 6 [(29, bv (!x8))] [] h10 orcN)))) ?_
          exact J_qw (J_j (jv13 true)) rfl
        · refine J_bind (fun x11 h12 => ?_)
          refine J_g 124 [] [(1, .pb [sl 8 (Pack.enc false) a1.Catalog, sl 2 (File.enc false) a1.Disk.Files, iv a1.Disk.Budget, iv a1.Disk.Writes, iv a1.Disk.Stop, bv a1.Disk.Down]), (39, bv (decide ((x11.length : Int) > 0)))] [] (orcC 0 (x_fapb 35 (.tmp 1) 0 0 1 [sl 8 (Pack.enc false) a1.Catalog, sl 2 (File.enc false) a1.Disk.Files, iv a1.Disk.Budget, iv a1.Disk.Writes, iv a1.Disk.Stop, bv a1.Disk.Down]) (orcC 1 (x_ldpb (d := sl 8 (Pack.enc false) a1.Catalog) 30 (.tmp 24) [sl 8 (Pack.enc false) a1.Catalog]) (orcC 4 (x_c1 («as» := [sl 8 (Pack.enc false) a1.Catalog, rr 0 x5.Set]) [(.tmp 25), (.tmp 27)] [30, 39] true [(0, rE 1 eI64 x5.Set)] [] (.cons (.same rfl) (.cons (am_b (.head _) (fun _ => rfl) rfl) (.nil))) (spec_l3Good.ok a1.Catalog x5.Set) h9 (.same rfl rfl) (hbor := fun _ => ⟨rfl, flat_sc⟩)) (orcL 6 [(29, bv (!x8))] [] h10 (orcH 7 6 30 false (x_fapb 35 (.tmp 1) 0 0 1 [sl 8 (Pack.enc false) a1.Catalog, sl 2 (File.enc false) a1.Disk.Files, iv a1.Disk.Budget, iv a1.Disk.Writes, iv a1.Disk.Stop, bv a1.Disk.Down]) (orcH 8 6 30 false (x_ldpb (d := sl 8 (Pack.enc false) a1.Catalog) 30 (.tmp 31) [sl 8 (Pack.enc false) a1.Catalog]) (orcH 9 6 30 false (x_fapb 35 (.tmp 1) 1 1 5 [sl 8 (Pack.enc false) a1.Catalog, sl 2 (File.enc false) a1.Disk.Files, iv a1.Disk.Budget, iv a1.Disk.Writes, iv a1.Disk.Stop, bv a1.Disk.Down]) (orcH 12 6 30 false (x_c1 («as» := [sl 8 (Pack.enc false) a1.Catalog, .pb [sl 2 (File.enc false) a1.Disk.Files, iv a1.Disk.Budget, iv a1.Disk.Writes, iv a1.Disk.Stop, bv a1.Disk.Down], rr 0 x5.Set]) [(.tmp 32), (.tmp 33), (.tmp 35)] [30, 72, 39] true [(0, rE 1 eI64 x5.Set)] [] (.cons (.same rfl) (.cons (.pb (.cons (.same rfl) (.cons (.same rfl) (.cons (.same rfl) (.cons (.same rfl) (.cons (.same rfl) (.nil))))))) (.cons (am_b (.head _) (fun _ => rfl) rfl) (.nil)))) (spec_l8Lacking.ok a1.Catalog a1.Disk x5.Set) h12 (.own 2) (hbor := fun _ => ⟨rfl, (flat_s (flatM (fun _ => (flatK flat_sc flatN)) _))⟩)) orcN)))))))) ?_
          exact J_qw (J_j (jv13 (decide ((x11.length : Int) > 0)))) rfl

noncomputable def c184 : Code := (Tryz.f184.body).getD .skip

theorem impl_isNameByte.ok (a1 : Int) : Ok Tryz.prog 184 [uv a1] [] ((impl_isNameByte a1).map fun r => (bv r, [])) := by
  refine Ok_of3 c184 Tryz.f184 0 21 (fun q => ?_)
  unfold impl_isNameByte
  refine J_g 2 [] [(0, uv a1)] [] orcN ?_
  refine J_ite (fun h2 => ?_) (fun h2 => ?_)
  · refine J_ite (fun h3 => ?_) (fun h3 => ?_)
    · refine J_g 6 [] [(2, bv true)] [] (orcL 2 [(4, bv (decide (a1 ≥ 97)))] [] h2 (orcL 6 [(8, bv (decide (a1 ≤ 122)))] [] h3 (orcV 9 (orcU (i := 9) (g := 6) (t := 9) (b := false) (v := (.bool true)) (.inl rfl) (by kernel_rfl) (by kernel_rfl)) (orcV 10 (orcU (i := 10) (g := 9) (t := 12) (b := true) (v := undef) (.inr rfl) (by kernel_rfl) (by kernel_rfl)) (orcV 11 (orcU (i := 11) (g := 9) (t := 12) (b := true) (v := undef) (.inr rfl) (by kernel_rfl) (by kernel_rfl)) orcN))))) ?_
      exact J_r1 rfl
    · refine J_ite (fun h4 => ?_) (fun h4 => ?_)
      · refine J_ite (fun h5 => ?_) (fun h5 => ?_)
        · refine J_g 6 [] [(2, bv true)] [] (orcL 2 [(4, bv (decide (a1 ≥ 97)))] [] h2 (orcL 6 [(8, bv (decide (a1 ≤ 122)))] [] h3 (orcLG 9 6 9 false [(11, bv (decide (a1 ≥ 48)))] [] h4 (orcL 14 [(16, bv (decide (a1 ≤ 57)))] [] h5 orcN)))) ?_
          exact J_r1 rfl
        · refine J_g 6 [] [(2, bv (a1 == 95))] [] (orcL 2 [(4, bv (decide (a1 ≥ 97)))] [] h2 (orcL 6 [(8, bv (decide (a1 ≤ 122)))] [] h3 (orcLG 9 6 9 false [(11, bv (decide (a1 ≥ 48)))] [] h4 (orcL 14 [(16, bv (decide (a1 ≤ 57)))] [] h5 orcN)))) ?_
          exact J_r1 rfl
      · refine J_g 6 [] [(2, bv (a1 == 95))] [] (orcL 2 [(4, bv (decide (a1 ≥ 97)))] [] h2 (orcL 6 [(8, bv (decide (a1 ≤ 122)))] [] h3 (orcLG 9 6 9 false [(11, bv (decide (a1 ≥ 48)))] [] h4 orcN))) ?_
        exact J_r1 rfl
  · refine J_ite (fun h6 => ?_) (fun h6 => ?_)
    · refine J_ite (fun h7 => ?_) (fun h7 => ?_)
      · refine J_g 6 [] [(2, bv true)] [] (orcL 2 [(4, bv (decide (a1 ≥ 97)))] [] h2 (orcLG 9 6 9 false [(11, bv (decide (a1 ≥ 48)))] [] h6 (orcL 14 [(16, bv (decide (a1 ≤ 57)))] [] h7 orcN))) ?_
        exact J_r1 rfl
      · refine J_g 6 [] [(2, bv (a1 == 95))] [] (orcL 2 [(4, bv (decide (a1 ≥ 97)))] [] h2 (orcLG 9 6 9 false [(11, bv (decide (a1 ≥ 48)))] [] h6 (orcL 14 [(16, bv (decide (a1 ≤ 57)))] [] h7 orcN))) ?_
        exact J_r1 rfl
    · refine J_g 6 [] [(2, bv (a1 == 95))] [] (orcL 2 [(4, bv (decide (a1 ≥ 97)))] [] h2 (orcLG 9 6 9 false [(11, bv (decide (a1 ≥ 48)))] [] h6 orcN)) ?_
      exact J_r1 rfl

noncomputable def c186 : Code := (Tryz.f186.body).getD .skip

theorem impl_NameFault_l1.ok (a1 : ByteArray) (q : Wd) (kn : Unit → Option (D × List Ent)) (hk : ∀ v : Unit, J (q.g Tryz.prog 186 0 33) c186 (atI c186 15) (St.mk' [] []) (some v) kn) :
    ∀ s17 : Int, J (q.g Tryz.prog 186 0 33) c186 (atI c186 116) (St.mk' [(0, sv a1), (23, iv (a1.size : Int)), (24, iv s17)] []) (impl_NameFault_l1 a1 s17) (Fl.go (fun r : Int => some (iv r, [])) kn) := by
  refine J_lp (fun g ih s17 => ?_)
  unfold impl_NameFault_l1b
  refine J_g 232 [] [(0, sv a1), (23, iv (a1.size : Int)), (24, iv s17), (25, bv (decide (s17 < (a1.size : Int))))] [] orcN ?_
  refine J_if2 25 (fun h18 => ?_) (fun h18 => ?_)
  · refine J_g 3736 [] [(0, sv a1), (3, iv s17), (23, iv (a1.size : Int)), (24, iv s17)] [] orcN ?_
    refine J_bind (fun x19 h20 => ?_)
    refine J_bind (fun x21 h22 => ?_)
    refine J_g 7474 [] [(0, sv a1), (23, iv (a1.size : Int)), (24, iv s17), (31, bv (!x21))] [] (orcC 2 (x_bi (kk := .i64) 9 (.tmp 27) (.tmp 28) h20) (orcC 3 (x_c0 [(.tmp 29)] [5] (impl_isNameByte.ok x19) h22) orcN)) ?_
    refine J_if2 31 (fun h23 => ?_) (fun h23 => ?_)
    · refine J_g 29900 [] [(2, iv 5)] [] orcN ?_
      exact J_r1 rfl
    · refine J_g 935 [] [(0, sv a1), (23, iv (a1.size : Int)), (24, iv (w64 (s17 + 1)))] [] orcN ?_
      exact J_q (J_b (ih (w64 (s17 + 1)))) rfl
  · exact J_qw (hk ()) rfl

theorem impl_NameFault.ok (a1 : ByteArray) : Ok Tryz.prog 186 [sv a1] [] ((impl_NameFault a1).map fun r => (iv r, [])) := by
  refine Ok_of3 c186 Tryz.f186 0 33 (fun q => ?_)
  unfold impl_NameFault
  refine J_g 2 [] [(0, sv a1)] [] orcN ?_
  refine J_join (atI c186 13) (fun v9 : Bool => St.mk' [(0, sv a1), (21, bv v9)] []) (fun v9 => ?_) (fun jv9 => ?_)
  · refine J_if2 21 (fun h10 => ?_) (fun h10 => ?_)
    · refine J_g 52 [] [(2, iv 5)] [] orcN ?_
      exact J_r1 rfl
    · refine J_g 28 [] [(0, sv a1), (23, iv (a1.size : Int)), (24, iv 0)] [] orcN ?_
      refine J_lqF (K0 := (fun r : Int => some (iv r, []))) (fun _ => rfl) (impl_NameFault_l1.ok a1 q _ (fun v24 => J_j ?_) 0)
      refine J_g 30 [] [(2, iv 0)] [] orcN ?_
      exact J_r1 rfl
  · refine J_ite (fun h2 => ?_) (fun h2 => ?_)
    · refine J_g 12 [] [(0, sv a1), (21, bv true)] [] (orcL 3 [(6, bv (decide ((a1.size : Int) < 1)))] [] h2 orcN) ?_
      exact J_qw (J_j (jv9 true)) rfl
    · refine J_ite (fun h3 => ?_) (fun h3 => ?_)
      · refine J_g 12 [] [(0, sv a1), (21, bv true)] [] (orcL 3 [(6, bv (decide ((a1.size : Int) < 1)))] [] h2 (orcL 8 [(11, bv (decide ((a1.size : Int) > 12)))] [] h3 orcN)) ?_
        exact J_qw (J_j (jv9 true)) rfl
      · refine J_bind (fun x4 h5 => ?_)
        refine J_ite (fun h6 => ?_) (fun h6 => ?_)
        · refine J_g 12 [] [(0, sv a1), (21, bv true)] [] (orcL 3 [(6, bv (decide ((a1.size : Int) < 1)))] [] h2 (orcL 8 [(11, bv (decide ((a1.size : Int) > 12)))] [] h3 (orcH 10 8 12 false (x_bi (kk := .i64) 9 (.tmp 13) (.const (.int .i64 0)) h5) (orcL 13 [(16, bv (decide (x4 < 97)))] [] h6 orcN)))) ?_
          exact J_qw (J_j (jv9 true)) rfl
        · refine J_bind (fun x7 h8 => ?_)
          refine J_g 12 [] [(0, sv a1), (21, bv (decide (x7 > 122)))] [] (orcL 3 [(6, bv (decide ((a1.size : Int) < 1)))] [] h2 (orcL 8 [(11, bv (decide ((a1.size : Int) > 12)))] [] h3 (orcH 10 8 12 false (x_bi (kk := .i64) 9 (.tmp 13) (.const (.int .i64 0)) h5) (orcL 13 [(16, bv (decide (x4 < 97)))] [] h6 (orcH 15 13 17 false (x_bi (kk := .i64) 9 (.tmp 18) (.const (.int .i64 0)) h8) orcN))))) ?_
          exact J_qw (J_j (jv9 (decide (x7 > 122)))) rfl

noncomputable def c175 : Code := (Tryz.f175.body).getD .skip

theorem impl_within.ok (a1 : Int) (a2 : Int) (a3 : Int) : Ok Tryz.prog 175 [iv a1, iv a2, iv a3] [] ((impl_within a1 a2 a3).map fun r => (bv r, [])) := by
  refine Ok_of3 c175 Tryz.f175 0 15 (fun q => ?_)
  unfold impl_within
  refine J_g 2 [] [(0, iv a1), (1, iv a2), (2, iv a3)] [] orcN ?_
  refine J_ite (fun h4 => ?_) (fun h4 => ?_)
  · refine J_g 6 [] [(6, bv (decide (a1 ≤ a3)))] [] (orcL 3 [(9, bv (decide (a2 ≤ a1)))] [] h4 orcN) ?_
    exact J_r1 rfl
  · refine J_g 6 [] [(6, bv false)] [] (orcL 3 [(9, bv (decide (a2 ≤ a1)))] [] h4 orcN) ?_
    exact J_r1 rfl

noncomputable def c240 : Code := (Tryz.f240.body).getD .skip

theorem impl_VersionFault.ok (a1 : Version) : Ok Tryz.prog 240 [.ag (Version.enc a1)] [] ((impl_VersionFault a1).map fun r => (iv r, [])) := by
  refine Ok_of3 c240 Tryz.f240 0 19 (fun q => ?_)
  unfold impl_VersionFault
  refine J_g 2 [(0, 0)] [(1, pp 0)] [(0, .box (Version.enc a1))] orcN ?_
  refine J_bind (fun x2 h3 => ?_)
  refine J_join (atI c240 13) (fun v10 : Bool => St.mk' [(18, bv v10)] []) (fun v10 => ?_) (fun jv10 => ?_)
  · refine J_if2 18 (fun h11 => ?_) (fun h11 => ?_)
    · refine J_g 52 [] [(2, iv 3)] [] orcN ?_
      exact J_r1 rfl
    · refine J_g 14 [] [(2, iv 0)] [] orcN ?_
      exact J_r1 rfl
  · refine J_ite (fun h4 => ?_) (fun h4 => ?_)
    · refine J_g 12 [] [(18, bv true)] [] (orcC 2 (x_c0 [(.tmp 4), (.const (.int .i64 0)), (.const (.int .i64 999))] [2, 2, 2] (impl_within.ok a1.A 0 999) h3) (orcL 4 [(6, bv (!x2))] [] h4 orcN)) ?_
      exact J_qw (J_j (jv10 true)) rfl
    · refine J_bind (fun x5 h6 => ?_)
      refine J_ite (fun h7 => ?_) (fun h7 => ?_)
      · refine J_g 12 [] [(18, bv true)] [] (orcC 2 (x_c0 [(.tmp 4), (.const (.int .i64 0)), (.const (.int .i64 999))] [2, 2, 2] (impl_within.ok a1.A 0 999) h3) (orcL 4 [(6, bv (!x2))] [] h4 (orcH 7 4 7 false (x_c0 [(.tmp 9), (.const (.int .i64 0)), (.const (.int .i64 999))] [2, 2, 2] (impl_within.ok a1.B 0 999) h6) (orcL 10 [(12, bv (!x5))] [] h7 orcN)))) ?_
        exact J_qw (J_j (jv10 true)) rfl
      · refine J_bind (fun x8 h9 => ?_)
        refine J_g 12 [] [(18, bv (!x8))] [] (orcC 2 (x_c0 [(.tmp 4), (.const (.int .i64 0)), (.const (.int .i64 999))] [2, 2, 2] (impl_within.ok a1.A 0 999) h3) (orcL 4 [(6, bv (!x2))] [] h4 (orcH 7 4 7 false (x_c0 [(.tmp 9), (.const (.int .i64 0)), (.const (.int .i64 999))] [2, 2, 2] (impl_within.ok a1.B 0 999) h6) (orcL 10 [(12, bv (!x5))] [] h7 (orcH 13 10 13 false (x_c0 [(.tmp 15), (.const (.int .i64 0)), (.const (.int .i64 999))] [2, 2, 2] (impl_within.ok a1.C 0 999) h9) orcN))))) ?_
        exact J_qw (J_j (jv10 (!x8))) rfl

noncomputable def c98 : Code := (Tryz.f98.body).getD .skip

theorem impl_firstCode_l1.ok (a1 : (List Int)) (q : Wd) (kn : Unit → Option (D × List Ent)) (hk : ∀ v : Unit, J (q.g Tryz.prog 98 0 15) c98 (atI c98 7) (St.mk' [] []) (some v) kn) :
    ∀ s6 : Int, J (q.g Tryz.prog 98 0 15) c98 (atI c98 52) (St.mk' [(5, sl 1 eI64 a1), (6, iv (a1.length : Int)), (7, iv s6)] []) (impl_firstCode_l1 a1 s6) (Fl.go (fun r : Int => some (iv r, [])) kn) := by
  refine J_lp (fun g ih s6 => ?_)
  unfold impl_firstCode_l1b
  refine J_g 104 [] [(5, sl 1 eI64 a1), (6, iv (a1.length : Int)), (7, iv s6), (8, bv (decide (s6 < (a1.length : Int))))] [] orcN ?_
  refine J_if2 8 (fun h7 => ?_) (fun h7 => ?_)
  · refine J_bind (fun x8 h9 => ?_)
    refine J_g 1688 [] [(4, iv x8), (5, sl 1 eI64 a1), (6, iv (a1.length : Int)), (7, iv s6)] [] (orcC 0 (x_ix (kk := .i64) 39 2 1 eI64 (.tmp 5) (.tmp 7) h9) orcN) ?_
    refine J_g 3378 [] [(4, iv x8), (5, sl 1 eI64 a1), (6, iv (a1.length : Int)), (7, iv s6), (12, bv (x8 != 0))] [] orcN ?_
    refine J_if2 12 (fun h10 => ?_) (fun h10 => ?_)
    · refine J_g 13516 [] [(2, iv x8)] [] orcN ?_
      exact J_r1 rfl
    · refine J_g 423 [] [(5, sl 1 eI64 a1), (6, iv (a1.length : Int)), (7, iv (w64 (s6 + 1)))] [] orcN ?_
      exact J_q (J_b (ih (w64 (s6 + 1)))) rfl
  · exact J_qw (hk ()) rfl

theorem impl_firstCode.ok (a1 : (List Int)) : Ok Tryz.prog 98 [sl 1 eI64 a1] [] ((impl_firstCode a1).map fun r => (iv r, [])) := by
  refine Ok_of3 c98 Tryz.f98 0 15 (fun q => ?_)
  unfold impl_firstCode
  refine J_g 2 [] [(0, sl 1 eI64 a1)] [] orcN ?_
  refine J_g 12 [] [(5, sl 1 eI64 a1), (6, iv (a1.length : Int)), (7, iv 0)] [] orcN ?_
  refine J_lqF (K0 := (fun r : Int => some (iv r, []))) (fun _ => rfl) (impl_firstCode_l1.ok a1 q _ (fun v11 => J_j ?_) 0)
  refine J_g 14 [] [(2, iv 0)] [] orcN ?_
  exact J_r1 rfl

noncomputable def c242 : Code := (Tryz.f242.body).getD .skip

theorem impl_PackFault_1.ok (a1 : (List Term)) : Ok Tryz.prog 242 [sl 7 Term.enc a1] [] ((impl_PackFault_1 a1).map fun r => (bv r, [])) := by
  refine Ok_of3 c242 Tryz.f242 0 6 (fun q => ?_)
  unfold impl_PackFault_1
  refine J_g 2 [] [(0, sl 7 Term.enc a1)] [] orcN ?_
  refine J_g 6 [] [(2, bv (decide ((a1.length : Int) > 4)))] [] orcN ?_
  exact J_r1 rfl

noncomputable def c293 : Code := (Tryz.f293.body).getD .skip

theorem slices_IndexFunc_LLimplTerm_impl_PackFault_1_l1.ok (a1 : (List (List Term))) (q : Wd) (kn : Unit → Option (D × List Ent)) (hk : ∀ v : Unit, J (q.g Tryz.prog 293 0 19) c293 (atI c293 7) (St.mk' [] []) (some v) kn) :
    ∀ s8 : Int, J (q.g Tryz.prog 293 0 19) c293 (atI c293 52) (St.mk' [(0, sl 1 (eSl false 7 Term.enc) a1), (1, .fn 242 []), (7, iv (a1.length : Int)), (8, iv s8)] []) (slices_IndexFunc_LLimplTerm_impl_PackFault_1_l1 a1 s8) (Fl.go (fun r : Int => some (iv r, [])) kn) := by
  refine J_lp (fun g ih s8 => ?_)
  unfold slices_IndexFunc_LLimplTerm_impl_PackFault_1_l1b
  refine J_g 104 [] [(0, sl 1 (eSl false 7 Term.enc) a1), (1, .fn 242 []), (7, iv (a1.length : Int)), (8, iv s8), (9, bv (decide (s8 < (a1.length : Int))))] [] orcN ?_
  refine J_if2 9 (fun h9 => ?_) (fun h9 => ?_)
  · refine J_g 1688 [] [(0, sl 1 (eSl false 7 Term.enc) a1), (1, .fn 242 []), (5, iv s8), (7, iv (a1.length : Int)), (8, iv s8)] [] orcN ?_
    refine J_bind (fun x10 h11 => ?_)
    refine J_bind (fun x12 h13 => ?_)
    refine J_g 3378 [] [(0, sl 1 (eSl false 7 Term.enc) a1), (1, .fn 242 []), (5, iv s8), (7, iv (a1.length : Int)), (8, iv s8), (16, bv x12)] [] (orcC 3 (x_ix (kk := .i64) 100 75 1 (eSl false 7 Term.enc) (.tmp 12) (.tmp 13) h11) (orcC 5 (x_c0v («as» := [sl 7 Term.enc x10]) (caps := []) 11 [(.tmp 15)] [75] (impl_PackFault_1.ok x10) h13) orcN)) ?_
    refine J_if2 16 (fun h14 => ?_) (fun h14 => ?_)
    · refine J_g 13516 [] [(4, iv s8)] [] orcN ?_
      exact J_r1 rfl
    · refine J_g 423 [] [(0, sl 1 (eSl false 7 Term.enc) a1), (1, .fn 242 []), (7, iv (a1.length : Int)), (8, iv (w64 (s8 + 1)))] [] orcN ?_
      exact J_q (J_b (ih (w64 (s8 + 1)))) rfl
  · exact J_qw (hk ()) rfl

theorem slices_IndexFunc_LLimplTerm_impl_PackFault_1.ok (a1 : (List (List Term))) : Ok Tryz.prog 293 [sl 1 (eSl false 7 Term.enc) a1, .fn 242 []] [] ((slices_IndexFunc_LLimplTerm_impl_PackFault_1 a1).map fun r => (iv r, [])) := by
  refine Ok_of3 c293 Tryz.f293 0 19 (fun q => ?_)
  unfold slices_IndexFunc_LLimplTerm_impl_PackFault_1
  refine J_g 2 [] [(0, sl 1 (eSl false 7 Term.enc) a1), (1, .fn 242 [])] [] orcN ?_
  refine J_g 12 [] [(0, sl 1 (eSl false 7 Term.enc) a1), (1, .fn 242 []), (7, iv (a1.length : Int)), (8, iv 0)] [] orcN ?_
  refine J_lqF (K0 := (fun r : Int => some (iv r, []))) (fun _ => rfl) (slices_IndexFunc_LLimplTerm_impl_PackFault_1_l1.ok a1 q _ (fun v15 => J_j ?_) 0)
  refine J_g 14 [] [(4, iv (-1))] [] orcN ?_
  exact J_r1 rfl

end Go.Told

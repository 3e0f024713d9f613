import Derived.Test.YtbifnchjphefeaaGreatDoorToldWholeSet
import Derived.Test.YtbifnchjphefeaaGreatDoorShelf
import Derived.Test.YtbifnchjphefeaaGreatDoorProg
set_option linter.unusedVariables false
set_option maxRecDepth 4000
namespace Go.Told
open Go Go.Im Go.Proofs

noncomputable def c83 : Code := (Tryz.f83.body).getD .skip

theorem laws_szStringS_l1.ok (a1 : (List ByteArray)) (q : Wd) (kn : Int → Option (D × List Ent)) (hk : ∀ v : Int, J (q.g Tryz.prog 83 0 28) c83 (atI c83 31) (St.mk' [(1, iv v)] []) (some v) kn) :
    ∀ s8 : (Int × Int), J (q.g Tryz.prog 83 0 28) c83 (atI c83 244) (St.mk' [(0, sl 1 eStr a1), (1, iv s8.1), (5, iv s8.2)] []) (laws_szStringS_l1 a1 s8) (Fl.go (fun r : Int => some (iv r, [])) kn) := by
  refine J_lp (fun g ih s8 => ?_)
  unfold laws_szStringS_l1b
  refine J_g 976 [] [(0, sl 1 eStr a1), (1, iv s8.1), (5, iv s8.2), (15, bv (decide (s8.2 < (a1.length : Int))))] [] orcN ?_
  refine J_if2 15 (fun h9 => ?_) (fun h9 => ?_)
  · refine J_bind (fun x10 h11 => ?_)
    refine J_g 3912 [] [(0, sl 1 eStr a1), (1, iv (w64 (s8.1 - (x10.size : Int)))), (5, iv s8.2)] [] (orcC 3 (x_ix (kk := .i64) 73 9 1 eStr (.tmp 19) (.tmp 20) h11) orcN) ?_
    refine J_g 7826 [] [(0, sl 1 eStr a1), (1, iv (w64 (s8.1 - (x10.size : Int)))), (5, iv s8.2), (26, bv (decide ((w64 (s8.1 - (x10.size : Int))) < 0)))] [] orcN ?_
    refine J_if2 26 (fun h12 => ?_) (fun h12 => ?_)
    · refine J_g 31308 [] [(4, iv (-1))] [] orcN ?_
      exact J_r1 rfl
    · refine J_g 979 [] [(0, sl 1 eStr a1), (1, iv (w64 (s8.1 - (x10.size : Int)))), (5, iv (w64 (s8.2 + 1)))] [] orcN ?_
      exact J_q (J_b (ih (w64 (s8.1 - (x10.size : Int)), w64 (s8.2 + 1)))) rfl
  · exact J_qw (hk s8.1) rfl

theorem laws_szStringS.ok (a1 : (List ByteArray)) (a2 : Int) : Ok Tryz.prog 83 [sl 1 eStr a1, iv a2] [] ((laws_szStringS a1 a2).map fun r => (iv r, [])) := by
  refine Ok_of3 c83 Tryz.f83 0 28 (fun q => ?_)
  unfold laws_szStringS
  refine J_g 2 [] [(0, sl 1 eStr a1), (1, iv a2)] [] orcN ?_
  refine J_g 6 [] [(0, sl 1 eStr a1), (1, iv (w64 (a2 - (a1.length : Int))))] [] orcN ?_
  refine J_g 28 [] [(0, sl 1 eStr a1), (1, iv (w64 (a2 - (a1.length : Int)))), (11, bv (decide ((w64 (a2 - (a1.length : Int))) < 0)))] [] orcN ?_
  refine J_if2 11 (fun h3 => ?_) (fun h3 => ?_)
  · refine J_g 116 [] [(4, iv (-1))] [] orcN ?_
    exact J_r1 rfl
  · refine J_g 60 [] [(0, sl 1 eStr a1), (1, iv (w64 (a2 - (a1.length : Int)))), (5, iv 0)] [] orcN ?_
    refine J_lqF (K0 := (fun r : Int => some (iv r, []))) (fun _ => rfl) (laws_szStringS_l1.ok a1 q _ (fun v13 => J_j ?_) (w64 (a2 - (a1.length : Int)), 0))
    refine J_g 62 [] [(4, iv v13)] [] orcN ?_
    exact J_r1 rfl

noncomputable def c43 : Code := (Tryz.f43.body).getD .skip

theorem laws_szTerm.ok (a1 : Term) (a2 : Int) : Ok Tryz.prog 43 [.ag (Term.enc a1), iv a2] [] ((laws_szTerm a1 a2).map fun r => (iv r, [])) := by
  refine Ok_of3 c43 Tryz.f43 0 13 (fun q => ?_)
  unfold laws_szTerm
  refine J_g 2 [(0, 0)] [(1, iv a2), (2, pp 0)] [(0, .box (Term.enc a1))] orcN ?_
  refine J_g 6 [] [(1, iv (w64 (a2 - (a1.Name.size : Int))))] [] orcN ?_
  refine J_g 28 [] [(1, iv (w64 (a2 - (a1.Name.size : Int)))), (11, bv (decide ((w64 (a2 - (a1.Name.size : Int))) < 0)))] [] orcN ?_
  refine J_if2 11 (fun h3 => ?_) (fun h3 => ?_)
  · refine J_g 116 [] [(4, iv (-1))] [] orcN ?_
    exact J_r1 rfl
  · refine J_g 30 [] [(4, iv (w64 (a2 - (a1.Name.size : Int))))] [] orcN ?_
    exact J_r1 rfl

noncomputable def c9 : Code := (Tryz.f9.body).getD .skip

theorem laws_szTermS_l1.ok (a1 : (List Term)) (q : Wd) (kn : Int → Option (D × List Ent)) (hk : ∀ v : Int, J (q.g Tryz.prog 9 0 27) c9 (atI c9 31) (St.mk' [(1, iv v)] []) (some v) kn) :
    ∀ s10 : (Int × Int), J (q.g Tryz.prog 9 0 27) c9 (atI c9 244) (St.mk' [(0, sl 7 Term.enc a1), (1, iv s10.1), (5, iv s10.2)] []) (laws_szTermS_l1 a1 s10) (Fl.go (fun r : Int => some (iv r, [])) kn) := by
  refine J_lp (fun g ih s10 => ?_)
  unfold laws_szTermS_l1b
  refine J_g 976 [] [(0, sl 7 Term.enc a1), (1, iv s10.1), (5, iv s10.2), (15, bv (decide (s10.2 < (a1.length : Int))))] [] orcN ?_
  refine J_if2 15 (fun h11 => ?_) (fun h11 => ?_)
  · refine J_bind (fun x12 h13 => ?_)
    refine J_bind (fun x14 h15 => ?_)
    refine J_g 3912 [] [(0, sl 7 Term.enc a1), (1, iv x14), (5, iv s10.2)] [] (orcC 2 (x_ix (kk := .i64) 23 79 7 Term.enc (.tmp 18) (.tmp 19) h13) (orcC 5 (x_c0 [(.tmp 21), (.tmp 22)] [79, 3] (laws_szTerm.ok x12 s10.1) h15) orcN)) ?_
    refine J_g 7826 [] [(0, sl 7 Term.enc a1), (1, iv x14), (5, iv s10.2), (25, bv (decide (x14 < 0)))] [] orcN ?_
    refine J_if2 25 (fun h16 => ?_) (fun h16 => ?_)
    · refine J_g 31308 [] [(4, iv (-1))] [] orcN ?_
      exact J_r1 rfl
    · refine J_g 979 [] [(0, sl 7 Term.enc a1), (1, iv x14), (5, iv (w64 (s10.2 + 1)))] [] orcN ?_
      exact J_q (J_b (ih (x14, w64 (s10.2 + 1)))) rfl
  · exact J_qw (hk s10.1) rfl

theorem laws_szTermS.ok (a1 : (List Term)) (a2 : Int) : Ok Tryz.prog 9 [sl 7 Term.enc a1, iv a2] [] ((laws_szTermS a1 a2).map fun r => (iv r, [])) := by
  refine Ok_of3 c9 Tryz.f9 0 27 (fun q => ?_)
  unfold laws_szTermS
  refine J_g 2 [] [(0, sl 7 Term.enc a1), (1, iv a2)] [] orcN ?_
  refine J_g 6 [] [(0, sl 7 Term.enc a1), (1, iv (w64 (a2 - (a1.length : Int))))] [] orcN ?_
  refine J_g 28 [] [(0, sl 7 Term.enc a1), (1, iv (w64 (a2 - (a1.length : Int)))), (11, bv (decide ((w64 (a2 - (a1.length : Int))) < 0)))] [] orcN ?_
  refine J_if2 11 (fun h3 => ?_) (fun h3 => ?_)
  · refine J_g 116 [] [(4, iv (-1))] [] orcN ?_
    exact J_r1 rfl
  · refine J_g 60 [] [(0, sl 7 Term.enc a1), (1, iv (w64 (a2 - (a1.length : Int)))), (5, iv 0)] [] orcN ?_
    refine J_lqF (K0 := (fun r : Int => some (iv r, []))) (fun _ => rfl) (laws_szTermS_l1.ok a1 q _ (fun v17 => J_j ?_) (w64 (a2 - (a1.length : Int)), 0))
    refine J_g 62 [] [(4, iv v17)] [] orcN ?_
    exact J_r1 rfl

noncomputable def c84 : Code := (Tryz.f84.body).getD .skip

theorem laws_szTermSS_l1.ok (a1 : (List (List Term))) (q : Wd) (kn : Int → Option (D × List Ent)) (hk : ∀ v : Int, J (q.g Tryz.prog 84 0 27) c84 (atI c84 31) (St.mk' [(1, iv v)] []) (some v) kn) :
    ∀ s10 : (Int × Int), J (q.g Tryz.prog 84 0 27) c84 (atI c84 244) (St.mk' [(0, sl 1 (eSl false 7 Term.enc) a1), (1, iv s10.1), (5, iv s10.2)] []) (laws_szTermSS_l1 a1 s10) (Fl.go (fun r : Int => some (iv r, [])) kn) := by
  refine J_lp (fun g ih s10 => ?_)
  unfold laws_szTermSS_l1b
  refine J_g 976 [] [(0, sl 1 (eSl false 7 Term.enc) a1), (1, iv s10.1), (5, iv s10.2), (15, bv (decide (s10.2 < (a1.length : Int))))] [] orcN ?_
  refine J_if2 15 (fun h11 => ?_) (fun h11 => ?_)
  · refine J_bind (fun x12 h13 => ?_)
    refine J_bind (fun x14 h15 => ?_)
    refine J_g 3912 [] [(0, sl 1 (eSl false 7 Term.enc) a1), (1, iv x14), (5, iv s10.2)] [] (orcC 2 (x_ix (kk := .i64) 74 23 1 (eSl false 7 Term.enc) (.tmp 18) (.tmp 19) h13) (orcC 5 (x_c0 [(.tmp 21), (.tmp 22)] [23, 3] (laws_szTermS.ok x12 s10.1) h15) orcN)) ?_
    refine J_g 7826 [] [(0, sl 1 (eSl false 7 Term.enc) a1), (1, iv x14), (5, iv s10.2), (25, bv (decide (x14 < 0)))] [] orcN ?_
    refine J_if2 25 (fun h16 => ?_) (fun h16 => ?_)
    · refine J_g 31308 [] [(4, iv (-1))] [] orcN ?_
      exact J_r1 rfl
    · refine J_g 979 [] [(0, sl 1 (eSl false 7 Term.enc) a1), (1, iv x14), (5, iv (w64 (s10.2 + 1)))] [] orcN ?_
      exact J_q (J_b (ih (x14, w64 (s10.2 + 1)))) rfl
  · exact J_qw (hk s10.1) rfl

theorem laws_szTermSS.ok (a1 : (List (List Term))) (a2 : Int) : Ok Tryz.prog 84 [sl 1 (eSl false 7 Term.enc) a1, iv a2] [] ((laws_szTermSS a1 a2).map fun r => (iv r, [])) := by
  refine Ok_of3 c84 Tryz.f84 0 27 (fun q => ?_)
  unfold laws_szTermSS
  refine J_g 2 [] [(0, sl 1 (eSl false 7 Term.enc) a1), (1, iv a2)] [] orcN ?_
  refine J_g 6 [] [(0, sl 1 (eSl false 7 Term.enc) a1), (1, iv (w64 (a2 - (a1.length : Int))))] [] orcN ?_
  refine J_g 28 [] [(0, sl 1 (eSl false 7 Term.enc) a1), (1, iv (w64 (a2 - (a1.length : Int)))), (11, bv (decide ((w64 (a2 - (a1.length : Int))) < 0)))] [] orcN ?_
  refine J_if2 11 (fun h3 => ?_) (fun h3 => ?_)
  · refine J_g 116 [] [(4, iv (-1))] [] orcN ?_
    exact J_r1 rfl
  · refine J_g 60 [] [(0, sl 1 (eSl false 7 Term.enc) a1), (1, iv (w64 (a2 - (a1.length : Int)))), (5, iv 0)] [] orcN ?_
    refine J_lqF (K0 := (fun r : Int => some (iv r, []))) (fun _ => rfl) (laws_szTermSS_l1.ok a1 q _ (fun v17 => J_j ?_) (w64 (a2 - (a1.length : Int)), 0))
    refine J_g 62 [] [(4, iv v17)] [] orcN ?_
    exact J_r1 rfl

noncomputable def c42 : Code := (Tryz.f42.body).getD .skip

theorem laws_szPack.ok (a1 : Pack) (a2 : Int) : Ok Tryz.prog 42 [.ag (Pack.enc false a1), iv a2] [] ((laws_szPack a1 a2).map fun r => (iv r, [])) := by
  refine Ok_of3 c42 Tryz.f42 0 31 (fun q => ?_)
  unfold laws_szPack
  refine J_g 2 [(0, 0)] [(1, iv a2), (2, pp 0)] [(0, .box (Pack.enc false a1))] orcN ?_
  refine J_g 6 [] [(1, iv (w64 (a2 - (a1.Name.size : Int)))), (2, pp 0)] [(0, .box (Pack.enc false a1))] orcN ?_
  refine J_g 28 [] [(1, iv (w64 (a2 - (a1.Name.size : Int)))), (2, pp 0), (11, bv (decide ((w64 (a2 - (a1.Name.size : Int))) < 0)))] [(0, .box (Pack.enc false a1))] orcN ?_
  refine J_if2 11 (fun h3 => ?_) (fun h3 => ?_)
  · refine J_g 116 [] [(4, iv (-1))] [] orcN ?_
    exact J_r1 rfl
  · refine J_bind (fun x4 h5 => ?_)
    refine J_g 30 [] [(1, iv x4), (2, pp 0)] [(0, .box (Pack.enc false a1))] (orcC 3 (x_c0 [(.tmp 13), (.tmp 14)] [73, 3] (laws_szStringS.ok a1.Provides (w64 (a2 - (a1.Name.size : Int)))) h5) orcN) ?_
    refine J_g 124 [] [(1, iv x4), (2, pp 0), (17, bv (decide (x4 < 0)))] [(0, .box (Pack.enc false a1))] orcN ?_
    refine J_if2 17 (fun h6 => ?_) (fun h6 => ?_)
    · refine J_g 500 [] [(4, iv (-1))] [] orcN ?_
      exact J_r1 rfl
    · refine J_bind (fun x7 h8 => ?_)
      refine J_g 126 [] [(1, iv x7), (2, pp 0)] [(0, .box (Pack.enc false a1))] (orcC 3 (x_c0 [(.tmp 19), (.tmp 20)] [74, 3] (laws_szTermSS.ok a1.Needs x4) h8) orcN) ?_
      refine J_g 508 [] [(1, iv x7), (2, pp 0), (23, bv (decide (x7 < 0)))] [(0, .box (Pack.enc false a1))] orcN ?_
      refine J_if2 23 (fun h9 => ?_) (fun h9 => ?_)
      · refine J_g 2036 [] [(4, iv (-1))] [] orcN ?_
        exact J_r1 rfl
      · refine J_bind (fun x10 h11 => ?_)
        refine J_g 510 [] [(1, iv x10)] [] (orcC 3 (x_c0 [(.tmp 25), (.tmp 26)] [23, 3] (laws_szTermS.ok a1.Bars x7) h11) orcN) ?_
        refine J_g 2044 [] [(1, iv x10), (29, bv (decide (x10 < 0)))] [] orcN ?_
        refine J_if2 29 (fun h12 => ?_) (fun h12 => ?_)
        · refine J_g 8180 [] [(4, iv (-1))] [] orcN ?_
          exact J_r1 rfl
        · refine J_g 2046 [] [(4, iv x10)] [] orcN ?_
          exact J_r1 rfl

noncomputable def c8 : Code := (Tryz.f8.body).getD .skip

theorem laws_szPackS_l1.ok (a1 : (List Pack)) (q : Wd) (kn : Int → Option (D × List Ent)) (hk : ∀ v : Int, J (q.g Tryz.prog 8 0 27) c8 (atI c8 31) (St.mk' [(1, iv v)] []) (some v) kn) :
    ∀ s10 : (Int × Int), J (q.g Tryz.prog 8 0 27) c8 (atI c8 244) (St.mk' [(0, sl 8 (Pack.enc false) a1), (1, iv s10.1), (5, iv s10.2)] []) (laws_szPackS_l1 a1 s10) (Fl.go (fun r : Int => some (iv r, [])) kn) := by
  refine J_lp (fun g ih s10 => ?_)
  unfold laws_szPackS_l1b
  refine J_g 976 [] [(0, sl 8 (Pack.enc false) a1), (1, iv s10.1), (5, iv s10.2), (15, bv (decide (s10.2 < (a1.length : Int))))] [] orcN ?_
  refine J_if2 15 (fun h11 => ?_) (fun h11 => ?_)
  · refine J_bind (fun x12 h13 => ?_)
    refine J_bind (fun x14 h15 => ?_)
    refine J_g 3912 [] [(0, sl 8 (Pack.enc false) a1), (1, iv x14), (5, iv s10.2)] [] (orcC 2 (x_ix (kk := .i64) 22 76 8 (Pack.enc false) (.tmp 18) (.tmp 19) h13) (orcC 5 (x_c0 [(.tmp 21), (.tmp 22)] [76, 3] (laws_szPack.ok x12 s10.1) h15) orcN)) ?_
    refine J_g 7826 [] [(0, sl 8 (Pack.enc false) a1), (1, iv x14), (5, iv s10.2), (25, bv (decide (x14 < 0)))] [] orcN ?_
    refine J_if2 25 (fun h16 => ?_) (fun h16 => ?_)
    · refine J_g 31308 [] [(4, iv (-1))] [] orcN ?_
      exact J_r1 rfl
    · refine J_g 979 [] [(0, sl 8 (Pack.enc false) a1), (1, iv x14), (5, iv (w64 (s10.2 + 1)))] [] orcN ?_
      exact J_q (J_b (ih (x14, w64 (s10.2 + 1)))) rfl
  · exact J_qw (hk s10.1) rfl

theorem laws_szPackS.ok (a1 : (List Pack)) (a2 : Int) : Ok Tryz.prog 8 [sl 8 (Pack.enc false) a1, iv a2] [] ((laws_szPackS a1 a2).map fun r => (iv r, [])) := by
  refine Ok_of3 c8 Tryz.f8 0 27 (fun q => ?_)
  unfold laws_szPackS
  refine J_g 2 [] [(0, sl 8 (Pack.enc false) a1), (1, iv a2)] [] orcN ?_
  refine J_g 6 [] [(0, sl 8 (Pack.enc false) a1), (1, iv (w64 (a2 - (a1.length : Int))))] [] orcN ?_
  refine J_g 28 [] [(0, sl 8 (Pack.enc false) a1), (1, iv (w64 (a2 - (a1.length : Int)))), (11, bv (decide ((w64 (a2 - (a1.length : Int))) < 0)))] [] orcN ?_
  refine J_if2 11 (fun h3 => ?_) (fun h3 => ?_)
  · refine J_g 116 [] [(4, iv (-1))] [] orcN ?_
    exact J_r1 rfl
  · refine J_g 60 [] [(0, sl 8 (Pack.enc false) a1), (1, iv (w64 (a2 - (a1.length : Int)))), (5, iv 0)] [] orcN ?_
    refine J_lqF (K0 := (fun r : Int => some (iv r, []))) (fun _ => rfl) (laws_szPackS_l1.ok a1 q _ (fun v17 => J_j ?_) (w64 (a2 - (a1.length : Int)), 0))
    refine J_g 62 [] [(4, iv v17)] [] orcN ?_
    exact J_r1 rfl

noncomputable def c152 : Code := (Tryz.f152.body).getD .skip

theorem laws_szByteS.ok (a1 : (List Int)) (a2 : Int) : Ok Tryz.prog 152 [sl 1 eU8 a1, iv a2] [] ((laws_szByteS a1 a2).map fun r => (iv r, [])) := by
  refine Ok_of3 c152 Tryz.f152 0 12 (fun q => ?_)
  unfold laws_szByteS
  refine J_g 2 [] [(0, sl 1 eU8 a1), (1, iv a2)] [] orcN ?_
  refine J_g 6 [] [(1, iv (w64 (a2 - (a1.length : Int))))] [] orcN ?_
  refine J_g 28 [] [(1, iv (w64 (a2 - (a1.length : Int)))), (10, bv (decide ((w64 (a2 - (a1.length : Int))) < 0)))] [] orcN ?_
  refine J_if2 10 (fun h3 => ?_) (fun h3 => ?_)
  · refine J_g 116 [] [(4, iv (-1))] [] orcN ?_
    exact J_r1 rfl
  · refine J_g 30 [] [(4, iv (w64 (a2 - (a1.length : Int))))] [] orcN ?_
    exact J_r1 rfl

noncomputable def c104 : Code := (Tryz.f104.body).getD .skip

theorem laws_szFile.ok (a1 : File) (a2 : Int) : Ok Tryz.prog 104 [.ag (File.enc false a1), iv a2] [] ((laws_szFile a1 a2).map fun r => (iv r, [])) := by
  refine Ok_of3 c104 Tryz.f104 0 19 (fun q => ?_)
  unfold laws_szFile
  refine J_g 2 [(0, 0)] [(1, iv a2), (2, pp 0)] [(0, .box (File.enc false a1))] orcN ?_
  refine J_g 6 [] [(1, iv (w64 (a2 - (a1.Path.size : Int)))), (2, pp 0)] [(0, .box (File.enc false a1))] orcN ?_
  refine J_g 28 [] [(1, iv (w64 (a2 - (a1.Path.size : Int)))), (2, pp 0), (11, bv (decide ((w64 (a2 - (a1.Path.size : Int))) < 0)))] [(0, .box (File.enc false a1))] orcN ?_
  refine J_if2 11 (fun h3 => ?_) (fun h3 => ?_)
  · refine J_g 116 [] [(4, iv (-1))] [] orcN ?_
    exact J_r1 rfl
  · refine J_bind (fun x4 h5 => ?_)
    refine J_g 30 [] [(1, iv x4)] [] (orcC 3 (x_c0 [(.tmp 13), (.tmp 14)] [119, 3] (laws_szByteS.ok a1.Data (w64 (a2 - (a1.Path.size : Int)))) h5) orcN) ?_
    refine J_g 124 [] [(1, iv x4), (17, bv (decide (x4 < 0)))] [] orcN ?_
    refine J_if2 17 (fun h6 => ?_) (fun h6 => ?_)
    · refine J_g 500 [] [(4, iv (-1))] [] orcN ?_
      exact J_r1 rfl
    · refine J_g 126 [] [(4, iv x4)] [] orcN ?_
      exact J_r1 rfl

noncomputable def c59 : Code := (Tryz.f59.body).getD .skip

theorem laws_szFileS_l1.ok (a1 : (List File)) (q : Wd) (kn : Int → Option (D × List Ent)) (hk : ∀ v : Int, J (q.g Tryz.prog 59 0 27) c59 (atI c59 31) (St.mk' [(1, iv v)] []) (some v) kn) :
    ∀ s10 : (Int × Int), J (q.g Tryz.prog 59 0 27) c59 (atI c59 244) (St.mk' [(0, sl 2 (File.enc false) a1), (1, iv s10.1), (5, iv s10.2)] []) (laws_szFileS_l1 a1 s10) (Fl.go (fun r : Int => some (iv r, [])) kn) := by
  refine J_lp (fun g ih s10 => ?_)
  unfold laws_szFileS_l1b
  refine J_g 976 [] [(0, sl 2 (File.enc false) a1), (1, iv s10.1), (5, iv s10.2), (15, bv (decide (s10.2 < (a1.length : Int))))] [] orcN ?_
  refine J_if2 15 (fun h11 => ?_) (fun h11 => ?_)
  · refine J_bind (fun x12 h13 => ?_)
    refine J_bind (fun x14 h15 => ?_)
    refine J_g 3912 [] [(0, sl 2 (File.enc false) a1), (1, iv x14), (5, iv s10.2)] [] (orcC 2 (x_ix (kk := .i64) 38 139 2 (File.enc false) (.tmp 18) (.tmp 19) h13) (orcC 5 (x_c0 [(.tmp 21), (.tmp 22)] [139, 3] (laws_szFile.ok x12 s10.1) h15) orcN)) ?_
    refine J_g 7826 [] [(0, sl 2 (File.enc false) a1), (1, iv x14), (5, iv s10.2), (25, bv (decide (x14 < 0)))] [] orcN ?_
    refine J_if2 25 (fun h16 => ?_) (fun h16 => ?_)
    · refine J_g 31308 [] [(4, iv (-1))] [] orcN ?_
      exact J_r1 rfl
    · refine J_g 979 [] [(0, sl 2 (File.enc false) a1), (1, iv x14), (5, iv (w64 (s10.2 + 1)))] [] orcN ?_
      exact J_q (J_b (ih (x14, w64 (s10.2 + 1)))) rfl
  · exact J_qw (hk s10.1) rfl

theorem laws_szFileS.ok (a1 : (List File)) (a2 : Int) : Ok Tryz.prog 59 [sl 2 (File.enc false) a1, iv a2] [] ((laws_szFileS a1 a2).map fun r => (iv r, [])) := by
  refine Ok_of3 c59 Tryz.f59 0 27 (fun q => ?_)
  unfold laws_szFileS
  refine J_g 2 [] [(0, sl 2 (File.enc false) a1), (1, iv a2)] [] orcN ?_
  refine J_g 6 [] [(0, sl 2 (File.enc false) a1), (1, iv (w64 (a2 - (a1.length : Int))))] [] orcN ?_
  refine J_g 28 [] [(0, sl 2 (File.enc false) a1), (1, iv (w64 (a2 - (a1.length : Int)))), (11, bv (decide ((w64 (a2 - (a1.length : Int))) < 0)))] [] orcN ?_
  refine J_if2 11 (fun h3 => ?_) (fun h3 => ?_)
  · refine J_g 116 [] [(4, iv (-1))] [] orcN ?_
    exact J_r1 rfl
  · refine J_g 60 [] [(0, sl 2 (File.enc false) a1), (1, iv (w64 (a2 - (a1.length : Int)))), (5, iv 0)] [] orcN ?_
    refine J_lqF (K0 := (fun r : Int => some (iv r, []))) (fun _ => rfl) (laws_szFileS_l1.ok a1 q _ (fun v17 => J_j ?_) (w64 (a2 - (a1.length : Int)), 0))
    refine J_g 62 [] [(4, iv v17)] [] orcN ?_
    exact J_r1 rfl

noncomputable def c19 : Code := (Tryz.f19.body).getD .skip

theorem laws_szDisk.ok (a1 : Disk) (a2 : Int) : Ok Tryz.prog 19 [.ag (Disk.enc false a1), iv a2] [] ((laws_szDisk a1 a2).map fun r => (iv r, [])) := by
  refine Ok_of3 c19 Tryz.f19 0 12 (fun q => ?_)
  unfold laws_szDisk
  refine J_g 2 [(0, 0)] [(1, iv a2), (2, pp 0)] [(0, .box (Disk.enc false a1))] orcN ?_
  refine J_bind (fun x3 h4 => ?_)
  refine J_g 6 [] [(1, iv x3)] [] (orcC 3 (x_c0 [(.tmp 6), (.tmp 7)] [38, 3] (laws_szFileS.ok a1.Files a2) h4) orcN) ?_
  refine J_g 28 [] [(1, iv x3), (10, bv (decide (x3 < 0)))] [] orcN ?_
  refine J_if2 10 (fun h5 => ?_) (fun h5 => ?_)
  · refine J_g 116 [] [(4, iv (-1))] [] orcN ?_
    exact J_r1 rfl
  · refine J_g 30 [] [(4, iv x3)] [] orcN ?_
    exact J_r1 rfl

noncomputable def c91 : Code := (Tryz.f91.body).getD .skip

theorem laws_toVersion.ok (a1 : Version) : Ok Tryz.prog 91 [.ag (Version.enc a1)] [] ((laws_toVersion a1).map fun r => (.ag (Version.enc r), [])) := by
  refine Ok_of3 c91 Tryz.f91 0 14 (fun q => ?_)
  unfold laws_toVersion
  refine J_g 2 [(0, 0), (1, 1)] [(1, pp 0), (2, pp 1)] [(0, .box (Version.enc a1)), (1, .box [iv 0, iv 0, iv 0])] orcN ?_
  refine J_g 6 [(0, 2)] [(1, pp 0), (2, pp 1), (3, pp 2)] [(0, .box (Version.enc a1)), (1, .box [iv 0, iv 0, iv 0]), (2, .box [iv 0, iv 0, iv 0])] orcN ?_
  refine J_g 14 [] [(1, pp 0), (2, pp 1), (3, pp 2)] [(0, .box (Version.enc a1)), (1, .box [iv 0, iv 0, iv 0]), (2, .box [iv a1.A, iv 0, iv 0])] orcN ?_
  refine J_g 30 [] [(1, pp 0), (2, pp 1), (3, pp 2)] [(0, .box (Version.enc a1)), (1, .box [iv 0, iv 0, iv 0]), (2, .box [iv a1.A, iv a1.B, iv 0])] orcN ?_
  refine J_g 62 [] [(2, pp 1), (3, pp 2)] [(1, .box [iv 0, iv 0, iv 0]), (2, .box (Version.enc a1))] orcN ?_
  refine J_g 126 [] [(2, pp 1)] [(1, .box (Version.enc a1))] orcN ?_
  exact J_r1 rfl

noncomputable def c92 : Code := (Tryz.f92.body).getD .skip

theorem laws_toStringS_l1.ok (a1 : (List ByteArray)) (q : Wd) (kn : (List ByteArray) → Option (D × List Ent)) (hk : ∀ v : (List ByteArray), J (q.g Tryz.prog 92 0 22) c92 (atI c92 15) (St.mk' [(3, rr 0 v)] [(0, rE 1 eStr v)]) (some v) kn) :
    ∀ s9 : ((List ByteArray) × Int), J (q.g Tryz.prog 92 0 22) c92 (atI c92 116) (St.mk' [(0, sl 1 eStr a1), (3, rr 0 s9.1), (4, iv s9.2)] [(0, rE 1 eStr s9.1)]) (laws_toStringS_l1 a1 s9) kn := by
  refine J_lp (fun g ih s9 => ?_)
  unfold laws_toStringS_l1b
  refine J_g 464 [] [(0, sl 1 eStr a1), (3, rr 0 s9.1), (4, iv s9.2), (11, bv (decide (s9.2 < (a1.length : Int))))] [(0, rE 1 eStr s9.1)] orcN ?_
  refine J_if2 11 (fun h10 => ?_) (fun h10 => ?_)
  · refine J_bind (fun x11 h12 => ?_)
    refine J_bind (fun x13 h14 => ?_)
    refine J_g 932 [] [(0, sl 1 eStr a1), (3, rr 0 s9.1), (4, iv s9.2)] [(0, rE 1 eStr (s9.1.set s9.2.toNat x11))] (orcC 4 (x_ix (kk := .i64) 73 9 1 eStr (.tmp 16) (.tmp 17) h12) (orcC 6 (x_ixr (kk := .i64) 73 9 1 0 eStr (.tmp 14) (.tmp 15) h14) (orcD 7 (x_st (b := x11) 9 1 0 0 eStr (sv x11) (.tmp 20) (.tmp 19) h14 rfl) orcN))) ?_
    refine J_st (σ' := St.mk' [(0, sl 1 eStr a1), (3, rr 0 (s9.1.set s9.2.toNat x11)), (4, iv s9.2)] [(0, rE 1 eStr (s9.1.set s9.2.toNat x11))]) (by simp only [rr, List.length_set]) ?_
    refine J_g 467 [] [(0, sl 1 eStr a1), (3, rr 0 (s9.1.set s9.2.toNat x11)), (4, iv (w64 (s9.2 + 1)))] [(0, rE 1 eStr (s9.1.set s9.2.toNat x11))] orcN ?_
    exact J_q (J_b (ih (s9.1.set s9.2.toNat x11, w64 (s9.2 + 1)))) rfl
  · exact J_qw (hk s9.1) rfl

theorem laws_toStringS.ok (a1 : (List ByteArray)) : Ok Tryz.prog 92 [sl 1 eStr a1] [] ((laws_toStringS a1).map fun r => (so 1 eStr r, [])) := by
  refine Ok_of3 c92 Tryz.f92 0 22 (fun q => ?_)
  unfold laws_toStringS
  refine J_g 2 [] [(0, sl 1 eStr a1)] [] orcN ?_
  refine J_bind (fun x2 h3 => ?_)
  refine J_g 6 [] [(0, sl 1 eStr a1), (3, rr 0 x2)] [(0, rE 1 eStr x2)] (orcC 2 (x_mk 73 9 1 16 0 eStr ByteArray.empty (.tmp 6) h3 (.keep rfl (.nil))) orcN) ?_
  refine J_g 28 [] [(0, sl 1 eStr a1), (3, rr 0 x2), (4, iv 0)] [(0, rE 1 eStr x2)] orcN ?_
  refine J_lq (laws_toStringS_l1.ok a1 q _ (fun v15 => J_j ?_) (x2, 0))
  refine J_g 30 [] [(2, rr 0 v15)] [(0, rE 1 eStr v15)] orcN ?_
  exact J_rm (ds := [rr 0 v15]) (ds' := [so 1 eStr v15]) (.cons (.cell (.move (.head _) (List.length_map _) (by decide) (.nil))) (.nil) (by decide)) rfl

noncomputable def c50 : Code := (Tryz.f50.body).getD .skip

theorem laws_toTerm.ok (a1 : Term) : Ok Tryz.prog 50 [.ag (Term.enc a1)] [] ((laws_toTerm a1).map fun r => (.ag (Term.enc r), [])) := by
  refine Ok_of3 c50 Tryz.f50 0 16 (fun q => ?_)
  unfold laws_toTerm
  refine J_g 2 [(0, 0), (1, 1)] [(1, pp 0), (2, pp 1)] [(0, .box (Term.enc a1)), (1, .box [sv ByteArray.empty, iv 0, iv 0, iv 0, iv 0, iv 0, iv 0])] orcN ?_
  refine J_g 6 [(0, 2)] [(1, pp 0), (2, pp 1), (3, pp 2)] [(0, .box (Term.enc a1)), (1, .box [sv ByteArray.empty, iv 0, iv 0, iv 0, iv 0, iv 0, iv 0]), (2, .box [sv ByteArray.empty, iv 0, iv 0, iv 0, iv 0, iv 0, iv 0])] orcN ?_
  refine J_g 14 [] [(1, pp 0), (2, pp 1), (3, pp 2)] [(0, .box (Term.enc a1)), (1, .box [sv ByteArray.empty, iv 0, iv 0, iv 0, iv 0, iv 0, iv 0]), (2, .box [sv a1.Name, iv 0, iv 0, iv 0, iv 0, iv 0, iv 0])] orcN ?_
  refine J_bind (fun x2 h3 => ?_)
  refine J_g 30 [] [(1, pp 0), (2, pp 1), (3, pp 2)] [(0, .box (Term.enc a1)), (1, .box [sv ByteArray.empty, iv 0, iv 0, iv 0, iv 0, iv 0, iv 0]), (2, .box [sv a1.Name, iv x2.A, iv x2.B, iv x2.C, iv 0, iv 0, iv 0])] (orcC 2 (x_c0 [(.tmp 8)] [72] (laws_toVersion.ok a1.Low) h3) orcN) ?_
  refine J_bind (fun x4 h5 => ?_)
  refine J_g 62 [] [(2, pp 1), (3, pp 2)] [(1, .box [sv ByteArray.empty, iv 0, iv 0, iv 0, iv 0, iv 0, iv 0]), (2, .box [sv a1.Name, iv x2.A, iv x2.B, iv x2.C, iv x4.A, iv x4.B, iv x4.C])] (orcC 2 (x_c0 [(.tmp 12)] [72] (laws_toVersion.ok a1.High) h5) orcN) ?_
  refine J_g 126 [] [(2, pp 1)] [(1, .box [sv a1.Name, iv x2.A, iv x2.B, iv x2.C, iv x4.A, iv x4.B, iv x4.C])] orcN ?_
  exact J_r1 rfl

noncomputable def c13 : Code := (Tryz.f13.body).getD .skip

theorem laws_toTermS_l1.ok (a1 : (List Term)) (q : Wd) (kn : (List Term) → Option (D × List Ent)) (hk : ∀ v : (List Term), J (q.g Tryz.prog 13 0 23) c13 (atI c13 15) (St.mk' [(3, rr 0 v)] [(0, rE 7 Term.enc v)]) (some v) kn) :
    ∀ s11 : ((List Term) × Int), J (q.g Tryz.prog 13 0 23) c13 (atI c13 116) (St.mk' [(0, sl 7 Term.enc a1), (3, rr 0 s11.1), (4, iv s11.2)] [(0, rE 7 Term.enc s11.1)]) (laws_toTermS_l1 a1 s11) kn := by
  refine J_lp (fun g ih s11 => ?_)
  unfold laws_toTermS_l1b
  refine J_g 464 [] [(0, sl 7 Term.enc a1), (3, rr 0 s11.1), (4, iv s11.2), (11, bv (decide (s11.2 < (a1.length : Int))))] [(0, rE 7 Term.enc s11.1)] orcN ?_
  refine J_if2 11 (fun h12 => ?_) (fun h12 => ?_)
  · refine J_bind (fun x13 h14 => ?_)
    refine J_bind (fun x15 h16 => ?_)
    refine J_bind (fun x17 h18 => ?_)
    refine J_g 932 [] [(0, sl 7 Term.enc a1), (3, rr 0 s11.1), (4, iv s11.2)] [(0, rE 7 Term.enc (s11.1.set s11.2.toNat x15))] (orcC 4 (x_ix (kk := .i64) 23 79 7 Term.enc (.tmp 16) (.tmp 17) h14) (orcC 6 (x_c0 [(.tmp 19)] [79] (laws_toTerm.ok x13) h16) (orcC 7 (x_ixr (kk := .i64) 31 89 7 0 Term.enc (.tmp 14) (.tmp 15) h18) (orcD 8 (x_st (b := x15) 89 7 0 0 Term.enc (.ag (Term.enc x15)) (.tmp 21) (.tmp 20) h18 rfl) orcN)))) ?_
    refine J_st (σ' := St.mk' [(0, sl 7 Term.enc a1), (3, rr 0 (s11.1.set s11.2.toNat x15)), (4, iv s11.2)] [(0, rE 7 Term.enc (s11.1.set s11.2.toNat x15))]) (by simp only [rr, List.length_set]) ?_
    refine J_g 467 [] [(0, sl 7 Term.enc a1), (3, rr 0 (s11.1.set s11.2.toNat x15)), (4, iv (w64 (s11.2 + 1)))] [(0, rE 7 Term.enc (s11.1.set s11.2.toNat x15))] orcN ?_
    exact J_q (J_b (ih (s11.1.set s11.2.toNat x15, w64 (s11.2 + 1)))) rfl
  · exact J_qw (hk s11.1) rfl

theorem laws_toTermS.ok (a1 : (List Term)) : Ok Tryz.prog 13 [sl 7 Term.enc a1] [] ((laws_toTermS a1).map fun r => (so 7 Term.enc r, [])) := by
  refine Ok_of3 c13 Tryz.f13 0 23 (fun q => ?_)
  unfold laws_toTermS
  refine J_g 2 [] [(0, sl 7 Term.enc a1)] [] orcN ?_
  refine J_bind (fun x2 h3 => ?_)
  refine J_g 6 [] [(0, sl 7 Term.enc a1), (3, rr 0 x2)] [(0, rE 7 Term.enc x2)] (orcC 2 (x_mk 31 89 7 64 0 Term.enc ({ Name := ByteArray.empty, Low := ({ A := 0, B := 0, C := 0 } : Version), High := ({ A := 0, B := 0, C := 0 } : Version) } : Term) (.tmp 6) h3 (.keep rfl (.keep rfl (.keep rfl (.keep rfl (.keep rfl (.keep rfl (.keep rfl (.nil))))))))) orcN) ?_
  refine J_g 28 [] [(0, sl 7 Term.enc a1), (3, rr 0 x2), (4, iv 0)] [(0, rE 7 Term.enc x2)] orcN ?_
  refine J_lq (laws_toTermS_l1.ok a1 q _ (fun v19 => J_j ?_) (x2, 0))
  refine J_g 30 [] [(2, rr 0 v19)] [(0, rE 7 Term.enc v19)] orcN ?_
  exact J_rm (ds := [rr 0 v19]) (ds' := [so 7 Term.enc v19]) (.cons (.cell (.move (.head _) (List.length_map _) (by decide) (.nil))) (.nil) (by decide)) rfl

noncomputable def c93 : Code := (Tryz.f93.body).getD .skip

theorem laws_toTermSS_l1.ok (a1 : (List (List Term))) (q : Wd) (kn : (List (List Term)) → Option (D × List Ent)) (hk : ∀ v : (List (List Term)), J (q.g Tryz.prog 93 0 23) c93 (atI c93 15) (St.mk' [(3, rr 0 v)] [(0, rE 1 (eSl true 7 Term.enc) v)]) (some v) kn) :
    ∀ s11 : ((List (List Term)) × Int), J (q.g Tryz.prog 93 0 23) c93 (atI c93 116) (St.mk' [(0, sl 1 (eSl false 7 Term.enc) a1), (3, rr 0 s11.1), (4, iv s11.2)] [(0, rE 1 (eSl true 7 Term.enc) s11.1)]) (laws_toTermSS_l1 a1 s11) kn := by
  refine J_lp (fun g ih s11 => ?_)
  unfold laws_toTermSS_l1b
  refine J_g 464 [] [(0, sl 1 (eSl false 7 Term.enc) a1), (3, rr 0 s11.1), (4, iv s11.2), (11, bv (decide (s11.2 < (a1.length : Int))))] [(0, rE 1 (eSl true 7 Term.enc) s11.1)] orcN ?_
  refine J_if2 11 (fun h12 => ?_) (fun h12 => ?_)
  · refine J_bind (fun x13 h14 => ?_)
    refine J_bind (fun x15 h16 => ?_)
    refine J_bind (fun x17 h18 => ?_)
    refine J_g 932 [] [(0, sl 1 (eSl false 7 Term.enc) a1), (3, rr 0 s11.1), (4, iv s11.2)] [(0, rE 1 (eSl true 7 Term.enc) (s11.1.set s11.2.toNat x15))] (orcC 4 (x_ix (kk := .i64) 74 23 1 (eSl false 7 Term.enc) (.tmp 16) (.tmp 17) h14) (orcC 6 (x_c1 («as» := [sl 7 Term.enc x13]) [(.tmp 19)] [23] false [] [] (.cons (.same rfl) (.nil)) (laws_toTermS.ok x13) h16 (.own 1)) (orcC 7 (x_ixr (kk := .i64) 84 31 1 0 (eSl true 7 Term.enc) (.tmp 14) (.tmp 15) h18) (orcD 8 (x_stm (b := x15) (es' := [so 7 Term.enc x15]) (ts := [1]) 31 1 0 0 (eSl true 7 Term.enc) (rr 1 x15) (.tmp 21) (.tmp 20) [(1, rE 7 Term.enc x15)] h18 (.move (.head _) (List.length_map _) (by decide) (.nil)) rfl) orcN)))) ?_
    refine J_st (σ' := St.mk' [(0, sl 1 (eSl false 7 Term.enc) a1), (3, rr 0 (s11.1.set s11.2.toNat x15)), (4, iv s11.2)] [(0, rE 1 (eSl true 7 Term.enc) (s11.1.set s11.2.toNat x15))]) (by simp only [rr, List.length_set]) ?_
    refine J_g 467 [] [(0, sl 1 (eSl false 7 Term.enc) a1), (3, rr 0 (s11.1.set s11.2.toNat x15)), (4, iv (w64 (s11.2 + 1)))] [(0, rE 1 (eSl true 7 Term.enc) (s11.1.set s11.2.toNat x15))] orcN ?_
    exact J_q (J_b (ih (s11.1.set s11.2.toNat x15, w64 (s11.2 + 1)))) rfl
  · exact J_qw (hk s11.1) rfl

theorem laws_toTermSS.ok (a1 : (List (List Term))) : Ok Tryz.prog 93 [sl 1 (eSl false 7 Term.enc) a1] [] ((laws_toTermSS a1).map fun r => (so 1 (eSl true 7 Term.enc) r, [])) := by
  refine Ok_of3 c93 Tryz.f93 0 23 (fun q => ?_)
  unfold laws_toTermSS
  refine J_g 2 [] [(0, sl 1 (eSl false 7 Term.enc) a1)] [] orcN ?_
  refine J_bind (fun x2 h3 => ?_)
  refine J_g 6 [] [(0, sl 1 (eSl false 7 Term.enc) a1), (3, rr 0 x2)] [(0, rE 1 (eSl true 7 Term.enc) x2)] (orcC 2 (x_mk 84 31 1 24 0 (eSl true 7 Term.enc) ([] : List Term) (.tmp 6) h3 (.nilsl true 7 (.nil))) orcN) ?_
  refine J_g 28 [] [(0, sl 1 (eSl false 7 Term.enc) a1), (3, rr 0 x2), (4, iv 0)] [(0, rE 1 (eSl true 7 Term.enc) x2)] orcN ?_
  refine J_lq (laws_toTermSS_l1.ok a1 q _ (fun v19 => J_j ?_) (x2, 0))
  refine J_g 30 [] [(2, rr 0 v19)] [(0, rE 1 (eSl true 7 Term.enc) v19)] orcN ?_
  exact J_rm (ds := [rr 0 v19]) (ds' := [so 1 (eSl true 7 Term.enc) v19]) (.cons (.cell (.move (.head _) (List.length_map _) (by decide) (.nil))) (.nil) (by decide)) rfl

noncomputable def c49 : Code := (Tryz.f49.body).getD .skip

theorem laws_toPack.ok (a1 : Pack) : Ok Tryz.prog 49 [.ag (Pack.enc false a1)] [] ((laws_toPack a1).map fun r => (.ag [sv r.Name, iv r.Version.A, iv r.Version.B, iv r.Version.C, iv r.Size, so 1 eStr r.Provides, so 1 (eSl true 7 Term.enc) r.Needs, so 7 Term.enc r.Bars], [])) := by
  refine Ok_of3 c49 Tryz.f49 0 27 (fun q => ?_)
  unfold laws_toPack
  refine J_g 2 [(0, 0), (1, 1)] [(1, pp 0), (2, pp 1)] [(0, .box (Pack.enc false a1)), (1, .box [sv ByteArray.empty, iv 0, iv 0, iv 0, iv 0, nv, nv, nv])] orcN ?_
  refine J_g 6 [(0, 2)] [(1, pp 0), (2, pp 1), (3, pp 2)] [(0, .box (Pack.enc false a1)), (1, .box [sv ByteArray.empty, iv 0, iv 0, iv 0, iv 0, nv, nv, nv]), (2, .box [sv ByteArray.empty, iv 0, iv 0, iv 0, iv 0, nv, nv, nv])] orcN ?_
  refine J_g 14 [] [(1, pp 0), (2, pp 1), (3, pp 2)] [(0, .box (Pack.enc false a1)), (1, .box [sv ByteArray.empty, iv 0, iv 0, iv 0, iv 0, nv, nv, nv]), (2, .box [sv a1.Name, iv 0, iv 0, iv 0, iv 0, nv, nv, nv])] orcN ?_
  refine J_bind (fun x2 h3 => ?_)
  refine J_g 30 [] [(1, pp 0), (2, pp 1), (3, pp 2)] [(0, .box (Pack.enc false a1)), (1, .box [sv ByteArray.empty, iv 0, iv 0, iv 0, iv 0, nv, nv, nv]), (2, .box [sv a1.Name, iv x2.A, iv x2.B, iv x2.C, iv 0, nv, nv, nv])] (orcC 2 (x_c0 [(.tmp 8)] [72] (laws_toVersion.ok a1.Version) h3) orcN) ?_
  refine J_g 62 [] [(1, pp 0), (2, pp 1), (3, pp 2)] [(0, .box (Pack.enc false a1)), (1, .box [sv ByteArray.empty, iv 0, iv 0, iv 0, iv 0, nv, nv, nv]), (2, .box [sv a1.Name, iv x2.A, iv x2.B, iv x2.C, iv a1.Size, nv, nv, nv])] orcN ?_
  refine J_bind (fun x4 h5 => ?_)
  refine J_g 126 [] [(1, pp 0), (2, pp 1), (3, pp 2)] [(0, .box (Pack.enc false a1)), (1, .box [sv ByteArray.empty, iv 0, iv 0, iv 0, iv 0, nv, nv, nv]), (2, .box [sv a1.Name, iv x2.A, iv x2.B, iv x2.C, iv a1.Size, rr 3 x4, nv, nv]), (3, rE 1 eStr x4)] (orcC 2 (x_c1 («as» := [sl 1 eStr a1.Provides]) [(.tmp 15)] [73] false [] [] (.cons (.same rfl) (.nil)) (laws_toStringS.ok a1.Provides) h5 (.own 3)) orcN) ?_
  refine J_bind (fun x6 h7 => ?_)
  refine J_g 254 [] [(1, pp 0), (2, pp 1), (3, pp 2)] [(0, .box (Pack.enc false a1)), (1, .box [sv ByteArray.empty, iv 0, iv 0, iv 0, iv 0, nv, nv, nv]), (2, .box [sv a1.Name, iv x2.A, iv x2.B, iv x2.C, iv a1.Size, rr 3 x4, rr 4 x6, nv]), (3, rE 1 eStr x4), (4, rE 1 (eSl true 7 Term.enc) x6)] (orcC 2 (x_c1 («as» := [sl 1 (eSl false 7 Term.enc) a1.Needs]) [(.tmp 19)] [74] false [] [] (.cons (.same rfl) (.nil)) (laws_toTermSS.ok a1.Needs) h7 (.own 4)) orcN) ?_
  refine J_bind (fun x8 h9 => ?_)
  refine J_g 510 [] [(2, pp 1), (3, pp 2)] [(1, .box [sv ByteArray.empty, iv 0, iv 0, iv 0, iv 0, nv, nv, nv]), (2, .box [sv a1.Name, iv x2.A, iv x2.B, iv x2.C, iv a1.Size, rr 3 x4, rr 4 x6, rr 5 x8]), (3, rE 1 eStr x4), (4, rE 1 (eSl true 7 Term.enc) x6), (5, rE 7 Term.enc x8)] (orcC 2 (x_c1 («as» := [sl 7 Term.enc a1.Bars]) [(.tmp 23)] [23] false [] [] (.cons (.same rfl) (.nil)) (laws_toTermS.ok a1.Bars) h9 (.own 5)) orcN) ?_
  refine J_g 1022 [] [(2, pp 1)] [(1, .box [sv a1.Name, iv x2.A, iv x2.B, iv x2.C, iv a1.Size, rr 3 x4, rr 4 x6, rr 5 x8]), (3, rE 1 eStr x4), (4, rE 1 (eSl true 7 Term.enc) x6), (5, rE 7 Term.enc x8)] orcN ?_
  exact J_rm (ds := [.ag [sv a1.Name, iv x2.A, iv x2.B, iv x2.C, iv a1.Size, rr 3 x4, rr 4 x6, rr 5 x8]]) (ds' := [.ag [sv a1.Name, iv x2.A, iv x2.B, iv x2.C, iv a1.Size, so 1 eStr x4, so 1 (eSl true 7 Term.enc) x6, so 7 Term.enc x8]]) (.cons (.ag (.keep rfl (.keep rfl (.keep rfl (.keep rfl (.keep rfl (.move (.tail _ (.head _)) (List.length_map _) (by decide) (.move (.tail _ (.tail _ (.head _))) (List.length_map _) (by decide) (.move (.tail _ (.tail _ (.tail _ (.head _)))) (List.length_map _) (by decide) (.nil)))))))))) (.nil) (by decide)) rfl

noncomputable def c12 : Code := (Tryz.f12.body).getD .skip

theorem laws_toPackS_l1.ok (a1 : (List Pack)) (q : Wd) (kn : (List Pack) → Option (D × List Ent)) (hk : ∀ v : (List Pack), J (q.g Tryz.prog 12 0 23) c12 (atI c12 15) (St.mk' [(3, rr 0 v)] [(0, rE 8 (Pack.enc true) v)]) (some v) kn) :
    ∀ s11 : ((List Pack) × Int), J (q.g Tryz.prog 12 0 23) c12 (atI c12 116) (St.mk' [(0, sl 8 (Pack.enc false) a1), (3, rr 0 s11.1), (4, iv s11.2)] [(0, rE 8 (Pack.enc true) s11.1)]) (laws_toPackS_l1 a1 s11) kn := by
  refine J_lp (fun g ih s11 => ?_)
  unfold laws_toPackS_l1b
  refine J_g 464 [] [(0, sl 8 (Pack.enc false) a1), (3, rr 0 s11.1), (4, iv s11.2), (11, bv (decide (s11.2 < (a1.length : Int))))] [(0, rE 8 (Pack.enc true) s11.1)] orcN ?_
  refine J_if2 11 (fun h12 => ?_) (fun h12 => ?_)
  · refine J_bind (fun x13 h14 => ?_)
    refine J_bind (fun x15 h16 => ?_)
    refine J_bind (fun x17 h18 => ?_)
    refine J_g 932 [] [(0, sl 8 (Pack.enc false) a1), (3, rr 0 s11.1), (4, iv s11.2)] [(0, rE 8 (Pack.enc true) (s11.1.set s11.2.toNat x15))] (orcC 4 (x_ix (kk := .i64) 22 76 8 (Pack.enc false) (.tmp 16) (.tmp 17) h14) (orcC 6 (x_c1 («as» := [.ag (Pack.enc false x13)]) [(.tmp 19)] [76] false [] [] (.cons (.same rfl) (.nil)) (laws_toPack.ok x13) h16 (.ag (.cons (.same rfl rfl) (.cons (.same rfl rfl) (.cons (.same rfl rfl) (.cons (.same rfl rfl) (.cons (.same rfl rfl) (.cons (.own 1) (.cons (.own 2) (.cons (.own 3) (.nil))))))))))) (orcC 7 (x_ixr (kk := .i64) 29 86 8 0 (Pack.enc true) (.tmp 14) (.tmp 15) h18) (orcD 8 (x_stm (b := x15) (es' := [sv x15.Name, iv x15.Version.A, iv x15.Version.B, iv x15.Version.C, iv x15.Size, so 1 eStr x15.Provides, so 1 (eSl true 7 Term.enc) x15.Needs, so 7 Term.enc x15.Bars]) (ts := [1, 2, 3]) 86 8 0 0 (Pack.enc true) (.ag [sv x15.Name, iv x15.Version.A, iv x15.Version.B, iv x15.Version.C, iv x15.Size, rr 1 x15.Provides, rr 2 x15.Needs, rr 3 x15.Bars]) (.tmp 21) (.tmp 20) [(1, rE 1 eStr x15.Provides), (2, rE 1 (eSl true 7 Term.enc) x15.Needs), (3, rE 7 Term.enc x15.Bars)] h18 (.keep rfl (.keep rfl (.keep rfl (.keep rfl (.keep rfl (.move (.head _) (List.length_map _) (by decide) (.move (.tail _ (.head _)) (List.length_map _) (by decide) (.move (.tail _ (.tail _ (.head _))) (List.length_map _) (by decide) (.nil))))))))) rfl) orcN)))) ?_
    refine J_st (σ' := St.mk' [(0, sl 8 (Pack.enc false) a1), (3, rr 0 (s11.1.set s11.2.toNat x15)), (4, iv s11.2)] [(0, rE 8 (Pack.enc true) (s11.1.set s11.2.toNat x15))]) (by simp only [rr, List.length_set]) ?_
    refine J_g 467 [] [(0, sl 8 (Pack.enc false) a1), (3, rr 0 (s11.1.set s11.2.toNat x15)), (4, iv (w64 (s11.2 + 1)))] [(0, rE 8 (Pack.enc true) (s11.1.set s11.2.toNat x15))] orcN ?_
    exact J_q (J_b (ih (s11.1.set s11.2.toNat x15, w64 (s11.2 + 1)))) rfl
  · exact J_qw (hk s11.1) rfl

theorem laws_toPackS.ok (a1 : (List Pack)) : Ok Tryz.prog 12 [sl 8 (Pack.enc false) a1] [] ((laws_toPackS a1).map fun r => (so 8 (Pack.enc true) r, [])) := by
  refine Ok_of3 c12 Tryz.f12 0 23 (fun q => ?_)
  unfold laws_toPackS
  refine J_g 2 [] [(0, sl 8 (Pack.enc false) a1)] [] orcN ?_
  refine J_bind (fun x2 h3 => ?_)
  refine J_g 6 [] [(0, sl 8 (Pack.enc false) a1), (3, rr 0 x2)] [(0, rE 8 (Pack.enc true) x2)] (orcC 2 (x_mk 29 86 8 120 0 (Pack.enc true) ({ Name := ByteArray.empty, Version := ({ A := 0, B := 0, C := 0 } : Version), Size := 0, Provides := ([] : List ByteArray), Needs := ([] : List (List Term)), Bars := ([] : List Term) } : Pack) (.tmp 6) h3 (.keep rfl (.keep rfl (.keep rfl (.keep rfl (.keep rfl (.nilsl true 1 (.nilsl true 1 (.nilsl true 7 (.nil)))))))))) orcN) ?_
  refine J_g 28 [] [(0, sl 8 (Pack.enc false) a1), (3, rr 0 x2), (4, iv 0)] [(0, rE 8 (Pack.enc true) x2)] orcN ?_
  refine J_lq (laws_toPackS_l1.ok a1 q _ (fun v19 => J_j ?_) (x2, 0))
  refine J_g 30 [] [(2, rr 0 v19)] [(0, rE 8 (Pack.enc true) v19)] orcN ?_
  exact J_rm (ds := [rr 0 v19]) (ds' := [so 8 (Pack.enc true) v19]) (.cons (.cell (.move (.head _) (List.length_map _) (by decide) (.nil))) (.nil) (by decide)) rfl

noncomputable def c153 : Code := (Tryz.f153.body).getD .skip

theorem laws_toByteS_l1.ok (a1 : (List Int)) (q : Wd) (kn : (List Int) → Option (D × List Ent)) (hk : ∀ v : (List Int), J (q.g Tryz.prog 153 0 22) c153 (atI c153 15) (St.mk' [(3, rr 0 v)] [(0, rE 1 eU8 v)]) (some v) kn) :
    ∀ s9 : ((List Int) × Int), J (q.g Tryz.prog 153 0 22) c153 (atI c153 116) (St.mk' [(0, sl 1 eU8 a1), (3, rr 0 s9.1), (4, iv s9.2)] [(0, rE 1 eU8 s9.1)]) (laws_toByteS_l1 a1 s9) kn := by
  refine J_lp (fun g ih s9 => ?_)
  unfold laws_toByteS_l1b
  refine J_g 464 [] [(0, sl 1 eU8 a1), (3, rr 0 s9.1), (4, iv s9.2), (11, bv (decide (s9.2 < (a1.length : Int))))] [(0, rE 1 eU8 s9.1)] orcN ?_
  refine J_if2 11 (fun h10 => ?_) (fun h10 => ?_)
  · refine J_bind (fun x11 h12 => ?_)
    refine J_bind (fun x13 h14 => ?_)
    refine J_g 932 [] [(0, sl 1 eU8 a1), (3, rr 0 s9.1), (4, iv s9.2)] [(0, rE 1 eU8 (s9.1.set s9.2.toNat x11))] (orcC 4 (x_ix (kk := .i64) 119 5 1 eU8 (.tmp 16) (.tmp 17) h12) (orcC 6 (x_ixr (kk := .i64) 119 5 1 0 eU8 (.tmp 14) (.tmp 15) h14) (orcD 7 (x_st (b := x11) 5 1 0 0 eU8 (uv x11) (.tmp 20) (.tmp 19) h14 rfl) orcN))) ?_
    refine J_st (σ' := St.mk' [(0, sl 1 eU8 a1), (3, rr 0 (s9.1.set s9.2.toNat x11)), (4, iv s9.2)] [(0, rE 1 eU8 (s9.1.set s9.2.toNat x11))]) (by simp only [rr, List.length_set]) ?_
    refine J_g 467 [] [(0, sl 1 eU8 a1), (3, rr 0 (s9.1.set s9.2.toNat x11)), (4, iv (w64 (s9.2 + 1)))] [(0, rE 1 eU8 (s9.1.set s9.2.toNat x11))] orcN ?_
    exact J_q (J_b (ih (s9.1.set s9.2.toNat x11, w64 (s9.2 + 1)))) rfl
  · exact J_qw (hk s9.1) rfl

theorem laws_toByteS.ok (a1 : (List Int)) : Ok Tryz.prog 153 [sl 1 eU8 a1] [] ((laws_toByteS a1).map fun r => (so 1 eU8 r, [])) := by
  refine Ok_of3 c153 Tryz.f153 0 22 (fun q => ?_)
  unfold laws_toByteS
  refine J_g 2 [] [(0, sl 1 eU8 a1)] [] orcN ?_
  refine J_bind (fun x2 h3 => ?_)
  refine J_g 6 [] [(0, sl 1 eU8 a1), (3, rr 0 x2)] [(0, rE 1 eU8 x2)] (orcC 2 (x_mk 119 5 1 1 0 eU8 0 (.tmp 6) h3 (.keep rfl (.nil))) orcN) ?_
  refine J_g 28 [] [(0, sl 1 eU8 a1), (3, rr 0 x2), (4, iv 0)] [(0, rE 1 eU8 x2)] orcN ?_
  refine J_lq (laws_toByteS_l1.ok a1 q _ (fun v15 => J_j ?_) (x2, 0))
  refine J_g 30 [] [(2, rr 0 v15)] [(0, rE 1 eU8 v15)] orcN ?_
  exact J_rm (ds := [rr 0 v15]) (ds' := [so 1 eU8 v15]) (.cons (.cell (.move (.head _) (List.length_map _) (by decide) (.nil))) (.nil) (by decide)) rfl

noncomputable def c105 : Code := (Tryz.f105.body).getD .skip

theorem laws_toFile.ok (a1 : File) : Ok Tryz.prog 105 [.ag (File.enc false a1)] [] ((laws_toFile a1).map fun r => (.ag [sv r.Path, so 1 eU8 r.Data], [])) := by
  refine Ok_of3 c105 Tryz.f105 0 12 (fun q => ?_)
  unfold laws_toFile
  refine J_g 2 [(0, 0), (1, 1)] [(1, pp 0), (2, pp 1)] [(0, .box (File.enc false a1)), (1, .box [sv ByteArray.empty, nv])] orcN ?_
  refine J_g 6 [(0, 2)] [(1, pp 0), (2, pp 1), (3, pp 2)] [(0, .box (File.enc false a1)), (1, .box [sv ByteArray.empty, nv]), (2, .box [sv ByteArray.empty, nv])] orcN ?_
  refine J_g 14 [] [(1, pp 0), (2, pp 1), (3, pp 2)] [(0, .box (File.enc false a1)), (1, .box [sv ByteArray.empty, nv]), (2, .box [sv a1.Path, nv])] orcN ?_
  refine J_bind (fun x2 h3 => ?_)
  refine J_g 30 [] [(2, pp 1), (3, pp 2)] [(1, .box [sv ByteArray.empty, nv]), (2, .box [sv a1.Path, rr 3 x2]), (3, rE 1 eU8 x2)] (orcC 2 (x_c1 («as» := [sl 1 eU8 a1.Data]) [(.tmp 8)] [119] false [] [] (.cons (.same rfl) (.nil)) (laws_toByteS.ok a1.Data) h3 (.own 3)) orcN) ?_
  refine J_g 62 [] [(2, pp 1)] [(1, .box [sv a1.Path, rr 3 x2]), (3, rE 1 eU8 x2)] orcN ?_
  exact J_rm (ds := [.ag [sv a1.Path, rr 3 x2]]) (ds' := [.ag [sv a1.Path, so 1 eU8 x2]]) (.cons (.ag (.keep rfl (.move (.tail _ (.head _)) (List.length_map _) (by decide) (.nil)))) (.nil) (by decide)) rfl

noncomputable def c60 : Code := (Tryz.f60.body).getD .skip

theorem laws_toFileS_l1.ok (a1 : (List File)) (q : Wd) (kn : (List File) → Option (D × List Ent)) (hk : ∀ v : (List File), J (q.g Tryz.prog 60 0 23) c60 (atI c60 15) (St.mk' [(3, rr 0 v)] [(0, rE 2 (File.enc true) v)]) (some v) kn) :
    ∀ s11 : ((List File) × Int), J (q.g Tryz.prog 60 0 23) c60 (atI c60 116) (St.mk' [(0, sl 2 (File.enc false) a1), (3, rr 0 s11.1), (4, iv s11.2)] [(0, rE 2 (File.enc true) s11.1)]) (laws_toFileS_l1 a1 s11) kn := by
  refine J_lp (fun g ih s11 => ?_)
  unfold laws_toFileS_l1b
  refine J_g 464 [] [(0, sl 2 (File.enc false) a1), (3, rr 0 s11.1), (4, iv s11.2), (11, bv (decide (s11.2 < (a1.length : Int))))] [(0, rE 2 (File.enc true) s11.1)] orcN ?_
  refine J_if2 11 (fun h12 => ?_) (fun h12 => ?_)
  · refine J_bind (fun x13 h14 => ?_)
    refine J_bind (fun x15 h16 => ?_)
    refine J_bind (fun x17 h18 => ?_)
    refine J_g 932 [] [(0, sl 2 (File.enc false) a1), (3, rr 0 s11.1), (4, iv s11.2)] [(0, rE 2 (File.enc true) (s11.1.set s11.2.toNat x15))] (orcC 4 (x_ix (kk := .i64) 38 139 2 (File.enc false) (.tmp 16) (.tmp 17) h14) (orcC 6 (x_c1 («as» := [.ag (File.enc false x13)]) [(.tmp 19)] [139] false [] [] (.cons (.same rfl) (.nil)) (laws_toFile.ok x13) h16 (.ag (.cons (.same rfl rfl) (.cons (.own 1) (.nil))))) (orcC 7 (x_ixr (kk := .i64) 44 121 2 0 (File.enc true) (.tmp 14) (.tmp 15) h18) (orcD 8 (x_stm (b := x15) (es' := [sv x15.Path, so 1 eU8 x15.Data]) (ts := [1]) 121 2 0 0 (File.enc true) (.ag [sv x15.Path, rr 1 x15.Data]) (.tmp 21) (.tmp 20) [(1, rE 1 eU8 x15.Data)] h18 (.keep rfl (.move (.head _) (List.length_map _) (by decide) (.nil))) rfl) orcN)))) ?_
    refine J_st (σ' := St.mk' [(0, sl 2 (File.enc false) a1), (3, rr 0 (s11.1.set s11.2.toNat x15)), (4, iv s11.2)] [(0, rE 2 (File.enc true) (s11.1.set s11.2.toNat x15))]) (by simp only [rr, List.length_set]) ?_
    refine J_g 467 [] [(0, sl 2 (File.enc false) a1), (3, rr 0 (s11.1.set s11.2.toNat x15)), (4, iv (w64 (s11.2 + 1)))] [(0, rE 2 (File.enc true) (s11.1.set s11.2.toNat x15))] orcN ?_
    exact J_q (J_b (ih (s11.1.set s11.2.toNat x15, w64 (s11.2 + 1)))) rfl
  · exact J_qw (hk s11.1) rfl

theorem laws_toFileS.ok (a1 : (List File)) : Ok Tryz.prog 60 [sl 2 (File.enc false) a1] [] ((laws_toFileS a1).map fun r => (so 2 (File.enc true) r, [])) := by
  refine Ok_of3 c60 Tryz.f60 0 23 (fun q => ?_)
  unfold laws_toFileS
  refine J_g 2 [] [(0, sl 2 (File.enc false) a1)] [] orcN ?_
  refine J_bind (fun x2 h3 => ?_)
  refine J_g 6 [] [(0, sl 2 (File.enc false) a1), (3, rr 0 x2)] [(0, rE 2 (File.enc true) x2)] (orcC 2 (x_mk 44 121 2 40 0 (File.enc true) ({ Path := ByteArray.empty, Data := ([] : List Int) } : File) (.tmp 6) h3 (.keep rfl (.nilsl true 1 (.nil)))) orcN) ?_
  refine J_g 28 [] [(0, sl 2 (File.enc false) a1), (3, rr 0 x2), (4, iv 0)] [(0, rE 2 (File.enc true) x2)] orcN ?_
  refine J_lq (laws_toFileS_l1.ok a1 q _ (fun v19 => J_j ?_) (x2, 0))
  refine J_g 30 [] [(2, rr 0 v19)] [(0, rE 2 (File.enc true) v19)] orcN ?_
  exact J_rm (ds := [rr 0 v19]) (ds' := [so 2 (File.enc true) v19]) (.cons (.cell (.move (.head _) (List.length_map _) (by decide) (.nil))) (.nil) (by decide)) rfl

noncomputable def c21 : Code := (Tryz.f21.body).getD .skip

theorem laws_toDisk.ok (a1 : Disk) : Ok Tryz.prog 21 [.ag (Disk.enc false a1)] [] ((laws_toDisk a1).map fun r => (.ag (Disk.enc true r), [])) := by
  refine Ok_of3 c21 Tryz.f21 0 21 (fun q => ?_)
  unfold laws_toDisk
  refine J_g 2 [(0, 0), (1, 1)] [(1, pp 0), (2, pp 1)] [(0, .box (Disk.enc false a1)), (1, .box [nv, iv 0, iv 0, iv 0, bv false])] orcN ?_
  refine J_g 6 [(0, 2)] [(1, pp 0), (2, pp 1), (3, pp 2)] [(0, .box (Disk.enc false a1)), (1, .box [nv, iv 0, iv 0, iv 0, bv false]), (2, .box [nv, iv 0, iv 0, iv 0, bv false])] orcN ?_
  refine J_bind (fun x2 h3 => ?_)
  refine J_g 14 [] [(1, pp 0), (2, pp 1), (3, pp 2)] [(0, .box (Disk.enc false a1)), (1, .box [nv, iv 0, iv 0, iv 0, bv false]), (2, .box [rr 3 x2, iv 0, iv 0, iv 0, bv false]), (3, rE 2 (File.enc true) x2)] (orcC 2 (x_c1 («as» := [sl 2 (File.enc false) a1.Files]) [(.tmp 5)] [38] false [] [] (.cons (.same rfl) (.nil)) (laws_toFileS.ok a1.Files) h3 (.own 3)) orcN) ?_
  refine J_g 30 [] [(1, pp 0), (2, pp 1), (3, pp 2)] [(0, .box (Disk.enc false a1)), (1, .box [nv, iv 0, iv 0, iv 0, bv false]), (2, .box [rr 3 x2, iv a1.Budget, iv 0, iv 0, bv false]), (3, rE 2 (File.enc true) x2)] orcN ?_
  refine J_g 62 [] [(1, pp 0), (2, pp 1), (3, pp 2)] [(0, .box (Disk.enc false a1)), (1, .box [nv, iv 0, iv 0, iv 0, bv false]), (2, .box [rr 3 x2, iv a1.Budget, iv a1.Writes, iv 0, bv false]), (3, rE 2 (File.enc true) x2)] orcN ?_
  refine J_g 126 [] [(1, pp 0), (2, pp 1), (3, pp 2)] [(0, .box (Disk.enc false a1)), (1, .box [nv, iv 0, iv 0, iv 0, bv false]), (2, .box [rr 3 x2, iv a1.Budget, iv a1.Writes, iv a1.Stop, bv false]), (3, rE 2 (File.enc true) x2)] orcN ?_
  refine J_g 254 [] [(2, pp 1), (3, pp 2)] [(1, .box [nv, iv 0, iv 0, iv 0, bv false]), (2, .box [rr 3 x2, iv a1.Budget, iv a1.Writes, iv a1.Stop, bv a1.Down]), (3, rE 2 (File.enc true) x2)] orcN ?_
  refine J_g 510 [] [(2, pp 1)] [(1, .box [rr 3 x2, iv a1.Budget, iv a1.Writes, iv a1.Stop, bv a1.Down]), (3, rE 2 (File.enc true) x2)] orcN ?_
  exact J_rm (ds := [.ag [rr 3 x2, iv a1.Budget, iv a1.Writes, iv a1.Stop, bv a1.Down]]) (ds' := [.ag [so 2 (File.enc true) x2, iv a1.Budget, iv a1.Writes, iv a1.Stop, bv a1.Down]]) (.cons (.ag (.move (.tail _ (.head _)) (List.length_map _) (by decide) (.keep rfl (.keep rfl (.keep rfl (.keep rfl (.nil))))))) (.nil) (by decide)) rfl

noncomputable def c22 : Code := (Tryz.f22.body).getD .skip

theorem laws_toInt64S_l1.ok (a1 : (List Int)) (q : Wd) (kn : (List Int) → Option (D × List Ent)) (hk : ∀ v : (List Int), J (q.g Tryz.prog 22 0 22) c22 (atI c22 15) (St.mk' [(3, rr 0 v)] [(0, rE 1 eI64 v)]) (some v) kn) :
    ∀ s9 : ((List Int) × Int), J (q.g Tryz.prog 22 0 22) c22 (atI c22 116) (St.mk' [(0, sl 1 eI64 a1), (3, rr 0 s9.1), (4, iv s9.2)] [(0, rE 1 eI64 s9.1)]) (laws_toInt64S_l1 a1 s9) kn := by
  refine J_lp (fun g ih s9 => ?_)
  unfold laws_toInt64S_l1b
  refine J_g 464 [] [(0, sl 1 eI64 a1), (3, rr 0 s9.1), (4, iv s9.2), (11, bv (decide (s9.2 < (a1.length : Int))))] [(0, rE 1 eI64 s9.1)] orcN ?_
  refine J_if2 11 (fun h10 => ?_) (fun h10 => ?_)
  · refine J_bind (fun x11 h12 => ?_)
    refine J_bind (fun x13 h14 => ?_)
    refine J_g 932 [] [(0, sl 1 eI64 a1), (3, rr 0 s9.1), (4, iv s9.2)] [(0, rE 1 eI64 (s9.1.set s9.2.toNat x11))] (orcC 4 (x_ix (kk := .i64) 41 2 1 eI64 (.tmp 16) (.tmp 17) h12) (orcC 6 (x_ixr (kk := .i64) 41 2 1 0 eI64 (.tmp 14) (.tmp 15) h14) (orcD 7 (x_st (b := x11) 2 1 0 0 eI64 (iv x11) (.tmp 20) (.tmp 19) h14 rfl) orcN))) ?_
    refine J_st (σ' := St.mk' [(0, sl 1 eI64 a1), (3, rr 0 (s9.1.set s9.2.toNat x11)), (4, iv s9.2)] [(0, rE 1 eI64 (s9.1.set s9.2.toNat x11))]) (by simp only [rr, List.length_set]) ?_
    refine J_g 467 [] [(0, sl 1 eI64 a1), (3, rr 0 (s9.1.set s9.2.toNat x11)), (4, iv (w64 (s9.2 + 1)))] [(0, rE 1 eI64 (s9.1.set s9.2.toNat x11))] orcN ?_
    exact J_q (J_b (ih (s9.1.set s9.2.toNat x11, w64 (s9.2 + 1)))) rfl
  · exact J_qw (hk s9.1) rfl

theorem laws_toInt64S.ok (a1 : (List Int)) : Ok Tryz.prog 22 [sl 1 eI64 a1] [] ((laws_toInt64S a1).map fun r => (so 1 eI64 r, [])) := by
  refine Ok_of3 c22 Tryz.f22 0 22 (fun q => ?_)
  unfold laws_toInt64S
  refine J_g 2 [] [(0, sl 1 eI64 a1)] [] orcN ?_
  refine J_bind (fun x2 h3 => ?_)
  refine J_g 6 [] [(0, sl 1 eI64 a1), (3, rr 0 x2)] [(0, rE 1 eI64 x2)] (orcC 2 (x_mk 41 2 1 8 0 eI64 0 (.tmp 6) h3 (.keep rfl (.nil))) orcN) ?_
  refine J_g 28 [] [(0, sl 1 eI64 a1), (3, rr 0 x2), (4, iv 0)] [(0, rE 1 eI64 x2)] orcN ?_
  refine J_lq (laws_toInt64S_l1.ok a1 q _ (fun v15 => J_j ?_) (x2, 0))
  refine J_g 30 [] [(2, rr 0 v15)] [(0, rE 1 eI64 v15)] orcN ?_
  exact J_rm (ds := [rr 0 v15]) (ds' := [so 1 eI64 v15]) (.cons (.cell (.move (.head _) (List.length_map _) (by decide) (.nil))) (.nil) (by decide)) rfl

noncomputable def c178 : Code := (Tryz.f178.body).getD .skip

theorem spec_l1Letter.ok (a1 : Int) : Ok Tryz.prog 178 [uv a1] [] ((spec_l1Letter a1).map fun r => (bv r, [])) := by
  refine Ok_of3 c178 Tryz.f178 0 9 (fun q => ?_)
  unfold spec_l1Letter
  refine J_g 2 [] [(0, uv a1)] [] orcN ?_
  refine J_ite (fun h2 => ?_) (fun h2 => ?_)
  · refine J_g 6 [] [(2, bv (decide (a1 ≤ 122)))] [] (orcL 2 [(4, bv (decide (a1 ≥ 97)))] [] h2 orcN) ?_
    exact J_r1 rfl
  · refine J_g 6 [] [(2, bv false)] [] (orcL 2 [(4, bv (decide (a1 ≥ 97)))] [] h2 orcN) ?_
    exact J_r1 rfl

noncomputable def c198 : Code := (Tryz.f198.body).getD .skip

theorem spec_l1Digit.ok (a1 : Int) : Ok Tryz.prog 198 [uv a1] [] ((spec_l1Digit a1).map fun r => (bv r, [])) := by
  refine Ok_of3 c198 Tryz.f198 0 9 (fun q => ?_)
  unfold spec_l1Digit
  refine J_g 2 [] [(0, uv a1)] [] orcN ?_
  refine J_ite (fun h2 => ?_) (fun h2 => ?_)
  · refine J_g 6 [] [(2, bv (decide (a1 ≤ 57)))] [] (orcL 2 [(4, bv (decide (a1 ≥ 48)))] [] h2 orcN) ?_
    exact J_r1 rfl
  · refine J_g 6 [] [(2, bv false)] [] (orcL 2 [(4, bv (decide (a1 ≥ 48)))] [] h2 orcN) ?_
    exact J_r1 rfl

noncomputable def c179 : Code := (Tryz.f179.body).getD .skip

theorem spec_l1Name.ok (a1 : Int) : Ok Tryz.prog 179 [uv a1] [] ((spec_l1Name a1).map fun r => (bv r, [])) := by
  refine Ok_of3 c179 Tryz.f179 0 13 (fun q => ?_)
  unfold spec_l1Name
  refine J_g 2 [] [(0, uv a1)] [] orcN ?_
  refine J_bind (fun x2 h3 => ?_)
  refine J_ite (fun h4 => ?_) (fun h4 => ?_)
  · refine J_g 6 [] [(2, bv true)] [] (orcC 1 (x_c0 [(.tmp 3)] [5] (spec_l1Letter.ok a1) h3) (orcL 2 [(4, bv x2)] [] h4 orcN)) ?_
    exact J_r1 rfl
  · refine J_bind (fun x5 h6 => ?_)
    refine J_ite (fun h7 => ?_) (fun h7 => ?_)
    · refine J_g 6 [] [(2, bv true)] [] (orcC 1 (x_c0 [(.tmp 3)] [5] (spec_l1Letter.ok a1) h3) (orcL 2 [(4, bv x2)] [] h4 (orcH 4 2 5 false (x_c0 [(.tmp 6)] [5] (spec_l1Digit.ok a1) h6) (orcL 6 [(8, bv x5)] [] h7 orcN)))) ?_
      exact J_r1 rfl
    · refine J_g 6 [] [(2, bv (a1 == 95))] [] (orcC 1 (x_c0 [(.tmp 3)] [5] (spec_l1Letter.ok a1) h3) (orcL 2 [(4, bv x2)] [] h4 (orcH 4 2 5 false (x_c0 [(.tmp 6)] [5] (spec_l1Digit.ok a1) h6) (orcL 6 [(8, bv x5)] [] h7 orcN)))) ?_
      exact J_r1 rfl

noncomputable def c133 : Code := (Tryz.f133.body).getD .skip

theorem spec_NameFault_l1.ok (a1 : ByteArray) (q : Wd) (kn : Unit → Option (D × List Ent)) (hk : ∀ v : Unit, J (q.g Tryz.prog 133 0 29) c133 (atI c133 15) (St.mk' [] []) (some v) kn) :
    ∀ s16 : Int, J (q.g Tryz.prog 133 0 29) c133 (atI c133 116) (St.mk' [(0, sv a1), (3, iv s16)] []) (spec_NameFault_l1 a1 s16) (Fl.go (fun r : Int => some (iv r, [])) kn) := by
  refine J_lp (fun g ih s16 => ?_)
  unfold spec_NameFault_l1b
  refine J_g 464 [] [(0, sv a1), (3, iv s16), (21, bv (decide (s16 < (a1.size : Int))))] [] orcN ?_
  refine J_if2 21 (fun h17 => ?_) (fun h17 => ?_)
  · refine J_bind (fun x18 h19 => ?_)
    refine J_bind (fun x20 h21 => ?_)
    refine J_g 1864 [] [(0, sv a1), (3, iv s16), (28, bv (!x20))] [] (orcC 2 (x_bi (kk := .i64) 9 (.tmp 24) (.tmp 25) h19) (orcC 3 (x_c0 [(.tmp 26)] [5] (spec_l1Name.ok x18) h21) orcN)) ?_
    refine J_if2 28 (fun h22 => ?_) (fun h22 => ?_)
    · refine J_g 7460 [] [(2, iv 5)] [] orcN ?_
      exact J_r1 rfl
    · refine J_g 467 [] [(0, sv a1), (3, iv (w64 (s16 + 1)))] [] orcN ?_
      exact J_q (J_b (ih (w64 (s16 + 1)))) rfl
  · exact J_qw (hk ()) rfl

theorem spec_NameFault.ok (a1 : ByteArray) : Ok Tryz.prog 133 [sv a1] [] ((spec_NameFault a1).map fun r => (iv r, [])) := by
  refine Ok_of3 c133 Tryz.f133 0 29 (fun q => ?_)
  unfold spec_NameFault
  refine J_g 2 [] [(0, sv a1)] [] orcN ?_
  refine J_join (atI c133 13) (fun v8 : Bool => St.mk' [(0, sv a1), (17, bv v8)] []) (fun v8 => ?_) (fun jv8 => ?_)
  · refine J_if2 17 (fun h9 => ?_) (fun h9 => ?_)
    · refine J_g 52 [] [(2, iv 5)] [] orcN ?_
      exact J_r1 rfl
    · refine J_g 28 [] [(0, sv a1), (3, iv 0)] [] orcN ?_
      refine J_lqF (K0 := (fun r : Int => some (iv r, []))) (fun _ => rfl) (spec_NameFault_l1.ok a1 q _ (fun v23 => J_j ?_) 0)
      refine J_g 30 [] [(2, iv 0)] [] orcN ?_
      exact J_r1 rfl
  · refine J_ite (fun h2 => ?_) (fun h2 => ?_)
    · refine J_g 12 [] [(0, sv a1), (17, bv true)] [] (orcL 3 [(6, bv (decide ((a1.size : Int) < 1)))] [] h2 orcN) ?_
      exact J_qw (J_j (jv8 true)) rfl
    · refine J_ite (fun h3 => ?_) (fun h3 => ?_)
      · refine J_g 12 [] [(0, sv a1), (17, bv true)] [] (orcL 3 [(6, bv (decide ((a1.size : Int) < 1)))] [] h2 (orcL 8 [(11, bv (decide ((a1.size : Int) > 12)))] [] h3 orcN)) ?_
        exact J_qw (J_j (jv8 true)) rfl
      · refine J_bind (fun x4 h5 => ?_)
        refine J_bind (fun x6 h7 => ?_)
        refine J_g 12 [] [(0, sv a1), (17, bv (!x6))] [] (orcL 3 [(6, bv (decide ((a1.size : Int) < 1)))] [] h2 (orcL 8 [(11, bv (decide ((a1.size : Int) > 12)))] [] h3 (orcH 10 8 12 false (x_bi (kk := .i64) 9 (.tmp 13) (.const (.int .i64 0)) h5) (orcH 11 8 12 false (x_c0 [(.tmp 14)] [5] (spec_l1Letter.ok x4) h7) orcN)))) ?_
        exact J_qw (J_j (jv8 (!x6))) rfl

noncomputable def c88 : Code := (Tryz.f88.body).getD .skip

theorem spec_l1In.ok (a1 : Int) (a2 : Int) (a3 : Int) : Ok Tryz.prog 88 [iv a1, iv a2, iv a3] [] ((spec_l1In a1 a2 a3).map fun r => (bv r, [])) := by
  refine Ok_of3 c88 Tryz.f88 0 15 (fun q => ?_)
  unfold spec_l1In
  refine J_g 2 [] [(0, iv a1), (1, iv a2), (2, iv a3)] [] orcN ?_
  refine J_ite (fun h4 => ?_) (fun h4 => ?_)
  · refine J_g 6 [] [(6, bv (decide (a1 ≤ a3)))] [] (orcL 3 [(9, bv (decide (a1 ≥ a2)))] [] h4 orcN) ?_
    exact J_r1 rfl
  · refine J_g 6 [] [(6, bv false)] [] (orcL 3 [(9, bv (decide (a1 ≥ a2)))] [] h4 orcN) ?_
    exact J_r1 rfl

noncomputable def c134 : Code := (Tryz.f134.body).getD .skip

theorem spec_VersionFault.ok (a1 : Version) : Ok Tryz.prog 134 [.ag (Version.enc a1)] [] ((spec_VersionFault a1).map fun r => (iv r, [])) := by
  refine Ok_of3 c134 Tryz.f134 0 19 (fun q => ?_)
  unfold spec_VersionFault
  refine J_g 2 [(0, 0)] [(1, pp 0)] [(0, .box (Version.enc a1))] orcN ?_
  refine J_bind (fun x2 h3 => ?_)
  refine J_join (atI c134 13) (fun v10 : Bool => St.mk' [(18, bv v10)] []) (fun v10 => ?_) (fun jv10 => ?_)
  · refine J_if2 18 (fun h11 => ?_) (fun h11 => ?_)
    · refine J_g 52 [] [(2, iv 3)] [] orcN ?_
      exact J_r1 rfl
    · refine J_g 14 [] [(2, iv 0)] [] orcN ?_
      exact J_r1 rfl
  · refine J_ite (fun h4 => ?_) (fun h4 => ?_)
    · refine J_g 12 [] [(18, bv true)] [] (orcC 2 (x_c0 [(.tmp 4), (.const (.int .i64 0)), (.const (.int .i64 999))] [2, 2, 2] (spec_l1In.ok a1.A 0 999) h3) (orcL 4 [(6, bv (!x2))] [] h4 orcN)) ?_
      exact J_qw (J_j (jv10 true)) rfl
    · refine J_bind (fun x5 h6 => ?_)
      refine J_ite (fun h7 => ?_) (fun h7 => ?_)
      · refine J_g 12 [] [(18, bv true)] [] (orcC 2 (x_c0 [(.tmp 4), (.const (.int .i64 0)), (.const (.int .i64 999))] [2, 2, 2] (spec_l1In.ok a1.A 0 999) h3) (orcL 4 [(6, bv (!x2))] [] h4 (orcH 7 4 7 false (x_c0 [(.tmp 9), (.const (.int .i64 0)), (.const (.int .i64 999))] [2, 2, 2] (spec_l1In.ok a1.B 0 999) h6) (orcL 10 [(12, bv (!x5))] [] h7 orcN)))) ?_
        exact J_qw (J_j (jv10 true)) rfl
      · refine J_bind (fun x8 h9 => ?_)
        refine J_g 12 [] [(18, bv (!x8))] [] (orcC 2 (x_c0 [(.tmp 4), (.const (.int .i64 0)), (.const (.int .i64 999))] [2, 2, 2] (spec_l1In.ok a1.A 0 999) h3) (orcL 4 [(6, bv (!x2))] [] h4 (orcH 7 4 7 false (x_c0 [(.tmp 9), (.const (.int .i64 0)), (.const (.int .i64 999))] [2, 2, 2] (spec_l1In.ok a1.B 0 999) h6) (orcL 10 [(12, bv (!x5))] [] h7 (orcH 13 10 13 false (x_c0 [(.tmp 15), (.const (.int .i64 0)), (.const (.int .i64 999))] [2, 2, 2] (spec_l1In.ok a1.C 0 999) h9) orcN))))) ?_
        exact J_qw (J_j (jv10 (!x8))) rfl

noncomputable def c135 : Code := (Tryz.f135.body).getD .skip

theorem spec_l2Holds_l1.ok (a1 : (List ByteArray)) (a2 : ByteArray) (q : Wd) (kn : Unit → Option (D × List Ent)) (hk : ∀ v : Unit, J (q.g Tryz.prog 135 0 18) c135 (atI c135 7) (St.mk' [] []) (some v) kn) :
    ∀ s7 : Int, J (q.g Tryz.prog 135 0 18) c135 (atI c135 52) (St.mk' [(0, sl 1 eStr a1), (1, sv a2), (5, iv s7)] []) (spec_l2Holds_l1 a1 a2 s7) (Fl.go (fun r : Bool => some (bv r, [])) kn) := by
  refine J_lp (fun g ih s7 => ?_)
  unfold spec_l2Holds_l1b
  refine J_g 208 [] [(0, sl 1 eStr a1), (1, sv a2), (5, iv s7), (9, bv (decide (s7 < (a1.length : Int))))] [] orcN ?_
  refine J_if2 9 (fun h8 => ?_) (fun h8 => ?_)
  · refine J_bind (fun x9 h10 => ?_)
    refine J_g 840 [] [(0, sl 1 eStr a1), (1, sv a2), (5, iv s7), (17, bv (seq x9 a2))] [] (orcC 2 (x_ix (kk := .i64) 73 9 1 eStr (.tmp 12) (.tmp 13) h10) orcN) ?_
    refine J_if2 17 (fun h11 => ?_) (fun h11 => ?_)
    · refine J_g 3364 [] [(4, bv true)] [] orcN ?_
      exact J_r1 rfl
    · refine J_g 211 [] [(0, sl 1 eStr a1), (1, sv a2), (5, iv (w64 (s7 + 1)))] [] orcN ?_
      exact J_q (J_b (ih (w64 (s7 + 1)))) rfl
  · exact J_qw (hk ()) rfl

theorem spec_l2Holds.ok (a1 : (List ByteArray)) (a2 : ByteArray) : Ok Tryz.prog 135 [sl 1 eStr a1, sv a2] [] ((spec_l2Holds a1 a2).map fun r => (bv r, [])) := by
  refine Ok_of3 c135 Tryz.f135 0 18 (fun q => ?_)
  unfold spec_l2Holds
  refine J_g 2 [] [(0, sl 1 eStr a1), (1, sv a2)] [] orcN ?_
  refine J_g 12 [] [(0, sl 1 eStr a1), (1, sv a2), (5, iv 0)] [] orcN ?_
  refine J_lqF (K0 := (fun r : Bool => some (bv r, []))) (fun _ => rfl) (spec_l2Holds_l1.ok a1 a2 q _ (fun v12 => J_j ?_) 0)
  refine J_g 14 [] [(4, bv false)] [] orcN ?_
  exact J_r1 rfl

noncomputable def c137 : Code := (Tryz.f137.body).getD .skip

theorem spec_l1Top.ok  : Ok Tryz.prog 137 [] [] ((spec_l1Top).map fun r => (.ag (Version.enc r), [])) := by
  refine Ok_of3 c137 Tryz.f137 0 2 (fun q => ?_)
  unfold spec_l1Top
  refine J_g 2 [(0, 0)] [(0, pp 0)] [(0, .box [iv 0, iv 0, iv 0])] orcN ?_
  refine J_g 6 [] [(0, pp 0)] [(0, .box [iv 1000, iv 0, iv 0])] orcN ?_
  exact J_r1 rfl

noncomputable def c180 : Code := (Tryz.f180.body).getD .skip

theorem spec_l1Sign.ok (a1 : Int) (a2 : Int) : Ok Tryz.prog 180 [iv a1, iv a2] [] ((spec_l1Sign a1 a2).map fun r => (iv r, [])) := by
  refine Ok_of3 c180 Tryz.f180 0 11 (fun q => ?_)
  unfold spec_l1Sign
  refine J_g 2 [] [(0, iv a1), (1, iv a2)] [] orcN ?_
  refine J_g 12 [] [(0, iv a1), (1, iv a2), (7, bv (decide (a1 < a2)))] [] orcN ?_
  refine J_if2 7 (fun h3 => ?_) (fun h3 => ?_)
  · refine J_g 52 [] [(4, iv (-1))] [] orcN ?_
    exact J_r1 rfl
  · refine J_g 28 [] [(10, bv (decide (a1 > a2)))] [] orcN ?_
    refine J_if2 10 (fun h4 => ?_) (fun h4 => ?_)
    · refine J_g 116 [] [(4, iv 1)] [] orcN ?_
      exact J_r1 rfl
    · refine J_g 30 [] [(4, iv 0)] [] orcN ?_
      exact J_r1 rfl

noncomputable def c136 : Code := (Tryz.f136.body).getD .skip

theorem spec_CompareVersions.ok (a1 : Version) (a2 : Version) : Ok Tryz.prog 136 [.ag (Version.enc a1), .ag (Version.enc a2)] [] ((spec_CompareVersions a1 a2).map fun r => (iv r, [])) := by
  refine Ok_of3 c136 Tryz.f136 0 28 (fun q => ?_)
  unfold spec_CompareVersions
  refine J_g 2 [(0, 0), (1, 1)] [(2, pp 0), (3, pp 1)] [(0, .box (Version.enc a1)), (1, .box (Version.enc a2))] orcN ?_
  refine J_bind (fun x3 h4 => ?_)
  refine J_g 12 [] [(2, pp 0), (3, pp 1), (5, iv x3)] [(0, .box (Version.enc a1)), (1, .box (Version.enc a2))] (orcC 4 (x_c0 [(.tmp 8), (.tmp 10)] [2, 2] (spec_l1Sign.ok a1.A a2.A) h4) orcN) ?_
  refine J_g 26 [] [(2, pp 0), (3, pp 1), (5, iv x3), (13, bv (x3 != 0))] [(0, .box (Version.enc a1)), (1, .box (Version.enc a2))] orcN ?_
  refine J_if2 13 (fun h5 => ?_) (fun h5 => ?_)
  · refine J_g 108 [] [(4, iv x3)] [] orcN ?_
    exact J_r1 rfl
  · refine J_bind (fun x6 h7 => ?_)
    refine J_g 28 [] [(2, pp 0), (3, pp 1), (6, iv x6)] [(0, .box (Version.enc a1)), (1, .box (Version.enc a2))] (orcC 4 (x_c0 [(.tmp 16), (.tmp 18)] [2, 2] (spec_l1Sign.ok a1.B a2.B) h7) orcN) ?_
    refine J_g 58 [] [(2, pp 0), (3, pp 1), (6, iv x6), (21, bv (x6 != 0))] [(0, .box (Version.enc a1)), (1, .box (Version.enc a2))] orcN ?_
    refine J_if2 21 (fun h8 => ?_) (fun h8 => ?_)
    · refine J_g 236 [] [(4, iv x6)] [] orcN ?_
      exact J_r1 rfl
    · refine J_bind (fun x9 h10 => ?_)
      refine J_g 30 [] [(4, iv x9)] [] (orcC 4 (x_c0 [(.tmp 24), (.tmp 26)] [2, 2] (spec_l1Sign.ok a1.C a2.C) h10) orcN) ?_
      exact J_r1 rfl

noncomputable def c87 : Code := (Tryz.f87.body).getD .skip

theorem spec_TermFault.ok (a1 : Term) : Ok Tryz.prog 87 [.ag (Term.enc a1)] [] ((spec_TermFault a1).map fun r => (iv r, [])) := by
  refine Ok_of3 c87 Tryz.f87 0 33 (fun q => ?_)
  unfold spec_TermFault
  refine J_g 2 [(0, 0)] [(1, pp 0)] [(0, .box (Term.enc a1))] orcN ?_
  refine J_bind (fun x2 h3 => ?_)
  refine J_g 12 [] [(1, pp 0), (3, iv x2)] [(0, .box (Term.enc a1))] (orcC 2 (x_c0 [(.tmp 6)] [9] (spec_NameFault.ok a1.Name) h3) orcN) ?_
  refine J_g 26 [] [(1, pp 0), (3, iv x2), (9, bv (x2 != 0))] [(0, .box (Term.enc a1))] orcN ?_
  refine J_if2 9 (fun h4 => ?_) (fun h4 => ?_)
  · refine J_g 108 [] [(2, iv x2)] [] orcN ?_
    exact J_r1 rfl
  · refine J_bind (fun x5 h6 => ?_)
    refine J_g 28 [] [(1, pp 0), (4, iv x5)] [(0, .box (Term.enc a1))] (orcC 2 (x_c0 [(.tmp 12)] [83] (spec_VersionFault.ok a1.Low) h6) orcN) ?_
    refine J_g 58 [] [(1, pp 0), (4, iv x5), (15, bv (x5 != 0))] [(0, .box (Term.enc a1))] orcN ?_
    refine J_if2 15 (fun h7 => ?_) (fun h7 => ?_)
    · refine J_g 236 [] [(2, iv x5)] [] orcN ?_
      exact J_r1 rfl
    · refine J_bind (fun x8 h9 => ?_)
      refine J_join (atI c87 61) (fun v13 : Bool => St.mk' [(1, pp 0), (26, bv v13)] [(0, .box (Term.enc a1))]) (fun v13 => ?_) (fun jv13 => ?_)
      · refine J_if2 26 (fun h14 => ?_) (fun h14 => ?_)
        · refine J_g 244 [] [(2, iv 3)] [] orcN ?_
          exact J_r1 rfl
        · refine J_bind (fun x15 h16 => ?_)
          refine J_g 124 [] [(32, bv (decide (x15 ≥ 0)))] [] (orcC 4 (x_c0 [(.tmp 28), (.tmp 30)] [83, 83] (spec_CompareVersions.ok a1.Low a1.High) h16) orcN) ?_
          refine J_if2 32 (fun h17 => ?_) (fun h17 => ?_)
          · refine J_g 500 [] [(2, iv 1)] [] orcN ?_
            exact J_r1 rfl
          · refine J_g 126 [] [(2, iv 0)] [] orcN ?_
            exact J_r1 rfl
      · refine J_ite (fun h10 => ?_) (fun h10 => ?_)
        · refine J_bind (fun x11 h12 => ?_)
          refine J_g 60 [] [(1, pp 0), (26, bv (x11 != 0))] [(0, .box (Term.enc a1))] (orcC 2 (x_c0 [] [] (spec_l1Top.ok) h9) (orcC 3 (x_seq (b := .neq) (r := (a1.High.A == x8.A && (a1.High.B == x8.B && (a1.High.C == x8.C && true)))) 83 83 (.tmp 18) (.tmp 19) [.int .i64 a1.High.A, .int .i64 a1.High.B, .int .i64 a1.High.C] [.int .i64 x8.A, .int .i64 x8.B, .int .i64 x8.C] (.inr ⟨rfl, rfl⟩)) (orcL 4 [(20, bv (!(a1.High.A == x8.A && (a1.High.B == x8.B && (a1.High.C == x8.C && true)))))] [] h10 (orcH 7 4 21 true (x_c0 [(.tmp 23)] [83] (spec_VersionFault.ok a1.High) h12) orcN)))) ?_
          exact J_qw (J_j (jv13 (x11 != 0))) rfl
        · refine J_g 60 [] [(1, pp 0), (26, bv false)] [(0, .box (Term.enc a1))] (orcC 2 (x_c0 [] [] (spec_l1Top.ok) h9) (orcC 3 (x_seq (b := .neq) (r := (a1.High.A == x8.A && (a1.High.B == x8.B && (a1.High.C == x8.C && true)))) 83 83 (.tmp 18) (.tmp 19) [.int .i64 a1.High.A, .int .i64 a1.High.B, .int .i64 a1.High.C] [.int .i64 x8.A, .int .i64 x8.B, .int .i64 x8.C] (.inr ⟨rfl, rfl⟩)) (orcL 4 [(20, bv (!(a1.High.A == x8.A && (a1.High.B == x8.B && (a1.High.C == x8.C && true)))))] [] h10 orcN))) ?_
          exact J_qw (J_j (jv13 false)) rfl

noncomputable def c46 : Code := (Tryz.f46.body).getD .skip

theorem spec_l2Terms_l1.ok (a1 : (List Term)) (q : Wd) (kn : Unit → Option (D × List Ent)) (hk : ∀ v : Unit, J (q.g Tryz.prog 46 0 19) c46 (atI c46 7) (St.mk' [] []) (some v) kn) :
    ∀ s8 : Int, J (q.g Tryz.prog 46 0 19) c46 (atI c46 52) (St.mk' [(0, sl 7 Term.enc a1), (3, iv s8)] []) (spec_l2Terms_l1 a1 s8) (Fl.go (fun r : Int => some (iv r, [])) kn) := by
  refine J_lp (fun g ih s8 => ?_)
  unfold spec_l2Terms_l1b
  refine J_g 208 [] [(0, sl 7 Term.enc a1), (3, iv s8), (8, bv (decide (s8 < (a1.length : Int))))] [] orcN ?_
  refine J_if2 8 (fun h9 => ?_) (fun h9 => ?_)
  · refine J_bind (fun x10 h11 => ?_)
    refine J_bind (fun x12 h13 => ?_)
    refine J_g 840 [] [(0, sl 7 Term.enc a1), (3, iv s8), (4, iv x12)] [] (orcC 2 (x_ix (kk := .i64) 31 89 7 Term.enc (.tmp 11) (.tmp 12) h11) (orcC 4 (x_c0 [(.tmp 14)] [89] (spec_TermFault.ok x10) h13) orcN)) ?_
    refine J_g 1682 [] [(0, sl 7 Term.enc a1), (3, iv s8), (4, iv x12), (17, bv (x12 != 0))] [] orcN ?_
    refine J_if2 17 (fun h14 => ?_) (fun h14 => ?_)
    · refine J_g 6732 [] [(2, iv x12)] [] orcN ?_
      exact J_r1 rfl
    · refine J_g 211 [] [(0, sl 7 Term.enc a1), (3, iv (w64 (s8 + 1)))] [] orcN ?_
      exact J_q (J_b (ih (w64 (s8 + 1)))) rfl
  · exact J_qw (hk ()) rfl

theorem spec_l2Terms.ok (a1 : (List Term)) : Ok Tryz.prog 46 [sl 7 Term.enc a1] [] ((spec_l2Terms a1).map fun r => (iv r, [])) := by
  refine Ok_of3 c46 Tryz.f46 0 19 (fun q => ?_)
  unfold spec_l2Terms
  refine J_g 2 [] [(0, sl 7 Term.enc a1)] [] orcN ?_
  refine J_g 12 [] [(0, sl 7 Term.enc a1), (3, iv 0)] [] orcN ?_
  refine J_lqF (K0 := (fun r : Int => some (iv r, []))) (fun _ => rfl) (spec_l2Terms_l1.ok a1 q _ (fun v15 => J_j ?_) 0)
  refine J_g 14 [] [(2, iv 0)] [] orcN ?_
  exact J_r1 rfl

noncomputable def c85 : Code := (Tryz.f85.body).getD .skip

theorem spec_PackFault_l3.ok (a1 : Pack) (q : Wd) (kn : Unit → Option (D × List Ent)) (hk : ∀ v : Unit, J (q.g Tryz.prog 85 0 118) c85 (atI c85 511) (St.mk' [(1, pp 0)] [(0, .box (Pack.enc false a1))]) (some v) kn) :
    ∀ s70 : Int, J (q.g Tryz.prog 85 0 118) c85 (atI c85 4084) (St.mk' [(1, pp 0), (8, iv s70)] [(0, .box (Pack.enc false a1))]) (spec_PackFault_l3 a1 s70) (Fl.go (fun r : Int => some (iv r, [])) kn) := by
  refine J_lp (fun g ih s70 => ?_)
  unfold spec_PackFault_l3b
  refine J_g 16336 [] [(1, pp 0), (8, iv s70), (96, bv (decide (s70 < (a1.Needs.length : Int))))] [(0, .box (Pack.enc false a1))] orcN ?_
  refine J_if2 96 (fun h71 => ?_) (fun h71 => ?_)
  · refine J_bind (fun x72 h73 => ?_)
    refine J_g 130704 [] [(1, pp 0), (8, iv s70), (105, bv ((x72.length : Int) == 0))] [(0, .box (Pack.enc false a1))] (orcC 3 (x_ix (kk := .i64) 84 31 1 (eSl false 7 Term.enc) (.tmp 100) (.tmp 101) h73) orcN) ?_
    refine J_if2 105 (fun h74 => ?_) (fun h74 => ?_)
    · refine J_g 522820 [] [(2, iv 1)] [] orcN ?_
      exact J_r1 rfl
    · refine J_bind (fun x75 h76 => ?_)
      refine J_bind (fun x77 h78 => ?_)
      refine J_g 130706 [] [(1, pp 0), (8, iv s70), (9, iv x77)] [(0, .box (Pack.enc false a1))] (orcC 3 (x_ix (kk := .i64) 84 31 1 (eSl false 7 Term.enc) (.tmp 107) (.tmp 108) h76) (orcC 5 (x_c0 [(.tmp 110)] [31] (spec_l2Terms.ok x75) h78) orcN)) ?_
      refine J_g 261414 [] [(1, pp 0), (8, iv s70), (9, iv x77), (113, bv (x77 != 0))] [(0, .box (Pack.enc false a1))] orcN ?_
      refine J_if2 113 (fun h79 => ?_) (fun h79 => ?_)
      · refine J_g 1045660 [] [(2, iv x77)] [] orcN ?_
        exact J_r1 rfl
      · refine J_g 16339 [] [(1, pp 0), (8, iv (w64 (s70 + 1)))] [(0, .box (Pack.enc false a1))] orcN ?_
        exact J_q (J_b (ih (w64 (s70 + 1)))) rfl
  · exact J_qw (hk ()) rfl

theorem spec_PackFault_l2.ok (a1 : Pack) (q : Wd) (kn : Unit → Option (D × List Ent)) (hk : ∀ v : Unit, J (q.g Tryz.prog 85 0 118) c85 (atI c85 255) (St.mk' [(1, pp 0)] [(0, .box (Pack.enc false a1))]) (some v) kn) :
    ∀ s42 : Int, J (q.g Tryz.prog 85 0 118) c85 (atI c85 2036) (St.mk' [(1, pp 0), (6, iv s42)] [(0, .box (Pack.enc false a1))]) (spec_PackFault_l2 a1 s42) (Fl.go (fun r : Int => some (iv r, [])) kn) := by
  refine J_lp (fun g ih s42 => ?_)
  unfold spec_PackFault_l2b
  refine J_g 8144 [] [(1, pp 0), (6, iv s42), (60, bv (decide (s42 < (a1.Provides.length : Int))))] [(0, .box (Pack.enc false a1))] orcN ?_
  refine J_if2 60 (fun h43 => ?_) (fun h43 => ?_)
  · refine J_bind (fun x44 h45 => ?_)
    refine J_bind (fun x46 h47 => ?_)
    refine J_g 65168 [] [(1, pp 0), (6, iv s42), (7, iv x46)] [(0, .box (Pack.enc false a1))] (orcC 3 (x_ix (kk := .i64) 73 9 1 eStr (.tmp 64) (.tmp 65) h45) (orcC 5 (x_c0 [(.tmp 67)] [9] (spec_NameFault.ok x44) h47) orcN)) ?_
    refine J_g 130338 [] [(1, pp 0), (6, iv s42), (7, iv x46), (70, bv (x46 != 0))] [(0, .box (Pack.enc false a1))] orcN ?_
    refine J_if2 70 (fun h48 => ?_) (fun h48 => ?_)
    · refine J_g 521356 [] [(2, iv x46)] [] orcN ?_
      exact J_r1 rfl
    · refine J_bind (fun x49 h50 => ?_)
      refine J_join (atI c85 65171) (fun v58 : Bool => St.mk' [(1, pp 0), (6, iv s42), (91, bv v58)] [(0, .box (Pack.enc false a1))]) (fun v58 => ?_) (fun jv58 => ?_)
      · refine J_if2 91 (fun h59 => ?_) (fun h59 => ?_)
        · refine J_g 260684 [] [(2, iv 6)] [] orcN ?_
          exact J_r1 rfl
        · refine J_g 8147 [] [(1, pp 0), (6, iv (w64 (s42 + 1)))] [(0, .box (Pack.enc false a1))] orcN ?_
          exact J_q (J_b (ih (w64 (s42 + 1)))) rfl
      · refine J_ite (fun h51 => ?_) (fun h51 => ?_)
        · refine J_g 65170 [] [(1, pp 0), (6, iv s42), (91, bv true)] [(0, .box (Pack.enc false a1))] (orcC 3 (x_ix (kk := .i64) 73 9 1 eStr (.tmp 73) (.tmp 74) h50) (orcL 8 [(79, bv (seq x49 a1.Name))] [] h51 orcN)) ?_
          exact J_qw (J_j (jv58 true)) rfl
        · refine J_bind (fun x52 h53 => ?_)
          refine J_bind (fun x54 h55 => ?_)
          refine J_bind (fun x56 h57 => ?_)
          refine J_g 65170 [] [(1, pp 0), (6, iv s42), (91, bv x56)] [(0, .box (Pack.enc false a1))] (orcC 3 (x_ix (kk := .i64) 73 9 1 eStr (.tmp 73) (.tmp 74) h50) (orcL 8 [(79, bv (seq x49 a1.Name))] [] h51 (orcH 12 8 80 false (x_ls 73 9 1 eStr (.tmp 82) none (some (.tmp 83)) h53) (orcH 16 8 80 false (x_ix (kk := .i64) 73 9 1 eStr (.tmp 86) (.tmp 87) h55) (orcH 18 8 80 false (x_c0 [(.tmp 84), (.tmp 89)] [73, 9] (spec_l2Holds.ok x52 x54) h57) orcN))))) ?_
          exact J_qw (J_j (jv58 x56)) rfl
  · exact J_qw (hk ()) rfl

theorem spec_PackFault_l1.ok (a1 : Pack) (q : Wd) (kn : Unit → Option (D × List Ent)) (hk : ∀ v : Unit, J (q.g Tryz.prog 85 0 118) c85 (atI c85 127) (St.mk' [(1, pp 0)] [(0, .box (Pack.enc false a1))]) (some v) kn) :
    ∀ s19 : Int, J (q.g Tryz.prog 85 0 118) c85 (atI c85 1012) (St.mk' [(1, pp 0), (5, iv s19)] [(0, .box (Pack.enc false a1))]) (spec_PackFault_l1 a1 s19) (Fl.go (fun r : Int => some (iv r, [])) kn) := by
  refine J_lp (fun g ih s19 => ?_)
  unfold spec_PackFault_l1b
  refine J_g 4048 [] [(1, pp 0), (5, iv s19), (46, bv (decide (s19 < (a1.Needs.length : Int))))] [(0, .box (Pack.enc false a1))] orcN ?_
  refine J_if2 46 (fun h20 => ?_) (fun h20 => ?_)
  · refine J_bind (fun x21 h22 => ?_)
    refine J_g 16200 [] [(1, pp 0), (5, iv s19), (55, bv (decide ((x21.length : Int) > 4)))] [(0, .box (Pack.enc false a1))] (orcC 3 (x_ix (kk := .i64) 84 31 1 (eSl false 7 Term.enc) (.tmp 50) (.tmp 51) h22) orcN) ?_
    refine J_if2 55 (fun h23 => ?_) (fun h23 => ?_)
    · refine J_g 64804 [] [(2, iv 2)] [] orcN ?_
      exact J_r1 rfl
    · refine J_g 4051 [] [(1, pp 0), (5, iv (w64 (s19 + 1)))] [(0, .box (Pack.enc false a1))] orcN ?_
      exact J_q (J_b (ih (w64 (s19 + 1)))) rfl
  · exact J_qw (hk ()) rfl

theorem spec_PackFault.ok (a1 : Pack) : Ok Tryz.prog 85 [.ag (Pack.enc false a1)] [] ((spec_PackFault a1).map fun r => (iv r, [])) := by
  refine Ok_of3 c85 Tryz.f85 0 118 (fun q => ?_)
  unfold spec_PackFault
  refine J_g 2 [(0, 0)] [(1, pp 0)] [(0, .box (Pack.enc false a1))] orcN ?_
  refine J_bind (fun x2 h3 => ?_)
  refine J_g 12 [] [(1, pp 0), (3, iv x2)] [(0, .box (Pack.enc false a1))] (orcC 2 (x_c0 [(.tmp 11)] [9] (spec_NameFault.ok a1.Name) h3) orcN) ?_
  refine J_g 26 [] [(1, pp 0), (3, iv x2), (14, bv (x2 != 0))] [(0, .box (Pack.enc false a1))] orcN ?_
  refine J_if2 14 (fun h4 => ?_) (fun h4 => ?_)
  · refine J_g 108 [] [(2, iv x2)] [] orcN ?_
    exact J_r1 rfl
  · refine J_bind (fun x5 h6 => ?_)
    refine J_g 28 [] [(1, pp 0), (4, iv x5)] [(0, .box (Pack.enc false a1))] (orcC 2 (x_c0 [(.tmp 17)] [83] (spec_VersionFault.ok a1.Version) h6) orcN) ?_
    refine J_g 58 [] [(1, pp 0), (4, iv x5), (20, bv (x5 != 0))] [(0, .box (Pack.enc false a1))] orcN ?_
    refine J_if2 20 (fun h7 => ?_) (fun h7 => ?_)
    · refine J_g 236 [] [(2, iv x5)] [] orcN ?_
      exact J_r1 rfl
    · refine J_bind (fun x8 h9 => ?_)
      refine J_g 60 [] [(1, pp 0), (25, bv (!x8))] [(0, .box (Pack.enc false a1))] (orcC 2 (x_c0 [(.tmp 23), (.const (.int .i64 1)), (.const (.int .i64 200))] [2, 2, 2] (spec_l1In.ok a1.Size 1 200) h9) orcN) ?_
      refine J_if2 25 (fun h10 => ?_) (fun h10 => ?_)
      · refine J_g 244 [] [(2, iv 3)] [] orcN ?_
        exact J_r1 rfl
      · refine J_join (atI c85 125) (fun v13 : Bool => St.mk' [(1, pp 0), (41, bv v13)] [(0, .box (Pack.enc false a1))]) (fun v13 => ?_) (fun jv13 => ?_)
        · refine J_if2 41 (fun h14 => ?_) (fun h14 => ?_)
          · refine J_g 500 [] [(2, iv 2)] [] orcN ?_
            exact J_r1 rfl
          · refine J_g 252 [] [(1, pp 0), (5, iv 0)] [(0, .box (Pack.enc false a1))] orcN ?_
            refine J_lqF (K0 := (fun r : Int => some (iv r, []))) (fun _ => rfl) (spec_PackFault_l1.ok a1 q _ (fun v24 => J_j ?_) 0)
            refine J_g 508 [] [(1, pp 0), (6, iv 0)] [(0, .box (Pack.enc false a1))] orcN ?_
            refine J_lqF (K0 := (fun r : Int => some (iv r, []))) (fun _ => rfl) (spec_PackFault_l2.ok a1 q _ (fun v60 => J_j ?_) 0)
            refine J_g 1020 [] [(1, pp 0), (8, iv 0)] [(0, .box (Pack.enc false a1))] orcN ?_
            refine J_lqF (K0 := (fun r : Int => some (iv r, []))) (fun _ => rfl) (spec_PackFault_l3.ok a1 q _ (fun v80 => J_j ?_) 0)
            refine J_bind (fun x81 h82 => ?_)
            refine J_g 1022 [] [(2, iv x81)] [] (orcC 2 (x_c0 [(.tmp 116)] [31] (spec_l2Terms.ok a1.Bars) h82) orcN) ?_
            exact J_r1 rfl
        · refine J_ite (fun h11 => ?_) (fun h11 => ?_)
          · refine J_g 124 [] [(1, pp 0), (41, bv true)] [(0, .box (Pack.enc false a1))] (orcL 4 [(29, bv (decide ((a1.Provides.length : Int) > 4)))] [] h11 orcN) ?_
            exact J_qw (J_j (jv13 true)) rfl
          · refine J_ite (fun h12 => ?_) (fun h12 => ?_)
            · refine J_g 124 [] [(1, pp 0), (41, bv true)] [(0, .box (Pack.enc false a1))] (orcL 4 [(29, bv (decide ((a1.Provides.length : Int) > 4)))] [] h11 (orcL 10 [(35, bv (decide ((a1.Needs.length : Int) > 4)))] [] h12 orcN)) ?_
              exact J_qw (J_j (jv13 true)) rfl
            · refine J_g 124 [] [(1, pp 0), (41, bv (decide ((a1.Bars.length : Int) > 4)))] [(0, .box (Pack.enc false a1))] (orcL 4 [(29, bv (decide ((a1.Provides.length : Int) > 4)))] [] h11 (orcL 10 [(35, bv (decide ((a1.Needs.length : Int) > 4)))] [] h12 orcN)) ?_
              exact J_qw (J_j (jv13 (decide ((a1.Bars.length : Int) > 4)))) rfl

noncomputable def c86 : Code := (Tryz.f86.body).getD .skip

theorem spec_l2Find_l1.ok (a1 : (List Pack)) (a2 : ByteArray) (a3 : Version) (q : Wd) (kn : Unit → Option (D × List Ent)) (hk : ∀ v : Unit, J (q.g Tryz.prog 86 0 32) c86 (atI c86 7) (St.mk' [] []) (some v) kn) :
    ∀ s14 : Int, J (q.g Tryz.prog 86 0 32) c86 (atI c86 52) (St.mk' [(0, sl 8 (Pack.enc false) a1), (1, sv a2), (5, pp 0), (7, iv s14)] [(0, .box (Version.enc a3))]) (spec_l2Find_l1 a1 a2 a3 s14) (Fl.go (fun r : Int => some (iv r, [])) kn) := by
  refine J_lp (fun g ih s14 => ?_)
  unfold spec_l2Find_l1b
  refine J_g 208 [] [(0, sl 8 (Pack.enc false) a1), (1, sv a2), (5, pp 0), (7, iv s14), (11, bv (decide (s14 < (a1.length : Int))))] [(0, .box (Version.enc a3))] orcN ?_
  refine J_if2 11 (fun h15 => ?_) (fun h15 => ?_)
  · refine J_bind (fun x16 h17 => ?_)
    refine J_join (atI c86 841) (fun v23 : Bool => St.mk' [(0, sl 8 (Pack.enc false) a1), (1, sv a2), (5, pp 0), (7, iv s14), (30, bv v23)] [(0, .box (Version.enc a3))]) (fun v23 => ?_) (fun jv23 => ?_)
    · refine J_if2 30 (fun h24 => ?_) (fun h24 => ?_)
      · refine J_g 3364 [] [(6, iv s14)] [] orcN ?_
        exact J_r1 rfl
      · refine J_g 211 [] [(0, sl 8 (Pack.enc false) a1), (1, sv a2), (5, pp 0), (7, iv (w64 (s14 + 1)))] [(0, .box (Version.enc a3))] orcN ?_
        exact J_q (J_b (ih (w64 (s14 + 1)))) rfl
    · refine J_ite (fun h18 => ?_) (fun h18 => ?_)
      · refine J_bind (fun x19 h20 => ?_)
        refine J_bind (fun x21 h22 => ?_)
        refine J_g 840 [] [(0, sl 8 (Pack.enc false) a1), (1, sv a2), (5, pp 0), (7, iv s14), (30, bv (x21 == 0))] [(0, .box (Version.enc a3))] (orcC 2 (x_ix (kk := .i64) 29 86 8 (Pack.enc false) (.tmp 14) (.tmp 15) h17) (orcL 7 [(20, bv (seq x16.Name a2))] [] h18 (orcH 10 7 21 true (x_ix (kk := .i64) 29 86 8 (Pack.enc false) (.tmp 22) (.tmp 23) h20) (orcH 14 7 21 true (x_c0 [(.tmp 26), (.tmp 27)] [83, 83] (spec_CompareVersions.ok x19.Version a3) h22) orcN)))) ?_
        exact J_qw (J_j (jv23 (x21 == 0))) rfl
      · refine J_g 840 [] [(0, sl 8 (Pack.enc false) a1), (1, sv a2), (5, pp 0), (7, iv s14), (30, bv false)] [(0, .box (Version.enc a3))] (orcC 2 (x_ix (kk := .i64) 29 86 8 (Pack.enc false) (.tmp 14) (.tmp 15) h17) (orcL 7 [(20, bv (seq x16.Name a2))] [] h18 orcN)) ?_
        exact J_qw (J_j (jv23 false)) rfl
  · exact J_qw (hk ()) rfl

theorem spec_l2Find.ok (a1 : (List Pack)) (a2 : ByteArray) (a3 : Version) : Ok Tryz.prog 86 [sl 8 (Pack.enc false) a1, sv a2, .ag (Version.enc a3)] [] ((spec_l2Find a1 a2 a3).map fun r => (iv r, [])) := by
  refine Ok_of3 c86 Tryz.f86 0 32 (fun q => ?_)
  unfold spec_l2Find
  refine J_g 2 [(0, 0)] [(0, sl 8 (Pack.enc false) a1), (1, sv a2), (5, pp 0)] [(0, .box (Version.enc a3))] orcN ?_
  refine J_g 12 [] [(0, sl 8 (Pack.enc false) a1), (1, sv a2), (5, pp 0), (7, iv 0)] [(0, .box (Version.enc a3))] orcN ?_
  refine J_lqF (K0 := (fun r : Int => some (iv r, []))) (fun _ => rfl) (spec_l2Find_l1.ok a1 a2 a3 q _ (fun v25 => J_j ?_) 0)
  refine J_g 14 [] [(6, iv (-1))] [] orcN ?_
  exact J_r1 rfl

noncomputable def c45 : Code := (Tryz.f45.body).getD .skip

theorem spec_CatalogFault_l1.ok (a1 : (List Pack)) (q : Wd) (kn : Unit → Option (D × List Ent)) (hk : ∀ v : Unit, J (q.g Tryz.prog 45 0 37) c45 (atI c45 15) (St.mk' [] []) (some v) kn) :
    ∀ s18 : Int, J (q.g Tryz.prog 45 0 37) c45 (atI c45 116) (St.mk' [(0, sl 8 (Pack.enc false) a1), (3, iv s18)] []) (spec_CatalogFault_l1 a1 s18) (Fl.go (fun r : Int => some (iv r, [])) kn) := by
  refine J_lp (fun g ih s18 => ?_)
  unfold spec_CatalogFault_l1b
  refine J_g 464 [] [(0, sl 8 (Pack.enc false) a1), (3, iv s18), (11, bv (decide (s18 < (a1.length : Int))))] [] orcN ?_
  refine J_if2 11 (fun h19 => ?_) (fun h19 => ?_)
  · refine J_bind (fun x20 h21 => ?_)
    refine J_bind (fun x22 h23 => ?_)
    refine J_g 3728 [] [(0, sl 8 (Pack.enc false) a1), (3, iv s18), (4, iv x22)] [] (orcC 2 (x_ix (kk := .i64) 29 86 8 (Pack.enc false) (.tmp 14) (.tmp 15) h21) (orcC 4 (x_c0 [(.tmp 17)] [86] (spec_PackFault.ok x20) h23) orcN)) ?_
    refine J_g 7458 [] [(0, sl 8 (Pack.enc false) a1), (3, iv s18), (4, iv x22), (20, bv (x22 != 0))] [] orcN ?_
    refine J_if2 20 (fun h24 => ?_) (fun h24 => ?_)
    · refine J_g 29836 [] [(2, iv x22)] [] orcN ?_
      exact J_r1 rfl
    · refine J_bind (fun x25 h26 => ?_)
      refine J_bind (fun x27 h28 => ?_)
      refine J_bind (fun x29 h30 => ?_)
      refine J_bind (fun x31 h32 => ?_)
      refine J_g 3730 [] [(0, sl 8 (Pack.enc false) a1), (3, iv s18), (36, bv (decide (x31 ≥ 0)))] [] (orcC 2 (x_ls 29 86 8 (Pack.enc false) (.tmp 22) none (some (.tmp 23)) h26) (orcC 5 (x_ix (kk := .i64) 29 86 8 (Pack.enc false) (.tmp 25) (.tmp 26) h28) (orcC 10 (x_ix (kk := .i64) 29 86 8 (Pack.enc false) (.tmp 30) (.tmp 31) h30) (orcC 13 (x_c0 [(.tmp 24), (.tmp 29), (.tmp 34)] [29, 9, 83] (spec_l2Find.ok x25 x27.Name x29.Version) h32) orcN)))) ?_
      refine J_if2 36 (fun h33 => ?_) (fun h33 => ?_)
      · refine J_g 14924 [] [(2, iv 6)] [] orcN ?_
        exact J_r1 rfl
      · refine J_g 467 [] [(0, sl 8 (Pack.enc false) a1), (3, iv (w64 (s18 + 1)))] [] orcN ?_
        exact J_q (J_b (ih (w64 (s18 + 1)))) rfl
  · exact J_qw (hk ()) rfl

theorem spec_CatalogFault.ok (a1 : (List Pack)) : Ok Tryz.prog 45 [sl 8 (Pack.enc false) a1] [] ((spec_CatalogFault a1).map fun r => (iv r, [])) := by
  refine Ok_of3 c45 Tryz.f45 0 37 (fun q => ?_)
  unfold spec_CatalogFault
  refine J_g 2 [] [(0, sl 8 (Pack.enc false) a1)] [] orcN ?_
  refine J_g 12 [] [(0, sl 8 (Pack.enc false) a1), (7, bv (decide ((a1.length : Int) > 24)))] [] orcN ?_
  refine J_if2 7 (fun h2 => ?_) (fun h2 => ?_)
  · refine J_g 52 [] [(2, iv 2)] [] orcN ?_
    exact J_r1 rfl
  · refine J_g 28 [] [(0, sl 8 (Pack.enc false) a1), (3, iv 0)] [] orcN ?_
    refine J_lqF (K0 := (fun r : Int => some (iv r, []))) (fun _ => rfl) (spec_CatalogFault_l1.ok a1 q _ (fun v34 => J_j ?_) 0)
    refine J_g 30 [] [(2, iv 0)] [] orcN ?_
    exact J_r1 rfl

noncomputable def c159 : Code := (Tryz.f159.body).getD .skip

theorem spec_l7Byte.ok (a1 : Int) : Ok Tryz.prog 159 [uv a1] [] ((spec_l7Byte a1).map fun r => (bv r, [])) := by
  refine Ok_of3 c159 Tryz.f159 0 17 (fun q => ?_)
  unfold spec_l7Byte
  refine J_g 2 [] [(0, uv a1)] [] orcN ?_
  refine J_bind (fun x2 h3 => ?_)
  refine J_ite (fun h4 => ?_) (fun h4 => ?_)
  · refine J_g 6 [] [(2, bv true)] [] (orcC 1 (x_c0 [(.tmp 3)] [5] (spec_l1Name.ok a1) h3) (orcL 2 [(4, bv x2)] [] h4 orcN)) ?_
    exact J_r1 rfl
  · refine J_ite (fun h5 => ?_) (fun h5 => ?_)
    · refine J_g 6 [] [(2, bv true)] [] (orcC 1 (x_c0 [(.tmp 3)] [5] (spec_l1Name.ok a1) h3) (orcL 2 [(4, bv x2)] [] h4 (orcL 6 [(8, bv (a1 == 46))] [] h5 orcN))) ?_
      exact J_r1 rfl
    · refine J_ite (fun h6 => ?_) (fun h6 => ?_)
      · refine J_g 6 [] [(2, bv true)] [] (orcC 1 (x_c0 [(.tmp 3)] [5] (spec_l1Name.ok a1) h3) (orcL 2 [(4, bv x2)] [] h4 (orcL 6 [(8, bv (a1 == 46))] [] h5 (orcL 10 [(12, bv (a1 == 45))] [] h6 orcN)))) ?_
        exact J_r1 rfl
      · refine J_g 6 [] [(2, bv (a1 == 47))] [] (orcC 1 (x_c0 [(.tmp 3)] [5] (spec_l1Name.ok a1) h3) (orcL 2 [(4, bv x2)] [] h4 (orcL 6 [(8, bv (a1 == 46))] [] h5 (orcL 10 [(12, bv (a1 == 45))] [] h6 orcN)))) ?_
        exact J_r1 rfl

noncomputable def c118 : Code := (Tryz.f118.body).getD .skip

theorem spec_PathFault_l1.ok (a1 : ByteArray) (q : Wd) (kn : Unit → Option (D × List Ent)) (hk : ∀ v : Unit, J (q.g Tryz.prog 118 0 23) c118 (atI c118 15) (St.mk' [] []) (some v) kn) :
    ∀ s11 : Int, J (q.g Tryz.prog 118 0 23) c118 (atI c118 116) (St.mk' [(0, sv a1), (3, iv s11)] []) (spec_PathFault_l1 a1 s11) (Fl.go (fun r : Int => some (iv r, [])) kn) := by
  refine J_lp (fun g ih s11 => ?_)
  unfold spec_PathFault_l1b
  refine J_g 464 [] [(0, sv a1), (3, iv s11), (15, bv (decide (s11 < (a1.size : Int))))] [] orcN ?_
  refine J_if2 15 (fun h12 => ?_) (fun h12 => ?_)
  · refine J_bind (fun x13 h14 => ?_)
    refine J_bind (fun x15 h16 => ?_)
    refine J_g 1864 [] [(0, sv a1), (3, iv s11), (22, bv (!x15))] [] (orcC 2 (x_bi (kk := .i64) 9 (.tmp 18) (.tmp 19) h14) (orcC 3 (x_c0 [(.tmp 20)] [5] (spec_l7Byte.ok x13) h16) orcN)) ?_
    refine J_if2 22 (fun h17 => ?_) (fun h17 => ?_)
    · refine J_g 7460 [] [(2, iv 5)] [] orcN ?_
      exact J_r1 rfl
    · refine J_g 467 [] [(0, sv a1), (3, iv (w64 (s11 + 1)))] [] orcN ?_
      exact J_q (J_b (ih (w64 (s11 + 1)))) rfl
  · exact J_qw (hk ()) rfl

theorem spec_PathFault.ok (a1 : ByteArray) : Ok Tryz.prog 118 [sv a1] [] ((spec_PathFault a1).map fun r => (iv r, [])) := by
  refine Ok_of3 c118 Tryz.f118 0 23 (fun q => ?_)
  unfold spec_PathFault
  refine J_g 2 [] [(0, sv a1)] [] orcN ?_
  refine J_join (atI c118 13) (fun v3 : Bool => St.mk' [(0, sv a1), (11, bv v3)] []) (fun v3 => ?_) (fun jv3 => ?_)
  · refine J_if2 11 (fun h4 => ?_) (fun h4 => ?_)
    · refine J_g 52 [] [(2, iv 5)] [] orcN ?_
      exact J_r1 rfl
    · refine J_g 28 [] [(0, sv a1), (3, iv 0)] [] orcN ?_
      refine J_lqF (K0 := (fun r : Int => some (iv r, []))) (fun _ => rfl) (spec_PathFault_l1.ok a1 q _ (fun v18 => J_j ?_) 0)
      refine J_g 30 [] [(2, iv 0)] [] orcN ?_
      exact J_r1 rfl
  · refine J_ite (fun h2 => ?_) (fun h2 => ?_)
    · refine J_g 12 [] [(0, sv a1), (11, bv true)] [] (orcL 3 [(6, bv (decide ((a1.size : Int) < 1)))] [] h2 orcN) ?_
      exact J_qw (J_j (jv3 true)) rfl
    · refine J_g 12 [] [(0, sv a1), (11, bv (decide ((a1.size : Int) > 40)))] [] (orcL 3 [(6, bv (decide ((a1.size : Int) < 1)))] [] h2 orcN) ?_
      exact J_qw (J_j (jv3 (decide ((a1.size : Int) > 40)))) rfl

noncomputable def c119 : Code := (Tryz.f119.body).getD .skip

theorem spec_l7Total_l1.ok (a1 : Disk) (q : Wd) (kn : Int → Option (D × List Ent)) (hk : ∀ v : Int, J (q.g Tryz.prog 119 1 26) c119 (atI c119 15) (St.mk' [(3, iv v)] [(0, .box (Disk.enc false a1))]) (some v) kn) :
    ∀ s5 : (Int × Int), J (q.g Tryz.prog 119 1 26) c119 (atI c119 116) (St.mk' [(0, pp 0), (3, iv s5.1), (4, iv s5.2)] [(0, .box (Disk.enc false a1))]) (spec_l7Total_l1 a1 s5) kn := by
  refine J_lp (fun g ih s5 => ?_)
  unfold spec_l7Total_l1b
  refine J_g 464 [] [(0, pp 0), (3, iv s5.1), (4, iv s5.2), (11, bv (decide (s5.2 < (a1.Files.length : Int))))] [(0, .box (Disk.enc false a1))] orcN ?_
  refine J_if2 11 (fun h6 => ?_) (fun h6 => ?_)
  · refine J_bind (fun x7 h8 => ?_)
    refine J_g 932 [] [(0, pp 0), (3, iv (w64 (s5.1 + (x7.Data.length : Int)))), (4, iv s5.2)] [(0, .box (Disk.enc false a1))] (orcC 6 (x_ix (kk := .i64) 44 121 2 (File.enc false) (.tmp 18) (.tmp 19) h8) orcN) ?_
    refine J_g 467 [] [(0, pp 0), (3, iv (w64 (s5.1 + (x7.Data.length : Int)))), (4, iv (w64 (s5.2 + 1)))] [(0, .box (Disk.enc false a1))] orcN ?_
    exact J_q (J_b (ih (w64 (s5.1 + (x7.Data.length : Int)), w64 (s5.2 + 1)))) rfl
  · exact J_qw (hk s5.1) rfl

theorem spec_l7Total.ok (a1 : Disk) : Ok Tryz.prog 119 [pp 0] [.box (Disk.enc false a1)] ((spec_l7Total a1).map fun r => (iv r, [.box (Disk.enc false a1)])) := by
  refine Ok_of3 c119 Tryz.f119 1 26 (fun q => ?_)
  unfold spec_l7Total
  refine J_g 2 [] [(0, pp 0)] [(0, .box (Disk.enc false a1))] orcN ?_
  refine J_g 6 [] [(0, pp 0), (3, iv 0)] [(0, .box (Disk.enc false a1))] orcN ?_
  refine J_g 28 [] [(0, pp 0), (3, iv 0), (4, iv 0)] [(0, .box (Disk.enc false a1))] orcN ?_
  refine J_lq (spec_l7Total_l1.ok a1 q _ (fun v9 => J_j ?_) (0, 0))
  refine J_g 30 [] [(2, iv v9)] [(0, .box (Disk.enc false a1))] orcN ?_
  exact J_r1 rfl

noncomputable def c73 : Code := (Tryz.f73.body).getD .skip

theorem spec_DiskFault_l1.ok (a1 : Disk) (q : Wd) (kn : Unit → Option (D × List Ent)) (hk : ∀ v : Unit, J (q.g Tryz.prog 73 0 72) c73 (atI c73 31) (St.mk' [(1, pp 0)] [(0, .box (Disk.enc false a1))]) (some v) kn) :
    ∀ s29 : Int, J (q.g Tryz.prog 73 0 72) c73 (atI c73 244) (St.mk' [(1, pp 0), (3, iv s29)] [(0, .box (Disk.enc false a1))]) (spec_DiskFault_l1 a1 s29) (Fl.go (fun r : Int => some (iv r, [])) kn) := by
  refine J_lp (fun g ih s29 => ?_)
  unfold spec_DiskFault_l1b
  refine J_g 976 [] [(1, pp 0), (3, iv s29), (29, bv (decide (s29 < (a1.Files.length : Int))))] [(0, .box (Disk.enc false a1))] orcN ?_
  refine J_if2 29 (fun h30 => ?_) (fun h30 => ?_)
  · refine J_bind (fun x31 h32 => ?_)
    refine J_bind (fun x33 h34 => ?_)
    refine J_g 7824 [] [(1, pp 0), (3, iv s29), (4, iv x33)] [(0, .box (Disk.enc false a1))] (orcC 3 (x_ix (kk := .i64) 44 121 2 (File.enc false) (.tmp 33) (.tmp 34) h32) (orcC 6 (x_c0 [(.tmp 37)] [9] (spec_PathFault.ok x31.Path) h34) orcN)) ?_
    refine J_g 15650 [] [(1, pp 0), (3, iv s29), (4, iv x33), (40, bv (x33 != 0))] [(0, .box (Disk.enc false a1))] orcN ?_
    refine J_if2 40 (fun h35 => ?_) (fun h35 => ?_)
    · refine J_g 62604 [] [(2, iv x33)] [] orcN ?_
      exact J_r1 rfl
    · refine J_join (atI c73 15653) (fun v41 : Bool => St.mk' [(1, pp 0), (3, iv s29), (59, bv v41)] [(0, .box (Disk.enc false a1))]) (fun v41 => ?_) (fun jv41 => ?_)
      · refine J_if2 59 (fun h42 => ?_) (fun h42 => ?_)
        · refine J_g 62612 [] [(2, iv 1)] [] orcN ?_
          exact J_r1 rfl
        · refine J_bind (fun x43 h44 => ?_)
          refine J_g 15654 [] [(1, pp 0), (3, iv s29), (67, bv (decide ((x43.Data.length : Int) > 4000)))] [(0, .box (Disk.enc false a1))] (orcC 3 (x_ix (kk := .i64) 44 121 2 (File.enc false) (.tmp 61) (.tmp 62) h44) orcN) ?_
          refine J_if2 67 (fun h45 => ?_) (fun h45 => ?_)
          · refine J_g 62620 [] [(2, iv 2)] [] orcN ?_
            exact J_r1 rfl
          · refine J_g 979 [] [(1, pp 0), (3, iv (w64 (s29 + 1)))] [(0, .box (Disk.enc false a1))] orcN ?_
            exact J_q (J_b (ih (w64 (s29 + 1)))) rfl
      · refine J_ite (fun h36 => ?_) (fun h36 => ?_)
        · refine J_bind (fun x37 h38 => ?_)
          refine J_bind (fun x39 h40 => ?_)
          refine J_g 15652 [] [(1, pp 0), (3, iv s29), (59, bv (slt x37.Path x39.Path || seq x37.Path x39.Path))] [(0, .box (Disk.enc false a1))] (orcL 2 [(43, bv (decide (s29 > 0)))] [] h36 (orcH 6 2 44 true (x_ix (kk := .i64) 44 121 2 (File.enc false) (.tmp 46) (.tmp 47) h38) (orcH 13 2 44 true (x_ix (kk := .i64) 44 121 2 (File.enc false) (.tmp 52) (.tmp 54) h40) orcN))) ?_
          exact J_qw (J_j (jv41 (slt x37.Path x39.Path || seq x37.Path x39.Path))) rfl
        · refine J_g 15652 [] [(1, pp 0), (3, iv s29), (59, bv false)] [(0, .box (Disk.enc false a1))] (orcL 2 [(43, bv (decide (s29 > 0)))] [] h36 orcN) ?_
          exact J_qw (J_j (jv41 false)) rfl
  · exact J_qw (hk ()) rfl

theorem spec_DiskFault.ok (a1 : Disk) : Ok Tryz.prog 73 [.ag (Disk.enc false a1)] [] ((spec_DiskFault a1).map fun r => (iv r, [])) := by
  refine Ok_of3 c73 Tryz.f73 0 72 (fun q => ?_)
  unfold spec_DiskFault
  refine J_g 2 [(0, 0)] [(1, pp 0)] [(0, .box (Disk.enc false a1))] orcN ?_
  refine J_bind (fun x2 h3 => ?_)
  refine J_join (atI c73 13) (fun v10 : Bool => St.mk' [(1, pp 0), (20, bv v10)] [(0, .box (Disk.enc false a1))]) (fun v10 => ?_) (fun jv10 => ?_)
  · refine J_if2 20 (fun h11 => ?_) (fun h11 => ?_)
    · refine J_g 52 [] [(2, iv 3)] [] orcN ?_
      exact J_r1 rfl
    · refine J_g 28 [] [(1, pp 0), (24, bv (decide ((a1.Files.length : Int) > 120)))] [(0, .box (Disk.enc false a1))] orcN ?_
      refine J_if2 24 (fun h12 => ?_) (fun h12 => ?_)
      · refine J_g 116 [] [(2, iv 2)] [] orcN ?_
        exact J_r1 rfl
      · refine J_g 60 [] [(1, pp 0), (3, iv 0)] [(0, .box (Disk.enc false a1))] orcN ?_
        refine J_lqF (K0 := (fun r : Int => some (iv r, []))) (fun _ => rfl) (spec_DiskFault_l1.ok a1 q _ (fun v46 => J_j ?_) 0)
        refine J_bind (fun x47 h48 => ?_)
        refine J_g 124 [] [(71, bv (decide (x47 > a1.Budget)))] [] (orcC 0 (x_ro [(0, .box (Disk.enc false a1))] [] (x_c1 («as» := [pp 0]) [(.tmp 1)] [101] false [(0, .box (Disk.enc false a1))] [0] (.cons (.pt rfl) (.nil)) (spec_l7Total.ok a1) h48 (.same rfl rfl))) orcN) ?_
        refine J_if2 71 (fun h49 => ?_) (fun h49 => ?_)
        · refine J_g 500 [] [(2, iv 8)] [] orcN ?_
          exact J_r1 rfl
        · refine J_g 126 [] [(2, iv 0)] [] orcN ?_
          exact J_r1 rfl
  · refine J_ite (fun h4 => ?_) (fun h4 => ?_)
    · refine J_g 12 [] [(1, pp 0), (20, bv true)] [(0, .box (Disk.enc false a1))] (orcC 2 (x_c0 [(.tmp 6), (.const (.int .i64 0)), (.const (.int .i64 20000))] [2, 2, 2] (spec_l1In.ok a1.Budget 0 20000) h3) (orcL 4 [(8, bv (!x2))] [] h4 orcN)) ?_
      exact J_qw (J_j (jv10 true)) rfl
    · refine J_bind (fun x5 h6 => ?_)
      refine J_ite (fun h7 => ?_) (fun h7 => ?_)
      · refine J_g 12 [] [(1, pp 0), (20, bv true)] [(0, .box (Disk.enc false a1))] (orcC 2 (x_c0 [(.tmp 6), (.const (.int .i64 0)), (.const (.int .i64 20000))] [2, 2, 2] (spec_l1In.ok a1.Budget 0 20000) h3) (orcL 4 [(8, bv (!x2))] [] h4 (orcH 7 4 9 false (x_c0 [(.tmp 11), (.const (.int .i64 0)), (.const (.int .i64 1000000000))] [2, 2, 2] (spec_l1In.ok a1.Writes 0 1000000000) h6) (orcL 10 [(14, bv (!x5))] [] h7 orcN)))) ?_
        exact J_qw (J_j (jv10 true)) rfl
      · refine J_bind (fun x8 h9 => ?_)
        refine J_g 12 [] [(1, pp 0), (20, bv (!x8))] [(0, .box (Disk.enc false a1))] (orcC 2 (x_c0 [(.tmp 6), (.const (.int .i64 0)), (.const (.int .i64 20000))] [2, 2, 2] (spec_l1In.ok a1.Budget 0 20000) h3) (orcL 4 [(8, bv (!x2))] [] h4 (orcH 7 4 9 false (x_c0 [(.tmp 11), (.const (.int .i64 0)), (.const (.int .i64 1000000000))] [2, 2, 2] (spec_l1In.ok a1.Writes 0 1000000000) h6) (orcL 10 [(14, bv (!x5))] [] h7 (orcH 13 10 15 false (x_c0 [(.tmp 17), (.const (.int .i64 (-1))), (.const (.int .i64 1000000000))] [2, 2, 2] (spec_l1In.ok a1.Stop (-1) 1000000000) h9) orcN))))) ?_
        exact J_qw (J_j (jv10 (!x8))) rfl

noncomputable def c62 : Code := (Tryz.f62.body).getD .skip

theorem spec_l8Asked.ok (a1 : (List Pack)) (a2 : Disk) : Ok Tryz.prog 62 [sl 8 (Pack.enc false) a1, .ag (Disk.enc false a2)] [] ((spec_l8Asked a1 a2).map fun r => (iv r, [])) := by
  refine Ok_of3 c62 Tryz.f62 0 13 (fun q => ?_)
  unfold spec_l8Asked
  refine J_g 2 [(0, 0)] [(0, sl 8 (Pack.enc false) a1), (3, pp 0)] [(0, .box (Disk.enc false a2))] orcN ?_
  refine J_bind (fun x3 h4 => ?_)
  refine J_g 12 [] [(3, pp 0), (5, iv x3)] [(0, .box (Disk.enc false a2))] (orcC 1 (x_c0 [(.tmp 6)] [29] (spec_CatalogFault.ok a1) h4) orcN) ?_
  refine J_g 26 [] [(3, pp 0), (5, iv x3), (9, bv (x3 != 0))] [(0, .box (Disk.enc false a2))] orcN ?_
  refine J_if2 9 (fun h5 => ?_) (fun h5 => ?_)
  · refine J_g 108 [] [(4, iv x3)] [] orcN ?_
    exact J_r1 rfl
  · refine J_bind (fun x6 h7 => ?_)
    refine J_g 14 [] [(4, iv x6)] [] (orcC 1 (x_c0 [(.tmp 11)] [46] (spec_DiskFault.ok a2) h7) orcN) ?_
    exact J_r1 rfl

noncomputable def c47 : Code := (Tryz.f47.body).getD .skip

theorem spec_l3Set_l1.ok (a1 : (List Pack)) (a2 : (List Int)) (q : Wd) (kn : Unit → Option (D × List Ent)) (hk : ∀ v : Unit, J (q.g Tryz.prog 47 0 37) c47 (atI c47 7) (St.mk' [] []) (some v) kn) :
    ∀ s16 : Int, J (q.g Tryz.prog 47 0 37) c47 (atI c47 52) (St.mk' [(0, sl 8 (Pack.enc false) a1), (1, sl 1 eI64 a2), (5, iv s16)] []) (spec_l3Set_l1 a1 a2 s16) (Fl.go (fun r : Bool => some (bv r, [])) kn) := by
  refine J_lp (fun g ih s16 => ?_)
  unfold spec_l3Set_l1b
  refine J_g 208 [] [(0, sl 8 (Pack.enc false) a1), (1, sl 1 eI64 a2), (5, iv s16), (9, bv (decide (s16 < (a2.length : Int))))] [] orcN ?_
  refine J_if2 9 (fun h17 => ?_) (fun h17 => ?_)
  · refine J_bind (fun x18 h19 => ?_)
    refine J_bind (fun x20 h21 => ?_)
    refine J_join (atI c47 841) (fun v28 : Bool => St.mk' [(0, sl 8 (Pack.enc false) a1), (1, sl 1 eI64 a2), (5, iv s16), (36, bv v28)] []) (fun v28 => ?_) (fun jv28 => ?_)
    · refine J_if2 36 (fun h29 => ?_) (fun h29 => ?_)
      · refine J_g 3364 [] [(4, bv false)] [] orcN ?_
        exact J_r1 rfl
      · refine J_g 211 [] [(0, sl 8 (Pack.enc false) a1), (1, sl 1 eI64 a2), (5, iv (w64 (s16 + 1)))] [] orcN ?_
        exact J_q (J_b (ih (w64 (s16 + 1)))) rfl
    · refine J_ite (fun h22 => ?_) (fun h22 => ?_)
      · refine J_g 840 [] [(0, sl 8 (Pack.enc false) a1), (1, sl 1 eI64 a2), (5, iv s16), (36, bv true)] [] (orcC 2 (x_ix (kk := .i64) 41 2 1 eI64 (.tmp 12) (.tmp 13) h19) (orcC 7 (x_c0 [(.tmp 15), (.const (.int .i64 0)), (.tmp 18)] [2, 2, 2] (spec_l1In.ok x18 0 (w64 ((a1.length : Int) - 1))) h21) (orcL 9 [(20, bv (!x20))] [] h22 (orcV 12 (orcU (i := 12) (g := 9) (t := 21) (b := false) (v := (.bool true)) (.inl rfl) (by kernel_rfl) (by kernel_rfl)) (orcV 13 (orcU (i := 13) (g := 12) (t := 24) (b := true) (v := undef) (.inr rfl) (by kernel_rfl) (by kernel_rfl)) (orcV 14 (orcU (i := 14) (g := 12) (t := 24) (b := true) (v := undef) (.inr rfl) (by kernel_rfl) (by kernel_rfl)) (orcV 15 (orcU (i := 15) (g := 12) (t := 24) (b := true) (v := undef) (.inr rfl) (by kernel_rfl) (by kernel_rfl)) (orcV 16 (orcU (i := 16) (g := 12) (t := 24) (b := true) (v := undef) (.inr rfl) (by kernel_rfl) (by kernel_rfl)) (orcV 17 (orcU (i := 17) (g := 12) (t := 24) (b := true) (v := undef) (.inr rfl) (by kernel_rfl) (by kernel_rfl)) (orcV 18 (orcU (i := 18) (g := 12) (t := 24) (b := true) (v := undef) (.inr rfl) (by kernel_rfl) (by kernel_rfl)) (orcV 19 (orcU (i := 19) (g := 12) (t := 24) (b := true) (v := undef) (.inr rfl) (by kernel_rfl) (by kernel_rfl)) (orcV 20 (orcU (i := 20) (g := 12) (t := 24) (b := true) (v := undef) (.inr rfl) (by kernel_rfl) (by kernel_rfl)) (orcV 21 (orcU (i := 21) (g := 12) (t := 24) (b := true) (v := undef) (.inr rfl) (by kernel_rfl) (by kernel_rfl)) (orcV 22 (orcU (i := 22) (g := 12) (t := 24) (b := true) (v := undef) (.inr rfl) (by kernel_rfl) (by kernel_rfl)) orcN)))))))))))))) ?_
        exact J_qw (J_j (jv28 true)) rfl
      · refine J_ite (fun h23 => ?_) (fun h23 => ?_)
        · refine J_bind (fun x24 h25 => ?_)
          refine J_bind (fun x26 h27 => ?_)
          refine J_g 840 [] [(0, sl 8 (Pack.enc false) a1), (1, sl 1 eI64 a2), (5, iv s16), (36, bv (decide (x24 ≤ x26)))] [] (orcC 2 (x_ix (kk := .i64) 41 2 1 eI64 (.tmp 12) (.tmp 13) h19) (orcC 7 (x_c0 [(.tmp 15), (.const (.int .i64 0)), (.tmp 18)] [2, 2, 2] (spec_l1In.ok x18 0 (w64 ((a1.length : Int) - 1))) h21) (orcL 9 [(20, bv (!x20))] [] h22 (orcLG 12 9 21 false [(23, bv (decide (s16 > 0)))] [] h23 (orcH 15 12 24 true (x_ix (kk := .i64) 41 2 1 eI64 (.tmp 25) (.tmp 26) h25) (orcH 20 12 24 true (x_ix (kk := .i64) 41 2 1 eI64 (.tmp 29) (.tmp 31) h27) orcN)))))) ?_
          exact J_qw (J_j (jv28 (decide (x24 ≤ x26)))) rfl
        · refine J_g 840 [] [(0, sl 8 (Pack.enc false) a1), (1, sl 1 eI64 a2), (5, iv s16), (36, bv false)] [] (orcC 2 (x_ix (kk := .i64) 41 2 1 eI64 (.tmp 12) (.tmp 13) h19) (orcC 7 (x_c0 [(.tmp 15), (.const (.int .i64 0)), (.tmp 18)] [2, 2, 2] (spec_l1In.ok x18 0 (w64 ((a1.length : Int) - 1))) h21) (orcL 9 [(20, bv (!x20))] [] h22 (orcLG 12 9 21 false [(23, bv (decide (s16 > 0)))] [] h23 orcN)))) ?_
          exact J_qw (J_j (jv28 false)) rfl
  · exact J_qw (hk ()) rfl

theorem spec_l3Set.ok (a1 : (List Pack)) (a2 : (List Int)) : Ok Tryz.prog 47 [sl 8 (Pack.enc false) a1, sl 1 eI64 a2] [] ((spec_l3Set a1 a2).map fun r => (bv r, [])) := by
  refine Ok_of3 c47 Tryz.f47 0 37 (fun q => ?_)
  unfold spec_l3Set
  refine J_g 2 [] [(0, sl 8 (Pack.enc false) a1), (1, sl 1 eI64 a2)] [] orcN ?_
  refine J_g 12 [] [(0, sl 8 (Pack.enc false) a1), (1, sl 1 eI64 a2), (5, iv 0)] [] orcN ?_
  refine J_lqF (K0 := (fun r : Bool => some (bv r, []))) (fun _ => rfl) (spec_l3Set_l1.ok a1 a2 q _ (fun v30 => J_j ?_) 0)
  refine J_g 14 [] [(4, bv true)] [] orcN ?_
  exact J_r1 rfl

noncomputable def c129 : Code := (Tryz.f129.body).getD .skip

theorem spec_l1Decimal.ok (a1 : Int) : Ok Tryz.prog 129 [iv a1] [] ((spec_l1Decimal a1).map fun r => (sv r, [])) := by
  have key : ∀ (n : Nat) (a1 : Int), Ok Tryz.prog 129 [iv a1] [] ((recF spec_l1Decimal_r n a1).map fun r => (sv r, [])) := by
    intro n
    induction n with
    | zero => intro a1; exact Ok_none
    | succ n ih =>
      intro a1
      refine Ok_of3 c129 Tryz.f129 0 20 (fun q => ?_)
      unfold recF spec_l1Decimal_r
      refine J_g 2 [] [(0, iv a1)] [] orcN ?_
      refine J_g 12 [] [(0, iv a1), (4, bv (decide (a1 < 10)))] [] orcN ?_
      refine J_if2 4 (fun h2 => ?_) (fun h2 => ?_)
      · refine J_g 52 [] [(2, sv (b2s [IntKind.u8.wrap (w64 (48 + a1))]))] [] (orcC 3 (x_bp 119 5 1 0 eU8 [IntKind.u8.wrap (w64 (48 + a1))] [0] [(.tmp 7)] [uv (IntKind.u8.wrap (w64 (48 + a1)))]) (orcC 4 (x_b2sr (xs := [IntKind.u8.wrap (w64 (48 + a1))]) 119 9 5 0 (.tmp 8)) orcN)) ?_
        exact J_r1 rfl
      · refine J_bind (fun x3 h4 => ?_)
        refine J_bind (fun x5 h6 => ?_)
        refine J_g 14 [] [(2, sv x5)] [] (orcC 2 (x_c0 [(.tmp 11)] [2] (ih (w64 (a1.tdiv 10))) h4) (orcC 7 (x_bp 119 5 1 0 eU8 [IntKind.u8.wrap (w64 (48 + (a1.tmod 10)))] [0] [(.tmp 16)] [uv (IntKind.u8.wrap (w64 (48 + (a1.tmod 10))))]) (orcC 8 (x_b2sr (xs := [IntKind.u8.wrap (w64 (48 + (a1.tmod 10)))]) 119 9 5 0 (.tmp 17)) (orcC 9 (x_cat 9 9 (.tmp 12) (.tmp 18) h6) orcN)))) ?_
        exact J_r1 rfl
  exact key 64 a1

noncomputable def c138 : Code := (Tryz.f138.body).getD .skip

theorem spec_FormatVersion.ok (a1 : Version) : Ok Tryz.prog 138 [.ag (Version.enc a1)] [] ((spec_FormatVersion a1).map fun r => (sv r, [])) := by
  refine Ok_of3 c138 Tryz.f138 0 19 (fun q => ?_)
  unfold spec_FormatVersion
  refine J_g 2 [(0, 0)] [(1, pp 0)] [(0, .box (Version.enc a1))] orcN ?_
  refine J_bind (fun x2 h3 => ?_)
  refine J_g 12 [] [(1, pp 0), (5, bv (x2 != 0))] [(0, .box (Version.enc a1))] (orcC 1 (x_c0 [(.tmp 3)] [83] (spec_VersionFault.ok a1) h3) orcN) ?_
  refine J_if2 5 (fun h4 => ?_) (fun h4 => ?_)
  · refine J_g 52 [] [(2, sv (bs []))] [] orcN ?_
    exact J_r1 rfl
  · refine J_bind (fun x5 h6 => ?_)
    refine J_bind (fun x7 h8 => ?_)
    refine J_bind (fun x9 h10 => ?_)
    refine J_bind (fun x11 h12 => ?_)
    refine J_bind (fun x13 h14 => ?_)
    refine J_bind (fun x15 h16 => ?_)
    refine J_bind (fun x17 h18 => ?_)
    refine J_g 14 [] [(2, sv x17)] [] (orcC 2 (x_c0 [(.tmp 7)] [2] (spec_l1Decimal.ok a1.A) h6) (orcC 3 (x_cat 9 9 (.tmp 8) (.const (.string (bs [46]))) h8) (orcC 6 (x_c0 [(.tmp 11)] [2] (spec_l1Decimal.ok a1.B) h10) (orcC 7 (x_cat 9 9 (.tmp 9) (.tmp 12) h12) (orcC 8 (x_cat 9 9 (.tmp 13) (.const (.string (bs [46]))) h14) (orcC 11 (x_c0 [(.tmp 16)] [2] (spec_l1Decimal.ok a1.C) h16) (orcC 12 (x_cat 9 9 (.tmp 14) (.tmp 17) h18) orcN))))))) ?_
    exact J_r1 rfl

noncomputable def c108 : Code := (Tryz.f108.body).getD .skip

theorem spec_l8Path.ok (a1 : Pack) : Ok Tryz.prog 108 [.ag (Pack.enc false a1)] [] ((spec_l8Path a1).map fun r => (sv r, [])) := by
  refine Ok_of3 c108 Tryz.f108 0 11 (fun q => ?_)
  unfold spec_l8Path
  refine J_g 2 [(0, 0)] [(1, pp 0)] [(0, .box (Pack.enc false a1))] orcN ?_
  refine J_bind (fun x2 h3 => ?_)
  refine J_bind (fun x4 h5 => ?_)
  refine J_bind (fun x6 h7 => ?_)
  refine J_bind (fun x8 h9 => ?_)
  refine J_g 6 [] [(2, sv x8)] [] (orcC 2 (x_cat 9 9 (.const (.string (bs [112, 107, 103, 47]))) (.tmp 4) h3) (orcC 3 (x_cat 9 9 (.tmp 5) (.const (.string (bs [45]))) h5) (orcC 6 (x_c0 [(.tmp 8)] [83] (spec_FormatVersion.ok a1.Version) h7) (orcC 7 (x_cat 9 9 (.tmp 6) (.tmp 9) h9) orcN)))) ?_
  exact J_r1 rfl

noncomputable def c107 : Code := (Tryz.f107.body).getD .skip

theorem spec_l7Find_l1.ok (a1 : Disk) (a2 : ByteArray) (q : Wd) (kn : Unit → Option (D × List Ent)) (hk : ∀ v : Unit, J (q.g Tryz.prog 107 1 26) c107 (atI c107 7) (St.mk' [] [(0, .box (Disk.enc false a1))]) (some v) kn) :
    ∀ s7 : Int, J (q.g Tryz.prog 107 1 26) c107 (atI c107 52) (St.mk' [(0, pp 0), (1, sv a2), (5, iv s7)] [(0, .box (Disk.enc false a1))]) (spec_l7Find_l1 a1 a2 s7) (Fl.go (fun r : Int => some (iv r, [.box (Disk.enc false a1)])) kn) := by
  refine J_lp (fun g ih s7 => ?_)
  unfold spec_l7Find_l1b
  refine J_g 208 [] [(0, pp 0), (1, sv a2), (5, iv s7), (12, bv (decide (s7 < (a1.Files.length : Int))))] [(0, .box (Disk.enc false a1))] orcN ?_
  refine J_if2 12 (fun h8 => ?_) (fun h8 => ?_)
  · refine J_bind (fun x9 h10 => ?_)
    refine J_g 840 [] [(0, pp 0), (1, sv a2), (5, iv s7), (24, bv (seq x9.Path a2))] [(0, .box (Disk.enc false a1))] (orcC 5 (x_ix (kk := .i64) 44 121 2 (File.enc false) (.tmp 18) (.tmp 19) h10) orcN) ?_
    refine J_if2 24 (fun h11 => ?_) (fun h11 => ?_)
    · refine J_g 3364 [] [(4, iv s7)] [(0, .box (Disk.enc false a1))] orcN ?_
      exact J_r1 rfl
    · refine J_g 211 [] [(0, pp 0), (1, sv a2), (5, iv (w64 (s7 + 1)))] [(0, .box (Disk.enc false a1))] orcN ?_
      exact J_q (J_b (ih (w64 (s7 + 1)))) rfl
  · exact J_qw (hk ()) rfl

theorem spec_l7Find.ok (a1 : Disk) (a2 : ByteArray) : Ok Tryz.prog 107 [pp 0, sv a2] [.box (Disk.enc false a1)] ((spec_l7Find a1 a2).map fun r => (iv r, [.box (Disk.enc false a1)])) := by
  refine Ok_of3 c107 Tryz.f107 1 26 (fun q => ?_)
  unfold spec_l7Find
  refine J_g 2 [] [(0, pp 0), (1, sv a2)] [(0, .box (Disk.enc false a1))] orcN ?_
  refine J_g 12 [] [(0, pp 0), (1, sv a2), (5, iv 0)] [(0, .box (Disk.enc false a1))] orcN ?_
  refine J_lqF (K0 := (fun r : Int => some (iv r, [.box (Disk.enc false a1)]))) (fun _ => rfl) (spec_l7Find_l1.ok a1 a2 q _ (fun v12 => J_j ?_) 0)
  refine J_g 14 [] [(4, iv (-1))] [(0, .box (Disk.enc false a1))] orcN ?_
  exact J_r1 rfl

noncomputable def c110 : Code := (Tryz.f110.body).getD .skip

theorem spec_l2Bytes_l2.ok (a1 : Pack) (q : Wd) (kn : (List Int) → Option (D × List Ent)) (hk : ∀ v : (List Int), J (q.g Tryz.prog 110 0 50) c110 (atI c110 63) (St.mk' [(5, rr 1 v)] [(1, rE 1 eU8 v)]) (some v) kn) :
    ∀ s13 : (Int × (List Int) × Int), J (q.g Tryz.prog 110 0 50) c110 (atI c110 500) (St.mk' [(1, pp 0), (3, iv s13.1), (5, rr 1 s13.2.1), (6, iv s13.2.2)] [(0, .box (Pack.enc false a1)), (1, rE 1 eU8 s13.2.1)]) (spec_l2Bytes_l2 a1 s13) kn := by
  refine J_lp (fun g ih s13 => ?_)
  unfold spec_l2Bytes_l2b
  refine J_g 2000 [] [(1, pp 0), (3, iv s13.1), (5, rr 1 s13.2.1), (6, iv s13.2.2), (36, bv (decide (s13.2.2 < a1.Size)))] [(0, .box (Pack.enc false a1)), (1, rE 1 eU8 s13.2.1)] orcN ?_
  refine J_if2 36 (fun h14 => ?_) (fun h14 => ?_)
  · refine J_g 8008 [] [(1, pp 0), (3, iv (s13.1.tmod 256)), (5, rr 1 s13.2.1), (6, iv s13.2.2)] [(0, .box (Pack.enc false a1)), (1, rE 1 eU8 s13.2.1)] orcN ?_
    refine J_bind (fun x15 h16 => ?_)
    refine J_g 16018 [] [(1, pp 0), (3, iv (s13.1.tmod 256)), (5, rr 3 x15), (6, iv s13.2.2)] [(0, .box (Pack.enc false a1)), (3, rE 1 eU8 x15)] (orcC 3 (x_bp 119 5 1 2 eU8 [IntKind.u8.wrap (s13.1.tmod 256)] [0] [(.tmp 43)] [uv (IntKind.u8.wrap (s13.1.tmod 256))]) (orcC 4 (x_ap 119 119 5 5 1 1 3 1 2 eU8 (.tmp 41) (.tmp 44) h16) orcN)) ?_
    refine J_g 16019 [] [(1, pp 0), (3, iv (w64 ((w64 (31 * (s13.1.tmod 256))) + 7))), (5, rr 3 x15), (6, iv s13.2.2)] [(0, .box (Pack.enc false a1)), (3, rE 1 eU8 x15)] orcN ?_
    refine J_g 2003 [] [(1, pp 0), (3, iv (w64 ((w64 (31 * (s13.1.tmod 256))) + 7))), (5, rr 3 x15), (6, iv (w64 (s13.2.2 + 1)))] [(0, .box (Pack.enc false a1)), (3, rE 1 eU8 x15)] orcN ?_
    refine J_ren 3 1 (Nat.le_of_ble_eq_true rfl) (Nat.le_of_ble_eq_true rfl) ?_
    exact J_q (J_b (ih (w64 ((w64 (31 * (s13.1.tmod 256))) + 7), x15, w64 (s13.2.2 + 1)))) rfl
  · exact J_qw (hk s13.2.1) rfl

theorem spec_l2Bytes_l1.ok (a1 : Pack) (q : Wd) (kn : Int → Option (D × List Ent)) (hk : ∀ v : Int, J (q.g Tryz.prog 110 0 50) c110 (atI c110 15) (St.mk' [(1, pp 0), (3, iv v)] [(0, .box (Pack.enc false a1))]) (some v) kn) :
    ∀ s5 : (Int × Int), J (q.g Tryz.prog 110 0 50) c110 (atI c110 116) (St.mk' [(1, pp 0), (3, iv s5.1), (4, iv s5.2)] [(0, .box (Pack.enc false a1))]) (spec_l2Bytes_l1 a1 s5) kn := by
  refine J_lp (fun g ih s5 => ?_)
  unfold spec_l2Bytes_l1b
  refine J_g 464 [] [(1, pp 0), (3, iv s5.1), (4, iv s5.2), (22, bv (decide (s5.2 < (a1.Name.size : Int))))] [(0, .box (Pack.enc false a1))] orcN ?_
  refine J_if2 22 (fun h6 => ?_) (fun h6 => ?_)
  · refine J_bind (fun x7 h8 => ?_)
    refine J_g 932 [] [(1, pp 0), (3, iv (w64 (s5.1 + (w64 (x7))))), (4, iv s5.2)] [(0, .box (Pack.enc false a1))] (orcC 4 (x_bi (kk := .i64) 9 (.tmp 27) (.tmp 28) h8) orcN) ?_
    refine J_g 467 [] [(1, pp 0), (3, iv (w64 (s5.1 + (w64 (x7))))), (4, iv (w64 (s5.2 + 1)))] [(0, .box (Pack.enc false a1))] orcN ?_
    exact J_q (J_b (ih (w64 (s5.1 + (w64 (x7))), w64 (s5.2 + 1)))) rfl
  · exact J_qw (hk s5.1) rfl

theorem spec_l2Bytes.ok (a1 : Pack) : Ok Tryz.prog 110 [.ag (Pack.enc false a1)] [] ((spec_l2Bytes a1).map fun r => (so 1 eU8 r, [])) := by
  refine Ok_of3 c110 Tryz.f110 0 50 (fun q => ?_)
  unfold spec_l2Bytes
  refine J_g 2 [(0, 0)] [(1, pp 0)] [(0, .box (Pack.enc false a1))] orcN ?_
  refine J_g 6 [] [(1, pp 0), (3, iv (w64 ((w64 (a1.Version.A + a1.Version.B)) + a1.Version.C)))] [(0, .box (Pack.enc false a1))] orcN ?_
  refine J_g 28 [] [(1, pp 0), (3, iv (w64 ((w64 (a1.Version.A + a1.Version.B)) + a1.Version.C))), (4, iv 0)] [(0, .box (Pack.enc false a1))] orcN ?_
  refine J_lq (spec_l2Bytes_l1.ok a1 q _ (fun v9 => J_j ?_) (w64 ((w64 (a1.Version.A + a1.Version.B)) + a1.Version.C), 0))
  refine J_g 30 [] [(1, pp 0), (3, iv v9), (5, rr 1 ([] : List Int))] [(0, .box (Pack.enc false a1)), (1, rE 1 eU8 ([] : List Int))] (orcC 0 (x_bp 119 5 1 1 eU8 ([] : List Int) [] [] []) orcN) ?_
  refine J_g 124 [] [(1, pp 0), (3, iv v9), (5, rr 1 ([] : List Int)), (6, iv 0)] [(0, .box (Pack.enc false a1)), (1, rE 1 eU8 ([] : List Int))] orcN ?_
  refine J_lq (spec_l2Bytes_l2.ok a1 q _ (fun v17 => J_j ?_) (v9, ([] : List Int), 0))
  refine J_g 126 [] [(2, rr 1 v17)] [(1, rE 1 eU8 v17)] orcN ?_
  exact J_rm (ds := [rr 1 v17]) (ds' := [so 1 eU8 v17]) (.cons (.cell (.move (.head _) (List.length_map _) (by decide) (.nil))) (.nil) (by decide)) rfl

noncomputable def c109 : Code := (Tryz.f109.body).getD .skip

theorem spec_l8Same.ok (a1 : (List Int)) (a2 : (List Int)) : Ok Tryz.prog 109 [sl 1 eU8 a1, sl 1 eU8 a2] [] ((spec_l8Same a1 a2).map fun r => (bv r, [])) := by
  refine Ok_of3 c109 Tryz.f109 0 10 (fun q => ?_)
  unfold spec_l8Same
  refine J_g 2 [] [(0, sl 1 eU8 a1), (1, sl 1 eU8 a2)] [] orcN ?_
  refine J_g 6 [] [(4, bv (seq (b2s a1) (b2s a2)))] [] (orcC 1 (x_b2s (xs := a1) 119 9 5 (.tmp 5)) (orcC 3 (x_b2s (xs := a2) 119 9 5 (.tmp 7)) orcN)) ?_
  exact J_r1 rfl

noncomputable def c63 : Code := (Tryz.f63.body).getD .skip

theorem spec_l8Lacking_l1.ok (a1 : (List Pack)) (a2 : Disk) (a3 : (List Int)) (q : Wd) (kn : (List Int) → Option (D × List Ent)) (hk : ∀ v : (List Int), J (q.g Tryz.prog 63 1 57) c63 (atI c63 15) (St.mk' [(7, rr 1 v)] [(0, .box (Disk.enc false a2)), (1, rE 1 eI64 v)]) (some v) kn) :
    ∀ s31 : ((List Int) × Int), J (q.g Tryz.prog 63 1 57) c63 (atI c63 116) (St.mk' [(0, sl 8 (Pack.enc false) a1), (1, pp 0), (2, sl 1 eI64 a3), (7, rr 1 s31.1), (8, iv s31.2)] [(0, .box (Disk.enc false a2)), (1, rE 1 eI64 s31.1)]) (spec_l8Lacking_l1 a1 a2 a3 s31) kn := by
  refine J_lp (fun g ih s31 => ?_)
  unfold spec_l8Lacking_l1b
  refine J_g 464 [] [(0, sl 8 (Pack.enc false) a1), (1, pp 0), (2, sl 1 eI64 a3), (7, rr 1 s31.1), (8, iv s31.2), (14, bv (decide (s31.2 < (a3.length : Int))))] [(0, .box (Disk.enc false a2)), (1, rE 1 eI64 s31.1)] orcN ?_
  refine J_if2 14 (fun h32 => ?_) (fun h32 => ?_)
  · refine J_bind (fun x33 h34 => ?_)
    refine J_bind (fun x35 h36 => ?_)
    refine J_bind (fun x37 h38 => ?_)
    refine J_bind (fun x39 h40 => ?_)
    refine J_g 1864 [] [(0, sl 8 (Pack.enc false) a1), (1, pp 0), (2, sl 1 eI64 a3), (7, rr 1 s31.1), (8, iv s31.2), (9, iv x39)] [(0, .box (Disk.enc false a2)), (1, rE 1 eI64 s31.1)] (orcC 4 (x_ix (kk := .i64) 41 2 1 eI64 (.tmp 19) (.tmp 20) h34) (orcC 6 (x_ix (kk := .i64) 29 86 8 (Pack.enc false) (.tmp 18) (.tmp 22) h36) (orcC 8 (x_c0 [(.tmp 24)] [86] (spec_l8Path.ok x35) h38) (orcC 9 (x_ro [(0, .box (Disk.enc false a2))] [] (x_c1 («as» := [pp 0, sv x37]) [(.tmp 17), (.tmp 25)] [101, 9] false [(0, .box (Disk.enc false a2))] [0] (.cons (.pt rfl) (.cons (.same rfl) (.nil))) (spec_l7Find.ok a2 x37) h40 (.same rfl rfl))) orcN)))) ?_
    refine J_join (atI c63 3731) (fun v52 : Bool => St.mk' [(0, sl 8 (Pack.enc false) a1), (1, pp 0), (2, sl 1 eI64 a3), (7, rr 1 s31.1), (8, iv s31.2), (48, bv v52)] [(0, .box (Disk.enc false a2)), (1, rE 1 eI64 s31.1)]) (fun v52 => ?_) (fun jv52 => ?_)
    · refine J_join (aft c63 932) (fun v58 : (List Int) => St.mk' [(0, sl 8 (Pack.enc false) a1), (1, pp 0), (2, sl 1 eI64 a3), (7, rr 3 v58), (8, iv s31.2)] [(0, .box (Disk.enc false a2)), (3, rE 1 eI64 v58)]) (fun v58 => ?_) (fun jv58 => ?_)
      · refine J_g 467 [] [(0, sl 8 (Pack.enc false) a1), (1, pp 0), (2, sl 1 eI64 a3), (7, rr 3 v58), (8, iv (w64 (s31.2 + 1)))] [(0, .box (Disk.enc false a2)), (3, rE 1 eI64 v58)] orcN ?_
        refine J_ren 3 1 (Nat.le_of_ble_eq_true rfl) (Nat.le_of_ble_eq_true rfl) ?_
        exact J_q (J_b (ih (v58, w64 (s31.2 + 1)))) rfl
      · refine J_if2 48 (fun h53 => ?_) (fun h53 => ?_)
        · refine J_bind (fun x54 h55 => ?_)
          refine J_bind (fun x56 h57 => ?_)
          refine J_g 7462 [] [(0, sl 8 (Pack.enc false) a1), (1, pp 0), (2, sl 1 eI64 a3), (7, rr 3 x56), (8, iv s31.2)] [(0, .box (Disk.enc false a2)), (3, rE 1 eI64 x56)] (orcC 3 (x_ix (kk := .i64) 41 2 1 eI64 (.tmp 50) (.tmp 51) h55) (orcC 5 (x_bp 41 2 1 2 eI64 [x54] [0] [(.tmp 53)] [iv x54]) (orcC 6 (x_ap 41 41 2 2 1 8 3 1 2 eI64 (.tmp 49) (.tmp 54) h57) orcN))) ?_
          exact J_qw (J_j (jv58 x56)) rfl
        · refine J_ren 1 3 (Nat.le_of_ble_eq_true rfl) (Nat.le_of_ble_eq_true rfl) ?_
          exact J_qw (J_j (jv58 s31.1)) rfl
    · refine J_ite (fun h41 => ?_) (fun h41 => ?_)
      · refine J_g 3730 [] [(0, sl 8 (Pack.enc false) a1), (1, pp 0), (2, sl 1 eI64 a3), (7, rr 1 s31.1), (8, iv s31.2), (48, bv true)] [(0, .box (Disk.enc false a2)), (1, rE 1 eI64 s31.1)] (orcL 2 [(28, bv (decide (x39 < 0)))] [] h41 orcN) ?_
        exact J_qw (J_j (jv52 true)) rfl
      · refine J_bind (fun x42 h43 => ?_)
        refine J_bind (fun x44 h45 => ?_)
        refine J_bind (fun x46 h47 => ?_)
        refine J_bind (fun x48 h49 => ?_)
        refine J_bind (fun x50 h51 => ?_)
        refine J_g 3730 [] [(0, sl 8 (Pack.enc false) a1), (1, pp 0), (2, sl 1 eI64 a3), (7, rr 1 s31.1), (8, iv s31.2), (48, bv (!x50))] [(0, .box (Disk.enc false a2)), (1, rE 1 eI64 s31.1)] (orcL 2 [(28, bv (decide (x39 < 0)))] [] h41 (orcH 8 2 29 false (x_ix (kk := .i64) 44 121 2 (File.enc false) (.tmp 33) (.tmp 34) h43) (orcH 14 2 29 false (x_ix (kk := .i64) 41 2 1 eI64 (.tmp 39) (.tmp 40) h45) (orcH 16 2 29 false (x_ix (kk := .i64) 29 86 8 (Pack.enc false) (.tmp 38) (.tmp 42) h47) (orcH 18 2 29 false (x_c1 («as» := [.ag (Pack.enc false x46)]) [(.tmp 44)] [86] false [] [] (.cons (.same rfl) (.nil)) (spec_l2Bytes.ok x46) h49 (.own 2)) (orcH 19 2 29 false (x_c1 («as» := [sl 1 eU8 x42.Data, rr 2 x48]) [(.tmp 37), (.tmp 45)] [119, 119] true [(2, rE 1 eU8 x48)] [] (.cons (.same rfl) (.cons (am_b (.head _) (fun _ => rfl) rfl) (.nil))) (spec_l8Same.ok x42.Data x48) h51 (.same rfl rfl) (hbor := fun _ => ⟨rfl, flat_sc⟩)) orcN)))))) ?_
        exact J_qw (J_j (jv52 (!x50))) rfl
  · exact J_qw (hk s31.1) rfl

theorem spec_l8Lacking.ok (a1 : (List Pack)) (a2 : Disk) (a3 : (List Int)) : Ok Tryz.prog 63 [sl 8 (Pack.enc false) a1, pp 0, sl 1 eI64 a3] [.box (Disk.enc false a2)] ((spec_l8Lacking a1 a2 a3).map fun r => (so 1 eI64 r, [.box (Disk.enc false a2)])) := by
  refine Ok_of3 c63 Tryz.f63 1 57 (fun q => ?_)
  unfold spec_l8Lacking
  refine J_g 2 [] [(0, sl 8 (Pack.enc false) a1), (1, pp 0), (2, sl 1 eI64 a3)] [(0, .box (Disk.enc false a2))] orcN ?_
  refine J_g 6 [] [(0, sl 8 (Pack.enc false) a1), (1, pp 0), (2, sl 1 eI64 a3), (7, rr 1 ([] : List Int))] [(0, .box (Disk.enc false a2)), (1, rE 1 eI64 ([] : List Int))] (orcC 0 (x_bp 41 2 1 1 eI64 ([] : List Int) [] [] []) orcN) ?_
  refine J_g 28 [] [(0, sl 8 (Pack.enc false) a1), (1, pp 0), (2, sl 1 eI64 a3), (7, rr 1 ([] : List Int)), (8, iv 0)] [(0, .box (Disk.enc false a2)), (1, rE 1 eI64 ([] : List Int))] orcN ?_
  refine J_lq (spec_l8Lacking_l1.ok a1 a2 a3 q _ (fun v59 => J_j ?_) (([] : List Int), 0))
  refine J_g 30 [] [(6, rr 1 v59)] [(0, .box (Disk.enc false a2)), (1, rE 1 eI64 v59)] orcN ?_
  exact J_rm (ds := [rr 1 v59]) (ds' := [so 1 eI64 v59]) (.cons (.cell (.move (.tail _ (.head _)) (List.length_map _) (by decide) (.nil))) (.nil) (by decide)) rfl

noncomputable def c26 : Code := (Tryz.f26.body).getD .skip

theorem spec_LackingOf.ok (a1 : (List Pack)) (a2 : Disk) (a3 : (List Int)) : Ok Tryz.prog 26 [sl 8 (Pack.enc false) a1, .ag (Disk.enc false a2), sl 1 eI64 a3] [] ((spec_LackingOf a1 a2 a3).map fun r => (.ag [iv r.Code, iv r.At, so 1 eI64 r.Set], [])) := by
  refine Ok_of3 c26 Tryz.f26 0 24 (fun q => ?_)
  unfold spec_LackingOf
  refine J_g 2 [(0, 0), (1, 1)] [(0, sl 8 (Pack.enc false) a1), (2, sl 1 eI64 a3), (4, pp 0), (6, pp 1)] [(0, .box (Disk.enc false a2)), (1, .box [iv 0, iv 0, nv])] orcN ?_
  refine J_bind (fun x4 h5 => ?_)
  refine J_g 12 [] [(0, sl 8 (Pack.enc false) a1), (2, sl 1 eI64 a3), (4, pp 0), (6, pp 1), (7, iv x4)] [(0, .box (Disk.enc false a2)), (1, .box [iv 0, iv 0, nv])] (orcC 2 (x_c0 [(.tmp 8), (.tmp 9)] [29, 46] (spec_l8Asked.ok a1 a2) h5) orcN) ?_
  refine J_g 26 [] [(0, sl 8 (Pack.enc false) a1), (2, sl 1 eI64 a3), (4, pp 0), (6, pp 1), (7, iv x4), (12, bv (x4 != 0))] [(0, .box (Disk.enc false a2)), (1, .box [iv 0, iv 0, nv])] orcN ?_
  refine J_if2 12 (fun h6 => ?_) (fun h6 => ?_)
  · refine J_g 108 [] [(6, pp 1)] [(1, .box [iv x4, iv 0, nv])] orcN ?_
    exact J_rm (ds := [.ag [iv x4, iv 0, nv]]) (ds' := [.ag [iv x4, iv 0, so 1 eI64 ([] : List Int)]]) (.cons (.ag (.keep rfl (.keep rfl (.nilsl true 1 (.nil))))) (.nil) (by decide)) rfl
  · refine J_bind (fun x7 h8 => ?_)
    refine J_g 28 [] [(0, sl 8 (Pack.enc false) a1), (2, sl 1 eI64 a3), (4, pp 0), (6, pp 1), (18, bv (!x7))] [(0, .box (Disk.enc false a2)), (1, .box [iv 0, iv 0, nv])] (orcC 2 (x_c0 [(.tmp 15), (.tmp 16)] [29, 41] (spec_l3Set.ok a1 a3) h8) orcN) ?_
    refine J_if2 18 (fun h9 => ?_) (fun h9 => ?_)
    · refine J_g 116 [] [(6, pp 1)] [(1, .box [iv 1, iv 0, nv])] orcN ?_
      exact J_rm (ds := [.ag [iv 1, iv 0, nv]]) (ds' := [.ag [iv 1, iv 0, so 1 eI64 ([] : List Int)]]) (.cons (.ag (.keep rfl (.keep rfl (.nilsl true 1 (.nil))))) (.nil) (by decide)) rfl
    · refine J_bind (fun x10 h11 => ?_)
      refine J_g 30 [] [(6, pp 1)] [(1, .box [iv 0, iv 0, rr 2 x10]), (2, rE 1 eI64 x10)] (orcC 2 (x_ro [(0, .box (Disk.enc false a2))] [(2, rE 1 eI64 x10)] (x_c1 («as» := [sl 8 (Pack.enc false) a1, pp 0, sl 1 eI64 a3]) [(.tmp 20), (.tmp 4), (.tmp 21)] [29, 101, 41] false [(0, .box (Disk.enc false a2))] [0] (.cons (.same rfl) (.cons (.pt rfl) (.cons (.same rfl) (.nil)))) (spec_l8Lacking.ok a1 a2 a3) h11 (.own 2))) orcN) ?_
      exact J_rm (ds := [.ag [iv 0, iv 0, rr 2 x10]]) (ds' := [.ag [iv 0, iv 0, so 1 eI64 x10]]) (.cons (.ag (.keep rfl (.keep rfl (.move (.tail _ (.head _)) (List.length_map _) (by decide) (.nil))))) (.nil) (by decide)) rfl

noncomputable def c20 : Code := (Tryz.f20.body).getD .skip

theorem spec_WholeSet.ok (a1 : (List Pack)) (a2 : Disk) (a3 : (List Int)) : Ok Tryz.prog 20 [sl 8 (Pack.enc false) a1, .ag (Disk.enc false a2), sl 1 eI64 a3] [] ((spec_WholeSet a1 a2 a3).map fun r => (bv r, [])) := by
  refine Ok_of3 c20 Tryz.f20 0 21 (fun q => ?_)
  unfold spec_WholeSet
  refine J_g 2 [(0, 0)] [(0, sl 8 (Pack.enc false) a1), (2, sl 1 eI64 a3), (4, pp 0)] [(0, .box (Disk.enc false a2))] orcN ?_
  refine J_bind (fun x4 h5 => ?_)
  refine J_g 6 [(4, 2)] [(7, pp 2)] [(1, rE 1 eI64 x4.Set), (2, .box [iv x4.Code, iv x4.At, rr 1 x4.Set])] (orcC 3 (x_c1 («as» := [sl 8 (Pack.enc false) a1, .ag (Disk.enc false a2), sl 1 eI64 a3]) [(.tmp 8), (.tmp 9), (.tmp 10)] [29, 46, 41] false [] [] (.cons (.same rfl) (.cons (.same rfl) (.cons (.same rfl) (.nil)))) (spec_LackingOf.ok a1 a2 a3) h5 (.ag (.cons (.same rfl rfl) (.cons (.same rfl rfl) (.cons (.own 1) (.nil)))))) orcN) ?_
  refine J_ite (fun h6 => ?_) (fun h6 => ?_)
  · refine J_g 14 [] [(6, bv ((x4.Set.length : Int) == 0))] [] (orcL 3 [(14, bv (x4.Code == 0))] [] h6 orcN) ?_
    exact J_r1 rfl
  · refine J_g 14 [] [(6, bv false)] [] (orcL 3 [(14, bv (x4.Code == 0))] [] h6 orcN) ?_
    exact J_r1 rfl

noncomputable def c163 : Code := (Tryz.f163.body).getD .skip

theorem impl_isNameByte.ok (a1 : Int) : Ok Tryz.prog 163 [uv a1] [] ((impl_isNameByte a1).map fun r => (bv r, [])) := by
  refine Ok_of3 c163 Tryz.f163 0 21 (fun q => ?_)
  unfold impl_isNameByte
  refine J_g 2 [] [(0, uv a1)] [] orcN ?_
  refine J_ite (fun h2 => ?_) (fun h2 => ?_)
  · refine J_ite (fun h3 => ?_) (fun h3 => ?_)
    · refine J_g 6 [] [(2, bv true)] [] (orcL 2 [(4, bv (decide (a1 ≥ 97)))] [] h2 (orcL 6 [(8, bv (decide (a1 ≤ 122)))] [] h3 (orcV 9 (orcU (i := 9) (g := 6) (t := 9) (b := false) (v := (.bool true)) (.inl rfl) (by kernel_rfl) (by kernel_rfl)) (orcV 10 (orcU (i := 10) (g := 9) (t := 12) (b := true) (v := undef) (.inr rfl) (by kernel_rfl) (by kernel_rfl)) (orcV 11 (orcU (i := 11) (g := 9) (t := 12) (b := true) (v := undef) (.inr rfl) (by kernel_rfl) (by kernel_rfl)) orcN))))) ?_
      exact J_r1 rfl
    · refine J_ite (fun h4 => ?_) (fun h4 => ?_)
      · refine J_ite (fun h5 => ?_) (fun h5 => ?_)
        · refine J_g 6 [] [(2, bv true)] [] (orcL 2 [(4, bv (decide (a1 ≥ 97)))] [] h2 (orcL 6 [(8, bv (decide (a1 ≤ 122)))] [] h3 (orcLG 9 6 9 false [(11, bv (decide (a1 ≥ 48)))] [] h4 (orcL 14 [(16, bv (decide (a1 ≤ 57)))] [] h5 orcN)))) ?_
          exact J_r1 rfl
        · refine J_g 6 [] [(2, bv (a1 == 95))] [] (orcL 2 [(4, bv (decide (a1 ≥ 97)))] [] h2 (orcL 6 [(8, bv (decide (a1 ≤ 122)))] [] h3 (orcLG 9 6 9 false [(11, bv (decide (a1 ≥ 48)))] [] h4 (orcL 14 [(16, bv (decide (a1 ≤ 57)))] [] h5 orcN)))) ?_
          exact J_r1 rfl
      · refine J_g 6 [] [(2, bv (a1 == 95))] [] (orcL 2 [(4, bv (decide (a1 ≥ 97)))] [] h2 (orcL 6 [(8, bv (decide (a1 ≤ 122)))] [] h3 (orcLG 9 6 9 false [(11, bv (decide (a1 ≥ 48)))] [] h4 orcN))) ?_
        exact J_r1 rfl
  · refine J_ite (fun h6 => ?_) (fun h6 => ?_)
    · refine J_ite (fun h7 => ?_) (fun h7 => ?_)
      · refine J_g 6 [] [(2, bv true)] [] (orcL 2 [(4, bv (decide (a1 ≥ 97)))] [] h2 (orcLG 9 6 9 false [(11, bv (decide (a1 ≥ 48)))] [] h6 (orcL 14 [(16, bv (decide (a1 ≤ 57)))] [] h7 orcN))) ?_
        exact J_r1 rfl
      · refine J_g 6 [] [(2, bv (a1 == 95))] [] (orcL 2 [(4, bv (decide (a1 ≥ 97)))] [] h2 (orcLG 9 6 9 false [(11, bv (decide (a1 ≥ 48)))] [] h6 (orcL 14 [(16, bv (decide (a1 ≤ 57)))] [] h7 orcN))) ?_
        exact J_r1 rfl
    · refine J_g 6 [] [(2, bv (a1 == 95))] [] (orcL 2 [(4, bv (decide (a1 ≥ 97)))] [] h2 (orcLG 9 6 9 false [(11, bv (decide (a1 ≥ 48)))] [] h6 orcN)) ?_
      exact J_r1 rfl

noncomputable def c139 : Code := (Tryz.f139.body).getD .skip

theorem impl_NameFault_l1.ok (a1 : ByteArray) (q : Wd) (kn : Unit → Option (D × List Ent)) (hk : ∀ v : Unit, J (q.g Tryz.prog 139 0 33) c139 (atI c139 15) (St.mk' [] []) (some v) kn) :
    ∀ s17 : Int, J (q.g Tryz.prog 139 0 33) c139 (atI c139 116) (St.mk' [(0, sv a1), (23, iv (a1.size : Int)), (24, iv s17)] []) (impl_NameFault_l1 a1 s17) (Fl.go (fun r : Int => some (iv r, [])) kn) := by
  refine J_lp (fun g ih s17 => ?_)
  unfold impl_NameFault_l1b
  refine J_g 232 [] [(0, sv a1), (23, iv (a1.size : Int)), (24, iv s17), (25, bv (decide (s17 < (a1.size : Int))))] [] orcN ?_
  refine J_if2 25 (fun h18 => ?_) (fun h18 => ?_)
  · refine J_g 3736 [] [(0, sv a1), (3, iv s17), (23, iv (a1.size : Int)), (24, iv s17)] [] orcN ?_
    refine J_bind (fun x19 h20 => ?_)
    refine J_bind (fun x21 h22 => ?_)
    refine J_g 7474 [] [(0, sv a1), (23, iv (a1.size : Int)), (24, iv s17), (31, bv (!x21))] [] (orcC 2 (x_bi (kk := .i64) 9 (.tmp 27) (.tmp 28) h20) (orcC 3 (x_c0 [(.tmp 29)] [5] (impl_isNameByte.ok x19) h22) orcN)) ?_
    refine J_if2 31 (fun h23 => ?_) (fun h23 => ?_)
    · refine J_g 29900 [] [(2, iv 5)] [] orcN ?_
      exact J_r1 rfl
    · refine J_g 935 [] [(0, sv a1), (23, iv (a1.size : Int)), (24, iv (w64 (s17 + 1)))] [] orcN ?_
      exact J_q (J_b (ih (w64 (s17 + 1)))) rfl
  · exact J_qw (hk ()) rfl

theorem impl_NameFault.ok (a1 : ByteArray) : Ok Tryz.prog 139 [sv a1] [] ((impl_NameFault a1).map fun r => (iv r, [])) := by
  refine Ok_of3 c139 Tryz.f139 0 33 (fun q => ?_)
  unfold impl_NameFault
  refine J_g 2 [] [(0, sv a1)] [] orcN ?_
  refine J_join (atI c139 13) (fun v9 : Bool => St.mk' [(0, sv a1), (21, bv v9)] []) (fun v9 => ?_) (fun jv9 => ?_)
  · refine J_if2 21 (fun h10 => ?_) (fun h10 => ?_)
    · refine J_g 52 [] [(2, iv 5)] [] orcN ?_
      exact J_r1 rfl
    · refine J_g 28 [] [(0, sv a1), (23, iv (a1.size : Int)), (24, iv 0)] [] orcN ?_
      refine J_lqF (K0 := (fun r : Int => some (iv r, []))) (fun _ => rfl) (impl_NameFault_l1.ok a1 q _ (fun v24 => J_j ?_) 0)
      refine J_g 30 [] [(2, iv 0)] [] orcN ?_
      exact J_r1 rfl
  · refine J_ite (fun h2 => ?_) (fun h2 => ?_)
    · refine J_g 12 [] [(0, sv a1), (21, bv true)] [] (orcL 3 [(6, bv (decide ((a1.size : Int) < 1)))] [] h2 orcN) ?_
      exact J_qw (J_j (jv9 true)) rfl
    · refine J_ite (fun h3 => ?_) (fun h3 => ?_)
      · refine J_g 12 [] [(0, sv a1), (21, bv true)] [] (orcL 3 [(6, bv (decide ((a1.size : Int) < 1)))] [] h2 (orcL 8 [(11, bv (decide ((a1.size : Int) > 12)))] [] h3 orcN)) ?_
        exact J_qw (J_j (jv9 true)) rfl
      · refine J_bind (fun x4 h5 => ?_)
        refine J_ite (fun h6 => ?_) (fun h6 => ?_)
        · refine J_g 12 [] [(0, sv a1), (21, bv true)] [] (orcL 3 [(6, bv (decide ((a1.size : Int) < 1)))] [] h2 (orcL 8 [(11, bv (decide ((a1.size : Int) > 12)))] [] h3 (orcH 10 8 12 false (x_bi (kk := .i64) 9 (.tmp 13) (.const (.int .i64 0)) h5) (orcL 13 [(16, bv (decide (x4 < 97)))] [] h6 orcN)))) ?_
          exact J_qw (J_j (jv9 true)) rfl
        · refine J_bind (fun x7 h8 => ?_)
          refine J_g 12 [] [(0, sv a1), (21, bv (decide (x7 > 122)))] [] (orcL 3 [(6, bv (decide ((a1.size : Int) < 1)))] [] h2 (orcL 8 [(11, bv (decide ((a1.size : Int) > 12)))] [] h3 (orcH 10 8 12 false (x_bi (kk := .i64) 9 (.tmp 13) (.const (.int .i64 0)) h5) (orcL 13 [(16, bv (decide (x4 < 97)))] [] h6 (orcH 15 13 17 false (x_bi (kk := .i64) 9 (.tmp 18) (.const (.int .i64 0)) h8) orcN))))) ?_
          exact J_qw (J_j (jv9 (decide (x7 > 122)))) rfl

noncomputable def c121 : Code := (Tryz.f121.body).getD .skip

theorem impl_within.ok (a1 : Int) (a2 : Int) (a3 : Int) : Ok Tryz.prog 121 [iv a1, iv a2, iv a3] [] ((impl_within a1 a2 a3).map fun r => (bv r, [])) := by
  refine Ok_of3 c121 Tryz.f121 0 15 (fun q => ?_)
  unfold impl_within
  refine J_g 2 [] [(0, iv a1), (1, iv a2), (2, iv a3)] [] orcN ?_
  refine J_ite (fun h4 => ?_) (fun h4 => ?_)
  · refine J_g 6 [] [(6, bv (decide (a1 ≤ a3)))] [] (orcL 3 [(9, bv (decide (a2 ≤ a1)))] [] h4 orcN) ?_
    exact J_r1 rfl
  · refine J_g 6 [] [(6, bv false)] [] (orcL 3 [(9, bv (decide (a2 ≤ a1)))] [] h4 orcN) ?_
    exact J_r1 rfl

noncomputable def c140 : Code := (Tryz.f140.body).getD .skip

theorem impl_VersionFault.ok (a1 : Version) : Ok Tryz.prog 140 [.ag (Version.enc a1)] [] ((impl_VersionFault a1).map fun r => (iv r, [])) := by
  refine Ok_of3 c140 Tryz.f140 0 19 (fun q => ?_)
  unfold impl_VersionFault
  refine J_g 2 [(0, 0)] [(1, pp 0)] [(0, .box (Version.enc a1))] orcN ?_
  refine J_bind (fun x2 h3 => ?_)
  refine J_join (atI c140 13) (fun v10 : Bool => St.mk' [(18, bv v10)] []) (fun v10 => ?_) (fun jv10 => ?_)
  · refine J_if2 18 (fun h11 => ?_) (fun h11 => ?_)
    · refine J_g 52 [] [(2, iv 3)] [] orcN ?_
      exact J_r1 rfl
    · refine J_g 14 [] [(2, iv 0)] [] orcN ?_
      exact J_r1 rfl
  · refine J_ite (fun h4 => ?_) (fun h4 => ?_)
    · refine J_g 12 [] [(18, bv true)] [] (orcC 2 (x_c0 [(.tmp 4), (.const (.int .i64 0)), (.const (.int .i64 999))] [2, 2, 2] (impl_within.ok a1.A 0 999) h3) (orcL 4 [(6, bv (!x2))] [] h4 orcN)) ?_
      exact J_qw (J_j (jv10 true)) rfl
    · refine J_bind (fun x5 h6 => ?_)
      refine J_ite (fun h7 => ?_) (fun h7 => ?_)
      · refine J_g 12 [] [(18, bv true)] [] (orcC 2 (x_c0 [(.tmp 4), (.const (.int .i64 0)), (.const (.int .i64 999))] [2, 2, 2] (impl_within.ok a1.A 0 999) h3) (orcL 4 [(6, bv (!x2))] [] h4 (orcH 7 4 7 false (x_c0 [(.tmp 9), (.const (.int .i64 0)), (.const (.int .i64 999))] [2, 2, 2] (impl_within.ok a1.B 0 999) h6) (orcL 10 [(12, bv (!x5))] [] h7 orcN)))) ?_
        exact J_qw (J_j (jv10 true)) rfl
      · refine J_bind (fun x8 h9 => ?_)
        refine J_g 12 [] [(18, bv (!x8))] [] (orcC 2 (x_c0 [(.tmp 4), (.const (.int .i64 0)), (.const (.int .i64 999))] [2, 2, 2] (impl_within.ok a1.A 0 999) h3) (orcL 4 [(6, bv (!x2))] [] h4 (orcH 7 4 7 false (x_c0 [(.tmp 9), (.const (.int .i64 0)), (.const (.int .i64 999))] [2, 2, 2] (impl_within.ok a1.B 0 999) h6) (orcL 10 [(12, bv (!x5))] [] h7 (orcH 13 10 13 false (x_c0 [(.tmp 15), (.const (.int .i64 0)), (.const (.int .i64 999))] [2, 2, 2] (impl_within.ok a1.C 0 999) h9) orcN))))) ?_
        exact J_qw (J_j (jv10 (!x8))) rfl

noncomputable def c64 : Code := (Tryz.f64.body).getD .skip

theorem impl_firstCode_l1.ok (a1 : (List Int)) (q : Wd) (kn : Unit → Option (D × List Ent)) (hk : ∀ v : Unit, J (q.g Tryz.prog 64 0 15) c64 (atI c64 7) (St.mk' [] []) (some v) kn) :
    ∀ s6 : Int, J (q.g Tryz.prog 64 0 15) c64 (atI c64 52) (St.mk' [(5, sl 1 eI64 a1), (6, iv (a1.length : Int)), (7, iv s6)] []) (impl_firstCode_l1 a1 s6) (Fl.go (fun r : Int => some (iv r, [])) kn) := by
  refine J_lp (fun g ih s6 => ?_)
  unfold impl_firstCode_l1b
  refine J_g 104 [] [(5, sl 1 eI64 a1), (6, iv (a1.length : Int)), (7, iv s6), (8, bv (decide (s6 < (a1.length : Int))))] [] orcN ?_
  refine J_if2 8 (fun h7 => ?_) (fun h7 => ?_)
  · refine J_bind (fun x8 h9 => ?_)
    refine J_g 1688 [] [(4, iv x8), (5, sl 1 eI64 a1), (6, iv (a1.length : Int)), (7, iv s6)] [] (orcC 0 (x_ix (kk := .i64) 41 2 1 eI64 (.tmp 5) (.tmp 7) h9) orcN) ?_
    refine J_g 3378 [] [(4, iv x8), (5, sl 1 eI64 a1), (6, iv (a1.length : Int)), (7, iv s6), (12, bv (x8 != 0))] [] orcN ?_
    refine J_if2 12 (fun h10 => ?_) (fun h10 => ?_)
    · refine J_g 13516 [] [(2, iv x8)] [] orcN ?_
      exact J_r1 rfl
    · refine J_g 423 [] [(5, sl 1 eI64 a1), (6, iv (a1.length : Int)), (7, iv (w64 (s6 + 1)))] [] orcN ?_
      exact J_q (J_b (ih (w64 (s6 + 1)))) rfl
  · exact J_qw (hk ()) rfl

theorem impl_firstCode.ok (a1 : (List Int)) : Ok Tryz.prog 64 [sl 1 eI64 a1] [] ((impl_firstCode a1).map fun r => (iv r, [])) := by
  refine Ok_of3 c64 Tryz.f64 0 15 (fun q => ?_)
  unfold impl_firstCode
  refine J_g 2 [] [(0, sl 1 eI64 a1)] [] orcN ?_
  refine J_g 12 [] [(5, sl 1 eI64 a1), (6, iv (a1.length : Int)), (7, iv 0)] [] orcN ?_
  refine J_lqF (K0 := (fun r : Int => some (iv r, []))) (fun _ => rfl) (impl_firstCode_l1.ok a1 q _ (fun v11 => J_j ?_) 0)
  refine J_g 14 [] [(2, iv 0)] [] orcN ?_
  exact J_r1 rfl

noncomputable def c142 : Code := (Tryz.f142.body).getD .skip

theorem impl_PackFault_1.ok (a1 : (List Term)) : Ok Tryz.prog 142 [sl 7 Term.enc a1] [] ((impl_PackFault_1 a1).map fun r => (bv r, [])) := by
  refine Ok_of3 c142 Tryz.f142 0 6 (fun q => ?_)
  unfold impl_PackFault_1
  refine J_g 2 [] [(0, sl 7 Term.enc a1)] [] orcN ?_
  refine J_g 6 [] [(2, bv (decide ((a1.length : Int) > 4)))] [] orcN ?_
  exact J_r1 rfl

noncomputable def c181 : Code := (Tryz.f181.body).getD .skip

theorem slices_IndexFunc_LLimplTerm_impl_PackFault_1_l1.ok (a1 : (List (List Term))) (q : Wd) (kn : Unit → Option (D × List Ent)) (hk : ∀ v : Unit, J (q.g Tryz.prog 181 0 19) c181 (atI c181 7) (St.mk' [] []) (some v) kn) :
    ∀ s8 : Int, J (q.g Tryz.prog 181 0 19) c181 (atI c181 52) (St.mk' [(0, sl 1 (eSl false 7 Term.enc) a1), (1, .fn 142 []), (7, iv (a1.length : Int)), (8, iv s8)] []) (slices_IndexFunc_LLimplTerm_impl_PackFault_1_l1 a1 s8) (Fl.go (fun r : Int => some (iv r, [])) kn) := by
  refine J_lp (fun g ih s8 => ?_)
  unfold slices_IndexFunc_LLimplTerm_impl_PackFault_1_l1b
  refine J_g 104 [] [(0, sl 1 (eSl false 7 Term.enc) a1), (1, .fn 142 []), (7, iv (a1.length : Int)), (8, iv s8), (9, bv (decide (s8 < (a1.length : Int))))] [] orcN ?_
  refine J_if2 9 (fun h9 => ?_) (fun h9 => ?_)
  · refine J_g 1688 [] [(0, sl 1 (eSl false 7 Term.enc) a1), (1, .fn 142 []), (5, iv s8), (7, iv (a1.length : Int)), (8, iv s8)] [] orcN ?_
    refine J_bind (fun x10 h11 => ?_)
    refine J_bind (fun x12 h13 => ?_)
    refine J_g 3378 [] [(0, sl 1 (eSl false 7 Term.enc) a1), (1, .fn 142 []), (5, iv s8), (7, iv (a1.length : Int)), (8, iv s8), (16, bv x12)] [] (orcC 3 (x_ix (kk := .i64) 84 31 1 (eSl false 7 Term.enc) (.tmp 12) (.tmp 13) h11) (orcC 5 (x_c0v («as» := [sl 7 Term.enc x10]) (caps := []) 11 [(.tmp 15)] [31] (impl_PackFault_1.ok x10) h13) orcN)) ?_
    refine J_if2 16 (fun h14 => ?_) (fun h14 => ?_)
    · refine J_g 13516 [] [(4, iv s8)] [] orcN ?_
      exact J_r1 rfl
    · refine J_g 423 [] [(0, sl 1 (eSl false 7 Term.enc) a1), (1, .fn 142 []), (7, iv (a1.length : Int)), (8, iv (w64 (s8 + 1)))] [] orcN ?_
      exact J_q (J_b (ih (w64 (s8 + 1)))) rfl
  · exact J_qw (hk ()) rfl

theorem slices_IndexFunc_LLimplTerm_impl_PackFault_1.ok (a1 : (List (List Term))) : Ok Tryz.prog 181 [sl 1 (eSl false 7 Term.enc) a1, .fn 142 []] [] ((slices_IndexFunc_LLimplTerm_impl_PackFault_1 a1).map fun r => (iv r, [])) := by
  refine Ok_of3 c181 Tryz.f181 0 19 (fun q => ?_)
  unfold slices_IndexFunc_LLimplTerm_impl_PackFault_1
  refine J_g 2 [] [(0, sl 1 (eSl false 7 Term.enc) a1), (1, .fn 142 [])] [] orcN ?_
  refine J_g 12 [] [(0, sl 1 (eSl false 7 Term.enc) a1), (1, .fn 142 []), (7, iv (a1.length : Int)), (8, iv 0)] [] orcN ?_
  refine J_lqF (K0 := (fun r : Int => some (iv r, []))) (fun _ => rfl) (slices_IndexFunc_LLimplTerm_impl_PackFault_1_l1.ok a1 q _ (fun v15 => J_j ?_) 0)
  refine J_g 14 [] [(4, iv (-1))] [] orcN ?_
  exact J_r1 rfl

noncomputable def c141 : Code := (Tryz.f141.body).getD .skip

theorem slices_ContainsFunc_LLimplTerm_impl_PackFault_1.ok (a1 : (List (List Term))) : Ok Tryz.prog 141 [sl 1 (eSl false 7 Term.enc) a1, .fn 142 []] [] ((slices_ContainsFunc_LLimplTerm_impl_PackFault_1 a1).map fun r => (bv r, [])) := by
  refine Ok_of3 c141 Tryz.f141 0 9 (fun q => ?_)
  unfold slices_ContainsFunc_LLimplTerm_impl_PackFault_1
  refine J_g 2 [] [(0, sl 1 (eSl false 7 Term.enc) a1), (1, .fn 142 [])] [] orcN ?_
  refine J_bind (fun x2 h3 => ?_)
  refine J_g 6 [] [(4, bv (decide (x2 ≥ 0)))] [] (orcC 2 (x_c1 («as» := [sl 1 (eSl false 7 Term.enc) a1, .fn 142 []]) [(.tmp 5), (.tmp 6)] [84, 160] false [] [] (.cons (.same rfl) (.cons (.fn (.nil)) (.nil))) (slices_IndexFunc_LLimplTerm_impl_PackFault_1.ok a1) h3 (.same rfl rfl)) orcN) ?_
  exact J_r1 rfl

noncomputable def c182 : Code := (Tryz.f182.body).getD .skip

theorem slices_Index_Lstring_l1.ok (a1 : (List ByteArray)) (a2 : ByteArray) (q : Wd) (kn : Unit → Option (D × List Ent)) (hk : ∀ v : Unit, J (q.g Tryz.prog 182 0 19) c182 (atI c182 7) (St.mk' [] []) (some v) kn) :
    ∀ s7 : Int, J (q.g Tryz.prog 182 0 19) c182 (atI c182 52) (St.mk' [(0, sl 1 eStr a1), (1, sv a2), (7, iv (a1.length : Int)), (8, iv s7)] []) (slices_Index_Lstring_l1 a1 a2 s7) (Fl.go (fun r : Int => some (iv r, [])) kn) := by
  refine J_lp (fun g ih s7 => ?_)
  unfold slices_Index_Lstring_l1b
  refine J_g 104 [] [(0, sl 1 eStr a1), (1, sv a2), (7, iv (a1.length : Int)), (8, iv s7), (9, bv (decide (s7 < (a1.length : Int))))] [] orcN ?_
  refine J_if2 9 (fun h8 => ?_) (fun h8 => ?_)
  · refine J_g 1688 [] [(0, sl 1 eStr a1), (1, sv a2), (5, iv s7), (7, iv (a1.length : Int)), (8, iv s7)] [] orcN ?_
    refine J_bind (fun x9 h10 => ?_)
    refine J_g 3378 [] [(0, sl 1 eStr a1), (1, sv a2), (5, iv s7), (7, iv (a1.length : Int)), (8, iv s7), (16, bv (seq a2 x9))] [] (orcC 3 (x_ix (kk := .i64) 73 9 1 eStr (.tmp 12) (.tmp 13) h10) orcN) ?_
    refine J_if2 16 (fun h11 => ?_) (fun h11 => ?_)
    · refine J_g 13516 [] [(4, iv s7)] [] orcN ?_
      exact J_r1 rfl
    · refine J_g 423 [] [(0, sl 1 eStr a1), (1, sv a2), (7, iv (a1.length : Int)), (8, iv (w64 (s7 + 1)))] [] orcN ?_
      exact J_q (J_b (ih (w64 (s7 + 1)))) rfl
  · exact J_qw (hk ()) rfl

theorem slices_Index_Lstring.ok (a1 : (List ByteArray)) (a2 : ByteArray) : Ok Tryz.prog 182 [sl 1 eStr a1, sv a2] [] ((slices_Index_Lstring a1 a2).map fun r => (iv r, [])) := by
  refine Ok_of3 c182 Tryz.f182 0 19 (fun q => ?_)
  unfold slices_Index_Lstring
  refine J_g 2 [] [(0, sl 1 eStr a1), (1, sv a2)] [] orcN ?_
  refine J_g 12 [] [(0, sl 1 eStr a1), (1, sv a2), (7, iv (a1.length : Int)), (8, iv 0)] [] orcN ?_
  refine J_lqF (K0 := (fun r : Int => some (iv r, []))) (fun _ => rfl) (slices_Index_Lstring_l1.ok a1 a2 q _ (fun v12 => J_j ?_) 0)
  refine J_g 14 [] [(4, iv (-1))] [] orcN ?_
  exact J_r1 rfl

noncomputable def c143 : Code := (Tryz.f143.body).getD .skip

theorem slices_Contains_Lstring.ok (a1 : (List ByteArray)) (a2 : ByteArray) : Ok Tryz.prog 143 [sl 1 eStr a1, sv a2] [] ((slices_Contains_Lstring a1 a2).map fun r => (bv r, [])) := by
  refine Ok_of3 c143 Tryz.f143 0 9 (fun q => ?_)
  unfold slices_Contains_Lstring
  refine J_g 2 [] [(0, sl 1 eStr a1), (1, sv a2)] [] orcN ?_
  refine J_bind (fun x3 h4 => ?_)
  refine J_g 6 [] [(4, bv (decide (x3 ≥ 0)))] [] (orcC 2 (x_c0 [(.tmp 5), (.tmp 6)] [73, 9] (slices_Index_Lstring.ok a1 a2) h4) orcN) ?_
  exact J_r1 rfl

noncomputable def c146 : Code := (Tryz.f146.body).getD .skip

theorem impl_top.ok  : Ok Tryz.prog 146 [] [] ((impl_top).map fun r => (.ag (Version.enc r), [])) := by
  refine Ok_of3 c146 Tryz.f146 0 2 (fun q => ?_)
  unfold impl_top
  refine J_g 2 [(0, 0)] [(0, pp 0)] [(0, .box [iv 0, iv 0, iv 0])] orcN ?_
  refine J_g 6 [] [(0, pp 0)] [(0, .box [iv 1000, iv 0, iv 0])] orcN ?_
  exact J_r1 rfl

noncomputable def c206 : Code := (Tryz.f206.body).getD .skip

theorem cmp_isNaN_int64.ok (a1 : Int) : Ok Tryz.prog 206 [iv a1] [] ((cmp_isNaN_int64 a1).map fun r => (bv r, [])) := by
  refine Ok_of3 c206 Tryz.f206 0 6 (fun q => ?_)
  unfold cmp_isNaN_int64
  refine J_g 2 [] [(0, iv a1)] [] orcN ?_
  refine J_g 6 [] [(2, bv (a1 != a1))] [] orcN ?_
  exact J_r1 rfl

noncomputable def c184 : Code := (Tryz.f184.body).getD .skip

theorem cmp_Compare_int64.ok (a1 : Int) (a2 : Int) : Ok Tryz.prog 184 [iv a1, iv a2] [] ((cmp_Compare_int64 a1 a2).map fun r => (iv r, [])) := by
  refine Ok_of3 c184 Tryz.f184 0 20 (fun q => ?_)
  unfold cmp_Compare_int64
  refine J_g 2 [] [(0, iv a1), (1, iv a2)] [] orcN ?_
  refine J_bind (fun x3 h4 => ?_)
  refine J_g 6 [] [(0, iv a1), (1, iv a2), (5, bv x3)] [] (orcC 1 (x_c0 [(.tmp 7)] [2] (cmp_isNaN_int64.ok a1) h4) orcN) ?_
  refine J_bind (fun x5 h6 => ?_)
  refine J_g 14 [] [(0, iv a1), (1, iv a2), (5, bv x3), (6, bv x5)] [] (orcC 1 (x_c0 [(.tmp 9)] [2] (cmp_isNaN_int64.ok a2) h6) orcN) ?_
  refine J_g 60 [] [(0, iv a1), (1, iv a2), (6, bv x5), (11, bv x3)] [] orcN ?_
  refine J_if2 11 (fun h7 => ?_) (fun h7 => ?_)
  · refine J_g 488 [] [(12, bv x5)] [] orcN ?_
    refine J_if2 12 (fun h8 => ?_) (fun h8 => ?_)
    · refine J_g 1956 [] [(4, iv 0)] [] orcN ?_
      exact J_r1 rfl
    · refine J_g 490 [] [(4, iv (-1))] [] orcN ?_
      exact J_r1 rfl
  · refine J_g 124 [] [(0, iv a1), (1, iv a2), (13, bv x5)] [] orcN ?_
    refine J_if2 13 (fun h9 => ?_) (fun h9 => ?_)
    · refine J_g 500 [] [(4, iv 1)] [] orcN ?_
      exact J_r1 rfl
    · refine J_g 252 [] [(0, iv a1), (1, iv a2), (16, bv (decide (a1 < a2)))] [] orcN ?_
      refine J_if2 16 (fun h10 => ?_) (fun h10 => ?_)
      · refine J_g 1012 [] [(4, iv (-1))] [] orcN ?_
        exact J_r1 rfl
      · refine J_g 508 [] [(19, bv (decide (a1 > a2)))] [] orcN ?_
        refine J_if2 19 (fun h11 => ?_) (fun h11 => ?_)
        · refine J_g 2036 [] [(4, iv 1)] [] orcN ?_
          exact J_r1 rfl
        · refine J_g 510 [] [(4, iv 0)] [] orcN ?_
          exact J_r1 rfl

noncomputable def c183 : Code := (Tryz.f183.body).getD .skip

theorem cmp_Or_int_l1.ok (a1 : (List Int)) (q : Wd) (kn : Unit → Option (D × List Ent)) (hk : ∀ v : Unit, J (q.g Tryz.prog 183 0 18) c183 (atI c183 15) (St.mk' [(3, iv 0)] []) (some v) kn) :
    ∀ s6 : Int, J (q.g Tryz.prog 183 0 18) c183 (atI c183 116) (St.mk' [(3, iv 0), (6, sl 1 eI64 a1), (7, iv (a1.length : Int)), (8, iv s6)] []) (cmp_Or_int_l1 a1 s6) (Fl.go (fun r : Int => some (iv r, [])) kn) := by
  refine J_lp (fun g ih s6 => ?_)
  unfold cmp_Or_int_l1b
  refine J_g 232 [] [(3, iv 0), (6, sl 1 eI64 a1), (7, iv (a1.length : Int)), (8, iv s6), (9, bv (decide (s6 < (a1.length : Int))))] [] orcN ?_
  refine J_if2 9 (fun h7 => ?_) (fun h7 => ?_)
  · refine J_bind (fun x8 h9 => ?_)
    refine J_g 3736 [] [(3, iv 0), (5, iv x8), (6, sl 1 eI64 a1), (7, iv (a1.length : Int)), (8, iv s6)] [] (orcC 0 (x_ix (kk := .i64) 222 3 1 eI64 (.tmp 6) (.tmp 8) h9) orcN) ?_
    refine J_g 7474 [] [(3, iv 0), (5, iv x8), (6, sl 1 eI64 a1), (7, iv (a1.length : Int)), (8, iv s6), (14, bv (x8 != 0))] [] orcN ?_
    refine J_if2 14 (fun h10 => ?_) (fun h10 => ?_)
    · refine J_g 29900 [] [(2, iv x8)] [] orcN ?_
      exact J_r1 rfl
    · refine J_g 935 [] [(3, iv 0), (6, sl 1 eI64 a1), (7, iv (a1.length : Int)), (8, iv (w64 (s6 + 1)))] [] orcN ?_
      exact J_q (J_b (ih (w64 (s6 + 1)))) rfl
  · exact J_qw (hk ()) rfl

theorem cmp_Or_int.ok (a1 : (List Int)) : Ok Tryz.prog 183 [sl 1 eI64 a1] [] ((cmp_Or_int a1).map fun r => (iv r, [])) := by
  refine Ok_of3 c183 Tryz.f183 0 18 (fun q => ?_)
  unfold cmp_Or_int
  refine J_g 2 [] [(0, sl 1 eI64 a1)] [] orcN ?_
  refine J_g 6 [] [(0, sl 1 eI64 a1), (3, iv 0)] [] orcN ?_
  refine J_g 28 [] [(3, iv 0), (6, sl 1 eI64 a1), (7, iv (a1.length : Int)), (8, iv 0)] [] orcN ?_
  refine J_lqF (K0 := (fun r : Int => some (iv r, []))) (fun _ => rfl) (cmp_Or_int_l1.ok a1 q _ (fun v11 => J_j ?_) 0)
  refine J_g 30 [] [(2, iv 0)] [] orcN ?_
  exact J_r1 rfl

noncomputable def c147 : Code := (Tryz.f147.body).getD .skip

theorem impl_compare.ok (a1 : Version) (a2 : Version) : Ok Tryz.prog 147 [.ag (Version.enc a1), .ag (Version.enc a2)] [] ((impl_compare a1 a2).map fun r => (iv r, [])) := by
  refine Ok_of3 c147 Tryz.f147 0 22 (fun q => ?_)
  unfold impl_compare
  refine J_g 2 [(0, 0), (1, 1)] [(2, pp 0), (3, pp 1)] [(0, .box (Version.enc a1)), (1, .box (Version.enc a2))] orcN ?_
  refine J_bind (fun x3 h4 => ?_)
  refine J_bind (fun x5 h6 => ?_)
  refine J_bind (fun x7 h8 => ?_)
  refine J_bind (fun x9 h10 => ?_)
  refine J_g 6 [] [(4, iv x9)] [] (orcC 4 (x_c0 [(.tmp 6), (.tmp 8)] [2, 2] (cmp_Compare_int64.ok a1.A a2.A) h4) (orcC 9 (x_c0 [(.tmp 11), (.tmp 13)] [2, 2] (cmp_Compare_int64.ok a1.B a2.B) h6) (orcC 14 (x_c0 [(.tmp 16), (.tmp 18)] [2, 2] (cmp_Compare_int64.ok a1.C a2.C) h8) (orcC 15 (x_bp 222 3 1 2 eI64 [x3, x5, x7] [0, 1, 2] [(.tmp 9), (.tmp 14), (.tmp 19)] [iv x3, iv x5, iv x7]) (orcC 16 (x_c1 («as» := [rr 2 [x3, x5, x7]]) [(.tmp 20)] [222] true [(2, rE 1 eI64 [x3, x5, x7])] [] (.cons (am_b (.head _) (fun _ => rfl) rfl) (.nil)) (cmp_Or_int.ok [x3, x5, x7]) h10 (.same rfl rfl) (hbor := fun _ => ⟨rfl, flat_sc⟩)) orcN))))) ?_
  exact J_r1 rfl

noncomputable def c96 : Code := (Tryz.f96.body).getD .skip

theorem impl_TermFault.ok (a1 : Term) : Ok Tryz.prog 96 [.ag (Term.enc a1)] [] ((impl_TermFault a1).map fun r => (iv r, [])) := by
  refine Ok_of3 c96 Tryz.f96 0 35 (fun q => ?_)
  unfold impl_TermFault
  refine J_g 2 [(0, 0)] [(1, pp 0)] [(0, .box (Term.enc a1))] orcN ?_
  refine J_bind (fun x2 h3 => ?_)
  refine J_g 12 [] [(1, pp 0), (3, iv x2)] [(0, .box (Term.enc a1))] (orcC 2 (x_c0 [(.tmp 6)] [9] (impl_NameFault.ok a1.Name) h3) orcN) ?_
  refine J_g 26 [] [(1, pp 0), (3, iv x2), (9, bv (x2 != 0))] [(0, .box (Term.enc a1))] orcN ?_
  refine J_if2 9 (fun h4 => ?_) (fun h4 => ?_)
  · refine J_g 108 [] [(2, iv x2)] [] orcN ?_
    exact J_r1 rfl
  · refine J_bind (fun x5 h6 => ?_)
    refine J_g 28 [] [(1, pp 0), (4, iv x5)] [(0, .box (Term.enc a1))] (orcC 2 (x_c0 [(.tmp 12)] [83] (impl_VersionFault.ok a1.Low) h6) orcN) ?_
    refine J_g 58 [] [(1, pp 0), (4, iv x5), (15, bv (x5 != 0))] [(0, .box (Term.enc a1))] orcN ?_
    refine J_if2 15 (fun h7 => ?_) (fun h7 => ?_)
    · refine J_g 236 [] [(2, iv x5)] [] orcN ?_
      exact J_r1 rfl
    · refine J_bind (fun x8 h9 => ?_)
      refine J_join (atI c96 121) (fun v13 : Bool => St.mk' [(1, pp 0), (17, bv v13)] [(0, .box (Term.enc a1))]) (fun v13 => ?_) (fun jv13 => ?_)
      · refine J_if2 17 (fun h14 => ?_) (fun h14 => ?_)
        · refine J_g 484 [] [(2, iv 3)] [] orcN ?_
          exact J_r1 rfl
        · refine J_bind (fun x15 h16 => ?_)
          refine J_g 486 [] [(28, bv (decide (x15 ≥ 0)))] [] (orcC 4 (x_c0 [(.tmp 30), (.tmp 32)] [83, 83] (impl_compare.ok a1.Low a1.High) h16) orcN) ?_
          refine J_if2 28 (fun h17 => ?_) (fun h17 => ?_)
          · refine J_g 1948 [] [(2, iv 1)] [] orcN ?_
            exact J_r1 rfl
          · refine J_g 62 [] [(2, iv 0)] [] orcN ?_
            exact J_r1 rfl
      · refine J_ite (fun h10 => ?_) (fun h10 => ?_)
        · refine J_bind (fun x11 h12 => ?_)
          refine J_g 120 [] [(1, pp 0), (17, bv (x11 != 0))] [(0, .box (Term.enc a1))] (orcC 2 (x_c0 [] [] (impl_top.ok) h9) (orcC 3 (x_seq (b := .neq) (r := (a1.High.A == x8.A && (a1.High.B == x8.B && (a1.High.C == x8.C && true)))) 83 83 (.tmp 19) (.tmp 20) [.int .i64 a1.High.A, .int .i64 a1.High.B, .int .i64 a1.High.C] [.int .i64 x8.A, .int .i64 x8.B, .int .i64 x8.C] (.inr ⟨rfl, rfl⟩)) (orcL 4 [(21, bv (!(a1.High.A == x8.A && (a1.High.B == x8.B && (a1.High.C == x8.C && true)))))] [] h10 (orcH 7 4 22 true (x_c0 [(.tmp 24)] [83] (impl_VersionFault.ok a1.High) h12) orcN)))) ?_
          exact J_qw (J_j (jv13 (x11 != 0))) rfl
        · refine J_g 120 [] [(1, pp 0), (17, bv false)] [(0, .box (Term.enc a1))] (orcC 2 (x_c0 [] [] (impl_top.ok) h9) (orcC 3 (x_seq (b := .neq) (r := (a1.High.A == x8.A && (a1.High.B == x8.B && (a1.High.C == x8.C && true)))) 83 83 (.tmp 19) (.tmp 20) [.int .i64 a1.High.A, .int .i64 a1.High.B, .int .i64 a1.High.C] [.int .i64 x8.A, .int .i64 x8.B, .int .i64 x8.C] (.inr ⟨rfl, rfl⟩)) (orcL 4 [(21, bv (!(a1.High.A == x8.A && (a1.High.B == x8.B && (a1.High.C == x8.C && true)))))] [] h10 orcN))) ?_
          exact J_qw (J_j (jv13 false)) rfl

noncomputable def c52 : Code := (Tryz.f52.body).getD .skip

theorem impl_termsFault_l1.ok (a1 : (List Term)) (q : Wd) (kn : Unit → Option (D × List Ent)) (hk : ∀ v : Unit, J (q.g Tryz.prog 52 0 18) c52 (atI c52 7) (St.mk' [] []) (some v) kn) :
    ∀ s8 : Int, J (q.g Tryz.prog 52 0 18) c52 (atI c52 52) (St.mk' [(6, sl 7 Term.enc a1), (7, iv (a1.length : Int)), (8, iv s8)] []) (impl_termsFault_l1 a1 s8) (Fl.go (fun r : Int => some (iv r, [])) kn) := by
  refine J_lp (fun g ih s8 => ?_)
  unfold impl_termsFault_l1b
  refine J_g 104 [] [(6, sl 7 Term.enc a1), (7, iv (a1.length : Int)), (8, iv s8), (9, bv (decide (s8 < (a1.length : Int))))] [] orcN ?_
  refine J_if2 9 (fun h9 => ?_) (fun h9 => ?_)
  · refine J_bind (fun x10 h11 => ?_)
    refine J_g 1688 [(2, 0)] [(4, pp 0), (6, sl 7 Term.enc a1), (7, iv (a1.length : Int)), (8, iv s8)] [(0, .box (Term.enc x10))] (orcC 0 (x_ix (kk := .i64) 31 89 7 Term.enc (.tmp 6) (.tmp 8) h11) orcN) ?_
    refine J_bind (fun x12 h13 => ?_)
    refine J_g 3378 [] [(5, iv x12), (6, sl 7 Term.enc a1), (7, iv (a1.length : Int)), (8, iv s8)] [] (orcC 1 (x_c0 [(.tmp 12)] [89] (impl_TermFault.ok x10) h13) orcN) ?_
    refine J_g 6758 [] [(5, iv x12), (6, sl 7 Term.enc a1), (7, iv (a1.length : Int)), (8, iv s8), (15, bv (x12 != 0))] [] orcN ?_
    refine J_if2 15 (fun h14 => ?_) (fun h14 => ?_)
    · refine J_g 27036 [] [(2, iv x12)] [] orcN ?_
      exact J_r1 rfl
    · refine J_g 423 [] [(6, sl 7 Term.enc a1), (7, iv (a1.length : Int)), (8, iv (w64 (s8 + 1)))] [] orcN ?_
      exact J_q (J_b (ih (w64 (s8 + 1)))) rfl
  · exact J_qw (hk ()) rfl

theorem impl_termsFault.ok (a1 : (List Term)) : Ok Tryz.prog 52 [sl 7 Term.enc a1] [] ((impl_termsFault a1).map fun r => (iv r, [])) := by
  refine Ok_of3 c52 Tryz.f52 0 18 (fun q => ?_)
  unfold impl_termsFault
  refine J_g 2 [] [(0, sl 7 Term.enc a1)] [] orcN ?_
  refine J_g 12 [] [(6, sl 7 Term.enc a1), (7, iv (a1.length : Int)), (8, iv 0)] [] orcN ?_
  refine J_lqF (K0 := (fun r : Int => some (iv r, []))) (fun _ => rfl) (impl_termsFault_l1.ok a1 q _ (fun v15 => J_j ?_) 0)
  refine J_g 14 [] [(2, iv 0)] [] orcN ?_
  exact J_r1 rfl

noncomputable def c94 : Code := (Tryz.f94.body).getD .skip

theorem impl_PackFault_l2.ok (a1 : Pack) (q : Wd) (kn : Unit → Option (D × List Ent)) (hk : ∀ v : Unit, J (q.g Tryz.prog 94 0 93) c94 (atI c94 63) (St.mk' [(1, pp 0)] [(0, .box (Pack.enc false a1))]) (some v) kn) :
    ∀ s54 : Int, J (q.g Tryz.prog 94 0 93) c94 (atI c94 500) (St.mk' [(1, pp 0), (75, sl 1 (eSl false 7 Term.enc) a1.Needs), (76, iv (a1.Needs.length : Int)), (77, iv s54)] [(0, .box (Pack.enc false a1))]) (impl_PackFault_l2 a1 s54) (Fl.go (fun r : Int => some (iv r, [])) kn) := by
  refine J_lp (fun g ih s54 => ?_)
  unfold impl_PackFault_l2b
  refine J_g 1000 [] [(1, pp 0), (75, sl 1 (eSl false 7 Term.enc) a1.Needs), (76, iv (a1.Needs.length : Int)), (77, iv s54), (78, bv (decide (s54 < (a1.Needs.length : Int))))] [(0, .box (Pack.enc false a1))] orcN ?_
  refine J_if2 78 (fun h55 => ?_) (fun h55 => ?_)
  · refine J_bind (fun x56 h57 => ?_)
    refine J_g 16024 [] [(1, pp 0), (8, sl 7 Term.enc x56), (75, sl 1 (eSl false 7 Term.enc) a1.Needs), (76, iv (a1.Needs.length : Int)), (77, iv s54)] [(0, .box (Pack.enc false a1))] (orcC 0 (x_ix (kk := .i64) 84 31 1 (eSl false 7 Term.enc) (.tmp 75) (.tmp 77) h57) orcN) ?_
    refine J_g 64100 [] [(1, pp 0), (8, sl 7 Term.enc x56), (75, sl 1 (eSl false 7 Term.enc) a1.Needs), (76, iv (a1.Needs.length : Int)), (77, iv s54), (83, bv ((x56.length : Int) == 0))] [(0, .box (Pack.enc false a1))] orcN ?_
    refine J_if2 83 (fun h58 => ?_) (fun h58 => ?_)
    · refine J_g 256404 [] [(2, iv 1)] [] orcN ?_
      exact J_r1 rfl
    · refine J_bind (fun x59 h60 => ?_)
      refine J_g 64102 [] [(1, pp 0), (9, iv x59), (75, sl 1 (eSl false 7 Term.enc) a1.Needs), (76, iv (a1.Needs.length : Int)), (77, iv s54)] [(0, .box (Pack.enc false a1))] (orcC 1 (x_c0 [(.tmp 84)] [31] (impl_termsFault.ok x56) h60) orcN) ?_
      refine J_g 128206 [] [(1, pp 0), (9, iv x59), (75, sl 1 (eSl false 7 Term.enc) a1.Needs), (76, iv (a1.Needs.length : Int)), (77, iv s54), (87, bv (x59 != 0))] [(0, .box (Pack.enc false a1))] orcN ?_
      refine J_if2 87 (fun h61 => ?_) (fun h61 => ?_)
      · refine J_g 512828 [] [(2, iv x59)] [] orcN ?_
        exact J_r1 rfl
      · refine J_g 4007 [] [(1, pp 0), (75, sl 1 (eSl false 7 Term.enc) a1.Needs), (76, iv (a1.Needs.length : Int)), (77, iv (w64 (s54 + 1)))] [(0, .box (Pack.enc false a1))] orcN ?_
        exact J_q (J_b (ih (w64 (s54 + 1)))) rfl
  · exact J_qw (hk ()) rfl

theorem impl_PackFault_l1.ok (a1 : Pack) (q : Wd) (kn : Unit → Option (D × List Ent)) (hk : ∀ v : Unit, J (q.g Tryz.prog 94 0 93) c94 (atI c94 31) (St.mk' [(1, pp 0)] [(0, .box (Pack.enc false a1))]) (some v) kn) :
    ∀ s32 : Int, J (q.g Tryz.prog 94 0 93) c94 (atI c94 244) (St.mk' [(1, pp 0), (49, sl 1 eStr a1.Provides), (50, iv (a1.Provides.length : Int)), (51, iv s32)] [(0, .box (Pack.enc false a1))]) (impl_PackFault_l1 a1 s32) (Fl.go (fun r : Int => some (iv r, [])) kn) := by
  refine J_lp (fun g ih s32 => ?_)
  unfold impl_PackFault_l1b
  refine J_g 488 [] [(1, pp 0), (49, sl 1 eStr a1.Provides), (50, iv (a1.Provides.length : Int)), (51, iv s32), (52, bv (decide (s32 < (a1.Provides.length : Int))))] [(0, .box (Pack.enc false a1))] orcN ?_
  refine J_if2 52 (fun h33 => ?_) (fun h33 => ?_)
  · refine J_bind (fun x34 h35 => ?_)
    refine J_g 7832 [] [(1, pp 0), (4, iv s32), (5, sv x34), (49, sl 1 eStr a1.Provides), (50, iv (a1.Provides.length : Int)), (51, iv s32)] [(0, .box (Pack.enc false a1))] (orcC 1 (x_ix (kk := .i64) 73 9 1 eStr (.tmp 49) (.tmp 51) h35) orcN) ?_
    refine J_bind (fun x36 h37 => ?_)
    refine J_g 31332 [] [(1, pp 0), (4, iv s32), (5, sv x34), (6, iv x36), (49, sl 1 eStr a1.Provides), (50, iv (a1.Provides.length : Int)), (51, iv s32)] [(0, .box (Pack.enc false a1))] (orcC 1 (x_c0 [(.tmp 56)] [9] (impl_NameFault.ok x34) h37) orcN) ?_
    refine J_g 62666 [] [(1, pp 0), (4, iv s32), (5, sv x34), (6, iv x36), (49, sl 1 eStr a1.Provides), (50, iv (a1.Provides.length : Int)), (51, iv s32), (59, bv (x36 != 0))] [(0, .box (Pack.enc false a1))] orcN ?_
    refine J_if2 59 (fun h38 => ?_) (fun h38 => ?_)
    · refine J_g 250668 [] [(2, iv x36)] [] orcN ?_
      exact J_r1 rfl
    · refine J_join (atI c94 31335) (fun v44 : Bool => St.mk' [(1, pp 0), (49, sl 1 eStr a1.Provides), (50, iv (a1.Provides.length : Int)), (51, iv s32), (72, bv v44)] [(0, .box (Pack.enc false a1))]) (fun v44 => ?_) (fun jv44 => ?_)
      · refine J_if2 72 (fun h45 => ?_) (fun h45 => ?_)
        · refine J_g 125340 [] [(2, iv 6)] [] orcN ?_
          exact J_r1 rfl
        · refine J_g 1959 [] [(1, pp 0), (49, sl 1 eStr a1.Provides), (50, iv (a1.Provides.length : Int)), (51, iv (w64 (s32 + 1)))] [(0, .box (Pack.enc false a1))] orcN ?_
          exact J_q (J_b (ih (w64 (s32 + 1)))) rfl
      · refine J_ite (fun h39 => ?_) (fun h39 => ?_)
        · refine J_g 31334 [] [(1, pp 0), (49, sl 1 eStr a1.Provides), (50, iv (a1.Provides.length : Int)), (51, iv s32), (72, bv true)] [(0, .box (Pack.enc false a1))] (orcL 4 [(64, bv (seq x34 a1.Name))] [] h39 orcN) ?_
          exact J_qw (J_j (jv44 true)) rfl
        · refine J_bind (fun x40 h41 => ?_)
          refine J_bind (fun x42 h43 => ?_)
          refine J_g 31334 [] [(1, pp 0), (49, sl 1 eStr a1.Provides), (50, iv (a1.Provides.length : Int)), (51, iv s32), (72, bv x42)] [(0, .box (Pack.enc false a1))] (orcL 4 [(64, bv (seq x34 a1.Name))] [] h39 (orcH 8 4 65 false (x_ls 73 9 1 eStr (.tmp 67) none (some (.tmp 68)) h41) (orcH 10 4 65 false (x_c0 [(.tmp 69), (.tmp 70)] [73, 9] (slices_Contains_Lstring.ok x40 x34) h43) orcN))) ?_
          exact J_qw (J_j (jv44 x42)) rfl
  · exact J_qw (hk ()) rfl

theorem impl_PackFault.ok (a1 : Pack) : Ok Tryz.prog 94 [.ag (Pack.enc false a1)] [] ((impl_PackFault a1).map fun r => (iv r, [])) := by
  refine Ok_of3 c94 Tryz.f94 0 93 (fun q => ?_)
  unfold impl_PackFault
  refine J_g 2 [(0, 0)] [(1, pp 0)] [(0, .box (Pack.enc false a1))] orcN ?_
  refine J_bind (fun x2 h3 => ?_)
  refine J_bind (fun x4 h5 => ?_)
  refine J_bind (fun x6 h7 => ?_)
  refine J_g 12 [] [(1, pp 0), (3, iv x6)] [(0, .box (Pack.enc false a1))] (orcC 2 (x_c0 [(.tmp 11)] [9] (impl_NameFault.ok a1.Name) h3) (orcC 5 (x_c0 [(.tmp 14)] [83] (impl_VersionFault.ok a1.Version) h5) (orcC 6 (x_bp 41 2 1 1 eI64 [x2, x4] [0, 1] [(.tmp 12), (.tmp 15)] [iv x2, iv x4]) (orcC 7 (x_c1 («as» := [rr 1 [x2, x4]]) [(.tmp 16)] [41] true [(1, rE 1 eI64 [x2, x4])] [] (.cons (am_b (.head _) (fun _ => rfl) rfl) (.nil)) (impl_firstCode.ok [x2, x4]) h7 (.same rfl rfl) (hbor := fun _ => ⟨rfl, flat_sc⟩)) orcN)))) ?_
  refine J_g 26 [] [(1, pp 0), (3, iv x6), (19, bv (x6 != 0))] [(0, .box (Pack.enc false a1))] orcN ?_
  refine J_if2 19 (fun h8 => ?_) (fun h8 => ?_)
  · refine J_g 108 [] [(2, iv x6)] [] orcN ?_
    exact J_r1 rfl
  · refine J_bind (fun x9 h10 => ?_)
    refine J_g 56 [] [(1, pp 0), (21, bv (!x9))] [(0, .box (Pack.enc false a1))] (orcC 2 (x_c0 [(.tmp 23), (.const (.int .i64 1)), (.const (.int .i64 200))] [2, 2, 2] (impl_within.ok a1.Size 1 200) h10) orcN) ?_
    refine J_if2 21 (fun h11 => ?_) (fun h11 => ?_)
    · refine J_g 228 [] [(2, iv 3)] [] orcN ?_
      exact J_r1 rfl
    · refine J_join (atI c94 231) (fun v17 : Bool => St.mk' [(1, pp 0), (26, bv v17)] [(0, .box (Pack.enc false a1))]) (fun v17 => ?_) (fun jv17 => ?_)
      · refine J_if2 26 (fun h18 => ?_) (fun h18 => ?_)
        · refine J_g 924 [] [(2, iv 2)] [] orcN ?_
          exact J_r1 rfl
        · refine J_g 60 [] [(1, pp 0), (49, sl 1 eStr a1.Provides), (50, iv (a1.Provides.length : Int)), (51, iv 0)] [(0, .box (Pack.enc false a1))] orcN ?_
          refine J_lqF (K0 := (fun r : Int => some (iv r, []))) (fun _ => rfl) (impl_PackFault_l1.ok a1 q _ (fun v46 => J_j ?_) 0)
          refine J_g 124 [] [(1, pp 0), (75, sl 1 (eSl false 7 Term.enc) a1.Needs), (76, iv (a1.Needs.length : Int)), (77, iv 0)] [(0, .box (Pack.enc false a1))] orcN ?_
          refine J_lqF (K0 := (fun r : Int => some (iv r, []))) (fun _ => rfl) (impl_PackFault_l2.ok a1 q _ (fun v62 => J_j ?_) 0)
          refine J_bind (fun x63 h64 => ?_)
          refine J_g 126 [] [(2, iv x63)] [] (orcC 2 (x_c0 [(.tmp 91)] [31] (impl_termsFault.ok a1.Bars) h64) orcN) ?_
          exact J_r1 rfl
      · refine J_ite (fun h12 => ?_) (fun h12 => ?_)
        · refine J_g 230 [] [(1, pp 0), (26, bv true)] [(0, .box (Pack.enc false a1))] (orcL 4 [(30, bv (decide ((a1.Provides.length : Int) > 4)))] [] h12 orcN) ?_
          exact J_qw (J_j (jv17 true)) rfl
        · refine J_ite (fun h13 => ?_) (fun h13 => ?_)
          · refine J_g 230 [] [(1, pp 0), (26, bv true)] [(0, .box (Pack.enc false a1))] (orcL 4 [(30, bv (decide ((a1.Provides.length : Int) > 4)))] [] h12 (orcL 10 [(36, bv (decide ((a1.Needs.length : Int) > 4)))] [] h13 orcN)) ?_
            exact J_qw (J_j (jv17 true)) rfl
          · refine J_ite (fun h14 => ?_) (fun h14 => ?_)
            · refine J_g 230 [] [(1, pp 0), (26, bv true)] [(0, .box (Pack.enc false a1))] (orcL 4 [(30, bv (decide ((a1.Provides.length : Int) > 4)))] [] h12 (orcL 10 [(36, bv (decide ((a1.Needs.length : Int) > 4)))] [] h13 (orcL 16 [(42, bv (decide ((a1.Bars.length : Int) > 4)))] [] h14 orcN))) ?_
              exact J_qw (J_j (jv17 true)) rfl
            · refine J_bind (fun x15 h16 => ?_)
              refine J_g 230 [] [(1, pp 0), (26, bv x15)] [(0, .box (Pack.enc false a1))] (orcL 4 [(30, bv (decide ((a1.Provides.length : Int) > 4)))] [] h12 (orcL 10 [(36, bv (decide ((a1.Needs.length : Int) > 4)))] [] h13 (orcL 16 [(42, bv (decide ((a1.Bars.length : Int) > 4)))] [] h14 (orcH 19 16 43 false (x_c1 («as» := [sl 1 (eSl false 7 Term.enc) a1.Needs, .fn 142 []]) [(.tmp 45), (.func 142)] [84, 160] false [] [] (.cons (.same rfl) (.cons (.fn (.nil)) (.nil))) (slices_ContainsFunc_LLimplTerm_impl_PackFault_1.ok a1.Needs) h16 (.same rfl rfl)) orcN)))) ?_
              exact J_qw (J_j (jv17 x15)) rfl

noncomputable def c145 : Code := (Tryz.f145.body).getD .skip

theorem impl_find_1.ok (a1 : Pack) (a2 : ByteArray) (a3 : Version) : Ok Tryz.prog 145 [.ag (Pack.enc false a1), pp 0, pp 1] [.box [sv a2], .box (Version.enc a3)] ((impl_find_1 a1 a2 a3).map fun r => (bv r, [.box [sv a2], .box (Version.enc a3)])) := by
  refine Ok_of3 c145 Tryz.f145 2 15 (fun q => ?_)
  unfold impl_find_1
  refine J_g 2 [(0, 2)] [(1, pp 0), (2, pp 1), (3, pp 2)] [(0, .box [sv a2]), (1, .box (Version.enc a3)), (2, .box (Pack.enc false a1))] orcN ?_
  refine J_ite (fun h4 => ?_) (fun h4 => ?_)
  · refine J_g 6 [] [(4, bv (a1.Version.A == a3.A && (a1.Version.B == a3.B && (a1.Version.C == a3.C && true))))] [(0, .box [sv a2]), (1, .box (Version.enc a3))] (orcL 4 [(8, bv (seq a1.Name a2))] [] h4 (orcH 8 4 9 true (x_seq (b := .eql) (r := (a1.Version.A == a3.A && (a1.Version.B == a3.B && (a1.Version.C == a3.C && true)))) 83 83 (.tmp 11) (.tmp 12) [.int .i64 a1.Version.A, .int .i64 a1.Version.B, .int .i64 a1.Version.C] [.int .i64 a3.A, .int .i64 a3.B, .int .i64 a3.C] (.inl ⟨rfl, rfl⟩)) orcN)) ?_
    exact J_r1 rfl
  · refine J_g 6 [] [(4, bv false)] [(0, .box [sv a2]), (1, .box (Version.enc a3))] (orcL 4 [(8, bv (seq a1.Name a2))] [] h4 orcN) ?_
    exact J_r1 rfl

noncomputable def c144 : Code := (Tryz.f144.body).getD .skip

theorem slices_IndexFunc_LimplPack_impl_find_1_l1.ok (a1 : (List Pack)) (a2 : ByteArray) (a3 : Version) (q : Wd) (kn : Unit → Option (D × List Ent)) (hk : ∀ v : Unit, J (q.g Tryz.prog 144 2 19) c144 (atI c144 7) (St.mk' [] [(0, .box [sv a2]), (1, .box (Version.enc a3))]) (some v) kn) :
    ∀ s10 : Int, J (q.g Tryz.prog 144 2 19) c144 (atI c144 52) (St.mk' [(0, sl 8 (Pack.enc false) a1), (1, .fn 145 [pp 0, pp 1]), (7, iv (a1.length : Int)), (8, iv s10)] [(0, .box [sv a2]), (1, .box (Version.enc a3))]) (slices_IndexFunc_LimplPack_impl_find_1_l1 a1 a2 a3 s10) (Fl.go (fun r : Int => some (iv r, [.box [sv a2], .box (Version.enc a3)])) kn) := by
  refine J_lp (fun g ih s10 => ?_)
  unfold slices_IndexFunc_LimplPack_impl_find_1_l1b
  refine J_g 104 [] [(0, sl 8 (Pack.enc false) a1), (1, .fn 145 [pp 0, pp 1]), (7, iv (a1.length : Int)), (8, iv s10), (9, bv (decide (s10 < (a1.length : Int))))] [(0, .box [sv a2]), (1, .box (Version.enc a3))] orcN ?_
  refine J_if2 9 (fun h11 => ?_) (fun h11 => ?_)
  · refine J_g 1688 [] [(0, sl 8 (Pack.enc false) a1), (1, .fn 145 [pp 0, pp 1]), (5, iv s10), (7, iv (a1.length : Int)), (8, iv s10)] [(0, .box [sv a2]), (1, .box (Version.enc a3))] orcN ?_
    refine J_bind (fun x12 h13 => ?_)
    refine J_bind (fun x14 h15 => ?_)
    refine J_g 3378 [] [(0, sl 8 (Pack.enc false) a1), (1, .fn 145 [pp 0, pp 1]), (5, iv s10), (7, iv (a1.length : Int)), (8, iv s10), (16, bv x14)] [(0, .box [sv a2]), (1, .box (Version.enc a3))] (orcC 3 (x_ix (kk := .i64) 29 86 8 (Pack.enc false) (.tmp 12) (.tmp 13) h13) (orcC 5 (x_ro [(0, .box [sv a2]), (1, .box (Version.enc a3))] [] (x_c1v 11 [(.tmp 15)] [86] false [(0, .box [sv a2]), (1, .box (Version.enc a3))] [0, 1] [.ag (Pack.enc false x12)] [pp 0, pp 1] (.cons (.same rfl) (.cons (.pt rfl) (.cons (.pt rfl) (.nil)))) (impl_find_1.ok x12 a2 a3) h15 (.same rfl rfl))) orcN)) ?_
    refine J_if2 16 (fun h16 => ?_) (fun h16 => ?_)
    · refine J_g 13516 [] [(4, iv s10)] [(0, .box [sv a2]), (1, .box (Version.enc a3))] orcN ?_
      exact J_r1 rfl
    · refine J_g 423 [] [(0, sl 8 (Pack.enc false) a1), (1, .fn 145 [pp 0, pp 1]), (7, iv (a1.length : Int)), (8, iv (w64 (s10 + 1)))] [(0, .box [sv a2]), (1, .box (Version.enc a3))] orcN ?_
      exact J_q (J_b (ih (w64 (s10 + 1)))) rfl
  · exact J_qw (hk ()) rfl

theorem slices_IndexFunc_LimplPack_impl_find_1.ok (a1 : (List Pack)) (a2 : ByteArray) (a3 : Version) : Ok Tryz.prog 144 [sl 8 (Pack.enc false) a1, .fn 145 [pp 0, pp 1]] [.box [sv a2], .box (Version.enc a3)] ((slices_IndexFunc_LimplPack_impl_find_1 a1 a2 a3).map fun r => (iv r, [.box [sv a2], .box (Version.enc a3)])) := by
  refine Ok_of3 c144 Tryz.f144 2 19 (fun q => ?_)
  unfold slices_IndexFunc_LimplPack_impl_find_1
  refine J_g 2 [] [(0, sl 8 (Pack.enc false) a1), (1, .fn 145 [pp 0, pp 1])] [(0, .box [sv a2]), (1, .box (Version.enc a3))] orcN ?_
  refine J_g 12 [] [(0, sl 8 (Pack.enc false) a1), (1, .fn 145 [pp 0, pp 1]), (7, iv (a1.length : Int)), (8, iv 0)] [(0, .box [sv a2]), (1, .box (Version.enc a3))] orcN ?_
  refine J_lqF (K0 := (fun r : Int => some (iv r, [.box [sv a2], .box (Version.enc a3)]))) (fun _ => rfl) (slices_IndexFunc_LimplPack_impl_find_1_l1.ok a1 a2 a3 q _ (fun v17 => J_j ?_) 0)
  refine J_g 14 [] [(4, iv (-1))] [(0, .box [sv a2]), (1, .box (Version.enc a3))] orcN ?_
  exact J_r1 rfl

noncomputable def c95 : Code := (Tryz.f95.body).getD .skip

theorem impl_find.ok (a1 : (List Pack)) (a2 : ByteArray) (a3 : Version) : Ok Tryz.prog 95 [sl 8 (Pack.enc false) a1, sv a2, .ag (Version.enc a3)] [] ((impl_find a1 a2 a3).map fun r => (iv r, [])) := by
  refine Ok_of3 c95 Tryz.f95 0 10 (fun q => ?_)
  unfold impl_find
  refine J_g 2 [(0, 0), (1, 1)] [(0, sl 8 (Pack.enc false) a1), (4, pp 0), (5, pp 1)] [(0, .box [sv a2]), (1, .box (Version.enc a3))] orcN ?_
  refine J_bind (fun x4 h5 => ?_)
  refine J_g 6 [] [(6, iv x4)] [] (orcC 2 (x_ro [(0, .box [sv a2]), (1, .box (Version.enc a3))] [] (x_c1 («as» := [sl 8 (Pack.enc false) a1, .fn 145 [pp 0, pp 1]]) [(.tmp 7), (.tmp 8)] [29, 171] false [(0, .box [sv a2]), (1, .box (Version.enc a3))] [0, 1] (.cons (.same rfl) (.cons (.fn (.cons (.pt rfl) (.cons (.pt rfl) (.nil)))) (.nil))) (slices_IndexFunc_LimplPack_impl_find_1.ok a1 a2 a3) h5 (.same rfl rfl))) orcN) ?_
  exact J_r1 rfl

noncomputable def c51 : Code := (Tryz.f51.body).getD .skip

theorem impl_CatalogFault_l1.ok (a1 : (List Pack)) (q : Wd) (kn : Unit → Option (D × List Ent)) (hk : ∀ v : Unit, J (q.g Tryz.prog 51 0 31) c51 (atI c51 15) (St.mk' [] []) (some v) kn) :
    ∀ s14 : Int, J (q.g Tryz.prog 51 0 31) c51 (atI c51 116) (St.mk' [(0, sl 8 (Pack.enc false) a1), (9, sl 8 (Pack.enc false) a1), (10, iv (a1.length : Int)), (11, iv s14)] []) (impl_CatalogFault_l1 a1 s14) (Fl.go (fun r : Int => some (iv r, [])) kn) := by
  refine J_lp (fun g ih s14 => ?_)
  unfold impl_CatalogFault_l1b
  refine J_g 232 [] [(0, sl 8 (Pack.enc false) a1), (9, sl 8 (Pack.enc false) a1), (10, iv (a1.length : Int)), (11, iv s14), (12, bv (decide (s14 < (a1.length : Int))))] [] orcN ?_
  refine J_if2 12 (fun h15 => ?_) (fun h15 => ?_)
  · refine J_bind (fun x16 h17 => ?_)
    refine J_g 3736 [(3, 0)] [(0, sl 8 (Pack.enc false) a1), (3, iv s14), (4, pp 0), (9, sl 8 (Pack.enc false) a1), (10, iv (a1.length : Int)), (11, iv s14)] [(0, .box (Pack.enc false x16))] (orcC 1 (x_ix (kk := .i64) 29 86 8 (Pack.enc false) (.tmp 9) (.tmp 11) h17) orcN) ?_
    refine J_bind (fun x18 h19 => ?_)
    refine J_g 14948 [] [(0, sl 8 (Pack.enc false) a1), (3, iv s14), (4, pp 0), (5, iv x18), (9, sl 8 (Pack.enc false) a1), (10, iv (a1.length : Int)), (11, iv s14)] [(0, .box (Pack.enc false x16))] (orcC 1 (x_c0 [(.tmp 16)] [86] (impl_PackFault.ok x16) h19) orcN) ?_
    refine J_g 29898 [] [(0, sl 8 (Pack.enc false) a1), (3, iv s14), (4, pp 0), (5, iv x18), (9, sl 8 (Pack.enc false) a1), (10, iv (a1.length : Int)), (11, iv s14), (19, bv (x18 != 0))] [(0, .box (Pack.enc false x16))] orcN ?_
    refine J_if2 19 (fun h20 => ?_) (fun h20 => ?_)
    · refine J_g 119596 [] [(2, iv x18)] [] orcN ?_
      exact J_r1 rfl
    · refine J_bind (fun x21 h22 => ?_)
      refine J_bind (fun x23 h24 => ?_)
      refine J_g 14950 [] [(0, sl 8 (Pack.enc false) a1), (9, sl 8 (Pack.enc false) a1), (10, iv (a1.length : Int)), (11, iv s14), (29, bv (decide (x23 ≥ 0)))] [] (orcC 2 (x_ls 29 86 8 (Pack.enc false) (.tmp 21) none (some (.tmp 22)) h22) (orcC 7 (x_c0 [(.tmp 23), (.tmp 25), (.tmp 27)] [29, 9, 83] (impl_find.ok x21 x16.Name x16.Version) h24) orcN)) ?_
      refine J_if2 29 (fun h25 => ?_) (fun h25 => ?_)
      · refine J_g 59804 [] [(2, iv 6)] [] orcN ?_
        exact J_r1 rfl
      · refine J_g 935 [] [(0, sl 8 (Pack.enc false) a1), (9, sl 8 (Pack.enc false) a1), (10, iv (a1.length : Int)), (11, iv (w64 (s14 + 1)))] [] orcN ?_
        exact J_q (J_b (ih (w64 (s14 + 1)))) rfl
  · exact J_qw (hk ()) rfl

theorem impl_CatalogFault.ok (a1 : (List Pack)) : Ok Tryz.prog 51 [sl 8 (Pack.enc false) a1] [] ((impl_CatalogFault a1).map fun r => (iv r, [])) := by
  refine Ok_of3 c51 Tryz.f51 0 31 (fun q => ?_)
  unfold impl_CatalogFault
  refine J_g 2 [] [(0, sl 8 (Pack.enc false) a1)] [] orcN ?_
  refine J_g 12 [] [(0, sl 8 (Pack.enc false) a1), (8, bv (decide ((a1.length : Int) > 24)))] [] orcN ?_
  refine J_if2 8 (fun h2 => ?_) (fun h2 => ?_)
  · refine J_g 52 [] [(2, iv 2)] [] orcN ?_
    exact J_r1 rfl
  · refine J_g 28 [] [(0, sl 8 (Pack.enc false) a1), (9, sl 8 (Pack.enc false) a1), (10, iv (a1.length : Int)), (11, iv 0)] [] orcN ?_
    refine J_lqF (K0 := (fun r : Int => some (iv r, []))) (fun _ => rfl) (impl_CatalogFault_l1.ok a1 q _ (fun v26 => J_j ?_) 0)
    refine J_g 30 [] [(2, iv 0)] [] orcN ?_
    exact J_r1 rfl

noncomputable def c122 : Code := (Tryz.f122.body).getD .skip

theorem impl_PathFault_l1.ok (a1 : ByteArray) (q : Wd) (kn : Unit → Option (D × List Ent)) (hk : ∀ v : Unit, J (q.g Tryz.prog 122 0 37) c122 (atI c122 15) (St.mk' [] []) (some v) kn) :
    ∀ s15 : Int, J (q.g Tryz.prog 122 0 37) c122 (atI c122 116) (St.mk' [(0, sv a1), (14, iv (a1.size : Int)), (15, iv s15)] []) (impl_PathFault_l1 a1 s15) (Fl.go (fun r : Int => some (iv r, [])) kn) := by
  refine J_lp (fun g ih s15 => ?_)
  unfold impl_PathFault_l1b
  refine J_g 232 [] [(0, sv a1), (14, iv (a1.size : Int)), (15, iv s15), (16, bv (decide (s15 < (a1.size : Int))))] [] orcN ?_
  refine J_if2 16 (fun h16 => ?_) (fun h16 => ?_)
  · refine J_g 3736 [] [(0, sv a1), (3, iv s15), (14, iv (a1.size : Int)), (15, iv s15)] [] orcN ?_
    refine J_bind (fun x17 h18 => ?_)
    refine J_g 7474 [] [(0, sv a1), (4, uv x17), (14, iv (a1.size : Int)), (15, iv s15)] [] (orcC 2 (x_bi (kk := .i64) 9 (.tmp 18) (.tmp 19) h18) orcN) ?_
    refine J_bind (fun x19 h20 => ?_)
    refine J_join (atI c122 14951) (fun v24 : Bool => St.mk' [(0, sv a1), (14, iv (a1.size : Int)), (15, iv s15), (35, bv v24)] []) (fun v24 => ?_) (fun jv24 => ?_)
    · refine J_if2 35 (fun h25 => ?_) (fun h25 => ?_)
      · refine J_g 59804 [] [(2, iv 5)] [] orcN ?_
        exact J_r1 rfl
      · refine J_g 935 [] [(0, sv a1), (14, iv (a1.size : Int)), (15, iv (w64 (s15 + 1)))] [] orcN ?_
        exact J_q (J_b (ih (w64 (s15 + 1)))) rfl
    · refine J_ite (fun h21 => ?_) (fun h21 => ?_)
      · refine J_ite (fun h22 => ?_) (fun h22 => ?_)
        · refine J_ite (fun h23 => ?_) (fun h23 => ?_)
          · refine J_g 14950 [] [(0, sv a1), (14, iv (a1.size : Int)), (15, iv s15), (35, bv (x17 != 47))] [] (orcC 1 (x_c0 [(.tmp 21)] [5] (impl_isNameByte.ok x17) h20) (orcL 3 [(23, bv (!x19))] [] h21 (orcL 7 [(27, bv (x17 != 46))] [] h22 (orcL 11 [(31, bv (x17 != 45))] [] h23 orcN)))) ?_
            exact J_qw (J_j (jv24 (x17 != 47))) rfl
          · refine J_g 14950 [] [(0, sv a1), (14, iv (a1.size : Int)), (15, iv s15), (35, bv false)] [] (orcC 1 (x_c0 [(.tmp 21)] [5] (impl_isNameByte.ok x17) h20) (orcL 3 [(23, bv (!x19))] [] h21 (orcL 7 [(27, bv (x17 != 46))] [] h22 (orcL 11 [(31, bv (x17 != 45))] [] h23 orcN)))) ?_
            exact J_qw (J_j (jv24 false)) rfl
        · refine J_g 14950 [] [(0, sv a1), (14, iv (a1.size : Int)), (15, iv s15), (35, bv false)] [] (orcC 1 (x_c0 [(.tmp 21)] [5] (impl_isNameByte.ok x17) h20) (orcL 3 [(23, bv (!x19))] [] h21 (orcL 7 [(27, bv (x17 != 46))] [] h22 orcN))) ?_
          exact J_qw (J_j (jv24 false)) rfl
      · refine J_g 14950 [] [(0, sv a1), (14, iv (a1.size : Int)), (15, iv s15), (35, bv false)] [] (orcC 1 (x_c0 [(.tmp 21)] [5] (impl_isNameByte.ok x17) h20) (orcL 3 [(23, bv (!x19))] [] h21 orcN)) ?_
        exact J_qw (J_j (jv24 false)) rfl
  · exact J_qw (hk ()) rfl

theorem impl_PathFault.ok (a1 : ByteArray) : Ok Tryz.prog 122 [sv a1] [] ((impl_PathFault a1).map fun r => (iv r, [])) := by
  refine Ok_of3 c122 Tryz.f122 0 37 (fun q => ?_)
  unfold impl_PathFault
  refine J_g 2 [] [(0, sv a1)] [] orcN ?_
  refine J_join (atI c122 13) (fun v3 : Bool => St.mk' [(0, sv a1), (12, bv v3)] []) (fun v3 => ?_) (fun jv3 => ?_)
  · refine J_if2 12 (fun h4 => ?_) (fun h4 => ?_)
    · refine J_g 52 [] [(2, iv 5)] [] orcN ?_
      exact J_r1 rfl
    · refine J_g 28 [] [(0, sv a1), (14, iv (a1.size : Int)), (15, iv 0)] [] orcN ?_
      refine J_lqF (K0 := (fun r : Int => some (iv r, []))) (fun _ => rfl) (impl_PathFault_l1.ok a1 q _ (fun v26 => J_j ?_) 0)
      refine J_g 30 [] [(2, iv 0)] [] orcN ?_
      exact J_r1 rfl
  · refine J_ite (fun h2 => ?_) (fun h2 => ?_)
    · refine J_g 12 [] [(0, sv a1), (12, bv true)] [] (orcL 3 [(7, bv (decide ((a1.size : Int) < 1)))] [] h2 orcN) ?_
      exact J_qw (J_j (jv3 true)) rfl
    · refine J_g 12 [] [(0, sv a1), (12, bv (decide ((a1.size : Int) > 40)))] [] (orcL 3 [(7, bv (decide ((a1.size : Int) < 1)))] [] h2 orcN) ?_
      exact J_qw (J_j (jv3 (decide ((a1.size : Int) > 40)))) rfl

noncomputable def c123 : Code := (Tryz.f123.body).getD .skip

theorem impl_Disk_total_l1.ok (a1 : Disk) (q : Wd) (kn : Int → Option (D × List Ent)) (hk : ∀ v : Int, J (q.g Tryz.prog 123 0 20) c123 (atI c123 15) (St.mk' [(3, iv v)] []) (some v) kn) :
    ∀ s5 : (Int × Int), J (q.g Tryz.prog 123 0 20) c123 (atI c123 116) (St.mk' [(3, iv s5.1), (7, sl 2 (File.enc false) a1.Files), (8, iv (a1.Files.length : Int)), (9, iv s5.2)] []) (impl_Disk_total_l1 a1 s5) kn := by
  refine J_lp (fun g ih s5 => ?_)
  unfold impl_Disk_total_l1b
  refine J_g 232 [] [(3, iv s5.1), (7, sl 2 (File.enc false) a1.Files), (8, iv (a1.Files.length : Int)), (9, iv s5.2), (10, bv (decide (s5.2 < (a1.Files.length : Int))))] [] orcN ?_
  refine J_if2 10 (fun h6 => ?_) (fun h6 => ?_)
  · refine J_bind (fun x7 h8 => ?_)
    refine J_g 3736 [(2, 0)] [(3, iv s5.1), (5, pp 0), (7, sl 2 (File.enc false) a1.Files), (8, iv (a1.Files.length : Int)), (9, iv s5.2)] [(0, .box (File.enc false x7))] (orcC 0 (x_ix (kk := .i64) 44 121 2 (File.enc false) (.tmp 7) (.tmp 9) h8) orcN) ?_
    refine J_g 3737 [] [(3, iv (w64 (s5.1 + (x7.Data.length : Int)))), (7, sl 2 (File.enc false) a1.Files), (8, iv (a1.Files.length : Int)), (9, iv s5.2)] [] orcN ?_
    refine J_g 935 [] [(3, iv (w64 (s5.1 + (x7.Data.length : Int)))), (7, sl 2 (File.enc false) a1.Files), (8, iv (a1.Files.length : Int)), (9, iv (w64 (s5.2 + 1)))] [] orcN ?_
    exact J_q (J_b (ih (w64 (s5.1 + (x7.Data.length : Int)), w64 (s5.2 + 1)))) rfl
  · exact J_qw (hk s5.1) rfl

theorem impl_Disk_total.ok (a1 : Disk) : Ok Tryz.prog 123 [.ag (Disk.enc false a1)] [] ((impl_Disk_total a1).map fun r => (iv r, [])) := by
  refine Ok_of3 c123 Tryz.f123 0 20 (fun q => ?_)
  unfold impl_Disk_total
  refine J_g 2 [(0, 0)] [(1, pp 0)] [(0, .box (Disk.enc false a1))] orcN ?_
  refine J_g 6 [] [(1, pp 0), (3, iv 0)] [(0, .box (Disk.enc false a1))] orcN ?_
  refine J_g 28 [] [(3, iv 0), (7, sl 2 (File.enc false) a1.Files), (8, iv (a1.Files.length : Int)), (9, iv 0)] [] orcN ?_
  refine J_lq (impl_Disk_total_l1.ok a1 q _ (fun v9 => J_j ?_) (0, 0))
  refine J_g 30 [] [(2, iv v9)] [] orcN ?_
  exact J_r1 rfl

noncomputable def c75 : Code := (Tryz.f75.body).getD .skip

theorem impl_DiskFault_l1.ok (a1 : Disk) (q : Wd) (kn : Unit → Option (D × List Ent)) (hk : ∀ v : Unit, J (q.g Tryz.prog 75 0 68) c75 (atI c75 15) (St.mk' [(1, pp 0)] [(0, .box (Disk.enc false a1))]) (some v) kn) :
    ∀ s25 : Int, J (q.g Tryz.prog 75 0 68) c75 (atI c75 116) (St.mk' [(1, pp 0), (29, sl 2 (File.enc false) a1.Files), (30, iv (a1.Files.length : Int)), (31, iv s25)] [(0, .box (Disk.enc false a1))]) (impl_DiskFault_l1 a1 s25) (Fl.go (fun r : Int => some (iv r, [])) kn) := by
  refine J_lp (fun g ih s25 => ?_)
  unfold impl_DiskFault_l1b
  refine J_g 232 [] [(1, pp 0), (29, sl 2 (File.enc false) a1.Files), (30, iv (a1.Files.length : Int)), (31, iv s25), (32, bv (decide (s25 < (a1.Files.length : Int))))] [(0, .box (Disk.enc false a1))] orcN ?_
  refine J_if2 32 (fun h26 => ?_) (fun h26 => ?_)
  · refine J_bind (fun x27 h28 => ?_)
    refine J_g 3736 [(3, 1)] [(1, pp 0), (3, iv s25), (4, pp 1), (29, sl 2 (File.enc false) a1.Files), (30, iv (a1.Files.length : Int)), (31, iv s25)] [(0, .box (Disk.enc false a1)), (1, .box (File.enc false x27))] (orcC 1 (x_ix (kk := .i64) 44 121 2 (File.enc false) (.tmp 29) (.tmp 31) h28) orcN) ?_
    refine J_bind (fun x29 h30 => ?_)
    refine J_g 14948 [] [(1, pp 0), (3, iv s25), (4, pp 1), (5, iv x29), (29, sl 2 (File.enc false) a1.Files), (30, iv (a1.Files.length : Int)), (31, iv s25)] [(0, .box (Disk.enc false a1)), (1, .box (File.enc false x27))] (orcC 2 (x_c0 [(.tmp 37)] [9] (impl_PathFault.ok x27.Path) h30) orcN) ?_
    refine J_g 29898 [] [(1, pp 0), (3, iv s25), (4, pp 1), (5, iv x29), (29, sl 2 (File.enc false) a1.Files), (30, iv (a1.Files.length : Int)), (31, iv s25), (40, bv (x29 != 0))] [(0, .box (Disk.enc false a1)), (1, .box (File.enc false x27))] orcN ?_
    refine J_if2 40 (fun h31 => ?_) (fun h31 => ?_)
    · refine J_g 119596 [] [(2, iv x29)] [] orcN ?_
      exact J_r1 rfl
    · refine J_join (atI c75 29901) (fun v35 : Bool => St.mk' [(1, pp 0), (4, pp 1), (29, sl 2 (File.enc false) a1.Files), (30, iv (a1.Files.length : Int)), (31, iv s25), (42, bv v35)] [(0, .box (Disk.enc false a1)), (1, .box (File.enc false x27))]) (fun v35 => ?_) (fun jv35 => ?_)
      · refine J_if2 42 (fun h36 => ?_) (fun h36 => ?_)
        · refine J_g 119604 [] [(2, iv 1)] [] orcN ?_
          exact J_r1 rfl
        · refine J_g 119606 [] [(1, pp 0), (29, sl 2 (File.enc false) a1.Files), (30, iv (a1.Files.length : Int)), (31, iv s25), (57, bv (decide ((x27.Data.length : Int) > 4000)))] [(0, .box (Disk.enc false a1))] orcN ?_
          refine J_if2 57 (fun h37 => ?_) (fun h37 => ?_)
          · refine J_g 478428 [] [(2, iv 2)] [] orcN ?_
            exact J_r1 rfl
          · refine J_g 935 [] [(1, pp 0), (29, sl 2 (File.enc false) a1.Files), (30, iv (a1.Files.length : Int)), (31, iv (w64 (s25 + 1)))] [(0, .box (Disk.enc false a1))] orcN ?_
            exact J_q (J_b (ih (w64 (s25 + 1)))) rfl
      · refine J_ite (fun h32 => ?_) (fun h32 => ?_)
        · refine J_bind (fun x33 h34 => ?_)
          refine J_g 29900 [] [(1, pp 0), (4, pp 1), (29, sl 2 (File.enc false) a1.Files), (30, iv (a1.Files.length : Int)), (31, iv s25), (42, bv (slt x27.Path x33.Path || seq x27.Path x33.Path))] [(0, .box (Disk.enc false a1)), (1, .box (File.enc false x27))] (orcL 2 [(44, bv (decide (s25 > 0)))] [] h32 (orcH 9 2 45 true (x_ix (kk := .i64) 44 121 2 (File.enc false) (.tmp 49) (.tmp 51) h34) orcN)) ?_
          exact J_qw (J_j (jv35 (slt x27.Path x33.Path || seq x27.Path x33.Path))) rfl
        · refine J_g 29900 [] [(1, pp 0), (4, pp 1), (29, sl 2 (File.enc false) a1.Files), (30, iv (a1.Files.length : Int)), (31, iv s25), (42, bv false)] [(0, .box (Disk.enc false a1)), (1, .box (File.enc false x27))] (orcL 2 [(44, bv (decide (s25 > 0)))] [] h32 orcN) ?_
          exact J_qw (J_j (jv35 false)) rfl
  · exact J_qw (hk ()) rfl

theorem impl_DiskFault.ok (a1 : Disk) : Ok Tryz.prog 75 [.ag (Disk.enc false a1)] [] ((impl_DiskFault a1).map fun r => (iv r, [])) := by
  refine Ok_of3 c75 Tryz.f75 0 68 (fun q => ?_)
  unfold impl_DiskFault
  refine J_g 2 [(0, 0)] [(1, pp 0)] [(0, .box (Disk.enc false a1))] orcN ?_
  refine J_bind (fun x2 h3 => ?_)
  refine J_join (atI c75 25) (fun v10 : Bool => St.mk' [(1, pp 0), (6, bv v10)] [(0, .box (Disk.enc false a1))]) (fun v10 => ?_) (fun jv10 => ?_)
  · refine J_if2 6 (fun h11 => ?_) (fun h11 => ?_)
    · refine J_g 100 [] [(2, iv 3)] [] orcN ?_
      exact J_r1 rfl
    · refine J_g 102 [] [(1, pp 0), (23, bv (decide ((a1.Files.length : Int) > 120)))] [(0, .box (Disk.enc false a1))] orcN ?_
      refine J_if2 23 (fun h12 => ?_) (fun h12 => ?_)
      · refine J_g 412 [] [(2, iv 2)] [] orcN ?_
        exact J_r1 rfl
      · refine J_g 28 [] [(1, pp 0), (29, sl 2 (File.enc false) a1.Files), (30, iv (a1.Files.length : Int)), (31, iv 0)] [(0, .box (Disk.enc false a1))] orcN ?_
        refine J_lqF (K0 := (fun r : Int => some (iv r, []))) (fun _ => rfl) (impl_DiskFault_l1.ok a1 q _ (fun v38 => J_j ?_) 0)
        refine J_bind (fun x39 h40 => ?_)
        refine J_g 60 [] [(67, bv (decide (x39 > a1.Budget)))] [] (orcC 1 (x_c0 [(.tmp 63)] [46] (impl_Disk_total.ok a1) h40) orcN) ?_
        refine J_if2 67 (fun h41 => ?_) (fun h41 => ?_)
        · refine J_g 244 [] [(2, iv 8)] [] orcN ?_
          exact J_r1 rfl
        · refine J_g 62 [] [(2, iv 0)] [] orcN ?_
          exact J_r1 rfl
  · refine J_ite (fun h4 => ?_) (fun h4 => ?_)
    · refine J_g 24 [] [(1, pp 0), (6, bv true)] [(0, .box (Disk.enc false a1))] (orcC 2 (x_c0 [(.tmp 8), (.const (.int .i64 0)), (.const (.int .i64 20000))] [2, 2, 2] (impl_within.ok a1.Budget 0 20000) h3) (orcL 4 [(10, bv (!x2))] [] h4 orcN)) ?_
      exact J_qw (J_j (jv10 true)) rfl
    · refine J_bind (fun x5 h6 => ?_)
      refine J_ite (fun h7 => ?_) (fun h7 => ?_)
      · refine J_g 24 [] [(1, pp 0), (6, bv true)] [(0, .box (Disk.enc false a1))] (orcC 2 (x_c0 [(.tmp 8), (.const (.int .i64 0)), (.const (.int .i64 20000))] [2, 2, 2] (impl_within.ok a1.Budget 0 20000) h3) (orcL 4 [(10, bv (!x2))] [] h4 (orcH 7 4 11 false (x_c0 [(.tmp 13), (.const (.int .i64 0)), (.const (.int .i64 1000000000))] [2, 2, 2] (impl_within.ok a1.Writes 0 1000000000) h6) (orcL 10 [(16, bv (!x5))] [] h7 orcN)))) ?_
        exact J_qw (J_j (jv10 true)) rfl
      · refine J_bind (fun x8 h9 => ?_)
        refine J_g 24 [] [(1, pp 0), (6, bv (!x8))] [(0, .box (Disk.enc false a1))] (orcC 2 (x_c0 [(.tmp 8), (.const (.int .i64 0)), (.const (.int .i64 20000))] [2, 2, 2] (impl_within.ok a1.Budget 0 20000) h3) (orcL 4 [(10, bv (!x2))] [] h4 (orcH 7 4 11 false (x_c0 [(.tmp 13), (.const (.int .i64 0)), (.const (.int .i64 1000000000))] [2, 2, 2] (impl_within.ok a1.Writes 0 1000000000) h6) (orcL 10 [(16, bv (!x5))] [] h7 (orcH 13 10 17 false (x_c0 [(.tmp 19), (.const (.int .i64 (-1))), (.const (.int .i64 1000000000))] [2, 2, 2] (impl_within.ok a1.Stop (-1) 1000000000) h9) orcN))))) ?_
        exact J_qw (J_j (jv10 (!x8))) rfl

noncomputable def c65 : Code := (Tryz.f65.body).getD .skip

theorem impl_bothCode.ok (a1 : (List Pack)) (a2 : Disk) : Ok Tryz.prog 65 [sl 8 (Pack.enc false) a1, .ag (Disk.enc false a2)] [] ((impl_bothCode a1 a2).map fun r => (iv r, [])) := by
  refine Ok_of3 c65 Tryz.f65 0 11 (fun q => ?_)
  unfold impl_bothCode
  refine J_g 2 [(0, 0)] [(0, sl 8 (Pack.enc false) a1), (3, pp 0)] [(0, .box (Disk.enc false a2))] orcN ?_
  refine J_bind (fun x3 h4 => ?_)
  refine J_bind (fun x5 h6 => ?_)
  refine J_bind (fun x7 h8 => ?_)
  refine J_g 6 [] [(4, iv x7)] [] (orcC 1 (x_c0 [(.tmp 5)] [29] (impl_CatalogFault.ok a1) h4) (orcC 3 (x_c0 [(.tmp 7)] [46] (impl_DiskFault.ok a2) h6) (orcC 4 (x_bp 41 2 1 1 eI64 [x3, x5] [0, 1] [(.tmp 6), (.tmp 8)] [iv x3, iv x5]) (orcC 5 (x_c1 («as» := [rr 1 [x3, x5]]) [(.tmp 9)] [41] true [(1, rE 1 eI64 [x3, x5])] [] (.cons (am_b (.head _) (fun _ => rfl) rfl) (.nil)) (impl_firstCode.ok [x3, x5]) h8 (.same rfl rfl) (hbor := fun _ => ⟨rfl, flat_sc⟩)) orcN)))) ?_
  exact J_r1 rfl

noncomputable def c149 : Code := (Tryz.f149.body).getD .skip

theorem impl_arePlaces_1.ok (a1 : Int) (a2 : (List Pack)) : Ok Tryz.prog 149 [iv a1, pp 0] [.box [sl 8 (Pack.enc false) a2]] ((impl_arePlaces_1 a1 a2).map fun r => (bv r, [.box [sl 8 (Pack.enc false) a2]])) := by
  refine Ok_of3 c149 Tryz.f149 1 10 (fun q => ?_)
  unfold impl_arePlaces_1
  refine J_g 2 [] [(0, iv a1), (1, pp 0)] [(0, .box [sl 8 (Pack.enc false) a2])] orcN ?_
  refine J_bind (fun x3 h4 => ?_)
  refine J_g 6 [] [(3, bv (!x3))] [(0, .box [sl 8 (Pack.enc false) a2])] (orcC 4 (x_c0 [(.tmp 4), (.const (.int .i64 0)), (.tmp 7)] [2, 2, 2] (impl_within.ok a1 0 (w64 ((a2.length : Int) - 1))) h4) orcN) ?_
  exact J_r1 rfl

noncomputable def c185 : Code := (Tryz.f185.body).getD .skip

theorem slices_IndexFunc_Lint64_impl_arePlaces_1_l1.ok (a1 : (List Int)) (a2 : (List Pack)) (q : Wd) (kn : Unit → Option (D × List Ent)) (hk : ∀ v : Unit, J (q.g Tryz.prog 185 1 19) c185 (atI c185 7) (St.mk' [] [(0, .box [sl 8 (Pack.enc false) a2])]) (some v) kn) :
    ∀ s9 : Int, J (q.g Tryz.prog 185 1 19) c185 (atI c185 52) (St.mk' [(0, sl 1 eI64 a1), (1, .fn 149 [pp 0]), (7, iv (a1.length : Int)), (8, iv s9)] [(0, .box [sl 8 (Pack.enc false) a2])]) (slices_IndexFunc_Lint64_impl_arePlaces_1_l1 a1 a2 s9) (Fl.go (fun r : Int => some (iv r, [.box [sl 8 (Pack.enc false) a2]])) kn) := by
  refine J_lp (fun g ih s9 => ?_)
  unfold slices_IndexFunc_Lint64_impl_arePlaces_1_l1b
  refine J_g 104 [] [(0, sl 1 eI64 a1), (1, .fn 149 [pp 0]), (7, iv (a1.length : Int)), (8, iv s9), (9, bv (decide (s9 < (a1.length : Int))))] [(0, .box [sl 8 (Pack.enc false) a2])] orcN ?_
  refine J_if2 9 (fun h10 => ?_) (fun h10 => ?_)
  · refine J_g 1688 [] [(0, sl 1 eI64 a1), (1, .fn 149 [pp 0]), (5, iv s9), (7, iv (a1.length : Int)), (8, iv s9)] [(0, .box [sl 8 (Pack.enc false) a2])] orcN ?_
    refine J_bind (fun x11 h12 => ?_)
    refine J_bind (fun x13 h14 => ?_)
    refine J_g 3378 [] [(0, sl 1 eI64 a1), (1, .fn 149 [pp 0]), (5, iv s9), (7, iv (a1.length : Int)), (8, iv s9), (16, bv x13)] [(0, .box [sl 8 (Pack.enc false) a2])] (orcC 3 (x_ix (kk := .i64) 41 2 1 eI64 (.tmp 12) (.tmp 13) h12) (orcC 5 (x_ro [(0, .box [sl 8 (Pack.enc false) a2])] [] (x_c1v 11 [(.tmp 15)] [2] false [(0, .box [sl 8 (Pack.enc false) a2])] [0] [iv x11] [pp 0] (.cons (.same rfl) (.cons (.pt rfl) (.nil))) (impl_arePlaces_1.ok x11 a2) h14 (.same rfl rfl))) orcN)) ?_
    refine J_if2 16 (fun h15 => ?_) (fun h15 => ?_)
    · refine J_g 13516 [] [(4, iv s9)] [(0, .box [sl 8 (Pack.enc false) a2])] orcN ?_
      exact J_r1 rfl
    · refine J_g 423 [] [(0, sl 1 eI64 a1), (1, .fn 149 [pp 0]), (7, iv (a1.length : Int)), (8, iv (w64 (s9 + 1)))] [(0, .box [sl 8 (Pack.enc false) a2])] orcN ?_
      exact J_q (J_b (ih (w64 (s9 + 1)))) rfl
  · exact J_qw (hk ()) rfl

theorem slices_IndexFunc_Lint64_impl_arePlaces_1.ok (a1 : (List Int)) (a2 : (List Pack)) : Ok Tryz.prog 185 [sl 1 eI64 a1, .fn 149 [pp 0]] [.box [sl 8 (Pack.enc false) a2]] ((slices_IndexFunc_Lint64_impl_arePlaces_1 a1 a2).map fun r => (iv r, [.box [sl 8 (Pack.enc false) a2]])) := by
  refine Ok_of3 c185 Tryz.f185 1 19 (fun q => ?_)
  unfold slices_IndexFunc_Lint64_impl_arePlaces_1
  refine J_g 2 [] [(0, sl 1 eI64 a1), (1, .fn 149 [pp 0])] [(0, .box [sl 8 (Pack.enc false) a2])] orcN ?_
  refine J_g 12 [] [(0, sl 1 eI64 a1), (1, .fn 149 [pp 0]), (7, iv (a1.length : Int)), (8, iv 0)] [(0, .box [sl 8 (Pack.enc false) a2])] orcN ?_
  refine J_lqF (K0 := (fun r : Int => some (iv r, [.box [sl 8 (Pack.enc false) a2]]))) (fun _ => rfl) (slices_IndexFunc_Lint64_impl_arePlaces_1_l1.ok a1 a2 q _ (fun v16 => J_j ?_) 0)
  refine J_g 14 [] [(4, iv (-1))] [(0, .box [sl 8 (Pack.enc false) a2])] orcN ?_
  exact J_r1 rfl

noncomputable def c148 : Code := (Tryz.f148.body).getD .skip

theorem slices_ContainsFunc_Lint64_impl_arePlaces_1.ok (a1 : (List Int)) (a2 : (List Pack)) : Ok Tryz.prog 148 [sl 1 eI64 a1, .fn 149 [pp 0]] [.box [sl 8 (Pack.enc false) a2]] ((slices_ContainsFunc_Lint64_impl_arePlaces_1 a1 a2).map fun r => (bv r, [.box [sl 8 (Pack.enc false) a2]])) := by
  refine Ok_of3 c148 Tryz.f148 1 9 (fun q => ?_)
  unfold slices_ContainsFunc_Lint64_impl_arePlaces_1
  refine J_g 2 [] [(0, sl 1 eI64 a1), (1, .fn 149 [pp 0])] [(0, .box [sl 8 (Pack.enc false) a2])] orcN ?_
  refine J_bind (fun x3 h4 => ?_)
  refine J_g 6 [] [(4, bv (decide (x3 ≥ 0)))] [(0, .box [sl 8 (Pack.enc false) a2])] (orcC 2 (x_ro [(0, .box [sl 8 (Pack.enc false) a2])] [] (x_c1 («as» := [sl 1 eI64 a1, .fn 149 [pp 0]]) [(.tmp 5), (.tmp 6)] [41, 151] false [(0, .box [sl 8 (Pack.enc false) a2])] [0] (.cons (.same rfl) (.cons (.fn (.cons (.pt rfl) (.nil))) (.nil))) (slices_IndexFunc_Lint64_impl_arePlaces_1.ok a1 a2) h4 (.same rfl rfl))) orcN) ?_
  exact J_r1 rfl

noncomputable def c98 : Code := (Tryz.f98.body).getD .skip

theorem impl_arePlaces.ok (a1 : (List Pack)) (a2 : (List Int)) : Ok Tryz.prog 98 [sl 8 (Pack.enc false) a1, sl 1 eI64 a2] [] ((impl_arePlaces a1 a2).map fun r => (bv r, [])) := by
  refine Ok_of3 c98 Tryz.f98 0 9 (fun q => ?_)
  unfold impl_arePlaces
  refine J_g 2 [(0, 0)] [(1, sl 1 eI64 a2), (2, pp 0)] [(0, .box [sl 8 (Pack.enc false) a1])] orcN ?_
  refine J_bind (fun x3 h4 => ?_)
  refine J_g 6 [] [(4, bv (!x3))] [] (orcC 2 (x_ro [(0, .box [sl 8 (Pack.enc false) a1])] [] (x_c1 («as» := [sl 1 eI64 a2, .fn 149 [pp 0]]) [(.tmp 5), (.tmp 6)] [41, 151] false [(0, .box [sl 8 (Pack.enc false) a1])] [0] (.cons (.same rfl) (.cons (.fn (.cons (.pt rfl) (.nil))) (.nil))) (slices_ContainsFunc_Lint64_impl_arePlaces_1.ok a2 a1) h4 (.same rfl rfl))) orcN) ?_
  exact J_r1 rfl

noncomputable def c55 : Code := (Tryz.f55.body).getD .skip

theorem impl_SetFault_l1.ok (a1 : (List Pack)) (a2 : (List Int)) (q : Wd) (kn : Unit → Option (D × List Ent)) (hk : ∀ v : Unit, J (q.g Tryz.prog 55 0 32) c55 (atI c55 15) (St.mk' [(0, sl 8 (Pack.enc false) a1), (1, sl 1 eI64 a2)] []) (some v) kn) :
    ∀ s12 : Int, J (q.g Tryz.prog 55 0 32) c55 (atI c55 116) (St.mk' [(0, sl 8 (Pack.enc false) a1), (1, sl 1 eI64 a2), (6, iv s12)] []) (impl_SetFault_l1 a1 a2 s12) (Fl.go (fun r : Int => some (iv r, [])) kn) := by
  refine J_lp (fun g ih s12 => ?_)
  unfold impl_SetFault_l1b
  refine J_g 464 [] [(0, sl 8 (Pack.enc false) a1), (1, sl 1 eI64 a2), (6, iv s12), (15, bv (decide (s12 < (a2.length : Int))))] [] orcN ?_
  refine J_if2 15 (fun h13 => ?_) (fun h13 => ?_)
  · refine J_bind (fun x14 h15 => ?_)
    refine J_bind (fun x16 h17 => ?_)
    refine J_g 1864 [] [(0, sl 8 (Pack.enc false) a1), (1, sl 1 eI64 a2), (6, iv s12), (27, bv (decide (x14 ≤ x16)))] [] (orcC 2 (x_ix (kk := .i64) 41 2 1 eI64 (.tmp 18) (.tmp 19) h15) (orcC 7 (x_ix (kk := .i64) 41 2 1 eI64 (.tmp 22) (.tmp 24) h17) orcN)) ?_
    refine J_if2 27 (fun h18 => ?_) (fun h18 => ?_)
    · refine J_g 7460 [] [(4, iv 1)] [] orcN ?_
      exact J_r1 rfl
    · refine J_g 467 [] [(0, sl 8 (Pack.enc false) a1), (1, sl 1 eI64 a2), (6, iv (w64 (s12 + 1)))] [] orcN ?_
      exact J_q (J_b (ih (w64 (s12 + 1)))) rfl
  · exact J_qw (hk ()) rfl

theorem impl_SetFault.ok (a1 : (List Pack)) (a2 : (List Int)) : Ok Tryz.prog 55 [sl 8 (Pack.enc false) a1, sl 1 eI64 a2] [] ((impl_SetFault a1 a2).map fun r => (iv r, [])) := by
  refine Ok_of3 c55 Tryz.f55 0 32 (fun q => ?_)
  unfold impl_SetFault
  refine J_g 2 [] [(0, sl 8 (Pack.enc false) a1), (1, sl 1 eI64 a2)] [] orcN ?_
  refine J_bind (fun x3 h4 => ?_)
  refine J_g 12 [] [(0, sl 8 (Pack.enc false) a1), (1, sl 1 eI64 a2), (5, iv x3)] [] (orcC 1 (x_c0 [(.tmp 7)] [29] (impl_CatalogFault.ok a1) h4) orcN) ?_
  refine J_g 26 [] [(0, sl 8 (Pack.enc false) a1), (1, sl 1 eI64 a2), (5, iv x3), (10, bv (x3 != 0))] [] orcN ?_
  refine J_if2 10 (fun h5 => ?_) (fun h5 => ?_)
  · refine J_g 108 [] [(4, iv x3)] [] orcN ?_
    exact J_r1 rfl
  · refine J_g 28 [] [(0, sl 8 (Pack.enc false) a1), (1, sl 1 eI64 a2), (6, iv 1)] [] orcN ?_
    refine J_lqF (K0 := (fun r : Int => some (iv r, []))) (fun _ => rfl) (impl_SetFault_l1.ok a1 a2 q _ (fun v19 => J_j ?_) 1)
    refine J_bind (fun x20 h21 => ?_)
    refine J_g 60 [] [(31, bv (!x20))] [] (orcC 2 (x_c0 [(.tmp 28), (.tmp 29)] [29, 41] (impl_arePlaces.ok a1 a2) h21) orcN) ?_
    refine J_if2 31 (fun h22 => ?_) (fun h22 => ?_)
    · refine J_g 244 [] [(4, iv 1)] [] orcN ?_
      exact J_r1 rfl
    · refine J_g 62 [] [(4, iv 0)] [] orcN ?_
      exact J_r1 rfl

noncomputable def c156 : Code := (Tryz.f156.body).getD .skip

theorem slices_Clone_Lint64.ok (a1 : (List Int)) : Ok Tryz.prog 156 [sl 1 eI64 a1] [] ((slices_Clone_Lint64 a1).map fun r => (so 1 eI64 r, [])) := by
  refine Ok_of3 c156 Tryz.f156 0 8 (fun q => ?_)
  unfold slices_Clone_Lint64
  refine J_g 2 [] [(0, sl 1 eI64 a1)] [] orcN ?_
  refine J_g 12 [] [(0, sl 1 eI64 a1), (4, .nb a1.length)] [] (orcC 1 (x_nileq (xs := a1) 41 2 41 1 eI64 (.tmp 3)) orcN) ?_
  refine J_nb 4 rfl (fun h2 => ?_) ?_
  · obtain rfl : a1 = [] := List.eq_nil_of_length_eq_zero h2
    refine J_told (e' := some ([] : List Int)) (by kernel_rfl) ?_
    refine J_g 52 [] [(2, nv)] [] orcN ?_
    exact J_rm (ds := [nv]) (ds' := [so 1 eI64 ([] : List Int)]) (.cons (.cell (.nilsl true 1 (.nil))) (.nil) (by decide)) rfl
  · refine J_bind (fun x3 h4 => ?_)
    refine J_g 14 [] [(2, rr 1 x3)] [(1, rE 1 eI64 x3)] (orcC 0 (x_bp 41 2 1 0 eI64 ([] : List Int) [] [] []) (orcC 2 (x_aps 41 41 2 2 1 8 1 0 eI64 (.tmp 5) (.tmp 6) h4) orcN)) ?_
    exact J_rm (ds := [rr 1 x3]) (ds' := [so 1 eI64 x3]) (.cons (.cell (.move (.head _) (List.length_map _) (by decide) (.nil))) (.nil) (by decide)) rfl

theorem strconv_FormatInt.ok (a1 a2 : Int) : Ok Tryz.prog 177 [iv a1, iv a2] [] ((strconv_FormatInt a1 a2).map fun r => (sv r, [])) := by
  unfold strconv_FormatInt
  split
  · rename_i h
    obtain ⟨rfl, h0, h1⟩ := h
    exact Ok_grow (vs := [.int .i64 a1, .int .i64 10]) (fun w hG => Tryz.strconv_FormatInt_10 a1 h0 h1 w (tabIs_of (g := 1) hG (by kernel_rfl) (by kernel_rfl)))
  · exact fun _ h => by cases h

noncomputable def c132 : Code := (Tryz.f132.body).getD .skip

theorem impl_dec.ok (a1 : Int) : Ok Tryz.prog 132 [iv a1] [] ((impl_dec a1).map fun r => (sv r, [])) := by
  refine Ok_of3 c132 Tryz.f132 0 5 (fun q => ?_)
  unfold impl_dec
  refine J_g 2 [] [(0, iv a1)] [] orcN ?_
  refine J_bind (fun x2 h3 => ?_)
  refine J_g 6 [] [(2, sv x2)] [] (orcC 1 (x_c0 [(.tmp 3), (.const (.int .i64 10))] [2, 3] (strconv_FormatInt.ok a1 10) h3) orcN) ?_
  exact J_r1 rfl

noncomputable def c150 : Code := (Tryz.f150.body).getD .skip

theorem impl_Version_text.ok (a1 : Version) : Ok Tryz.prog 150 [.ag (Version.enc a1)] [] ((impl_Version_text a1).map fun r => (sv r, [])) := by
  refine Ok_of3 c150 Tryz.f150 0 16 (fun q => ?_)
  unfold impl_Version_text
  refine J_g 2 [(0, 0)] [(1, pp 0)] [(0, .box (Version.enc a1))] orcN ?_
  refine J_bind (fun x2 h3 => ?_)
  refine J_bind (fun x4 h5 => ?_)
  refine J_bind (fun x6 h7 => ?_)
  refine J_bind (fun x8 h9 => ?_)
  refine J_bind (fun x10 h11 => ?_)
  refine J_bind (fun x12 h13 => ?_)
  refine J_bind (fun x14 h15 => ?_)
  refine J_g 6 [] [(2, sv x14)] [] (orcC 2 (x_c0 [(.tmp 4)] [2] (impl_dec.ok a1.A) h3) (orcC 3 (x_cat 9 9 (.tmp 5) (.const (.string (bs [46]))) h5) (orcC 6 (x_c0 [(.tmp 8)] [2] (impl_dec.ok a1.B) h7) (orcC 7 (x_cat 9 9 (.tmp 6) (.tmp 9) h9) (orcC 8 (x_cat 9 9 (.tmp 10) (.const (.string (bs [46]))) h11) (orcC 11 (x_c0 [(.tmp 13)] [2] (impl_dec.ok a1.C) h13) (orcC 12 (x_cat 9 9 (.tmp 11) (.tmp 14) h15) orcN))))))) ?_
  exact J_r1 rfl

noncomputable def c114 : Code := (Tryz.f114.body).getD .skip

theorem impl_Pack_path.ok (a1 : Pack) : Ok Tryz.prog 114 [.ag (Pack.enc false a1)] [] ((impl_Pack_path a1).map fun r => (sv r, [])) := by
  refine Ok_of3 c114 Tryz.f114 0 11 (fun q => ?_)
  unfold impl_Pack_path
  refine J_g 2 [(0, 0)] [(1, pp 0)] [(0, .box (Pack.enc false a1))] orcN ?_
  refine J_bind (fun x2 h3 => ?_)
  refine J_bind (fun x4 h5 => ?_)
  refine J_bind (fun x6 h7 => ?_)
  refine J_bind (fun x8 h9 => ?_)
  refine J_g 6 [] [(2, sv x8)] [] (orcC 2 (x_cat 9 9 (.const (.string (bs [112, 107, 103, 47]))) (.tmp 4) h3) (orcC 3 (x_cat 9 9 (.tmp 5) (.const (.string (bs [45]))) h5) (orcC 6 (x_c0 [(.tmp 8)] [83] (impl_Version_text.ok a1.Version) h7) (orcC 7 (x_cat 9 9 (.tmp 6) (.tmp 9) h9) orcN)))) ?_
  exact J_r1 rfl

theorem bytealg_CompareString.ok (a1 a2 : ByteArray) : Ok Tryz.prog 207 [sv a1, sv a2] [] ((bytealg_CompareString a1 a2).map fun r => (iv r, [])) :=
  Ok_sc (vs := [.string a1, .string a2]) (fun w => Tryz.bytealg_CompareString a1 a2 w)

noncomputable def c189 : Code := (Tryz.f189.body).getD .skip

theorem strings_Compare.ok (a1 : ByteArray) (a2 : ByteArray) : Ok Tryz.prog 189 [sv a1, sv a2] [] ((strings_Compare a1 a2).map fun r => (iv r, [])) := by
  refine Ok_of3 c189 Tryz.f189 0 8 (fun q => ?_)
  unfold strings_Compare
  refine J_g 2 [] [(0, sv a1), (1, sv a2)] [] orcN ?_
  refine J_bind (fun x3 h4 => ?_)
  refine J_g 6 [] [(4, iv x3)] [] (orcC 2 (x_c0 [(.tmp 5), (.tmp 6)] [9, 9] (bytealg_CompareString.ok a1 a2) h4) orcN) ?_
  exact J_r1 rfl

noncomputable def c188 : Code := (Tryz.f188.body).getD .skip

theorem impl_Disk_place_1.ok (a1 : File) (a2 : ByteArray) : Ok Tryz.prog 188 [.ag (File.enc false a1), sv a2] [] ((impl_Disk_place_1 a1 a2).map fun r => (iv r, [])) := by
  refine Ok_of3 c188 Tryz.f188 0 9 (fun q => ?_)
  unfold impl_Disk_place_1
  refine J_g 2 [(0, 0)] [(1, sv a2), (2, pp 0)] [(0, .box (File.enc false a1))] orcN ?_
  refine J_bind (fun x3 h4 => ?_)
  refine J_g 6 [] [(4, iv x3)] [] (orcC 3 (x_c0 [(.tmp 6), (.tmp 7)] [9, 9] (strings_Compare.ok a1.Path a2) h4) orcN) ?_
  exact J_r1 rfl

noncomputable def c187 : Code := (Tryz.f187.body).getD .skip

theorem slices_BinarySearchFunc_LimplFile_impl_Disk_place_1_l1.ok (a1 : (List File)) (a2 : ByteArray) (q : Wd) (kn : Int → Option (D × List Ent)) (hk : ∀ v : Int, J (q.g Tryz.prog 187 0 49) c187 (atI c187 31) (St.mk' [(0, sl 2 (File.enc false) a1), (1, sv a2), (2, .fn 188 []), (8, iv (a1.length : Int)), (9, iv v)] []) (some v) kn) :
    ∀ s9 : (Int × Int), J (q.g Tryz.prog 187 0 49) c187 (atI c187 120) (St.mk' [(0, sl 2 (File.enc false) a1), (1, sv a2), (2, .fn 188 []), (8, iv (a1.length : Int)), (9, iv s9.1), (10, iv s9.2)] []) (slices_BinarySearchFunc_LimplFile_impl_Disk_place_1_l1 a1 a2 s9) kn := by
  refine J_lp (fun g ih s9 => ?_)
  unfold slices_BinarySearchFunc_LimplFile_impl_Disk_place_1_l1b
  refine J_g 480 [] [(0, sl 2 (File.enc false) a1), (1, sv a2), (2, .fn 188 []), (8, iv (a1.length : Int)), (9, iv s9.1), (10, iv s9.2), (17, bv (decide (s9.1 < s9.2)))] [] orcN ?_
  refine J_if2 17 (fun h10 => ?_) (fun h10 => ?_)
  · refine J_g 964 [] [(0, sl 2 (File.enc false) a1), (1, sv a2), (2, .fn 188 []), (8, iv (a1.length : Int)), (9, iv s9.1), (10, iv s9.2), (11, iv (w64 ((IntKind.u64.wrap (w64 (s9.1 + s9.2))).fdiv (2 ^ (min (1 : Int).toNat 64)))))] [] orcN ?_
    refine J_bind (fun x11 h12 => ?_)
    refine J_bind (fun x13 h14 => ?_)
    refine J_g 1930 [] [(0, sl 2 (File.enc false) a1), (1, sv a2), (2, .fn 188 []), (8, iv (a1.length : Int)), (9, iv s9.1), (10, iv s9.2), (11, iv (w64 ((IntKind.u64.wrap (w64 (s9.1 + s9.2))).fdiv (2 ^ (min (1 : Int).toNat 64))))), (31, bv (decide (x13 < 0)))] [] (orcC 3 (x_ix (kk := .i64) 44 121 2 (File.enc false) (.tmp 25) (.tmp 26) h12) (orcC 6 (x_c0v («as» := [.ag (File.enc false x11), sv a2]) (caps := []) 24 [(.tmp 28), (.tmp 29)] [121, 9] (impl_Disk_place_1.ok x11 a2) h14) orcN)) ?_
    refine J_if2 31 (fun h15 => ?_) (fun h15 => ?_)
    · refine J_g 3862 [] [(0, sl 2 (File.enc false) a1), (1, sv a2), (2, .fn 188 []), (8, iv (a1.length : Int)), (9, iv (w64 ((w64 ((IntKind.u64.wrap (w64 (s9.1 + s9.2))).fdiv (2 ^ (min (1 : Int).toNat 64)))) + 1))), (10, iv s9.2)] [] orcN ?_
      exact J_q (J_b (ih (w64 ((w64 ((IntKind.u64.wrap (w64 (s9.1 + s9.2))).fdiv (2 ^ (min (1 : Int).toNat 64)))) + 1), s9.2))) rfl
    · refine J_g 3863 [] [(0, sl 2 (File.enc false) a1), (1, sv a2), (2, .fn 188 []), (8, iv (a1.length : Int)), (9, iv s9.1), (10, iv (w64 ((IntKind.u64.wrap (w64 (s9.1 + s9.2))).fdiv (2 ^ (min (1 : Int).toNat 64)))))] [] orcN ?_
      exact J_q (J_b (ih (s9.1, w64 ((IntKind.u64.wrap (w64 (s9.1 + s9.2))).fdiv (2 ^ (min (1 : Int).toNat 64)))))) rfl
  · exact J_qw (hk s9.1) rfl

theorem slices_BinarySearchFunc_LimplFile_impl_Disk_place_1.ok (a1 : (List File)) (a2 : ByteArray) : Ok Tryz.prog 187 [sl 2 (File.enc false) a1, sv a2, .fn 188 []] [] ((slices_BinarySearchFunc_LimplFile_impl_Disk_place_1 a1 a2).map fun r => (.tu [iv r.1, bv r.2], [])) := by
  refine Ok_of3 c187 Tryz.f187 0 49 (fun q => ?_)
  unfold slices_BinarySearchFunc_LimplFile_impl_Disk_place_1
  refine J_g 2 [] [(0, sl 2 (File.enc false) a1), (1, sv a2), (2, .fn 188 [])] [] orcN ?_
  refine J_g 6 [] [(0, sl 2 (File.enc false) a1), (1, sv a2), (2, .fn 188 []), (8, iv (a1.length : Int))] [] orcN ?_
  refine J_g 14 [] [(0, sl 2 (File.enc false) a1), (1, sv a2), (2, .fn 188 []), (8, iv (a1.length : Int)), (9, iv 0), (10, iv (a1.length : Int))] [] orcN ?_
  refine J_lq (slices_BinarySearchFunc_LimplFile_impl_Disk_place_1_l1.ok a1 a2 q _ (fun v16 => J_j ?_) (0, (a1.length : Int)))
  refine J_ite (fun h17 => ?_) (fun h17 => ?_)
  · refine J_bind (fun x18 h19 => ?_)
    refine J_bind (fun x20 h21 => ?_)
    refine J_g 62 [] [(6, iv v16), (7, bv (x20 == 0))] [] (orcL 4 [(38, bv (decide (v16 < (a1.length : Int))))] [] h17 (orcH 8 4 39 true (x_ix (kk := .i64) 44 121 2 (File.enc false) (.tmp 41) (.tmp 42) h19) (orcH 11 4 39 true (x_c0v («as» := [.ag (File.enc false x18), sv a2]) (caps := []) 40 [(.tmp 44), (.tmp 45)] [121, 9] (impl_Disk_place_1.ok x18 a2) h21) orcN))) ?_
    exact J_rT rfl
  · refine J_g 62 [] [(6, iv v16), (7, bv false)] [] (orcL 4 [(38, bv (decide (v16 < (a1.length : Int))))] [] h17 orcN) ?_
    exact J_rT rfl

noncomputable def c158 : Code := (Tryz.f158.body).getD .skip

theorem impl_Disk_place.ok (a1 : Disk) (a2 : ByteArray) : Ok Tryz.prog 158 [.ag (Disk.enc false a1), sv a2] [] ((impl_Disk_place a1 a2).map fun r => (.tu [iv r.1, bv r.2], [])) := by
  refine Ok_of3 c158 Tryz.f158 0 12 (fun q => ?_)
  unfold impl_Disk_place
  refine J_g 2 [(0, 0)] [(1, sv a2), (2, pp 0)] [(0, .box (Disk.enc false a1))] orcN ?_
  refine J_bind (fun x3 h4 => ?_)
  refine J_g 6 [] [(4, iv x3.1), (5, bv x3.2)] [] (orcC 3 (x_c1 («as» := [sl 2 (File.enc false) a1.Files, sv a2, .fn 188 []]) [(.tmp 7), (.tmp 8), (.func 188)] [44, 9, 204] false [] [] (.cons (.same rfl) (.cons (.same rfl) (.cons (.fn (.nil)) (.nil)))) (slices_BinarySearchFunc_LimplFile_impl_Disk_place_1.ok a1.Files a2) h4 (.tu (.cons (.same rfl rfl) (.cons (.same rfl rfl) (.nil))))) orcN) ?_
  exact J_rT rfl

noncomputable def c113 : Code := (Tryz.f113.body).getD .skip

theorem impl_Disk_data.ok (a1 : Disk) (a2 : ByteArray) : Ok Tryz.prog 113 [.ag (Disk.enc false a1), sv a2] [] ((impl_Disk_data a1 a2).map fun r => (.tu [sl 1 eU8 r.1, bv r.2], [])) := by
  refine Ok_of3 c113 Tryz.f113 0 22 (fun q => ?_)
  unfold impl_Disk_data
  refine J_g 2 [(0, 0)] [(1, sv a2), (2, pp 0)] [(0, .box (Disk.enc false a1))] orcN ?_
  refine J_bind (fun x3 h4 => ?_)
  refine J_g 6 [] [(2, pp 0), (6, iv x3.1), (7, bv x3.2)] [(0, .box (Disk.enc false a1))] (orcC 2 (x_c0 [(.tmp 9), (.tmp 10)] [46, 9] (impl_Disk_place.ok a1 a2) h4) orcN) ?_
  refine J_g 28 [] [(2, pp 0), (6, iv x3.1), (15, bv (!x3.2))] [(0, .box (Disk.enc false a1))] orcN ?_
  refine J_if2 15 (fun h5 => ?_) (fun h5 => ?_)
  · refine J_g 116 [] [(4, nv), (5, bv false)] [] orcN ?_
    exact J_rm (ds := [nv, bv false]) (ds' := [sl 1 eU8 ([] : List Int), bv false]) (.cons (.cell (.nilsl false 1 (.nil))) (.cons (.cell (.keep rfl (.nil))) (.nil) (by decide)) (by decide)) rfl
  · refine J_bind (fun x6 h7 => ?_)
    refine J_g 30 [] [(4, sl 1 eU8 x6.Data), (5, bv true)] [] (orcC 3 (x_ix (kk := .i64) 44 121 2 (File.enc false) (.tmp 17) (.tmp 18) h7) orcN) ?_
    exact J_rT rfl

noncomputable def c116 : Code := (Tryz.f116.body).getD .skip

theorem impl_Pack_bytes_l2.ok (a1 : Pack) (q : Wd) (kn : (List Int) → Option (D × List Ent)) (hk : ∀ v : (List Int), J (q.g Tryz.prog 116 0 47) c116 (atI c116 63) (St.mk' [(5, rr 1 v)] [(1, rE 1 eU8 v)]) (some v) kn) :
    ∀ s13 : (Int × (List Int) × Int), J (q.g Tryz.prog 116 0 47) c116 (atI c116 500) (St.mk' [(3, uv s13.1), (5, rr 1 s13.2.1), (35, iv a1.Size), (36, iv s13.2.2)] [(1, rE 1 eU8 s13.2.1)]) (impl_Pack_bytes_l2 a1 s13) kn := by
  refine J_lp (fun g ih s13 => ?_)
  unfold impl_Pack_bytes_l2b
  refine J_g 1000 [] [(3, uv s13.1), (5, rr 1 s13.2.1), (35, iv a1.Size), (36, iv s13.2.2), (37, bv (decide (s13.2.2 < a1.Size)))] [(1, rE 1 eU8 s13.2.1)] orcN ?_
  refine J_if2 37 (fun h14 => ?_) (fun h14 => ?_)
  · refine J_bind (fun x15 h16 => ?_)
    refine J_g 16024 [] [(3, uv s13.1), (5, rr 3 x15), (35, iv a1.Size), (36, iv s13.2.2)] [(3, rE 1 eU8 x15)] (orcC 2 (x_bp 119 5 1 2 eU8 [s13.1] [0] [(.tmp 39)] [uv s13.1]) (orcC 3 (x_ap 119 119 5 5 1 1 3 1 2 eU8 (.tmp 38) (.tmp 40) h16) orcN)) ?_
    refine J_g 16025 [] [(3, uv (IntKind.u8.wrap ((IntKind.u8.wrap (31 * s13.1)) + 7))), (5, rr 3 x15), (35, iv a1.Size), (36, iv s13.2.2)] [(3, rE 1 eU8 x15)] orcN ?_
    refine J_g 4007 [] [(3, uv (IntKind.u8.wrap ((IntKind.u8.wrap (31 * s13.1)) + 7))), (5, rr 3 x15), (35, iv a1.Size), (36, iv (w64 (s13.2.2 + 1)))] [(3, rE 1 eU8 x15)] orcN ?_
    refine J_ren 3 1 (Nat.le_of_ble_eq_true rfl) (Nat.le_of_ble_eq_true rfl) ?_
    exact J_q (J_b (ih (IntKind.u8.wrap ((IntKind.u8.wrap (31 * s13.1)) + 7), x15, w64 (s13.2.2 + 1)))) rfl
  · exact J_qw (hk s13.2.1) rfl

theorem impl_Pack_bytes_l1.ok (a1 : Pack) (q : Wd) (kn : Int → Option (D × List Ent)) (hk : ∀ v : Int, J (q.g Tryz.prog 116 0 47) c116 (atI c116 15) (St.mk' [(1, pp 0), (3, uv v)] [(0, .box (Pack.enc false a1))]) (some v) kn) :
    ∀ s5 : (Int × Int), J (q.g Tryz.prog 116 0 47) c116 (atI c116 116) (St.mk' [(1, pp 0), (3, uv s5.1), (22, iv (a1.Name.size : Int)), (23, iv s5.2)] [(0, .box (Pack.enc false a1))]) (impl_Pack_bytes_l1 a1 s5) kn := by
  refine J_lp (fun g ih s5 => ?_)
  unfold impl_Pack_bytes_l1b
  refine J_g 232 [] [(1, pp 0), (3, uv s5.1), (22, iv (a1.Name.size : Int)), (23, iv s5.2), (24, bv (decide (s5.2 < (a1.Name.size : Int))))] [(0, .box (Pack.enc false a1))] orcN ?_
  refine J_if2 24 (fun h6 => ?_) (fun h6 => ?_)
  · refine J_g 3736 [] [(1, pp 0), (3, uv s5.1), (4, iv s5.2), (22, iv (a1.Name.size : Int)), (23, iv s5.2)] [(0, .box (Pack.enc false a1))] orcN ?_
    refine J_bind (fun x7 h8 => ?_)
    refine J_g 3737 [] [(1, pp 0), (3, uv (IntKind.u8.wrap (s5.1 + x7))), (22, iv (a1.Name.size : Int)), (23, iv s5.2)] [(0, .box (Pack.enc false a1))] (orcC 4 (x_bi (kk := .i64) 9 (.tmp 28) (.tmp 29) h8) orcN) ?_
    refine J_g 935 [] [(1, pp 0), (3, uv (IntKind.u8.wrap (s5.1 + x7))), (22, iv (a1.Name.size : Int)), (23, iv (w64 (s5.2 + 1)))] [(0, .box (Pack.enc false a1))] orcN ?_
    exact J_q (J_b (ih (IntKind.u8.wrap (s5.1 + x7), w64 (s5.2 + 1)))) rfl
  · exact J_qw (hk s5.1) rfl

theorem impl_Pack_bytes.ok (a1 : Pack) : Ok Tryz.prog 116 [.ag (Pack.enc false a1)] [] ((impl_Pack_bytes a1).map fun r => (so 1 eU8 r, [])) := by
  refine Ok_of3 c116 Tryz.f116 0 47 (fun q => ?_)
  unfold impl_Pack_bytes
  refine J_g 2 [(0, 0)] [(1, pp 0)] [(0, .box (Pack.enc false a1))] orcN ?_
  refine J_g 6 [] [(1, pp 0), (3, uv (IntKind.u8.wrap ((IntKind.u8.wrap ((IntKind.u8.wrap (a1.Version.A)) + (IntKind.u8.wrap (a1.Version.B)))) + (IntKind.u8.wrap (a1.Version.C)))))] [(0, .box (Pack.enc false a1))] orcN ?_
  refine J_g 28 [] [(1, pp 0), (3, uv (IntKind.u8.wrap ((IntKind.u8.wrap ((IntKind.u8.wrap (a1.Version.A)) + (IntKind.u8.wrap (a1.Version.B)))) + (IntKind.u8.wrap (a1.Version.C))))), (22, iv (a1.Name.size : Int)), (23, iv 0)] [(0, .box (Pack.enc false a1))] orcN ?_
  refine J_lq (impl_Pack_bytes_l1.ok a1 q _ (fun v9 => J_j ?_) (IntKind.u8.wrap ((IntKind.u8.wrap ((IntKind.u8.wrap (a1.Version.A)) + (IntKind.u8.wrap (a1.Version.B)))) + (IntKind.u8.wrap (a1.Version.C))), 0))
  refine J_g 30 [] [(1, pp 0), (3, uv v9), (5, rr 1 ([] : List Int))] [(0, .box (Pack.enc false a1)), (1, rE 1 eU8 ([] : List Int))] (orcC 0 (x_bp 119 5 1 1 eU8 ([] : List Int) [] [] []) orcN) ?_
  refine J_g 124 [] [(3, uv v9), (5, rr 1 ([] : List Int)), (35, iv a1.Size), (36, iv 0)] [(1, rE 1 eU8 ([] : List Int))] orcN ?_
  refine J_lq (impl_Pack_bytes_l2.ok a1 q _ (fun v17 => J_j ?_) (v9, ([] : List Int), 0))
  refine J_g 126 [] [(2, rr 1 v17)] [(1, rE 1 eU8 v17)] orcN ?_
  exact J_rm (ds := [rr 1 v17]) (ds' := [so 1 eU8 v17]) (.cons (.cell (.move (.head _) (List.length_map _) (by decide) (.nil))) (.nil) (by decide)) rfl

noncomputable def c115 : Code := (Tryz.f115.body).getD .skip

theorem slices_Equal_Lbyte_l1.ok (a1 : (List Int)) (a2 : (List Int)) (q : Wd) (kn : Unit → Option (D × List Ent)) (hk : ∀ v : Unit, J (q.g Tryz.prog 115 0 26) c115 (atI c115 15) (St.mk' [] []) (some v) kn) :
    ∀ s10 : Int, J (q.g Tryz.prog 115 0 26) c115 (atI c115 116) (St.mk' [(0, sl 1 eU8 a1), (1, sl 1 eU8 a2), (12, iv (a1.length : Int)), (13, iv s10)] []) (slices_Equal_Lbyte_l1 a1 a2 s10) (Fl.go (fun r : Bool => some (bv r, [])) kn) := by
  refine J_lp (fun g ih s10 => ?_)
  unfold slices_Equal_Lbyte_l1b
  refine J_g 232 [] [(0, sl 1 eU8 a1), (1, sl 1 eU8 a2), (12, iv (a1.length : Int)), (13, iv s10), (14, bv (decide (s10 < (a1.length : Int))))] [] orcN ?_
  refine J_if2 14 (fun h11 => ?_) (fun h11 => ?_)
  · refine J_g 3736 [] [(0, sl 1 eU8 a1), (1, sl 1 eU8 a2), (5, iv s10), (12, iv (a1.length : Int)), (13, iv s10)] [] orcN ?_
    refine J_bind (fun x12 h13 => ?_)
    refine J_bind (fun x14 h15 => ?_)
    refine J_g 7474 [] [(0, sl 1 eU8 a1), (1, sl 1 eU8 a2), (12, iv (a1.length : Int)), (13, iv s10), (24, bv (x12 != x14))] [] (orcC 2 (x_ix (kk := .i64) 119 5 1 eU8 (.tmp 16) (.tmp 17) h13) (orcC 6 (x_ix (kk := .i64) 119 5 1 eU8 (.tmp 20) (.tmp 21) h15) orcN)) ?_
    refine J_if2 24 (fun h16 => ?_) (fun h16 => ?_)
    · refine J_g 29900 [] [(4, bv false)] [] orcN ?_
      exact J_r1 rfl
    · refine J_g 935 [] [(0, sl 1 eU8 a1), (1, sl 1 eU8 a2), (12, iv (a1.length : Int)), (13, iv (w64 (s10 + 1)))] [] orcN ?_
      exact J_q (J_b (ih (w64 (s10 + 1)))) rfl
  · exact J_qw (hk ()) rfl

theorem slices_Equal_Lbyte.ok (a1 : (List Int)) (a2 : (List Int)) : Ok Tryz.prog 115 [sl 1 eU8 a1, sl 1 eU8 a2] [] ((slices_Equal_Lbyte a1 a2).map fun r => (bv r, [])) := by
  refine Ok_of3 c115 Tryz.f115 0 26 (fun q => ?_)
  unfold slices_Equal_Lbyte
  refine J_g 2 [] [(0, sl 1 eU8 a1), (1, sl 1 eU8 a2)] [] orcN ?_
  refine J_g 12 [] [(0, sl 1 eU8 a1), (1, sl 1 eU8 a2), (10, bv ((a1.length : Int) != (a2.length : Int)))] [] orcN ?_
  refine J_if2 10 (fun h3 => ?_) (fun h3 => ?_)
  · refine J_g 52 [] [(4, bv false)] [] orcN ?_
    exact J_r1 rfl
  · refine J_g 28 [] [(0, sl 1 eU8 a1), (1, sl 1 eU8 a2), (12, iv (a1.length : Int)), (13, iv 0)] [] orcN ?_
    refine J_lqF (K0 := (fun r : Bool => some (bv r, []))) (fun _ => rfl) (slices_Equal_Lbyte_l1.ok a1 a2 q _ (fun v17 => J_j ?_) 0)
    refine J_g 30 [] [(4, bv true)] [] orcN ?_
    exact J_r1 rfl

noncomputable def c112 : Code := (Tryz.f112.body).getD .skip

theorem impl_lacking_1.ok (a1 : Int) (a2 : Disk) (a3 : (List Pack)) : Ok Tryz.prog 112 [iv a1, pp 0, pp 1] [.box (Disk.enc false a2), .box [sl 8 (Pack.enc false) a3]] ((impl_lacking_1 a1 a2 a3).map fun r => (bv r, [.box (Disk.enc false a2), .box [sl 8 (Pack.enc false) a3]])) := by
  refine Ok_of3 c112 Tryz.f112 2 29 (fun q => ?_)
  unfold impl_lacking_1
  refine J_g 2 [] [(0, iv a1), (1, pp 0), (2, pp 1)] [(0, .box (Disk.enc false a2)), (1, .box [sl 8 (Pack.enc false) a3])] orcN ?_
  refine J_bind (fun x4 h5 => ?_)
  refine J_bind (fun x6 h7 => ?_)
  refine J_bind (fun x8 h9 => ?_)
  refine J_g 6 [] [(0, iv a1), (2, pp 1), (5, sl 1 eU8 x8.1), (6, bv x8.2)] [(0, .box (Disk.enc false a2)), (1, .box [sl 8 (Pack.enc false) a3])] (orcC 3 (x_ix (kk := .i64) 29 86 8 (Pack.enc false) (.tmp 9) (.tmp 10) h5) (orcC 5 (x_c0 [(.tmp 12)] [86] (impl_Pack_path.ok x4) h7) (orcC 6 (x_c0 [(.tmp 8), (.tmp 13)] [46, 9] (impl_Disk_data.ok a2 x6) h9) orcN))) ?_
  refine J_ite (fun h10 => ?_) (fun h10 => ?_)
  · refine J_g 14 [] [(4, bv true)] [(0, .box (Disk.enc false a2)), (1, .box [sl 8 (Pack.enc false) a3])] (orcL 2 [(18, bv (!x8.2))] [] h10 orcN) ?_
    exact J_r1 rfl
  · refine J_bind (fun x11 h12 => ?_)
    refine J_bind (fun x13 h14 => ?_)
    refine J_bind (fun x15 h16 => ?_)
    refine J_g 14 [] [(4, bv (!x15))] [(0, .box (Disk.enc false a2)), (1, .box [sl 8 (Pack.enc false) a3])] (orcL 2 [(18, bv (!x8.2))] [] h10 (orcH 6 2 19 false (x_ix (kk := .i64) 29 86 8 (Pack.enc false) (.tmp 21) (.tmp 22) h12) (orcH 8 2 19 false (x_c1 («as» := [.ag (Pack.enc false x11)]) [(.tmp 24)] [86] false [] [] (.cons (.same rfl) (.nil)) (impl_Pack_bytes.ok x11) h14 (.own 2)) (orcH 9 2 19 false (x_c1 («as» := [sl 1 eU8 x8.1, rr 2 x13]) [(.tmp 20), (.tmp 25)] [119, 119] true [(2, rE 1 eU8 x13)] [] (.cons (.same rfl) (.cons (am_b (.head _) (fun _ => rfl) rfl) (.nil))) (slices_Equal_Lbyte.ok x8.1 x13) h16 (.same rfl rfl) (hbor := fun _ => ⟨rfl, flat_sc⟩)) orcN)))) ?_
    exact J_r1 rfl

noncomputable def c157 : Code := (Tryz.f157.body).getD .skip

theorem impl_those_1_impl_lacking_1.ok (a1 : Int) (a2 : Disk) (a3 : (List Pack)) : Ok Tryz.prog 157 [iv a1, .pb [.fn 112 [pp 0, pp 1]]] [.box (Disk.enc false a2), .box [sl 8 (Pack.enc false) a3]] ((impl_those_1_impl_lacking_1 a1 a2 a3).map fun r => (bv r, [.box (Disk.enc false a2), .box [sl 8 (Pack.enc false) a3]])) := by
  refine Ok_of3 c157 Tryz.f157 2 8 (fun q => ?_)
  unfold impl_those_1_impl_lacking_1
  refine J_g 2 [] [(0, iv a1), (1, .pb [.fn 112 [pp 0, pp 1]])] [(0, .box (Disk.enc false a2)), (1, .box [sl 8 (Pack.enc false) a3])] orcN ?_
  refine J_bind (fun x4 h5 => ?_)
  refine J_g 6 [] [(3, bv (!x4))] [(0, .box (Disk.enc false a2)), (1, .box [sl 8 (Pack.enc false) a3])] (orcC 0 (x_ldpb (d := .fn 112 [pp 0, pp 1]) 151 (.tmp 1) [.fn 112 [pp 0, pp 1]]) (orcC 2 (x_ro [(0, .box (Disk.enc false a2)), (1, .box [sl 8 (Pack.enc false) a3])] [] (x_c1v 4 [(.tmp 5)] [2] false [(0, .box (Disk.enc false a2)), (1, .box [sl 8 (Pack.enc false) a3])] [0, 1] [iv a1] [pp 0, pp 1] (.cons (.same rfl) (.cons (.pt rfl) (.cons (.pt rfl) (.nil)))) (impl_lacking_1.ok a1 a2 a3) h5 (.same rfl rfl))) orcN)) ?_
  exact J_r1 rfl

theorem slices_IndexFunc_Lint64r_impl_those_1_impl_lacking_1_l1.ok (a1 : (List Int)) (a2 : Disk) (a3 : (List Pack)) (q : Wd) (kn : Unit → Option (D × List Ent)) (hk : ∀ v : Unit, J (q.g Tryz.prog 185 3 19) c185 (atI c185 7) (St.mk' [] [(0, rE 1 eI64 a1), (1, .box (Disk.enc false a2)), (2, .box [sl 8 (Pack.enc false) a3])]) (some v) kn) :
    ∀ s10 : Int, J (q.g Tryz.prog 185 3 19) c185 (atI c185 52) (St.mk' [(0, rr 0 a1), (1, .fn 157 [.pb [.fn 112 [pp 1, pp 2]]]), (7, iv (a1.length : Int)), (8, iv s10)] [(0, rE 1 eI64 a1), (1, .box (Disk.enc false a2)), (2, .box [sl 8 (Pack.enc false) a3])]) (slices_IndexFunc_Lint64r_impl_those_1_impl_lacking_1_l1 a1 a2 a3 s10) (Fl.go (fun r : Int => some (iv r, [rE 1 eI64 a1, .box (Disk.enc false a2), .box [sl 8 (Pack.enc false) a3]])) kn) := by
  refine J_lp (fun g ih s10 => ?_)
  unfold slices_IndexFunc_Lint64r_impl_those_1_impl_lacking_1_l1b
  refine J_g 104 [] [(0, rr 0 a1), (1, .fn 157 [.pb [.fn 112 [pp 1, pp 2]]]), (7, iv (a1.length : Int)), (8, iv s10), (9, bv (decide (s10 < (a1.length : Int))))] [(0, rE 1 eI64 a1), (1, .box (Disk.enc false a2)), (2, .box [sl 8 (Pack.enc false) a3])] orcN ?_
  refine J_if2 9 (fun h11 => ?_) (fun h11 => ?_)
  · refine J_g 1688 [] [(0, rr 0 a1), (1, .fn 157 [.pb [.fn 112 [pp 1, pp 2]]]), (5, iv s10), (7, iv (a1.length : Int)), (8, iv s10)] [(0, rE 1 eI64 a1), (1, .box (Disk.enc false a2)), (2, .box [sl 8 (Pack.enc false) a3])] orcN ?_
    refine J_bind (fun x12 h13 => ?_)
    refine J_bind (fun x14 h15 => ?_)
    refine J_g 3378 [] [(0, rr 0 a1), (1, .fn 157 [.pb [.fn 112 [pp 1, pp 2]]]), (5, iv s10), (7, iv (a1.length : Int)), (8, iv s10), (16, bv x14)] [(0, rE 1 eI64 a1), (1, .box (Disk.enc false a2)), (2, .box [sl 8 (Pack.enc false) a3])] (orcC 3 (x_ixr (kk := .i64) 41 2 1 0 eI64 (.tmp 12) (.tmp 13) h13) (orcC 4 (x_ldr (d := iv x12) 2 1 0 0 eI64 (.tmp 14) h13 (by kernel_rfl)) (orcC 5 (x_ro [(1, .box (Disk.enc false a2)), (2, .box [sl 8 (Pack.enc false) a3])] [] (x_c1v 11 [(.tmp 15)] [2] false [(1, .box (Disk.enc false a2)), (2, .box [sl 8 (Pack.enc false) a3])] [1, 2] [iv x12] [.pb [.fn 112 [pp 1, pp 2]]] (.cons (.same rfl) (.cons (.pb (.cons (.fn (.cons (.pt rfl) (.cons (.pt rfl) (.nil)))) (.nil))) (.nil))) (impl_those_1_impl_lacking_1.ok x12 a2 a3) h15 (.same rfl rfl))) orcN))) ?_
    refine J_if2 16 (fun h16 => ?_) (fun h16 => ?_)
    · refine J_g 13516 [] [(4, iv s10)] [(0, rE 1 eI64 a1), (1, .box (Disk.enc false a2)), (2, .box [sl 8 (Pack.enc false) a3])] orcN ?_
      exact J_r1 rfl
    · refine J_g 423 [] [(0, rr 0 a1), (1, .fn 157 [.pb [.fn 112 [pp 1, pp 2]]]), (7, iv (a1.length : Int)), (8, iv (w64 (s10 + 1)))] [(0, rE 1 eI64 a1), (1, .box (Disk.enc false a2)), (2, .box [sl 8 (Pack.enc false) a3])] orcN ?_
      exact J_q (J_b (ih (w64 (s10 + 1)))) rfl
  · exact J_qw (hk ()) rfl

theorem slices_IndexFunc_Lint64r_impl_those_1_impl_lacking_1.ok (a1 : (List Int)) (a2 : Disk) (a3 : (List Pack)) : Ok Tryz.prog 185 [rr 0 a1, .fn 157 [.pb [.fn 112 [pp 1, pp 2]]]] [rE 1 eI64 a1, .box (Disk.enc false a2), .box [sl 8 (Pack.enc false) a3]] ((slices_IndexFunc_Lint64r_impl_those_1_impl_lacking_1 a1 a2 a3).map fun r => (iv r, [rE 1 eI64 a1, .box (Disk.enc false a2), .box [sl 8 (Pack.enc false) a3]])) := by
  refine Ok_of3 c185 Tryz.f185 3 19 (fun q => ?_)
  unfold slices_IndexFunc_Lint64r_impl_those_1_impl_lacking_1
  refine J_g 2 [] [(0, rr 0 a1), (1, .fn 157 [.pb [.fn 112 [pp 1, pp 2]]])] [(0, rE 1 eI64 a1), (1, .box (Disk.enc false a2)), (2, .box [sl 8 (Pack.enc false) a3])] orcN ?_
  refine J_g 12 [] [(0, rr 0 a1), (1, .fn 157 [.pb [.fn 112 [pp 1, pp 2]]]), (7, iv (a1.length : Int)), (8, iv 0)] [(0, rE 1 eI64 a1), (1, .box (Disk.enc false a2)), (2, .box [sl 8 (Pack.enc false) a3])] orcN ?_
  refine J_lqF (K0 := (fun r : Int => some (iv r, [rE 1 eI64 a1, .box (Disk.enc false a2), .box [sl 8 (Pack.enc false) a3]]))) (fun _ => rfl) (slices_IndexFunc_Lint64r_impl_those_1_impl_lacking_1_l1.ok a1 a2 a3 q _ (fun v17 => J_j ?_) 0)
  refine J_g 14 [] [(4, iv (-1))] [(0, rE 1 eI64 a1), (1, .box (Disk.enc false a2)), (2, .box [sl 8 (Pack.enc false) a3])] orcN ?_
  exact J_r1 rfl

noncomputable def c155 : Code := (Tryz.f155.body).getD .skip

theorem slices_DeleteFunc_Lint64r_impl_those_1_impl_lacking_1_l1.ok (a2 : Disk) (a3 : (List Pack)) (q : Wd) (kn : ((List Int) × Int) → Option (D × List Ent)) (hk : ∀ v : ((List Int) × Int), J (q.g Tryz.prog 155 3 42) c155 (atI c155 31) (St.mk' [(0, rr 2 v.1), (5, iv v.2)] [(0, .box (Disk.enc false a2)), (1, .box [sl 8 (Pack.enc false) a3]), (2, rE 1 eI64 v.1)]) (some v) kn) :
    ∀ s16 : ((List Int) × Int × Int), J (q.g Tryz.prog 155 3 42) c155 (atI c155 244) (St.mk' [(0, rr 2 s16.1), (1, .fn 157 [.pb [.fn 112 [pp 0, pp 1]]]), (5, iv s16.2.1), (6, iv s16.2.2)] [(0, .box (Disk.enc false a2)), (1, .box [sl 8 (Pack.enc false) a3]), (2, rE 1 eI64 s16.1)]) (slices_DeleteFunc_Lint64r_impl_those_1_impl_lacking_1_l1 a2 a3 s16) kn := by
  refine J_lp (fun g ih s16 => ?_)
  unfold slices_DeleteFunc_Lint64r_impl_those_1_impl_lacking_1_l1b
  refine J_g 976 [] [(0, rr 2 s16.1), (1, .fn 157 [.pb [.fn 112 [pp 0, pp 1]]]), (5, iv s16.2.1), (6, iv s16.2.2), (19, bv (decide (s16.2.2 < (s16.1.length : Int))))] [(0, .box (Disk.enc false a2)), (1, .box [sl 8 (Pack.enc false) a3]), (2, rE 1 eI64 s16.1)] orcN ?_
  refine J_if2 19 (fun h17 => ?_) (fun h17 => ?_)
  · refine J_bind (fun x18 h19 => ?_)
    refine J_g 3912 [] [(0, rr 2 s16.1), (1, .fn 157 [.pb [.fn 112 [pp 0, pp 1]]]), (5, iv s16.2.1), (6, iv s16.2.2), (7, iv x18)] [(0, .box (Disk.enc false a2)), (1, .box [sl 8 (Pack.enc false) a3]), (2, rE 1 eI64 s16.1)] (orcC 2 (x_ixr (kk := .i64) 41 2 1 2 eI64 (.tmp 22) (.tmp 23) h19) (orcC 3 (x_ldr (d := iv x18) 2 1 2 0 eI64 (.tmp 24) h19 (by kernel_rfl)) orcN)) ?_
    refine J_bind (fun x20 h21 => ?_)
    refine J_g 7826 [] [(0, rr 2 s16.1), (1, .fn 157 [.pb [.fn 112 [pp 0, pp 1]]]), (5, iv s16.2.1), (6, iv s16.2.2), (7, iv x18), (29, bv (!x20))] [(0, .box (Disk.enc false a2)), (1, .box [sl 8 (Pack.enc false) a3]), (2, rE 1 eI64 s16.1)] (orcC 2 (x_ro [(0, .box (Disk.enc false a2)), (1, .box [sl 8 (Pack.enc false) a3])] [] (x_c1v 26 [(.tmp 27)] [2] false [(0, .box (Disk.enc false a2)), (1, .box [sl 8 (Pack.enc false) a3])] [0, 1] [iv x18] [.pb [.fn 112 [pp 0, pp 1]]] (.cons (.same rfl) (.cons (.pb (.cons (.fn (.cons (.pt rfl) (.cons (.pt rfl) (.nil)))) (.nil))) (.nil))) (impl_those_1_impl_lacking_1.ok x18 a2 a3) h21 (.same rfl rfl))) orcN) ?_
    refine J_join (aft c155 1956) (fun v25 : ((List Int) × Int) => St.mk' [(0, rr 2 v25.1), (1, .fn 157 [.pb [.fn 112 [pp 0, pp 1]]]), (5, iv v25.2), (6, iv s16.2.2)] [(0, .box (Disk.enc false a2)), (1, .box [sl 8 (Pack.enc false) a3]), (2, rE 1 eI64 v25.1)]) (fun v25 => ?_) (fun jv25 => ?_)
    · refine J_g 979 [] [(0, rr 2 v25.1), (1, .fn 157 [.pb [.fn 112 [pp 0, pp 1]]]), (5, iv v25.2), (6, iv (w64 (s16.2.2 + 1)))] [(0, .box (Disk.enc false a2)), (1, .box [sl 8 (Pack.enc false) a3]), (2, rE 1 eI64 v25.1)] orcN ?_
      exact J_q (J_b (ih (v25.1, v25.2, w64 (s16.2.2 + 1)))) rfl
    · refine J_if2 29 (fun h22 => ?_) (fun h22 => ?_)
      · refine J_bind (fun x23 h24 => ?_)
        refine J_g 31308 [] [(0, rr 2 s16.1), (1, .fn 157 [.pb [.fn 112 [pp 0, pp 1]]]), (5, iv s16.2.1), (6, iv s16.2.2)] [(0, .box (Disk.enc false a2)), (1, .box [sl 8 (Pack.enc false) a3]), (2, rE 1 eI64 (s16.1.set s16.2.1.toNat x18))] (orcC 3 (x_ixr (kk := .i64) 41 2 1 2 eI64 (.tmp 30) (.tmp 31) h24) (orcD 4 (x_st (b := x18) 2 1 2 0 eI64 (iv x18) (.tmp 33) (.tmp 32) h24 rfl) orcN)) ?_
        refine J_st (σ' := St.mk' [(0, rr 2 (s16.1.set s16.2.1.toNat x18)), (1, .fn 157 [.pb [.fn 112 [pp 0, pp 1]]]), (5, iv s16.2.1), (6, iv s16.2.2)] [(0, .box (Disk.enc false a2)), (1, .box [sl 8 (Pack.enc false) a3]), (2, rE 1 eI64 (s16.1.set s16.2.1.toNat x18))]) (by simp only [rr, List.length_set]) ?_
        refine J_g 31309 [] [(0, rr 2 (s16.1.set s16.2.1.toNat x18)), (1, .fn 157 [.pb [.fn 112 [pp 0, pp 1]]]), (5, iv (w64 (s16.2.1 + 1))), (6, iv s16.2.2)] [(0, .box (Disk.enc false a2)), (1, .box [sl 8 (Pack.enc false) a3]), (2, rE 1 eI64 (s16.1.set s16.2.1.toNat x18))] orcN ?_
        exact J_qw (J_j (jv25 (s16.1.set s16.2.1.toNat x18, w64 (s16.2.1 + 1)))) rfl
      · exact J_qw (J_j (jv25 (s16.1, s16.2.1))) rfl
  · exact J_qw (hk (s16.1, s16.2.1)) rfl

theorem slices_DeleteFunc_Lint64r_impl_those_1_impl_lacking_1.ok (a1 : (List Int)) (a2 : Disk) (a3 : (List Pack)) : Ok Tryz.prog 155 [rr 2 a1, .fn 157 [.pb [.fn 112 [pp 0, pp 1]]]] [.box (Disk.enc false a2), .box [sl 8 (Pack.enc false) a3], rE 1 eI64 a1] ((slices_DeleteFunc_Lint64r_impl_those_1_impl_lacking_1 a1 a2 a3).map fun r => (so 1 eI64 r, [.box (Disk.enc false a2), .box [sl 8 (Pack.enc false) a3]])) := by
  refine Ok_of3 c155 Tryz.f155 3 42 (fun q => ?_)
  unfold slices_DeleteFunc_Lint64r_impl_those_1_impl_lacking_1
  refine J_g 2 [] [(0, rr 2 a1), (1, .fn 157 [.pb [.fn 112 [pp 0, pp 1]]])] [(0, .box (Disk.enc false a2)), (1, .box [sl 8 (Pack.enc false) a3]), (2, rE 1 eI64 a1)] orcN ?_
  refine J_bind (fun x4 h5 => ?_)
  refine J_g 6 [] [(0, rr 2 a1), (1, .fn 157 [.pb [.fn 112 [pp 0, pp 1]]]), (5, iv x4)] [(0, .box (Disk.enc false a2)), (1, .box [sl 8 (Pack.enc false) a3]), (2, rE 1 eI64 a1)] (orcC 2 (x_ro [(2, rE 1 eI64 a1), (0, .box (Disk.enc false a2)), (1, .box [sl 8 (Pack.enc false) a3])] [] (x_c1 («as» := [rr 2 a1, .fn 157 [.pb [.fn 112 [pp 0, pp 1]]]]) [(.tmp 8), (.tmp 9)] [41, 151] false [(2, rE 1 eI64 a1), (0, .box (Disk.enc false a2)), (1, .box [sl 8 (Pack.enc false) a3])] [2, 0, 1] (.cons (.rf rfl) (.cons (.fn (.cons (.pb (.cons (.fn (.cons (.pt rfl) (.cons (.pt rfl) (.nil)))) (.nil))) (.nil))) (.nil))) (slices_IndexFunc_Lint64r_impl_those_1_impl_lacking_1.ok a1 a2 a3) h5 (.same rfl rfl))) orcN) ?_
  refine J_g 28 [] [(0, rr 2 a1), (1, .fn 157 [.pb [.fn 112 [pp 0, pp 1]]]), (5, iv x4), (12, bv (x4 == (-1)))] [(0, .box (Disk.enc false a2)), (1, .box [sl 8 (Pack.enc false) a3]), (2, rE 1 eI64 a1)] orcN ?_
  refine J_if2 12 (fun h6 => ?_) (fun h6 => ?_)
  · refine J_g 116 [] [(4, rr 2 a1)] [(0, .box (Disk.enc false a2)), (1, .box [sl 8 (Pack.enc false) a3]), (2, rE 1 eI64 a1)] orcN ?_
    exact J_rm (ds := [rr 2 a1]) (ds' := [so 1 eI64 a1]) (.cons (.cell (.move (.tail _ (.tail _ (.head _))) (List.length_map _) (by decide) (.nil))) (.nil) (by decide)) rfl
  · refine J_g 60 [] [(0, rr 2 a1), (1, .fn 157 [.pb [.fn 112 [pp 0, pp 1]]]), (5, iv x4), (6, iv (w64 (x4 + 1)))] [(0, .box (Disk.enc false a2)), (1, .box [sl 8 (Pack.enc false) a3]), (2, rE 1 eI64 a1)] orcN ?_
    refine J_lq (slices_DeleteFunc_Lint64r_impl_those_1_impl_lacking_1_l1.ok a2 a3 q _ (fun v26 => J_j ?_) (a1, x4, w64 (x4 + 1)))
    refine J_bind (fun x27 h28 => ?_)
    refine J_bind (fun x29 h30 => ?_)
    refine J_g 62 [] [(0, rr 2 v26.1), (5, iv v26.2)] [(0, .box (Disk.enc false a2)), (1, .box [sl 8 (Pack.enc false) a3]), (2, rE 1 eI64 x29)] (orcC 2 (x_slr 41 2 1 2 eI64 (.tmp 36) (some (.tmp 37)) none h28) (orcD 3 (x_clr (l := v26.2) (a := 0) 41 2 1 2 eI64 (.tmp 38) h30 (.keep rfl (.nil))) orcN)) ?_
    refine J_st (σ' := St.mk' [(0, rr 2 x29), (5, iv v26.2)] [(0, .box (Disk.enc false a2)), (1, .box [sl 8 (Pack.enc false) a3]), (2, rE 1 eI64 x29)]) (by simp only [rr, clrw_len h30]) ?_
    refine J_bind (fun x31 h32 => ?_)
    refine J_g 126 [] [(4, rr 3 x31)] [(0, .box (Disk.enc false a2)), (1, .box [sl 8 (Pack.enc false) a3]), (3, rE 1 eI64 x31)] (orcC 2 (x_cut 41 2 1 2 3 eI64 (.tmp 39) none (some (.tmp 40)) h32) orcN) ?_
    exact J_rm (ds := [rr 3 x31]) (ds' := [so 1 eI64 x31]) (.cons (.cell (.move (.tail _ (.tail _ (.head _))) (List.length_map _) (by decide) (.nil))) (.nil) (by decide)) rfl

noncomputable def c111 : Code := (Tryz.f111.body).getD .skip

theorem impl_those_impl_lacking_1.ok (a1 : (List Int)) (a2 : Disk) (a3 : (List Pack)) : Ok Tryz.prog 111 [sl 1 eI64 a1, .fn 112 [pp 0, pp 1]] [.box (Disk.enc false a2), .box [sl 8 (Pack.enc false) a3]] ((impl_those_impl_lacking_1 a1 a2 a3).map fun r => (so 1 eI64 r, [.box (Disk.enc false a2), .box [sl 8 (Pack.enc false) a3]])) := by
  refine Ok_of3 c111 Tryz.f111 2 9 (fun q => ?_)
  unfold impl_those_impl_lacking_1
  refine J_g 2 [] [(0, sl 1 eI64 a1), (3, .pb [.fn 112 [pp 0, pp 1]])] [(0, .box (Disk.enc false a2)), (1, .box [sl 8 (Pack.enc false) a3])] (orcC 0 (x_boxpb 151 (.tmp 1) (.fn 112 [pp 0, pp 1])) orcN) ?_
  refine J_bind (fun x4 h5 => ?_)
  refine J_bind (fun x6 h7 => ?_)
  refine J_g 6 [] [(4, rr 3 x6)] [(0, .box (Disk.enc false a2)), (1, .box [sl 8 (Pack.enc false) a3]), (3, rE 1 eI64 x6)] (orcC 1 (x_c1 («as» := [sl 1 eI64 a1]) [(.tmp 5)] [41] false [] [] (.cons (.same rfl) (.nil)) (slices_Clone_Lint64.ok a1) h5 (.own 2)) (orcC 3 (x_c1 («as» := [rr 2 x4, .fn 157 [.pb [.fn 112 [pp 0, pp 1]]]]) [(.tmp 6), (.tmp 7)] [41, 151] false [(0, .box (Disk.enc false a2)), (1, .box [sl 8 (Pack.enc false) a3]), (2, rE 1 eI64 x4)] [0, 1, 2] (.cons (.rf rfl) (.cons (.fn (.cons (.pb (.cons (.fn (.cons (.pt rfl) (.cons (.pt rfl) (.nil)))) (.nil))) (.nil))) (.nil))) (slices_DeleteFunc_Lint64r_impl_those_1_impl_lacking_1.ok x4 a2 a3) h7 (.own 3)) orcN)) ?_
  exact J_rm (ds := [rr 3 x6]) (ds' := [so 1 eI64 x6]) (.cons (.cell (.move (.tail _ (.tail _ (.head _))) (List.length_map _) (by decide) (.nil))) (.nil) (by decide)) rfl

noncomputable def c66 : Code := (Tryz.f66.body).getD .skip

theorem impl_lacking.ok (a1 : (List Pack)) (a2 : Disk) (a3 : (List Int)) : Ok Tryz.prog 66 [sl 8 (Pack.enc false) a1, .ag (Disk.enc false a2), sl 1 eI64 a3] [] ((impl_lacking a1 a2 a3).map fun r => (so 1 eI64 r, [])) := by
  refine Ok_of3 c66 Tryz.f66 0 10 (fun q => ?_)
  unfold impl_lacking
  refine J_g 2 [(0, 0), (1, 1)] [(2, sl 1 eI64 a3), (3, pp 0), (4, pp 1)] [(0, .box [sl 8 (Pack.enc false) a1]), (1, .box (Disk.enc false a2))] orcN ?_
  refine J_bind (fun x4 h5 => ?_)
  refine J_g 6 [] [(6, rr 2 x4)] [(2, rE 1 eI64 x4)] (orcC 2 (x_ro [(1, .box (Disk.enc false a2)), (0, .box [sl 8 (Pack.enc false) a1])] [(2, rE 1 eI64 x4)] (x_c1 («as» := [sl 1 eI64 a3, .fn 112 [pp 1, pp 0]]) [(.tmp 7), (.tmp 8)] [41, 151] false [(1, .box (Disk.enc false a2)), (0, .box [sl 8 (Pack.enc false) a1])] [1, 0] (.cons (.same rfl) (.cons (.fn (.cons (.pt rfl) (.cons (.pt rfl) (.nil)))) (.nil))) (impl_those_impl_lacking_1.ok a3 a2 a1) h5 (.own 2))) orcN) ?_
  exact J_rm (ds := [rr 2 x4]) (ds' := [so 1 eI64 x4]) (.cons (.cell (.move (.head _) (List.length_map _) (by decide) (.nil))) (.nil) (by decide)) rfl

noncomputable def c27 : Code := (Tryz.f27.body).getD .skip

theorem impl_LackingOf.ok (a1 : (List Pack)) (a2 : Disk) (a3 : (List Int)) : Ok Tryz.prog 27 [sl 8 (Pack.enc false) a1, .ag (Disk.enc false a2), sl 1 eI64 a3] [] ((impl_LackingOf a1 a2 a3).map fun r => (.ag [iv r.Code, iv r.At, so 1 eI64 r.Set], [])) := by
  refine Ok_of3 c27 Tryz.f27 0 25 (fun q => ?_)
  unfold impl_LackingOf
  refine J_g 2 [(0, 0), (1, 1)] [(0, sl 8 (Pack.enc false) a1), (2, sl 1 eI64 a3), (4, pp 0), (6, pp 1)] [(0, .box (Disk.enc false a2)), (1, .box [iv 0, iv 0, nv])] orcN ?_
  refine J_bind (fun x4 h5 => ?_)
  refine J_bind (fun x6 h7 => ?_)
  refine J_bind (fun x8 h9 => ?_)
  refine J_g 12 [] [(0, sl 8 (Pack.enc false) a1), (2, sl 1 eI64 a3), (4, pp 0), (6, pp 1), (7, iv x8)] [(0, .box (Disk.enc false a2)), (1, .box [iv 0, iv 0, nv])] (orcC 2 (x_c0 [(.tmp 8), (.tmp 9)] [29, 46] (impl_bothCode.ok a1 a2) h5) (orcC 5 (x_c0 [(.tmp 11), (.tmp 12)] [29, 41] (impl_SetFault.ok a1 a3) h7) (orcC 6 (x_bp 41 2 1 2 eI64 [x4, x6] [0, 1] [(.tmp 10), (.tmp 13)] [iv x4, iv x6]) (orcC 7 (x_c1 («as» := [rr 2 [x4, x6]]) [(.tmp 14)] [41] true [(2, rE 1 eI64 [x4, x6])] [] (.cons (am_b (.head _) (fun _ => rfl) rfl) (.nil)) (impl_firstCode.ok [x4, x6]) h9 (.same rfl rfl) (hbor := fun _ => ⟨rfl, flat_sc⟩)) orcN)))) ?_
  refine J_g 26 [] [(0, sl 8 (Pack.enc false) a1), (2, sl 1 eI64 a3), (4, pp 0), (6, pp 1), (7, iv x8), (17, bv (x8 != 0))] [(0, .box (Disk.enc false a2)), (1, .box [iv 0, iv 0, nv])] orcN ?_
  refine J_if2 17 (fun h10 => ?_) (fun h10 => ?_)
  · refine J_g 108 [] [(6, pp 1)] [(1, .box [iv x8, iv 0, nv])] orcN ?_
    exact J_rm (ds := [.ag [iv x8, iv 0, nv]]) (ds' := [.ag [iv x8, iv 0, so 1 eI64 ([] : List Int)]]) (.cons (.ag (.keep rfl (.keep rfl (.nilsl true 1 (.nil))))) (.nil) (by decide)) rfl
  · refine J_bind (fun x11 h12 => ?_)
    refine J_g 14 [] [(6, pp 1)] [(1, .box [iv 0, iv 0, rr 2 x11]), (2, rE 1 eI64 x11)] (orcC 3 (x_c1 («as» := [sl 8 (Pack.enc false) a1, .ag (Disk.enc false a2), sl 1 eI64 a3]) [(.tmp 20), (.tmp 21), (.tmp 22)] [29, 46, 41] false [] [] (.cons (.same rfl) (.cons (.same rfl) (.cons (.same rfl) (.nil)))) (impl_lacking.ok a1 a2 a3) h12 (.own 2)) orcN) ?_
    exact J_rm (ds := [.ag [iv 0, iv 0, rr 2 x11]]) (ds' := [.ag [iv 0, iv 0, so 1 eI64 x11]]) (.cons (.ag (.keep rfl (.keep rfl (.move (.tail _ (.head _)) (List.length_map _) (by decide) (.nil))))) (.nil) (by decide)) rfl

noncomputable def c23 : Code := (Tryz.f23.body).getD .skip

theorem impl_WholeSet.ok (a1 : (List Pack)) (a2 : Disk) (a3 : (List Int)) : Ok Tryz.prog 23 [sl 8 (Pack.enc false) a1, .ag (Disk.enc false a2), sl 1 eI64 a3] [] ((impl_WholeSet a1 a2 a3).map fun r => (bv r, [])) := by
  refine Ok_of3 c23 Tryz.f23 0 21 (fun q => ?_)
  unfold impl_WholeSet
  refine J_g 2 [(0, 0)] [(0, sl 8 (Pack.enc false) a1), (2, sl 1 eI64 a3), (4, pp 0)] [(0, .box (Disk.enc false a2))] orcN ?_
  refine J_bind (fun x4 h5 => ?_)
  refine J_g 6 [(4, 2)] [(7, pp 2)] [(1, rE 1 eI64 x4.Set), (2, .box [iv x4.Code, iv x4.At, rr 1 x4.Set])] (orcC 3 (x_c1 («as» := [sl 8 (Pack.enc false) a1, .ag (Disk.enc false a2), sl 1 eI64 a3]) [(.tmp 8), (.tmp 9), (.tmp 10)] [29, 46, 41] false [] [] (.cons (.same rfl) (.cons (.same rfl) (.cons (.same rfl) (.nil)))) (impl_LackingOf.ok a1 a2 a3) h5 (.ag (.cons (.same rfl rfl) (.cons (.same rfl rfl) (.cons (.own 1) (.nil)))))) orcN) ?_
  refine J_ite (fun h6 => ?_) (fun h6 => ?_)
  · refine J_g 14 [] [(6, bv ((x4.Set.length : Int) == 0))] [] (orcL 3 [(14, bv (x4.Code == 0))] [] h6 orcN) ?_
    exact J_r1 rfl
  · refine J_g 14 [] [(6, bv false)] [] (orcL 3 [(14, bv (x4.Code == 0))] [] h6 orcN) ?_
    exact J_r1 rfl

noncomputable def c101 : Code := (Tryz.f101.body).getD .skip

theorem laws_eqVersion.ok (a1 : Version) (a2 : Version) : Ok Tryz.prog 101 [.ag (Version.enc a1), .ag (Version.enc a2)] [] ((laws_eqVersion a1 a2).map fun r => (bv r, [])) := by
  refine Ok_of3 c101 Tryz.f101 0 20 (fun q => ?_)
  unfold laws_eqVersion
  refine J_g 2 [(0, 0), (1, 1)] [(2, pp 0), (3, pp 1)] [(0, .box (Version.enc a1)), (1, .box (Version.enc a2))] orcN ?_
  refine J_g 12 [] [(2, pp 0), (3, pp 1), (9, bv (a1.A != a2.A))] [(0, .box (Version.enc a1)), (1, .box (Version.enc a2))] orcN ?_
  refine J_if2 9 (fun h3 => ?_) (fun h3 => ?_)
  · refine J_g 52 [] [(4, bv false)] [] orcN ?_
    exact J_r1 rfl
  · refine J_g 28 [] [(2, pp 0), (3, pp 1), (14, bv (a1.B != a2.B))] [(0, .box (Version.enc a1)), (1, .box (Version.enc a2))] orcN ?_
    refine J_if2 14 (fun h4 => ?_) (fun h4 => ?_)
    · refine J_g 116 [] [(4, bv false)] [] orcN ?_
      exact J_r1 rfl
    · refine J_g 60 [] [(19, bv (a1.C != a2.C))] [] orcN ?_
      refine J_if2 19 (fun h5 => ?_) (fun h5 => ?_)
      · refine J_g 244 [] [(4, bv false)] [] orcN ?_
        exact J_r1 rfl
      · refine J_g 62 [] [(4, bv true)] [] orcN ?_
        exact J_r1 rfl

noncomputable def c102 : Code := (Tryz.f102.body).getD .skip

theorem laws_eqStringS_l1.ok (a1 : (List ByteArray)) (a2 : (List ByteArray)) (q : Wd) (kn : Unit → Option (D × List Ent)) (hk : ∀ v : Unit, J (q.g Tryz.prog 102 0 26) c102 (atI c102 15) (St.mk' [] []) (some v) kn) :
    ∀ s10 : Int, J (q.g Tryz.prog 102 0 26) c102 (atI c102 116) (St.mk' [(0, sl 1 eStr a1), (1, sl 1 eStr a2), (5, iv s10)] []) (laws_eqStringS_l1 a1 a2 s10) (Fl.go (fun r : Bool => some (bv r, [])) kn) := by
  refine J_lp (fun g ih s10 => ?_)
  unfold laws_eqStringS_l1b
  refine J_g 464 [] [(0, sl 1 eStr a1), (1, sl 1 eStr a2), (5, iv s10), (14, bv (decide (s10 < (a1.length : Int))))] [] orcN ?_
  refine J_if2 14 (fun h11 => ?_) (fun h11 => ?_)
  · refine J_bind (fun x12 h13 => ?_)
    refine J_bind (fun x14 h15 => ?_)
    refine J_g 1864 [] [(0, sl 1 eStr a1), (1, sl 1 eStr a2), (5, iv s10), (25, bv (!(seq x12 x14)))] [] (orcC 2 (x_ix (kk := .i64) 73 9 1 eStr (.tmp 17) (.tmp 18) h13) (orcC 6 (x_ix (kk := .i64) 73 9 1 eStr (.tmp 21) (.tmp 22) h15) orcN)) ?_
    refine J_if2 25 (fun h16 => ?_) (fun h16 => ?_)
    · refine J_g 7460 [] [(4, bv false)] [] orcN ?_
      exact J_r1 rfl
    · refine J_g 467 [] [(0, sl 1 eStr a1), (1, sl 1 eStr a2), (5, iv (w64 (s10 + 1)))] [] orcN ?_
      exact J_q (J_b (ih (w64 (s10 + 1)))) rfl
  · exact J_qw (hk ()) rfl

theorem laws_eqStringS.ok (a1 : (List ByteArray)) (a2 : (List ByteArray)) : Ok Tryz.prog 102 [sl 1 eStr a1, sl 1 eStr a2] [] ((laws_eqStringS a1 a2).map fun r => (bv r, [])) := by
  refine Ok_of3 c102 Tryz.f102 0 26 (fun q => ?_)
  unfold laws_eqStringS
  refine J_g 2 [] [(0, sl 1 eStr a1), (1, sl 1 eStr a2)] [] orcN ?_
  refine J_g 12 [] [(0, sl 1 eStr a1), (1, sl 1 eStr a2), (10, bv ((a1.length : Int) != (a2.length : Int)))] [] orcN ?_
  refine J_if2 10 (fun h3 => ?_) (fun h3 => ?_)
  · refine J_g 52 [] [(4, bv false)] [] orcN ?_
    exact J_r1 rfl
  · refine J_g 28 [] [(0, sl 1 eStr a1), (1, sl 1 eStr a2), (5, iv 0)] [] orcN ?_
    refine J_lqF (K0 := (fun r : Bool => some (bv r, []))) (fun _ => rfl) (laws_eqStringS_l1.ok a1 a2 q _ (fun v17 => J_j ?_) 0)
    refine J_g 30 [] [(4, bv true)] [] orcN ?_
    exact J_r1 rfl

noncomputable def c58 : Code := (Tryz.f58.body).getD .skip

theorem laws_eqTerm.ok (a1 : Term) (a2 : Term) : Ok Tryz.prog 58 [.ag (Term.enc a1), .ag (Term.enc a2)] [] ((laws_eqTerm a1 a2).map fun r => (bv r, [])) := by
  refine Ok_of3 c58 Tryz.f58 0 22 (fun q => ?_)
  unfold laws_eqTerm
  refine J_g 2 [(0, 0), (1, 1)] [(2, pp 0), (3, pp 1)] [(0, .box (Term.enc a1)), (1, .box (Term.enc a2))] orcN ?_
  refine J_g 12 [] [(2, pp 0), (3, pp 1), (9, bv (!(seq a1.Name a2.Name)))] [(0, .box (Term.enc a1)), (1, .box (Term.enc a2))] orcN ?_
  refine J_if2 9 (fun h3 => ?_) (fun h3 => ?_)
  · refine J_g 52 [] [(4, bv false)] [] orcN ?_
    exact J_r1 rfl
  · refine J_bind (fun x4 h5 => ?_)
    refine J_g 28 [] [(2, pp 0), (3, pp 1), (15, bv (!x4))] [(0, .box (Term.enc a1)), (1, .box (Term.enc a2))] (orcC 4 (x_c0 [(.tmp 11), (.tmp 13)] [83, 83] (laws_eqVersion.ok a1.Low a2.Low) h5) orcN) ?_
    refine J_if2 15 (fun h6 => ?_) (fun h6 => ?_)
    · refine J_g 116 [] [(4, bv false)] [] orcN ?_
      exact J_r1 rfl
    · refine J_bind (fun x7 h8 => ?_)
      refine J_g 60 [] [(21, bv (!x7))] [] (orcC 4 (x_c0 [(.tmp 17), (.tmp 19)] [83, 83] (laws_eqVersion.ok a1.High a2.High) h8) orcN) ?_
      refine J_if2 21 (fun h9 => ?_) (fun h9 => ?_)
      · refine J_g 244 [] [(4, bv false)] [] orcN ?_
        exact J_r1 rfl
      · refine J_g 62 [] [(4, bv true)] [] orcN ?_
        exact J_r1 rfl

noncomputable def c17 : Code := (Tryz.f17.body).getD .skip

theorem laws_eqTermS_l1.ok (a1 : (List Term)) (a2 : (List Term)) (q : Wd) (kn : Unit → Option (D × List Ent)) (hk : ∀ v : Unit, J (q.g Tryz.prog 17 0 27) c17 (atI c17 15) (St.mk' [] []) (some v) kn) :
    ∀ s12 : Int, J (q.g Tryz.prog 17 0 27) c17 (atI c17 116) (St.mk' [(0, sl 7 Term.enc a1), (1, sl 7 Term.enc a2), (5, iv s12)] []) (laws_eqTermS_l1 a1 a2 s12) (Fl.go (fun r : Bool => some (bv r, [])) kn) := by
  refine J_lp (fun g ih s12 => ?_)
  unfold laws_eqTermS_l1b
  refine J_g 464 [] [(0, sl 7 Term.enc a1), (1, sl 7 Term.enc a2), (5, iv s12), (14, bv (decide (s12 < (a1.length : Int))))] [] orcN ?_
  refine J_if2 14 (fun h13 => ?_) (fun h13 => ?_)
  · refine J_bind (fun x14 h15 => ?_)
    refine J_bind (fun x16 h17 => ?_)
    refine J_bind (fun x18 h19 => ?_)
    refine J_g 1864 [] [(0, sl 7 Term.enc a1), (1, sl 7 Term.enc a2), (5, iv s12), (26, bv (!x18))] [] (orcC 2 (x_ix (kk := .i64) 31 89 7 Term.enc (.tmp 17) (.tmp 18) h15) (orcC 6 (x_ix (kk := .i64) 31 89 7 Term.enc (.tmp 21) (.tmp 22) h17) (orcC 8 (x_c0 [(.tmp 20), (.tmp 24)] [89, 89] (laws_eqTerm.ok x14 x16) h19) orcN))) ?_
    refine J_if2 26 (fun h20 => ?_) (fun h20 => ?_)
    · refine J_g 7460 [] [(4, bv false)] [] orcN ?_
      exact J_r1 rfl
    · refine J_g 467 [] [(0, sl 7 Term.enc a1), (1, sl 7 Term.enc a2), (5, iv (w64 (s12 + 1)))] [] orcN ?_
      exact J_q (J_b (ih (w64 (s12 + 1)))) rfl
  · exact J_qw (hk ()) rfl

theorem laws_eqTermS.ok (a1 : (List Term)) (a2 : (List Term)) : Ok Tryz.prog 17 [sl 7 Term.enc a1, sl 7 Term.enc a2] [] ((laws_eqTermS a1 a2).map fun r => (bv r, [])) := by
  refine Ok_of3 c17 Tryz.f17 0 27 (fun q => ?_)
  unfold laws_eqTermS
  refine J_g 2 [] [(0, sl 7 Term.enc a1), (1, sl 7 Term.enc a2)] [] orcN ?_
  refine J_g 12 [] [(0, sl 7 Term.enc a1), (1, sl 7 Term.enc a2), (10, bv ((a1.length : Int) != (a2.length : Int)))] [] orcN ?_
  refine J_if2 10 (fun h3 => ?_) (fun h3 => ?_)
  · refine J_g 52 [] [(4, bv false)] [] orcN ?_
    exact J_r1 rfl
  · refine J_g 28 [] [(0, sl 7 Term.enc a1), (1, sl 7 Term.enc a2), (5, iv 0)] [] orcN ?_
    refine J_lqF (K0 := (fun r : Bool => some (bv r, []))) (fun _ => rfl) (laws_eqTermS_l1.ok a1 a2 q _ (fun v21 => J_j ?_) 0)
    refine J_g 30 [] [(4, bv true)] [] orcN ?_
    exact J_r1 rfl

noncomputable def c103 : Code := (Tryz.f103.body).getD .skip

theorem laws_eqTermSS_l1.ok (a1 : (List (List Term))) (a2 : (List (List Term))) (q : Wd) (kn : Unit → Option (D × List Ent)) (hk : ∀ v : Unit, J (q.g Tryz.prog 103 0 27) c103 (atI c103 15) (St.mk' [] []) (some v) kn) :
    ∀ s12 : Int, J (q.g Tryz.prog 103 0 27) c103 (atI c103 116) (St.mk' [(0, sl 1 (eSl false 7 Term.enc) a1), (1, sl 1 (eSl false 7 Term.enc) a2), (5, iv s12)] []) (laws_eqTermSS_l1 a1 a2 s12) (Fl.go (fun r : Bool => some (bv r, [])) kn) := by
  refine J_lp (fun g ih s12 => ?_)
  unfold laws_eqTermSS_l1b
  refine J_g 464 [] [(0, sl 1 (eSl false 7 Term.enc) a1), (1, sl 1 (eSl false 7 Term.enc) a2), (5, iv s12), (14, bv (decide (s12 < (a1.length : Int))))] [] orcN ?_
  refine J_if2 14 (fun h13 => ?_) (fun h13 => ?_)
  · refine J_bind (fun x14 h15 => ?_)
    refine J_bind (fun x16 h17 => ?_)
    refine J_bind (fun x18 h19 => ?_)
    refine J_g 1864 [] [(0, sl 1 (eSl false 7 Term.enc) a1), (1, sl 1 (eSl false 7 Term.enc) a2), (5, iv s12), (26, bv (!x18))] [] (orcC 2 (x_ix (kk := .i64) 84 31 1 (eSl false 7 Term.enc) (.tmp 17) (.tmp 18) h15) (orcC 6 (x_ix (kk := .i64) 84 31 1 (eSl false 7 Term.enc) (.tmp 21) (.tmp 22) h17) (orcC 8 (x_c0 [(.tmp 20), (.tmp 24)] [31, 31] (laws_eqTermS.ok x14 x16) h19) orcN))) ?_
    refine J_if2 26 (fun h20 => ?_) (fun h20 => ?_)
    · refine J_g 7460 [] [(4, bv false)] [] orcN ?_
      exact J_r1 rfl
    · refine J_g 467 [] [(0, sl 1 (eSl false 7 Term.enc) a1), (1, sl 1 (eSl false 7 Term.enc) a2), (5, iv (w64 (s12 + 1)))] [] orcN ?_
      exact J_q (J_b (ih (w64 (s12 + 1)))) rfl
  · exact J_qw (hk ()) rfl

theorem laws_eqTermSS.ok (a1 : (List (List Term))) (a2 : (List (List Term))) : Ok Tryz.prog 103 [sl 1 (eSl false 7 Term.enc) a1, sl 1 (eSl false 7 Term.enc) a2] [] ((laws_eqTermSS a1 a2).map fun r => (bv r, [])) := by
  refine Ok_of3 c103 Tryz.f103 0 27 (fun q => ?_)
  unfold laws_eqTermSS
  refine J_g 2 [] [(0, sl 1 (eSl false 7 Term.enc) a1), (1, sl 1 (eSl false 7 Term.enc) a2)] [] orcN ?_
  refine J_g 12 [] [(0, sl 1 (eSl false 7 Term.enc) a1), (1, sl 1 (eSl false 7 Term.enc) a2), (10, bv ((a1.length : Int) != (a2.length : Int)))] [] orcN ?_
  refine J_if2 10 (fun h3 => ?_) (fun h3 => ?_)
  · refine J_g 52 [] [(4, bv false)] [] orcN ?_
    exact J_r1 rfl
  · refine J_g 28 [] [(0, sl 1 (eSl false 7 Term.enc) a1), (1, sl 1 (eSl false 7 Term.enc) a2), (5, iv 0)] [] orcN ?_
    refine J_lqF (K0 := (fun r : Bool => some (bv r, []))) (fun _ => rfl) (laws_eqTermSS_l1.ok a1 a2 q _ (fun v21 => J_j ?_) 0)
    refine J_g 30 [] [(4, bv true)] [] orcN ?_
    exact J_r1 rfl

end Go.Told

import Derived.Test.YtnfkinofcphflaaGreatDoorToldSetOfGen
import Derived.Test.YtnfkinofcphflaaGreatDoorShelfSetOfGen
import Derived.Test.YtnfkinofcphflaaGreatDoorProg
set_option linter.unusedVariables false
set_option maxRecDepth 4000
namespace Go.Told
open Go Go.Im Go.Proofs

noncomputable def c173 : Code := (Tryz.f173.body).getD .skip

theorem laws_szStringS_l1.ok (a1 : (List ByteArray)) (q : Wd) (kn : Int → Option (D × List Ent)) (hk : ∀ v : Int, J (q.g Tryz.prog 173 0 28) c173 (atI c173 31) (St.mk' [(1, iv v)] []) (some v) kn) :
    ∀ s8 : (Int × Int), J (q.g Tryz.prog 173 0 28) c173 (atI c173 244) (St.mk' [(0, sl 1 eStr a1), (1, iv s8.1), (5, iv s8.2)] []) (laws_szStringS_l1 a1 s8) (Fl.go (fun r : Int => some (iv r, [])) kn) := by
  refine J_lp (fun g ih s8 => ?_)
  unfold laws_szStringS_l1b
  refine J_g 976 [] [(0, sl 1 eStr a1), (1, iv s8.1), (5, iv s8.2), (15, bv (decide (s8.2 < (a1.length : Int))))] [] orcN ?_
  refine J_if2 15 (fun h9 => ?_) (fun h9 => ?_)
  · refine J_bind (fun x10 h11 => ?_)
    refine J_g 3912 [] [(0, sl 1 eStr a1), (1, iv (w64 (s8.1 - (x10.size : Int)))), (5, iv s8.2)] [] (orcC 3 (x_ix (kk := .i64) 94 9 1 eStr (.tmp 19) (.tmp 20) h11) orcN) ?_
    refine J_g 7826 [] [(0, sl 1 eStr a1), (1, iv (w64 (s8.1 - (x10.size : Int)))), (5, iv s8.2), (26, bv (decide ((w64 (s8.1 - (x10.size : Int))) < 0)))] [] orcN ?_
    refine J_if2 26 (fun h12 => ?_) (fun h12 => ?_)
    · refine J_g 31308 [] [(4, iv (-1))] [] orcN ?_
      exact J_r1 rfl
    · refine J_g 979 [] [(0, sl 1 eStr a1), (1, iv (w64 (s8.1 - (x10.size : Int)))), (5, iv (w64 (s8.2 + 1)))] [] orcN ?_
      exact J_q (J_b (ih (w64 (s8.1 - (x10.size : Int)), w64 (s8.2 + 1)))) rfl
  · exact J_qw (hk s8.1) rfl

theorem laws_szStringS.ok (a1 : (List ByteArray)) (a2 : Int) : Ok Tryz.prog 173 [sl 1 eStr a1, iv a2] [] ((laws_szStringS a1 a2).map fun r => (iv r, [])) := by
  refine Ok_of3 c173 Tryz.f173 0 28 (fun q => ?_)
  unfold laws_szStringS
  refine J_g 2 [] [(0, sl 1 eStr a1), (1, iv a2)] [] orcN ?_
  refine J_g 6 [] [(0, sl 1 eStr a1), (1, iv (w64 (a2 - (a1.length : Int))))] [] orcN ?_
  refine J_g 28 [] [(0, sl 1 eStr a1), (1, iv (w64 (a2 - (a1.length : Int)))), (11, bv (decide ((w64 (a2 - (a1.length : Int))) < 0)))] [] orcN ?_
  refine J_if2 11 (fun h3 => ?_) (fun h3 => ?_)
  · refine J_g 116 [] [(4, iv (-1))] [] orcN ?_
    exact J_r1 rfl
  · refine J_g 60 [] [(0, sl 1 eStr a1), (1, iv (w64 (a2 - (a1.length : Int)))), (5, iv 0)] [] orcN ?_
    refine J_lqF (K0 := (fun r : Int => some (iv r, []))) (fun _ => rfl) (laws_szStringS_l1.ok a1 q _ (fun v13 => J_j ?_) (w64 (a2 - (a1.length : Int)), 0))
    refine J_g 62 [] [(4, iv v13)] [] orcN ?_
    exact J_r1 rfl

noncomputable def c277 : Code := (Tryz.f277.body).getD .skip

theorem laws_szTerm.ok (a1 : Term) (a2 : Int) : Ok Tryz.prog 277 [.ag (Term.enc a1), iv a2] [] ((laws_szTerm a1 a2).map fun r => (iv r, [])) := by
  refine Ok_of3 c277 Tryz.f277 0 13 (fun q => ?_)
  unfold laws_szTerm
  refine J_g 2 [(0, 0)] [(1, iv a2), (2, pp 0)] [(0, .box (Term.enc a1))] orcN ?_
  refine J_g 6 [] [(1, iv (w64 (a2 - (a1.Name.size : Int))))] [] orcN ?_
  refine J_g 28 [] [(1, iv (w64 (a2 - (a1.Name.size : Int)))), (11, bv (decide ((w64 (a2 - (a1.Name.size : Int))) < 0)))] [] orcN ?_
  refine J_if2 11 (fun h3 => ?_) (fun h3 => ?_)
  · refine J_g 116 [] [(4, iv (-1))] [] orcN ?_
    exact J_r1 rfl
  · refine J_g 30 [] [(4, iv (w64 (a2 - (a1.Name.size : Int))))] [] orcN ?_
    exact J_r1 rfl

noncomputable def c175 : Code := (Tryz.f175.body).getD .skip

theorem laws_szTermS_l1.ok (a1 : (List Term)) (q : Wd) (kn : Int → Option (D × List Ent)) (hk : ∀ v : Int, J (q.g Tryz.prog 175 0 27) c175 (atI c175 31) (St.mk' [(1, iv v)] []) (some v) kn) :
    ∀ s10 : (Int × Int), J (q.g Tryz.prog 175 0 27) c175 (atI c175 244) (St.mk' [(0, sl 7 Term.enc a1), (1, iv s10.1), (5, iv s10.2)] []) (laws_szTermS_l1 a1 s10) (Fl.go (fun r : Int => some (iv r, [])) kn) := by
  refine J_lp (fun g ih s10 => ?_)
  unfold laws_szTermS_l1b
  refine J_g 976 [] [(0, sl 7 Term.enc a1), (1, iv s10.1), (5, iv s10.2), (15, bv (decide (s10.2 < (a1.length : Int))))] [] orcN ?_
  refine J_if2 15 (fun h11 => ?_) (fun h11 => ?_)
  · refine J_bind (fun x12 h13 => ?_)
    refine J_bind (fun x14 h15 => ?_)
    refine J_g 3912 [] [(0, sl 7 Term.enc a1), (1, iv x14), (5, iv s10.2)] [] (orcC 2 (x_ix (kk := .i64) 125 294 7 Term.enc (.tmp 18) (.tmp 19) h13) (orcC 5 (x_c0 [(.tmp 21), (.tmp 22)] [294, 3] (laws_szTerm.ok x12 s10.1) h15) orcN)) ?_
    refine J_g 7826 [] [(0, sl 7 Term.enc a1), (1, iv x14), (5, iv s10.2), (25, bv (decide (x14 < 0)))] [] orcN ?_
    refine J_if2 25 (fun h16 => ?_) (fun h16 => ?_)
    · refine J_g 31308 [] [(4, iv (-1))] [] orcN ?_
      exact J_r1 rfl
    · refine J_g 979 [] [(0, sl 7 Term.enc a1), (1, iv x14), (5, iv (w64 (s10.2 + 1)))] [] orcN ?_
      exact J_q (J_b (ih (x14, w64 (s10.2 + 1)))) rfl
  · exact J_qw (hk s10.1) rfl

theorem laws_szTermS.ok (a1 : (List Term)) (a2 : Int) : Ok Tryz.prog 175 [sl 7 Term.enc a1, iv a2] [] ((laws_szTermS a1 a2).map fun r => (iv r, [])) := by
  refine Ok_of3 c175 Tryz.f175 0 27 (fun q => ?_)
  unfold laws_szTermS
  refine J_g 2 [] [(0, sl 7 Term.enc a1), (1, iv a2)] [] orcN ?_
  refine J_g 6 [] [(0, sl 7 Term.enc a1), (1, iv (w64 (a2 - (a1.length : Int))))] [] orcN ?_
  refine J_g 28 [] [(0, sl 7 Term.enc a1), (1, iv (w64 (a2 - (a1.length : Int)))), (11, bv (decide ((w64 (a2 - (a1.length : Int))) < 0)))] [] orcN ?_
  refine J_if2 11 (fun h3 => ?_) (fun h3 => ?_)
  · refine J_g 116 [] [(4, iv (-1))] [] orcN ?_
    exact J_r1 rfl
  · refine J_g 60 [] [(0, sl 7 Term.enc a1), (1, iv (w64 (a2 - (a1.length : Int)))), (5, iv 0)] [] orcN ?_
    refine J_lqF (K0 := (fun r : Int => some (iv r, []))) (fun _ => rfl) (laws_szTermS_l1.ok a1 q _ (fun v17 => J_j ?_) (w64 (a2 - (a1.length : Int)), 0))
    refine J_g 62 [] [(4, iv v17)] [] orcN ?_
    exact J_r1 rfl

noncomputable def c174 : Code := (Tryz.f174.body).getD .skip

theorem laws_szTermSS_l1.ok (a1 : (List (List Term))) (q : Wd) (kn : Int → Option (D × List Ent)) (hk : ∀ v : Int, J (q.g Tryz.prog 174 0 27) c174 (atI c174 31) (St.mk' [(1, iv v)] []) (some v) kn) :
    ∀ s10 : (Int × Int), J (q.g Tryz.prog 174 0 27) c174 (atI c174 244) (St.mk' [(0, sl 1 (eSl false 7 Term.enc) a1), (1, iv s10.1), (5, iv s10.2)] []) (laws_szTermSS_l1 a1 s10) (Fl.go (fun r : Int => some (iv r, [])) kn) := by
  refine J_lp (fun g ih s10 => ?_)
  unfold laws_szTermSS_l1b
  refine J_g 976 [] [(0, sl 1 (eSl false 7 Term.enc) a1), (1, iv s10.1), (5, iv s10.2), (15, bv (decide (s10.2 < (a1.length : Int))))] [] orcN ?_
  refine J_if2 15 (fun h11 => ?_) (fun h11 => ?_)
  · refine J_bind (fun x12 h13 => ?_)
    refine J_bind (fun x14 h15 => ?_)
    refine J_g 3912 [] [(0, sl 1 (eSl false 7 Term.enc) a1), (1, iv x14), (5, iv s10.2)] [] (orcC 2 (x_ix (kk := .i64) 124 125 1 (eSl false 7 Term.enc) (.tmp 18) (.tmp 19) h13) (orcC 5 (x_c0 [(.tmp 21), (.tmp 22)] [125, 3] (laws_szTermS.ok x12 s10.1) h15) orcN)) ?_
    refine J_g 7826 [] [(0, sl 1 (eSl false 7 Term.enc) a1), (1, iv x14), (5, iv s10.2), (25, bv (decide (x14 < 0)))] [] orcN ?_
    refine J_if2 25 (fun h16 => ?_) (fun h16 => ?_)
    · refine J_g 31308 [] [(4, iv (-1))] [] orcN ?_
      exact J_r1 rfl
    · refine J_g 979 [] [(0, sl 1 (eSl false 7 Term.enc) a1), (1, iv x14), (5, iv (w64 (s10.2 + 1)))] [] orcN ?_
      exact J_q (J_b (ih (x14, w64 (s10.2 + 1)))) rfl
  · exact J_qw (hk s10.1) rfl

theorem laws_szTermSS.ok (a1 : (List (List Term))) (a2 : Int) : Ok Tryz.prog 174 [sl 1 (eSl false 7 Term.enc) a1, iv a2] [] ((laws_szTermSS a1 a2).map fun r => (iv r, [])) := by
  refine Ok_of3 c174 Tryz.f174 0 27 (fun q => ?_)
  unfold laws_szTermSS
  refine J_g 2 [] [(0, sl 1 (eSl false 7 Term.enc) a1), (1, iv a2)] [] orcN ?_
  refine J_g 6 [] [(0, sl 1 (eSl false 7 Term.enc) a1), (1, iv (w64 (a2 - (a1.length : Int))))] [] orcN ?_
  refine J_g 28 [] [(0, sl 1 (eSl false 7 Term.enc) a1), (1, iv (w64 (a2 - (a1.length : Int)))), (11, bv (decide ((w64 (a2 - (a1.length : Int))) < 0)))] [] orcN ?_
  refine J_if2 11 (fun h3 => ?_) (fun h3 => ?_)
  · refine J_g 116 [] [(4, iv (-1))] [] orcN ?_
    exact J_r1 rfl
  · refine J_g 60 [] [(0, sl 1 (eSl false 7 Term.enc) a1), (1, iv (w64 (a2 - (a1.length : Int)))), (5, iv 0)] [] orcN ?_
    refine J_lqF (K0 := (fun r : Int => some (iv r, []))) (fun _ => rfl) (laws_szTermSS_l1.ok a1 q _ (fun v17 => J_j ?_) (w64 (a2 - (a1.length : Int)), 0))
    refine J_g 62 [] [(4, iv v17)] [] orcN ?_
    exact J_r1 rfl

noncomputable def c84 : Code := (Tryz.f84.body).getD .skip

theorem laws_szPack.ok (a1 : Pack) (a2 : Int) : Ok Tryz.prog 84 [.ag (Pack.enc false a1), iv a2] [] ((laws_szPack a1 a2).map fun r => (iv r, [])) := by
  refine Ok_of3 c84 Tryz.f84 0 31 (fun q => ?_)
  unfold laws_szPack
  refine J_g 2 [(0, 0)] [(1, iv a2), (2, pp 0)] [(0, .box (Pack.enc false a1))] orcN ?_
  refine J_g 6 [] [(1, iv (w64 (a2 - (a1.Name.size : Int)))), (2, pp 0)] [(0, .box (Pack.enc false a1))] orcN ?_
  refine J_g 28 [] [(1, iv (w64 (a2 - (a1.Name.size : Int)))), (2, pp 0), (11, bv (decide ((w64 (a2 - (a1.Name.size : Int))) < 0)))] [(0, .box (Pack.enc false a1))] orcN ?_
  refine J_if2 11 (fun h3 => ?_) (fun h3 => ?_)
  · refine J_g 116 [] [(4, iv (-1))] [] orcN ?_
    exact J_r1 rfl
  · refine J_bind (fun x4 h5 => ?_)
    refine J_g 30 [] [(1, iv x4), (2, pp 0)] [(0, .box (Pack.enc false a1))] (orcC 3 (x_c0 [(.tmp 13), (.tmp 14)] [94, 3] (laws_szStringS.ok a1.Provides (w64 (a2 - (a1.Name.size : Int)))) h5) orcN) ?_
    refine J_g 124 [] [(1, iv x4), (2, pp 0), (17, bv (decide (x4 < 0)))] [(0, .box (Pack.enc false a1))] orcN ?_
    refine J_if2 17 (fun h6 => ?_) (fun h6 => ?_)
    · refine J_g 500 [] [(4, iv (-1))] [] orcN ?_
      exact J_r1 rfl
    · refine J_bind (fun x7 h8 => ?_)
      refine J_g 126 [] [(1, iv x7), (2, pp 0)] [(0, .box (Pack.enc false a1))] (orcC 3 (x_c0 [(.tmp 19), (.tmp 20)] [124, 3] (laws_szTermSS.ok a1.Needs x4) h8) orcN) ?_
      refine J_g 508 [] [(1, iv x7), (2, pp 0), (23, bv (decide (x7 < 0)))] [(0, .box (Pack.enc false a1))] orcN ?_
      refine J_if2 23 (fun h9 => ?_) (fun h9 => ?_)
      · refine J_g 2036 [] [(4, iv (-1))] [] orcN ?_
        exact J_r1 rfl
      · refine J_bind (fun x10 h11 => ?_)
        refine J_g 510 [] [(1, iv x10)] [] (orcC 3 (x_c0 [(.tmp 25), (.tmp 26)] [125, 3] (laws_szTermS.ok a1.Bars x7) h11) orcN) ?_
        refine J_g 2044 [] [(1, iv x10), (29, bv (decide (x10 < 0)))] [] orcN ?_
        refine J_if2 29 (fun h12 => ?_) (fun h12 => ?_)
        · refine J_g 8180 [] [(4, iv (-1))] [] orcN ?_
          exact J_r1 rfl
        · refine J_g 2046 [] [(4, iv x10)] [] orcN ?_
          exact J_r1 rfl

noncomputable def c21 : Code := (Tryz.f21.body).getD .skip

theorem laws_szPackS_l1.ok (a1 : (List Pack)) (q : Wd) (kn : Int → Option (D × List Ent)) (hk : ∀ v : Int, J (q.g Tryz.prog 21 0 27) c21 (atI c21 31) (St.mk' [(1, iv v)] []) (some v) kn) :
    ∀ s10 : (Int × Int), J (q.g Tryz.prog 21 0 27) c21 (atI c21 244) (St.mk' [(0, sl 8 (Pack.enc false) a1), (1, iv s10.1), (5, iv s10.2)] []) (laws_szPackS_l1 a1 s10) (Fl.go (fun r : Int => some (iv r, [])) kn) := by
  refine J_lp (fun g ih s10 => ?_)
  unfold laws_szPackS_l1b
  refine J_g 976 [] [(0, sl 8 (Pack.enc false) a1), (1, iv s10.1), (5, iv s10.2), (15, bv (decide (s10.2 < (a1.length : Int))))] [] orcN ?_
  refine J_if2 15 (fun h11 => ?_) (fun h11 => ?_)
  · refine J_bind (fun x12 h13 => ?_)
    refine J_bind (fun x14 h15 => ?_)
    refine J_g 3912 [] [(0, sl 8 (Pack.enc false) a1), (1, iv x14), (5, iv s10.2)] [] (orcC 2 (x_ix (kk := .i64) 45 127 8 (Pack.enc false) (.tmp 18) (.tmp 19) h13) (orcC 5 (x_c0 [(.tmp 21), (.tmp 22)] [127, 3] (laws_szPack.ok x12 s10.1) h15) orcN)) ?_
    refine J_g 7826 [] [(0, sl 8 (Pack.enc false) a1), (1, iv x14), (5, iv s10.2), (25, bv (decide (x14 < 0)))] [] orcN ?_
    refine J_if2 25 (fun h16 => ?_) (fun h16 => ?_)
    · refine J_g 31308 [] [(4, iv (-1))] [] orcN ?_
      exact J_r1 rfl
    · refine J_g 979 [] [(0, sl 8 (Pack.enc false) a1), (1, iv x14), (5, iv (w64 (s10.2 + 1)))] [] orcN ?_
      exact J_q (J_b (ih (x14, w64 (s10.2 + 1)))) rfl
  · exact J_qw (hk s10.1) rfl

theorem laws_szPackS.ok (a1 : (List Pack)) (a2 : Int) : Ok Tryz.prog 21 [sl 8 (Pack.enc false) a1, iv a2] [] ((laws_szPackS a1 a2).map fun r => (iv r, [])) := by
  refine Ok_of3 c21 Tryz.f21 0 27 (fun q => ?_)
  unfold laws_szPackS
  refine J_g 2 [] [(0, sl 8 (Pack.enc false) a1), (1, iv a2)] [] orcN ?_
  refine J_g 6 [] [(0, sl 8 (Pack.enc false) a1), (1, iv (w64 (a2 - (a1.length : Int))))] [] orcN ?_
  refine J_g 28 [] [(0, sl 8 (Pack.enc false) a1), (1, iv (w64 (a2 - (a1.length : Int)))), (11, bv (decide ((w64 (a2 - (a1.length : Int))) < 0)))] [] orcN ?_
  refine J_if2 11 (fun h3 => ?_) (fun h3 => ?_)
  · refine J_g 116 [] [(4, iv (-1))] [] orcN ?_
    exact J_r1 rfl
  · refine J_g 60 [] [(0, sl 8 (Pack.enc false) a1), (1, iv (w64 (a2 - (a1.length : Int)))), (5, iv 0)] [] orcN ?_
    refine J_lqF (K0 := (fun r : Int => some (iv r, []))) (fun _ => rfl) (laws_szPackS_l1.ok a1 q _ (fun v17 => J_j ?_) (w64 (a2 - (a1.length : Int)), 0))
    refine J_g 62 [] [(4, iv v17)] [] orcN ?_
    exact J_r1 rfl

noncomputable def c308 : Code := (Tryz.f308.body).getD .skip

theorem laws_szByteS.ok (a1 : (List Int)) (a2 : Int) : Ok Tryz.prog 308 [sl 1 eU8 a1, iv a2] [] ((laws_szByteS a1 a2).map fun r => (iv r, [])) := by
  refine Ok_of3 c308 Tryz.f308 0 12 (fun q => ?_)
  unfold laws_szByteS
  refine J_g 2 [] [(0, sl 1 eU8 a1), (1, iv a2)] [] orcN ?_
  refine J_g 6 [] [(1, iv (w64 (a2 - (a1.length : Int))))] [] orcN ?_
  refine J_g 28 [] [(1, iv (w64 (a2 - (a1.length : Int)))), (10, bv (decide ((w64 (a2 - (a1.length : Int))) < 0)))] [] orcN ?_
  refine J_if2 10 (fun h3 => ?_) (fun h3 => ?_)
  · refine J_g 116 [] [(4, iv (-1))] [] orcN ?_
    exact J_r1 rfl
  · refine J_g 30 [] [(4, iv (w64 (a2 - (a1.length : Int))))] [] orcN ?_
    exact J_r1 rfl

noncomputable def c216 : Code := (Tryz.f216.body).getD .skip

theorem laws_szFile.ok (a1 : File) (a2 : Int) : Ok Tryz.prog 216 [.ag (File.enc false a1), iv a2] [] ((laws_szFile a1 a2).map fun r => (iv r, [])) := by
  refine Ok_of3 c216 Tryz.f216 0 19 (fun q => ?_)
  unfold laws_szFile
  refine J_g 2 [(0, 0)] [(1, iv a2), (2, pp 0)] [(0, .box (File.enc false a1))] orcN ?_
  refine J_g 6 [] [(1, iv (w64 (a2 - (a1.Path.size : Int)))), (2, pp 0)] [(0, .box (File.enc false a1))] orcN ?_
  refine J_g 28 [] [(1, iv (w64 (a2 - (a1.Path.size : Int)))), (2, pp 0), (11, bv (decide ((w64 (a2 - (a1.Path.size : Int))) < 0)))] [(0, .box (File.enc false a1))] orcN ?_
  refine J_if2 11 (fun h3 => ?_) (fun h3 => ?_)
  · refine J_g 116 [] [(4, iv (-1))] [] orcN ?_
    exact J_r1 rfl
  · refine J_bind (fun x4 h5 => ?_)
    refine J_g 30 [] [(1, iv x4)] [] (orcC 3 (x_c0 [(.tmp 13), (.tmp 14)] [22, 3] (laws_szByteS.ok a1.Data (w64 (a2 - (a1.Path.size : Int)))) h5) orcN) ?_
    refine J_g 124 [] [(1, iv x4), (17, bv (decide (x4 < 0)))] [] orcN ?_
    refine J_if2 17 (fun h6 => ?_) (fun h6 => ?_)
    · refine J_g 500 [] [(4, iv (-1))] [] orcN ?_
      exact J_r1 rfl
    · refine J_g 126 [] [(4, iv x4)] [] orcN ?_
      exact J_r1 rfl

noncomputable def c115 : Code := (Tryz.f115.body).getD .skip

theorem laws_szFileS_l1.ok (a1 : (List File)) (q : Wd) (kn : Int → Option (D × List Ent)) (hk : ∀ v : Int, J (q.g Tryz.prog 115 0 27) c115 (atI c115 31) (St.mk' [(1, iv v)] []) (some v) kn) :
    ∀ s10 : (Int × Int), J (q.g Tryz.prog 115 0 27) c115 (atI c115 244) (St.mk' [(0, sl 2 (File.enc false) a1), (1, iv s10.1), (5, iv s10.2)] []) (laws_szFileS_l1 a1 s10) (Fl.go (fun r : Int => some (iv r, [])) kn) := by
  refine J_lp (fun g ih s10 => ?_)
  unfold laws_szFileS_l1b
  refine J_g 976 [] [(0, sl 2 (File.enc false) a1), (1, iv s10.1), (5, iv s10.2), (15, bv (decide (s10.2 < (a1.length : Int))))] [] orcN ?_
  refine J_if2 15 (fun h11 => ?_) (fun h11 => ?_)
  · refine J_bind (fun x12 h13 => ?_)
    refine J_bind (fun x14 h15 => ?_)
    refine J_g 3912 [] [(0, sl 2 (File.enc false) a1), (1, iv x14), (5, iv s10.2)] [] (orcC 2 (x_ix (kk := .i64) 71 245 2 (File.enc false) (.tmp 18) (.tmp 19) h13) (orcC 5 (x_c0 [(.tmp 21), (.tmp 22)] [245, 3] (laws_szFile.ok x12 s10.1) h15) orcN)) ?_
    refine J_g 7826 [] [(0, sl 2 (File.enc false) a1), (1, iv x14), (5, iv s10.2), (25, bv (decide (x14 < 0)))] [] orcN ?_
    refine J_if2 25 (fun h16 => ?_) (fun h16 => ?_)
    · refine J_g 31308 [] [(4, iv (-1))] [] orcN ?_
      exact J_r1 rfl
    · refine J_g 979 [] [(0, sl 2 (File.enc false) a1), (1, iv x14), (5, iv (w64 (s10.2 + 1)))] [] orcN ?_
      exact J_q (J_b (ih (x14, w64 (s10.2 + 1)))) rfl
  · exact J_qw (hk s10.1) rfl

theorem laws_szFileS.ok (a1 : (List File)) (a2 : Int) : Ok Tryz.prog 115 [sl 2 (File.enc false) a1, iv a2] [] ((laws_szFileS a1 a2).map fun r => (iv r, [])) := by
  refine Ok_of3 c115 Tryz.f115 0 27 (fun q => ?_)
  unfold laws_szFileS
  refine J_g 2 [] [(0, sl 2 (File.enc false) a1), (1, iv a2)] [] orcN ?_
  refine J_g 6 [] [(0, sl 2 (File.enc false) a1), (1, iv (w64 (a2 - (a1.length : Int))))] [] orcN ?_
  refine J_g 28 [] [(0, sl 2 (File.enc false) a1), (1, iv (w64 (a2 - (a1.length : Int)))), (11, bv (decide ((w64 (a2 - (a1.length : Int))) < 0)))] [] orcN ?_
  refine J_if2 11 (fun h3 => ?_) (fun h3 => ?_)
  · refine J_g 116 [] [(4, iv (-1))] [] orcN ?_
    exact J_r1 rfl
  · refine J_g 60 [] [(0, sl 2 (File.enc false) a1), (1, iv (w64 (a2 - (a1.length : Int)))), (5, iv 0)] [] orcN ?_
    refine J_lqF (K0 := (fun r : Int => some (iv r, []))) (fun _ => rfl) (laws_szFileS_l1.ok a1 q _ (fun v17 => J_j ?_) (w64 (a2 - (a1.length : Int)), 0))
    refine J_g 62 [] [(4, iv v17)] [] orcN ?_
    exact J_r1 rfl

noncomputable def c39 : Code := (Tryz.f39.body).getD .skip

theorem laws_szDisk.ok (a1 : Disk) (a2 : Int) : Ok Tryz.prog 39 [.ag (Disk.enc false a1), iv a2] [] ((laws_szDisk a1 a2).map fun r => (iv r, [])) := by
  refine Ok_of3 c39 Tryz.f39 0 12 (fun q => ?_)
  unfold laws_szDisk
  refine J_g 2 [(0, 0)] [(1, iv a2), (2, pp 0)] [(0, .box (Disk.enc false a1))] orcN ?_
  refine J_bind (fun x3 h4 => ?_)
  refine J_g 6 [] [(1, iv x3)] [] (orcC 3 (x_c0 [(.tmp 6), (.tmp 7)] [71, 3] (laws_szFileS.ok a1.Files a2) h4) orcN) ?_
  refine J_g 28 [] [(1, iv x3), (10, bv (decide (x3 < 0)))] [] orcN ?_
  refine J_if2 10 (fun h5 => ?_) (fun h5 => ?_)
  · refine J_g 116 [] [(4, iv (-1))] [] orcN ?_
    exact J_r1 rfl
  · refine J_g 30 [] [(4, iv x3)] [] orcN ?_
    exact J_r1 rfl

noncomputable def c181 : Code := (Tryz.f181.body).getD .skip

theorem laws_toVersion.ok (a1 : Version) : Ok Tryz.prog 181 [.ag (Version.enc a1)] [] ((laws_toVersion a1).map fun r => (.ag (Version.enc r), [])) := by
  refine Ok_of3 c181 Tryz.f181 0 14 (fun q => ?_)
  unfold laws_toVersion
  refine J_g 2 [(0, 0), (1, 1)] [(1, pp 0), (2, pp 1)] [(0, .box (Version.enc a1)), (1, .box [iv 0, iv 0, iv 0])] orcN ?_
  refine J_g 6 [(0, 2)] [(1, pp 0), (2, pp 1), (3, pp 2)] [(0, .box (Version.enc a1)), (1, .box [iv 0, iv 0, iv 0]), (2, .box [iv 0, iv 0, iv 0])] orcN ?_
  refine J_g 14 [] [(1, pp 0), (2, pp 1), (3, pp 2)] [(0, .box (Version.enc a1)), (1, .box [iv 0, iv 0, iv 0]), (2, .box [iv a1.A, iv 0, iv 0])] orcN ?_
  refine J_g 30 [] [(1, pp 0), (2, pp 1), (3, pp 2)] [(0, .box (Version.enc a1)), (1, .box [iv 0, iv 0, iv 0]), (2, .box [iv a1.A, iv a1.B, iv 0])] orcN ?_
  refine J_g 62 [] [(2, pp 1), (3, pp 2)] [(1, .box [iv 0, iv 0, iv 0]), (2, .box (Version.enc a1))] orcN ?_
  refine J_g 126 [] [(2, pp 1)] [(1, .box (Version.enc a1))] orcN ?_
  exact J_r1 rfl

noncomputable def c182 : Code := (Tryz.f182.body).getD .skip

theorem laws_toStringS_l1.ok (a1 : (List ByteArray)) (q : Wd) (kn : (List ByteArray) → Option (D × List Ent)) (hk : ∀ v : (List ByteArray), J (q.g Tryz.prog 182 0 22) c182 (atI c182 15) (St.mk' [(3, rr 0 v)] [(0, rE 1 eStr v)]) (some v) kn) :
    ∀ s9 : ((List ByteArray) × Int), J (q.g Tryz.prog 182 0 22) c182 (atI c182 116) (St.mk' [(0, sl 1 eStr a1), (3, rr 0 s9.1), (4, iv s9.2)] [(0, rE 1 eStr s9.1)]) (laws_toStringS_l1 a1 s9) kn := by
  refine J_lp (fun g ih s9 => ?_)
  unfold laws_toStringS_l1b
  refine J_g 464 [] [(0, sl 1 eStr a1), (3, rr 0 s9.1), (4, iv s9.2), (11, bv (decide (s9.2 < (a1.length : Int))))] [(0, rE 1 eStr s9.1)] orcN ?_
  refine J_if2 11 (fun h10 => ?_) (fun h10 => ?_)
  · refine J_bind (fun x11 h12 => ?_)
    refine J_bind (fun x13 h14 => ?_)
    refine J_g 932 [] [(0, sl 1 eStr a1), (3, rr 0 s9.1), (4, iv s9.2)] [(0, rE 1 eStr (s9.1.set s9.2.toNat x11))] (orcC 4 (x_ix (kk := .i64) 94 9 1 eStr (.tmp 16) (.tmp 17) h12) (orcC 6 (x_ixr (kk := .i64) 94 9 1 0 eStr (.tmp 14) (.tmp 15) h14) (orcD 7 (x_st (b := x11) 9 1 0 0 eStr (sv x11) (.tmp 20) (.tmp 19) h14 rfl) orcN))) ?_
    refine J_st (σ' := St.mk' [(0, sl 1 eStr a1), (3, rr 0 (s9.1.set s9.2.toNat x11)), (4, iv s9.2)] [(0, rE 1 eStr (s9.1.set s9.2.toNat x11))]) (by simp only [rr, List.length_set]) ?_
    refine J_g 467 [] [(0, sl 1 eStr a1), (3, rr 0 (s9.1.set s9.2.toNat x11)), (4, iv (w64 (s9.2 + 1)))] [(0, rE 1 eStr (s9.1.set s9.2.toNat x11))] orcN ?_
    exact J_q (J_b (ih (s9.1.set s9.2.toNat x11, w64 (s9.2 + 1)))) rfl
  · exact J_qw (hk s9.1) rfl

theorem laws_toStringS.ok (a1 : (List ByteArray)) : Ok Tryz.prog 182 [sl 1 eStr a1] [] ((laws_toStringS a1).map fun r => (so 1 eStr r, [])) := by
  refine Ok_of3 c182 Tryz.f182 0 22 (fun q => ?_)
  unfold laws_toStringS
  refine J_g 2 [] [(0, sl 1 eStr a1)] [] orcN ?_
  refine J_bind (fun x2 h3 => ?_)
  refine J_g 6 [] [(0, sl 1 eStr a1), (3, rr 0 x2)] [(0, rE 1 eStr x2)] (orcC 2 (x_mk 94 9 1 16 0 eStr ByteArray.empty (.tmp 6) h3 (.keep rfl (.nil))) orcN) ?_
  refine J_g 28 [] [(0, sl 1 eStr a1), (3, rr 0 x2), (4, iv 0)] [(0, rE 1 eStr x2)] orcN ?_
  refine J_lq (laws_toStringS_l1.ok a1 q _ (fun v15 => J_j ?_) (x2, 0))
  refine J_g 30 [] [(2, rr 0 v15)] [(0, rE 1 eStr v15)] orcN ?_
  exact J_rm (ds := [rr 0 v15]) (ds' := [so 1 eStr v15]) (.cons (.cell (.move (.head _) (List.length_map _) (by decide) (.nil))) (.nil) (by decide)) rfl

noncomputable def c278 : Code := (Tryz.f278.body).getD .skip

theorem laws_toTerm.ok (a1 : Term) : Ok Tryz.prog 278 [.ag (Term.enc a1)] [] ((laws_toTerm a1).map fun r => (.ag (Term.enc r), [])) := by
  refine Ok_of3 c278 Tryz.f278 0 16 (fun q => ?_)
  unfold laws_toTerm
  refine J_g 2 [(0, 0), (1, 1)] [(1, pp 0), (2, pp 1)] [(0, .box (Term.enc a1)), (1, .box [sv ByteArray.empty, iv 0, iv 0, iv 0, iv 0, iv 0, iv 0])] orcN ?_
  refine J_g 6 [(0, 2)] [(1, pp 0), (2, pp 1), (3, pp 2)] [(0, .box (Term.enc a1)), (1, .box [sv ByteArray.empty, iv 0, iv 0, iv 0, iv 0, iv 0, iv 0]), (2, .box [sv ByteArray.empty, iv 0, iv 0, iv 0, iv 0, iv 0, iv 0])] orcN ?_
  refine J_g 14 [] [(1, pp 0), (2, pp 1), (3, pp 2)] [(0, .box (Term.enc a1)), (1, .box [sv ByteArray.empty, iv 0, iv 0, iv 0, iv 0, iv 0, iv 0]), (2, .box [sv a1.Name, iv 0, iv 0, iv 0, iv 0, iv 0, iv 0])] orcN ?_
  refine J_bind (fun x2 h3 => ?_)
  refine J_g 30 [] [(1, pp 0), (2, pp 1), (3, pp 2)] [(0, .box (Term.enc a1)), (1, .box [sv ByteArray.empty, iv 0, iv 0, iv 0, iv 0, iv 0, iv 0]), (2, .box [sv a1.Name, iv x2.A, iv x2.B, iv x2.C, iv 0, iv 0, iv 0])] (orcC 2 (x_c0 [(.tmp 8)] [123] (laws_toVersion.ok a1.Low) h3) orcN) ?_
  refine J_bind (fun x4 h5 => ?_)
  refine J_g 62 [] [(2, pp 1), (3, pp 2)] [(1, .box [sv ByteArray.empty, iv 0, iv 0, iv 0, iv 0, iv 0, iv 0]), (2, .box [sv a1.Name, iv x2.A, iv x2.B, iv x2.C, iv x4.A, iv x4.B, iv x4.C])] (orcC 2 (x_c0 [(.tmp 12)] [123] (laws_toVersion.ok a1.High) h5) orcN) ?_
  refine J_g 126 [] [(2, pp 1)] [(1, .box [sv a1.Name, iv x2.A, iv x2.B, iv x2.C, iv x4.A, iv x4.B, iv x4.C])] orcN ?_
  exact J_r1 rfl

noncomputable def c184 : Code := (Tryz.f184.body).getD .skip

theorem laws_toTermS_l1.ok (a1 : (List Term)) (q : Wd) (kn : (List Term) → Option (D × List Ent)) (hk : ∀ v : (List Term), J (q.g Tryz.prog 184 0 23) c184 (atI c184 15) (St.mk' [(3, rr 0 v)] [(0, rE 7 Term.enc v)]) (some v) kn) :
    ∀ s11 : ((List Term) × Int), J (q.g Tryz.prog 184 0 23) c184 (atI c184 116) (St.mk' [(0, sl 7 Term.enc a1), (3, rr 0 s11.1), (4, iv s11.2)] [(0, rE 7 Term.enc s11.1)]) (laws_toTermS_l1 a1 s11) kn := by
  refine J_lp (fun g ih s11 => ?_)
  unfold laws_toTermS_l1b
  refine J_g 464 [] [(0, sl 7 Term.enc a1), (3, rr 0 s11.1), (4, iv s11.2), (11, bv (decide (s11.2 < (a1.length : Int))))] [(0, rE 7 Term.enc s11.1)] orcN ?_
  refine J_if2 11 (fun h12 => ?_) (fun h12 => ?_)
  · refine J_bind (fun x13 h14 => ?_)
    refine J_bind (fun x15 h16 => ?_)
    refine J_bind (fun x17 h18 => ?_)
    refine J_g 932 [] [(0, sl 7 Term.enc a1), (3, rr 0 s11.1), (4, iv s11.2)] [(0, rE 7 Term.enc (s11.1.set s11.2.toNat x15))] (orcC 4 (x_ix (kk := .i64) 125 294 7 Term.enc (.tmp 16) (.tmp 17) h14) (orcC 6 (x_c0 [(.tmp 19)] [294] (laws_toTerm.ok x13) h16) (orcC 7 (x_ixr (kk := .i64) 24 41 7 0 Term.enc (.tmp 14) (.tmp 15) h18) (orcD 8 (x_st (b := x15) 41 7 0 0 Term.enc (.ag (Term.enc x15)) (.tmp 21) (.tmp 20) h18 rfl) orcN)))) ?_
    refine J_st (σ' := St.mk' [(0, sl 7 Term.enc a1), (3, rr 0 (s11.1.set s11.2.toNat x15)), (4, iv s11.2)] [(0, rE 7 Term.enc (s11.1.set s11.2.toNat x15))]) (by simp only [rr, List.length_set]) ?_
    refine J_g 467 [] [(0, sl 7 Term.enc a1), (3, rr 0 (s11.1.set s11.2.toNat x15)), (4, iv (w64 (s11.2 + 1)))] [(0, rE 7 Term.enc (s11.1.set s11.2.toNat x15))] orcN ?_
    exact J_q (J_b (ih (s11.1.set s11.2.toNat x15, w64 (s11.2 + 1)))) rfl
  · exact J_qw (hk s11.1) rfl

theorem laws_toTermS.ok (a1 : (List Term)) : Ok Tryz.prog 184 [sl 7 Term.enc a1] [] ((laws_toTermS a1).map fun r => (so 7 Term.enc r, [])) := by
  refine Ok_of3 c184 Tryz.f184 0 23 (fun q => ?_)
  unfold laws_toTermS
  refine J_g 2 [] [(0, sl 7 Term.enc a1)] [] orcN ?_
  refine J_bind (fun x2 h3 => ?_)
  refine J_g 6 [] [(0, sl 7 Term.enc a1), (3, rr 0 x2)] [(0, rE 7 Term.enc x2)] (orcC 2 (x_mk 24 41 7 64 0 Term.enc ({ Name := ByteArray.empty, Low := ({ A := 0, B := 0, C := 0 } : Version), High := ({ A := 0, B := 0, C := 0 } : Version) } : Term) (.tmp 6) h3 (.keep rfl (.keep rfl (.keep rfl (.keep rfl (.keep rfl (.keep rfl (.keep rfl (.nil))))))))) orcN) ?_
  refine J_g 28 [] [(0, sl 7 Term.enc a1), (3, rr 0 x2), (4, iv 0)] [(0, rE 7 Term.enc x2)] orcN ?_
  refine J_lq (laws_toTermS_l1.ok a1 q _ (fun v19 => J_j ?_) (x2, 0))
  refine J_g 30 [] [(2, rr 0 v19)] [(0, rE 7 Term.enc v19)] orcN ?_
  exact J_rm (ds := [rr 0 v19]) (ds' := [so 7 Term.enc v19]) (.cons (.cell (.move (.head _) (List.length_map _) (by decide) (.nil))) (.nil) (by decide)) rfl

noncomputable def c183 : Code := (Tryz.f183.body).getD .skip

theorem laws_toTermSS_l1.ok (a1 : (List (List Term))) (q : Wd) (kn : (List (List Term)) → Option (D × List Ent)) (hk : ∀ v : (List (List Term)), J (q.g Tryz.prog 183 0 23) c183 (atI c183 15) (St.mk' [(3, rr 0 v)] [(0, rE 1 (eSl true 7 Term.enc) v)]) (some v) kn) :
    ∀ s11 : ((List (List Term)) × Int), J (q.g Tryz.prog 183 0 23) c183 (atI c183 116) (St.mk' [(0, sl 1 (eSl false 7 Term.enc) a1), (3, rr 0 s11.1), (4, iv s11.2)] [(0, rE 1 (eSl true 7 Term.enc) s11.1)]) (laws_toTermSS_l1 a1 s11) kn := by
  refine J_lp (fun g ih s11 => ?_)
  unfold laws_toTermSS_l1b
  refine J_g 464 [] [(0, sl 1 (eSl false 7 Term.enc) a1), (3, rr 0 s11.1), (4, iv s11.2), (11, bv (decide (s11.2 < (a1.length : Int))))] [(0, rE 1 (eSl true 7 Term.enc) s11.1)] orcN ?_
  refine J_if2 11 (fun h12 => ?_) (fun h12 => ?_)
  · refine J_bind (fun x13 h14 => ?_)
    refine J_bind (fun x15 h16 => ?_)
    refine J_bind (fun x17 h18 => ?_)
    refine J_g 932 [] [(0, sl 1 (eSl false 7 Term.enc) a1), (3, rr 0 s11.1), (4, iv s11.2)] [(0, rE 1 (eSl true 7 Term.enc) (s11.1.set s11.2.toNat x15))] (orcC 4 (x_ix (kk := .i64) 124 125 1 (eSl false 7 Term.enc) (.tmp 16) (.tmp 17) h14) (orcC 6 (x_c1 («as» := [sl 7 Term.enc x13]) [(.tmp 19)] [125] false [] [] (.cons (.same rfl) (.nil)) (laws_toTermS.ok x13) h16 (.own 1)) (orcC 7 (x_ixr (kk := .i64) 130 24 1 0 (eSl true 7 Term.enc) (.tmp 14) (.tmp 15) h18) (orcD 8 (x_stm (b := x15) (es' := [so 7 Term.enc x15]) (ts := [1]) 24 1 0 0 (eSl true 7 Term.enc) (rr 1 x15) (.tmp 21) (.tmp 20) [(1, rE 7 Term.enc x15)] h18 (.move (.head _) (List.length_map _) (by decide) (.nil)) rfl) orcN)))) ?_
    refine J_st (σ' := St.mk' [(0, sl 1 (eSl false 7 Term.enc) a1), (3, rr 0 (s11.1.set s11.2.toNat x15)), (4, iv s11.2)] [(0, rE 1 (eSl true 7 Term.enc) (s11.1.set s11.2.toNat x15))]) (by simp only [rr, List.length_set]) ?_
    refine J_g 467 [] [(0, sl 1 (eSl false 7 Term.enc) a1), (3, rr 0 (s11.1.set s11.2.toNat x15)), (4, iv (w64 (s11.2 + 1)))] [(0, rE 1 (eSl true 7 Term.enc) (s11.1.set s11.2.toNat x15))] orcN ?_
    exact J_q (J_b (ih (s11.1.set s11.2.toNat x15, w64 (s11.2 + 1)))) rfl
  · exact J_qw (hk s11.1) rfl

theorem laws_toTermSS.ok (a1 : (List (List Term))) : Ok Tryz.prog 183 [sl 1 (eSl false 7 Term.enc) a1] [] ((laws_toTermSS a1).map fun r => (so 1 (eSl true 7 Term.enc) r, [])) := by
  refine Ok_of3 c183 Tryz.f183 0 23 (fun q => ?_)
  unfold laws_toTermSS
  refine J_g 2 [] [(0, sl 1 (eSl false 7 Term.enc) a1)] [] orcN ?_
  refine J_bind (fun x2 h3 => ?_)
  refine J_g 6 [] [(0, sl 1 (eSl false 7 Term.enc) a1), (3, rr 0 x2)] [(0, rE 1 (eSl true 7 Term.enc) x2)] (orcC 2 (x_mk 130 24 1 24 0 (eSl true 7 Term.enc) ([] : List Term) (.tmp 6) h3 (.nilsl true 7 (.nil))) orcN) ?_
  refine J_g 28 [] [(0, sl 1 (eSl false 7 Term.enc) a1), (3, rr 0 x2), (4, iv 0)] [(0, rE 1 (eSl true 7 Term.enc) x2)] orcN ?_
  refine J_lq (laws_toTermSS_l1.ok a1 q _ (fun v19 => J_j ?_) (x2, 0))
  refine J_g 30 [] [(2, rr 0 v19)] [(0, rE 1 (eSl true 7 Term.enc) v19)] orcN ?_
  exact J_rm (ds := [rr 0 v19]) (ds' := [so 1 (eSl true 7 Term.enc) v19]) (.cons (.cell (.move (.head _) (List.length_map _) (by decide) (.nil))) (.nil) (by decide)) rfl

noncomputable def c88 : Code := (Tryz.f88.body).getD .skip

theorem laws_toPack.ok (a1 : Pack) : Ok Tryz.prog 88 [.ag (Pack.enc false a1)] [] ((laws_toPack a1).map fun r => (.ag [sv r.Name, iv r.Version.A, iv r.Version.B, iv r.Version.C, iv r.Size, so 1 eStr r.Provides, so 1 (eSl true 7 Term.enc) r.Needs, so 7 Term.enc r.Bars], [])) := by
  refine Ok_of3 c88 Tryz.f88 0 27 (fun q => ?_)
  unfold laws_toPack
  refine J_g 2 [(0, 0), (1, 1)] [(1, pp 0), (2, pp 1)] [(0, .box (Pack.enc false a1)), (1, .box [sv ByteArray.empty, iv 0, iv 0, iv 0, iv 0, nv, nv, nv])] orcN ?_
  refine J_g 6 [(0, 2)] [(1, pp 0), (2, pp 1), (3, pp 2)] [(0, .box (Pack.enc false a1)), (1, .box [sv ByteArray.empty, iv 0, iv 0, iv 0, iv 0, nv, nv, nv]), (2, .box [sv ByteArray.empty, iv 0, iv 0, iv 0, iv 0, nv, nv, nv])] orcN ?_
  refine J_g 14 [] [(1, pp 0), (2, pp 1), (3, pp 2)] [(0, .box (Pack.enc false a1)), (1, .box [sv ByteArray.empty, iv 0, iv 0, iv 0, iv 0, nv, nv, nv]), (2, .box [sv a1.Name, iv 0, iv 0, iv 0, iv 0, nv, nv, nv])] orcN ?_
  refine J_bind (fun x2 h3 => ?_)
  refine J_g 30 [] [(1, pp 0), (2, pp 1), (3, pp 2)] [(0, .box (Pack.enc false a1)), (1, .box [sv ByteArray.empty, iv 0, iv 0, iv 0, iv 0, nv, nv, nv]), (2, .box [sv a1.Name, iv x2.A, iv x2.B, iv x2.C, iv 0, nv, nv, nv])] (orcC 2 (x_c0 [(.tmp 8)] [123] (laws_toVersion.ok a1.Version) h3) orcN) ?_
  refine J_g 62 [] [(1, pp 0), (2, pp 1), (3, pp 2)] [(0, .box (Pack.enc false a1)), (1, .box [sv ByteArray.empty, iv 0, iv 0, iv 0, iv 0, nv, nv, nv]), (2, .box [sv a1.Name, iv x2.A, iv x2.B, iv x2.C, iv a1.Size, nv, nv, nv])] orcN ?_
  refine J_bind (fun x4 h5 => ?_)
  refine J_g 126 [] [(1, pp 0), (2, pp 1), (3, pp 2)] [(0, .box (Pack.enc false a1)), (1, .box [sv ByteArray.empty, iv 0, iv 0, iv 0, iv 0, nv, nv, nv]), (2, .box [sv a1.Name, iv x2.A, iv x2.B, iv x2.C, iv a1.Size, rr 3 x4, nv, nv]), (3, rE 1 eStr x4)] (orcC 2 (x_c1 («as» := [sl 1 eStr a1.Provides]) [(.tmp 15)] [94] false [] [] (.cons (.same rfl) (.nil)) (laws_toStringS.ok a1.Provides) h5 (.own 3)) orcN) ?_
  refine J_bind (fun x6 h7 => ?_)
  refine J_g 254 [] [(1, pp 0), (2, pp 1), (3, pp 2)] [(0, .box (Pack.enc false a1)), (1, .box [sv ByteArray.empty, iv 0, iv 0, iv 0, iv 0, nv, nv, nv]), (2, .box [sv a1.Name, iv x2.A, iv x2.B, iv x2.C, iv a1.Size, rr 3 x4, rr 4 x6, nv]), (3, rE 1 eStr x4), (4, rE 1 (eSl true 7 Term.enc) x6)] (orcC 2 (x_c1 («as» := [sl 1 (eSl false 7 Term.enc) a1.Needs]) [(.tmp 19)] [124] false [] [] (.cons (.same rfl) (.nil)) (laws_toTermSS.ok a1.Needs) h7 (.own 4)) orcN) ?_
  refine J_bind (fun x8 h9 => ?_)
  refine J_g 510 [] [(2, pp 1), (3, pp 2)] [(1, .box [sv ByteArray.empty, iv 0, iv 0, iv 0, iv 0, nv, nv, nv]), (2, .box [sv a1.Name, iv x2.A, iv x2.B, iv x2.C, iv a1.Size, rr 3 x4, rr 4 x6, rr 5 x8]), (3, rE 1 eStr x4), (4, rE 1 (eSl true 7 Term.enc) x6), (5, rE 7 Term.enc x8)] (orcC 2 (x_c1 («as» := [sl 7 Term.enc a1.Bars]) [(.tmp 23)] [125] false [] [] (.cons (.same rfl) (.nil)) (laws_toTermS.ok a1.Bars) h9 (.own 5)) orcN) ?_
  refine J_g 1022 [] [(2, pp 1)] [(1, .box [sv a1.Name, iv x2.A, iv x2.B, iv x2.C, iv a1.Size, rr 3 x4, rr 4 x6, rr 5 x8]), (3, rE 1 eStr x4), (4, rE 1 (eSl true 7 Term.enc) x6), (5, rE 7 Term.enc x8)] orcN ?_
  exact J_rm (ds := [.ag [sv a1.Name, iv x2.A, iv x2.B, iv x2.C, iv a1.Size, rr 3 x4, rr 4 x6, rr 5 x8]]) (ds' := [.ag [sv a1.Name, iv x2.A, iv x2.B, iv x2.C, iv a1.Size, so 1 eStr x4, so 1 (eSl true 7 Term.enc) x6, so 7 Term.enc x8]]) (.cons (.ag (.keep rfl (.keep rfl (.keep rfl (.keep rfl (.keep rfl (.move (.tail _ (.head _)) (List.length_map _) (by decide) (.move (.tail _ (.tail _ (.head _))) (List.length_map _) (by decide) (.move (.tail _ (.tail _ (.tail _ (.head _)))) (List.length_map _) (by decide) (.nil)))))))))) (.nil) (by decide)) rfl

noncomputable def c23 : Code := (Tryz.f23.body).getD .skip

theorem laws_toPackS_l1.ok (a1 : (List Pack)) (q : Wd) (kn : (List Pack) → Option (D × List Ent)) (hk : ∀ v : (List Pack), J (q.g Tryz.prog 23 0 23) c23 (atI c23 15) (St.mk' [(3, rr 0 v)] [(0, rE 8 (Pack.enc true) v)]) (some v) kn) :
    ∀ s11 : ((List Pack) × Int), J (q.g Tryz.prog 23 0 23) c23 (atI c23 116) (St.mk' [(0, sl 8 (Pack.enc false) a1), (3, rr 0 s11.1), (4, iv s11.2)] [(0, rE 8 (Pack.enc true) s11.1)]) (laws_toPackS_l1 a1 s11) kn := by
  refine J_lp (fun g ih s11 => ?_)
  unfold laws_toPackS_l1b
  refine J_g 464 [] [(0, sl 8 (Pack.enc false) a1), (3, rr 0 s11.1), (4, iv s11.2), (11, bv (decide (s11.2 < (a1.length : Int))))] [(0, rE 8 (Pack.enc true) s11.1)] orcN ?_
  refine J_if2 11 (fun h12 => ?_) (fun h12 => ?_)
  · refine J_bind (fun x13 h14 => ?_)
    refine J_bind (fun x15 h16 => ?_)
    refine J_bind (fun x17 h18 => ?_)
    refine J_g 932 [] [(0, sl 8 (Pack.enc false) a1), (3, rr 0 s11.1), (4, iv s11.2)] [(0, rE 8 (Pack.enc true) (s11.1.set s11.2.toNat x15))] (orcC 4 (x_ix (kk := .i64) 45 127 8 (Pack.enc false) (.tmp 16) (.tmp 17) h14) (orcC 6 (x_c1 («as» := [.ag (Pack.enc false x13)]) [(.tmp 19)] [127] false [] [] (.cons (.same rfl) (.nil)) (laws_toPack.ok x13) h16 (.ag (.cons (.same rfl rfl) (.cons (.same rfl rfl) (.cons (.same rfl rfl) (.cons (.same rfl rfl) (.cons (.same rfl rfl) (.cons (.own 1) (.cons (.own 2) (.cons (.own 3) (.nil))))))))))) (orcC 7 (x_ixr (kk := .i64) 47 132 8 0 (Pack.enc true) (.tmp 14) (.tmp 15) h18) (orcD 8 (x_stm (b := x15) (es' := [sv x15.Name, iv x15.Version.A, iv x15.Version.B, iv x15.Version.C, iv x15.Size, so 1 eStr x15.Provides, so 1 (eSl true 7 Term.enc) x15.Needs, so 7 Term.enc x15.Bars]) (ts := [1, 2, 3]) 132 8 0 0 (Pack.enc true) (.ag [sv x15.Name, iv x15.Version.A, iv x15.Version.B, iv x15.Version.C, iv x15.Size, rr 1 x15.Provides, rr 2 x15.Needs, rr 3 x15.Bars]) (.tmp 21) (.tmp 20) [(1, rE 1 eStr x15.Provides), (2, rE 1 (eSl true 7 Term.enc) x15.Needs), (3, rE 7 Term.enc x15.Bars)] h18 (.keep rfl (.keep rfl (.keep rfl (.keep rfl (.keep rfl (.move (.head _) (List.length_map _) (by decide) (.move (.tail _ (.head _)) (List.length_map _) (by decide) (.move (.tail _ (.tail _ (.head _))) (List.length_map _) (by decide) (.nil))))))))) rfl) orcN)))) ?_
    refine J_st (σ' := St.mk' [(0, sl 8 (Pack.enc false) a1), (3, rr 0 (s11.1.set s11.2.toNat x15)), (4, iv s11.2)] [(0, rE 8 (Pack.enc true) (s11.1.set s11.2.toNat x15))]) (by simp only [rr, List.length_set]) ?_
    refine J_g 467 [] [(0, sl 8 (Pack.enc false) a1), (3, rr 0 (s11.1.set s11.2.toNat x15)), (4, iv (w64 (s11.2 + 1)))] [(0, rE 8 (Pack.enc true) (s11.1.set s11.2.toNat x15))] orcN ?_
    exact J_q (J_b (ih (s11.1.set s11.2.toNat x15, w64 (s11.2 + 1)))) rfl
  · exact J_qw (hk s11.1) rfl

theorem laws_toPackS.ok (a1 : (List Pack)) : Ok Tryz.prog 23 [sl 8 (Pack.enc false) a1] [] ((laws_toPackS a1).map fun r => (so 8 (Pack.enc true) r, [])) := by
  refine Ok_of3 c23 Tryz.f23 0 23 (fun q => ?_)
  unfold laws_toPackS
  refine J_g 2 [] [(0, sl 8 (Pack.enc false) a1)] [] orcN ?_
  refine J_bind (fun x2 h3 => ?_)
  refine J_g 6 [] [(0, sl 8 (Pack.enc false) a1), (3, rr 0 x2)] [(0, rE 8 (Pack.enc true) x2)] (orcC 2 (x_mk 47 132 8 120 0 (Pack.enc true) ({ Name := ByteArray.empty, Version := ({ A := 0, B := 0, C := 0 } : Version), Size := 0, Provides := ([] : List ByteArray), Needs := ([] : List (List Term)), Bars := ([] : List Term) } : Pack) (.tmp 6) h3 (.keep rfl (.keep rfl (.keep rfl (.keep rfl (.keep rfl (.nilsl true 1 (.nilsl true 1 (.nilsl true 7 (.nil)))))))))) orcN) ?_
  refine J_g 28 [] [(0, sl 8 (Pack.enc false) a1), (3, rr 0 x2), (4, iv 0)] [(0, rE 8 (Pack.enc true) x2)] orcN ?_
  refine J_lq (laws_toPackS_l1.ok a1 q _ (fun v19 => J_j ?_) (x2, 0))
  refine J_g 30 [] [(2, rr 0 v19)] [(0, rE 8 (Pack.enc true) v19)] orcN ?_
  exact J_rm (ds := [rr 0 v19]) (ds' := [so 8 (Pack.enc true) v19]) (.cons (.cell (.move (.head _) (List.length_map _) (by decide) (.nil))) (.nil) (by decide)) rfl

noncomputable def c310 : Code := (Tryz.f310.body).getD .skip

theorem laws_toByteS_l1.ok (a1 : (List Int)) (q : Wd) (kn : (List Int) → Option (D × List Ent)) (hk : ∀ v : (List Int), J (q.g Tryz.prog 310 0 22) c310 (atI c310 15) (St.mk' [(3, rr 0 v)] [(0, rE 1 eU8 v)]) (some v) kn) :
    ∀ s9 : ((List Int) × Int), J (q.g Tryz.prog 310 0 22) c310 (atI c310 116) (St.mk' [(0, sl 1 eU8 a1), (3, rr 0 s9.1), (4, iv s9.2)] [(0, rE 1 eU8 s9.1)]) (laws_toByteS_l1 a1 s9) kn := by
  refine J_lp (fun g ih s9 => ?_)
  unfold laws_toByteS_l1b
  refine J_g 464 [] [(0, sl 1 eU8 a1), (3, rr 0 s9.1), (4, iv s9.2), (11, bv (decide (s9.2 < (a1.length : Int))))] [(0, rE 1 eU8 s9.1)] orcN ?_
  refine J_if2 11 (fun h10 => ?_) (fun h10 => ?_)
  · refine J_bind (fun x11 h12 => ?_)
    refine J_bind (fun x13 h14 => ?_)
    refine J_g 932 [] [(0, sl 1 eU8 a1), (3, rr 0 s9.1), (4, iv s9.2)] [(0, rE 1 eU8 (s9.1.set s9.2.toNat x11))] (orcC 4 (x_ix (kk := .i64) 22 5 1 eU8 (.tmp 16) (.tmp 17) h12) (orcC 6 (x_ixr (kk := .i64) 22 5 1 0 eU8 (.tmp 14) (.tmp 15) h14) (orcD 7 (x_st (b := x11) 5 1 0 0 eU8 (uv x11) (.tmp 20) (.tmp 19) h14 rfl) orcN))) ?_
    refine J_st (σ' := St.mk' [(0, sl 1 eU8 a1), (3, rr 0 (s9.1.set s9.2.toNat x11)), (4, iv s9.2)] [(0, rE 1 eU8 (s9.1.set s9.2.toNat x11))]) (by simp only [rr, List.length_set]) ?_
    refine J_g 467 [] [(0, sl 1 eU8 a1), (3, rr 0 (s9.1.set s9.2.toNat x11)), (4, iv (w64 (s9.2 + 1)))] [(0, rE 1 eU8 (s9.1.set s9.2.toNat x11))] orcN ?_
    exact J_q (J_b (ih (s9.1.set s9.2.toNat x11, w64 (s9.2 + 1)))) rfl
  · exact J_qw (hk s9.1) rfl

theorem laws_toByteS.ok (a1 : (List Int)) : Ok Tryz.prog 310 [sl 1 eU8 a1] [] ((laws_toByteS a1).map fun r => (so 1 eU8 r, [])) := by
  refine Ok_of3 c310 Tryz.f310 0 22 (fun q => ?_)
  unfold laws_toByteS
  refine J_g 2 [] [(0, sl 1 eU8 a1)] [] orcN ?_
  refine J_bind (fun x2 h3 => ?_)
  refine J_g 6 [] [(0, sl 1 eU8 a1), (3, rr 0 x2)] [(0, rE 1 eU8 x2)] (orcC 2 (x_mk 22 5 1 1 0 eU8 0 (.tmp 6) h3 (.keep rfl (.nil))) orcN) ?_
  refine J_g 28 [] [(0, sl 1 eU8 a1), (3, rr 0 x2), (4, iv 0)] [(0, rE 1 eU8 x2)] orcN ?_
  refine J_lq (laws_toByteS_l1.ok a1 q _ (fun v15 => J_j ?_) (x2, 0))
  refine J_g 30 [] [(2, rr 0 v15)] [(0, rE 1 eU8 v15)] orcN ?_
  exact J_rm (ds := [rr 0 v15]) (ds' := [so 1 eU8 v15]) (.cons (.cell (.move (.head _) (List.length_map _) (by decide) (.nil))) (.nil) (by decide)) rfl

noncomputable def c224 : Code := (Tryz.f224.body).getD .skip

theorem laws_toFile.ok (a1 : File) : Ok Tryz.prog 224 [.ag (File.enc false a1)] [] ((laws_toFile a1).map fun r => (.ag [sv r.Path, so 1 eU8 r.Data], [])) := by
  refine Ok_of3 c224 Tryz.f224 0 12 (fun q => ?_)
  unfold laws_toFile
  refine J_g 2 [(0, 0), (1, 1)] [(1, pp 0), (2, pp 1)] [(0, .box (File.enc false a1)), (1, .box [sv ByteArray.empty, nv])] orcN ?_
  refine J_g 6 [(0, 2)] [(1, pp 0), (2, pp 1), (3, pp 2)] [(0, .box (File.enc false a1)), (1, .box [sv ByteArray.empty, nv]), (2, .box [sv ByteArray.empty, nv])] orcN ?_
  refine J_g 14 [] [(1, pp 0), (2, pp 1), (3, pp 2)] [(0, .box (File.enc false a1)), (1, .box [sv ByteArray.empty, nv]), (2, .box [sv a1.Path, nv])] orcN ?_
  refine J_bind (fun x2 h3 => ?_)
  refine J_g 30 [] [(2, pp 1), (3, pp 2)] [(1, .box [sv ByteArray.empty, nv]), (2, .box [sv a1.Path, rr 3 x2]), (3, rE 1 eU8 x2)] (orcC 2 (x_c1 («as» := [sl 1 eU8 a1.Data]) [(.tmp 8)] [22] false [] [] (.cons (.same rfl) (.nil)) (laws_toByteS.ok a1.Data) h3 (.own 3)) orcN) ?_
  refine J_g 62 [] [(2, pp 1)] [(1, .box [sv a1.Path, rr 3 x2]), (3, rE 1 eU8 x2)] orcN ?_
  exact J_rm (ds := [.ag [sv a1.Path, rr 3 x2]]) (ds' := [.ag [sv a1.Path, so 1 eU8 x2]]) (.cons (.ag (.keep rfl (.move (.tail _ (.head _)) (List.length_map _) (by decide) (.nil)))) (.nil) (by decide)) rfl

noncomputable def c120 : Code := (Tryz.f120.body).getD .skip

theorem laws_toFileS_l1.ok (a1 : (List File)) (q : Wd) (kn : (List File) → Option (D × List Ent)) (hk : ∀ v : (List File), J (q.g Tryz.prog 120 0 23) c120 (atI c120 15) (St.mk' [(3, rr 0 v)] [(0, rE 2 (File.enc true) v)]) (some v) kn) :
    ∀ s11 : ((List File) × Int), J (q.g Tryz.prog 120 0 23) c120 (atI c120 116) (St.mk' [(0, sl 2 (File.enc false) a1), (3, rr 0 s11.1), (4, iv s11.2)] [(0, rE 2 (File.enc true) s11.1)]) (laws_toFileS_l1 a1 s11) kn := by
  refine J_lp (fun g ih s11 => ?_)
  unfold laws_toFileS_l1b
  refine J_g 464 [] [(0, sl 2 (File.enc false) a1), (3, rr 0 s11.1), (4, iv s11.2), (11, bv (decide (s11.2 < (a1.length : Int))))] [(0, rE 2 (File.enc true) s11.1)] orcN ?_
  refine J_if2 11 (fun h12 => ?_) (fun h12 => ?_)
  · refine J_bind (fun x13 h14 => ?_)
    refine J_bind (fun x15 h16 => ?_)
    refine J_bind (fun x17 h18 => ?_)
    refine J_g 932 [] [(0, sl 2 (File.enc false) a1), (3, rr 0 s11.1), (4, iv s11.2)] [(0, rE 2 (File.enc true) (s11.1.set s11.2.toNat x15))] (orcC 4 (x_ix (kk := .i64) 71 245 2 (File.enc false) (.tmp 16) (.tmp 17) h14) (orcC 6 (x_c1 («as» := [.ag (File.enc false x13)]) [(.tmp 19)] [245] false [] [] (.cons (.same rfl) (.nil)) (laws_toFile.ok x13) h16 (.ag (.cons (.same rfl rfl) (.cons (.own 1) (.nil))))) (orcC 7 (x_ixr (kk := .i64) 27 175 2 0 (File.enc true) (.tmp 14) (.tmp 15) h18) (orcD 8 (x_stm (b := x15) (es' := [sv x15.Path, so 1 eU8 x15.Data]) (ts := [1]) 175 2 0 0 (File.enc true) (.ag [sv x15.Path, rr 1 x15.Data]) (.tmp 21) (.tmp 20) [(1, rE 1 eU8 x15.Data)] h18 (.keep rfl (.move (.head _) (List.length_map _) (by decide) (.nil))) rfl) orcN)))) ?_
    refine J_st (σ' := St.mk' [(0, sl 2 (File.enc false) a1), (3, rr 0 (s11.1.set s11.2.toNat x15)), (4, iv s11.2)] [(0, rE 2 (File.enc true) (s11.1.set s11.2.toNat x15))]) (by simp only [rr, List.length_set]) ?_
    refine J_g 467 [] [(0, sl 2 (File.enc false) a1), (3, rr 0 (s11.1.set s11.2.toNat x15)), (4, iv (w64 (s11.2 + 1)))] [(0, rE 2 (File.enc true) (s11.1.set s11.2.toNat x15))] orcN ?_
    exact J_q (J_b (ih (s11.1.set s11.2.toNat x15, w64 (s11.2 + 1)))) rfl
  · exact J_qw (hk s11.1) rfl

theorem laws_toFileS.ok (a1 : (List File)) : Ok Tryz.prog 120 [sl 2 (File.enc false) a1] [] ((laws_toFileS a1).map fun r => (so 2 (File.enc true) r, [])) := by
  refine Ok_of3 c120 Tryz.f120 0 23 (fun q => ?_)
  unfold laws_toFileS
  refine J_g 2 [] [(0, sl 2 (File.enc false) a1)] [] orcN ?_
  refine J_bind (fun x2 h3 => ?_)
  refine J_g 6 [] [(0, sl 2 (File.enc false) a1), (3, rr 0 x2)] [(0, rE 2 (File.enc true) x2)] (orcC 2 (x_mk 27 175 2 40 0 (File.enc true) ({ Path := ByteArray.empty, Data := ([] : List Int) } : File) (.tmp 6) h3 (.keep rfl (.nilsl true 1 (.nil)))) orcN) ?_
  refine J_g 28 [] [(0, sl 2 (File.enc false) a1), (3, rr 0 x2), (4, iv 0)] [(0, rE 2 (File.enc true) x2)] orcN ?_
  refine J_lq (laws_toFileS_l1.ok a1 q _ (fun v19 => J_j ?_) (x2, 0))
  refine J_g 30 [] [(2, rr 0 v19)] [(0, rE 2 (File.enc true) v19)] orcN ?_
  exact J_rm (ds := [rr 0 v19]) (ds' := [so 2 (File.enc true) v19]) (.cons (.cell (.move (.head _) (List.length_map _) (by decide) (.nil))) (.nil) (by decide)) rfl

noncomputable def c41 : Code := (Tryz.f41.body).getD .skip

theorem laws_toDisk.ok (a1 : Disk) : Ok Tryz.prog 41 [.ag (Disk.enc false a1)] [] ((laws_toDisk a1).map fun r => (.ag (Disk.enc true r), [])) := by
  refine Ok_of3 c41 Tryz.f41 0 21 (fun q => ?_)
  unfold laws_toDisk
  refine J_g 2 [(0, 0), (1, 1)] [(1, pp 0), (2, pp 1)] [(0, .box (Disk.enc false a1)), (1, .box [nv, iv 0, iv 0, iv 0, bv false])] orcN ?_
  refine J_g 6 [(0, 2)] [(1, pp 0), (2, pp 1), (3, pp 2)] [(0, .box (Disk.enc false a1)), (1, .box [nv, iv 0, iv 0, iv 0, bv false]), (2, .box [nv, iv 0, iv 0, iv 0, bv false])] orcN ?_
  refine J_bind (fun x2 h3 => ?_)
  refine J_g 14 [] [(1, pp 0), (2, pp 1), (3, pp 2)] [(0, .box (Disk.enc false a1)), (1, .box [nv, iv 0, iv 0, iv 0, bv false]), (2, .box [rr 3 x2, iv 0, iv 0, iv 0, bv false]), (3, rE 2 (File.enc true) x2)] (orcC 2 (x_c1 («as» := [sl 2 (File.enc false) a1.Files]) [(.tmp 5)] [71] false [] [] (.cons (.same rfl) (.nil)) (laws_toFileS.ok a1.Files) h3 (.own 3)) orcN) ?_
  refine J_g 30 [] [(1, pp 0), (2, pp 1), (3, pp 2)] [(0, .box (Disk.enc false a1)), (1, .box [nv, iv 0, iv 0, iv 0, bv false]), (2, .box [rr 3 x2, iv a1.Budget, iv 0, iv 0, bv false]), (3, rE 2 (File.enc true) x2)] orcN ?_
  refine J_g 62 [] [(1, pp 0), (2, pp 1), (3, pp 2)] [(0, .box (Disk.enc false a1)), (1, .box [nv, iv 0, iv 0, iv 0, bv false]), (2, .box [rr 3 x2, iv a1.Budget, iv a1.Writes, iv 0, bv false]), (3, rE 2 (File.enc true) x2)] orcN ?_
  refine J_g 126 [] [(1, pp 0), (2, pp 1), (3, pp 2)] [(0, .box (Disk.enc false a1)), (1, .box [nv, iv 0, iv 0, iv 0, bv false]), (2, .box [rr 3 x2, iv a1.Budget, iv a1.Writes, iv a1.Stop, bv false]), (3, rE 2 (File.enc true) x2)] orcN ?_
  refine J_g 254 [] [(2, pp 1), (3, pp 2)] [(1, .box [nv, iv 0, iv 0, iv 0, bv false]), (2, .box [rr 3 x2, iv a1.Budget, iv a1.Writes, iv a1.Stop, bv a1.Down]), (3, rE 2 (File.enc true) x2)] orcN ?_
  refine J_g 510 [] [(2, pp 1)] [(1, .box [rr 3 x2, iv a1.Budget, iv a1.Writes, iv a1.Stop, bv a1.Down]), (3, rE 2 (File.enc true) x2)] orcN ?_
  exact J_rm (ds := [.ag [rr 3 x2, iv a1.Budget, iv a1.Writes, iv a1.Stop, bv a1.Down]]) (ds' := [.ag [so 2 (File.enc true) x2, iv a1.Budget, iv a1.Writes, iv a1.Stop, bv a1.Down]]) (.cons (.ag (.move (.tail _ (.head _)) (List.length_map _) (by decide) (.keep rfl (.keep rfl (.keep rfl (.keep rfl (.nil))))))) (.nil) (by decide)) rfl

noncomputable def c166 : Code := (Tryz.f166.body).getD .skip

theorem spec_l1Letter.ok (a1 : Int) : Ok Tryz.prog 166 [uv a1] [] ((spec_l1Letter a1).map fun r => (bv r, [])) := by
  refine Ok_of3 c166 Tryz.f166 0 9 (fun q => ?_)
  unfold spec_l1Letter
  refine J_g 2 [] [(0, uv a1)] [] orcN ?_
  refine J_ite (fun h2 => ?_) (fun h2 => ?_)
  · refine J_g 6 [] [(2, bv (decide (a1 ≤ 122)))] [] (orcL 2 [(4, bv (decide (a1 ≥ 97)))] [] h2 orcN) ?_
    exact J_r1 rfl
  · refine J_g 6 [] [(2, bv false)] [] (orcL 2 [(4, bv (decide (a1 ≥ 97)))] [] h2 orcN) ?_
    exact J_r1 rfl

noncomputable def c275 : Code := (Tryz.f275.body).getD .skip

theorem spec_l1Digit.ok (a1 : Int) : Ok Tryz.prog 275 [uv a1] [] ((spec_l1Digit a1).map fun r => (bv r, [])) := by
  refine Ok_of3 c275 Tryz.f275 0 9 (fun q => ?_)
  unfold spec_l1Digit
  refine J_g 2 [] [(0, uv a1)] [] orcN ?_
  refine J_ite (fun h2 => ?_) (fun h2 => ?_)
  · refine J_g 6 [] [(2, bv (decide (a1 ≤ 57)))] [] (orcL 2 [(4, bv (decide (a1 ≥ 48)))] [] h2 orcN) ?_
    exact J_r1 rfl
  · refine J_g 6 [] [(2, bv false)] [] (orcL 2 [(4, bv (decide (a1 ≥ 48)))] [] h2 orcN) ?_
    exact J_r1 rfl

noncomputable def c167 : Code := (Tryz.f167.body).getD .skip

theorem spec_l1Name.ok (a1 : Int) : Ok Tryz.prog 167 [uv a1] [] ((spec_l1Name a1).map fun r => (bv r, [])) := by
  refine Ok_of3 c167 Tryz.f167 0 13 (fun q => ?_)
  unfold spec_l1Name
  refine J_g 2 [] [(0, uv a1)] [] orcN ?_
  refine J_bind (fun x2 h3 => ?_)
  refine J_ite (fun h4 => ?_) (fun h4 => ?_)
  · refine J_g 6 [] [(2, bv true)] [] (orcC 1 (x_c0 [(.tmp 3)] [5] (spec_l1Letter.ok a1) h3) (orcL 2 [(4, bv x2)] [] h4 orcN)) ?_
    exact J_r1 rfl
  · refine J_bind (fun x5 h6 => ?_)
    refine J_ite (fun h7 => ?_) (fun h7 => ?_)
    · refine J_g 6 [] [(2, bv true)] [] (orcC 1 (x_c0 [(.tmp 3)] [5] (spec_l1Letter.ok a1) h3) (orcL 2 [(4, bv x2)] [] h4 (orcH 4 2 5 false (x_c0 [(.tmp 6)] [5] (spec_l1Digit.ok a1) h6) (orcL 6 [(8, bv x5)] [] h7 orcN)))) ?_
      exact J_r1 rfl
    · refine J_g 6 [] [(2, bv (a1 == 95))] [] (orcC 1 (x_c0 [(.tmp 3)] [5] (spec_l1Letter.ok a1) h3) (orcL 2 [(4, bv x2)] [] h4 (orcH 4 2 5 false (x_c0 [(.tmp 6)] [5] (spec_l1Digit.ok a1) h6) (orcL 6 [(8, bv x5)] [] h7 orcN)))) ?_
      exact J_r1 rfl

noncomputable def c78 : Code := (Tryz.f78.body).getD .skip

theorem spec_NameFault_l1.ok (a1 : ByteArray) (q : Wd) (kn : Unit → Option (D × List Ent)) (hk : ∀ v : Unit, J (q.g Tryz.prog 78 0 29) c78 (atI c78 15) (St.mk' [] []) (some v) kn) :
    ∀ s16 : Int, J (q.g Tryz.prog 78 0 29) c78 (atI c78 116) (St.mk' [(0, sv a1), (3, iv s16)] []) (spec_NameFault_l1 a1 s16) (Fl.go (fun r : Int => some (iv r, [])) kn) := by
  refine J_lp (fun g ih s16 => ?_)
  unfold spec_NameFault_l1b
  refine J_g 464 [] [(0, sv a1), (3, iv s16), (21, bv (decide (s16 < (a1.size : Int))))] [] orcN ?_
  refine J_if2 21 (fun h17 => ?_) (fun h17 => ?_)
  · refine J_bind (fun x18 h19 => ?_)
    refine J_bind (fun x20 h21 => ?_)
    refine J_g 1864 [] [(0, sv a1), (3, iv s16), (28, bv (!x20))] [] (orcC 2 (x_bi (kk := .i64) 9 (.tmp 24) (.tmp 25) h19) (orcC 3 (x_c0 [(.tmp 26)] [5] (spec_l1Name.ok x18) h21) orcN)) ?_
    refine J_if2 28 (fun h22 => ?_) (fun h22 => ?_)
    · refine J_g 7460 [] [(2, iv 5)] [] orcN ?_
      exact J_r1 rfl
    · refine J_g 467 [] [(0, sv a1), (3, iv (w64 (s16 + 1)))] [] orcN ?_
      exact J_q (J_b (ih (w64 (s16 + 1)))) rfl
  · exact J_qw (hk ()) rfl

theorem spec_NameFault.ok (a1 : ByteArray) : Ok Tryz.prog 78 [sv a1] [] ((spec_NameFault a1).map fun r => (iv r, [])) := by
  refine Ok_of3 c78 Tryz.f78 0 29 (fun q => ?_)
  unfold spec_NameFault
  refine J_g 2 [] [(0, sv a1)] [] orcN ?_
  refine J_join (atI c78 13) (fun v8 : Bool => St.mk' [(0, sv a1), (17, bv v8)] []) (fun v8 => ?_) (fun jv8 => ?_)
  · refine J_if2 17 (fun h9 => ?_) (fun h9 => ?_)
    · refine J_g 52 [] [(2, iv 5)] [] orcN ?_
      exact J_r1 rfl
    · refine J_g 28 [] [(0, sv a1), (3, iv 0)] [] orcN ?_
      refine J_lqF (K0 := (fun r : Int => some (iv r, []))) (fun _ => rfl) (spec_NameFault_l1.ok a1 q _ (fun v23 => J_j ?_) 0)
      refine J_g 30 [] [(2, iv 0)] [] orcN ?_
      exact J_r1 rfl
  · refine J_ite (fun h2 => ?_) (fun h2 => ?_)
    · refine J_g 12 [] [(0, sv a1), (17, bv true)] [] (orcL 3 [(6, bv (decide ((a1.size : Int) < 1)))] [] h2 orcN) ?_
      exact J_qw (J_j (jv8 true)) rfl
    · refine J_ite (fun h3 => ?_) (fun h3 => ?_)
      · refine J_g 12 [] [(0, sv a1), (17, bv true)] [] (orcL 3 [(6, bv (decide ((a1.size : Int) < 1)))] [] h2 (orcL 8 [(11, bv (decide ((a1.size : Int) > 12)))] [] h3 orcN)) ?_
        exact J_qw (J_j (jv8 true)) rfl
      · refine J_bind (fun x4 h5 => ?_)
        refine J_bind (fun x6 h7 => ?_)
        refine J_g 12 [] [(0, sv a1), (17, bv (!x6))] [] (orcL 3 [(6, bv (decide ((a1.size : Int) < 1)))] [] h2 (orcL 8 [(11, bv (decide ((a1.size : Int) > 12)))] [] h3 (orcH 10 8 12 false (x_bi (kk := .i64) 9 (.tmp 13) (.const (.int .i64 0)) h5) (orcH 11 8 12 false (x_c0 [(.tmp 14)] [5] (spec_l1Letter.ok x4) h7) orcN)))) ?_
        exact J_qw (J_j (jv8 (!x6))) rfl

noncomputable def c168 : Code := (Tryz.f168.body).getD .skip

theorem spec_l1In.ok (a1 : Int) (a2 : Int) (a3 : Int) : Ok Tryz.prog 168 [iv a1, iv a2, iv a3] [] ((spec_l1In a1 a2 a3).map fun r => (bv r, [])) := by
  refine Ok_of3 c168 Tryz.f168 0 15 (fun q => ?_)
  unfold spec_l1In
  refine J_g 2 [] [(0, iv a1), (1, iv a2), (2, iv a3)] [] orcN ?_
  refine J_ite (fun h4 => ?_) (fun h4 => ?_)
  · refine J_g 6 [] [(6, bv (decide (a1 ≤ a3)))] [] (orcL 3 [(9, bv (decide (a1 ≥ a2)))] [] h4 orcN) ?_
    exact J_r1 rfl
  · refine J_g 6 [] [(6, bv false)] [] (orcL 3 [(9, bv (decide (a1 ≥ a2)))] [] h4 orcN) ?_
    exact J_r1 rfl

noncomputable def c79 : Code := (Tryz.f79.body).getD .skip

theorem spec_VersionFault.ok (a1 : Version) : Ok Tryz.prog 79 [.ag (Version.enc a1)] [] ((spec_VersionFault a1).map fun r => (iv r, [])) := by
  refine Ok_of3 c79 Tryz.f79 0 19 (fun q => ?_)
  unfold spec_VersionFault
  refine J_g 2 [(0, 0)] [(1, pp 0)] [(0, .box (Version.enc a1))] orcN ?_
  refine J_bind (fun x2 h3 => ?_)
  refine J_join (atI c79 13) (fun v10 : Bool => St.mk' [(18, bv v10)] []) (fun v10 => ?_) (fun jv10 => ?_)
  · refine J_if2 18 (fun h11 => ?_) (fun h11 => ?_)
    · refine J_g 52 [] [(2, iv 3)] [] orcN ?_
      exact J_r1 rfl
    · refine J_g 14 [] [(2, iv 0)] [] orcN ?_
      exact J_r1 rfl
  · refine J_ite (fun h4 => ?_) (fun h4 => ?_)
    · refine J_g 12 [] [(18, bv true)] [] (orcC 2 (x_c0 [(.tmp 4), (.const (.int .i64 0)), (.const (.int .i64 999))] [2, 2, 2] (spec_l1In.ok a1.A 0 999) h3) (orcL 4 [(6, bv (!x2))] [] h4 orcN)) ?_
      exact J_qw (J_j (jv10 true)) rfl
    · refine J_bind (fun x5 h6 => ?_)
      refine J_ite (fun h7 => ?_) (fun h7 => ?_)
      · refine J_g 12 [] [(18, bv true)] [] (orcC 2 (x_c0 [(.tmp 4), (.const (.int .i64 0)), (.const (.int .i64 999))] [2, 2, 2] (spec_l1In.ok a1.A 0 999) h3) (orcL 4 [(6, bv (!x2))] [] h4 (orcH 7 4 7 false (x_c0 [(.tmp 9), (.const (.int .i64 0)), (.const (.int .i64 999))] [2, 2, 2] (spec_l1In.ok a1.B 0 999) h6) (orcL 10 [(12, bv (!x5))] [] h7 orcN)))) ?_
        exact J_qw (J_j (jv10 true)) rfl
      · refine J_bind (fun x8 h9 => ?_)
        refine J_g 12 [] [(18, bv (!x8))] [] (orcC 2 (x_c0 [(.tmp 4), (.const (.int .i64 0)), (.const (.int .i64 999))] [2, 2, 2] (spec_l1In.ok a1.A 0 999) h3) (orcL 4 [(6, bv (!x2))] [] h4 (orcH 7 4 7 false (x_c0 [(.tmp 9), (.const (.int .i64 0)), (.const (.int .i64 999))] [2, 2, 2] (spec_l1In.ok a1.B 0 999) h6) (orcL 10 [(12, bv (!x5))] [] h7 (orcH 13 10 13 false (x_c0 [(.tmp 15), (.const (.int .i64 0)), (.const (.int .i64 999))] [2, 2, 2] (spec_l1In.ok a1.C 0 999) h9) orcN))))) ?_
        exact J_qw (J_j (jv10 (!x8))) rfl

noncomputable def c240 : Code := (Tryz.f240.body).getD .skip

theorem spec_l2Holds_l1.ok (a1 : (List ByteArray)) (a2 : ByteArray) (q : Wd) (kn : Unit → Option (D × List Ent)) (hk : ∀ v : Unit, J (q.g Tryz.prog 240 0 18) c240 (atI c240 7) (St.mk' [] []) (some v) kn) :
    ∀ s7 : Int, J (q.g Tryz.prog 240 0 18) c240 (atI c240 52) (St.mk' [(0, sl 1 eStr a1), (1, sv a2), (5, iv s7)] []) (spec_l2Holds_l1 a1 a2 s7) (Fl.go (fun r : Bool => some (bv r, [])) kn) := by
  refine J_lp (fun g ih s7 => ?_)
  unfold spec_l2Holds_l1b
  refine J_g 208 [] [(0, sl 1 eStr a1), (1, sv a2), (5, iv s7), (9, bv (decide (s7 < (a1.length : Int))))] [] orcN ?_
  refine J_if2 9 (fun h8 => ?_) (fun h8 => ?_)
  · refine J_bind (fun x9 h10 => ?_)
    refine J_g 840 [] [(0, sl 1 eStr a1), (1, sv a2), (5, iv s7), (17, bv (seq x9 a2))] [] (orcC 2 (x_ix (kk := .i64) 94 9 1 eStr (.tmp 12) (.tmp 13) h10) orcN) ?_
    refine J_if2 17 (fun h11 => ?_) (fun h11 => ?_)
    · refine J_g 3364 [] [(4, bv true)] [] orcN ?_
      exact J_r1 rfl
    · refine J_g 211 [] [(0, sl 1 eStr a1), (1, sv a2), (5, iv (w64 (s7 + 1)))] [] orcN ?_
      exact J_q (J_b (ih (w64 (s7 + 1)))) rfl
  · exact J_qw (hk ()) rfl

theorem spec_l2Holds.ok (a1 : (List ByteArray)) (a2 : ByteArray) : Ok Tryz.prog 240 [sl 1 eStr a1, sv a2] [] ((spec_l2Holds a1 a2).map fun r => (bv r, [])) := by
  refine Ok_of3 c240 Tryz.f240 0 18 (fun q => ?_)
  unfold spec_l2Holds
  refine J_g 2 [] [(0, sl 1 eStr a1), (1, sv a2)] [] orcN ?_
  refine J_g 12 [] [(0, sl 1 eStr a1), (1, sv a2), (5, iv 0)] [] orcN ?_
  refine J_lqF (K0 := (fun r : Bool => some (bv r, []))) (fun _ => rfl) (spec_l2Holds_l1.ok a1 a2 q _ (fun v12 => J_j ?_) 0)
  refine J_g 14 [] [(4, bv false)] [] orcN ?_
  exact J_r1 rfl

noncomputable def c80 : Code := (Tryz.f80.body).getD .skip

theorem spec_l1Top.ok  : Ok Tryz.prog 80 [] [] ((spec_l1Top).map fun r => (.ag (Version.enc r), [])) := by
  refine Ok_of3 c80 Tryz.f80 0 2 (fun q => ?_)
  unfold spec_l1Top
  refine J_g 2 [(0, 0)] [(0, pp 0)] [(0, .box [iv 0, iv 0, iv 0])] orcN ?_
  refine J_g 6 [] [(0, pp 0)] [(0, .box [iv 1000, iv 0, iv 0])] orcN ?_
  exact J_r1 rfl

noncomputable def c169 : Code := (Tryz.f169.body).getD .skip

theorem spec_l1Sign.ok (a1 : Int) (a2 : Int) : Ok Tryz.prog 169 [iv a1, iv a2] [] ((spec_l1Sign a1 a2).map fun r => (iv r, [])) := by
  refine Ok_of3 c169 Tryz.f169 0 11 (fun q => ?_)
  unfold spec_l1Sign
  refine J_g 2 [] [(0, iv a1), (1, iv a2)] [] orcN ?_
  refine J_g 12 [] [(0, iv a1), (1, iv a2), (7, bv (decide (a1 < a2)))] [] orcN ?_
  refine J_if2 7 (fun h3 => ?_) (fun h3 => ?_)
  · refine J_g 52 [] [(4, iv (-1))] [] orcN ?_
    exact J_r1 rfl
  · refine J_g 28 [] [(10, bv (decide (a1 > a2)))] [] orcN ?_
    refine J_if2 10 (fun h4 => ?_) (fun h4 => ?_)
    · refine J_g 116 [] [(4, iv 1)] [] orcN ?_
      exact J_r1 rfl
    · refine J_g 30 [] [(4, iv 0)] [] orcN ?_
      exact J_r1 rfl

noncomputable def c81 : Code := (Tryz.f81.body).getD .skip

theorem spec_CompareVersions.ok (a1 : Version) (a2 : Version) : Ok Tryz.prog 81 [.ag (Version.enc a1), .ag (Version.enc a2)] [] ((spec_CompareVersions a1 a2).map fun r => (iv r, [])) := by
  refine Ok_of3 c81 Tryz.f81 0 28 (fun q => ?_)
  unfold spec_CompareVersions
  refine J_g 2 [(0, 0), (1, 1)] [(2, pp 0), (3, pp 1)] [(0, .box (Version.enc a1)), (1, .box (Version.enc a2))] orcN ?_
  refine J_bind (fun x3 h4 => ?_)
  refine J_g 12 [] [(2, pp 0), (3, pp 1), (5, iv x3)] [(0, .box (Version.enc a1)), (1, .box (Version.enc a2))] (orcC 4 (x_c0 [(.tmp 8), (.tmp 10)] [2, 2] (spec_l1Sign.ok a1.A a2.A) h4) orcN) ?_
  refine J_g 26 [] [(2, pp 0), (3, pp 1), (5, iv x3), (13, bv (x3 != 0))] [(0, .box (Version.enc a1)), (1, .box (Version.enc a2))] orcN ?_
  refine J_if2 13 (fun h5 => ?_) (fun h5 => ?_)
  · refine J_g 108 [] [(4, iv x3)] [] orcN ?_
    exact J_r1 rfl
  · refine J_bind (fun x6 h7 => ?_)
    refine J_g 28 [] [(2, pp 0), (3, pp 1), (6, iv x6)] [(0, .box (Version.enc a1)), (1, .box (Version.enc a2))] (orcC 4 (x_c0 [(.tmp 16), (.tmp 18)] [2, 2] (spec_l1Sign.ok a1.B a2.B) h7) orcN) ?_
    refine J_g 58 [] [(2, pp 0), (3, pp 1), (6, iv x6), (21, bv (x6 != 0))] [(0, .box (Version.enc a1)), (1, .box (Version.enc a2))] orcN ?_
    refine J_if2 21 (fun h8 => ?_) (fun h8 => ?_)
    · refine J_g 236 [] [(4, iv x6)] [] orcN ?_
      exact J_r1 rfl
    · refine J_bind (fun x9 h10 => ?_)
      refine J_g 30 [] [(4, iv x9)] [] (orcC 4 (x_c0 [(.tmp 24), (.tmp 26)] [2, 2] (spec_l1Sign.ok a1.C a2.C) h10) orcN) ?_
      exact J_r1 rfl

noncomputable def c18 : Code := (Tryz.f18.body).getD .skip

theorem spec_TermFault.ok (a1 : Term) : Ok Tryz.prog 18 [.ag (Term.enc a1)] [] ((spec_TermFault a1).map fun r => (iv r, [])) := by
  refine Ok_of3 c18 Tryz.f18 0 33 (fun q => ?_)
  unfold spec_TermFault
  refine J_g 2 [(0, 0)] [(1, pp 0)] [(0, .box (Term.enc a1))] orcN ?_
  refine J_bind (fun x2 h3 => ?_)
  refine J_g 12 [] [(1, pp 0), (3, iv x2)] [(0, .box (Term.enc a1))] (orcC 2 (x_c0 [(.tmp 6)] [9] (spec_NameFault.ok a1.Name) h3) orcN) ?_
  refine J_g 26 [] [(1, pp 0), (3, iv x2), (9, bv (x2 != 0))] [(0, .box (Term.enc a1))] orcN ?_
  refine J_if2 9 (fun h4 => ?_) (fun h4 => ?_)
  · refine J_g 108 [] [(2, iv x2)] [] orcN ?_
    exact J_r1 rfl
  · refine J_bind (fun x5 h6 => ?_)
    refine J_g 28 [] [(1, pp 0), (4, iv x5)] [(0, .box (Term.enc a1))] (orcC 2 (x_c0 [(.tmp 12)] [39] (spec_VersionFault.ok a1.Low) h6) orcN) ?_
    refine J_g 58 [] [(1, pp 0), (4, iv x5), (15, bv (x5 != 0))] [(0, .box (Term.enc a1))] orcN ?_
    refine J_if2 15 (fun h7 => ?_) (fun h7 => ?_)
    · refine J_g 236 [] [(2, iv x5)] [] orcN ?_
      exact J_r1 rfl
    · refine J_bind (fun x8 h9 => ?_)
      refine J_join (atI c18 61) (fun v13 : Bool => St.mk' [(1, pp 0), (26, bv v13)] [(0, .box (Term.enc a1))]) (fun v13 => ?_) (fun jv13 => ?_)
      · refine J_if2 26 (fun h14 => ?_) (fun h14 => ?_)
        · refine J_g 244 [] [(2, iv 3)] [] orcN ?_
          exact J_r1 rfl
        · refine J_bind (fun x15 h16 => ?_)
          refine J_g 124 [] [(32, bv (decide (x15 ≥ 0)))] [] (orcC 4 (x_c0 [(.tmp 28), (.tmp 30)] [39, 39] (spec_CompareVersions.ok a1.Low a1.High) h16) orcN) ?_
          refine J_if2 32 (fun h17 => ?_) (fun h17 => ?_)
          · refine J_g 500 [] [(2, iv 1)] [] orcN ?_
            exact J_r1 rfl
          · refine J_g 126 [] [(2, iv 0)] [] orcN ?_
            exact J_r1 rfl
      · refine J_ite (fun h10 => ?_) (fun h10 => ?_)
        · refine J_bind (fun x11 h12 => ?_)
          refine J_g 60 [] [(1, pp 0), (26, bv (x11 != 0))] [(0, .box (Term.enc a1))] (orcC 2 (x_c0 [] [] (spec_l1Top.ok) h9) (orcC 3 (x_seq (b := .neq) (r := (a1.High.A == x8.A && (a1.High.B == x8.B && (a1.High.C == x8.C && true)))) 39 39 (.tmp 18) (.tmp 19) [.int .i64 a1.High.A, .int .i64 a1.High.B, .int .i64 a1.High.C] [.int .i64 x8.A, .int .i64 x8.B, .int .i64 x8.C] (.inr ⟨rfl, rfl⟩)) (orcL 4 [(20, bv (!(a1.High.A == x8.A && (a1.High.B == x8.B && (a1.High.C == x8.C && true)))))] [] h10 (orcH 7 4 21 true (x_c0 [(.tmp 23)] [39] (spec_VersionFault.ok a1.High) h12) orcN)))) ?_
          exact J_qw (J_j (jv13 (x11 != 0))) rfl
        · refine J_g 60 [] [(1, pp 0), (26, bv false)] [(0, .box (Term.enc a1))] (orcC 2 (x_c0 [] [] (spec_l1Top.ok) h9) (orcC 3 (x_seq (b := .neq) (r := (a1.High.A == x8.A && (a1.High.B == x8.B && (a1.High.C == x8.C && true)))) 39 39 (.tmp 18) (.tmp 19) [.int .i64 a1.High.A, .int .i64 a1.High.B, .int .i64 a1.High.C] [.int .i64 x8.A, .int .i64 x8.B, .int .i64 x8.C] (.inr ⟨rfl, rfl⟩)) (orcL 4 [(20, bv (!(a1.High.A == x8.A && (a1.High.B == x8.B && (a1.High.C == x8.C && true)))))] [] h10 orcN))) ?_
          exact J_qw (J_j (jv13 false)) rfl

noncomputable def c112 : Code := (Tryz.f112.body).getD .skip

theorem spec_l2Terms_l1.ok (a1 : (List Term)) (q : Wd) (kn : Unit → Option (D × List Ent)) (hk : ∀ v : Unit, J (q.g Tryz.prog 112 0 19) c112 (atI c112 7) (St.mk' [] []) (some v) kn) :
    ∀ s8 : Int, J (q.g Tryz.prog 112 0 19) c112 (atI c112 52) (St.mk' [(0, sl 7 Term.enc a1), (3, iv s8)] []) (spec_l2Terms_l1 a1 s8) (Fl.go (fun r : Int => some (iv r, [])) kn) := by
  refine J_lp (fun g ih s8 => ?_)
  unfold spec_l2Terms_l1b
  refine J_g 208 [] [(0, sl 7 Term.enc a1), (3, iv s8), (8, bv (decide (s8 < (a1.length : Int))))] [] orcN ?_
  refine J_if2 8 (fun h9 => ?_) (fun h9 => ?_)
  · refine J_bind (fun x10 h11 => ?_)
    refine J_bind (fun x12 h13 => ?_)
    refine J_g 840 [] [(0, sl 7 Term.enc a1), (3, iv s8), (4, iv x12)] [] (orcC 2 (x_ix (kk := .i64) 24 41 7 Term.enc (.tmp 11) (.tmp 12) h11) (orcC 4 (x_c0 [(.tmp 14)] [41] (spec_TermFault.ok x10) h13) orcN)) ?_
    refine J_g 1682 [] [(0, sl 7 Term.enc a1), (3, iv s8), (4, iv x12), (17, bv (x12 != 0))] [] orcN ?_
    refine J_if2 17 (fun h14 => ?_) (fun h14 => ?_)
    · refine J_g 6732 [] [(2, iv x12)] [] orcN ?_
      exact J_r1 rfl
    · refine J_g 211 [] [(0, sl 7 Term.enc a1), (3, iv (w64 (s8 + 1)))] [] orcN ?_
      exact J_q (J_b (ih (w64 (s8 + 1)))) rfl
  · exact J_qw (hk ()) rfl

theorem spec_l2Terms.ok (a1 : (List Term)) : Ok Tryz.prog 112 [sl 7 Term.enc a1] [] ((spec_l2Terms a1).map fun r => (iv r, [])) := by
  refine Ok_of3 c112 Tryz.f112 0 19 (fun q => ?_)
  unfold spec_l2Terms
  refine J_g 2 [] [(0, sl 7 Term.enc a1)] [] orcN ?_
  refine J_g 12 [] [(0, sl 7 Term.enc a1), (3, iv 0)] [] orcN ?_
  refine J_lqF (K0 := (fun r : Int => some (iv r, []))) (fun _ => rfl) (spec_l2Terms_l1.ok a1 q _ (fun v15 => J_j ?_) 0)
  refine J_g 14 [] [(2, iv 0)] [] orcN ?_
  exact J_r1 rfl

noncomputable def c176 : Code := (Tryz.f176.body).getD .skip

theorem spec_PackFault_l3.ok (a1 : Pack) (q : Wd) (kn : Unit → Option (D × List Ent)) (hk : ∀ v : Unit, J (q.g Tryz.prog 176 0 118) c176 (atI c176 511) (St.mk' [(1, pp 0)] [(0, .box (Pack.enc false a1))]) (some v) kn) :
    ∀ s70 : Int, J (q.g Tryz.prog 176 0 118) c176 (atI c176 4084) (St.mk' [(1, pp 0), (8, iv s70)] [(0, .box (Pack.enc false a1))]) (spec_PackFault_l3 a1 s70) (Fl.go (fun r : Int => some (iv r, [])) kn) := by
  refine J_lp (fun g ih s70 => ?_)
  unfold spec_PackFault_l3b
  refine J_g 16336 [] [(1, pp 0), (8, iv s70), (96, bv (decide (s70 < (a1.Needs.length : Int))))] [(0, .box (Pack.enc false a1))] orcN ?_
  refine J_if2 96 (fun h71 => ?_) (fun h71 => ?_)
  · refine J_bind (fun x72 h73 => ?_)
    refine J_g 130704 [] [(1, pp 0), (8, iv s70), (105, bv ((x72.length : Int) == 0))] [(0, .box (Pack.enc false a1))] (orcC 3 (x_ix (kk := .i64) 130 24 1 (eSl false 7 Term.enc) (.tmp 100) (.tmp 101) h73) orcN) ?_
    refine J_if2 105 (fun h74 => ?_) (fun h74 => ?_)
    · refine J_g 522820 [] [(2, iv 1)] [] orcN ?_
      exact J_r1 rfl
    · refine J_bind (fun x75 h76 => ?_)
      refine J_bind (fun x77 h78 => ?_)
      refine J_g 130706 [] [(1, pp 0), (8, iv s70), (9, iv x77)] [(0, .box (Pack.enc false a1))] (orcC 3 (x_ix (kk := .i64) 130 24 1 (eSl false 7 Term.enc) (.tmp 107) (.tmp 108) h76) (orcC 5 (x_c0 [(.tmp 110)] [24] (spec_l2Terms.ok x75) h78) orcN)) ?_
      refine J_g 261414 [] [(1, pp 0), (8, iv s70), (9, iv x77), (113, bv (x77 != 0))] [(0, .box (Pack.enc false a1))] orcN ?_
      refine J_if2 113 (fun h79 => ?_) (fun h79 => ?_)
      · refine J_g 1045660 [] [(2, iv x77)] [] orcN ?_
        exact J_r1 rfl
      · refine J_g 16339 [] [(1, pp 0), (8, iv (w64 (s70 + 1)))] [(0, .box (Pack.enc false a1))] orcN ?_
        exact J_q (J_b (ih (w64 (s70 + 1)))) rfl
  · exact J_qw (hk ()) rfl

theorem spec_PackFault_l2.ok (a1 : Pack) (q : Wd) (kn : Unit → Option (D × List Ent)) (hk : ∀ v : Unit, J (q.g Tryz.prog 176 0 118) c176 (atI c176 255) (St.mk' [(1, pp 0)] [(0, .box (Pack.enc false a1))]) (some v) kn) :
    ∀ s42 : Int, J (q.g Tryz.prog 176 0 118) c176 (atI c176 2036) (St.mk' [(1, pp 0), (6, iv s42)] [(0, .box (Pack.enc false a1))]) (spec_PackFault_l2 a1 s42) (Fl.go (fun r : Int => some (iv r, [])) kn) := by
  refine J_lp (fun g ih s42 => ?_)
  unfold spec_PackFault_l2b
  refine J_g 8144 [] [(1, pp 0), (6, iv s42), (60, bv (decide (s42 < (a1.Provides.length : Int))))] [(0, .box (Pack.enc false a1))] orcN ?_
  refine J_if2 60 (fun h43 => ?_) (fun h43 => ?_)
  · refine J_bind (fun x44 h45 => ?_)
    refine J_bind (fun x46 h47 => ?_)
    refine J_g 65168 [] [(1, pp 0), (6, iv s42), (7, iv x46)] [(0, .box (Pack.enc false a1))] (orcC 3 (x_ix (kk := .i64) 94 9 1 eStr (.tmp 64) (.tmp 65) h45) (orcC 5 (x_c0 [(.tmp 67)] [9] (spec_NameFault.ok x44) h47) orcN)) ?_
    refine J_g 130338 [] [(1, pp 0), (6, iv s42), (7, iv x46), (70, bv (x46 != 0))] [(0, .box (Pack.enc false a1))] orcN ?_
    refine J_if2 70 (fun h48 => ?_) (fun h48 => ?_)
    · refine J_g 521356 [] [(2, iv x46)] [] orcN ?_
      exact J_r1 rfl
    · refine J_bind (fun x49 h50 => ?_)
      refine J_join (atI c176 65171) (fun v58 : Bool => St.mk' [(1, pp 0), (6, iv s42), (91, bv v58)] [(0, .box (Pack.enc false a1))]) (fun v58 => ?_) (fun jv58 => ?_)
      · refine J_if2 91 (fun h59 => ?_) (fun h59 => ?_)
        · refine J_g 260684 [] [(2, iv 6)] [] orcN ?_
          exact J_r1 rfl
        · refine J_g 8147 [] [(1, pp 0), (6, iv (w64 (s42 + 1)))] [(0, .box (Pack.enc false a1))] orcN ?_
          exact J_q (J_b (ih (w64 (s42 + 1)))) rfl
      · refine J_ite (fun h51 => ?_) (fun h51 => ?_)
        · refine J_g 65170 [] [(1, pp 0), (6, iv s42), (91, bv true)] [(0, .box (Pack.enc false a1))] (orcC 3 (x_ix (kk := .i64) 94 9 1 eStr (.tmp 73) (.tmp 74) h50) (orcL 8 [(79, bv (seq x49 a1.Name))] [] h51 orcN)) ?_
          exact J_qw (J_j (jv58 true)) rfl
        · refine J_bind (fun x52 h53 => ?_)
          refine J_bind (fun x54 h55 => ?_)
          refine J_bind (fun x56 h57 => ?_)
          refine J_g 65170 [] [(1, pp 0), (6, iv s42), (91, bv x56)] [(0, .box (Pack.enc false a1))] (orcC 3 (x_ix (kk := .i64) 94 9 1 eStr (.tmp 73) (.tmp 74) h50) (orcL 8 [(79, bv (seq x49 a1.Name))] [] h51 (orcH 12 8 80 false (x_ls 94 9 1 eStr (.tmp 82) none (some (.tmp 83)) h53) (orcH 16 8 80 false (x_ix (kk := .i64) 94 9 1 eStr (.tmp 86) (.tmp 87) h55) (orcH 18 8 80 false (x_c0 [(.tmp 84), (.tmp 89)] [94, 9] (spec_l2Holds.ok x52 x54) h57) orcN))))) ?_
          exact J_qw (J_j (jv58 x56)) rfl
  · exact J_qw (hk ()) rfl

theorem spec_PackFault_l1.ok (a1 : Pack) (q : Wd) (kn : Unit → Option (D × List Ent)) (hk : ∀ v : Unit, J (q.g Tryz.prog 176 0 118) c176 (atI c176 127) (St.mk' [(1, pp 0)] [(0, .box (Pack.enc false a1))]) (some v) kn) :
    ∀ s19 : Int, J (q.g Tryz.prog 176 0 118) c176 (atI c176 1012) (St.mk' [(1, pp 0), (5, iv s19)] [(0, .box (Pack.enc false a1))]) (spec_PackFault_l1 a1 s19) (Fl.go (fun r : Int => some (iv r, [])) kn) := by
  refine J_lp (fun g ih s19 => ?_)
  unfold spec_PackFault_l1b
  refine J_g 4048 [] [(1, pp 0), (5, iv s19), (46, bv (decide (s19 < (a1.Needs.length : Int))))] [(0, .box (Pack.enc false a1))] orcN ?_
  refine J_if2 46 (fun h20 => ?_) (fun h20 => ?_)
  · refine J_bind (fun x21 h22 => ?_)
    refine J_g 16200 [] [(1, pp 0), (5, iv s19), (55, bv (decide ((x21.length : Int) > 4)))] [(0, .box (Pack.enc false a1))] (orcC 3 (x_ix (kk := .i64) 130 24 1 (eSl false 7 Term.enc) (.tmp 50) (.tmp 51) h22) orcN) ?_
    refine J_if2 55 (fun h23 => ?_) (fun h23 => ?_)
    · refine J_g 64804 [] [(2, iv 2)] [] orcN ?_
      exact J_r1 rfl
    · refine J_g 4051 [] [(1, pp 0), (5, iv (w64 (s19 + 1)))] [(0, .box (Pack.enc false a1))] orcN ?_
      exact J_q (J_b (ih (w64 (s19 + 1)))) rfl
  · exact J_qw (hk ()) rfl

theorem spec_PackFault.ok (a1 : Pack) : Ok Tryz.prog 176 [.ag (Pack.enc false a1)] [] ((spec_PackFault a1).map fun r => (iv r, [])) := by
  refine Ok_of3 c176 Tryz.f176 0 118 (fun q => ?_)
  unfold spec_PackFault
  refine J_g 2 [(0, 0)] [(1, pp 0)] [(0, .box (Pack.enc false a1))] orcN ?_
  refine J_bind (fun x2 h3 => ?_)
  refine J_g 12 [] [(1, pp 0), (3, iv x2)] [(0, .box (Pack.enc false a1))] (orcC 2 (x_c0 [(.tmp 11)] [9] (spec_NameFault.ok a1.Name) h3) orcN) ?_
  refine J_g 26 [] [(1, pp 0), (3, iv x2), (14, bv (x2 != 0))] [(0, .box (Pack.enc false a1))] orcN ?_
  refine J_if2 14 (fun h4 => ?_) (fun h4 => ?_)
  · refine J_g 108 [] [(2, iv x2)] [] orcN ?_
    exact J_r1 rfl
  · refine J_bind (fun x5 h6 => ?_)
    refine J_g 28 [] [(1, pp 0), (4, iv x5)] [(0, .box (Pack.enc false a1))] (orcC 2 (x_c0 [(.tmp 17)] [39] (spec_VersionFault.ok a1.Version) h6) orcN) ?_
    refine J_g 58 [] [(1, pp 0), (4, iv x5), (20, bv (x5 != 0))] [(0, .box (Pack.enc false a1))] orcN ?_
    refine J_if2 20 (fun h7 => ?_) (fun h7 => ?_)
    · refine J_g 236 [] [(2, iv x5)] [] orcN ?_
      exact J_r1 rfl
    · refine J_bind (fun x8 h9 => ?_)
      refine J_g 60 [] [(1, pp 0), (25, bv (!x8))] [(0, .box (Pack.enc false a1))] (orcC 2 (x_c0 [(.tmp 23), (.const (.int .i64 1)), (.const (.int .i64 200))] [2, 2, 2] (spec_l1In.ok a1.Size 1 200) h9) orcN) ?_
      refine J_if2 25 (fun h10 => ?_) (fun h10 => ?_)
      · refine J_g 244 [] [(2, iv 3)] [] orcN ?_
        exact J_r1 rfl
      · refine J_join (atI c176 125) (fun v13 : Bool => St.mk' [(1, pp 0), (41, bv v13)] [(0, .box (Pack.enc false a1))]) (fun v13 => ?_) (fun jv13 => ?_)
        · refine J_if2 41 (fun h14 => ?_) (fun h14 => ?_)
          · refine J_g 500 [] [(2, iv 2)] [] orcN ?_
            exact J_r1 rfl
          · refine J_g 252 [] [(1, pp 0), (5, iv 0)] [(0, .box (Pack.enc false a1))] orcN ?_
            refine J_lqF (K0 := (fun r : Int => some (iv r, []))) (fun _ => rfl) (spec_PackFault_l1.ok a1 q _ (fun v24 => J_j ?_) 0)
            refine J_g 508 [] [(1, pp 0), (6, iv 0)] [(0, .box (Pack.enc false a1))] orcN ?_
            refine J_lqF (K0 := (fun r : Int => some (iv r, []))) (fun _ => rfl) (spec_PackFault_l2.ok a1 q _ (fun v60 => J_j ?_) 0)
            refine J_g 1020 [] [(1, pp 0), (8, iv 0)] [(0, .box (Pack.enc false a1))] orcN ?_
            refine J_lqF (K0 := (fun r : Int => some (iv r, []))) (fun _ => rfl) (spec_PackFault_l3.ok a1 q _ (fun v80 => J_j ?_) 0)
            refine J_bind (fun x81 h82 => ?_)
            refine J_g 1022 [] [(2, iv x81)] [] (orcC 2 (x_c0 [(.tmp 116)] [24] (spec_l2Terms.ok a1.Bars) h82) orcN) ?_
            exact J_r1 rfl
        · refine J_ite (fun h11 => ?_) (fun h11 => ?_)
          · refine J_g 124 [] [(1, pp 0), (41, bv true)] [(0, .box (Pack.enc false a1))] (orcL 4 [(29, bv (decide ((a1.Provides.length : Int) > 4)))] [] h11 orcN) ?_
            exact J_qw (J_j (jv13 true)) rfl
          · refine J_ite (fun h12 => ?_) (fun h12 => ?_)
            · refine J_g 124 [] [(1, pp 0), (41, bv true)] [(0, .box (Pack.enc false a1))] (orcL 4 [(29, bv (decide ((a1.Provides.length : Int) > 4)))] [] h11 (orcL 10 [(35, bv (decide ((a1.Needs.length : Int) > 4)))] [] h12 orcN)) ?_
              exact J_qw (J_j (jv13 true)) rfl
            · refine J_g 124 [] [(1, pp 0), (41, bv (decide ((a1.Bars.length : Int) > 4)))] [(0, .box (Pack.enc false a1))] (orcL 4 [(29, bv (decide ((a1.Provides.length : Int) > 4)))] [] h11 (orcL 10 [(35, bv (decide ((a1.Needs.length : Int) > 4)))] [] h12 orcN)) ?_
              exact J_qw (J_j (jv13 (decide ((a1.Bars.length : Int) > 4)))) rfl

noncomputable def c177 : Code := (Tryz.f177.body).getD .skip

theorem spec_l2Find_l1.ok (a1 : (List Pack)) (a2 : ByteArray) (a3 : Version) (q : Wd) (kn : Unit → Option (D × List Ent)) (hk : ∀ v : Unit, J (q.g Tryz.prog 177 0 32) c177 (atI c177 7) (St.mk' [] []) (some v) kn) :
    ∀ s14 : Int, J (q.g Tryz.prog 177 0 32) c177 (atI c177 52) (St.mk' [(0, sl 8 (Pack.enc false) a1), (1, sv a2), (5, pp 0), (7, iv s14)] [(0, .box (Version.enc a3))]) (spec_l2Find_l1 a1 a2 a3 s14) (Fl.go (fun r : Int => some (iv r, [])) kn) := by
  refine J_lp (fun g ih s14 => ?_)
  unfold spec_l2Find_l1b
  refine J_g 208 [] [(0, sl 8 (Pack.enc false) a1), (1, sv a2), (5, pp 0), (7, iv s14), (11, bv (decide (s14 < (a1.length : Int))))] [(0, .box (Version.enc a3))] orcN ?_
  refine J_if2 11 (fun h15 => ?_) (fun h15 => ?_)
  · refine J_bind (fun x16 h17 => ?_)
    refine J_join (atI c177 841) (fun v23 : Bool => St.mk' [(0, sl 8 (Pack.enc false) a1), (1, sv a2), (5, pp 0), (7, iv s14), (30, bv v23)] [(0, .box (Version.enc a3))]) (fun v23 => ?_) (fun jv23 => ?_)
    · refine J_if2 30 (fun h24 => ?_) (fun h24 => ?_)
      · refine J_g 3364 [] [(6, iv s14)] [] orcN ?_
        exact J_r1 rfl
      · refine J_g 211 [] [(0, sl 8 (Pack.enc false) a1), (1, sv a2), (5, pp 0), (7, iv (w64 (s14 + 1)))] [(0, .box (Version.enc a3))] orcN ?_
        exact J_q (J_b (ih (w64 (s14 + 1)))) rfl
    · refine J_ite (fun h18 => ?_) (fun h18 => ?_)
      · refine J_bind (fun x19 h20 => ?_)
        refine J_bind (fun x21 h22 => ?_)
        refine J_g 840 [] [(0, sl 8 (Pack.enc false) a1), (1, sv a2), (5, pp 0), (7, iv s14), (30, bv (x21 == 0))] [(0, .box (Version.enc a3))] (orcC 2 (x_ix (kk := .i64) 47 132 8 (Pack.enc false) (.tmp 14) (.tmp 15) h17) (orcL 7 [(20, bv (seq x16.Name a2))] [] h18 (orcH 10 7 21 true (x_ix (kk := .i64) 47 132 8 (Pack.enc false) (.tmp 22) (.tmp 23) h20) (orcH 14 7 21 true (x_c0 [(.tmp 26), (.tmp 27)] [39, 39] (spec_CompareVersions.ok x19.Version a3) h22) orcN)))) ?_
        exact J_qw (J_j (jv23 (x21 == 0))) rfl
      · refine J_g 840 [] [(0, sl 8 (Pack.enc false) a1), (1, sv a2), (5, pp 0), (7, iv s14), (30, bv false)] [(0, .box (Version.enc a3))] (orcC 2 (x_ix (kk := .i64) 47 132 8 (Pack.enc false) (.tmp 14) (.tmp 15) h17) (orcL 7 [(20, bv (seq x16.Name a2))] [] h18 orcN)) ?_
        exact J_qw (J_j (jv23 false)) rfl
  · exact J_qw (hk ()) rfl

theorem spec_l2Find.ok (a1 : (List Pack)) (a2 : ByteArray) (a3 : Version) : Ok Tryz.prog 177 [sl 8 (Pack.enc false) a1, sv a2, .ag (Version.enc a3)] [] ((spec_l2Find a1 a2 a3).map fun r => (iv r, [])) := by
  refine Ok_of3 c177 Tryz.f177 0 32 (fun q => ?_)
  unfold spec_l2Find
  refine J_g 2 [(0, 0)] [(0, sl 8 (Pack.enc false) a1), (1, sv a2), (5, pp 0)] [(0, .box (Version.enc a3))] orcN ?_
  refine J_g 12 [] [(0, sl 8 (Pack.enc false) a1), (1, sv a2), (5, pp 0), (7, iv 0)] [(0, .box (Version.enc a3))] orcN ?_
  refine J_lqF (K0 := (fun r : Int => some (iv r, []))) (fun _ => rfl) (spec_l2Find_l1.ok a1 a2 a3 q _ (fun v25 => J_j ?_) 0)
  refine J_g 14 [] [(6, iv (-1))] [] orcN ?_
  exact J_r1 rfl

noncomputable def c85 : Code := (Tryz.f85.body).getD .skip

theorem spec_CatalogFault_l1.ok (a1 : (List Pack)) (q : Wd) (kn : Unit → Option (D × List Ent)) (hk : ∀ v : Unit, J (q.g Tryz.prog 85 0 37) c85 (atI c85 15) (St.mk' [] []) (some v) kn) :
    ∀ s18 : Int, J (q.g Tryz.prog 85 0 37) c85 (atI c85 116) (St.mk' [(0, sl 8 (Pack.enc false) a1), (3, iv s18)] []) (spec_CatalogFault_l1 a1 s18) (Fl.go (fun r : Int => some (iv r, [])) kn) := by
  refine J_lp (fun g ih s18 => ?_)
  unfold spec_CatalogFault_l1b
  refine J_g 464 [] [(0, sl 8 (Pack.enc false) a1), (3, iv s18), (11, bv (decide (s18 < (a1.length : Int))))] [] orcN ?_
  refine J_if2 11 (fun h19 => ?_) (fun h19 => ?_)
  · refine J_bind (fun x20 h21 => ?_)
    refine J_bind (fun x22 h23 => ?_)
    refine J_g 3728 [] [(0, sl 8 (Pack.enc false) a1), (3, iv s18), (4, iv x22)] [] (orcC 2 (x_ix (kk := .i64) 47 132 8 (Pack.enc false) (.tmp 14) (.tmp 15) h21) (orcC 4 (x_c0 [(.tmp 17)] [132] (spec_PackFault.ok x20) h23) orcN)) ?_
    refine J_g 7458 [] [(0, sl 8 (Pack.enc false) a1), (3, iv s18), (4, iv x22), (20, bv (x22 != 0))] [] orcN ?_
    refine J_if2 20 (fun h24 => ?_) (fun h24 => ?_)
    · refine J_g 29836 [] [(2, iv x22)] [] orcN ?_
      exact J_r1 rfl
    · refine J_bind (fun x25 h26 => ?_)
      refine J_bind (fun x27 h28 => ?_)
      refine J_bind (fun x29 h30 => ?_)
      refine J_bind (fun x31 h32 => ?_)
      refine J_g 3730 [] [(0, sl 8 (Pack.enc false) a1), (3, iv s18), (36, bv (decide (x31 ≥ 0)))] [] (orcC 2 (x_ls 47 132 8 (Pack.enc false) (.tmp 22) none (some (.tmp 23)) h26) (orcC 5 (x_ix (kk := .i64) 47 132 8 (Pack.enc false) (.tmp 25) (.tmp 26) h28) (orcC 10 (x_ix (kk := .i64) 47 132 8 (Pack.enc false) (.tmp 30) (.tmp 31) h30) (orcC 13 (x_c0 [(.tmp 24), (.tmp 29), (.tmp 34)] [47, 9, 39] (spec_l2Find.ok x25 x27.Name x29.Version) h32) orcN)))) ?_
      refine J_if2 36 (fun h33 => ?_) (fun h33 => ?_)
      · refine J_g 14924 [] [(2, iv 6)] [] orcN ?_
        exact J_r1 rfl
      · refine J_g 467 [] [(0, sl 8 (Pack.enc false) a1), (3, iv (w64 (s18 + 1)))] [] orcN ?_
        exact J_q (J_b (ih (w64 (s18 + 1)))) rfl
  · exact J_qw (hk ()) rfl

theorem spec_CatalogFault.ok (a1 : (List Pack)) : Ok Tryz.prog 85 [sl 8 (Pack.enc false) a1] [] ((spec_CatalogFault a1).map fun r => (iv r, [])) := by
  refine Ok_of3 c85 Tryz.f85 0 37 (fun q => ?_)
  unfold spec_CatalogFault
  refine J_g 2 [] [(0, sl 8 (Pack.enc false) a1)] [] orcN ?_
  refine J_g 12 [] [(0, sl 8 (Pack.enc false) a1), (7, bv (decide ((a1.length : Int) > 24)))] [] orcN ?_
  refine J_if2 7 (fun h2 => ?_) (fun h2 => ?_)
  · refine J_g 52 [] [(2, iv 2)] [] orcN ?_
    exact J_r1 rfl
  · refine J_g 28 [] [(0, sl 8 (Pack.enc false) a1), (3, iv 0)] [] orcN ?_
    refine J_lqF (K0 := (fun r : Int => some (iv r, []))) (fun _ => rfl) (spec_CatalogFault_l1.ok a1 q _ (fun v34 => J_j ?_) 0)
    refine J_g 30 [] [(2, iv 0)] [] orcN ?_
    exact J_r1 rfl

noncomputable def c360 : Code := (Tryz.f360.body).getD .skip

theorem spec_l7Byte.ok (a1 : Int) : Ok Tryz.prog 360 [uv a1] [] ((spec_l7Byte a1).map fun r => (bv r, [])) := by
  refine Ok_of3 c360 Tryz.f360 0 17 (fun q => ?_)
  unfold spec_l7Byte
  refine J_g 2 [] [(0, uv a1)] [] orcN ?_
  refine J_bind (fun x2 h3 => ?_)
  refine J_ite (fun h4 => ?_) (fun h4 => ?_)
  · refine J_g 6 [] [(2, bv true)] [] (orcC 1 (x_c0 [(.tmp 3)] [5] (spec_l1Name.ok a1) h3) (orcL 2 [(4, bv x2)] [] h4 orcN)) ?_
    exact J_r1 rfl
  · refine J_ite (fun h5 => ?_) (fun h5 => ?_)
    · refine J_g 6 [] [(2, bv true)] [] (orcC 1 (x_c0 [(.tmp 3)] [5] (spec_l1Name.ok a1) h3) (orcL 2 [(4, bv x2)] [] h4 (orcL 6 [(8, bv (a1 == 46))] [] h5 orcN))) ?_
      exact J_r1 rfl
    · refine J_ite (fun h6 => ?_) (fun h6 => ?_)
      · refine J_g 6 [] [(2, bv true)] [] (orcC 1 (x_c0 [(.tmp 3)] [5] (spec_l1Name.ok a1) h3) (orcL 2 [(4, bv x2)] [] h4 (orcL 6 [(8, bv (a1 == 46))] [] h5 (orcL 10 [(12, bv (a1 == 45))] [] h6 orcN)))) ?_
        exact J_r1 rfl
      · refine J_g 6 [] [(2, bv (a1 == 47))] [] (orcC 1 (x_c0 [(.tmp 3)] [5] (spec_l1Name.ok a1) h3) (orcL 2 [(4, bv x2)] [] h4 (orcL 6 [(8, bv (a1 == 46))] [] h5 (orcL 10 [(12, bv (a1 == 45))] [] h6 orcN)))) ?_
        exact J_r1 rfl

noncomputable def c317 : Code := (Tryz.f317.body).getD .skip

theorem spec_PathFault_l1.ok (a1 : ByteArray) (q : Wd) (kn : Unit → Option (D × List Ent)) (hk : ∀ v : Unit, J (q.g Tryz.prog 317 0 23) c317 (atI c317 15) (St.mk' [] []) (some v) kn) :
    ∀ s11 : Int, J (q.g Tryz.prog 317 0 23) c317 (atI c317 116) (St.mk' [(0, sv a1), (3, iv s11)] []) (spec_PathFault_l1 a1 s11) (Fl.go (fun r : Int => some (iv r, [])) kn) := by
  refine J_lp (fun g ih s11 => ?_)
  unfold spec_PathFault_l1b
  refine J_g 464 [] [(0, sv a1), (3, iv s11), (15, bv (decide (s11 < (a1.size : Int))))] [] orcN ?_
  refine J_if2 15 (fun h12 => ?_) (fun h12 => ?_)
  · refine J_bind (fun x13 h14 => ?_)
    refine J_bind (fun x15 h16 => ?_)
    refine J_g 1864 [] [(0, sv a1), (3, iv s11), (22, bv (!x15))] [] (orcC 2 (x_bi (kk := .i64) 9 (.tmp 18) (.tmp 19) h14) (orcC 3 (x_c0 [(.tmp 20)] [5] (spec_l7Byte.ok x13) h16) orcN)) ?_
    refine J_if2 22 (fun h17 => ?_) (fun h17 => ?_)
    · refine J_g 7460 [] [(2, iv 5)] [] orcN ?_
      exact J_r1 rfl
    · refine J_g 467 [] [(0, sv a1), (3, iv (w64 (s11 + 1)))] [] orcN ?_
      exact J_q (J_b (ih (w64 (s11 + 1)))) rfl
  · exact J_qw (hk ()) rfl

theorem spec_PathFault.ok (a1 : ByteArray) : Ok Tryz.prog 317 [sv a1] [] ((spec_PathFault a1).map fun r => (iv r, [])) := by
  refine Ok_of3 c317 Tryz.f317 0 23 (fun q => ?_)
  unfold spec_PathFault
  refine J_g 2 [] [(0, sv a1)] [] orcN ?_
  refine J_join (atI c317 13) (fun v3 : Bool => St.mk' [(0, sv a1), (11, bv v3)] []) (fun v3 => ?_) (fun jv3 => ?_)
  · refine J_if2 11 (fun h4 => ?_) (fun h4 => ?_)
    · refine J_g 52 [] [(2, iv 5)] [] orcN ?_
      exact J_r1 rfl
    · refine J_g 28 [] [(0, sv a1), (3, iv 0)] [] orcN ?_
      refine J_lqF (K0 := (fun r : Int => some (iv r, []))) (fun _ => rfl) (spec_PathFault_l1.ok a1 q _ (fun v18 => J_j ?_) 0)
      refine J_g 30 [] [(2, iv 0)] [] orcN ?_
      exact J_r1 rfl
  · refine J_ite (fun h2 => ?_) (fun h2 => ?_)
    · refine J_g 12 [] [(0, sv a1), (11, bv true)] [] (orcL 3 [(6, bv (decide ((a1.size : Int) < 1)))] [] h2 orcN) ?_
      exact J_qw (J_j (jv3 true)) rfl
    · refine J_g 12 [] [(0, sv a1), (11, bv (decide ((a1.size : Int) > 40)))] [] (orcL 3 [(6, bv (decide ((a1.size : Int) < 1)))] [] h2 orcN) ?_
      exact J_qw (J_j (jv3 (decide ((a1.size : Int) > 40)))) rfl

noncomputable def c292 : Code := (Tryz.f292.body).getD .skip

theorem spec_l7Total_l1.ok (a1 : Disk) (q : Wd) (kn : Int → Option (D × List Ent)) (hk : ∀ v : Int, J (q.g Tryz.prog 292 1 26) c292 (atI c292 15) (St.mk' [(3, iv v)] [(0, .box (Disk.enc false a1))]) (some v) kn) :
    ∀ s5 : (Int × Int), J (q.g Tryz.prog 292 1 26) c292 (atI c292 116) (St.mk' [(0, pp 0), (3, iv s5.1), (4, iv s5.2)] [(0, .box (Disk.enc false a1))]) (spec_l7Total_l1 a1 s5) kn := by
  refine J_lp (fun g ih s5 => ?_)
  unfold spec_l7Total_l1b
  refine J_g 464 [] [(0, pp 0), (3, iv s5.1), (4, iv s5.2), (11, bv (decide (s5.2 < (a1.Files.length : Int))))] [(0, .box (Disk.enc false a1))] orcN ?_
  refine J_if2 11 (fun h6 => ?_) (fun h6 => ?_)
  · refine J_bind (fun x7 h8 => ?_)
    refine J_g 932 [] [(0, pp 0), (3, iv (w64 (s5.1 + (x7.Data.length : Int)))), (4, iv s5.2)] [(0, .box (Disk.enc false a1))] (orcC 6 (x_ix (kk := .i64) 27 175 2 (File.enc false) (.tmp 18) (.tmp 19) h8) orcN) ?_
    refine J_g 467 [] [(0, pp 0), (3, iv (w64 (s5.1 + (x7.Data.length : Int)))), (4, iv (w64 (s5.2 + 1)))] [(0, .box (Disk.enc false a1))] orcN ?_
    exact J_q (J_b (ih (w64 (s5.1 + (x7.Data.length : Int)), w64 (s5.2 + 1)))) rfl
  · exact J_qw (hk s5.1) rfl

theorem spec_l7Total.ok (a1 : Disk) : Ok Tryz.prog 292 [pp 0] [.box (Disk.enc false a1)] ((spec_l7Total a1).map fun r => (iv r, [.box (Disk.enc false a1)])) := by
  refine Ok_of3 c292 Tryz.f292 1 26 (fun q => ?_)
  unfold spec_l7Total
  refine J_g 2 [] [(0, pp 0)] [(0, .box (Disk.enc false a1))] orcN ?_
  refine J_g 6 [] [(0, pp 0), (3, iv 0)] [(0, .box (Disk.enc false a1))] orcN ?_
  refine J_g 28 [] [(0, pp 0), (3, iv 0), (4, iv 0)] [(0, .box (Disk.enc false a1))] orcN ?_
  refine J_lq (spec_l7Total_l1.ok a1 q _ (fun v9 => J_j ?_) (0, 0))
  refine J_g 30 [] [(2, iv v9)] [(0, .box (Disk.enc false a1))] orcN ?_
  exact J_r1 rfl

noncomputable def c231 : Code := (Tryz.f231.body).getD .skip

theorem spec_DiskFault_l1.ok (a1 : Disk) (q : Wd) (kn : Unit → Option (D × List Ent)) (hk : ∀ v : Unit, J (q.g Tryz.prog 231 0 72) c231 (atI c231 31) (St.mk' [(1, pp 0)] [(0, .box (Disk.enc false a1))]) (some v) kn) :
    ∀ s29 : Int, J (q.g Tryz.prog 231 0 72) c231 (atI c231 244) (St.mk' [(1, pp 0), (3, iv s29)] [(0, .box (Disk.enc false a1))]) (spec_DiskFault_l1 a1 s29) (Fl.go (fun r : Int => some (iv r, [])) kn) := by
  refine J_lp (fun g ih s29 => ?_)
  unfold spec_DiskFault_l1b
  refine J_g 976 [] [(1, pp 0), (3, iv s29), (29, bv (decide (s29 < (a1.Files.length : Int))))] [(0, .box (Disk.enc false a1))] orcN ?_
  refine J_if2 29 (fun h30 => ?_) (fun h30 => ?_)
  · refine J_bind (fun x31 h32 => ?_)
    refine J_bind (fun x33 h34 => ?_)
    refine J_g 7824 [] [(1, pp 0), (3, iv s29), (4, iv x33)] [(0, .box (Disk.enc false a1))] (orcC 3 (x_ix (kk := .i64) 27 175 2 (File.enc false) (.tmp 33) (.tmp 34) h32) (orcC 6 (x_c0 [(.tmp 37)] [9] (spec_PathFault.ok x31.Path) h34) orcN)) ?_
    refine J_g 15650 [] [(1, pp 0), (3, iv s29), (4, iv x33), (40, bv (x33 != 0))] [(0, .box (Disk.enc false a1))] orcN ?_
    refine J_if2 40 (fun h35 => ?_) (fun h35 => ?_)
    · refine J_g 62604 [] [(2, iv x33)] [] orcN ?_
      exact J_r1 rfl
    · refine J_join (atI c231 15653) (fun v41 : Bool => St.mk' [(1, pp 0), (3, iv s29), (59, bv v41)] [(0, .box (Disk.enc false a1))]) (fun v41 => ?_) (fun jv41 => ?_)
      · refine J_if2 59 (fun h42 => ?_) (fun h42 => ?_)
        · refine J_g 62612 [] [(2, iv 1)] [] orcN ?_
          exact J_r1 rfl
        · refine J_bind (fun x43 h44 => ?_)
          refine J_g 15654 [] [(1, pp 0), (3, iv s29), (67, bv (decide ((x43.Data.length : Int) > 4000)))] [(0, .box (Disk.enc false a1))] (orcC 3 (x_ix (kk := .i64) 27 175 2 (File.enc false) (.tmp 61) (.tmp 62) h44) orcN) ?_
          refine J_if2 67 (fun h45 => ?_) (fun h45 => ?_)
          · refine J_g 62620 [] [(2, iv 2)] [] orcN ?_
            exact J_r1 rfl
          · refine J_g 979 [] [(1, pp 0), (3, iv (w64 (s29 + 1)))] [(0, .box (Disk.enc false a1))] orcN ?_
            exact J_q (J_b (ih (w64 (s29 + 1)))) rfl
      · refine J_ite (fun h36 => ?_) (fun h36 => ?_)
        · refine J_bind (fun x37 h38 => ?_)
          refine J_bind (fun x39 h40 => ?_)
          refine J_g 15652 [] [(1, pp 0), (3, iv s29), (59, bv (slt x37.Path x39.Path || seq x37.Path x39.Path))] [(0, .box (Disk.enc false a1))] (orcL 2 [(43, bv (decide (s29 > 0)))] [] h36 (orcH 6 2 44 true (x_ix (kk := .i64) 27 175 2 (File.enc false) (.tmp 46) (.tmp 47) h38) (orcH 13 2 44 true (x_ix (kk := .i64) 27 175 2 (File.enc false) (.tmp 52) (.tmp 54) h40) orcN))) ?_
          exact J_qw (J_j (jv41 (slt x37.Path x39.Path || seq x37.Path x39.Path))) rfl
        · refine J_g 15652 [] [(1, pp 0), (3, iv s29), (59, bv false)] [(0, .box (Disk.enc false a1))] (orcL 2 [(43, bv (decide (s29 > 0)))] [] h36 orcN) ?_
          exact J_qw (J_j (jv41 false)) rfl
  · exact J_qw (hk ()) rfl

theorem spec_DiskFault.ok (a1 : Disk) : Ok Tryz.prog 231 [.ag (Disk.enc false a1)] [] ((spec_DiskFault a1).map fun r => (iv r, [])) := by
  refine Ok_of3 c231 Tryz.f231 0 72 (fun q => ?_)
  unfold spec_DiskFault
  refine J_g 2 [(0, 0)] [(1, pp 0)] [(0, .box (Disk.enc false a1))] orcN ?_
  refine J_bind (fun x2 h3 => ?_)
  refine J_join (atI c231 13) (fun v10 : Bool => St.mk' [(1, pp 0), (20, bv v10)] [(0, .box (Disk.enc false a1))]) (fun v10 => ?_) (fun jv10 => ?_)
  · refine J_if2 20 (fun h11 => ?_) (fun h11 => ?_)
    · refine J_g 52 [] [(2, iv 3)] [] orcN ?_
      exact J_r1 rfl
    · refine J_g 28 [] [(1, pp 0), (24, bv (decide ((a1.Files.length : Int) > 120)))] [(0, .box (Disk.enc false a1))] orcN ?_
      refine J_if2 24 (fun h12 => ?_) (fun h12 => ?_)
      · refine J_g 116 [] [(2, iv 2)] [] orcN ?_
        exact J_r1 rfl
      · refine J_g 60 [] [(1, pp 0), (3, iv 0)] [(0, .box (Disk.enc false a1))] orcN ?_
        refine J_lqF (K0 := (fun r : Int => some (iv r, []))) (fun _ => rfl) (spec_DiskFault_l1.ok a1 q _ (fun v46 => J_j ?_) 0)
        refine J_bind (fun x47 h48 => ?_)
        refine J_g 124 [] [(71, bv (decide (x47 > a1.Budget)))] [] (orcC 0 (x_ro [(0, .box (Disk.enc false a1))] [] (x_c1 («as» := [pp 0]) [(.tmp 1)] [109] false [(0, .box (Disk.enc false a1))] [0] (.cons (.pt rfl) (.nil)) (spec_l7Total.ok a1) h48 (.same rfl rfl))) orcN) ?_
        refine J_if2 71 (fun h49 => ?_) (fun h49 => ?_)
        · refine J_g 500 [] [(2, iv 8)] [] orcN ?_
          exact J_r1 rfl
        · refine J_g 126 [] [(2, iv 0)] [] orcN ?_
          exact J_r1 rfl
  · refine J_ite (fun h4 => ?_) (fun h4 => ?_)
    · refine J_g 12 [] [(1, pp 0), (20, bv true)] [(0, .box (Disk.enc false a1))] (orcC 2 (x_c0 [(.tmp 6), (.const (.int .i64 0)), (.const (.int .i64 20000))] [2, 2, 2] (spec_l1In.ok a1.Budget 0 20000) h3) (orcL 4 [(8, bv (!x2))] [] h4 orcN)) ?_
      exact J_qw (J_j (jv10 true)) rfl
    · refine J_bind (fun x5 h6 => ?_)
      refine J_ite (fun h7 => ?_) (fun h7 => ?_)
      · refine J_g 12 [] [(1, pp 0), (20, bv true)] [(0, .box (Disk.enc false a1))] (orcC 2 (x_c0 [(.tmp 6), (.const (.int .i64 0)), (.const (.int .i64 20000))] [2, 2, 2] (spec_l1In.ok a1.Budget 0 20000) h3) (orcL 4 [(8, bv (!x2))] [] h4 (orcH 7 4 9 false (x_c0 [(.tmp 11), (.const (.int .i64 0)), (.const (.int .i64 1000000000))] [2, 2, 2] (spec_l1In.ok a1.Writes 0 1000000000) h6) (orcL 10 [(14, bv (!x5))] [] h7 orcN)))) ?_
        exact J_qw (J_j (jv10 true)) rfl
      · refine J_bind (fun x8 h9 => ?_)
        refine J_g 12 [] [(1, pp 0), (20, bv (!x8))] [(0, .box (Disk.enc false a1))] (orcC 2 (x_c0 [(.tmp 6), (.const (.int .i64 0)), (.const (.int .i64 20000))] [2, 2, 2] (spec_l1In.ok a1.Budget 0 20000) h3) (orcL 4 [(8, bv (!x2))] [] h4 (orcH 7 4 9 false (x_c0 [(.tmp 11), (.const (.int .i64 0)), (.const (.int .i64 1000000000))] [2, 2, 2] (spec_l1In.ok a1.Writes 0 1000000000) h6) (orcL 10 [(14, bv (!x5))] [] h7 (orcH 13 10 15 false (x_c0 [(.tmp 17), (.const (.int .i64 (-1))), (.const (.int .i64 1000000000))] [2, 2, 2] (spec_l1In.ok a1.Stop (-1) 1000000000) h9) orcN))))) ?_
        exact J_qw (J_j (jv10 (!x8))) rfl

noncomputable def c127 : Code := (Tryz.f127.body).getD .skip

theorem spec_l8Asked.ok (a1 : (List Pack)) (a2 : Disk) : Ok Tryz.prog 127 [sl 8 (Pack.enc false) a1, .ag (Disk.enc false a2)] [] ((spec_l8Asked a1 a2).map fun r => (iv r, [])) := by
  refine Ok_of3 c127 Tryz.f127 0 13 (fun q => ?_)
  unfold spec_l8Asked
  refine J_g 2 [(0, 0)] [(0, sl 8 (Pack.enc false) a1), (3, pp 0)] [(0, .box (Disk.enc false a2))] orcN ?_
  refine J_bind (fun x3 h4 => ?_)
  refine J_g 12 [] [(3, pp 0), (5, iv x3)] [(0, .box (Disk.enc false a2))] (orcC 1 (x_c0 [(.tmp 6)] [47] (spec_CatalogFault.ok a1) h4) orcN) ?_
  refine J_g 26 [] [(3, pp 0), (5, iv x3), (9, bv (x3 != 0))] [(0, .box (Disk.enc false a2))] orcN ?_
  refine J_if2 9 (fun h5 => ?_) (fun h5 => ?_)
  · refine J_g 108 [] [(4, iv x3)] [] orcN ?_
    exact J_r1 rfl
  · refine J_bind (fun x6 h7 => ?_)
    refine J_g 14 [] [(4, iv x6)] [] (orcC 1 (x_c0 [(.tmp 11)] [29] (spec_DiskFault.ok a2) h7) orcN) ?_
    exact J_r1 rfl

noncomputable def c193 : Code := (Tryz.f193.body).getD .skip

theorem spec_l7Begins.ok (a1 : ByteArray) (a2 : ByteArray) : Ok Tryz.prog 193 [sv a1, sv a2] [] ((spec_l7Begins a1 a2).map fun r => (bv r, [])) := by
  refine Ok_of3 c193 Tryz.f193 0 18 (fun q => ?_)
  unfold spec_l7Begins
  refine J_g 2 [] [(0, sv a1), (1, sv a2)] [] orcN ?_
  refine J_ite (fun h3 => ?_) (fun h3 => ?_)
  · refine J_bind (fun x4 h5 => ?_)
    refine J_g 6 [] [(4, bv (seq x4 a2))] [] (orcL 5 [(9, bv (decide ((a1.size : Int) ≥ (a2.size : Int))))] [] h3 (orcH 9 5 10 true (x_ss 9 (.tmp 11) none (some (.tmp 13)) h5) orcN)) ?_
    exact J_r1 rfl
  · refine J_g 6 [] [(4, bv false)] [] (orcL 5 [(9, bv (decide ((a1.size : Int) ≥ (a2.size : Int))))] [] h3 orcN) ?_
    exact J_r1 rfl

noncomputable def c239 : Code := (Tryz.f239.body).getD .skip

theorem spec_l7Paths_l1.ok (a1 : Disk) (a2 : ByteArray) (q : Wd) (kn : (List ByteArray) → Option (D × List Ent)) (hk : ∀ v : (List ByteArray), J (q.g Tryz.prog 239 1 39) c239 (atI c239 15) (St.mk' [(5, rr 1 v)] [(0, .box (Disk.enc false a1)), (1, rE 1 eStr v)]) (some v) kn) :
    ∀ s14 : ((List ByteArray) × Int), J (q.g Tryz.prog 239 1 39) c239 (atI c239 116) (St.mk' [(0, pp 0), (1, sv a2), (5, rr 1 s14.1), (6, iv s14.2)] [(0, .box (Disk.enc false a1)), (1, rE 1 eStr s14.1)]) (spec_l7Paths_l1 a1 a2 s14) kn := by
  refine J_lp (fun g ih s14 => ?_)
  unfold spec_l7Paths_l1b
  refine J_g 464 [] [(0, pp 0), (1, sv a2), (5, rr 1 s14.1), (6, iv s14.2), (14, bv (decide (s14.2 < (a1.Files.length : Int))))] [(0, .box (Disk.enc false a1)), (1, rE 1 eStr s14.1)] orcN ?_
  refine J_if2 14 (fun h15 => ?_) (fun h15 => ?_)
  · refine J_bind (fun x16 h17 => ?_)
    refine J_bind (fun x18 h19 => ?_)
    refine J_g 1864 [] [(0, pp 0), (1, sv a2), (5, rr 1 s14.1), (6, iv s14.2), (26, bv x18)] [(0, .box (Disk.enc false a1)), (1, rE 1 eStr s14.1)] (orcC 5 (x_ix (kk := .i64) 27 175 2 (File.enc false) (.tmp 20) (.tmp 21) h17) (orcC 9 (x_c0 [(.tmp 24), (.tmp 25)] [9, 9] (spec_l7Begins.ok x16.Path a2) h19) orcN)) ?_
    refine J_join (aft c239 932) (fun v25 : (List ByteArray) => St.mk' [(0, pp 0), (1, sv a2), (5, rr 3 v25), (6, iv s14.2)] [(0, .box (Disk.enc false a1)), (3, rE 1 eStr v25)]) (fun v25 => ?_) (fun jv25 => ?_)
    · refine J_g 467 [] [(0, pp 0), (1, sv a2), (5, rr 3 v25), (6, iv (w64 (s14.2 + 1)))] [(0, .box (Disk.enc false a1)), (3, rE 1 eStr v25)] orcN ?_
      refine J_ren 3 1 (Nat.le_of_ble_eq_true rfl) (Nat.le_of_ble_eq_true rfl) ?_
      exact J_q (J_b (ih (v25, w64 (s14.2 + 1)))) rfl
    · refine J_if2 26 (fun h20 => ?_) (fun h20 => ?_)
      · refine J_bind (fun x21 h22 => ?_)
        refine J_bind (fun x23 h24 => ?_)
        refine J_g 3730 [] [(0, pp 0), (1, sv a2), (5, rr 3 x23), (6, iv s14.2)] [(0, .box (Disk.enc false a1)), (3, rE 1 eStr x23)] (orcC 6 (x_ix (kk := .i64) 27 175 2 (File.enc false) (.tmp 31) (.tmp 32) h22) (orcC 9 (x_bp 94 9 1 2 eStr [x21.Path] [0] [(.tmp 35)] [sv x21.Path]) (orcC 10 (x_ap 94 94 9 9 1 16 3 1 2 eStr (.tmp 27) (.tmp 36) h24) orcN))) ?_
        exact J_qw (J_j (jv25 x23)) rfl
      · refine J_ren 1 3 (Nat.le_of_ble_eq_true rfl) (Nat.le_of_ble_eq_true rfl) ?_
        exact J_qw (J_j (jv25 s14.1)) rfl
  · exact J_qw (hk s14.1) rfl

theorem spec_l7Paths.ok (a1 : Disk) (a2 : ByteArray) : Ok Tryz.prog 239 [pp 0, sv a2] [.box (Disk.enc false a1)] ((spec_l7Paths a1 a2).map fun r => (so 1 eStr r, [.box (Disk.enc false a1)])) := by
  refine Ok_of3 c239 Tryz.f239 1 39 (fun q => ?_)
  unfold spec_l7Paths
  refine J_g 2 [] [(0, pp 0), (1, sv a2)] [(0, .box (Disk.enc false a1))] orcN ?_
  refine J_g 6 [] [(0, pp 0), (1, sv a2), (5, rr 1 ([] : List ByteArray))] [(0, .box (Disk.enc false a1)), (1, rE 1 eStr ([] : List ByteArray))] (orcC 0 (x_bp 94 9 1 1 eStr ([] : List ByteArray) [] [] []) orcN) ?_
  refine J_g 28 [] [(0, pp 0), (1, sv a2), (5, rr 1 ([] : List ByteArray)), (6, iv 0)] [(0, .box (Disk.enc false a1)), (1, rE 1 eStr ([] : List ByteArray))] orcN ?_
  refine J_lq (spec_l7Paths_l1.ok a1 a2 q _ (fun v26 => J_j ?_) (([] : List ByteArray), 0))
  refine J_g 30 [] [(4, rr 1 v26)] [(0, .box (Disk.enc false a1)), (1, rE 1 eStr v26)] orcN ?_
  exact J_rm (ds := [rr 1 v26]) (ds' := [so 1 eStr v26]) (.cons (.cell (.move (.tail _ (.head _)) (List.length_map _) (by decide) (.nil))) (.nil) (by decide)) rfl

noncomputable def c318 : Code := (Tryz.f318.body).getD .skip

theorem spec_l1Number_l1.ok (a1 : ByteArray) (q : Wd) (kn : Int → Option (D × List Ent)) (hk : ∀ v : Int, J (q.g Tryz.prog 318 0 37) c318 (atI c318 31) (St.mk' [(6, iv v)] []) (some v) kn) :
    ∀ s14 : (Int × Int), J (q.g Tryz.prog 318 0 37) c318 (atI c318 244) (St.mk' [(0, sv a1), (6, iv s14.1), (7, iv s14.2)] []) (spec_l1Number_l1 a1 s14) (Fl.go (fun r : (Int × Bool) => some (.tu [iv r.1, bv r.2], [])) kn) := by
  refine J_lp (fun g ih s14 => ?_)
  unfold spec_l1Number_l1b
  refine J_g 976 [] [(0, sv a1), (6, iv s14.1), (7, iv s14.2), (20, bv (decide (s14.2 < (a1.size : Int))))] [] orcN ?_
  refine J_if2 20 (fun h15 => ?_) (fun h15 => ?_)
  · refine J_bind (fun x16 h17 => ?_)
    refine J_bind (fun x18 h19 => ?_)
    refine J_g 7824 [] [(0, sv a1), (6, iv s14.1), (7, iv s14.2), (27, bv (!x18))] [] (orcC 2 (x_bi (kk := .i64) 9 (.tmp 23) (.tmp 24) h17) (orcC 3 (x_c0 [(.tmp 25)] [5] (spec_l1Digit.ok x16) h19) orcN)) ?_
    refine J_if2 27 (fun h20 => ?_) (fun h20 => ?_)
    · refine J_g 31300 [] [(4, iv 0), (5, bv false)] [] orcN ?_
      exact J_rT rfl
    · refine J_bind (fun x21 h22 => ?_)
      refine J_g 3913 [] [(0, sv a1), (6, iv (w64 ((w64 (s14.1 * 10)) + (w64 (IntKind.u8.wrap (x21 - 48)))))), (7, iv s14.2)] [] (orcC 4 (x_bi (kk := .i64) 9 (.tmp 30) (.tmp 31) h22) orcN) ?_
      refine J_g 979 [] [(0, sv a1), (6, iv (w64 ((w64 (s14.1 * 10)) + (w64 (IntKind.u8.wrap (x21 - 48)))))), (7, iv (w64 (s14.2 + 1)))] [] orcN ?_
      exact J_q (J_b (ih (w64 ((w64 (s14.1 * 10)) + (w64 (IntKind.u8.wrap (x21 - 48)))), w64 (s14.2 + 1)))) rfl
  · exact J_qw (hk s14.1) rfl

theorem spec_l1Number.ok (a1 : ByteArray) (a2 : Int) : Ok Tryz.prog 318 [sv a1, iv a2] [] ((spec_l1Number a1 a2).map fun r => (.tu [iv r.1, bv r.2], [])) := by
  refine Ok_of3 c318 Tryz.f318 0 37 (fun q => ?_)
  unfold spec_l1Number
  refine J_g 2 [] [(0, sv a1), (1, iv a2)] [] orcN ?_
  refine J_join (atI c318 13) (fun v4 : Bool => St.mk' [(0, sv a1), (16, bv v4)] []) (fun v4 => ?_) (fun jv4 => ?_)
  · refine J_if2 16 (fun h5 => ?_) (fun h5 => ?_)
    · refine J_g 52 [] [(4, iv 0), (5, bv false)] [] orcN ?_
      exact J_rT rfl
    · refine J_g 14 [] [(0, sv a1), (6, iv 0)] [] orcN ?_
      refine J_g 60 [] [(0, sv a1), (6, iv 0), (7, iv 0)] [] orcN ?_
      refine J_lqF (K0 := (fun r : (Int × Bool) => some (.tu [iv r.1, bv r.2], []))) (fun _ => rfl) (spec_l1Number_l1.ok a1 q _ (fun v23 => J_j ?_) (0, 0))
      refine J_g 62 [] [(4, iv v23), (5, bv true)] [] orcN ?_
      exact J_rT rfl
  · refine J_ite (fun h3 => ?_) (fun h3 => ?_)
    · refine J_g 12 [] [(0, sv a1), (16, bv true)] [] (orcL 3 [(10, bv (decide ((a1.size : Int) < 1)))] [] h3 orcN) ?_
      exact J_qw (J_j (jv4 true)) rfl
    · refine J_g 12 [] [(0, sv a1), (16, bv (decide ((a1.size : Int) > a2)))] [] (orcL 3 [(10, bv (decide ((a1.size : Int) < 1)))] [] h3 orcN) ?_
      exact J_qw (J_j (jv4 (decide ((a1.size : Int) > a2)))) rfl

noncomputable def c223 : Code := (Tryz.f223.body).getD .skip

theorem spec_l1Decimal.ok (a1 : Int) : Ok Tryz.prog 223 [iv a1] [] ((spec_l1Decimal a1).map fun r => (sv r, [])) := by
  have key : ∀ (n : Nat) (a1 : Int), Ok Tryz.prog 223 [iv a1] [] ((recF spec_l1Decimal_r n a1).map fun r => (sv r, [])) := by
    intro n
    induction n with
    | zero => intro a1; exact Ok_none
    | succ n ih =>
      intro a1
      refine Ok_of3 c223 Tryz.f223 0 20 (fun q => ?_)
      unfold recF spec_l1Decimal_r
      refine J_g 2 [] [(0, iv a1)] [] orcN ?_
      refine J_g 12 [] [(0, iv a1), (4, bv (decide (a1 < 10)))] [] orcN ?_
      refine J_if2 4 (fun h2 => ?_) (fun h2 => ?_)
      · refine J_g 52 [] [(2, sv (b2s [IntKind.u8.wrap (w64 (48 + a1))]))] [] (orcC 3 (x_bp 22 5 1 0 eU8 [IntKind.u8.wrap (w64 (48 + a1))] [0] [(.tmp 7)] [uv (IntKind.u8.wrap (w64 (48 + a1)))]) (orcC 4 (x_b2sr (xs := [IntKind.u8.wrap (w64 (48 + a1))]) 22 9 5 0 (.tmp 8)) orcN)) ?_
        exact J_r1 rfl
      · refine J_bind (fun x3 h4 => ?_)
        refine J_bind (fun x5 h6 => ?_)
        refine J_g 14 [] [(2, sv x5)] [] (orcC 2 (x_c0 [(.tmp 11)] [2] (ih (w64 (a1.tdiv 10))) h4) (orcC 7 (x_bp 22 5 1 0 eU8 [IntKind.u8.wrap (w64 (48 + (a1.tmod 10)))] [0] [(.tmp 16)] [uv (IntKind.u8.wrap (w64 (48 + (a1.tmod 10))))]) (orcC 8 (x_b2sr (xs := [IntKind.u8.wrap (w64 (48 + (a1.tmod 10)))]) 22 9 5 0 (.tmp 17)) (orcC 9 (x_cat 9 9 (.tmp 12) (.tmp 18) h6) orcN)))) ?_
        exact J_r1 rfl
  exact key 64 a1

noncomputable def c179 : Code := (Tryz.f179.body).getD .skip

theorem spec_GenPath.ok (a1 : Int) : Ok Tryz.prog 179 [iv a1] [] ((spec_GenPath a1).map fun r => (sv r, [])) := by
  refine Ok_of3 c179 Tryz.f179 0 11 (fun q => ?_)
  unfold spec_GenPath
  refine J_g 2 [] [(0, iv a1)] [] orcN ?_
  refine J_bind (fun x2 h3 => ?_)
  refine J_g 12 [] [(0, iv a1), (5, bv (!x2))] [] (orcC 1 (x_c0 [(.tmp 3), (.const (.int .i64 1)), (.const (.int .i64 999999))] [2, 2, 2] (spec_l1In.ok a1 1 999999) h3) orcN) ?_
  refine J_if2 5 (fun h4 => ?_) (fun h4 => ?_)
  · refine J_g 52 [] [(2, sv (bs []))] [] orcN ?_
    exact J_r1 rfl
  · refine J_bind (fun x5 h6 => ?_)
    refine J_bind (fun x7 h8 => ?_)
    refine J_bind (fun x9 h10 => ?_)
    refine J_g 14 [] [(2, sv x9)] [] (orcC 2 (x_c0 [(.tmp 7)] [2] (spec_l1Decimal.ok (w64 (1000000 + a1))) h6) (orcC 3 (x_ss 9 (.tmp 8) (some (.const (.int .i64 1))) none h8) (orcC 4 (x_cat 9 9 (.const (.string (bs [103, 101, 110, 47]))) (.tmp 9) h10) orcN))) ?_
    exact J_r1 rfl

noncomputable def c233 : Code := (Tryz.f233.body).getD .skip

theorem spec_l8Gens_l1.ok (a1 : Disk) (x2 : (List ByteArray)) (q : Wd) (kn : (List Int) → Option (D × List Ent)) (hk : ∀ v : (List Int), J (q.g Tryz.prog 233 1 41) c233 (atI c233 31) (St.mk' [(3, rr 1 v)] [(0, .box (Disk.enc false a1)), (1, rE 1 eI64 v)]) (some v) kn) :
    ∀ s21 : ((List Int) × Int), J (q.g Tryz.prog 233 1 41) c233 (atI c233 244) (St.mk' [(3, rr 1 s21.1), (4, rr 2 x2), (5, iv s21.2)] [(0, .box (Disk.enc false a1)), (1, rE 1 eI64 s21.1), (2, rE 1 eStr x2)]) (spec_l8Gens_l1 a1 x2 s21) kn := by
  refine J_lp (fun g ih s21 => ?_)
  unfold spec_l8Gens_l1b
  refine J_g 976 [] [(3, rr 1 s21.1), (4, rr 2 x2), (5, iv s21.2), (14, bv (decide (s21.2 < (x2.length : Int))))] [(0, .box (Disk.enc false a1)), (1, rE 1 eI64 s21.1), (2, rE 1 eStr x2)] orcN ?_
  refine J_if2 14 (fun h22 => ?_) (fun h22 => ?_)
  · refine J_bind (fun x23 h24 => ?_)
    refine J_bind (fun x25 h26 => ?_)
    refine J_bind (fun x27 h28 => ?_)
    refine J_g 3912 [] [(3, rr 1 s21.1), (4, rr 2 x2), (5, iv s21.2), (6, iv x27.1), (7, bv x27.2)] [(0, .box (Disk.enc false a1)), (1, rE 1 eI64 s21.1), (2, rE 1 eStr x2)] (orcC 2 (x_ixr (kk := .i64) 94 9 1 2 eStr (.tmp 18) (.tmp 19) h24) (orcC 3 (x_ldr (d := sv x23) 9 1 2 0 eStr (.tmp 20) h24 (by kernel_rfl)) (orcC 4 (x_ss 9 (.tmp 21) (some (.const (.int .i64 4))) none h26) (orcC 5 (x_c0 [(.tmp 22), (.const (.int .i64 6))] [9, 3] (spec_l1Number.ok x25 6) h28) orcN)))) ?_
    refine J_join (atI c233 7827) (fun v34 : Bool => St.mk' [(3, rr 1 s21.1), (4, rr 2 x2), (5, iv s21.2), (6, iv x27.1), (35, bv v34)] [(0, .box (Disk.enc false a1)), (1, rE 1 eI64 s21.1), (2, rE 1 eStr x2)]) (fun v34 => ?_) (fun jv34 => ?_)
    · refine J_join (aft c233 1956) (fun v38 : (List Int) => St.mk' [(3, rr 4 v38), (4, rr 2 x2), (5, iv s21.2)] [(0, .box (Disk.enc false a1)), (2, rE 1 eStr x2), (4, rE 1 eI64 v38)]) (fun v38 => ?_) (fun jv38 => ?_)
      · refine J_g 979 [] [(3, rr 4 v38), (4, rr 2 x2), (5, iv (w64 (s21.2 + 1)))] [(0, .box (Disk.enc false a1)), (2, rE 1 eStr x2), (4, rE 1 eI64 v38)] orcN ?_
        refine J_ren 4 1 (Nat.le_of_ble_eq_true rfl) (Nat.le_of_ble_eq_true rfl) ?_
        exact J_q (J_b (ih (v38, w64 (s21.2 + 1)))) rfl
      · refine J_if2 35 (fun h35 => ?_) (fun h35 => ?_)
        · refine J_bind (fun x36 h37 => ?_)
          refine J_g 15654 [] [(3, rr 4 x36), (4, rr 2 x2), (5, iv s21.2)] [(0, .box (Disk.enc false a1)), (2, rE 1 eStr x2), (4, rE 1 eI64 x36)] (orcC 2 (x_bp 70 2 1 3 eI64 [x27.1] [0] [(.tmp 37)] [iv x27.1]) (orcC 3 (x_ap 70 70 2 2 1 8 4 1 3 eI64 (.tmp 36) (.tmp 38) h37) orcN)) ?_
          exact J_qw (J_j (jv38 x36)) rfl
        · refine J_ren 1 4 (Nat.le_of_ble_eq_true rfl) (Nat.le_of_ble_eq_true rfl) ?_
          exact J_qw (J_j (jv38 s21.1)) rfl
    · refine J_ite (fun h29 => ?_) (fun h29 => ?_)
      · refine J_bind (fun x30 h31 => ?_)
        refine J_bind (fun x32 h33 => ?_)
        refine J_g 7826 [] [(3, rr 1 s21.1), (4, rr 2 x2), (5, iv s21.2), (6, iv x27.1), (35, bv (seq x30 x32))] [(0, .box (Disk.enc false a1)), (1, rE 1 eI64 s21.1), (2, rE 1 eStr x2)] (orcL 1 [(26, bv x27.2)] [] h29 (orcH 3 1 27 true (x_c0 [(.tmp 28)] [2] (spec_GenPath.ok x27.1) h31) (orcH 6 1 27 true (x_ixr (kk := .i64) 94 9 1 2 eStr (.tmp 30) (.tmp 31) h33) (orcH 7 1 27 true (x_ldr (d := sv x32) 9 1 2 0 eStr (.tmp 32) h33 (by kernel_rfl)) orcN)))) ?_
        exact J_qw (J_j (jv34 (seq x30 x32))) rfl
      · refine J_g 7826 [] [(3, rr 1 s21.1), (4, rr 2 x2), (5, iv s21.2), (6, iv x27.1), (35, bv false)] [(0, .box (Disk.enc false a1)), (1, rE 1 eI64 s21.1), (2, rE 1 eStr x2)] (orcL 1 [(26, bv x27.2)] [] h29 orcN) ?_
        exact J_qw (J_j (jv34 false)) rfl
  · exact J_qw (hk s21.1) rfl

theorem spec_l8Gens.ok (a1 : Disk) : Ok Tryz.prog 233 [pp 0] [.box (Disk.enc false a1)] ((spec_l8Gens a1).map fun r => (so 1 eI64 r, [.box (Disk.enc false a1)])) := by
  refine Ok_of3 c233 Tryz.f233 1 41 (fun q => ?_)
  unfold spec_l8Gens
  refine J_g 2 [] [(0, pp 0)] [(0, .box (Disk.enc false a1))] orcN ?_
  refine J_g 6 [] [(0, pp 0), (3, rr 1 ([] : List Int))] [(0, .box (Disk.enc false a1)), (1, rE 1 eI64 ([] : List Int))] (orcC 0 (x_bp 70 2 1 1 eI64 ([] : List Int) [] [] []) orcN) ?_
  refine J_bind (fun x2 h3 => ?_)
  refine J_g 14 [] [(3, rr 1 ([] : List Int)), (4, rr 2 x2)] [(0, .box (Disk.enc false a1)), (1, rE 1 eI64 ([] : List Int)), (2, rE 1 eStr x2)] (orcC 1 (x_ro [(0, .box (Disk.enc false a1))] [(2, rE 1 eStr x2)] (x_c1 («as» := [pp 0, sv (bs [103, 101, 110, 47])]) [(.tmp 9), (.const (.string (bs [103, 101, 110, 47])))] [109, 9] false [(0, .box (Disk.enc false a1))] [0] (.cons (.pt rfl) (.cons (.same rfl) (.nil))) (spec_l7Paths.ok a1 (bs [103, 101, 110, 47])) h3 (.own 2))) orcN) ?_
  refine J_g 60 [] [(3, rr 1 ([] : List Int)), (4, rr 2 x2), (5, iv 0)] [(0, .box (Disk.enc false a1)), (1, rE 1 eI64 ([] : List Int)), (2, rE 1 eStr x2)] orcN ?_
  refine J_lq (spec_l8Gens_l1.ok a1 x2 q _ (fun v39 => J_j ?_) (([] : List Int), 0))
  refine J_g 62 [] [(2, rr 1 v39)] [(0, .box (Disk.enc false a1)), (1, rE 1 eI64 v39)] orcN ?_
  exact J_rm (ds := [rr 1 v39]) (ds' := [so 1 eI64 v39]) (.cons (.cell (.move (.tail _ (.head _)) (List.length_map _) (by decide) (.nil))) (.nil) (by decide)) rfl

noncomputable def c232 : Code := (Tryz.f232.body).getD .skip

theorem spec_l1Has_l1.ok (a1 : (List Int)) (a2 : Int) (q : Wd) (kn : Unit → Option (D × List Ent)) (hk : ∀ v : Unit, J (q.g Tryz.prog 232 0 18) c232 (atI c232 7) (St.mk' [] []) (some v) kn) :
    ∀ s7 : Int, J (q.g Tryz.prog 232 0 18) c232 (atI c232 52) (St.mk' [(0, sl 1 eI64 a1), (1, iv a2), (5, iv s7)] []) (spec_l1Has_l1 a1 a2 s7) (Fl.go (fun r : Bool => some (bv r, [])) kn) := by
  refine J_lp (fun g ih s7 => ?_)
  unfold spec_l1Has_l1b
  refine J_g 208 [] [(0, sl 1 eI64 a1), (1, iv a2), (5, iv s7), (9, bv (decide (s7 < (a1.length : Int))))] [] orcN ?_
  refine J_if2 9 (fun h8 => ?_) (fun h8 => ?_)
  · refine J_bind (fun x9 h10 => ?_)
    refine J_g 840 [] [(0, sl 1 eI64 a1), (1, iv a2), (5, iv s7), (17, bv (x9 == a2))] [] (orcC 2 (x_ix (kk := .i64) 70 2 1 eI64 (.tmp 12) (.tmp 13) h10) orcN) ?_
    refine J_if2 17 (fun h11 => ?_) (fun h11 => ?_)
    · refine J_g 3364 [] [(4, bv true)] [] orcN ?_
      exact J_r1 rfl
    · refine J_g 211 [] [(0, sl 1 eI64 a1), (1, iv a2), (5, iv (w64 (s7 + 1)))] [] orcN ?_
      exact J_q (J_b (ih (w64 (s7 + 1)))) rfl
  · exact J_qw (hk ()) rfl

theorem spec_l1Has.ok (a1 : (List Int)) (a2 : Int) : Ok Tryz.prog 232 [sl 1 eI64 a1, iv a2] [] ((spec_l1Has a1 a2).map fun r => (bv r, [])) := by
  refine Ok_of3 c232 Tryz.f232 0 18 (fun q => ?_)
  unfold spec_l1Has
  refine J_g 2 [] [(0, sl 1 eI64 a1), (1, iv a2)] [] orcN ?_
  refine J_g 12 [] [(0, sl 1 eI64 a1), (1, iv a2), (5, iv 0)] [] orcN ?_
  refine J_lqF (K0 := (fun r : Bool => some (bv r, []))) (fun _ => rfl) (spec_l1Has_l1.ok a1 a2 q _ (fun v12 => J_j ?_) 0)
  refine J_g 14 [] [(4, bv false)] [] orcN ?_
  exact J_r1 rfl

noncomputable def c137 : Code := (Tryz.f137.body).getD .skip

theorem spec_l7Find_l1.ok (a1 : Disk) (a2 : ByteArray) (q : Wd) (kn : Unit → Option (D × List Ent)) (hk : ∀ v : Unit, J (q.g Tryz.prog 137 1 26) c137 (atI c137 7) (St.mk' [] [(0, .box (Disk.enc false a1))]) (some v) kn) :
    ∀ s7 : Int, J (q.g Tryz.prog 137 1 26) c137 (atI c137 52) (St.mk' [(0, pp 0), (1, sv a2), (5, iv s7)] [(0, .box (Disk.enc false a1))]) (spec_l7Find_l1 a1 a2 s7) (Fl.go (fun r : Int => some (iv r, [.box (Disk.enc false a1)])) kn) := by
  refine J_lp (fun g ih s7 => ?_)
  unfold spec_l7Find_l1b
  refine J_g 208 [] [(0, pp 0), (1, sv a2), (5, iv s7), (12, bv (decide (s7 < (a1.Files.length : Int))))] [(0, .box (Disk.enc false a1))] orcN ?_
  refine J_if2 12 (fun h8 => ?_) (fun h8 => ?_)
  · refine J_bind (fun x9 h10 => ?_)
    refine J_g 840 [] [(0, pp 0), (1, sv a2), (5, iv s7), (24, bv (seq x9.Path a2))] [(0, .box (Disk.enc false a1))] (orcC 5 (x_ix (kk := .i64) 27 175 2 (File.enc false) (.tmp 18) (.tmp 19) h10) orcN) ?_
    refine J_if2 24 (fun h11 => ?_) (fun h11 => ?_)
    · refine J_g 3364 [] [(4, iv s7)] [(0, .box (Disk.enc false a1))] orcN ?_
      exact J_r1 rfl
    · refine J_g 211 [] [(0, pp 0), (1, sv a2), (5, iv (w64 (s7 + 1)))] [(0, .box (Disk.enc false a1))] orcN ?_
      exact J_q (J_b (ih (w64 (s7 + 1)))) rfl
  · exact J_qw (hk ()) rfl

theorem spec_l7Find.ok (a1 : Disk) (a2 : ByteArray) : Ok Tryz.prog 137 [pp 0, sv a2] [.box (Disk.enc false a1)] ((spec_l7Find a1 a2).map fun r => (iv r, [.box (Disk.enc false a1)])) := by
  refine Ok_of3 c137 Tryz.f137 1 26 (fun q => ?_)
  unfold spec_l7Find
  refine J_g 2 [] [(0, pp 0), (1, sv a2)] [(0, .box (Disk.enc false a1))] orcN ?_
  refine J_g 12 [] [(0, pp 0), (1, sv a2), (5, iv 0)] [(0, .box (Disk.enc false a1))] orcN ?_
  refine J_lqF (K0 := (fun r : Int => some (iv r, [.box (Disk.enc false a1)]))) (fun _ => rfl) (spec_l7Find_l1.ok a1 a2 q _ (fun v12 => J_j ?_) 0)
  refine J_g 14 [] [(4, iv (-1))] [(0, .box (Disk.enc false a1))] orcN ?_
  exact J_r1 rfl

noncomputable def c284 : Code := (Tryz.f284.body).getD .skip

theorem spec_l1Parts_l1.ok (a1 : ByteArray) (a2 : Int) (q : Wd) (kn : (List ByteArray) → Option (D × List Ent)) (hk : ∀ v : (List ByteArray), J (q.g Tryz.prog 284 0 36) c284 (atI c284 31) (St.mk' [(5, rr 0 v)] [(0, rE 1 eStr v)]) (some v) kn) :
    ∀ s14 : ((List ByteArray) × Int × Int), J (q.g Tryz.prog 284 0 36) c284 (atI c284 244) (St.mk' [(0, sv a1), (1, uv a2), (5, rr 0 s14.1), (6, iv s14.2.1), (7, iv s14.2.2)] [(0, rE 1 eStr s14.1)]) (spec_l1Parts_l1 a1 a2 s14) kn := by
  refine J_lp (fun g ih s14 => ?_)
  unfold spec_l1Parts_l1b
  refine J_g 976 [] [(0, sv a1), (1, uv a2), (5, rr 0 s14.1), (6, iv s14.2.1), (7, iv s14.2.2), (12, bv (decide (s14.2.2 ≤ (a1.size : Int))))] [(0, rE 1 eStr s14.1)] orcN ?_
  refine J_if2 12 (fun h15 => ?_) (fun h15 => ?_)
  · refine J_join (atI c284 3913) (fun v19 : Bool => St.mk' [(0, sv a1), (1, uv a2), (5, rr 0 s14.1), (6, iv s14.2.1), (7, iv s14.2.2), (25, bv v19)] [(0, rE 1 eStr s14.1)]) (fun v19 => ?_) (fun jv19 => ?_)
    · refine J_join (aft c284 1956) (fun v25 : ((List ByteArray) × Int) => St.mk' [(0, sv a1), (1, uv a2), (5, rr 2 v25.1), (6, iv v25.2), (7, iv s14.2.2)] [(2, rE 1 eStr v25.1)]) (fun v25 => ?_) (fun jv25 => ?_)
      · refine J_g 979 [] [(0, sv a1), (1, uv a2), (5, rr 2 v25.1), (6, iv v25.2), (7, iv (w64 (s14.2.2 + 1)))] [(2, rE 1 eStr v25.1)] orcN ?_
        refine J_ren 2 0 (Nat.le_of_ble_eq_true rfl) (Nat.le_of_ble_eq_true rfl) ?_
        exact J_q (J_b (ih (v25.1, v25.2, w64 (s14.2.2 + 1)))) rfl
      · refine J_if2 25 (fun h20 => ?_) (fun h20 => ?_)
        · refine J_bind (fun x21 h22 => ?_)
          refine J_bind (fun x23 h24 => ?_)
          refine J_g 15652 [] [(0, sv a1), (1, uv a2), (5, rr 2 x23), (7, iv s14.2.2)] [(2, rE 1 eStr x23)] (orcC 4 (x_ss 9 (.tmp 27) (some (.tmp 28)) (some (.tmp 29)) h22) (orcC 5 (x_bp 94 9 1 1 eStr [x21] [0] [(.tmp 30)] [sv x21]) (orcC 6 (x_ap 94 94 9 9 1 16 2 0 1 eStr (.tmp 26) (.tmp 31) h24) orcN))) ?_
          refine J_g 15653 [] [(0, sv a1), (1, uv a2), (5, rr 2 x23), (6, iv (w64 (s14.2.2 + 1))), (7, iv s14.2.2)] [(2, rE 1 eStr x23)] orcN ?_
          exact J_qw (J_j (jv25 (x23, w64 (s14.2.2 + 1)))) rfl
        · refine J_ren 0 2 (Nat.le_of_ble_eq_true rfl) (Nat.le_of_ble_eq_true rfl) ?_
          exact J_qw (J_j (jv25 (s14.1, s14.2.1))) rfl
    · refine J_ite (fun h16 => ?_) (fun h16 => ?_)
      · refine J_g 3912 [] [(0, sv a1), (1, uv a2), (5, rr 0 s14.1), (6, iv s14.2.1), (7, iv s14.2.2), (25, bv true)] [(0, rE 1 eStr s14.1)] (orcL 4 [(18, bv (s14.2.2 == (a1.size : Int)))] [] h16 orcN) ?_
        exact J_qw (J_j (jv19 true)) rfl
      · refine J_bind (fun x17 h18 => ?_)
        refine J_g 3912 [] [(0, sv a1), (1, uv a2), (5, rr 0 s14.1), (6, iv s14.2.1), (7, iv s14.2.2), (25, bv (x17 == a2))] [(0, rE 1 eStr s14.1)] (orcL 4 [(18, bv (s14.2.2 == (a1.size : Int)))] [] h16 (orcH 7 4 19 false (x_bi (kk := .i64) 9 (.tmp 20) (.tmp 21) h18) orcN)) ?_
        exact J_qw (J_j (jv19 (x17 == a2))) rfl
  · exact J_qw (hk s14.1) rfl

theorem spec_l1Parts.ok (a1 : ByteArray) (a2 : Int) : Ok Tryz.prog 284 [sv a1, uv a2] [] ((spec_l1Parts a1 a2).map fun r => (so 1 eStr r, [])) := by
  refine Ok_of3 c284 Tryz.f284 0 36 (fun q => ?_)
  unfold spec_l1Parts
  refine J_g 2 [] [(0, sv a1), (1, uv a2)] [] orcN ?_
  refine J_g 6 [] [(0, sv a1), (1, uv a2), (5, rr 0 ([] : List ByteArray))] [(0, rE 1 eStr ([] : List ByteArray))] (orcC 0 (x_bp 94 9 1 0 eStr ([] : List ByteArray) [] [] []) orcN) ?_
  refine J_g 14 [] [(0, sv a1), (1, uv a2), (5, rr 0 ([] : List ByteArray)), (6, iv 0)] [(0, rE 1 eStr ([] : List ByteArray))] orcN ?_
  refine J_g 60 [] [(0, sv a1), (1, uv a2), (5, rr 0 ([] : List ByteArray)), (6, iv 0), (7, iv 0)] [(0, rE 1 eStr ([] : List ByteArray))] orcN ?_
  refine J_lq (spec_l1Parts_l1.ok a1 a2 q _ (fun v26 => J_j ?_) (([] : List ByteArray), 0, 0))
  refine J_g 62 [] [(4, rr 0 v26)] [(0, rE 1 eStr v26)] orcN ?_
  exact J_rm (ds := [rr 0 v26]) (ds' := [so 1 eStr v26]) (.cons (.cell (.move (.head _) (List.length_map _) (by decide) (.nil))) (.nil) (by decide)) rfl

noncomputable def c192 : Code := (Tryz.f192.body).getD .skip

theorem spec_l2Lines.ok (a1 : ByteArray) : Ok Tryz.prog 192 [sv a1] [] ((spec_l2Lines a1).map fun r => (so 1 eStr r, [])) := by
  refine Ok_of3 c192 Tryz.f192 0 19 (fun q => ?_)
  unfold spec_l2Lines
  refine J_g 2 [] [(0, sv a1)] [] orcN ?_
  refine J_bind (fun x2 h3 => ?_)
  refine J_g 6 [] [(3, rr 0 x2)] [(0, rE 1 eStr x2)] (orcC 1 (x_c1 («as» := [sv a1, uv 10]) [(.tmp 4), (.const (.int .u8 10))] [9, 5] false [] [] (.cons (.same rfl) (.cons (.same rfl) (.nil))) (spec_l1Parts.ok a1 10) h3 (.own 0)) orcN) ?_
  refine J_bind (fun x4 h5 => ?_)
  refine J_g 28 [] [(3, rr 0 x2), (12, bv (seq x4 (bs [])))] [(0, rE 1 eStr x2)] (orcC 4 (x_ixr (kk := .i64) 94 9 1 0 eStr (.tmp 6) (.tmp 9) h5) (orcC 5 (x_ldr (d := sv x4) 9 1 0 0 eStr (.tmp 10) h5 (by kernel_rfl)) orcN)) ?_
  refine J_join (atI c192 15) (fun v9 : (List ByteArray) => St.mk' [(3, rr 1 v9)] [(1, rE 1 eStr v9)]) (fun v9 => ?_) (fun jv9 => ?_)
  · refine J_g 30 [] [(2, rr 1 v9)] [(1, rE 1 eStr v9)] orcN ?_
    exact J_rm (ds := [rr 1 v9]) (ds' := [so 1 eStr v9]) (.cons (.cell (.move (.head _) (List.length_map _) (by decide) (.nil))) (.nil) (by decide)) rfl
  · refine J_if2 12 (fun h6 => ?_) (fun h6 => ?_)
    · refine J_bind (fun x7 h8 => ?_)
      refine J_g 58 [] [(3, rr 1 x7)] [(1, rE 1 eStr x7)] (orcC 4 (x_cut 94 9 1 0 1 eStr (.tmp 13) none (some (.tmp 16)) h8) orcN) ?_
      exact J_qw (J_j (jv9 x7)) rfl
    · refine J_ren 0 1 (Nat.le_of_ble_eq_true rfl) (Nat.le_of_ble_eq_true rfl) ?_
      exact J_qw (J_j (jv9 x2)) rfl

noncomputable def c286 : Code := (Tryz.f286.body).getD .skip

theorem spec_l2Words_l1.ok (x2 : (List ByteArray)) (q : Wd) (kn : (List ByteArray) → Option (D × List Ent)) (hk : ∀ v : (List ByteArray), J (q.g Tryz.prog 286 0 28) c286 (atI c286 31) (St.mk' [(3, rr 0 v)] [(0, rE 1 eStr v)]) (some v) kn) :
    ∀ s13 : ((List ByteArray) × Int), J (q.g Tryz.prog 286 0 28) c286 (atI c286 244) (St.mk' [(3, rr 0 s13.1), (4, rr 1 x2), (5, iv s13.2)] [(0, rE 1 eStr s13.1), (1, rE 1 eStr x2)]) (spec_l2Words_l1 x2 s13) kn := by
  refine J_lp (fun g ih s13 => ?_)
  unfold spec_l2Words_l1b
  refine J_g 976 [] [(3, rr 0 s13.1), (4, rr 1 x2), (5, iv s13.2), (12, bv (decide (s13.2 < (x2.length : Int))))] [(0, rE 1 eStr s13.1), (1, rE 1 eStr x2)] orcN ?_
  refine J_if2 12 (fun h14 => ?_) (fun h14 => ?_)
  · refine J_bind (fun x15 h16 => ?_)
    refine J_g 3912 [] [(3, rr 0 s13.1), (4, rr 1 x2), (5, iv s13.2), (19, bv (!(seq x15 (bs []))))] [(0, rE 1 eStr s13.1), (1, rE 1 eStr x2)] (orcC 2 (x_ixr (kk := .i64) 94 9 1 1 eStr (.tmp 15) (.tmp 16) h16) (orcC 3 (x_ldr (d := sv x15) 9 1 1 0 eStr (.tmp 17) h16 (by kernel_rfl)) orcN)) ?_
    refine J_join (aft c286 1956) (fun v22 : (List ByteArray) => St.mk' [(3, rr 3 v22), (4, rr 1 x2), (5, iv s13.2)] [(1, rE 1 eStr x2), (3, rE 1 eStr v22)]) (fun v22 => ?_) (fun jv22 => ?_)
    · refine J_g 979 [] [(3, rr 3 v22), (4, rr 1 x2), (5, iv (w64 (s13.2 + 1)))] [(1, rE 1 eStr x2), (3, rE 1 eStr v22)] orcN ?_
      refine J_ren 3 0 (Nat.le_of_ble_eq_true rfl) (Nat.le_of_ble_eq_true rfl) ?_
      exact J_q (J_b (ih (v22, w64 (s13.2 + 1)))) rfl
    · refine J_if2 19 (fun h17 => ?_) (fun h17 => ?_)
      · refine J_bind (fun x18 h19 => ?_)
        refine J_bind (fun x20 h21 => ?_)
        refine J_g 7826 [] [(3, rr 3 x20), (4, rr 1 x2), (5, iv s13.2)] [(1, rE 1 eStr x2), (3, rE 1 eStr x20)] (orcC 3 (x_ixr (kk := .i64) 94 9 1 1 eStr (.tmp 21) (.tmp 22) h19) (orcC 4 (x_ldr (d := sv x18) 9 1 1 0 eStr (.tmp 23) h19 (by kernel_rfl)) (orcC 5 (x_bp 94 9 1 2 eStr [x18] [0] [(.tmp 24)] [sv x18]) (orcC 6 (x_ap 94 94 9 9 1 16 3 0 2 eStr (.tmp 20) (.tmp 25) h21) orcN)))) ?_
        exact J_qw (J_j (jv22 x20)) rfl
      · refine J_ren 0 3 (Nat.le_of_ble_eq_true rfl) (Nat.le_of_ble_eq_true rfl) ?_
        exact J_qw (J_j (jv22 s13.1)) rfl
  · exact J_qw (hk s13.1) rfl

theorem spec_l2Words.ok (a1 : ByteArray) : Ok Tryz.prog 286 [sv a1] [] ((spec_l2Words a1).map fun r => (so 1 eStr r, [])) := by
  refine Ok_of3 c286 Tryz.f286 0 28 (fun q => ?_)
  unfold spec_l2Words
  refine J_g 2 [] [(0, sv a1)] [] orcN ?_
  refine J_g 6 [] [(0, sv a1), (3, rr 0 ([] : List ByteArray))] [(0, rE 1 eStr ([] : List ByteArray))] (orcC 0 (x_bp 94 9 1 0 eStr ([] : List ByteArray) [] [] []) orcN) ?_
  refine J_bind (fun x2 h3 => ?_)
  refine J_g 14 [] [(3, rr 0 ([] : List ByteArray)), (4, rr 1 x2)] [(0, rE 1 eStr ([] : List ByteArray)), (1, rE 1 eStr x2)] (orcC 1 (x_c1 («as» := [sv a1, uv 32]) [(.tmp 7), (.const (.int .u8 32))] [9, 5] false [] [] (.cons (.same rfl) (.cons (.same rfl) (.nil))) (spec_l1Parts.ok a1 32) h3 (.own 1)) orcN) ?_
  refine J_g 60 [] [(3, rr 0 ([] : List ByteArray)), (4, rr 1 x2), (5, iv 0)] [(0, rE 1 eStr ([] : List ByteArray)), (1, rE 1 eStr x2)] orcN ?_
  refine J_lq (spec_l2Words_l1.ok x2 q _ (fun v23 => J_j ?_) (([] : List ByteArray), 0))
  refine J_g 62 [] [(2, rr 0 v23)] [(0, rE 1 eStr v23)] orcN ?_
  exact J_rm (ds := [rr 0 v23]) (ds' := [so 1 eStr v23]) (.cons (.cell (.move (.head _) (List.length_map _) (by decide) (.nil))) (.nil) (by decide)) rfl

noncomputable def c287 : Code := (Tryz.f287.body).getD .skip

theorem spec_ParseVersion_l1.ok (x2 : (List ByteArray)) (q : Wd) (kn : (List Int) → Option (D × List Ent)) (hk : ∀ v : (List Int), J (q.g Tryz.prog 287 0 47) c287 (atI c287 63) (St.mk' [(2, pp 0), (4, rr 2 v)] [(0, .box [iv 0, iv 0, iv 0, iv 0]), (2, rE 1 eI64 v)]) (some v) kn) :
    ∀ s13 : ((List Int) × Int), J (q.g Tryz.prog 287 0 47) c287 (atI c287 500) (St.mk' [(2, pp 0), (3, rr 1 x2), (4, rr 2 s13.1), (5, iv s13.2)] [(0, .box [iv 0, iv 0, iv 0, iv 0]), (1, rE 1 eStr x2), (2, rE 1 eI64 s13.1)]) (spec_ParseVersion_l1 x2 s13) (Fl.go (fun r : VersionResult => some (.ag (VersionResult.enc r), [])) kn) := by
  refine J_lp (fun g ih s13 => ?_)
  unfold spec_ParseVersion_l1b
  refine J_g 2000 [] [(2, pp 0), (3, rr 1 x2), (4, rr 2 s13.1), (5, iv s13.2), (18, bv (decide (s13.2 < (x2.length : Int))))] [(0, .box [iv 0, iv 0, iv 0, iv 0]), (1, rE 1 eStr x2), (2, rE 1 eI64 s13.1)] orcN ?_
  refine J_if2 18 (fun h14 => ?_) (fun h14 => ?_)
  · refine J_bind (fun x15 h16 => ?_)
    refine J_bind (fun x17 h18 => ?_)
    refine J_g 8008 [] [(2, pp 0), (3, rr 1 x2), (4, rr 2 s13.1), (5, iv s13.2), (6, iv x17.1), (7, bv x17.2)] [(0, .box [iv 0, iv 0, iv 0, iv 0]), (1, rE 1 eStr x2), (2, rE 1 eI64 s13.1)] (orcC 2 (x_ixr (kk := .i64) 94 9 1 1 eStr (.tmp 22) (.tmp 23) h16) (orcC 3 (x_ldr (d := sv x15) 9 1 1 0 eStr (.tmp 24) h16 (by kernel_rfl)) (orcC 4 (x_c0 [(.tmp 25), (.const (.int .i64 3))] [9, 3] (spec_l1Number.ok x15 3) h18) orcN))) ?_
    refine J_g 32036 [] [(2, pp 0), (3, rr 1 x2), (4, rr 2 s13.1), (5, iv s13.2), (6, iv x17.1), (30, bv (!x17.2))] [(0, .box [iv 0, iv 0, iv 0, iv 0]), (1, rE 1 eStr x2), (2, rE 1 eI64 s13.1)] orcN ?_
    refine J_if2 30 (fun h19 => ?_) (fun h19 => ?_)
    · refine J_g 128148 [] [(2, pp 0)] [(0, .box [iv 5, iv 0, iv 0, iv 0])] orcN ?_
      exact J_r1 rfl
    · refine J_bind (fun x20 h21 => ?_)
      refine J_g 16019 [] [(2, pp 0), (3, rr 1 x2), (4, rr 2 s13.1), (5, iv s13.2)] [(0, .box [iv 0, iv 0, iv 0, iv 0]), (1, rE 1 eStr x2), (2, rE 1 eI64 (s13.1.set s13.2.toNat x17.1))] (orcC 3 (x_ixr (kk := .i64) 70 2 1 2 eI64 (.tmp 32) (.tmp 33) h21) (orcD 4 (x_st (b := x17.1) 2 1 2 0 eI64 (iv x17.1) (.tmp 35) (.tmp 34) h21 rfl) orcN)) ?_
      refine J_st (σ' := St.mk' [(2, pp 0), (3, rr 1 x2), (4, rr 2 (s13.1.set s13.2.toNat x17.1)), (5, iv s13.2)] [(0, .box [iv 0, iv 0, iv 0, iv 0]), (1, rE 1 eStr x2), (2, rE 1 eI64 (s13.1.set s13.2.toNat x17.1))]) (by simp only [rr, List.length_set]) ?_
      refine J_g 2003 [] [(2, pp 0), (3, rr 1 x2), (4, rr 2 (s13.1.set s13.2.toNat x17.1)), (5, iv (w64 (s13.2 + 1)))] [(0, .box [iv 0, iv 0, iv 0, iv 0]), (1, rE 1 eStr x2), (2, rE 1 eI64 (s13.1.set s13.2.toNat x17.1))] orcN ?_
      exact J_q (J_b (ih (s13.1.set s13.2.toNat x17.1, w64 (s13.2 + 1)))) rfl
  · exact J_qw (hk s13.1) rfl

theorem spec_ParseVersion.ok (a1 : ByteArray) : Ok Tryz.prog 287 [sv a1] [] ((spec_ParseVersion a1).map fun r => (.ag (VersionResult.enc r), [])) := by
  refine Ok_of3 c287 Tryz.f287 0 47 (fun q => ?_)
  unfold spec_ParseVersion
  refine J_g 2 [(0, 0)] [(0, sv a1), (2, pp 0)] [(0, .box [iv 0, iv 0, iv 0, iv 0])] orcN ?_
  refine J_bind (fun x2 h3 => ?_)
  refine J_g 6 [] [(2, pp 0), (3, rr 1 x2)] [(0, .box [iv 0, iv 0, iv 0, iv 0]), (1, rE 1 eStr x2)] (orcC 1 (x_c1 («as» := [sv a1, uv 46]) [(.tmp 8), (.const (.int .u8 46))] [9, 5] false [] [] (.cons (.same rfl) (.cons (.same rfl) (.nil))) (spec_l1Parts.ok a1 46) h3 (.own 1)) orcN) ?_
  refine J_g 28 [] [(2, pp 0), (3, rr 1 x2), (12, bv (decide ((x2.length : Int) > 3)))] [(0, .box [iv 0, iv 0, iv 0, iv 0]), (1, rE 1 eStr x2)] orcN ?_
  refine J_if2 12 (fun h4 => ?_) (fun h4 => ?_)
  · refine J_g 116 [] [(2, pp 0)] [(0, .box [iv 5, iv 0, iv 0, iv 0])] orcN ?_
    exact J_r1 rfl
  · refine J_g 30 [] [(2, pp 0), (3, rr 1 x2), (4, rr 2 [0, 0, 0])] [(0, .box [iv 0, iv 0, iv 0, iv 0]), (1, rE 1 eStr x2), (2, rE 1 eI64 [0, 0, 0])] (orcC 0 (x_bp 70 2 1 2 eI64 [0, 0, 0] [0, 1, 2] [(.const (.int .i64 0)), (.const (.int .i64 0)), (.const (.int .i64 0))] [iv 0, iv 0, iv 0]) orcN) ?_
    refine J_g 124 [] [(2, pp 0), (3, rr 1 x2), (4, rr 2 [0, 0, 0]), (5, iv 0)] [(0, .box [iv 0, iv 0, iv 0, iv 0]), (1, rE 1 eStr x2), (2, rE 1 eI64 [0, 0, 0])] orcN ?_
    refine J_lqF (K0 := (fun r : VersionResult => some (.ag (VersionResult.enc r), []))) (fun _ => rfl) (spec_ParseVersion_l1.ok x2 q _ (fun v22 => J_j ?_) ([0, 0, 0], 0))
    refine J_bind (fun x23 h24 => ?_)
    refine J_bind (fun x25 h26 => ?_)
    refine J_bind (fun x27 h28 => ?_)
    refine J_g 126 [] [(2, pp 0)] [(0, .box [iv 0, iv x23, iv x25, iv x27])] (orcC 1 (x_ixr (kk := .i64) 70 2 1 2 eI64 (.tmp 36) (.const (.int .i64 0)) h24) (orcC 2 (x_ldr (d := iv x23) 2 1 2 0 eI64 (.tmp 37) h24 (by kernel_rfl)) (orcC 4 (x_ixr (kk := .i64) 70 2 1 2 eI64 (.tmp 39) (.const (.int .i64 1)) h26) (orcC 5 (x_ldr (d := iv x25) 2 1 2 0 eI64 (.tmp 40) h26 (by kernel_rfl)) (orcC 7 (x_ixr (kk := .i64) 70 2 1 2 eI64 (.tmp 42) (.const (.int .i64 2)) h28) (orcC 8 (x_ldr (d := iv x27) 2 1 2 0 eI64 (.tmp 43) h28 (by kernel_rfl)) orcN)))))) ?_
    exact J_r1 rfl

noncomputable def c238 : Code := (Tryz.f238.body).getD .skip

theorem spec_l3Put_l1.ok (a1 : (List Int)) (a2 : Int) (q : Wd) (kn : ((List Int) × Bool) → Option (D × List Ent)) (hk : ∀ v : ((List Int) × Bool), J (q.g Tryz.prog 238 0 43) c238 (atI c238 31) (St.mk' [(1, iv a2), (5, rr 0 v.1), (6, bv v.2)] [(0, rE 1 eI64 v.1)]) (some v) kn) :
    ∀ s16 : ((List Int) × Bool × Int), J (q.g Tryz.prog 238 0 43) c238 (atI c238 244) (St.mk' [(0, sl 1 eI64 a1), (1, iv a2), (5, rr 0 s16.1), (6, bv s16.2.1), (7, iv s16.2.2)] [(0, rE 1 eI64 s16.1)]) (spec_l3Put_l1 a1 a2 s16) kn := by
  refine J_lp (fun g ih s16 => ?_)
  unfold spec_l3Put_l1b
  refine J_g 976 [] [(0, sl 1 eI64 a1), (1, iv a2), (5, rr 0 s16.1), (6, bv s16.2.1), (7, iv s16.2.2), (12, bv (decide (s16.2.2 < (a1.length : Int))))] [(0, rE 1 eI64 s16.1)] orcN ?_
  refine J_if2 12 (fun h17 => ?_) (fun h17 => ?_)
  · refine J_bind (fun x18 h19 => ?_)
    refine J_join (atI c238 7825) (fun v21 : Bool => St.mk' [(0, sl 1 eI64 a1), (1, iv a2), (5, rr 0 s16.1), (6, bv s16.2.1), (7, iv s16.2.2), (24, bv v21)] [(0, rE 1 eI64 s16.1)]) (fun v21 => ?_) (fun jv21 => ?_)
    · refine J_join (atI c238 3913) (fun v25 : ((List Int) × Bool) => St.mk' [(0, sl 1 eI64 a1), (1, iv a2), (5, rr 2 v25.1), (6, bv v25.2), (7, iv s16.2.2)] [(2, rE 1 eI64 v25.1)]) (fun v25 => ?_) (fun jv25 => ?_)
      · refine J_bind (fun x26 h27 => ?_)
        refine J_bind (fun x28 h29 => ?_)
        refine J_g 3913 [] [(0, sl 1 eI64 a1), (1, iv a2), (5, rr 4 x28), (6, bv v25.2), (7, iv s16.2.2)] [(4, rE 1 eI64 x28)] (orcC 3 (x_ix (kk := .i64) 70 2 1 eI64 (.tmp 30) (.tmp 31) h27) (orcC 5 (x_bp 70 2 1 3 eI64 [x26] [0] [(.tmp 33)] [iv x26]) (orcC 6 (x_ap 70 70 2 2 1 8 4 2 3 eI64 (.tmp 29) (.tmp 34) h29) orcN))) ?_
        refine J_g 979 [] [(0, sl 1 eI64 a1), (1, iv a2), (5, rr 4 x28), (6, bv v25.2), (7, iv (w64 (s16.2.2 + 1)))] [(4, rE 1 eI64 x28)] orcN ?_
        refine J_ren 4 0 (Nat.le_of_ble_eq_true rfl) (Nat.le_of_ble_eq_true rfl) ?_
        exact J_q (J_b (ih (x28, v25.2, w64 (s16.2.2 + 1)))) rfl
      · refine J_if2 24 (fun h22 => ?_) (fun h22 => ?_)
        · refine J_bind (fun x23 h24 => ?_)
          refine J_g 31300 [] [(0, sl 1 eI64 a1), (1, iv a2), (5, rr 2 x23), (7, iv s16.2.2)] [(2, rE 1 eI64 x23)] (orcC 2 (x_bp 70 2 1 1 eI64 [a2] [0] [(.tmp 26)] [iv a2]) (orcC 3 (x_ap 70 70 2 2 1 8 2 0 1 eI64 (.tmp 25) (.tmp 27) h24) orcN)) ?_
          refine J_g 31301 [] [(0, sl 1 eI64 a1), (1, iv a2), (5, rr 2 x23), (6, bv true), (7, iv s16.2.2)] [(2, rE 1 eI64 x23)] orcN ?_
          exact J_qw (J_j (jv25 (x23, true))) rfl
        · refine J_ren 0 2 (Nat.le_of_ble_eq_true rfl) (Nat.le_of_ble_eq_true rfl) ?_
          exact J_qw (J_j (jv25 (s16.1, s16.2.1))) rfl
    · refine J_ite (fun h20 => ?_) (fun h20 => ?_)
      · refine J_g 7824 [] [(0, sl 1 eI64 a1), (1, iv a2), (5, rr 0 s16.1), (6, bv s16.2.1), (7, iv s16.2.2), (24, bv (!s16.2.1))] [(0, rE 1 eI64 s16.1)] (orcC 2 (x_ix (kk := .i64) 70 2 1 eI64 (.tmp 15) (.tmp 16) h19) (orcL 6 [(20, bv (decide (x18 > a2)))] [] h20 orcN)) ?_
        exact J_qw (J_j (jv21 (!s16.2.1))) rfl
      · refine J_g 7824 [] [(0, sl 1 eI64 a1), (1, iv a2), (5, rr 0 s16.1), (6, bv s16.2.1), (7, iv s16.2.2), (24, bv false)] [(0, rE 1 eI64 s16.1)] (orcC 2 (x_ix (kk := .i64) 70 2 1 eI64 (.tmp 15) (.tmp 16) h19) (orcL 6 [(20, bv (decide (x18 > a2)))] [] h20 orcN)) ?_
        exact J_qw (J_j (jv21 false)) rfl
  · exact J_qw (hk (s16.1, s16.2.1)) rfl

theorem spec_l3Put.ok (a1 : (List Int)) (a2 : Int) : Ok Tryz.prog 238 [sl 1 eI64 a1, iv a2] [] ((spec_l3Put a1 a2).map fun r => (so 1 eI64 r, [])) := by
  refine Ok_of3 c238 Tryz.f238 0 43 (fun q => ?_)
  unfold spec_l3Put
  refine J_g 2 [] [(0, sl 1 eI64 a1), (1, iv a2)] [] orcN ?_
  refine J_g 6 [] [(0, sl 1 eI64 a1), (1, iv a2), (5, rr 0 ([] : List Int))] [(0, rE 1 eI64 ([] : List Int))] (orcC 0 (x_bp 70 2 1 0 eI64 ([] : List Int) [] [] []) orcN) ?_
  refine J_g 14 [] [(0, sl 1 eI64 a1), (1, iv a2), (5, rr 0 ([] : List Int)), (6, bv false)] [(0, rE 1 eI64 ([] : List Int))] orcN ?_
  refine J_g 60 [] [(0, sl 1 eI64 a1), (1, iv a2), (5, rr 0 ([] : List Int)), (6, bv false), (7, iv 0)] [(0, rE 1 eI64 ([] : List Int))] orcN ?_
  refine J_lq (spec_l3Put_l1.ok a1 a2 q _ (fun v30 => J_j ?_) (([] : List Int), false, 0))
  refine J_g 124 [] [(1, iv a2), (5, rr 0 v30.1), (37, bv (!v30.2))] [(0, rE 1 eI64 v30.1)] orcN ?_
  refine J_join (atI c238 63) (fun v34 : (List Int) => St.mk' [(5, rr 2 v34)] [(2, rE 1 eI64 v34)]) (fun v34 => ?_) (fun jv34 => ?_)
  · refine J_g 126 [] [(4, rr 2 v34)] [(2, rE 1 eI64 v34)] orcN ?_
    exact J_rm (ds := [rr 2 v34]) (ds' := [so 1 eI64 v34]) (.cons (.cell (.move (.head _) (List.length_map _) (by decide) (.nil))) (.nil) (by decide)) rfl
  · refine J_if2 37 (fun h31 => ?_) (fun h31 => ?_)
    · refine J_bind (fun x32 h33 => ?_)
      refine J_g 250 [] [(5, rr 2 x32)] [(2, rE 1 eI64 x32)] (orcC 2 (x_bp 70 2 1 1 eI64 [a2] [0] [(.tmp 39)] [iv a2]) (orcC 3 (x_ap 70 70 2 2 1 8 2 0 1 eI64 (.tmp 38) (.tmp 40) h33) orcN)) ?_
      exact J_qw (J_j (jv34 x32)) rfl
    · refine J_ren 0 2 (Nat.le_of_ble_eq_true rfl) (Nat.le_of_ble_eq_true rfl) ?_
      exact J_qw (J_j (jv34 v30.1)) rfl

noncomputable def c195 : Code := (Tryz.f195.body).getD .skip

theorem spec_l3Parse_l1.ok (a1 : (List Pack)) (x4 : (List ByteArray)) (q : Wd) (kn : (List Int) → Option (D × List Ent)) (hk : ∀ v : (List Int), J (q.g Tryz.prog 195 0 60) c195 (atI c195 63) (St.mk' [(4, pp 0), (6, rr 2 v)] [(0, .box [iv 0, iv 0, nv]), (2, rE 1 eI64 v)]) (some v) kn) :
    ∀ s29 : ((List Int) × Int), J (q.g Tryz.prog 195 0 60) c195 (atI c195 500) (St.mk' [(0, sl 8 (Pack.enc false) a1), (4, pp 0), (5, rr 1 x4), (6, rr 2 s29.1), (7, iv s29.2)] [(0, .box [iv 0, iv 0, nv]), (1, rE 1 eStr x4), (2, rE 1 eI64 s29.1)]) (spec_l3Parse_l1 a1 x4 s29) (Fl.go (fun r : SetResult => some (.ag [iv r.Code, iv r.At, so 1 eI64 r.Set], [])) kn) := by
  refine J_lp (fun g ih s29 => ?_)
  unfold spec_l3Parse_l1b
  refine J_g 2000 [] [(0, sl 8 (Pack.enc false) a1), (4, pp 0), (5, rr 1 x4), (6, rr 2 s29.1), (7, iv s29.2), (21, bv (decide (s29.2 < (x4.length : Int))))] [(0, .box [iv 0, iv 0, nv]), (1, rE 1 eStr x4), (2, rE 1 eI64 s29.1)] orcN ?_
  refine J_if2 21 (fun h30 => ?_) (fun h30 => ?_)
  · refine J_bind (fun x31 h32 => ?_)
    refine J_bind (fun x33 h34 => ?_)
    refine J_g 8008 [] [(0, sl 8 (Pack.enc false) a1), (4, pp 0), (5, rr 1 x4), (6, rr 2 s29.1), (7, iv s29.2), (8, rr 3 x33)] [(0, .box [iv 0, iv 0, nv]), (1, rE 1 eStr x4), (2, rE 1 eI64 s29.1), (3, rE 1 eStr x33)] (orcC 2 (x_ixr (kk := .i64) 94 9 1 1 eStr (.tmp 24) (.tmp 25) h32) (orcC 3 (x_ldr (d := sv x31) 9 1 1 0 eStr (.tmp 26) h32 (by kernel_rfl)) (orcC 4 (x_c1 («as» := [sv x31]) [(.tmp 27)] [9] false [] [] (.cons (.same rfl) (.nil)) (spec_l2Words.ok x31) h34 (.own 3)) orcN))) ?_
    refine J_g 16018 [] [(0, sl 8 (Pack.enc false) a1), (4, pp 0), (5, rr 1 x4), (6, rr 2 s29.1), (7, iv s29.2), (8, rr 3 x33), (9, iv (-1))] [(0, .box [iv 0, iv 0, nv]), (1, rE 1 eStr x4), (2, rE 1 eI64 s29.1), (3, rE 1 eStr x33)] orcN ?_
    refine J_g 64076 [] [(0, sl 8 (Pack.enc false) a1), (4, pp 0), (5, rr 1 x4), (6, rr 2 s29.1), (7, iv s29.2), (8, rr 3 x33), (9, iv (-1)), (31, bv ((x33.length : Int) == 2))] [(0, .box [iv 0, iv 0, nv]), (1, rE 1 eStr x4), (2, rE 1 eI64 s29.1), (3, rE 1 eStr x33)] orcN ?_
    refine J_join (atI c195 32039) (fun v45 : Int => St.mk' [(0, sl 8 (Pack.enc false) a1), (4, pp 0), (5, rr 1 x4), (6, rr 2 s29.1), (7, iv s29.2), (9, iv v45)] [(0, .box [iv 0, iv 0, nv]), (1, rE 1 eStr x4), (2, rE 1 eI64 s29.1)]) (fun v45 => ?_) (fun jv45 => ?_)
    · refine J_join (atI c195 128157) (fun v49 : Bool => St.mk' [(0, sl 8 (Pack.enc false) a1), (4, pp 0), (5, rr 1 x4), (6, rr 2 s29.1), (7, iv s29.2), (9, iv v45), (52, bv v49)] [(0, .box [iv 0, iv 0, nv]), (1, rE 1 eStr x4), (2, rE 1 eI64 s29.1)]) (fun v49 => ?_) (fun jv49 => ?_)
      · refine J_if2 52 (fun h50 => ?_) (fun h50 => ?_)
        · refine J_g 512628 [] [(4, pp 0)] [(0, .box [iv 5, iv s29.2, nv])] orcN ?_
          exact J_rm (ds := [.ag [iv 5, iv s29.2, nv]]) (ds' := [.ag [iv 5, iv s29.2, so 1 eI64 ([] : List Int)]]) (.cons (.ag (.keep rfl (.keep rfl (.nilsl true 1 (.nil))))) (.nil) (by decide)) rfl
        · refine J_bind (fun x51 h52 => ?_)
          refine J_g 64079 [] [(0, sl 8 (Pack.enc false) a1), (4, pp 0), (5, rr 1 x4), (6, rr 3 x51), (7, iv s29.2)] [(0, .box [iv 0, iv 0, nv]), (1, rE 1 eStr x4), (3, rE 1 eI64 x51)] (orcC 2 (x_c1 («as» := [rr 2 s29.1, iv v45]) [(.tmp 55), (.tmp 56)] [70, 2] true [(2, rE 1 eI64 s29.1)] [] (.cons (am_b (.head _) (fun _ => rfl) rfl) (.cons (.same rfl) (.nil))) (spec_l3Put.ok s29.1 v45) h52 (.own 3) (hbor := fun _ => ⟨rfl, (flat_s (flatM (fun _ => (flatK flat_sc flatN)) _))⟩)) orcN) ?_
          refine J_g 2003 [] [(0, sl 8 (Pack.enc false) a1), (4, pp 0), (5, rr 1 x4), (6, rr 3 x51), (7, iv (w64 (s29.2 + 1)))] [(0, .box [iv 0, iv 0, nv]), (1, rE 1 eStr x4), (3, rE 1 eI64 x51)] orcN ?_
          refine J_ren 3 2 (Nat.le_of_ble_eq_true rfl) (Nat.le_of_ble_eq_true rfl) ?_
          exact J_q (J_b (ih (x51, w64 (s29.2 + 1)))) rfl
      · refine J_ite (fun h46 => ?_) (fun h46 => ?_)
        · refine J_g 128156 [] [(0, sl 8 (Pack.enc false) a1), (4, pp 0), (5, rr 1 x4), (6, rr 2 s29.1), (7, iv s29.2), (9, iv v45), (52, bv true)] [(0, .box [iv 0, iv 0, nv]), (1, rE 1 eStr x4), (2, rE 1 eI64 s29.1)] (orcL 2 [(47, bv (decide (v45 < 0)))] [] h46 orcN) ?_
          exact J_qw (J_j (jv49 true)) rfl
        · refine J_bind (fun x47 h48 => ?_)
          refine J_g 128156 [] [(0, sl 8 (Pack.enc false) a1), (4, pp 0), (5, rr 1 x4), (6, rr 2 s29.1), (7, iv s29.2), (9, iv v45), (52, bv x47)] [(0, .box [iv 0, iv 0, nv]), (1, rE 1 eStr x4), (2, rE 1 eI64 s29.1)] (orcL 2 [(47, bv (decide (v45 < 0)))] [] h46 (orcH 5 2 48 false (x_c1 («as» := [rr 2 s29.1, iv v45]) [(.tmp 49), (.tmp 50)] [70, 2] true [(2, rE 1 eI64 s29.1)] [] (.cons (am_b (.head _) (fun _ => rfl) rfl) (.cons (.same rfl) (.nil))) (spec_l1Has.ok s29.1 v45) h48 (.same rfl rfl) (hbor := fun _ => ⟨rfl, flat_sc⟩)) orcN)) ?_
          exact J_qw (J_j (jv49 x47)) rfl
    · refine J_if2 31 (fun h35 => ?_) (fun h35 => ?_)
      · refine J_bind (fun x36 h37 => ?_)
        refine J_bind (fun x38 h39 => ?_)
        refine J_g 256308 [(4, 4)] [(0, sl 8 (Pack.enc false) a1), (4, pp 0), (5, rr 1 x4), (6, rr 2 s29.1), (7, iv s29.2), (8, rr 3 x33), (9, iv (-1)), (10, pp 4)] [(0, .box [iv 0, iv 0, nv]), (1, rE 1 eStr x4), (2, rE 1 eI64 s29.1), (3, rE 1 eStr x33), (4, .box (VersionResult.enc x38))] (orcC 1 (x_ixr (kk := .i64) 94 9 1 3 eStr (.tmp 32) (.const (.int .i64 1)) h37) (orcC 2 (x_ldr (d := sv x36) 9 1 3 0 eStr (.tmp 33) h37 (by kernel_rfl)) (orcC 3 (x_c0 [(.tmp 34)] [9] (spec_ParseVersion.ok x36) h39) orcN))) ?_
        refine J_g 512618 [] [(0, sl 8 (Pack.enc false) a1), (4, pp 0), (5, rr 1 x4), (6, rr 2 s29.1), (7, iv s29.2), (8, rr 3 x33), (9, iv (-1)), (10, pp 4), (38, bv (x38.Code == 0))] [(0, .box [iv 0, iv 0, nv]), (1, rE 1 eStr x4), (2, rE 1 eI64 s29.1), (3, rE 1 eStr x33), (4, .box (VersionResult.enc x38))] orcN ?_
        refine J_if2 38 (fun h40 => ?_) (fun h40 => ?_)
        · refine J_bind (fun x41 h42 => ?_)
          refine J_bind (fun x43 h44 => ?_)
          refine J_g 1025238 [] [(0, sl 8 (Pack.enc false) a1), (4, pp 0), (5, rr 1 x4), (6, rr 2 s29.1), (7, iv s29.2), (9, iv x43)] [(0, .box [iv 0, iv 0, nv]), (1, rE 1 eStr x4), (2, rE 1 eI64 s29.1)] (orcC 2 (x_ixr (kk := .i64) 94 9 1 3 eStr (.tmp 40) (.const (.int .i64 0)) h42) (orcC 3 (x_ldr (d := sv x41) 9 1 3 0 eStr (.tmp 41) h42 (by kernel_rfl)) (orcC 6 (x_c0 [(.tmp 39), (.tmp 42), (.tmp 44)] [47, 9, 39] (spec_l2Find.ok a1 x41 x38.Version) h44) orcN))) ?_
          exact J_qw (J_j (jv45 x43)) rfl
        · exact J_qw (J_j (jv45 (-1))) rfl
      · exact J_qw (J_j (jv45 (-1))) rfl
  · exact J_qw (hk s29.1) rfl

theorem spec_l3Parse.ok (a1 : (List Pack)) (a2 : ByteArray) : Ok Tryz.prog 195 [sl 8 (Pack.enc false) a1, sv a2] [] ((spec_l3Parse a1 a2).map fun r => (.ag [iv r.Code, iv r.At, so 1 eI64 r.Set], [])) := by
  refine Ok_of3 c195 Tryz.f195 0 60 (fun q => ?_)
  unfold spec_l3Parse
  refine J_g 2 [(0, 0)] [(0, sl 8 (Pack.enc false) a1), (1, sv a2), (4, pp 0)] [(0, .box [iv 0, iv 0, nv])] orcN ?_
  refine J_g 12 [] [(0, sl 8 (Pack.enc false) a1), (1, sv a2), (4, pp 0), (13, bv (decide ((a2.size : Int) > 4000)))] [(0, .box [iv 0, iv 0, nv])] orcN ?_
  refine J_if2 13 (fun h3 => ?_) (fun h3 => ?_)
  · refine J_g 52 [] [(4, pp 0)] [(0, .box [iv 2, iv 0, nv])] orcN ?_
    exact J_rm (ds := [.ag [iv 2, iv 0, nv]]) (ds' := [.ag [iv 2, iv 0, so 1 eI64 ([] : List Int)]]) (.cons (.ag (.keep rfl (.keep rfl (.nilsl true 1 (.nil))))) (.nil) (by decide)) rfl
  · refine J_bind (fun x4 h5 => ?_)
    refine J_g 14 [] [(0, sl 8 (Pack.enc false) a1), (4, pp 0), (5, rr 1 x4)] [(0, .box [iv 0, iv 0, nv]), (1, rE 1 eStr x4)] (orcC 1 (x_c1 («as» := [sv a2]) [(.tmp 15)] [9] false [] [] (.cons (.same rfl) (.nil)) (spec_l2Lines.ok a2) h5 (.own 1)) orcN) ?_
    refine J_g 30 [] [(0, sl 8 (Pack.enc false) a1), (4, pp 0), (5, rr 1 x4), (6, rr 2 ([] : List Int))] [(0, .box [iv 0, iv 0, nv]), (1, rE 1 eStr x4), (2, rE 1 eI64 ([] : List Int))] (orcC 0 (x_bp 70 2 1 2 eI64 ([] : List Int) [] [] []) orcN) ?_
    refine J_g 124 [] [(0, sl 8 (Pack.enc false) a1), (4, pp 0), (5, rr 1 x4), (6, rr 2 ([] : List Int)), (7, iv 0)] [(0, .box [iv 0, iv 0, nv]), (1, rE 1 eStr x4), (2, rE 1 eI64 ([] : List Int))] orcN ?_
    refine J_lqF (K0 := (fun r : SetResult => some (.ag [iv r.Code, iv r.At, so 1 eI64 r.Set], []))) (fun _ => rfl) (spec_l3Parse_l1.ok a1 x4 q _ (fun v53 => J_j ?_) (([] : List Int), 0))
    refine J_g 126 [] [(4, pp 0)] [(0, .box [iv 0, iv 0, rr 2 v53]), (2, rE 1 eI64 v53)] orcN ?_
    exact J_rm (ds := [.ag [iv 0, iv 0, rr 2 v53]]) (ds' := [.ag [iv 0, iv 0, so 1 eI64 v53]]) (.cons (.ag (.keep rfl (.keep rfl (.move (.tail _ (.head _)) (List.length_map _) (by decide) (.nil))))) (.nil) (by decide)) rfl

noncomputable def c128 : Code := (Tryz.f128.body).getD .skip

theorem spec_l8Set.ok (a1 : (List Pack)) (a2 : Disk) (a3 : Int) : Ok Tryz.prog 128 [sl 8 (Pack.enc false) a1, pp 0, iv a3] [.box (Disk.enc false a2)] ((spec_l8Set a1 a2 a3).map fun r => (.ag [iv r.Code, iv r.At, so 1 eI64 r.Set], [.box (Disk.enc false a2)])) := by
  refine Ok_of3 c128 Tryz.f128 1 35 (fun q => ?_)
  unfold spec_l8Set
  refine J_g 2 [(0, 1)] [(0, sl 8 (Pack.enc false) a1), (1, pp 0), (2, iv a3), (6, pp 1)] [(0, .box (Disk.enc false a2)), (1, .box [iv 0, iv 0, nv])] orcN ?_
  refine J_bind (fun x4 h5 => ?_)
  refine J_bind (fun x6 h7 => ?_)
  refine J_g 12 [] [(0, sl 8 (Pack.enc false) a1), (1, pp 0), (2, iv a3), (6, pp 1), (12, bv (!x6))] [(0, .box (Disk.enc false a2)), (1, .box [iv 0, iv 0, nv])] (orcC 1 (x_ro [(0, .box (Disk.enc false a2))] [(2, rE 1 eI64 x4)] (x_c1 («as» := [pp 0]) [(.tmp 8)] [109] false [(0, .box (Disk.enc false a2))] [0] (.cons (.pt rfl) (.nil)) (spec_l8Gens.ok a2) h5 (.own 2))) (orcC 3 (x_c1 («as» := [rr 2 x4, iv a3]) [(.tmp 9), (.tmp 10)] [70, 2] true [(2, rE 1 eI64 x4)] [] (.cons (am_b (.head _) (fun _ => rfl) rfl) (.cons (.same rfl) (.nil))) (spec_l1Has.ok x4 a3) h7 (.same rfl rfl) (hbor := fun _ => ⟨rfl, flat_sc⟩)) orcN)) ?_
  refine J_if2 12 (fun h8 => ?_) (fun h8 => ?_)
  · refine J_g 52 [] [(6, pp 1)] [(0, .box (Disk.enc false a2)), (1, .box [iv 4, iv 0, nv])] orcN ?_
    exact J_rm (ds := [.ag [iv 4, iv 0, nv]]) (ds' := [.ag [iv 4, iv 0, so 1 eI64 ([] : List Int)]]) (.cons (.ag (.keep rfl (.keep rfl (.nilsl true 1 (.nil))))) (.nil) (by decide)) rfl
  · refine J_bind (fun x9 h10 => ?_)
    refine J_bind (fun x11 h12 => ?_)
    refine J_bind (fun x13 h14 => ?_)
    refine J_bind (fun x15 h16 => ?_)
    refine J_g 14 [(14, 3)] [(6, pp 1), (7, pp 3)] [(0, .box (Disk.enc false a2)), (1, .box [iv 0, iv 0, nv]), (2, rE 1 eI64 x15.Set), (3, .box [iv x15.Code, iv x15.At, rr 2 x15.Set])] (orcC 7 (x_c0 [(.tmp 20)] [2] (spec_GenPath.ok a3) h10) (orcC 8 (x_ro [(0, .box (Disk.enc false a2))] [] (x_c1 («as» := [pp 0, sv x9]) [(.tmp 19), (.tmp 21)] [109, 9] false [(0, .box (Disk.enc false a2))] [0] (.cons (.pt rfl) (.cons (.same rfl) (.nil))) (spec_l7Find.ok a2 x9) h12 (.same rfl rfl))) (orcC 9 (x_ix (kk := .i64) 27 175 2 (File.enc false) (.tmp 18) (.tmp 22) h14) (orcC 12 (x_b2s (xs := x13.Data) 22 9 5 (.tmp 25)) (orcC 13 (x_c1 («as» := [sl 8 (Pack.enc false) a1, sv (b2s x13.Data)]) [(.tmp 14), (.tmp 26)] [47, 9] false [] [] (.cons (.same rfl) (.cons (.same rfl) (.nil))) (spec_l3Parse.ok a1 (b2s x13.Data)) h16 (.ag (.cons (.same rfl rfl) (.cons (.same rfl rfl) (.cons (.own 2) (.nil)))))) orcN))))) ?_
    refine J_g 60 [] [(6, pp 1), (7, pp 3), (30, bv (x15.Code != 0))] [(0, .box (Disk.enc false a2)), (1, .box [iv 0, iv 0, nv]), (2, rE 1 eI64 x15.Set), (3, .box [iv x15.Code, iv x15.At, rr 2 x15.Set])] orcN ?_
    refine J_if2 30 (fun h17 => ?_) (fun h17 => ?_)
    · refine J_g 244 [] [(6, pp 1)] [(0, .box (Disk.enc false a2)), (1, .box [iv x15.Code, iv 0, nv])] orcN ?_
      exact J_rm (ds := [.ag [iv x15.Code, iv 0, nv]]) (ds' := [.ag [iv x15.Code, iv 0, so 1 eI64 ([] : List Int)]]) (.cons (.ag (.keep rfl (.keep rfl (.nilsl true 1 (.nil))))) (.nil) (by decide)) rfl
    · refine J_g 62 [] [(6, pp 1)] [(0, .box (Disk.enc false a2)), (1, .box [iv x15.Code, iv x15.At, rr 2 x15.Set]), (2, rE 1 eI64 x15.Set)] orcN ?_
      exact J_rm (ds := [.ag [iv x15.Code, iv x15.At, rr 2 x15.Set]]) (ds' := [.ag [iv x15.Code, iv x15.At, so 1 eI64 x15.Set]]) (.cons (.ag (.keep rfl (.keep rfl (.move (.tail _ (.tail _ (.head _))) (List.length_map _) (by decide) (.nil))))) (.nil) (by decide)) rfl

noncomputable def c51 : Code := (Tryz.f51.body).getD .skip

theorem spec_SetOfGen.ok (a1 : (List Pack)) (a2 : Disk) (a3 : Int) : Ok Tryz.prog 51 [sl 8 (Pack.enc false) a1, .ag (Disk.enc false a2), iv a3] [] ((spec_SetOfGen a1 a2 a3).map fun r => (.ag [iv r.Code, iv r.At, so 1 eI64 r.Set], [])) := by
  refine Ok_of3 c51 Tryz.f51 0 18 (fun q => ?_)
  unfold spec_SetOfGen
  refine J_g 2 [(0, 0), (1, 1)] [(0, sl 8 (Pack.enc false) a1), (2, iv a3), (4, pp 0), (6, pp 1)] [(0, .box (Disk.enc false a2)), (1, .box [iv 0, iv 0, nv])] orcN ?_
  refine J_bind (fun x4 h5 => ?_)
  refine J_g 12 [] [(0, sl 8 (Pack.enc false) a1), (2, iv a3), (4, pp 0), (6, pp 1), (7, iv x4)] [(0, .box (Disk.enc false a2)), (1, .box [iv 0, iv 0, nv])] (orcC 2 (x_c0 [(.tmp 8), (.tmp 9)] [47, 29] (spec_l8Asked.ok a1 a2) h5) orcN) ?_
  refine J_g 26 [] [(0, sl 8 (Pack.enc false) a1), (2, iv a3), (4, pp 0), (6, pp 1), (7, iv x4), (12, bv (x4 != 0))] [(0, .box (Disk.enc false a2)), (1, .box [iv 0, iv 0, nv])] orcN ?_
  refine J_if2 12 (fun h6 => ?_) (fun h6 => ?_)
  · refine J_g 108 [] [(6, pp 1)] [(1, .box [iv x4, iv 0, nv])] orcN ?_
    exact J_rm (ds := [.ag [iv x4, iv 0, nv]]) (ds' := [.ag [iv x4, iv 0, so 1 eI64 ([] : List Int)]]) (.cons (.ag (.keep rfl (.keep rfl (.nilsl true 1 (.nil))))) (.nil) (by decide)) rfl
  · refine J_bind (fun x7 h8 => ?_)
    refine J_g 14 [] [(6, pp 1)] [(1, .box [iv x7.Code, iv x7.At, rr 2 x7.Set]), (2, rE 1 eI64 x7.Set)] (orcC 2 (x_ro [(0, .box (Disk.enc false a2))] [(2, rE 1 eI64 x7.Set)] (x_c1 («as» := [sl 8 (Pack.enc false) a1, pp 0, iv a3]) [(.tmp 15), (.tmp 4), (.tmp 16)] [47, 109, 2] false [(0, .box (Disk.enc false a2))] [0] (.cons (.same rfl) (.cons (.pt rfl) (.cons (.same rfl) (.nil)))) (spec_l8Set.ok a1 a2 a3) h8 (.ag (.cons (.same rfl rfl) (.cons (.same rfl rfl) (.cons (.own 2) (.nil))))))) orcN) ?_
    exact J_rm (ds := [.ag [iv x7.Code, iv x7.At, rr 2 x7.Set]]) (ds' := [.ag [iv x7.Code, iv x7.At, so 1 eI64 x7.Set]]) (.cons (.ag (.keep rfl (.keep rfl (.move (.tail _ (.head _)) (List.length_map _) (by decide) (.nil))))) (.nil) (by decide)) rfl

noncomputable def c269 : Code := (Tryz.f269.body).getD .skip

theorem impl_isNameByte.ok (a1 : Int) : Ok Tryz.prog 269 [uv a1] [] ((impl_isNameByte a1).map fun r => (bv r, [])) := by
  refine Ok_of3 c269 Tryz.f269 0 21 (fun q => ?_)
  unfold impl_isNameByte
  refine J_g 2 [] [(0, uv a1)] [] orcN ?_
  refine J_ite (fun h2 => ?_) (fun h2 => ?_)
  · refine J_ite (fun h3 => ?_) (fun h3 => ?_)
    · refine J_g 6 [] [(2, bv true)] [] (orcL 2 [(4, bv (decide (a1 ≥ 97)))] [] h2 (orcL 6 [(8, bv (decide (a1 ≤ 122)))] [] h3 (orcV 9 (orcU (i := 9) (g := 6) (t := 9) (b := false) (v := (.bool true)) (.inl rfl) (by kernel_rfl) (by kernel_rfl)) (orcV 10 (orcU (i := 10) (g := 9) (t := 12) (b := true) (v := undef) (.inr rfl) (by kernel_rfl) (by kernel_rfl)) (orcV 11 (orcU (i := 11) (g := 9) (t := 12) (b := true) (v := undef) (.inr rfl) (by kernel_rfl) (by kernel_rfl)) orcN))))) ?_
      exact J_r1 rfl
    · refine J_ite (fun h4 => ?_) (fun h4 => ?_)
      · refine J_ite (fun h5 => ?_) (fun h5 => ?_)
        · refine J_g 6 [] [(2, bv true)] [] (orcL 2 [(4, bv (decide (a1 ≥ 97)))] [] h2 (orcL 6 [(8, bv (decide (a1 ≤ 122)))] [] h3 (orcLG 9 6 9 false [(11, bv (decide (a1 ≥ 48)))] [] h4 (orcL 14 [(16, bv (decide (a1 ≤ 57)))] [] h5 orcN)))) ?_
          exact J_r1 rfl
        · refine J_g 6 [] [(2, bv (a1 == 95))] [] (orcL 2 [(4, bv (decide (a1 ≥ 97)))] [] h2 (orcL 6 [(8, bv (decide (a1 ≤ 122)))] [] h3 (orcLG 9 6 9 false [(11, bv (decide (a1 ≥ 48)))] [] h4 (orcL 14 [(16, bv (decide (a1 ≤ 57)))] [] h5 orcN)))) ?_
          exact J_r1 rfl
      · refine J_g 6 [] [(2, bv (a1 == 95))] [] (orcL 2 [(4, bv (decide (a1 ≥ 97)))] [] h2 (orcL 6 [(8, bv (decide (a1 ≤ 122)))] [] h3 (orcLG 9 6 9 false [(11, bv (decide (a1 ≥ 48)))] [] h4 orcN))) ?_
        exact J_r1 rfl
  · refine J_ite (fun h6 => ?_) (fun h6 => ?_)
    · refine J_ite (fun h7 => ?_) (fun h7 => ?_)
      · refine J_g 6 [] [(2, bv true)] [] (orcL 2 [(4, bv (decide (a1 ≥ 97)))] [] h2 (orcLG 9 6 9 false [(11, bv (decide (a1 ≥ 48)))] [] h6 (orcL 14 [(16, bv (decide (a1 ≤ 57)))] [] h7 orcN))) ?_
        exact J_r1 rfl
      · refine J_g 6 [] [(2, bv (a1 == 95))] [] (orcL 2 [(4, bv (decide (a1 ≥ 97)))] [] h2 (orcLG 9 6 9 false [(11, bv (decide (a1 ≥ 48)))] [] h6 (orcL 14 [(16, bv (decide (a1 ≤ 57)))] [] h7 orcN))) ?_
        exact J_r1 rfl
    · refine J_g 6 [] [(2, bv (a1 == 95))] [] (orcL 2 [(4, bv (decide (a1 ≥ 97)))] [] h2 (orcLG 9 6 9 false [(11, bv (decide (a1 ≥ 48)))] [] h6 orcN)) ?_
      exact J_r1 rfl

noncomputable def c254 : Code := (Tryz.f254.body).getD .skip

theorem impl_NameFault_l1.ok (a1 : ByteArray) (q : Wd) (kn : Unit → Option (D × List Ent)) (hk : ∀ v : Unit, J (q.g Tryz.prog 254 0 33) c254 (atI c254 15) (St.mk' [] []) (some v) kn) :
    ∀ s17 : Int, J (q.g Tryz.prog 254 0 33) c254 (atI c254 116) (St.mk' [(0, sv a1), (23, iv (a1.size : Int)), (24, iv s17)] []) (impl_NameFault_l1 a1 s17) (Fl.go (fun r : Int => some (iv r, [])) kn) := by
  refine J_lp (fun g ih s17 => ?_)
  unfold impl_NameFault_l1b
  refine J_g 232 [] [(0, sv a1), (23, iv (a1.size : Int)), (24, iv s17), (25, bv (decide (s17 < (a1.size : Int))))] [] orcN ?_
  refine J_if2 25 (fun h18 => ?_) (fun h18 => ?_)
  · refine J_g 3736 [] [(0, sv a1), (3, iv s17), (23, iv (a1.size : Int)), (24, iv s17)] [] orcN ?_
    refine J_bind (fun x19 h20 => ?_)
    refine J_bind (fun x21 h22 => ?_)
    refine J_g 7474 [] [(0, sv a1), (23, iv (a1.size : Int)), (24, iv s17), (31, bv (!x21))] [] (orcC 2 (x_bi (kk := .i64) 9 (.tmp 27) (.tmp 28) h20) (orcC 3 (x_c0 [(.tmp 29)] [5] (impl_isNameByte.ok x19) h22) orcN)) ?_
    refine J_if2 31 (fun h23 => ?_) (fun h23 => ?_)
    · refine J_g 29900 [] [(2, iv 5)] [] orcN ?_
      exact J_r1 rfl
    · refine J_g 935 [] [(0, sv a1), (23, iv (a1.size : Int)), (24, iv (w64 (s17 + 1)))] [] orcN ?_
      exact J_q (J_b (ih (w64 (s17 + 1)))) rfl
  · exact J_qw (hk ()) rfl

theorem impl_NameFault.ok (a1 : ByteArray) : Ok Tryz.prog 254 [sv a1] [] ((impl_NameFault a1).map fun r => (iv r, [])) := by
  refine Ok_of3 c254 Tryz.f254 0 33 (fun q => ?_)
  unfold impl_NameFault
  refine J_g 2 [] [(0, sv a1)] [] orcN ?_
  refine J_join (atI c254 13) (fun v9 : Bool => St.mk' [(0, sv a1), (21, bv v9)] []) (fun v9 => ?_) (fun jv9 => ?_)
  · refine J_if2 21 (fun h10 => ?_) (fun h10 => ?_)
    · refine J_g 52 [] [(2, iv 5)] [] orcN ?_
      exact J_r1 rfl
    · refine J_g 28 [] [(0, sv a1), (23, iv (a1.size : Int)), (24, iv 0)] [] orcN ?_
      refine J_lqF (K0 := (fun r : Int => some (iv r, []))) (fun _ => rfl) (impl_NameFault_l1.ok a1 q _ (fun v24 => J_j ?_) 0)
      refine J_g 30 [] [(2, iv 0)] [] orcN ?_
      exact J_r1 rfl
  · refine J_ite (fun h2 => ?_) (fun h2 => ?_)
    · refine J_g 12 [] [(0, sv a1), (21, bv true)] [] (orcL 3 [(6, bv (decide ((a1.size : Int) < 1)))] [] h2 orcN) ?_
      exact J_qw (J_j (jv9 true)) rfl
    · refine J_ite (fun h3 => ?_) (fun h3 => ?_)
      · refine J_g 12 [] [(0, sv a1), (21, bv true)] [] (orcL 3 [(6, bv (decide ((a1.size : Int) < 1)))] [] h2 (orcL 8 [(11, bv (decide ((a1.size : Int) > 12)))] [] h3 orcN)) ?_
        exact J_qw (J_j (jv9 true)) rfl
      · refine J_bind (fun x4 h5 => ?_)
        refine J_ite (fun h6 => ?_) (fun h6 => ?_)
        · refine J_g 12 [] [(0, sv a1), (21, bv true)] [] (orcL 3 [(6, bv (decide ((a1.size : Int) < 1)))] [] h2 (orcL 8 [(11, bv (decide ((a1.size : Int) > 12)))] [] h3 (orcH 10 8 12 false (x_bi (kk := .i64) 9 (.tmp 13) (.const (.int .i64 0)) h5) (orcL 13 [(16, bv (decide (x4 < 97)))] [] h6 orcN)))) ?_
          exact J_qw (J_j (jv9 true)) rfl
        · refine J_bind (fun x7 h8 => ?_)
          refine J_g 12 [] [(0, sv a1), (21, bv (decide (x7 > 122)))] [] (orcL 3 [(6, bv (decide ((a1.size : Int) < 1)))] [] h2 (orcL 8 [(11, bv (decide ((a1.size : Int) > 12)))] [] h3 (orcH 10 8 12 false (x_bi (kk := .i64) 9 (.tmp 13) (.const (.int .i64 0)) h5) (orcL 13 [(16, bv (decide (x4 < 97)))] [] h6 (orcH 15 13 17 false (x_bi (kk := .i64) 9 (.tmp 18) (.const (.int .i64 0)) h8) orcN))))) ?_
          exact J_qw (J_j (jv9 (decide (x7 > 122)))) rfl

noncomputable def c70 : Code := (Tryz.f70.body).getD .skip

theorem impl_within.ok (a1 : Int) (a2 : Int) (a3 : Int) : Ok Tryz.prog 70 [iv a1, iv a2, iv a3] [] ((impl_within a1 a2 a3).map fun r => (bv r, [])) := by
  refine Ok_of3 c70 Tryz.f70 0 15 (fun q => ?_)
  unfold impl_within
  refine J_g 2 [] [(0, iv a1), (1, iv a2), (2, iv a3)] [] orcN ?_
  refine J_ite (fun h4 => ?_) (fun h4 => ?_)
  · refine J_g 6 [] [(6, bv (decide (a1 ≤ a3)))] [] (orcL 3 [(9, bv (decide (a2 ≤ a1)))] [] h4 orcN) ?_
    exact J_r1 rfl
  · refine J_g 6 [] [(6, bv false)] [] (orcL 3 [(9, bv (decide (a2 ≤ a1)))] [] h4 orcN) ?_
    exact J_r1 rfl

noncomputable def c255 : Code := (Tryz.f255.body).getD .skip

theorem impl_VersionFault.ok (a1 : Version) : Ok Tryz.prog 255 [.ag (Version.enc a1)] [] ((impl_VersionFault a1).map fun r => (iv r, [])) := by
  refine Ok_of3 c255 Tryz.f255 0 19 (fun q => ?_)
  unfold impl_VersionFault
  refine J_g 2 [(0, 0)] [(1, pp 0)] [(0, .box (Version.enc a1))] orcN ?_
  refine J_bind (fun x2 h3 => ?_)
  refine J_join (atI c255 13) (fun v10 : Bool => St.mk' [(18, bv v10)] []) (fun v10 => ?_) (fun jv10 => ?_)
  · refine J_if2 18 (fun h11 => ?_) (fun h11 => ?_)
    · refine J_g 52 [] [(2, iv 3)] [] orcN ?_
      exact J_r1 rfl
    · refine J_g 14 [] [(2, iv 0)] [] orcN ?_
      exact J_r1 rfl
  · refine J_ite (fun h4 => ?_) (fun h4 => ?_)
    · refine J_g 12 [] [(18, bv true)] [] (orcC 2 (x_c0 [(.tmp 4), (.const (.int .i64 0)), (.const (.int .i64 999))] [2, 2, 2] (impl_within.ok a1.A 0 999) h3) (orcL 4 [(6, bv (!x2))] [] h4 orcN)) ?_
      exact J_qw (J_j (jv10 true)) rfl
    · refine J_bind (fun x5 h6 => ?_)
      refine J_ite (fun h7 => ?_) (fun h7 => ?_)
      · refine J_g 12 [] [(18, bv true)] [] (orcC 2 (x_c0 [(.tmp 4), (.const (.int .i64 0)), (.const (.int .i64 999))] [2, 2, 2] (impl_within.ok a1.A 0 999) h3) (orcL 4 [(6, bv (!x2))] [] h4 (orcH 7 4 7 false (x_c0 [(.tmp 9), (.const (.int .i64 0)), (.const (.int .i64 999))] [2, 2, 2] (impl_within.ok a1.B 0 999) h6) (orcL 10 [(12, bv (!x5))] [] h7 orcN)))) ?_
        exact J_qw (J_j (jv10 true)) rfl
      · refine J_bind (fun x8 h9 => ?_)
        refine J_g 12 [] [(18, bv (!x8))] [] (orcC 2 (x_c0 [(.tmp 4), (.const (.int .i64 0)), (.const (.int .i64 999))] [2, 2, 2] (impl_within.ok a1.A 0 999) h3) (orcL 4 [(6, bv (!x2))] [] h4 (orcH 7 4 7 false (x_c0 [(.tmp 9), (.const (.int .i64 0)), (.const (.int .i64 999))] [2, 2, 2] (impl_within.ok a1.B 0 999) h6) (orcL 10 [(12, bv (!x5))] [] h7 (orcH 13 10 13 false (x_c0 [(.tmp 15), (.const (.int .i64 0)), (.const (.int .i64 999))] [2, 2, 2] (impl_within.ok a1.C 0 999) h9) orcN))))) ?_
        exact J_qw (J_j (jv10 (!x8))) rfl

noncomputable def c234 : Code := (Tryz.f234.body).getD .skip

theorem impl_firstCode_l1.ok (a1 : (List Int)) (q : Wd) (kn : Unit → Option (D × List Ent)) (hk : ∀ v : Unit, J (q.g Tryz.prog 234 0 15) c234 (atI c234 7) (St.mk' [] []) (some v) kn) :
    ∀ s6 : Int, J (q.g Tryz.prog 234 0 15) c234 (atI c234 52) (St.mk' [(5, sl 1 eI64 a1), (6, iv (a1.length : Int)), (7, iv s6)] []) (impl_firstCode_l1 a1 s6) (Fl.go (fun r : Int => some (iv r, [])) kn) := by
  refine J_lp (fun g ih s6 => ?_)
  unfold impl_firstCode_l1b
  refine J_g 104 [] [(5, sl 1 eI64 a1), (6, iv (a1.length : Int)), (7, iv s6), (8, bv (decide (s6 < (a1.length : Int))))] [] orcN ?_
  refine J_if2 8 (fun h7 => ?_) (fun h7 => ?_)
  · refine J_bind (fun x8 h9 => ?_)
    refine J_g 1688 [] [(4, iv x8), (5, sl 1 eI64 a1), (6, iv (a1.length : Int)), (7, iv s6)] [] (orcC 0 (x_ix (kk := .i64) 70 2 1 eI64 (.tmp 5) (.tmp 7) h9) orcN) ?_
    refine J_g 3378 [] [(4, iv x8), (5, sl 1 eI64 a1), (6, iv (a1.length : Int)), (7, iv s6), (12, bv (x8 != 0))] [] orcN ?_
    refine J_if2 12 (fun h10 => ?_) (fun h10 => ?_)
    · refine J_g 13516 [] [(2, iv x8)] [] orcN ?_
      exact J_r1 rfl
    · refine J_g 423 [] [(5, sl 1 eI64 a1), (6, iv (a1.length : Int)), (7, iv (w64 (s6 + 1)))] [] orcN ?_
      exact J_q (J_b (ih (w64 (s6 + 1)))) rfl
  · exact J_qw (hk ()) rfl

theorem impl_firstCode.ok (a1 : (List Int)) : Ok Tryz.prog 234 [sl 1 eI64 a1] [] ((impl_firstCode a1).map fun r => (iv r, [])) := by
  refine Ok_of3 c234 Tryz.f234 0 15 (fun q => ?_)
  unfold impl_firstCode
  refine J_g 2 [] [(0, sl 1 eI64 a1)] [] orcN ?_
  refine J_g 12 [] [(5, sl 1 eI64 a1), (6, iv (a1.length : Int)), (7, iv 0)] [] orcN ?_
  refine J_lqF (K0 := (fun r : Int => some (iv r, []))) (fun _ => rfl) (impl_firstCode_l1.ok a1 q _ (fun v11 => J_j ?_) 0)
  refine J_g 14 [] [(2, iv 0)] [] orcN ?_
  exact J_r1 rfl

noncomputable def c280 : Code := (Tryz.f280.body).getD .skip

theorem impl_PackFault_1.ok (a1 : (List Term)) : Ok Tryz.prog 280 [sl 7 Term.enc a1] [] ((impl_PackFault_1 a1).map fun r => (bv r, [])) := by
  refine Ok_of3 c280 Tryz.f280 0 6 (fun q => ?_)
  unfold impl_PackFault_1
  refine J_g 2 [] [(0, sl 7 Term.enc a1)] [] orcN ?_
  refine J_g 6 [] [(2, bv (decide ((a1.length : Int) > 4)))] [] orcN ?_
  exact J_r1 rfl

noncomputable def c337 : Code := (Tryz.f337.body).getD .skip

theorem slices_IndexFunc_LLimplTerm_impl_PackFault_1_l1.ok (a1 : (List (List Term))) (q : Wd) (kn : Unit → Option (D × List Ent)) (hk : ∀ v : Unit, J (q.g Tryz.prog 337 0 19) c337 (atI c337 7) (St.mk' [] []) (some v) kn) :
    ∀ s8 : Int, J (q.g Tryz.prog 337 0 19) c337 (atI c337 52) (St.mk' [(0, sl 1 (eSl false 7 Term.enc) a1), (1, .fn 280 []), (7, iv (a1.length : Int)), (8, iv s8)] []) (slices_IndexFunc_LLimplTerm_impl_PackFault_1_l1 a1 s8) (Fl.go (fun r : Int => some (iv r, [])) kn) := by
  refine J_lp (fun g ih s8 => ?_)
  unfold slices_IndexFunc_LLimplTerm_impl_PackFault_1_l1b
  refine J_g 104 [] [(0, sl 1 (eSl false 7 Term.enc) a1), (1, .fn 280 []), (7, iv (a1.length : Int)), (8, iv s8), (9, bv (decide (s8 < (a1.length : Int))))] [] orcN ?_
  refine J_if2 9 (fun h9 => ?_) (fun h9 => ?_)
  · refine J_g 1688 [] [(0, sl 1 (eSl false 7 Term.enc) a1), (1, .fn 280 []), (5, iv s8), (7, iv (a1.length : Int)), (8, iv s8)] [] orcN ?_
    refine J_bind (fun x10 h11 => ?_)
    refine J_bind (fun x12 h13 => ?_)
    refine J_g 3378 [] [(0, sl 1 (eSl false 7 Term.enc) a1), (1, .fn 280 []), (5, iv s8), (7, iv (a1.length : Int)), (8, iv s8), (16, bv x12)] [] (orcC 3 (x_ix (kk := .i64) 130 24 1 (eSl false 7 Term.enc) (.tmp 12) (.tmp 13) h11) (orcC 5 (x_c0v («as» := [sl 7 Term.enc x10]) (caps := []) 11 [(.tmp 15)] [24] (impl_PackFault_1.ok x10) h13) orcN)) ?_
    refine J_if2 16 (fun h14 => ?_) (fun h14 => ?_)
    · refine J_g 13516 [] [(4, iv s8)] [] orcN ?_
      exact J_r1 rfl
    · refine J_g 423 [] [(0, sl 1 (eSl false 7 Term.enc) a1), (1, .fn 280 []), (7, iv (a1.length : Int)), (8, iv (w64 (s8 + 1)))] [] orcN ?_
      exact J_q (J_b (ih (w64 (s8 + 1)))) rfl
  · exact J_qw (hk ()) rfl

theorem slices_IndexFunc_LLimplTerm_impl_PackFault_1.ok (a1 : (List (List Term))) : Ok Tryz.prog 337 [sl 1 (eSl false 7 Term.enc) a1, .fn 280 []] [] ((slices_IndexFunc_LLimplTerm_impl_PackFault_1 a1).map fun r => (iv r, [])) := by
  refine Ok_of3 c337 Tryz.f337 0 19 (fun q => ?_)
  unfold slices_IndexFunc_LLimplTerm_impl_PackFault_1
  refine J_g 2 [] [(0, sl 1 (eSl false 7 Term.enc) a1), (1, .fn 280 [])] [] orcN ?_
  refine J_g 12 [] [(0, sl 1 (eSl false 7 Term.enc) a1), (1, .fn 280 []), (7, iv (a1.length : Int)), (8, iv 0)] [] orcN ?_
  refine J_lqF (K0 := (fun r : Int => some (iv r, []))) (fun _ => rfl) (slices_IndexFunc_LLimplTerm_impl_PackFault_1_l1.ok a1 q _ (fun v15 => J_j ?_) 0)
  refine J_g 14 [] [(4, iv (-1))] [] orcN ?_
  exact J_r1 rfl

noncomputable def c279 : Code := (Tryz.f279.body).getD .skip

theorem slices_ContainsFunc_LLimplTerm_impl_PackFault_1.ok (a1 : (List (List Term))) : Ok Tryz.prog 279 [sl 1 (eSl false 7 Term.enc) a1, .fn 280 []] [] ((slices_ContainsFunc_LLimplTerm_impl_PackFault_1 a1).map fun r => (bv r, [])) := by
  refine Ok_of3 c279 Tryz.f279 0 9 (fun q => ?_)
  unfold slices_ContainsFunc_LLimplTerm_impl_PackFault_1
  refine J_g 2 [] [(0, sl 1 (eSl false 7 Term.enc) a1), (1, .fn 280 [])] [] orcN ?_
  refine J_bind (fun x2 h3 => ?_)
  refine J_g 6 [] [(4, bv (decide (x2 ≥ 0)))] [] (orcC 2 (x_c1 («as» := [sl 1 (eSl false 7 Term.enc) a1, .fn 280 []]) [(.tmp 5), (.tmp 6)] [130, 201] false [] [] (.cons (.same rfl) (.cons (.fn (.nil)) (.nil))) (slices_IndexFunc_LLimplTerm_impl_PackFault_1.ok a1) h3 (.same rfl rfl)) orcN) ?_
  exact J_r1 rfl

noncomputable def c324 : Code := (Tryz.f324.body).getD .skip

theorem slices_Index_Lstring_l1.ok (a1 : (List ByteArray)) (a2 : ByteArray) (q : Wd) (kn : Unit → Option (D × List Ent)) (hk : ∀ v : Unit, J (q.g Tryz.prog 324 0 19) c324 (atI c324 7) (St.mk' [] []) (some v) kn) :
    ∀ s7 : Int, J (q.g Tryz.prog 324 0 19) c324 (atI c324 52) (St.mk' [(0, sl 1 eStr a1), (1, sv a2), (7, iv (a1.length : Int)), (8, iv s7)] []) (slices_Index_Lstring_l1 a1 a2 s7) (Fl.go (fun r : Int => some (iv r, [])) kn) := by
  refine J_lp (fun g ih s7 => ?_)
  unfold slices_Index_Lstring_l1b
  refine J_g 104 [] [(0, sl 1 eStr a1), (1, sv a2), (7, iv (a1.length : Int)), (8, iv s7), (9, bv (decide (s7 < (a1.length : Int))))] [] orcN ?_
  refine J_if2 9 (fun h8 => ?_) (fun h8 => ?_)
  · refine J_g 1688 [] [(0, sl 1 eStr a1), (1, sv a2), (5, iv s7), (7, iv (a1.length : Int)), (8, iv s7)] [] orcN ?_
    refine J_bind (fun x9 h10 => ?_)
    refine J_g 3378 [] [(0, sl 1 eStr a1), (1, sv a2), (5, iv s7), (7, iv (a1.length : Int)), (8, iv s7), (16, bv (seq a2 x9))] [] (orcC 3 (x_ix (kk := .i64) 94 9 1 eStr (.tmp 12) (.tmp 13) h10) orcN) ?_
    refine J_if2 16 (fun h11 => ?_) (fun h11 => ?_)
    · refine J_g 13516 [] [(4, iv s7)] [] orcN ?_
      exact J_r1 rfl
    · refine J_g 423 [] [(0, sl 1 eStr a1), (1, sv a2), (7, iv (a1.length : Int)), (8, iv (w64 (s7 + 1)))] [] orcN ?_
      exact J_q (J_b (ih (w64 (s7 + 1)))) rfl
  · exact J_qw (hk ()) rfl

theorem slices_Index_Lstring.ok (a1 : (List ByteArray)) (a2 : ByteArray) : Ok Tryz.prog 324 [sl 1 eStr a1, sv a2] [] ((slices_Index_Lstring a1 a2).map fun r => (iv r, [])) := by
  refine Ok_of3 c324 Tryz.f324 0 19 (fun q => ?_)
  unfold slices_Index_Lstring
  refine J_g 2 [] [(0, sl 1 eStr a1), (1, sv a2)] [] orcN ?_
  refine J_g 12 [] [(0, sl 1 eStr a1), (1, sv a2), (7, iv (a1.length : Int)), (8, iv 0)] [] orcN ?_
  refine J_lqF (K0 := (fun r : Int => some (iv r, []))) (fun _ => rfl) (slices_Index_Lstring_l1.ok a1 a2 q _ (fun v12 => J_j ?_) 0)
  refine J_g 14 [] [(4, iv (-1))] [] orcN ?_
  exact J_r1 rfl

noncomputable def c248 : Code := (Tryz.f248.body).getD .skip

theorem slices_Contains_Lstring.ok (a1 : (List ByteArray)) (a2 : ByteArray) : Ok Tryz.prog 248 [sl 1 eStr a1, sv a2] [] ((slices_Contains_Lstring a1 a2).map fun r => (bv r, [])) := by
  refine Ok_of3 c248 Tryz.f248 0 9 (fun q => ?_)
  unfold slices_Contains_Lstring
  refine J_g 2 [] [(0, sl 1 eStr a1), (1, sv a2)] [] orcN ?_
  refine J_bind (fun x3 h4 => ?_)
  refine J_g 6 [] [(4, bv (decide (x3 ≥ 0)))] [] (orcC 2 (x_c0 [(.tmp 5), (.tmp 6)] [94, 9] (slices_Index_Lstring.ok a1 a2) h4) orcN) ?_
  exact J_r1 rfl

noncomputable def c150 : Code := (Tryz.f150.body).getD .skip

theorem impl_top.ok  : Ok Tryz.prog 150 [] [] ((impl_top).map fun r => (.ag (Version.enc r), [])) := by
  refine Ok_of3 c150 Tryz.f150 0 2 (fun q => ?_)
  unfold impl_top
  refine J_g 2 [(0, 0)] [(0, pp 0)] [(0, .box [iv 0, iv 0, iv 0])] orcN ?_
  refine J_g 6 [] [(0, pp 0)] [(0, .box [iv 1000, iv 0, iv 0])] orcN ?_
  exact J_r1 rfl

noncomputable def c376 : Code := (Tryz.f376.body).getD .skip

theorem cmp_isNaN_int64.ok (a1 : Int) : Ok Tryz.prog 376 [iv a1] [] ((cmp_isNaN_int64 a1).map fun r => (bv r, [])) := by
  refine Ok_of3 c376 Tryz.f376 0 6 (fun q => ?_)
  unfold cmp_isNaN_int64
  refine J_g 2 [] [(0, iv a1)] [] orcN ?_
  refine J_g 6 [] [(2, bv (a1 != a1))] [] orcN ?_
  exact J_r1 rfl

noncomputable def c326 : Code := (Tryz.f326.body).getD .skip

theorem cmp_Compare_int64.ok (a1 : Int) (a2 : Int) : Ok Tryz.prog 326 [iv a1, iv a2] [] ((cmp_Compare_int64 a1 a2).map fun r => (iv r, [])) := by
  refine Ok_of3 c326 Tryz.f326 0 20 (fun q => ?_)
  unfold cmp_Compare_int64
  refine J_g 2 [] [(0, iv a1), (1, iv a2)] [] orcN ?_
  refine J_bind (fun x3 h4 => ?_)
  refine J_g 6 [] [(0, iv a1), (1, iv a2), (5, bv x3)] [] (orcC 1 (x_c0 [(.tmp 7)] [2] (cmp_isNaN_int64.ok a1) h4) orcN) ?_
  refine J_bind (fun x5 h6 => ?_)
  refine J_g 14 [] [(0, iv a1), (1, iv a2), (5, bv x3), (6, bv x5)] [] (orcC 1 (x_c0 [(.tmp 9)] [2] (cmp_isNaN_int64.ok a2) h6) orcN) ?_
  refine J_g 60 [] [(0, iv a1), (1, iv a2), (6, bv x5), (11, bv x3)] [] orcN ?_
  refine J_if2 11 (fun h7 => ?_) (fun h7 => ?_)
  · refine J_g 488 [] [(12, bv x5)] [] orcN ?_
    refine J_if2 12 (fun h8 => ?_) (fun h8 => ?_)
    · refine J_g 1956 [] [(4, iv 0)] [] orcN ?_
      exact J_r1 rfl
    · refine J_g 490 [] [(4, iv (-1))] [] orcN ?_
      exact J_r1 rfl
  · refine J_g 124 [] [(0, iv a1), (1, iv a2), (13, bv x5)] [] orcN ?_
    refine J_if2 13 (fun h9 => ?_) (fun h9 => ?_)
    · refine J_g 500 [] [(4, iv 1)] [] orcN ?_
      exact J_r1 rfl
    · refine J_g 252 [] [(0, iv a1), (1, iv a2), (16, bv (decide (a1 < a2)))] [] orcN ?_
      refine J_if2 16 (fun h10 => ?_) (fun h10 => ?_)
      · refine J_g 1012 [] [(4, iv (-1))] [] orcN ?_
        exact J_r1 rfl
      · refine J_g 508 [] [(19, bv (decide (a1 > a2)))] [] orcN ?_
        refine J_if2 19 (fun h11 => ?_) (fun h11 => ?_)
        · refine J_g 2036 [] [(4, iv 1)] [] orcN ?_
          exact J_r1 rfl
        · refine J_g 510 [] [(4, iv 0)] [] orcN ?_
          exact J_r1 rfl

noncomputable def c325 : Code := (Tryz.f325.body).getD .skip

theorem cmp_Or_int_l1.ok (a1 : (List Int)) (q : Wd) (kn : Unit → Option (D × List Ent)) (hk : ∀ v : Unit, J (q.g Tryz.prog 325 0 18) c325 (atI c325 15) (St.mk' [(3, iv 0)] []) (some v) kn) :
    ∀ s6 : Int, J (q.g Tryz.prog 325 0 18) c325 (atI c325 116) (St.mk' [(3, iv 0), (6, sl 1 eI64 a1), (7, iv (a1.length : Int)), (8, iv s6)] []) (cmp_Or_int_l1 a1 s6) (Fl.go (fun r : Int => some (iv r, [])) kn) := by
  refine J_lp (fun g ih s6 => ?_)
  unfold cmp_Or_int_l1b
  refine J_g 232 [] [(3, iv 0), (6, sl 1 eI64 a1), (7, iv (a1.length : Int)), (8, iv s6), (9, bv (decide (s6 < (a1.length : Int))))] [] orcN ?_
  refine J_if2 9 (fun h7 => ?_) (fun h7 => ?_)
  · refine J_bind (fun x8 h9 => ?_)
    refine J_g 3736 [] [(3, iv 0), (5, iv x8), (6, sl 1 eI64 a1), (7, iv (a1.length : Int)), (8, iv s6)] [] (orcC 0 (x_ix (kk := .i64) 366 3 1 eI64 (.tmp 6) (.tmp 8) h9) orcN) ?_
    refine J_g 7474 [] [(3, iv 0), (5, iv x8), (6, sl 1 eI64 a1), (7, iv (a1.length : Int)), (8, iv s6), (14, bv (x8 != 0))] [] orcN ?_
    refine J_if2 14 (fun h10 => ?_) (fun h10 => ?_)
    · refine J_g 29900 [] [(2, iv x8)] [] orcN ?_
      exact J_r1 rfl
    · refine J_g 935 [] [(3, iv 0), (6, sl 1 eI64 a1), (7, iv (a1.length : Int)), (8, iv (w64 (s6 + 1)))] [] orcN ?_
      exact J_q (J_b (ih (w64 (s6 + 1)))) rfl
  · exact J_qw (hk ()) rfl

theorem cmp_Or_int.ok (a1 : (List Int)) : Ok Tryz.prog 325 [sl 1 eI64 a1] [] ((cmp_Or_int a1).map fun r => (iv r, [])) := by
  refine Ok_of3 c325 Tryz.f325 0 18 (fun q => ?_)
  unfold cmp_Or_int
  refine J_g 2 [] [(0, sl 1 eI64 a1)] [] orcN ?_
  refine J_g 6 [] [(0, sl 1 eI64 a1), (3, iv 0)] [] orcN ?_
  refine J_g 28 [] [(3, iv 0), (6, sl 1 eI64 a1), (7, iv (a1.length : Int)), (8, iv 0)] [] orcN ?_
  refine J_lqF (K0 := (fun r : Int => some (iv r, []))) (fun _ => rfl) (cmp_Or_int_l1.ok a1 q _ (fun v11 => J_j ?_) 0)
  refine J_g 30 [] [(2, iv 0)] [] orcN ?_
  exact J_r1 rfl

noncomputable def c256 : Code := (Tryz.f256.body).getD .skip

theorem impl_compare.ok (a1 : Version) (a2 : Version) : Ok Tryz.prog 256 [.ag (Version.enc a1), .ag (Version.enc a2)] [] ((impl_compare a1 a2).map fun r => (iv r, [])) := by
  refine Ok_of3 c256 Tryz.f256 0 22 (fun q => ?_)
  unfold impl_compare
  refine J_g 2 [(0, 0), (1, 1)] [(2, pp 0), (3, pp 1)] [(0, .box (Version.enc a1)), (1, .box (Version.enc a2))] orcN ?_
  refine J_bind (fun x3 h4 => ?_)
  refine J_bind (fun x5 h6 => ?_)
  refine J_bind (fun x7 h8 => ?_)
  refine J_bind (fun x9 h10 => ?_)
  refine J_g 6 [] [(4, iv x9)] [] (orcC 4 (x_c0 [(.tmp 6), (.tmp 8)] [2, 2] (cmp_Compare_int64.ok a1.A a2.A) h4) (orcC 9 (x_c0 [(.tmp 11), (.tmp 13)] [2, 2] (cmp_Compare_int64.ok a1.B a2.B) h6) (orcC 14 (x_c0 [(.tmp 16), (.tmp 18)] [2, 2] (cmp_Compare_int64.ok a1.C a2.C) h8) (orcC 15 (x_bp 366 3 1 2 eI64 [x3, x5, x7] [0, 1, 2] [(.tmp 9), (.tmp 14), (.tmp 19)] [iv x3, iv x5, iv x7]) (orcC 16 (x_c1 («as» := [rr 2 [x3, x5, x7]]) [(.tmp 20)] [366] true [(2, rE 1 eI64 [x3, x5, x7])] [] (.cons (am_b (.head _) (fun _ => rfl) rfl) (.nil)) (cmp_Or_int.ok [x3, x5, x7]) h10 (.same rfl rfl) (hbor := fun _ => ⟨rfl, flat_sc⟩)) orcN))))) ?_
  exact J_r1 rfl

noncomputable def c148 : Code := (Tryz.f148.body).getD .skip

theorem impl_TermFault.ok (a1 : Term) : Ok Tryz.prog 148 [.ag (Term.enc a1)] [] ((impl_TermFault a1).map fun r => (iv r, [])) := by
  refine Ok_of3 c148 Tryz.f148 0 35 (fun q => ?_)
  unfold impl_TermFault
  refine J_g 2 [(0, 0)] [(1, pp 0)] [(0, .box (Term.enc a1))] orcN ?_
  refine J_bind (fun x2 h3 => ?_)
  refine J_g 12 [] [(1, pp 0), (3, iv x2)] [(0, .box (Term.enc a1))] (orcC 2 (x_c0 [(.tmp 6)] [9] (impl_NameFault.ok a1.Name) h3) orcN) ?_
  refine J_g 26 [] [(1, pp 0), (3, iv x2), (9, bv (x2 != 0))] [(0, .box (Term.enc a1))] orcN ?_
  refine J_if2 9 (fun h4 => ?_) (fun h4 => ?_)
  · refine J_g 108 [] [(2, iv x2)] [] orcN ?_
    exact J_r1 rfl
  · refine J_bind (fun x5 h6 => ?_)
    refine J_g 28 [] [(1, pp 0), (4, iv x5)] [(0, .box (Term.enc a1))] (orcC 2 (x_c0 [(.tmp 12)] [39] (impl_VersionFault.ok a1.Low) h6) orcN) ?_
    refine J_g 58 [] [(1, pp 0), (4, iv x5), (15, bv (x5 != 0))] [(0, .box (Term.enc a1))] orcN ?_
    refine J_if2 15 (fun h7 => ?_) (fun h7 => ?_)
    · refine J_g 236 [] [(2, iv x5)] [] orcN ?_
      exact J_r1 rfl
    · refine J_bind (fun x8 h9 => ?_)
      refine J_join (atI c148 121) (fun v13 : Bool => St.mk' [(1, pp 0), (17, bv v13)] [(0, .box (Term.enc a1))]) (fun v13 => ?_) (fun jv13 => ?_)
      · refine J_if2 17 (fun h14 => ?_) (fun h14 => ?_)
        · refine J_g 484 [] [(2, iv 3)] [] orcN ?_
          exact J_r1 rfl
        · refine J_bind (fun x15 h16 => ?_)
          refine J_g 486 [] [(28, bv (decide (x15 ≥ 0)))] [] (orcC 4 (x_c0 [(.tmp 30), (.tmp 32)] [39, 39] (impl_compare.ok a1.Low a1.High) h16) orcN) ?_
          refine J_if2 28 (fun h17 => ?_) (fun h17 => ?_)
          · refine J_g 1948 [] [(2, iv 1)] [] orcN ?_
            exact J_r1 rfl
          · refine J_g 62 [] [(2, iv 0)] [] orcN ?_
            exact J_r1 rfl
      · refine J_ite (fun h10 => ?_) (fun h10 => ?_)
        · refine J_bind (fun x11 h12 => ?_)
          refine J_g 120 [] [(1, pp 0), (17, bv (x11 != 0))] [(0, .box (Term.enc a1))] (orcC 2 (x_c0 [] [] (impl_top.ok) h9) (orcC 3 (x_seq (b := .neq) (r := (a1.High.A == x8.A && (a1.High.B == x8.B && (a1.High.C == x8.C && true)))) 39 39 (.tmp 19) (.tmp 20) [.int .i64 a1.High.A, .int .i64 a1.High.B, .int .i64 a1.High.C] [.int .i64 x8.A, .int .i64 x8.B, .int .i64 x8.C] (.inr ⟨rfl, rfl⟩)) (orcL 4 [(21, bv (!(a1.High.A == x8.A && (a1.High.B == x8.B && (a1.High.C == x8.C && true)))))] [] h10 (orcH 7 4 22 true (x_c0 [(.tmp 24)] [39] (impl_VersionFault.ok a1.High) h12) orcN)))) ?_
          exact J_qw (J_j (jv13 (x11 != 0))) rfl
        · refine J_g 120 [] [(1, pp 0), (17, bv false)] [(0, .box (Term.enc a1))] (orcC 2 (x_c0 [] [] (impl_top.ok) h9) (orcC 3 (x_seq (b := .neq) (r := (a1.High.A == x8.A && (a1.High.B == x8.B && (a1.High.C == x8.C && true)))) 39 39 (.tmp 19) (.tmp 20) [.int .i64 a1.High.A, .int .i64 a1.High.B, .int .i64 a1.High.C] [.int .i64 x8.A, .int .i64 x8.B, .int .i64 x8.C] (.inr ⟨rfl, rfl⟩)) (orcL 4 [(21, bv (!(a1.High.A == x8.A && (a1.High.B == x8.B && (a1.High.C == x8.C && true)))))] [] h10 orcN))) ?_
          exact J_qw (J_j (jv13 false)) rfl

noncomputable def c68 : Code := (Tryz.f68.body).getD .skip

theorem impl_termsFault_l1.ok (a1 : (List Term)) (q : Wd) (kn : Unit → Option (D × List Ent)) (hk : ∀ v : Unit, J (q.g Tryz.prog 68 0 18) c68 (atI c68 7) (St.mk' [] []) (some v) kn) :
    ∀ s8 : Int, J (q.g Tryz.prog 68 0 18) c68 (atI c68 52) (St.mk' [(6, sl 7 Term.enc a1), (7, iv (a1.length : Int)), (8, iv s8)] []) (impl_termsFault_l1 a1 s8) (Fl.go (fun r : Int => some (iv r, [])) kn) := by
  refine J_lp (fun g ih s8 => ?_)
  unfold impl_termsFault_l1b
  refine J_g 104 [] [(6, sl 7 Term.enc a1), (7, iv (a1.length : Int)), (8, iv s8), (9, bv (decide (s8 < (a1.length : Int))))] [] orcN ?_
  refine J_if2 9 (fun h9 => ?_) (fun h9 => ?_)
  · refine J_bind (fun x10 h11 => ?_)
    refine J_g 1688 [(2, 0)] [(4, pp 0), (6, sl 7 Term.enc a1), (7, iv (a1.length : Int)), (8, iv s8)] [(0, .box (Term.enc x10))] (orcC 0 (x_ix (kk := .i64) 24 41 7 Term.enc (.tmp 6) (.tmp 8) h11) orcN) ?_
    refine J_bind (fun x12 h13 => ?_)
    refine J_g 3378 [] [(5, iv x12), (6, sl 7 Term.enc a1), (7, iv (a1.length : Int)), (8, iv s8)] [] (orcC 1 (x_c0 [(.tmp 12)] [41] (impl_TermFault.ok x10) h13) orcN) ?_
    refine J_g 6758 [] [(5, iv x12), (6, sl 7 Term.enc a1), (7, iv (a1.length : Int)), (8, iv s8), (15, bv (x12 != 0))] [] orcN ?_
    refine J_if2 15 (fun h14 => ?_) (fun h14 => ?_)
    · refine J_g 27036 [] [(2, iv x12)] [] orcN ?_
      exact J_r1 rfl
    · refine J_g 423 [] [(6, sl 7 Term.enc a1), (7, iv (a1.length : Int)), (8, iv (w64 (s8 + 1)))] [] orcN ?_
      exact J_q (J_b (ih (w64 (s8 + 1)))) rfl
  · exact J_qw (hk ()) rfl

theorem impl_termsFault.ok (a1 : (List Term)) : Ok Tryz.prog 68 [sl 7 Term.enc a1] [] ((impl_termsFault a1).map fun r => (iv r, [])) := by
  refine Ok_of3 c68 Tryz.f68 0 18 (fun q => ?_)
  unfold impl_termsFault
  refine J_g 2 [] [(0, sl 7 Term.enc a1)] [] orcN ?_
  refine J_g 12 [] [(6, sl 7 Term.enc a1), (7, iv (a1.length : Int)), (8, iv 0)] [] orcN ?_
  refine J_lqF (K0 := (fun r : Int => some (iv r, []))) (fun _ => rfl) (impl_termsFault_l1.ok a1 q _ (fun v15 => J_j ?_) 0)
  refine J_g 14 [] [(2, iv 0)] [] orcN ?_
  exact J_r1 rfl

noncomputable def c185 : Code := (Tryz.f185.body).getD .skip

theorem impl_PackFault_l2.ok (a1 : Pack) (q : Wd) (kn : Unit → Option (D × List Ent)) (hk : ∀ v : Unit, J (q.g Tryz.prog 185 0 93) c185 (atI c185 63) (St.mk' [(1, pp 0)] [(0, .box (Pack.enc false a1))]) (some v) kn) :
    ∀ s54 : Int, J (q.g Tryz.prog 185 0 93) c185 (atI c185 500) (St.mk' [(1, pp 0), (75, sl 1 (eSl false 7 Term.enc) a1.Needs), (76, iv (a1.Needs.length : Int)), (77, iv s54)] [(0, .box (Pack.enc false a1))]) (impl_PackFault_l2 a1 s54) (Fl.go (fun r : Int => some (iv r, [])) kn) := by
  refine J_lp (fun g ih s54 => ?_)
  unfold impl_PackFault_l2b
  refine J_g 1000 [] [(1, pp 0), (75, sl 1 (eSl false 7 Term.enc) a1.Needs), (76, iv (a1.Needs.length : Int)), (77, iv s54), (78, bv (decide (s54 < (a1.Needs.length : Int))))] [(0, .box (Pack.enc false a1))] orcN ?_
  refine J_if2 78 (fun h55 => ?_) (fun h55 => ?_)
  · refine J_bind (fun x56 h57 => ?_)
    refine J_g 16024 [] [(1, pp 0), (8, sl 7 Term.enc x56), (75, sl 1 (eSl false 7 Term.enc) a1.Needs), (76, iv (a1.Needs.length : Int)), (77, iv s54)] [(0, .box (Pack.enc false a1))] (orcC 0 (x_ix (kk := .i64) 130 24 1 (eSl false 7 Term.enc) (.tmp 75) (.tmp 77) h57) orcN) ?_
    refine J_g 64100 [] [(1, pp 0), (8, sl 7 Term.enc x56), (75, sl 1 (eSl false 7 Term.enc) a1.Needs), (76, iv (a1.Needs.length : Int)), (77, iv s54), (83, bv ((x56.length : Int) == 0))] [(0, .box (Pack.enc false a1))] orcN ?_
    refine J_if2 83 (fun h58 => ?_) (fun h58 => ?_)
    · refine J_g 256404 [] [(2, iv 1)] [] orcN ?_
      exact J_r1 rfl
    · refine J_bind (fun x59 h60 => ?_)
      refine J_g 64102 [] [(1, pp 0), (9, iv x59), (75, sl 1 (eSl false 7 Term.enc) a1.Needs), (76, iv (a1.Needs.length : Int)), (77, iv s54)] [(0, .box (Pack.enc false a1))] (orcC 1 (x_c0 [(.tmp 84)] [24] (impl_termsFault.ok x56) h60) orcN) ?_
      refine J_g 128206 [] [(1, pp 0), (9, iv x59), (75, sl 1 (eSl false 7 Term.enc) a1.Needs), (76, iv (a1.Needs.length : Int)), (77, iv s54), (87, bv (x59 != 0))] [(0, .box (Pack.enc false a1))] orcN ?_
      refine J_if2 87 (fun h61 => ?_) (fun h61 => ?_)
      · refine J_g 512828 [] [(2, iv x59)] [] orcN ?_
        exact J_r1 rfl
      · refine J_g 4007 [] [(1, pp 0), (75, sl 1 (eSl false 7 Term.enc) a1.Needs), (76, iv (a1.Needs.length : Int)), (77, iv (w64 (s54 + 1)))] [(0, .box (Pack.enc false a1))] orcN ?_
        exact J_q (J_b (ih (w64 (s54 + 1)))) rfl
  · exact J_qw (hk ()) rfl

theorem impl_PackFault_l1.ok (a1 : Pack) (q : Wd) (kn : Unit → Option (D × List Ent)) (hk : ∀ v : Unit, J (q.g Tryz.prog 185 0 93) c185 (atI c185 31) (St.mk' [(1, pp 0)] [(0, .box (Pack.enc false a1))]) (some v) kn) :
    ∀ s32 : Int, J (q.g Tryz.prog 185 0 93) c185 (atI c185 244) (St.mk' [(1, pp 0), (49, sl 1 eStr a1.Provides), (50, iv (a1.Provides.length : Int)), (51, iv s32)] [(0, .box (Pack.enc false a1))]) (impl_PackFault_l1 a1 s32) (Fl.go (fun r : Int => some (iv r, [])) kn) := by
  refine J_lp (fun g ih s32 => ?_)
  unfold impl_PackFault_l1b
  refine J_g 488 [] [(1, pp 0), (49, sl 1 eStr a1.Provides), (50, iv (a1.Provides.length : Int)), (51, iv s32), (52, bv (decide (s32 < (a1.Provides.length : Int))))] [(0, .box (Pack.enc false a1))] orcN ?_
  refine J_if2 52 (fun h33 => ?_) (fun h33 => ?_)
  · refine J_bind (fun x34 h35 => ?_)
    refine J_g 7832 [] [(1, pp 0), (4, iv s32), (5, sv x34), (49, sl 1 eStr a1.Provides), (50, iv (a1.Provides.length : Int)), (51, iv s32)] [(0, .box (Pack.enc false a1))] (orcC 1 (x_ix (kk := .i64) 94 9 1 eStr (.tmp 49) (.tmp 51) h35) orcN) ?_
    refine J_bind (fun x36 h37 => ?_)
    refine J_g 31332 [] [(1, pp 0), (4, iv s32), (5, sv x34), (6, iv x36), (49, sl 1 eStr a1.Provides), (50, iv (a1.Provides.length : Int)), (51, iv s32)] [(0, .box (Pack.enc false a1))] (orcC 1 (x_c0 [(.tmp 56)] [9] (impl_NameFault.ok x34) h37) orcN) ?_
    refine J_g 62666 [] [(1, pp 0), (4, iv s32), (5, sv x34), (6, iv x36), (49, sl 1 eStr a1.Provides), (50, iv (a1.Provides.length : Int)), (51, iv s32), (59, bv (x36 != 0))] [(0, .box (Pack.enc false a1))] orcN ?_
    refine J_if2 59 (fun h38 => ?_) (fun h38 => ?_)
    · refine J_g 250668 [] [(2, iv x36)] [] orcN ?_
      exact J_r1 rfl
    · refine J_join (atI c185 31335) (fun v44 : Bool => St.mk' [(1, pp 0), (49, sl 1 eStr a1.Provides), (50, iv (a1.Provides.length : Int)), (51, iv s32), (72, bv v44)] [(0, .box (Pack.enc false a1))]) (fun v44 => ?_) (fun jv44 => ?_)
      · refine J_if2 72 (fun h45 => ?_) (fun h45 => ?_)
        · refine J_g 125340 [] [(2, iv 6)] [] orcN ?_
          exact J_r1 rfl
        · refine J_g 1959 [] [(1, pp 0), (49, sl 1 eStr a1.Provides), (50, iv (a1.Provides.length : Int)), (51, iv (w64 (s32 + 1)))] [(0, .box (Pack.enc false a1))] orcN ?_
          exact J_q (J_b (ih (w64 (s32 + 1)))) rfl
      · refine J_ite (fun h39 => ?_) (fun h39 => ?_)
        · refine J_g 31334 [] [(1, pp 0), (49, sl 1 eStr a1.Provides), (50, iv (a1.Provides.length : Int)), (51, iv s32), (72, bv true)] [(0, .box (Pack.enc false a1))] (orcL 4 [(64, bv (seq x34 a1.Name))] [] h39 orcN) ?_
          exact J_qw (J_j (jv44 true)) rfl
        · refine J_bind (fun x40 h41 => ?_)
          refine J_bind (fun x42 h43 => ?_)
          refine J_g 31334 [] [(1, pp 0), (49, sl 1 eStr a1.Provides), (50, iv (a1.Provides.length : Int)), (51, iv s32), (72, bv x42)] [(0, .box (Pack.enc false a1))] (orcL 4 [(64, bv (seq x34 a1.Name))] [] h39 (orcH 8 4 65 false (x_ls 94 9 1 eStr (.tmp 67) none (some (.tmp 68)) h41) (orcH 10 4 65 false (x_c0 [(.tmp 69), (.tmp 70)] [94, 9] (slices_Contains_Lstring.ok x40 x34) h43) orcN))) ?_
          exact J_qw (J_j (jv44 x42)) rfl
  · exact J_qw (hk ()) rfl

theorem impl_PackFault.ok (a1 : Pack) : Ok Tryz.prog 185 [.ag (Pack.enc false a1)] [] ((impl_PackFault a1).map fun r => (iv r, [])) := by
  refine Ok_of3 c185 Tryz.f185 0 93 (fun q => ?_)
  unfold impl_PackFault
  refine J_g 2 [(0, 0)] [(1, pp 0)] [(0, .box (Pack.enc false a1))] orcN ?_
  refine J_bind (fun x2 h3 => ?_)
  refine J_bind (fun x4 h5 => ?_)
  refine J_bind (fun x6 h7 => ?_)
  refine J_g 12 [] [(1, pp 0), (3, iv x6)] [(0, .box (Pack.enc false a1))] (orcC 2 (x_c0 [(.tmp 11)] [9] (impl_NameFault.ok a1.Name) h3) (orcC 5 (x_c0 [(.tmp 14)] [39] (impl_VersionFault.ok a1.Version) h5) (orcC 6 (x_bp 70 2 1 1 eI64 [x2, x4] [0, 1] [(.tmp 12), (.tmp 15)] [iv x2, iv x4]) (orcC 7 (x_c1 («as» := [rr 1 [x2, x4]]) [(.tmp 16)] [70] true [(1, rE 1 eI64 [x2, x4])] [] (.cons (am_b (.head _) (fun _ => rfl) rfl) (.nil)) (impl_firstCode.ok [x2, x4]) h7 (.same rfl rfl) (hbor := fun _ => ⟨rfl, flat_sc⟩)) orcN)))) ?_
  refine J_g 26 [] [(1, pp 0), (3, iv x6), (19, bv (x6 != 0))] [(0, .box (Pack.enc false a1))] orcN ?_
  refine J_if2 19 (fun h8 => ?_) (fun h8 => ?_)
  · refine J_g 108 [] [(2, iv x6)] [] orcN ?_
    exact J_r1 rfl
  · refine J_bind (fun x9 h10 => ?_)
    refine J_g 56 [] [(1, pp 0), (21, bv (!x9))] [(0, .box (Pack.enc false a1))] (orcC 2 (x_c0 [(.tmp 23), (.const (.int .i64 1)), (.const (.int .i64 200))] [2, 2, 2] (impl_within.ok a1.Size 1 200) h10) orcN) ?_
    refine J_if2 21 (fun h11 => ?_) (fun h11 => ?_)
    · refine J_g 228 [] [(2, iv 3)] [] orcN ?_
      exact J_r1 rfl
    · refine J_join (atI c185 231) (fun v17 : Bool => St.mk' [(1, pp 0), (26, bv v17)] [(0, .box (Pack.enc false a1))]) (fun v17 => ?_) (fun jv17 => ?_)
      · refine J_if2 26 (fun h18 => ?_) (fun h18 => ?_)
        · refine J_g 924 [] [(2, iv 2)] [] orcN ?_
          exact J_r1 rfl
        · refine J_g 60 [] [(1, pp 0), (49, sl 1 eStr a1.Provides), (50, iv (a1.Provides.length : Int)), (51, iv 0)] [(0, .box (Pack.enc false a1))] orcN ?_
          refine J_lqF (K0 := (fun r : Int => some (iv r, []))) (fun _ => rfl) (impl_PackFault_l1.ok a1 q _ (fun v46 => J_j ?_) 0)
          refine J_g 124 [] [(1, pp 0), (75, sl 1 (eSl false 7 Term.enc) a1.Needs), (76, iv (a1.Needs.length : Int)), (77, iv 0)] [(0, .box (Pack.enc false a1))] orcN ?_
          refine J_lqF (K0 := (fun r : Int => some (iv r, []))) (fun _ => rfl) (impl_PackFault_l2.ok a1 q _ (fun v62 => J_j ?_) 0)
          refine J_bind (fun x63 h64 => ?_)
          refine J_g 126 [] [(2, iv x63)] [] (orcC 2 (x_c0 [(.tmp 91)] [24] (impl_termsFault.ok a1.Bars) h64) orcN) ?_
          exact J_r1 rfl
      · refine J_ite (fun h12 => ?_) (fun h12 => ?_)
        · refine J_g 230 [] [(1, pp 0), (26, bv true)] [(0, .box (Pack.enc false a1))] (orcL 4 [(30, bv (decide ((a1.Provides.length : Int) > 4)))] [] h12 orcN) ?_
          exact J_qw (J_j (jv17 true)) rfl
        · refine J_ite (fun h13 => ?_) (fun h13 => ?_)
          · refine J_g 230 [] [(1, pp 0), (26, bv true)] [(0, .box (Pack.enc false a1))] (orcL 4 [(30, bv (decide ((a1.Provides.length : Int) > 4)))] [] h12 (orcL 10 [(36, bv (decide ((a1.Needs.length : Int) > 4)))] [] h13 orcN)) ?_
            exact J_qw (J_j (jv17 true)) rfl
          · refine J_ite (fun h14 => ?_) (fun h14 => ?_)
            · refine J_g 230 [] [(1, pp 0), (26, bv true)] [(0, .box (Pack.enc false a1))] (orcL 4 [(30, bv (decide ((a1.Provides.length : Int) > 4)))] [] h12 (orcL 10 [(36, bv (decide ((a1.Needs.length : Int) > 4)))] [] h13 (orcL 16 [(42, bv (decide ((a1.Bars.length : Int) > 4)))] [] h14 orcN))) ?_
              exact J_qw (J_j (jv17 true)) rfl
            · refine J_bind (fun x15 h16 => ?_)
              refine J_g 230 [] [(1, pp 0), (26, bv x15)] [(0, .box (Pack.enc false a1))] (orcL 4 [(30, bv (decide ((a1.Provides.length : Int) > 4)))] [] h12 (orcL 10 [(36, bv (decide ((a1.Needs.length : Int) > 4)))] [] h13 (orcL 16 [(42, bv (decide ((a1.Bars.length : Int) > 4)))] [] h14 (orcH 19 16 43 false (x_c1 («as» := [sl 1 (eSl false 7 Term.enc) a1.Needs, .fn 280 []]) [(.tmp 45), (.func 280)] [130, 201] false [] [] (.cons (.same rfl) (.cons (.fn (.nil)) (.nil))) (slices_ContainsFunc_LLimplTerm_impl_PackFault_1.ok a1.Needs) h16 (.same rfl rfl)) orcN)))) ?_
              exact J_qw (J_j (jv17 x15)) rfl

noncomputable def c282 : Code := (Tryz.f282.body).getD .skip

theorem impl_find_1.ok (a1 : Pack) (a2 : ByteArray) (a3 : Version) : Ok Tryz.prog 282 [.ag (Pack.enc false a1), pp 0, pp 1] [.box [sv a2], .box (Version.enc a3)] ((impl_find_1 a1 a2 a3).map fun r => (bv r, [.box [sv a2], .box (Version.enc a3)])) := by
  refine Ok_of3 c282 Tryz.f282 2 15 (fun q => ?_)
  unfold impl_find_1
  refine J_g 2 [(0, 2)] [(1, pp 0), (2, pp 1), (3, pp 2)] [(0, .box [sv a2]), (1, .box (Version.enc a3)), (2, .box (Pack.enc false a1))] orcN ?_
  refine J_ite (fun h4 => ?_) (fun h4 => ?_)
  · refine J_g 6 [] [(4, bv (a1.Version.A == a3.A && (a1.Version.B == a3.B && (a1.Version.C == a3.C && true))))] [(0, .box [sv a2]), (1, .box (Version.enc a3))] (orcL 4 [(8, bv (seq a1.Name a2))] [] h4 (orcH 8 4 9 true (x_seq (b := .eql) (r := (a1.Version.A == a3.A && (a1.Version.B == a3.B && (a1.Version.C == a3.C && true)))) 39 39 (.tmp 11) (.tmp 12) [.int .i64 a1.Version.A, .int .i64 a1.Version.B, .int .i64 a1.Version.C] [.int .i64 a3.A, .int .i64 a3.B, .int .i64 a3.C] (.inl ⟨rfl, rfl⟩)) orcN)) ?_
    exact J_r1 rfl
  · refine J_g 6 [] [(4, bv false)] [(0, .box [sv a2]), (1, .box (Version.enc a3))] (orcL 4 [(8, bv (seq a1.Name a2))] [] h4 orcN) ?_
    exact J_r1 rfl

noncomputable def c281 : Code := (Tryz.f281.body).getD .skip

theorem slices_IndexFunc_LimplPack_impl_find_1_l1.ok (a1 : (List Pack)) (a2 : ByteArray) (a3 : Version) (q : Wd) (kn : Unit → Option (D × List Ent)) (hk : ∀ v : Unit, J (q.g Tryz.prog 281 2 19) c281 (atI c281 7) (St.mk' [] [(0, .box [sv a2]), (1, .box (Version.enc a3))]) (some v) kn) :
    ∀ s10 : Int, J (q.g Tryz.prog 281 2 19) c281 (atI c281 52) (St.mk' [(0, sl 8 (Pack.enc false) a1), (1, .fn 282 [pp 0, pp 1]), (7, iv (a1.length : Int)), (8, iv s10)] [(0, .box [sv a2]), (1, .box (Version.enc a3))]) (slices_IndexFunc_LimplPack_impl_find_1_l1 a1 a2 a3 s10) (Fl.go (fun r : Int => some (iv r, [.box [sv a2], .box (Version.enc a3)])) kn) := by
  refine J_lp (fun g ih s10 => ?_)
  unfold slices_IndexFunc_LimplPack_impl_find_1_l1b
  refine J_g 104 [] [(0, sl 8 (Pack.enc false) a1), (1, .fn 282 [pp 0, pp 1]), (7, iv (a1.length : Int)), (8, iv s10), (9, bv (decide (s10 < (a1.length : Int))))] [(0, .box [sv a2]), (1, .box (Version.enc a3))] orcN ?_
  refine J_if2 9 (fun h11 => ?_) (fun h11 => ?_)
  · refine J_g 1688 [] [(0, sl 8 (Pack.enc false) a1), (1, .fn 282 [pp 0, pp 1]), (5, iv s10), (7, iv (a1.length : Int)), (8, iv s10)] [(0, .box [sv a2]), (1, .box (Version.enc a3))] orcN ?_
    refine J_bind (fun x12 h13 => ?_)
    refine J_bind (fun x14 h15 => ?_)
    refine J_g 3378 [] [(0, sl 8 (Pack.enc false) a1), (1, .fn 282 [pp 0, pp 1]), (5, iv s10), (7, iv (a1.length : Int)), (8, iv s10), (16, bv x14)] [(0, .box [sv a2]), (1, .box (Version.enc a3))] (orcC 3 (x_ix (kk := .i64) 47 132 8 (Pack.enc false) (.tmp 12) (.tmp 13) h13) (orcC 5 (x_ro [(0, .box [sv a2]), (1, .box (Version.enc a3))] [] (x_c1v 11 [(.tmp 15)] [132] false [(0, .box [sv a2]), (1, .box (Version.enc a3))] [0, 1] [.ag (Pack.enc false x12)] [pp 0, pp 1] (.cons (.same rfl) (.cons (.pt rfl) (.cons (.pt rfl) (.nil)))) (impl_find_1.ok x12 a2 a3) h15 (.same rfl rfl))) orcN)) ?_
    refine J_if2 16 (fun h16 => ?_) (fun h16 => ?_)
    · refine J_g 13516 [] [(4, iv s10)] [(0, .box [sv a2]), (1, .box (Version.enc a3))] orcN ?_
      exact J_r1 rfl
    · refine J_g 423 [] [(0, sl 8 (Pack.enc false) a1), (1, .fn 282 [pp 0, pp 1]), (7, iv (a1.length : Int)), (8, iv (w64 (s10 + 1)))] [(0, .box [sv a2]), (1, .box (Version.enc a3))] orcN ?_
      exact J_q (J_b (ih (w64 (s10 + 1)))) rfl
  · exact J_qw (hk ()) rfl

theorem slices_IndexFunc_LimplPack_impl_find_1.ok (a1 : (List Pack)) (a2 : ByteArray) (a3 : Version) : Ok Tryz.prog 281 [sl 8 (Pack.enc false) a1, .fn 282 [pp 0, pp 1]] [.box [sv a2], .box (Version.enc a3)] ((slices_IndexFunc_LimplPack_impl_find_1 a1 a2 a3).map fun r => (iv r, [.box [sv a2], .box (Version.enc a3)])) := by
  refine Ok_of3 c281 Tryz.f281 2 19 (fun q => ?_)
  unfold slices_IndexFunc_LimplPack_impl_find_1
  refine J_g 2 [] [(0, sl 8 (Pack.enc false) a1), (1, .fn 282 [pp 0, pp 1])] [(0, .box [sv a2]), (1, .box (Version.enc a3))] orcN ?_
  refine J_g 12 [] [(0, sl 8 (Pack.enc false) a1), (1, .fn 282 [pp 0, pp 1]), (7, iv (a1.length : Int)), (8, iv 0)] [(0, .box [sv a2]), (1, .box (Version.enc a3))] orcN ?_
  refine J_lqF (K0 := (fun r : Int => some (iv r, [.box [sv a2], .box (Version.enc a3)]))) (fun _ => rfl) (slices_IndexFunc_LimplPack_impl_find_1_l1.ok a1 a2 a3 q _ (fun v17 => J_j ?_) 0)
  refine J_g 14 [] [(4, iv (-1))] [(0, .box [sv a2]), (1, .box (Version.enc a3))] orcN ?_
  exact J_r1 rfl

noncomputable def c186 : Code := (Tryz.f186.body).getD .skip

theorem impl_find.ok (a1 : (List Pack)) (a2 : ByteArray) (a3 : Version) : Ok Tryz.prog 186 [sl 8 (Pack.enc false) a1, sv a2, .ag (Version.enc a3)] [] ((impl_find a1 a2 a3).map fun r => (iv r, [])) := by
  refine Ok_of3 c186 Tryz.f186 0 10 (fun q => ?_)
  unfold impl_find
  refine J_g 2 [(0, 0), (1, 1)] [(0, sl 8 (Pack.enc false) a1), (4, pp 0), (5, pp 1)] [(0, .box [sv a2]), (1, .box (Version.enc a3))] orcN ?_
  refine J_bind (fun x4 h5 => ?_)
  refine J_g 6 [] [(6, iv x4)] [] (orcC 2 (x_ro [(0, .box [sv a2]), (1, .box (Version.enc a3))] [] (x_c1 («as» := [sl 8 (Pack.enc false) a1, .fn 282 [pp 0, pp 1]]) [(.tmp 7), (.tmp 8)] [47, 298] false [(0, .box [sv a2]), (1, .box (Version.enc a3))] [0, 1] (.cons (.same rfl) (.cons (.fn (.cons (.pt rfl) (.cons (.pt rfl) (.nil)))) (.nil))) (slices_IndexFunc_LimplPack_impl_find_1.ok a1 a2 a3) h5 (.same rfl rfl))) orcN) ?_
  exact J_r1 rfl

noncomputable def c89 : Code := (Tryz.f89.body).getD .skip

theorem impl_CatalogFault_l1.ok (a1 : (List Pack)) (q : Wd) (kn : Unit → Option (D × List Ent)) (hk : ∀ v : Unit, J (q.g Tryz.prog 89 0 31) c89 (atI c89 15) (St.mk' [] []) (some v) kn) :
    ∀ s14 : Int, J (q.g Tryz.prog 89 0 31) c89 (atI c89 116) (St.mk' [(0, sl 8 (Pack.enc false) a1), (9, sl 8 (Pack.enc false) a1), (10, iv (a1.length : Int)), (11, iv s14)] []) (impl_CatalogFault_l1 a1 s14) (Fl.go (fun r : Int => some (iv r, [])) kn) := by
  refine J_lp (fun g ih s14 => ?_)
  unfold impl_CatalogFault_l1b
  refine J_g 232 [] [(0, sl 8 (Pack.enc false) a1), (9, sl 8 (Pack.enc false) a1), (10, iv (a1.length : Int)), (11, iv s14), (12, bv (decide (s14 < (a1.length : Int))))] [] orcN ?_
  refine J_if2 12 (fun h15 => ?_) (fun h15 => ?_)
  · refine J_bind (fun x16 h17 => ?_)
    refine J_g 3736 [(3, 0)] [(0, sl 8 (Pack.enc false) a1), (3, iv s14), (4, pp 0), (9, sl 8 (Pack.enc false) a1), (10, iv (a1.length : Int)), (11, iv s14)] [(0, .box (Pack.enc false x16))] (orcC 1 (x_ix (kk := .i64) 47 132 8 (Pack.enc false) (.tmp 9) (.tmp 11) h17) orcN) ?_
    refine J_bind (fun x18 h19 => ?_)
    refine J_g 14948 [] [(0, sl 8 (Pack.enc false) a1), (3, iv s14), (4, pp 0), (5, iv x18), (9, sl 8 (Pack.enc false) a1), (10, iv (a1.length : Int)), (11, iv s14)] [(0, .box (Pack.enc false x16))] (orcC 1 (x_c0 [(.tmp 16)] [132] (impl_PackFault.ok x16) h19) orcN) ?_
    refine J_g 29898 [] [(0, sl 8 (Pack.enc false) a1), (3, iv s14), (4, pp 0), (5, iv x18), (9, sl 8 (Pack.enc false) a1), (10, iv (a1.length : Int)), (11, iv s14), (19, bv (x18 != 0))] [(0, .box (Pack.enc false x16))] orcN ?_
    refine J_if2 19 (fun h20 => ?_) (fun h20 => ?_)
    · refine J_g 119596 [] [(2, iv x18)] [] orcN ?_
      exact J_r1 rfl
    · refine J_bind (fun x21 h22 => ?_)
      refine J_bind (fun x23 h24 => ?_)
      refine J_g 14950 [] [(0, sl 8 (Pack.enc false) a1), (9, sl 8 (Pack.enc false) a1), (10, iv (a1.length : Int)), (11, iv s14), (29, bv (decide (x23 ≥ 0)))] [] (orcC 2 (x_ls 47 132 8 (Pack.enc false) (.tmp 21) none (some (.tmp 22)) h22) (orcC 7 (x_c0 [(.tmp 23), (.tmp 25), (.tmp 27)] [47, 9, 39] (impl_find.ok x21 x16.Name x16.Version) h24) orcN)) ?_
      refine J_if2 29 (fun h25 => ?_) (fun h25 => ?_)
      · refine J_g 59804 [] [(2, iv 6)] [] orcN ?_
        exact J_r1 rfl
      · refine J_g 935 [] [(0, sl 8 (Pack.enc false) a1), (9, sl 8 (Pack.enc false) a1), (10, iv (a1.length : Int)), (11, iv (w64 (s14 + 1)))] [] orcN ?_
        exact J_q (J_b (ih (w64 (s14 + 1)))) rfl
  · exact J_qw (hk ()) rfl

theorem impl_CatalogFault.ok (a1 : (List Pack)) : Ok Tryz.prog 89 [sl 8 (Pack.enc false) a1] [] ((impl_CatalogFault a1).map fun r => (iv r, [])) := by
  refine Ok_of3 c89 Tryz.f89 0 31 (fun q => ?_)
  unfold impl_CatalogFault
  refine J_g 2 [] [(0, sl 8 (Pack.enc false) a1)] [] orcN ?_
  refine J_g 12 [] [(0, sl 8 (Pack.enc false) a1), (8, bv (decide ((a1.length : Int) > 24)))] [] orcN ?_
  refine J_if2 8 (fun h2 => ?_) (fun h2 => ?_)
  · refine J_g 52 [] [(2, iv 2)] [] orcN ?_
    exact J_r1 rfl
  · refine J_g 28 [] [(0, sl 8 (Pack.enc false) a1), (9, sl 8 (Pack.enc false) a1), (10, iv (a1.length : Int)), (11, iv 0)] [] orcN ?_
    refine J_lqF (K0 := (fun r : Int => some (iv r, []))) (fun _ => rfl) (impl_CatalogFault_l1.ok a1 q _ (fun v26 => J_j ?_) 0)
    refine J_g 30 [] [(2, iv 0)] [] orcN ?_
    exact J_r1 rfl

noncomputable def c159 : Code := (Tryz.f159.body).getD .skip

theorem impl_PathFault_l1.ok (a1 : ByteArray) (q : Wd) (kn : Unit → Option (D × List Ent)) (hk : ∀ v : Unit, J (q.g Tryz.prog 159 0 37) c159 (atI c159 15) (St.mk' [] []) (some v) kn) :
    ∀ s15 : Int, J (q.g Tryz.prog 159 0 37) c159 (atI c159 116) (St.mk' [(0, sv a1), (14, iv (a1.size : Int)), (15, iv s15)] []) (impl_PathFault_l1 a1 s15) (Fl.go (fun r : Int => some (iv r, [])) kn) := by
  refine J_lp (fun g ih s15 => ?_)
  unfold impl_PathFault_l1b
  refine J_g 232 [] [(0, sv a1), (14, iv (a1.size : Int)), (15, iv s15), (16, bv (decide (s15 < (a1.size : Int))))] [] orcN ?_
  refine J_if2 16 (fun h16 => ?_) (fun h16 => ?_)
  · refine J_g 3736 [] [(0, sv a1), (3, iv s15), (14, iv (a1.size : Int)), (15, iv s15)] [] orcN ?_
    refine J_bind (fun x17 h18 => ?_)
    refine J_g 7474 [] [(0, sv a1), (4, uv x17), (14, iv (a1.size : Int)), (15, iv s15)] [] (orcC 2 (x_bi (kk := .i64) 9 (.tmp 18) (.tmp 19) h18) orcN) ?_
    refine J_bind (fun x19 h20 => ?_)
    refine J_join (atI c159 14951) (fun v24 : Bool => St.mk' [(0, sv a1), (14, iv (a1.size : Int)), (15, iv s15), (35, bv v24)] []) (fun v24 => ?_) (fun jv24 => ?_)
    · refine J_if2 35 (fun h25 => ?_) (fun h25 => ?_)
      · refine J_g 59804 [] [(2, iv 5)] [] orcN ?_
        exact J_r1 rfl
      · refine J_g 935 [] [(0, sv a1), (14, iv (a1.size : Int)), (15, iv (w64 (s15 + 1)))] [] orcN ?_
        exact J_q (J_b (ih (w64 (s15 + 1)))) rfl
    · refine J_ite (fun h21 => ?_) (fun h21 => ?_)
      · refine J_ite (fun h22 => ?_) (fun h22 => ?_)
        · refine J_ite (fun h23 => ?_) (fun h23 => ?_)
          · refine J_g 14950 [] [(0, sv a1), (14, iv (a1.size : Int)), (15, iv s15), (35, bv (x17 != 47))] [] (orcC 1 (x_c0 [(.tmp 21)] [5] (impl_isNameByte.ok x17) h20) (orcL 3 [(23, bv (!x19))] [] h21 (orcL 7 [(27, bv (x17 != 46))] [] h22 (orcL 11 [(31, bv (x17 != 45))] [] h23 orcN)))) ?_
            exact J_qw (J_j (jv24 (x17 != 47))) rfl
          · refine J_g 14950 [] [(0, sv a1), (14, iv (a1.size : Int)), (15, iv s15), (35, bv false)] [] (orcC 1 (x_c0 [(.tmp 21)] [5] (impl_isNameByte.ok x17) h20) (orcL 3 [(23, bv (!x19))] [] h21 (orcL 7 [(27, bv (x17 != 46))] [] h22 (orcL 11 [(31, bv (x17 != 45))] [] h23 orcN)))) ?_
            exact J_qw (J_j (jv24 false)) rfl
        · refine J_g 14950 [] [(0, sv a1), (14, iv (a1.size : Int)), (15, iv s15), (35, bv false)] [] (orcC 1 (x_c0 [(.tmp 21)] [5] (impl_isNameByte.ok x17) h20) (orcL 3 [(23, bv (!x19))] [] h21 (orcL 7 [(27, bv (x17 != 46))] [] h22 orcN))) ?_
          exact J_qw (J_j (jv24 false)) rfl
      · refine J_g 14950 [] [(0, sv a1), (14, iv (a1.size : Int)), (15, iv s15), (35, bv false)] [] (orcC 1 (x_c0 [(.tmp 21)] [5] (impl_isNameByte.ok x17) h20) (orcL 3 [(23, bv (!x19))] [] h21 orcN)) ?_
        exact J_qw (J_j (jv24 false)) rfl
  · exact J_qw (hk ()) rfl

theorem impl_PathFault.ok (a1 : ByteArray) : Ok Tryz.prog 159 [sv a1] [] ((impl_PathFault a1).map fun r => (iv r, [])) := by
  refine Ok_of3 c159 Tryz.f159 0 37 (fun q => ?_)
  unfold impl_PathFault
  refine J_g 2 [] [(0, sv a1)] [] orcN ?_
  refine J_join (atI c159 13) (fun v3 : Bool => St.mk' [(0, sv a1), (12, bv v3)] []) (fun v3 => ?_) (fun jv3 => ?_)
  · refine J_if2 12 (fun h4 => ?_) (fun h4 => ?_)
    · refine J_g 52 [] [(2, iv 5)] [] orcN ?_
      exact J_r1 rfl
    · refine J_g 28 [] [(0, sv a1), (14, iv (a1.size : Int)), (15, iv 0)] [] orcN ?_
      refine J_lqF (K0 := (fun r : Int => some (iv r, []))) (fun _ => rfl) (impl_PathFault_l1.ok a1 q _ (fun v26 => J_j ?_) 0)
      refine J_g 30 [] [(2, iv 0)] [] orcN ?_
      exact J_r1 rfl
  · refine J_ite (fun h2 => ?_) (fun h2 => ?_)
    · refine J_g 12 [] [(0, sv a1), (12, bv true)] [] (orcL 3 [(7, bv (decide ((a1.size : Int) < 1)))] [] h2 orcN) ?_
      exact J_qw (J_j (jv3 true)) rfl
    · refine J_g 12 [] [(0, sv a1), (12, bv (decide ((a1.size : Int) > 40)))] [] (orcL 3 [(7, bv (decide ((a1.size : Int) < 1)))] [] h2 orcN) ?_
      exact J_qw (J_j (jv3 (decide ((a1.size : Int) > 40)))) rfl

noncomputable def c160 : Code := (Tryz.f160.body).getD .skip

theorem impl_Disk_total_l1.ok (a1 : Disk) (q : Wd) (kn : Int → Option (D × List Ent)) (hk : ∀ v : Int, J (q.g Tryz.prog 160 0 20) c160 (atI c160 15) (St.mk' [(3, iv v)] []) (some v) kn) :
    ∀ s5 : (Int × Int), J (q.g Tryz.prog 160 0 20) c160 (atI c160 116) (St.mk' [(3, iv s5.1), (7, sl 2 (File.enc false) a1.Files), (8, iv (a1.Files.length : Int)), (9, iv s5.2)] []) (impl_Disk_total_l1 a1 s5) kn := by
  refine J_lp (fun g ih s5 => ?_)
  unfold impl_Disk_total_l1b
  refine J_g 232 [] [(3, iv s5.1), (7, sl 2 (File.enc false) a1.Files), (8, iv (a1.Files.length : Int)), (9, iv s5.2), (10, bv (decide (s5.2 < (a1.Files.length : Int))))] [] orcN ?_
  refine J_if2 10 (fun h6 => ?_) (fun h6 => ?_)
  · refine J_bind (fun x7 h8 => ?_)
    refine J_g 3736 [(2, 0)] [(3, iv s5.1), (5, pp 0), (7, sl 2 (File.enc false) a1.Files), (8, iv (a1.Files.length : Int)), (9, iv s5.2)] [(0, .box (File.enc false x7))] (orcC 0 (x_ix (kk := .i64) 27 175 2 (File.enc false) (.tmp 7) (.tmp 9) h8) orcN) ?_
    refine J_g 3737 [] [(3, iv (w64 (s5.1 + (x7.Data.length : Int)))), (7, sl 2 (File.enc false) a1.Files), (8, iv (a1.Files.length : Int)), (9, iv s5.2)] [] orcN ?_
    refine J_g 935 [] [(3, iv (w64 (s5.1 + (x7.Data.length : Int)))), (7, sl 2 (File.enc false) a1.Files), (8, iv (a1.Files.length : Int)), (9, iv (w64 (s5.2 + 1)))] [] orcN ?_
    exact J_q (J_b (ih (w64 (s5.1 + (x7.Data.length : Int)), w64 (s5.2 + 1)))) rfl
  · exact J_qw (hk s5.1) rfl

theorem impl_Disk_total.ok (a1 : Disk) : Ok Tryz.prog 160 [.ag (Disk.enc false a1)] [] ((impl_Disk_total a1).map fun r => (iv r, [])) := by
  refine Ok_of3 c160 Tryz.f160 0 20 (fun q => ?_)
  unfold impl_Disk_total
  refine J_g 2 [(0, 0)] [(1, pp 0)] [(0, .box (Disk.enc false a1))] orcN ?_
  refine J_g 6 [] [(1, pp 0), (3, iv 0)] [(0, .box (Disk.enc false a1))] orcN ?_
  refine J_g 28 [] [(3, iv 0), (7, sl 2 (File.enc false) a1.Files), (8, iv (a1.Files.length : Int)), (9, iv 0)] [] orcN ?_
  refine J_lq (impl_Disk_total_l1.ok a1 q _ (fun v9 => J_j ?_) (0, 0))
  refine J_g 30 [] [(2, iv v9)] [] orcN ?_
  exact J_r1 rfl

noncomputable def c76 : Code := (Tryz.f76.body).getD .skip

theorem impl_DiskFault_l1.ok (a1 : Disk) (q : Wd) (kn : Unit → Option (D × List Ent)) (hk : ∀ v : Unit, J (q.g Tryz.prog 76 0 68) c76 (atI c76 15) (St.mk' [(1, pp 0)] [(0, .box (Disk.enc false a1))]) (some v) kn) :
    ∀ s25 : Int, J (q.g Tryz.prog 76 0 68) c76 (atI c76 116) (St.mk' [(1, pp 0), (29, sl 2 (File.enc false) a1.Files), (30, iv (a1.Files.length : Int)), (31, iv s25)] [(0, .box (Disk.enc false a1))]) (impl_DiskFault_l1 a1 s25) (Fl.go (fun r : Int => some (iv r, [])) kn) := by
  refine J_lp (fun g ih s25 => ?_)
  unfold impl_DiskFault_l1b
  refine J_g 232 [] [(1, pp 0), (29, sl 2 (File.enc false) a1.Files), (30, iv (a1.Files.length : Int)), (31, iv s25), (32, bv (decide (s25 < (a1.Files.length : Int))))] [(0, .box (Disk.enc false a1))] orcN ?_
  refine J_if2 32 (fun h26 => ?_) (fun h26 => ?_)
  · refine J_bind (fun x27 h28 => ?_)
    refine J_g 3736 [(3, 1)] [(1, pp 0), (3, iv s25), (4, pp 1), (29, sl 2 (File.enc false) a1.Files), (30, iv (a1.Files.length : Int)), (31, iv s25)] [(0, .box (Disk.enc false a1)), (1, .box (File.enc false x27))] (orcC 1 (x_ix (kk := .i64) 27 175 2 (File.enc false) (.tmp 29) (.tmp 31) h28) orcN) ?_
    refine J_bind (fun x29 h30 => ?_)
    refine J_g 14948 [] [(1, pp 0), (3, iv s25), (4, pp 1), (5, iv x29), (29, sl 2 (File.enc false) a1.Files), (30, iv (a1.Files.length : Int)), (31, iv s25)] [(0, .box (Disk.enc false a1)), (1, .box (File.enc false x27))] (orcC 2 (x_c0 [(.tmp 37)] [9] (impl_PathFault.ok x27.Path) h30) orcN) ?_
    refine J_g 29898 [] [(1, pp 0), (3, iv s25), (4, pp 1), (5, iv x29), (29, sl 2 (File.enc false) a1.Files), (30, iv (a1.Files.length : Int)), (31, iv s25), (40, bv (x29 != 0))] [(0, .box (Disk.enc false a1)), (1, .box (File.enc false x27))] orcN ?_
    refine J_if2 40 (fun h31 => ?_) (fun h31 => ?_)
    · refine J_g 119596 [] [(2, iv x29)] [] orcN ?_
      exact J_r1 rfl
    · refine J_join (atI c76 29901) (fun v35 : Bool => St.mk' [(1, pp 0), (4, pp 1), (29, sl 2 (File.enc false) a1.Files), (30, iv (a1.Files.length : Int)), (31, iv s25), (42, bv v35)] [(0, .box (Disk.enc false a1)), (1, .box (File.enc false x27))]) (fun v35 => ?_) (fun jv35 => ?_)
      · refine J_if2 42 (fun h36 => ?_) (fun h36 => ?_)
        · refine J_g 119604 [] [(2, iv 1)] [] orcN ?_
          exact J_r1 rfl
        · refine J_g 119606 [] [(1, pp 0), (29, sl 2 (File.enc false) a1.Files), (30, iv (a1.Files.length : Int)), (31, iv s25), (57, bv (decide ((x27.Data.length : Int) > 4000)))] [(0, .box (Disk.enc false a1))] orcN ?_
          refine J_if2 57 (fun h37 => ?_) (fun h37 => ?_)
          · refine J_g 478428 [] [(2, iv 2)] [] orcN ?_
            exact J_r1 rfl
          · refine J_g 935 [] [(1, pp 0), (29, sl 2 (File.enc false) a1.Files), (30, iv (a1.Files.length : Int)), (31, iv (w64 (s25 + 1)))] [(0, .box (Disk.enc false a1))] orcN ?_
            exact J_q (J_b (ih (w64 (s25 + 1)))) rfl
      · refine J_ite (fun h32 => ?_) (fun h32 => ?_)
        · refine J_bind (fun x33 h34 => ?_)
          refine J_g 29900 [] [(1, pp 0), (4, pp 1), (29, sl 2 (File.enc false) a1.Files), (30, iv (a1.Files.length : Int)), (31, iv s25), (42, bv (slt x27.Path x33.Path || seq x27.Path x33.Path))] [(0, .box (Disk.enc false a1)), (1, .box (File.enc false x27))] (orcL 2 [(44, bv (decide (s25 > 0)))] [] h32 (orcH 9 2 45 true (x_ix (kk := .i64) 27 175 2 (File.enc false) (.tmp 49) (.tmp 51) h34) orcN)) ?_
          exact J_qw (J_j (jv35 (slt x27.Path x33.Path || seq x27.Path x33.Path))) rfl
        · refine J_g 29900 [] [(1, pp 0), (4, pp 1), (29, sl 2 (File.enc false) a1.Files), (30, iv (a1.Files.length : Int)), (31, iv s25), (42, bv false)] [(0, .box (Disk.enc false a1)), (1, .box (File.enc false x27))] (orcL 2 [(44, bv (decide (s25 > 0)))] [] h32 orcN) ?_
          exact J_qw (J_j (jv35 false)) rfl
  · exact J_qw (hk ()) rfl

theorem impl_DiskFault.ok (a1 : Disk) : Ok Tryz.prog 76 [.ag (Disk.enc false a1)] [] ((impl_DiskFault a1).map fun r => (iv r, [])) := by
  refine Ok_of3 c76 Tryz.f76 0 68 (fun q => ?_)
  unfold impl_DiskFault
  refine J_g 2 [(0, 0)] [(1, pp 0)] [(0, .box (Disk.enc false a1))] orcN ?_
  refine J_bind (fun x2 h3 => ?_)
  refine J_join (atI c76 25) (fun v10 : Bool => St.mk' [(1, pp 0), (6, bv v10)] [(0, .box (Disk.enc false a1))]) (fun v10 => ?_) (fun jv10 => ?_)
  · refine J_if2 6 (fun h11 => ?_) (fun h11 => ?_)
    · refine J_g 100 [] [(2, iv 3)] [] orcN ?_
      exact J_r1 rfl
    · refine J_g 102 [] [(1, pp 0), (23, bv (decide ((a1.Files.length : Int) > 120)))] [(0, .box (Disk.enc false a1))] orcN ?_
      refine J_if2 23 (fun h12 => ?_) (fun h12 => ?_)
      · refine J_g 412 [] [(2, iv 2)] [] orcN ?_
        exact J_r1 rfl
      · refine J_g 28 [] [(1, pp 0), (29, sl 2 (File.enc false) a1.Files), (30, iv (a1.Files.length : Int)), (31, iv 0)] [(0, .box (Disk.enc false a1))] orcN ?_
        refine J_lqF (K0 := (fun r : Int => some (iv r, []))) (fun _ => rfl) (impl_DiskFault_l1.ok a1 q _ (fun v38 => J_j ?_) 0)
        refine J_bind (fun x39 h40 => ?_)
        refine J_g 60 [] [(67, bv (decide (x39 > a1.Budget)))] [] (orcC 1 (x_c0 [(.tmp 63)] [29] (impl_Disk_total.ok a1) h40) orcN) ?_
        refine J_if2 67 (fun h41 => ?_) (fun h41 => ?_)
        · refine J_g 244 [] [(2, iv 8)] [] orcN ?_
          exact J_r1 rfl
        · refine J_g 62 [] [(2, iv 0)] [] orcN ?_
          exact J_r1 rfl
  · refine J_ite (fun h4 => ?_) (fun h4 => ?_)
    · refine J_g 24 [] [(1, pp 0), (6, bv true)] [(0, .box (Disk.enc false a1))] (orcC 2 (x_c0 [(.tmp 8), (.const (.int .i64 0)), (.const (.int .i64 20000))] [2, 2, 2] (impl_within.ok a1.Budget 0 20000) h3) (orcL 4 [(10, bv (!x2))] [] h4 orcN)) ?_
      exact J_qw (J_j (jv10 true)) rfl
    · refine J_bind (fun x5 h6 => ?_)
      refine J_ite (fun h7 => ?_) (fun h7 => ?_)
      · refine J_g 24 [] [(1, pp 0), (6, bv true)] [(0, .box (Disk.enc false a1))] (orcC 2 (x_c0 [(.tmp 8), (.const (.int .i64 0)), (.const (.int .i64 20000))] [2, 2, 2] (impl_within.ok a1.Budget 0 20000) h3) (orcL 4 [(10, bv (!x2))] [] h4 (orcH 7 4 11 false (x_c0 [(.tmp 13), (.const (.int .i64 0)), (.const (.int .i64 1000000000))] [2, 2, 2] (impl_within.ok a1.Writes 0 1000000000) h6) (orcL 10 [(16, bv (!x5))] [] h7 orcN)))) ?_
        exact J_qw (J_j (jv10 true)) rfl
      · refine J_bind (fun x8 h9 => ?_)
        refine J_g 24 [] [(1, pp 0), (6, bv (!x8))] [(0, .box (Disk.enc false a1))] (orcC 2 (x_c0 [(.tmp 8), (.const (.int .i64 0)), (.const (.int .i64 20000))] [2, 2, 2] (impl_within.ok a1.Budget 0 20000) h3) (orcL 4 [(10, bv (!x2))] [] h4 (orcH 7 4 11 false (x_c0 [(.tmp 13), (.const (.int .i64 0)), (.const (.int .i64 1000000000))] [2, 2, 2] (impl_within.ok a1.Writes 0 1000000000) h6) (orcL 10 [(16, bv (!x5))] [] h7 (orcH 13 10 17 false (x_c0 [(.tmp 19), (.const (.int .i64 (-1))), (.const (.int .i64 1000000000))] [2, 2, 2] (impl_within.ok a1.Stop (-1) 1000000000) h9) orcN))))) ?_
        exact J_qw (J_j (jv10 (!x8))) rfl

noncomputable def c129 : Code := (Tryz.f129.body).getD .skip

theorem impl_bothCode.ok (a1 : (List Pack)) (a2 : Disk) : Ok Tryz.prog 129 [sl 8 (Pack.enc false) a1, .ag (Disk.enc false a2)] [] ((impl_bothCode a1 a2).map fun r => (iv r, [])) := by
  refine Ok_of3 c129 Tryz.f129 0 11 (fun q => ?_)
  unfold impl_bothCode
  refine J_g 2 [(0, 0)] [(0, sl 8 (Pack.enc false) a1), (3, pp 0)] [(0, .box (Disk.enc false a2))] orcN ?_
  refine J_bind (fun x3 h4 => ?_)
  refine J_bind (fun x5 h6 => ?_)
  refine J_bind (fun x7 h8 => ?_)
  refine J_g 6 [] [(4, iv x7)] [] (orcC 1 (x_c0 [(.tmp 5)] [47] (impl_CatalogFault.ok a1) h4) (orcC 3 (x_c0 [(.tmp 7)] [29] (impl_DiskFault.ok a2) h6) (orcC 4 (x_bp 70 2 1 1 eI64 [x3, x5] [0, 1] [(.tmp 6), (.tmp 8)] [iv x3, iv x5]) (orcC 5 (x_c1 («as» := [rr 1 [x3, x5]]) [(.tmp 9)] [70] true [(1, rE 1 eI64 [x3, x5])] [] (.cons (am_b (.head _) (fun _ => rfl) rfl) (.nil)) (impl_firstCode.ok [x3, x5]) h8 (.same rfl rfl) (hbor := fun _ => ⟨rfl, flat_sc⟩)) orcN)))) ?_
  exact J_r1 rfl

noncomputable def c332 : Code := (Tryz.f332.body).getD .skip

theorem internal_stringslite_HasPrefix.ok (a1 : ByteArray) (a2 : ByteArray) : Ok Tryz.prog 332 [sv a1, sv a2] [] ((internal_stringslite_HasPrefix a1 a2).map fun r => (bv r, [])) := by
  refine Ok_of3 c332 Tryz.f332 0 18 (fun q => ?_)
  unfold internal_stringslite_HasPrefix
  refine J_g 2 [] [(0, sv a1), (1, sv a2)] [] orcN ?_
  refine J_ite (fun h3 => ?_) (fun h3 => ?_)
  · refine J_bind (fun x4 h5 => ?_)
    refine J_g 6 [] [(4, bv (seq x4 a2))] [] (orcL 5 [(9, bv (decide ((a1.size : Int) ≥ (a2.size : Int))))] [] h3 (orcH 9 5 10 true (x_ss 9 (.tmp 11) none (some (.tmp 13)) h5) orcN)) ?_
    exact J_r1 rfl
  · refine J_g 6 [] [(4, bv false)] [] (orcL 5 [(9, bv (decide ((a1.size : Int) ≥ (a2.size : Int))))] [] h3 orcN) ?_
    exact J_r1 rfl

noncomputable def c264 : Code := (Tryz.f264.body).getD .skip

theorem strings_HasPrefix.ok (a1 : ByteArray) (a2 : ByteArray) : Ok Tryz.prog 264 [sv a1, sv a2] [] ((strings_HasPrefix a1 a2).map fun r => (bv r, [])) := by
  refine Ok_of3 c264 Tryz.f264 0 8 (fun q => ?_)
  unfold strings_HasPrefix
  refine J_g 2 [] [(0, sv a1), (1, sv a2)] [] orcN ?_
  refine J_bind (fun x3 h4 => ?_)
  refine J_g 6 [] [(4, bv x3)] [] (orcC 2 (x_c0 [(.tmp 5), (.tmp 6)] [9, 9] (internal_stringslite_HasPrefix.ok a1 a2) h4) orcN) ?_
  exact J_r1 rfl

noncomputable def c247 : Code := (Tryz.f247.body).getD .skip

theorem impl_Disk_paths_l1.ok (a1 : Disk) (a2 : ByteArray) (q : Wd) (kn : (List ByteArray) → Option (D × List Ent)) (hk : ∀ v : (List ByteArray), J (q.g Tryz.prog 247 0 27) c247 (atI c247 15) (St.mk' [(5, rr 1 v)] [(1, rE 1 eStr v)]) (some v) kn) :
    ∀ s12 : ((List ByteArray) × Int), J (q.g Tryz.prog 247 0 27) c247 (atI c247 116) (St.mk' [(1, sv a2), (5, rr 1 s12.1), (10, sl 2 (File.enc false) a1.Files), (11, iv (a1.Files.length : Int)), (12, iv s12.2)] [(1, rE 1 eStr s12.1)]) (impl_Disk_paths_l1 a1 a2 s12) kn := by
  refine J_lp (fun g ih s12 => ?_)
  unfold impl_Disk_paths_l1b
  refine J_g 232 [] [(1, sv a2), (5, rr 1 s12.1), (10, sl 2 (File.enc false) a1.Files), (11, iv (a1.Files.length : Int)), (12, iv s12.2), (13, bv (decide (s12.2 < (a1.Files.length : Int))))] [(1, rE 1 eStr s12.1)] orcN ?_
  refine J_if2 13 (fun h13 => ?_) (fun h13 => ?_)
  · refine J_bind (fun x14 h15 => ?_)
    refine J_g 3736 [(2, 2)] [(1, sv a2), (5, rr 1 s12.1), (7, pp 2), (10, sl 2 (File.enc false) a1.Files), (11, iv (a1.Files.length : Int)), (12, iv s12.2)] [(1, rE 1 eStr s12.1), (2, .box (File.enc false x14))] (orcC 0 (x_ix (kk := .i64) 27 175 2 (File.enc false) (.tmp 10) (.tmp 12) h15) orcN) ?_
    refine J_bind (fun x16 h17 => ?_)
    refine J_g 7474 [] [(1, sv a2), (5, rr 1 s12.1), (7, pp 2), (10, sl 2 (File.enc false) a1.Files), (11, iv (a1.Files.length : Int)), (12, iv s12.2), (19, bv x16)] [(1, rE 1 eStr s12.1), (2, .box (File.enc false x14))] (orcC 3 (x_c0 [(.tmp 17), (.tmp 18)] [9, 9] (strings_HasPrefix.ok x14.Path a2) h17) orcN) ?_
    refine J_join (aft c247 1868) (fun v21 : (List ByteArray) => St.mk' [(1, sv a2), (5, rr 4 v21), (10, sl 2 (File.enc false) a1.Files), (11, iv (a1.Files.length : Int)), (12, iv s12.2)] [(4, rE 1 eStr v21)]) (fun v21 => ?_) (fun jv21 => ?_)
    · refine J_g 935 [] [(1, sv a2), (5, rr 4 v21), (10, sl 2 (File.enc false) a1.Files), (11, iv (a1.Files.length : Int)), (12, iv (w64 (s12.2 + 1)))] [(4, rE 1 eStr v21)] orcN ?_
      refine J_ren 4 1 (Nat.le_of_ble_eq_true rfl) (Nat.le_of_ble_eq_true rfl) ?_
      exact J_q (J_b (ih (v21, w64 (s12.2 + 1)))) rfl
    · refine J_if2 19 (fun h18 => ?_) (fun h18 => ?_)
      · refine J_bind (fun x19 h20 => ?_)
        refine J_g 14950 [] [(1, sv a2), (5, rr 4 x19), (10, sl 2 (File.enc false) a1.Files), (11, iv (a1.Files.length : Int)), (12, iv s12.2)] [(4, rE 1 eStr x19)] (orcC 3 (x_bp 94 9 1 3 eStr [x14.Path] [0] [(.tmp 22)] [sv x14.Path]) (orcC 4 (x_ap 94 94 9 9 1 16 4 1 3 eStr (.tmp 20) (.tmp 23) h20) orcN)) ?_
        exact J_qw (J_j (jv21 x19)) rfl
      · refine J_ren 1 4 (Nat.le_of_ble_eq_true rfl) (Nat.le_of_ble_eq_true rfl) ?_
        exact J_qw (J_j (jv21 s12.1)) rfl
  · exact J_qw (hk s12.1) rfl

theorem impl_Disk_paths.ok (a1 : Disk) (a2 : ByteArray) : Ok Tryz.prog 247 [.ag (Disk.enc false a1), sv a2] [] ((impl_Disk_paths a1 a2).map fun r => (so 1 eStr r, [])) := by
  refine Ok_of3 c247 Tryz.f247 0 27 (fun q => ?_)
  unfold impl_Disk_paths
  refine J_g 2 [(0, 0)] [(1, sv a2), (2, pp 0)] [(0, .box (Disk.enc false a1))] orcN ?_
  refine J_g 6 [] [(1, sv a2), (2, pp 0), (5, rr 1 ([] : List ByteArray))] [(0, .box (Disk.enc false a1)), (1, rE 1 eStr ([] : List ByteArray))] (orcC 0 (x_bp 94 9 1 1 eStr ([] : List ByteArray) [] [] []) orcN) ?_
  refine J_g 28 [] [(1, sv a2), (5, rr 1 ([] : List ByteArray)), (10, sl 2 (File.enc false) a1.Files), (11, iv (a1.Files.length : Int)), (12, iv 0)] [(1, rE 1 eStr ([] : List ByteArray))] orcN ?_
  refine J_lq (impl_Disk_paths_l1.ok a1 a2 q _ (fun v22 => J_j ?_) (([] : List ByteArray), 0))
  refine J_g 30 [] [(4, rr 1 v22)] [(1, rE 1 eStr v22)] orcN ?_
  exact J_rm (ds := [rr 1 v22]) (ds' := [so 1 eStr v22]) (.cons (.cell (.move (.head _) (List.length_map _) (by decide) (.nil))) (.nil) (by decide)) rfl

noncomputable def c170 : Code := (Tryz.f170.body).getD .skip

theorem impl_number_l1.ok (a1 : ByteArray) (q : Wd) (kn : Int → Option (D × List Ent)) (hk : ∀ v : Int, J (q.g Tryz.prog 170 0 40) c170 (atI c170 31) (St.mk' [(5, iv v)] []) (some v) kn) :
    ∀ s16 : (Int × Int), J (q.g Tryz.prog 170 0 40) c170 (atI c170 244) (St.mk' [(0, sv a1), (5, iv s16.1), (16, iv (a1.size : Int)), (17, iv s16.2)] []) (impl_number_l1 a1 s16) (Fl.go (fun r : Int => some (iv r, [])) kn) := by
  refine J_lp (fun g ih s16 => ?_)
  unfold impl_number_l1b
  refine J_g 488 [] [(0, sv a1), (5, iv s16.1), (16, iv (a1.size : Int)), (17, iv s16.2), (18, bv (decide (s16.2 < (a1.size : Int))))] [] orcN ?_
  refine J_if2 18 (fun h17 => ?_) (fun h17 => ?_)
  · refine J_g 7832 [] [(0, sv a1), (5, iv s16.1), (6, iv s16.2), (16, iv (a1.size : Int)), (17, iv s16.2)] [] orcN ?_
    refine J_bind (fun x18 h19 => ?_)
    refine J_join (atI c170 31333) (fun v23 : Bool => St.mk' [(0, sv a1), (5, iv s16.1), (6, iv s16.2), (16, iv (a1.size : Int)), (17, iv s16.2), (29, bv v23)] []) (fun v23 => ?_) (fun jv23 => ?_)
    · refine J_if2 29 (fun h24 => ?_) (fun h24 => ?_)
      · refine J_g 125332 [] [(4, iv (-1))] [] orcN ?_
        exact J_r1 rfl
      · refine J_bind (fun x25 h26 => ?_)
        refine J_g 15667 [] [(0, sv a1), (5, iv (w64 ((w64 (10 * s16.1)) + (w64 (IntKind.u8.wrap (x25 - 48)))))), (16, iv (a1.size : Int)), (17, iv s16.2)] [] (orcC 4 (x_bi (kk := .i64) 9 (.tmp 32) (.tmp 33) h26) orcN) ?_
        refine J_g 1959 [] [(0, sv a1), (5, iv (w64 ((w64 (10 * s16.1)) + (w64 (IntKind.u8.wrap (x25 - 48)))))), (16, iv (a1.size : Int)), (17, iv (w64 (s16.2 + 1)))] [] orcN ?_
        exact J_q (J_b (ih (w64 ((w64 (10 * s16.1)) + (w64 (IntKind.u8.wrap (x25 - 48)))), w64 (s16.2 + 1)))) rfl
    · refine J_ite (fun h20 => ?_) (fun h20 => ?_)
      · refine J_g 31332 [] [(0, sv a1), (5, iv s16.1), (6, iv s16.2), (16, iv (a1.size : Int)), (17, iv s16.2), (29, bv true)] [] (orcC 2 (x_bi (kk := .i64) 9 (.tmp 20) (.tmp 21) h19) (orcL 4 [(23, bv (decide (x18 < 48)))] [] h20 orcN)) ?_
        exact J_qw (J_j (jv23 true)) rfl
      · refine J_bind (fun x21 h22 => ?_)
        refine J_g 31332 [] [(0, sv a1), (5, iv s16.1), (6, iv s16.2), (16, iv (a1.size : Int)), (17, iv s16.2), (29, bv (decide (x21 > 57)))] [] (orcC 2 (x_bi (kk := .i64) 9 (.tmp 20) (.tmp 21) h19) (orcL 4 [(23, bv (decide (x18 < 48)))] [] h20 (orcH 7 4 24 false (x_bi (kk := .i64) 9 (.tmp 25) (.tmp 26) h22) orcN))) ?_
        exact J_qw (J_j (jv23 (decide (x21 > 57)))) rfl
  · exact J_qw (hk s16.1) rfl

theorem impl_number.ok (a1 : ByteArray) (a2 : Int) : Ok Tryz.prog 170 [sv a1, iv a2] [] ((impl_number a1 a2).map fun r => (iv r, [])) := by
  refine Ok_of3 c170 Tryz.f170 0 40 (fun q => ?_)
  unfold impl_number
  refine J_g 2 [] [(0, sv a1), (1, iv a2)] [] orcN ?_
  refine J_join (atI c170 13) (fun v4 : Bool => St.mk' [(0, sv a1), (14, bv v4)] []) (fun v4 => ?_) (fun jv4 => ?_)
  · refine J_if2 14 (fun h5 => ?_) (fun h5 => ?_)
    · refine J_g 52 [] [(4, iv (-1))] [] orcN ?_
      exact J_r1 rfl
    · refine J_g 14 [] [(0, sv a1), (5, iv 0)] [] orcN ?_
      refine J_g 60 [] [(0, sv a1), (5, iv 0), (16, iv (a1.size : Int)), (17, iv 0)] [] orcN ?_
      refine J_lqF (K0 := (fun r : Int => some (iv r, []))) (fun _ => rfl) (impl_number_l1.ok a1 q _ (fun v27 => J_j ?_) (0, 0))
      refine J_g 62 [] [(4, iv v27)] [] orcN ?_
      exact J_r1 rfl
  · refine J_ite (fun h3 => ?_) (fun h3 => ?_)
    · refine J_g 12 [] [(0, sv a1), (14, bv true)] [] (orcL 2 [(8, bv (seq a1 (bs [])))] [] h3 orcN) ?_
      exact J_qw (J_j (jv4 true)) rfl
    · refine J_g 12 [] [(0, sv a1), (14, bv (decide ((a1.size : Int) > a2)))] [] (orcL 2 [(8, bv (seq a1 (bs [])))] [] h3 orcN) ?_
      exact J_qw (J_j (jv4 (decide ((a1.size : Int) > a2)))) rfl

noncomputable def c172 : Code := (Tryz.f172.body).getD .skip

theorem impl_Disk_gens_l1.ok (x2 : (List ByteArray)) (q : Wd) (kn : (List Int) → Option (D × List Ent)) (hk : ∀ v : (List Int), J (q.g Tryz.prog 172 0 31) c172 (atI c172 15) (St.mk' [(3, rr 1 v)] [(1, rE 1 eI64 v)]) (some v) kn) :
    ∀ s17 : ((List Int) × Int), J (q.g Tryz.prog 172 0 31) c172 (atI c172 116) (St.mk' [(3, rr 1 s17.1), (9, rr 2 x2), (10, iv (x2.length : Int)), (11, iv s17.2)] [(1, rE 1 eI64 s17.1), (2, rE 1 eStr x2)]) (impl_Disk_gens_l1 x2 s17) kn := by
  refine J_lp (fun g ih s17 => ?_)
  unfold impl_Disk_gens_l1b
  refine J_g 232 [] [(3, rr 1 s17.1), (9, rr 2 x2), (10, iv (x2.length : Int)), (11, iv s17.2), (12, bv (decide (s17.2 < (x2.length : Int))))] [(1, rE 1 eI64 s17.1), (2, rE 1 eStr x2)] orcN ?_
  refine J_if2 12 (fun h18 => ?_) (fun h18 => ?_)
  · refine J_bind (fun x19 h20 => ?_)
    refine J_g 3736 [] [(3, rr 1 s17.1), (5, sv x19), (9, rr 2 x2), (10, iv (x2.length : Int)), (11, iv s17.2)] [(1, rE 1 eI64 s17.1), (2, rE 1 eStr x2)] (orcC 0 (x_ixr (kk := .i64) 94 9 1 2 eStr (.tmp 9) (.tmp 11) h20) (orcC 1 (x_ldr (d := sv x19) 9 1 2 0 eStr (.tmp 13) h20 (by kernel_rfl)) orcN)) ?_
    refine J_bind (fun x21 h22 => ?_)
    refine J_bind (fun x23 h24 => ?_)
    refine J_g 7474 [] [(3, rr 1 s17.1), (5, sv x19), (6, iv x23), (9, rr 2 x2), (10, iv (x2.length : Int)), (11, iv s17.2)] [(1, rE 1 eI64 s17.1), (2, rE 1 eStr x2)] (orcC 1 (x_ss 9 (.tmp 15) (some (.const (.int .i64 4))) none h22) (orcC 2 (x_c0 [(.tmp 16), (.const (.int .i64 6))] [9, 3] (impl_number.ok x21 6) h24) orcN)) ?_
    refine J_join (atI c172 14951) (fun v26 : Bool => St.mk' [(3, rr 1 s17.1), (6, iv x23), (9, rr 2 x2), (10, iv (x2.length : Int)), (11, iv s17.2), (24, bv v26)] [(1, rE 1 eI64 s17.1), (2, rE 1 eStr x2)]) (fun v26 => ?_) (fun jv26 => ?_)
    · refine J_join (aft c172 1868) (fun v30 : (List Int) => St.mk' [(3, rr 4 v30), (9, rr 2 x2), (10, iv (x2.length : Int)), (11, iv s17.2)] [(2, rE 1 eStr x2), (4, rE 1 eI64 v30)]) (fun v30 => ?_) (fun jv30 => ?_)
      · refine J_g 935 [] [(3, rr 4 v30), (9, rr 2 x2), (10, iv (x2.length : Int)), (11, iv (w64 (s17.2 + 1)))] [(2, rE 1 eStr x2), (4, rE 1 eI64 v30)] orcN ?_
        refine J_ren 4 1 (Nat.le_of_ble_eq_true rfl) (Nat.le_of_ble_eq_true rfl) ?_
        exact J_q (J_b (ih (v30, w64 (s17.2 + 1)))) rfl
      · refine J_if2 24 (fun h27 => ?_) (fun h27 => ?_)
        · refine J_bind (fun x28 h29 => ?_)
          refine J_g 29902 [] [(3, rr 4 x28), (9, rr 2 x2), (10, iv (x2.length : Int)), (11, iv s17.2)] [(2, rE 1 eStr x2), (4, rE 1 eI64 x28)] (orcC 2 (x_bp 70 2 1 3 eI64 [x23] [0] [(.tmp 26)] [iv x23]) (orcC 3 (x_ap 70 70 2 2 1 8 4 1 3 eI64 (.tmp 25) (.tmp 27) h29) orcN)) ?_
          exact J_qw (J_j (jv30 x28)) rfl
        · refine J_ren 1 4 (Nat.le_of_ble_eq_true rfl) (Nat.le_of_ble_eq_true rfl) ?_
          exact J_qw (J_j (jv30 s17.1)) rfl
    · refine J_ite (fun h25 => ?_) (fun h25 => ?_)
      · refine J_g 14950 [] [(3, rr 1 s17.1), (6, iv x23), (9, rr 2 x2), (10, iv (x2.length : Int)), (11, iv s17.2), (24, bv ((x19.size : Int) == 10))] [(1, rE 1 eI64 s17.1), (2, rE 1 eStr x2)] (orcL 2 [(19, bv (decide (x23 ≥ 1)))] [] h25 orcN) ?_
        exact J_qw (J_j (jv26 ((x19.size : Int) == 10))) rfl
      · refine J_g 14950 [] [(3, rr 1 s17.1), (6, iv x23), (9, rr 2 x2), (10, iv (x2.length : Int)), (11, iv s17.2), (24, bv false)] [(1, rE 1 eI64 s17.1), (2, rE 1 eStr x2)] (orcL 2 [(19, bv (decide (x23 ≥ 1)))] [] h25 orcN) ?_
        exact J_qw (J_j (jv26 false)) rfl
  · exact J_qw (hk s17.1) rfl

theorem impl_Disk_gens.ok (a1 : Disk) : Ok Tryz.prog 172 [.ag (Disk.enc false a1)] [] ((impl_Disk_gens a1).map fun r => (so 1 eI64 r, [])) := by
  refine Ok_of3 c172 Tryz.f172 0 31 (fun q => ?_)
  unfold impl_Disk_gens
  refine J_g 2 [(0, 0)] [(1, pp 0)] [(0, .box (Disk.enc false a1))] orcN ?_
  refine J_g 6 [] [(1, pp 0), (3, rr 1 ([] : List Int))] [(0, .box (Disk.enc false a1)), (1, rE 1 eI64 ([] : List Int))] (orcC 0 (x_bp 70 2 1 1 eI64 ([] : List Int) [] [] []) orcN) ?_
  refine J_bind (fun x2 h3 => ?_)
  refine J_g 28 [] [(3, rr 1 ([] : List Int)), (9, rr 2 x2), (10, iv (x2.length : Int)), (11, iv 0)] [(1, rE 1 eI64 ([] : List Int)), (2, rE 1 eStr x2)] (orcC 1 (x_c1 («as» := [.ag (Disk.enc false a1), sv (bs [103, 101, 110, 47])]) [(.tmp 8), (.const (.string (bs [103, 101, 110, 47])))] [29, 9] false [] [] (.cons (.same rfl) (.cons (.same rfl) (.nil))) (impl_Disk_paths.ok a1 (bs [103, 101, 110, 47])) h3 (.own 2)) orcN) ?_
  refine J_lq (impl_Disk_gens_l1.ok x2 q _ (fun v31 => J_j ?_) (([] : List Int), 0))
  refine J_g 30 [] [(2, rr 1 v31)] [(1, rE 1 eI64 v31)] orcN ?_
  exact J_rm (ds := [rr 1 v31]) (ds' := [so 1 eI64 v31]) (.cons (.cell (.move (.head _) (List.length_map _) (by decide) (.nil))) (.nil) (by decide)) rfl

noncomputable def c276 : Code := (Tryz.f276.body).getD .skip

theorem slices_Index_Lint64_l1.ok (a1 : (List Int)) (a2 : Int) (q : Wd) (kn : Unit → Option (D × List Ent)) (hk : ∀ v : Unit, J (q.g Tryz.prog 276 0 19) c276 (atI c276 7) (St.mk' [] []) (some v) kn) :
    ∀ s7 : Int, J (q.g Tryz.prog 276 0 19) c276 (atI c276 52) (St.mk' [(0, sl 1 eI64 a1), (1, iv a2), (7, iv (a1.length : Int)), (8, iv s7)] []) (slices_Index_Lint64_l1 a1 a2 s7) (Fl.go (fun r : Int => some (iv r, [])) kn) := by
  refine J_lp (fun g ih s7 => ?_)
  unfold slices_Index_Lint64_l1b
  refine J_g 104 [] [(0, sl 1 eI64 a1), (1, iv a2), (7, iv (a1.length : Int)), (8, iv s7), (9, bv (decide (s7 < (a1.length : Int))))] [] orcN ?_
  refine J_if2 9 (fun h8 => ?_) (fun h8 => ?_)
  · refine J_g 1688 [] [(0, sl 1 eI64 a1), (1, iv a2), (5, iv s7), (7, iv (a1.length : Int)), (8, iv s7)] [] orcN ?_
    refine J_bind (fun x9 h10 => ?_)
    refine J_g 3378 [] [(0, sl 1 eI64 a1), (1, iv a2), (5, iv s7), (7, iv (a1.length : Int)), (8, iv s7), (16, bv (a2 == x9))] [] (orcC 3 (x_ix (kk := .i64) 70 2 1 eI64 (.tmp 12) (.tmp 13) h10) orcN) ?_
    refine J_if2 16 (fun h11 => ?_) (fun h11 => ?_)
    · refine J_g 13516 [] [(4, iv s7)] [] orcN ?_
      exact J_r1 rfl
    · refine J_g 423 [] [(0, sl 1 eI64 a1), (1, iv a2), (7, iv (a1.length : Int)), (8, iv (w64 (s7 + 1)))] [] orcN ?_
      exact J_q (J_b (ih (w64 (s7 + 1)))) rfl
  · exact J_qw (hk ()) rfl

theorem slices_Index_Lint64.ok (a1 : (List Int)) (a2 : Int) : Ok Tryz.prog 276 [sl 1 eI64 a1, iv a2] [] ((slices_Index_Lint64 a1 a2).map fun r => (iv r, [])) := by
  refine Ok_of3 c276 Tryz.f276 0 19 (fun q => ?_)
  unfold slices_Index_Lint64
  refine J_g 2 [] [(0, sl 1 eI64 a1), (1, iv a2)] [] orcN ?_
  refine J_g 12 [] [(0, sl 1 eI64 a1), (1, iv a2), (7, iv (a1.length : Int)), (8, iv 0)] [] orcN ?_
  refine J_lqF (K0 := (fun r : Int => some (iv r, []))) (fun _ => rfl) (slices_Index_Lint64_l1.ok a1 a2 q _ (fun v12 => J_j ?_) 0)
  refine J_g 14 [] [(4, iv (-1))] [] orcN ?_
  exact J_r1 rfl

noncomputable def c171 : Code := (Tryz.f171.body).getD .skip

theorem slices_Contains_Lint64.ok (a1 : (List Int)) (a2 : Int) : Ok Tryz.prog 171 [sl 1 eI64 a1, iv a2] [] ((slices_Contains_Lint64 a1 a2).map fun r => (bv r, [])) := by
  refine Ok_of3 c171 Tryz.f171 0 9 (fun q => ?_)
  unfold slices_Contains_Lint64
  refine J_g 2 [] [(0, sl 1 eI64 a1), (1, iv a2)] [] orcN ?_
  refine J_bind (fun x3 h4 => ?_)
  refine J_g 6 [] [(4, bv (decide (x3 ≥ 0)))] [] (orcC 2 (x_c0 [(.tmp 5), (.tmp 6)] [70, 2] (slices_Index_Lint64.ok a1 a2) h4) orcN) ?_
  exact J_r1 rfl

theorem strconv_FormatInt.ok (a1 a2 : Int) : Ok Tryz.prog 262 [iv a1, iv a2] [] ((strconv_FormatInt a1 a2).map fun r => (sv r, [])) := by
  unfold strconv_FormatInt
  split
  · rename_i h
    obtain ⟨rfl, h0, h1⟩ := h
    exact Ok_grow (vs := [.int .i64 a1, .int .i64 10]) (fun w hG => Tryz.strconv_FormatInt_10 a1 h0 h1 w (tabIs_of (g := 1) hG (by kernel_rfl) (by kernel_rfl)))
  · exact fun _ h => by cases h

noncomputable def c154 : Code := (Tryz.f154.body).getD .skip

theorem impl_dec.ok (a1 : Int) : Ok Tryz.prog 154 [iv a1] [] ((impl_dec a1).map fun r => (sv r, [])) := by
  refine Ok_of3 c154 Tryz.f154 0 5 (fun q => ?_)
  unfold impl_dec
  refine J_g 2 [] [(0, iv a1)] [] orcN ?_
  refine J_bind (fun x2 h3 => ?_)
  refine J_g 6 [] [(2, sv x2)] [] (orcC 1 (x_c0 [(.tmp 3), (.const (.int .i64 10))] [2, 3] (strconv_FormatInt.ok a1 10) h3) orcN) ?_
  exact J_r1 rfl

theorem strings_Repeat.ok (a1 : ByteArray) (a2 : Int) : Ok Tryz.prog 155 [sv a1, iv a2] [] ((strings_Repeat a1 a2).map fun r => (sv r, [])) := by
  unfold strings_Repeat
  split
  · rename_i h
    obtain ⟨h0, h1, h2⟩ := h
    obtain ⟨n, rfl⟩ := Int.eq_ofNat_of_zero_le h0
    exact Ok_below (vs := [.string a1, .int .i64 n]) (fun w => Tryz.strings_Repeat a1 n w (by omega) h2)
  · exact fun _ h => by cases h

noncomputable def c72 : Code := (Tryz.f72.body).getD .skip

theorem impl_genPath.ok (a1 : Int) : Ok Tryz.prog 72 [iv a1] [] ((impl_genPath a1).map fun r => (sv r, [])) := by
  refine Ok_of3 c72 Tryz.f72 0 13 (fun q => ?_)
  unfold impl_genPath
  refine J_g 2 [] [(0, iv a1)] [] orcN ?_
  refine J_bind (fun x2 h3 => ?_)
  refine J_g 6 [] [(3, sv x2)] [] (orcC 1 (x_c0 [(.tmp 4)] [2] (impl_dec.ok a1) h3) orcN) ?_
  refine J_bind (fun x4 h5 => ?_)
  refine J_bind (fun x6 h7 => ?_)
  refine J_bind (fun x8 h9 => ?_)
  refine J_g 14 [] [(2, sv x8)] [] (orcC 3 (x_c0 [(.const (.string (bs [48]))), (.tmp 8)] [9, 3] (strings_Repeat.ok (bs [48]) (w64 (6 - (x2.size : Int)))) h5) (orcC 4 (x_cat 9 9 (.const (.string (bs [103, 101, 110, 47]))) (.tmp 9) h7) (orcC 6 (x_cat 9 9 (.tmp 10) (.tmp 11) h9) orcN))) ?_
  exact J_r1 rfl

theorem bytealg_CompareString.ok (a1 a2 : ByteArray) : Ok Tryz.prog 327 [sv a1, sv a2] [] ((bytealg_CompareString a1 a2).map fun r => (iv r, [])) :=
  Ok_sc (vs := [.string a1, .string a2]) (fun w => Tryz.bytealg_CompareString a1 a2 w)

noncomputable def c259 : Code := (Tryz.f259.body).getD .skip

theorem strings_Compare.ok (a1 : ByteArray) (a2 : ByteArray) : Ok Tryz.prog 259 [sv a1, sv a2] [] ((strings_Compare a1 a2).map fun r => (iv r, [])) := by
  refine Ok_of3 c259 Tryz.f259 0 8 (fun q => ?_)
  unfold strings_Compare
  refine J_g 2 [] [(0, sv a1), (1, sv a2)] [] orcN ?_
  refine J_bind (fun x3 h4 => ?_)
  refine J_g 6 [] [(4, iv x3)] [] (orcC 2 (x_c0 [(.tmp 5), (.tmp 6)] [9, 9] (bytealg_CompareString.ok a1 a2) h4) orcN) ?_
  exact J_r1 rfl

noncomputable def c258 : Code := (Tryz.f258.body).getD .skip

theorem impl_Disk_place_1.ok (a1 : File) (a2 : ByteArray) : Ok Tryz.prog 258 [.ag (File.enc false a1), sv a2] [] ((impl_Disk_place_1 a1 a2).map fun r => (iv r, [])) := by
  refine Ok_of3 c258 Tryz.f258 0 9 (fun q => ?_)
  unfold impl_Disk_place_1
  refine J_g 2 [(0, 0)] [(1, sv a2), (2, pp 0)] [(0, .box (File.enc false a1))] orcN ?_
  refine J_bind (fun x3 h4 => ?_)
  refine J_g 6 [] [(4, iv x3)] [] (orcC 3 (x_c0 [(.tmp 6), (.tmp 7)] [9, 9] (strings_Compare.ok a1.Path a2) h4) orcN) ?_
  exact J_r1 rfl

noncomputable def c257 : Code := (Tryz.f257.body).getD .skip

theorem slices_BinarySearchFunc_LimplFile_impl_Disk_place_1_l1.ok (a1 : (List File)) (a2 : ByteArray) (q : Wd) (kn : Int → Option (D × List Ent)) (hk : ∀ v : Int, J (q.g Tryz.prog 257 0 49) c257 (atI c257 31) (St.mk' [(0, sl 2 (File.enc false) a1), (1, sv a2), (2, .fn 258 []), (8, iv (a1.length : Int)), (9, iv v)] []) (some v) kn) :
    ∀ s9 : (Int × Int), J (q.g Tryz.prog 257 0 49) c257 (atI c257 120) (St.mk' [(0, sl 2 (File.enc false) a1), (1, sv a2), (2, .fn 258 []), (8, iv (a1.length : Int)), (9, iv s9.1), (10, iv s9.2)] []) (slices_BinarySearchFunc_LimplFile_impl_Disk_place_1_l1 a1 a2 s9) kn := by
  refine J_lp (fun g ih s9 => ?_)
  unfold slices_BinarySearchFunc_LimplFile_impl_Disk_place_1_l1b
  refine J_g 480 [] [(0, sl 2 (File.enc false) a1), (1, sv a2), (2, .fn 258 []), (8, iv (a1.length : Int)), (9, iv s9.1), (10, iv s9.2), (17, bv (decide (s9.1 < s9.2)))] [] orcN ?_
  refine J_if2 17 (fun h10 => ?_) (fun h10 => ?_)
  · refine J_g 964 [] [(0, sl 2 (File.enc false) a1), (1, sv a2), (2, .fn 258 []), (8, iv (a1.length : Int)), (9, iv s9.1), (10, iv s9.2), (11, iv (w64 ((IntKind.u64.wrap (w64 (s9.1 + s9.2))).fdiv (2 ^ (min (1 : Int).toNat 64)))))] [] orcN ?_
    refine J_bind (fun x11 h12 => ?_)
    refine J_bind (fun x13 h14 => ?_)
    refine J_g 1930 [] [(0, sl 2 (File.enc false) a1), (1, sv a2), (2, .fn 258 []), (8, iv (a1.length : Int)), (9, iv s9.1), (10, iv s9.2), (11, iv (w64 ((IntKind.u64.wrap (w64 (s9.1 + s9.2))).fdiv (2 ^ (min (1 : Int).toNat 64))))), (31, bv (decide (x13 < 0)))] [] (orcC 3 (x_ix (kk := .i64) 27 175 2 (File.enc false) (.tmp 25) (.tmp 26) h12) (orcC 6 (x_c0v («as» := [.ag (File.enc false x11), sv a2]) (caps := []) 24 [(.tmp 28), (.tmp 29)] [175, 9] (impl_Disk_place_1.ok x11 a2) h14) orcN)) ?_
    refine J_if2 31 (fun h15 => ?_) (fun h15 => ?_)
    · refine J_g 3862 [] [(0, sl 2 (File.enc false) a1), (1, sv a2), (2, .fn 258 []), (8, iv (a1.length : Int)), (9, iv (w64 ((w64 ((IntKind.u64.wrap (w64 (s9.1 + s9.2))).fdiv (2 ^ (min (1 : Int).toNat 64)))) + 1))), (10, iv s9.2)] [] orcN ?_
      exact J_q (J_b (ih (w64 ((w64 ((IntKind.u64.wrap (w64 (s9.1 + s9.2))).fdiv (2 ^ (min (1 : Int).toNat 64)))) + 1), s9.2))) rfl
    · refine J_g 3863 [] [(0, sl 2 (File.enc false) a1), (1, sv a2), (2, .fn 258 []), (8, iv (a1.length : Int)), (9, iv s9.1), (10, iv (w64 ((IntKind.u64.wrap (w64 (s9.1 + s9.2))).fdiv (2 ^ (min (1 : Int).toNat 64)))))] [] orcN ?_
      exact J_q (J_b (ih (s9.1, w64 ((IntKind.u64.wrap (w64 (s9.1 + s9.2))).fdiv (2 ^ (min (1 : Int).toNat 64)))))) rfl
  · exact J_qw (hk s9.1) rfl

theorem slices_BinarySearchFunc_LimplFile_impl_Disk_place_1.ok (a1 : (List File)) (a2 : ByteArray) : Ok Tryz.prog 257 [sl 2 (File.enc false) a1, sv a2, .fn 258 []] [] ((slices_BinarySearchFunc_LimplFile_impl_Disk_place_1 a1 a2).map fun r => (.tu [iv r.1, bv r.2], [])) := by
  refine Ok_of3 c257 Tryz.f257 0 49 (fun q => ?_)
  unfold slices_BinarySearchFunc_LimplFile_impl_Disk_place_1
  refine J_g 2 [] [(0, sl 2 (File.enc false) a1), (1, sv a2), (2, .fn 258 [])] [] orcN ?_
  refine J_g 6 [] [(0, sl 2 (File.enc false) a1), (1, sv a2), (2, .fn 258 []), (8, iv (a1.length : Int))] [] orcN ?_
  refine J_g 14 [] [(0, sl 2 (File.enc false) a1), (1, sv a2), (2, .fn 258 []), (8, iv (a1.length : Int)), (9, iv 0), (10, iv (a1.length : Int))] [] orcN ?_
  refine J_lq (slices_BinarySearchFunc_LimplFile_impl_Disk_place_1_l1.ok a1 a2 q _ (fun v16 => J_j ?_) (0, (a1.length : Int)))
  refine J_ite (fun h17 => ?_) (fun h17 => ?_)
  · refine J_bind (fun x18 h19 => ?_)
    refine J_bind (fun x20 h21 => ?_)
    refine J_g 62 [] [(6, iv v16), (7, bv (x20 == 0))] [] (orcL 4 [(38, bv (decide (v16 < (a1.length : Int))))] [] h17 (orcH 8 4 39 true (x_ix (kk := .i64) 27 175 2 (File.enc false) (.tmp 41) (.tmp 42) h19) (orcH 11 4 39 true (x_c0v («as» := [.ag (File.enc false x18), sv a2]) (caps := []) 40 [(.tmp 44), (.tmp 45)] [175, 9] (impl_Disk_place_1.ok x18 a2) h21) orcN))) ?_
    exact J_rT rfl
  · refine J_g 62 [] [(6, iv v16), (7, bv false)] [] (orcL 4 [(38, bv (decide (v16 < (a1.length : Int))))] [] h17 orcN) ?_
    exact J_rT rfl

noncomputable def c151 : Code := (Tryz.f151.body).getD .skip

theorem impl_Disk_place.ok (a1 : Disk) (a2 : ByteArray) : Ok Tryz.prog 151 [.ag (Disk.enc false a1), sv a2] [] ((impl_Disk_place a1 a2).map fun r => (.tu [iv r.1, bv r.2], [])) := by
  refine Ok_of3 c151 Tryz.f151 0 12 (fun q => ?_)
  unfold impl_Disk_place
  refine J_g 2 [(0, 0)] [(1, sv a2), (2, pp 0)] [(0, .box (Disk.enc false a1))] orcN ?_
  refine J_bind (fun x3 h4 => ?_)
  refine J_g 6 [] [(4, iv x3.1), (5, bv x3.2)] [] (orcC 3 (x_c1 («as» := [sl 2 (File.enc false) a1.Files, sv a2, .fn 258 []]) [(.tmp 7), (.tmp 8), (.func 258)] [27, 9, 270] false [] [] (.cons (.same rfl) (.cons (.same rfl) (.cons (.fn (.nil)) (.nil)))) (slices_BinarySearchFunc_LimplFile_impl_Disk_place_1.ok a1.Files a2) h4 (.tu (.cons (.same rfl rfl) (.cons (.same rfl rfl) (.nil))))) orcN) ?_
  exact J_rT rfl

noncomputable def c158 : Code := (Tryz.f158.body).getD .skip

theorem impl_Disk_data.ok (a1 : Disk) (a2 : ByteArray) : Ok Tryz.prog 158 [.ag (Disk.enc false a1), sv a2] [] ((impl_Disk_data a1 a2).map fun r => (.tu [sl 1 eU8 r.1, bv r.2], [])) := by
  refine Ok_of3 c158 Tryz.f158 0 22 (fun q => ?_)
  unfold impl_Disk_data
  refine J_g 2 [(0, 0)] [(1, sv a2), (2, pp 0)] [(0, .box (Disk.enc false a1))] orcN ?_
  refine J_bind (fun x3 h4 => ?_)
  refine J_g 6 [] [(2, pp 0), (6, iv x3.1), (7, bv x3.2)] [(0, .box (Disk.enc false a1))] (orcC 2 (x_c0 [(.tmp 9), (.tmp 10)] [29, 9] (impl_Disk_place.ok a1 a2) h4) orcN) ?_
  refine J_g 28 [] [(2, pp 0), (6, iv x3.1), (15, bv (!x3.2))] [(0, .box (Disk.enc false a1))] orcN ?_
  refine J_if2 15 (fun h5 => ?_) (fun h5 => ?_)
  · refine J_g 116 [] [(4, nv), (5, bv false)] [] orcN ?_
    exact J_rm (ds := [nv, bv false]) (ds' := [sl 1 eU8 ([] : List Int), bv false]) (.cons (.cell (.nilsl false 1 (.nil))) (.cons (.cell (.keep rfl (.nil))) (.nil) (by decide)) (by decide)) rfl
  · refine J_bind (fun x6 h7 => ?_)
    refine J_g 30 [] [(4, sl 1 eU8 x6.Data), (5, bv true)] [] (orcC 3 (x_ix (kk := .i64) 27 175 2 (File.enc false) (.tmp 17) (.tmp 18) h7) orcN) ?_
    exact J_rT rfl

theorem strings_Split.ok (a1 a2 : ByteArray) : Ok Tryz.prog 198 [sv a1, sv a2] [] ((strings_Split a1 a2).map fun r => (so 1 eStr r, [])) := by
  unfold strings_Split
  split
  · rename_i h
    refine Ok_split (t := 9) (fun w hG => ?_)
    obtain ⟨m, hm⟩ := maxLen_of (g := 0) hG (by kernel_rfl)
    rw [Lib.splitB_all a2 h.2 0 _ a1 rfl]
    exact Tryz.strings_Split a1 a2 m w h.1 hm h.2
  · exact fun _ h => by cases h

noncomputable def c163 : Code := (Tryz.f163.body).getD .skip

theorem impl_linesOf.ok (a1 : ByteArray) : Ok Tryz.prog 163 [sv a1] [] ((impl_linesOf a1).map fun r => (so 1 eStr r, [])) := by
  refine Ok_of3 c163 Tryz.f163 0 19 (fun q => ?_)
  unfold impl_linesOf
  refine J_g 2 [] [(0, sv a1)] [] orcN ?_
  refine J_bind (fun x2 h3 => ?_)
  refine J_g 6 [] [(3, rr 0 x2)] [(0, rE 1 eStr x2)] (orcC 1 (x_c1 («as» := [sv a1, sv (bs [10])]) [(.tmp 4), (.const (.string (bs [10])))] [9, 9] false [] [] (.cons (.same rfl) (.cons (.same rfl) (.nil))) (strings_Split.ok a1 (bs [10])) h3 (.own 0)) orcN) ?_
  refine J_bind (fun x4 h5 => ?_)
  refine J_g 28 [] [(3, rr 0 x2), (12, bv (seq x4 (bs [])))] [(0, rE 1 eStr x2)] (orcC 4 (x_ixr (kk := .i64) 94 9 1 0 eStr (.tmp 6) (.tmp 9) h5) (orcC 5 (x_ldr (d := sv x4) 9 1 0 0 eStr (.tmp 10) h5 (by kernel_rfl)) orcN)) ?_
  refine J_join (atI c163 15) (fun v9 : (List ByteArray) => St.mk' [(3, rr 1 v9)] [(1, rE 1 eStr v9)]) (fun v9 => ?_) (fun jv9 => ?_)
  · refine J_g 30 [] [(2, rr 1 v9)] [(1, rE 1 eStr v9)] orcN ?_
    exact J_rm (ds := [rr 1 v9]) (ds' := [so 1 eStr v9]) (.cons (.cell (.move (.head _) (List.length_map _) (by decide) (.nil))) (.nil) (by decide)) rfl
  · refine J_if2 12 (fun h6 => ?_) (fun h6 => ?_)
    · refine J_bind (fun x7 h8 => ?_)
      refine J_g 58 [] [(3, rr 1 x7)] [(1, rE 1 eStr x7)] (orcC 4 (x_cut 94 9 1 0 1 eStr (.tmp 13) none (some (.tmp 16)) h8) orcN) ?_
      exact J_qw (J_j (jv9 x7)) rfl
    · refine J_ren 0 1 (Nat.le_of_ble_eq_true rfl) (Nat.le_of_ble_eq_true rfl) ?_
      exact J_qw (J_j (jv9 x2)) rfl

noncomputable def c362 : Code := (Tryz.f362.body).getD .skip

theorem impl_wordsOf_1.ok (a1 : ByteArray) : Ok Tryz.prog 362 [sv a1] [] ((impl_wordsOf_1 a1).map fun r => (bv r, [])) := by
  refine Ok_of3 c362 Tryz.f362 0 5 (fun q => ?_)
  unfold impl_wordsOf_1
  refine J_g 2 [] [(0, sv a1)] [] orcN ?_
  refine J_g 6 [] [(2, bv (seq a1 (bs [])))] [] orcN ?_
  exact J_r1 rfl

noncomputable def c402 : Code := (Tryz.f402.body).getD .skip

theorem slices_IndexFunc_Lstring_impl_wordsOf_1_l1.ok (a1 : (List ByteArray)) (q : Wd) (kn : Unit → Option (D × List Ent)) (hk : ∀ v : Unit, J (q.g Tryz.prog 402 0 19) c402 (atI c402 7) (St.mk' [] []) (some v) kn) :
    ∀ s8 : Int, J (q.g Tryz.prog 402 0 19) c402 (atI c402 52) (St.mk' [(0, sl 1 eStr a1), (1, .fn 362 []), (7, iv (a1.length : Int)), (8, iv s8)] []) (slices_IndexFunc_Lstring_impl_wordsOf_1_l1 a1 s8) (Fl.go (fun r : Int => some (iv r, [])) kn) := by
  refine J_lp (fun g ih s8 => ?_)
  unfold slices_IndexFunc_Lstring_impl_wordsOf_1_l1b
  refine J_g 104 [] [(0, sl 1 eStr a1), (1, .fn 362 []), (7, iv (a1.length : Int)), (8, iv s8), (9, bv (decide (s8 < (a1.length : Int))))] [] orcN ?_
  refine J_if2 9 (fun h9 => ?_) (fun h9 => ?_)
  · refine J_g 1688 [] [(0, sl 1 eStr a1), (1, .fn 362 []), (5, iv s8), (7, iv (a1.length : Int)), (8, iv s8)] [] orcN ?_
    refine J_bind (fun x10 h11 => ?_)
    refine J_bind (fun x12 h13 => ?_)
    refine J_g 3378 [] [(0, sl 1 eStr a1), (1, .fn 362 []), (5, iv s8), (7, iv (a1.length : Int)), (8, iv s8), (16, bv x12)] [] (orcC 3 (x_ix (kk := .i64) 94 9 1 eStr (.tmp 12) (.tmp 13) h11) (orcC 5 (x_c0v («as» := [sv x10]) (caps := []) 11 [(.tmp 15)] [9] (impl_wordsOf_1.ok x10) h13) orcN)) ?_
    refine J_if2 16 (fun h14 => ?_) (fun h14 => ?_)
    · refine J_g 13516 [] [(4, iv s8)] [] orcN ?_
      exact J_r1 rfl
    · refine J_g 423 [] [(0, sl 1 eStr a1), (1, .fn 362 []), (7, iv (a1.length : Int)), (8, iv (w64 (s8 + 1)))] [] orcN ?_
      exact J_q (J_b (ih (w64 (s8 + 1)))) rfl
  · exact J_qw (hk ()) rfl

theorem slices_IndexFunc_Lstring_impl_wordsOf_1.ok (a1 : (List ByteArray)) : Ok Tryz.prog 402 [sl 1 eStr a1, .fn 362 []] [] ((slices_IndexFunc_Lstring_impl_wordsOf_1 a1).map fun r => (iv r, [])) := by
  refine Ok_of3 c402 Tryz.f402 0 19 (fun q => ?_)
  unfold slices_IndexFunc_Lstring_impl_wordsOf_1
  refine J_g 2 [] [(0, sl 1 eStr a1), (1, .fn 362 [])] [] orcN ?_
  refine J_g 12 [] [(0, sl 1 eStr a1), (1, .fn 362 []), (7, iv (a1.length : Int)), (8, iv 0)] [] orcN ?_
  refine J_lqF (K0 := (fun r : Int => some (iv r, []))) (fun _ => rfl) (slices_IndexFunc_Lstring_impl_wordsOf_1_l1.ok a1 q _ (fun v15 => J_j ?_) 0)
  refine J_g 14 [] [(4, iv (-1))] [] orcN ?_
  exact J_r1 rfl

end Go.Told

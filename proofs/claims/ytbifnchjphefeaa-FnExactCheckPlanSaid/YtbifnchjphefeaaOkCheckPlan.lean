import Derived.Test.YtbifnchjphefeaaToldCheckPlan
import Derived.Test.YtbifnchjphefeaaProg
set_option linter.unusedVariables false
set_option maxRecDepth 4000
namespace Go.Told
open Go Go.Im Go.Proofs

noncomputable def c43 : Code := (Try.f43.body).getD .skip

theorem laws_szStringS_l1.ok (a1 : (List ByteArray)) (q : Wd) (kn : Int → Option (D × List Ent)) (hk : ∀ v : Int, J (q.g Try.prog 43 0 28) c43 (atI c43 31) (St.mk' [(1, iv v)] []) (some v) kn) :
    ∀ s8 : (Int × Int), J (q.g Try.prog 43 0 28) c43 (atI c43 244) (St.mk' [(0, sl 1 eStr a1), (1, iv s8.1), (5, iv s8.2)] []) (laws_szStringS_l1 a1 s8) (Fl.go (fun r : Int => some (iv r, [])) kn) := by
  refine J_lp (fun g ih s8 => ?_)
  unfold laws_szStringS_l1b
  refine J_g 976 [] [(0, sl 1 eStr a1), (1, iv s8.1), (5, iv s8.2), (15, bv (decide (s8.2 < (a1.length : Int))))] [] orcN ?_
  refine J_if2 15 (fun h9 => ?_) (fun h9 => ?_)
  · refine J_bind (fun x10 h11 => ?_)
    refine J_g 3912 [] [(0, sl 1 eStr a1), (1, iv (w64 (s8.1 - (x10.size : Int)))), (5, iv s8.2)] [] (orcC 3 (x_ix (kk := .i64) 56 9 1 eStr (.tmp 19) (.tmp 20) h11) orcN) ?_
    refine J_g 7826 [] [(0, sl 1 eStr a1), (1, iv (w64 (s8.1 - (x10.size : Int)))), (5, iv s8.2), (26, bv (decide ((w64 (s8.1 - (x10.size : Int))) < 0)))] [] orcN ?_
    refine J_if2 26 (fun h12 => ?_) (fun h12 => ?_)
    · refine J_g 31308 [] [(4, iv (-1))] [] orcN ?_
      exact J_r1 rfl
    · refine J_g 979 [] [(0, sl 1 eStr a1), (1, iv (w64 (s8.1 - (x10.size : Int)))), (5, iv (w64 (s8.2 + 1)))] [] orcN ?_
      exact J_q (J_b (ih (w64 (s8.1 - (x10.size : Int)), w64 (s8.2 + 1)))) rfl
  · exact J_qw (hk s8.1) rfl

theorem laws_szStringS.ok (a1 : (List ByteArray)) (a2 : Int) : Ok Try.prog 43 [sl 1 eStr a1, iv a2] [] ((laws_szStringS a1 a2).map fun r => (iv r, [])) := by
  refine Ok_of3 c43 Try.f43 0 28 (fun q => ?_)
  unfold laws_szStringS
  refine J_g 2 [] [(0, sl 1 eStr a1), (1, iv a2)] [] orcN ?_
  refine J_g 6 [] [(0, sl 1 eStr a1), (1, iv (w64 (a2 - (a1.length : Int))))] [] orcN ?_
  refine J_g 28 [] [(0, sl 1 eStr a1), (1, iv (w64 (a2 - (a1.length : Int)))), (11, bv (decide ((w64 (a2 - (a1.length : Int))) < 0)))] [] orcN ?_
  refine J_if2 11 (fun h3 => ?_) (fun h3 => ?_)
  · refine J_g 116 [] [(4, iv (-1))] [] orcN ?_
    exact J_r1 rfl
  · refine J_g 60 [] [(0, sl 1 eStr a1), (1, iv (w64 (a2 - (a1.length : Int)))), (5, iv 0)] [] orcN ?_
    refine J_lqF (K0 := (fun r : Int => some (iv r, []))) (fun _ => rfl) (laws_szStringS_l1.ok a1 q _ (fun v13 => J_j ?_) (w64 (a2 - (a1.length : Int)), 0))
    refine J_g 62 [] [(4, iv v13)] [] orcN ?_
    exact J_r1 rfl

noncomputable def c82 : Code := (Try.f82.body).getD .skip

theorem laws_szTerm.ok (a1 : Term) (a2 : Int) : Ok Try.prog 82 [.ag (Term.enc a1), iv a2] [] ((laws_szTerm a1 a2).map fun r => (iv r, [])) := by
  refine Ok_of3 c82 Try.f82 0 13 (fun q => ?_)
  unfold laws_szTerm
  refine J_g 2 [(0, 0)] [(1, iv a2), (2, pp 0)] [(0, .box (Term.enc a1))] orcN ?_
  refine J_g 6 [] [(1, iv (w64 (a2 - (a1.Name.size : Int))))] [] orcN ?_
  refine J_g 28 [] [(1, iv (w64 (a2 - (a1.Name.size : Int)))), (11, bv (decide ((w64 (a2 - (a1.Name.size : Int))) < 0)))] [] orcN ?_
  refine J_if2 11 (fun h3 => ?_) (fun h3 => ?_)
  · refine J_g 116 [] [(4, iv (-1))] [] orcN ?_
    exact J_r1 rfl
  · refine J_g 30 [] [(4, iv (w64 (a2 - (a1.Name.size : Int))))] [] orcN ?_
    exact J_r1 rfl

noncomputable def c45 : Code := (Try.f45.body).getD .skip

theorem laws_szTermS_l1.ok (a1 : (List Term)) (q : Wd) (kn : Int → Option (D × List Ent)) (hk : ∀ v : Int, J (q.g Try.prog 45 0 27) c45 (atI c45 31) (St.mk' [(1, iv v)] []) (some v) kn) :
    ∀ s10 : (Int × Int), J (q.g Try.prog 45 0 27) c45 (atI c45 244) (St.mk' [(0, sl 7 Term.enc a1), (1, iv s10.1), (5, iv s10.2)] []) (laws_szTermS_l1 a1 s10) (Fl.go (fun r : Int => some (iv r, [])) kn) := by
  refine J_lp (fun g ih s10 => ?_)
  unfold laws_szTermS_l1b
  refine J_g 976 [] [(0, sl 7 Term.enc a1), (1, iv s10.1), (5, iv s10.2), (15, bv (decide (s10.2 < (a1.length : Int))))] [] orcN ?_
  refine J_if2 15 (fun h11 => ?_) (fun h11 => ?_)
  · refine J_bind (fun x12 h13 => ?_)
    refine J_bind (fun x14 h15 => ?_)
    refine J_g 3912 [] [(0, sl 7 Term.enc a1), (1, iv x14), (5, iv s10.2)] [] (orcC 2 (x_ix (kk := .i64) 58 117 7 Term.enc (.tmp 18) (.tmp 19) h13) (orcC 5 (x_c0 [(.tmp 21), (.tmp 22)] [117, 3] (laws_szTerm.ok x12 s10.1) h15) orcN)) ?_
    refine J_g 7826 [] [(0, sl 7 Term.enc a1), (1, iv x14), (5, iv s10.2), (25, bv (decide (x14 < 0)))] [] orcN ?_
    refine J_if2 25 (fun h16 => ?_) (fun h16 => ?_)
    · refine J_g 31308 [] [(4, iv (-1))] [] orcN ?_
      exact J_r1 rfl
    · refine J_g 979 [] [(0, sl 7 Term.enc a1), (1, iv x14), (5, iv (w64 (s10.2 + 1)))] [] orcN ?_
      exact J_q (J_b (ih (x14, w64 (s10.2 + 1)))) rfl
  · exact J_qw (hk s10.1) rfl

theorem laws_szTermS.ok (a1 : (List Term)) (a2 : Int) : Ok Try.prog 45 [sl 7 Term.enc a1, iv a2] [] ((laws_szTermS a1 a2).map fun r => (iv r, [])) := by
  refine Ok_of3 c45 Try.f45 0 27 (fun q => ?_)
  unfold laws_szTermS
  refine J_g 2 [] [(0, sl 7 Term.enc a1), (1, iv a2)] [] orcN ?_
  refine J_g 6 [] [(0, sl 7 Term.enc a1), (1, iv (w64 (a2 - (a1.length : Int))))] [] orcN ?_
  refine J_g 28 [] [(0, sl 7 Term.enc a1), (1, iv (w64 (a2 - (a1.length : Int)))), (11, bv (decide ((w64 (a2 - (a1.length : Int))) < 0)))] [] orcN ?_
  refine J_if2 11 (fun h3 => ?_) (fun h3 => ?_)
  · refine J_g 116 [] [(4, iv (-1))] [] orcN ?_
    exact J_r1 rfl
  · refine J_g 60 [] [(0, sl 7 Term.enc a1), (1, iv (w64 (a2 - (a1.length : Int)))), (5, iv 0)] [] orcN ?_
    refine J_lqF (K0 := (fun r : Int => some (iv r, []))) (fun _ => rfl) (laws_szTermS_l1.ok a1 q _ (fun v17 => J_j ?_) (w64 (a2 - (a1.length : Int)), 0))
    refine J_g 62 [] [(4, iv v17)] [] orcN ?_
    exact J_r1 rfl

noncomputable def c44 : Code := (Try.f44.body).getD .skip

theorem laws_szTermSS_l1.ok (a1 : (List (List Term))) (q : Wd) (kn : Int → Option (D × List Ent)) (hk : ∀ v : Int, J (q.g Try.prog 44 0 27) c44 (atI c44 31) (St.mk' [(1, iv v)] []) (some v) kn) :
    ∀ s10 : (Int × Int), J (q.g Try.prog 44 0 27) c44 (atI c44 244) (St.mk' [(0, sl 1 (eSl false 7 Term.enc) a1), (1, iv s10.1), (5, iv s10.2)] []) (laws_szTermSS_l1 a1 s10) (Fl.go (fun r : Int => some (iv r, [])) kn) := by
  refine J_lp (fun g ih s10 => ?_)
  unfold laws_szTermSS_l1b
  refine J_g 976 [] [(0, sl 1 (eSl false 7 Term.enc) a1), (1, iv s10.1), (5, iv s10.2), (15, bv (decide (s10.2 < (a1.length : Int))))] [] orcN ?_
  refine J_if2 15 (fun h11 => ?_) (fun h11 => ?_)
  · refine J_bind (fun x12 h13 => ?_)
    refine J_bind (fun x14 h15 => ?_)
    refine J_g 3912 [] [(0, sl 1 (eSl false 7 Term.enc) a1), (1, iv x14), (5, iv s10.2)] [] (orcC 2 (x_ix (kk := .i64) 57 58 1 (eSl false 7 Term.enc) (.tmp 18) (.tmp 19) h13) (orcC 5 (x_c0 [(.tmp 21), (.tmp 22)] [58, 3] (laws_szTermS.ok x12 s10.1) h15) orcN)) ?_
    refine J_g 7826 [] [(0, sl 1 (eSl false 7 Term.enc) a1), (1, iv x14), (5, iv s10.2), (25, bv (decide (x14 < 0)))] [] orcN ?_
    refine J_if2 25 (fun h16 => ?_) (fun h16 => ?_)
    · refine J_g 31308 [] [(4, iv (-1))] [] orcN ?_
      exact J_r1 rfl
    · refine J_g 979 [] [(0, sl 1 (eSl false 7 Term.enc) a1), (1, iv x14), (5, iv (w64 (s10.2 + 1)))] [] orcN ?_
      exact J_q (J_b (ih (x14, w64 (s10.2 + 1)))) rfl
  · exact J_qw (hk s10.1) rfl

theorem laws_szTermSS.ok (a1 : (List (List Term))) (a2 : Int) : Ok Try.prog 44 [sl 1 (eSl false 7 Term.enc) a1, iv a2] [] ((laws_szTermSS a1 a2).map fun r => (iv r, [])) := by
  refine Ok_of3 c44 Try.f44 0 27 (fun q => ?_)
  unfold laws_szTermSS
  refine J_g 2 [] [(0, sl 1 (eSl false 7 Term.enc) a1), (1, iv a2)] [] orcN ?_
  refine J_g 6 [] [(0, sl 1 (eSl false 7 Term.enc) a1), (1, iv (w64 (a2 - (a1.length : Int))))] [] orcN ?_
  refine J_g 28 [] [(0, sl 1 (eSl false 7 Term.enc) a1), (1, iv (w64 (a2 - (a1.length : Int)))), (11, bv (decide ((w64 (a2 - (a1.length : Int))) < 0)))] [] orcN ?_
  refine J_if2 11 (fun h3 => ?_) (fun h3 => ?_)
  · refine J_g 116 [] [(4, iv (-1))] [] orcN ?_
    exact J_r1 rfl
  · refine J_g 60 [] [(0, sl 1 (eSl false 7 Term.enc) a1), (1, iv (w64 (a2 - (a1.length : Int)))), (5, iv 0)] [] orcN ?_
    refine J_lqF (K0 := (fun r : Int => some (iv r, []))) (fun _ => rfl) (laws_szTermSS_l1.ok a1 q _ (fun v17 => J_j ?_) (w64 (a2 - (a1.length : Int)), 0))
    refine J_g 62 [] [(4, iv v17)] [] orcN ?_
    exact J_r1 rfl

noncomputable def c25 : Code := (Try.f25.body).getD .skip

theorem laws_szPack.ok (a1 : Pack) (a2 : Int) : Ok Try.prog 25 [.ag (Pack.enc false a1), iv a2] [] ((laws_szPack a1 a2).map fun r => (iv r, [])) := by
  refine Ok_of3 c25 Try.f25 0 31 (fun q => ?_)
  unfold laws_szPack
  refine J_g 2 [(0, 0)] [(1, iv a2), (2, pp 0)] [(0, .box (Pack.enc false a1))] orcN ?_
  refine J_g 6 [] [(1, iv (w64 (a2 - (a1.Name.size : Int)))), (2, pp 0)] [(0, .box (Pack.enc false a1))] orcN ?_
  refine J_g 28 [] [(1, iv (w64 (a2 - (a1.Name.size : Int)))), (2, pp 0), (11, bv (decide ((w64 (a2 - (a1.Name.size : Int))) < 0)))] [(0, .box (Pack.enc false a1))] orcN ?_
  refine J_if2 11 (fun h3 => ?_) (fun h3 => ?_)
  · refine J_g 116 [] [(4, iv (-1))] [] orcN ?_
    exact J_r1 rfl
  · refine J_bind (fun x4 h5 => ?_)
    refine J_g 30 [] [(1, iv x4), (2, pp 0)] [(0, .box (Pack.enc false a1))] (orcC 3 (x_c0 [(.tmp 13), (.tmp 14)] [56, 3] (laws_szStringS.ok a1.Provides (w64 (a2 - (a1.Name.size : Int)))) h5) orcN) ?_
    refine J_g 124 [] [(1, iv x4), (2, pp 0), (17, bv (decide (x4 < 0)))] [(0, .box (Pack.enc false a1))] orcN ?_
    refine J_if2 17 (fun h6 => ?_) (fun h6 => ?_)
    · refine J_g 500 [] [(4, iv (-1))] [] orcN ?_
      exact J_r1 rfl
    · refine J_bind (fun x7 h8 => ?_)
      refine J_g 126 [] [(1, iv x7), (2, pp 0)] [(0, .box (Pack.enc false a1))] (orcC 3 (x_c0 [(.tmp 19), (.tmp 20)] [57, 3] (laws_szTermSS.ok a1.Needs x4) h8) orcN) ?_
      refine J_g 508 [] [(1, iv x7), (2, pp 0), (23, bv (decide (x7 < 0)))] [(0, .box (Pack.enc false a1))] orcN ?_
      refine J_if2 23 (fun h9 => ?_) (fun h9 => ?_)
      · refine J_g 2036 [] [(4, iv (-1))] [] orcN ?_
        exact J_r1 rfl
      · refine J_bind (fun x10 h11 => ?_)
        refine J_g 510 [] [(1, iv x10)] [] (orcC 3 (x_c0 [(.tmp 25), (.tmp 26)] [58, 3] (laws_szTermS.ok a1.Bars x7) h11) orcN) ?_
        refine J_g 2044 [] [(1, iv x10), (29, bv (decide (x10 < 0)))] [] orcN ?_
        refine J_if2 29 (fun h12 => ?_) (fun h12 => ?_)
        · refine J_g 8180 [] [(4, iv (-1))] [] orcN ?_
          exact J_r1 rfl
        · refine J_g 2046 [] [(4, iv x10)] [] orcN ?_
          exact J_r1 rfl

noncomputable def c5 : Code := (Try.f5.body).getD .skip

theorem laws_szPackS_l1.ok (a1 : (List Pack)) (q : Wd) (kn : Int → Option (D × List Ent)) (hk : ∀ v : Int, J (q.g Try.prog 5 0 27) c5 (atI c5 31) (St.mk' [(1, iv v)] []) (some v) kn) :
    ∀ s10 : (Int × Int), J (q.g Try.prog 5 0 27) c5 (atI c5 244) (St.mk' [(0, sl 8 (Pack.enc false) a1), (1, iv s10.1), (5, iv s10.2)] []) (laws_szPackS_l1 a1 s10) (Fl.go (fun r : Int => some (iv r, [])) kn) := by
  refine J_lp (fun g ih s10 => ?_)
  unfold laws_szPackS_l1b
  refine J_g 976 [] [(0, sl 8 (Pack.enc false) a1), (1, iv s10.1), (5, iv s10.2), (15, bv (decide (s10.2 < (a1.length : Int))))] [] orcN ?_
  refine J_if2 15 (fun h11 => ?_) (fun h11 => ?_)
  · refine J_bind (fun x12 h13 => ?_)
    refine J_bind (fun x14 h15 => ?_)
    refine J_g 3912 [] [(0, sl 8 (Pack.enc false) a1), (1, iv x14), (5, iv s10.2)] [] (orcC 2 (x_ix (kk := .i64) 22 60 8 (Pack.enc false) (.tmp 18) (.tmp 19) h13) (orcC 5 (x_c0 [(.tmp 21), (.tmp 22)] [60, 3] (laws_szPack.ok x12 s10.1) h15) orcN)) ?_
    refine J_g 7826 [] [(0, sl 8 (Pack.enc false) a1), (1, iv x14), (5, iv s10.2), (25, bv (decide (x14 < 0)))] [] orcN ?_
    refine J_if2 25 (fun h16 => ?_) (fun h16 => ?_)
    · refine J_g 31308 [] [(4, iv (-1))] [] orcN ?_
      exact J_r1 rfl
    · refine J_g 979 [] [(0, sl 8 (Pack.enc false) a1), (1, iv x14), (5, iv (w64 (s10.2 + 1)))] [] orcN ?_
      exact J_q (J_b (ih (x14, w64 (s10.2 + 1)))) rfl
  · exact J_qw (hk s10.1) rfl

theorem laws_szPackS.ok (a1 : (List Pack)) (a2 : Int) : Ok Try.prog 5 [sl 8 (Pack.enc false) a1, iv a2] [] ((laws_szPackS a1 a2).map fun r => (iv r, [])) := by
  refine Ok_of3 c5 Try.f5 0 27 (fun q => ?_)
  unfold laws_szPackS
  refine J_g 2 [] [(0, sl 8 (Pack.enc false) a1), (1, iv a2)] [] orcN ?_
  refine J_g 6 [] [(0, sl 8 (Pack.enc false) a1), (1, iv (w64 (a2 - (a1.length : Int))))] [] orcN ?_
  refine J_g 28 [] [(0, sl 8 (Pack.enc false) a1), (1, iv (w64 (a2 - (a1.length : Int)))), (11, bv (decide ((w64 (a2 - (a1.length : Int))) < 0)))] [] orcN ?_
  refine J_if2 11 (fun h3 => ?_) (fun h3 => ?_)
  · refine J_g 116 [] [(4, iv (-1))] [] orcN ?_
    exact J_r1 rfl
  · refine J_g 60 [] [(0, sl 8 (Pack.enc false) a1), (1, iv (w64 (a2 - (a1.length : Int)))), (5, iv 0)] [] orcN ?_
    refine J_lqF (K0 := (fun r : Int => some (iv r, []))) (fun _ => rfl) (laws_szPackS_l1.ok a1 q _ (fun v17 => J_j ?_) (w64 (a2 - (a1.length : Int)), 0))
    refine J_g 62 [] [(4, iv v17)] [] orcN ?_
    exact J_r1 rfl

noncomputable def c26 : Code := (Try.f26.body).getD .skip

theorem laws_szInt64S.ok (a1 : (List Int)) (a2 : Int) : Ok Try.prog 26 [sl 1 eI64 a1, iv a2] [] ((laws_szInt64S a1 a2).map fun r => (iv r, [])) := by
  refine Ok_of3 c26 Try.f26 0 12 (fun q => ?_)
  unfold laws_szInt64S
  refine J_g 2 [] [(0, sl 1 eI64 a1), (1, iv a2)] [] orcN ?_
  refine J_g 6 [] [(1, iv (w64 (a2 - (a1.length : Int))))] [] orcN ?_
  refine J_g 28 [] [(1, iv (w64 (a2 - (a1.length : Int)))), (10, bv (decide ((w64 (a2 - (a1.length : Int))) < 0)))] [] orcN ?_
  refine J_if2 10 (fun h3 => ?_) (fun h3 => ?_)
  · refine J_g 116 [] [(4, iv (-1))] [] orcN ?_
    exact J_r1 rfl
  · refine J_g 30 [] [(4, iv (w64 (a2 - (a1.length : Int))))] [] orcN ?_
    exact J_r1 rfl

noncomputable def c6 : Code := (Try.f6.body).getD .skip

theorem laws_szInt64SS_l1.ok (a1 : (List (List Int))) (q : Wd) (kn : Int → Option (D × List Ent)) (hk : ∀ v : Int, J (q.g Try.prog 6 0 27) c6 (atI c6 31) (St.mk' [(1, iv v)] []) (some v) kn) :
    ∀ s10 : (Int × Int), J (q.g Try.prog 6 0 27) c6 (atI c6 244) (St.mk' [(0, sl 1 (eSl false 1 eI64) a1), (1, iv s10.1), (5, iv s10.2)] []) (laws_szInt64SS_l1 a1 s10) (Fl.go (fun r : Int => some (iv r, [])) kn) := by
  refine J_lp (fun g ih s10 => ?_)
  unfold laws_szInt64SS_l1b
  refine J_g 976 [] [(0, sl 1 (eSl false 1 eI64) a1), (1, iv s10.1), (5, iv s10.2), (15, bv (decide (s10.2 < (a1.length : Int))))] [] orcN ?_
  refine J_if2 15 (fun h11 => ?_) (fun h11 => ?_)
  · refine J_bind (fun x12 h13 => ?_)
    refine J_bind (fun x14 h15 => ?_)
    refine J_g 3912 [] [(0, sl 1 (eSl false 1 eI64) a1), (1, iv x14), (5, iv s10.2)] [] (orcC 2 (x_ix (kk := .i64) 24 23 1 (eSl false 1 eI64) (.tmp 18) (.tmp 19) h13) (orcC 5 (x_c0 [(.tmp 21), (.tmp 22)] [23, 3] (laws_szInt64S.ok x12 s10.1) h15) orcN)) ?_
    refine J_g 7826 [] [(0, sl 1 (eSl false 1 eI64) a1), (1, iv x14), (5, iv s10.2), (25, bv (decide (x14 < 0)))] [] orcN ?_
    refine J_if2 25 (fun h16 => ?_) (fun h16 => ?_)
    · refine J_g 31308 [] [(4, iv (-1))] [] orcN ?_
      exact J_r1 rfl
    · refine J_g 979 [] [(0, sl 1 (eSl false 1 eI64) a1), (1, iv x14), (5, iv (w64 (s10.2 + 1)))] [] orcN ?_
      exact J_q (J_b (ih (x14, w64 (s10.2 + 1)))) rfl
  · exact J_qw (hk s10.1) rfl

theorem laws_szInt64SS.ok (a1 : (List (List Int))) (a2 : Int) : Ok Try.prog 6 [sl 1 (eSl false 1 eI64) a1, iv a2] [] ((laws_szInt64SS a1 a2).map fun r => (iv r, [])) := by
  refine Ok_of3 c6 Try.f6 0 27 (fun q => ?_)
  unfold laws_szInt64SS
  refine J_g 2 [] [(0, sl 1 (eSl false 1 eI64) a1), (1, iv a2)] [] orcN ?_
  refine J_g 6 [] [(0, sl 1 (eSl false 1 eI64) a1), (1, iv (w64 (a2 - (a1.length : Int))))] [] orcN ?_
  refine J_g 28 [] [(0, sl 1 (eSl false 1 eI64) a1), (1, iv (w64 (a2 - (a1.length : Int)))), (11, bv (decide ((w64 (a2 - (a1.length : Int))) < 0)))] [] orcN ?_
  refine J_if2 11 (fun h3 => ?_) (fun h3 => ?_)
  · refine J_g 116 [] [(4, iv (-1))] [] orcN ?_
    exact J_r1 rfl
  · refine J_g 60 [] [(0, sl 1 (eSl false 1 eI64) a1), (1, iv (w64 (a2 - (a1.length : Int)))), (5, iv 0)] [] orcN ?_
    refine J_lqF (K0 := (fun r : Int => some (iv r, []))) (fun _ => rfl) (laws_szInt64SS_l1.ok a1 q _ (fun v17 => J_j ?_) (w64 (a2 - (a1.length : Int)), 0))
    refine J_g 62 [] [(4, iv v17)] [] orcN ?_
    exact J_r1 rfl

noncomputable def c48 : Code := (Try.f48.body).getD .skip

theorem laws_toVersion.ok (a1 : Version) : Ok Try.prog 48 [.ag (Version.enc a1)] [] ((laws_toVersion a1).map fun r => (.ag (Version.enc r), [])) := by
  refine Ok_of3 c48 Try.f48 0 14 (fun q => ?_)
  unfold laws_toVersion
  refine J_g 2 [(0, 0), (1, 1)] [(1, pp 0), (2, pp 1)] [(0, .box (Version.enc a1)), (1, .box [iv 0, iv 0, iv 0])] orcN ?_
  refine J_g 6 [(0, 2)] [(1, pp 0), (2, pp 1), (3, pp 2)] [(0, .box (Version.enc a1)), (1, .box [iv 0, iv 0, iv 0]), (2, .box [iv 0, iv 0, iv 0])] orcN ?_
  refine J_g 14 [] [(1, pp 0), (2, pp 1), (3, pp 2)] [(0, .box (Version.enc a1)), (1, .box [iv 0, iv 0, iv 0]), (2, .box [iv a1.A, iv 0, iv 0])] orcN ?_
  refine J_g 30 [] [(1, pp 0), (2, pp 1), (3, pp 2)] [(0, .box (Version.enc a1)), (1, .box [iv 0, iv 0, iv 0]), (2, .box [iv a1.A, iv a1.B, iv 0])] orcN ?_
  refine J_g 62 [] [(2, pp 1), (3, pp 2)] [(1, .box [iv 0, iv 0, iv 0]), (2, .box (Version.enc a1))] orcN ?_
  refine J_g 126 [] [(2, pp 1)] [(1, .box (Version.enc a1))] orcN ?_
  exact J_r1 rfl

noncomputable def c49 : Code := (Try.f49.body).getD .skip

theorem laws_toStringS_l1.ok (a1 : (List ByteArray)) (q : Wd) (kn : (List ByteArray) → Option (D × List Ent)) (hk : ∀ v : (List ByteArray), J (q.g Try.prog 49 0 22) c49 (atI c49 15) (St.mk' [(3, rr 0 v)] [(0, rE 1 eStr v)]) (some v) kn) :
    ∀ s9 : ((List ByteArray) × Int), J (q.g Try.prog 49 0 22) c49 (atI c49 116) (St.mk' [(0, sl 1 eStr a1), (3, rr 0 s9.1), (4, iv s9.2)] [(0, rE 1 eStr s9.1)]) (laws_toStringS_l1 a1 s9) kn := by
  refine J_lp (fun g ih s9 => ?_)
  unfold laws_toStringS_l1b
  refine J_g 464 [] [(0, sl 1 eStr a1), (3, rr 0 s9.1), (4, iv s9.2), (11, bv (decide (s9.2 < (a1.length : Int))))] [(0, rE 1 eStr s9.1)] orcN ?_
  refine J_if2 11 (fun h10 => ?_) (fun h10 => ?_)
  · refine J_bind (fun x11 h12 => ?_)
    refine J_bind (fun x13 h14 => ?_)
    refine J_g 932 [] [(0, sl 1 eStr a1), (3, rr 0 s9.1), (4, iv s9.2)] [(0, rE 1 eStr (s9.1.set s9.2.toNat x11))] (orcC 4 (x_ix (kk := .i64) 56 9 1 eStr (.tmp 16) (.tmp 17) h12) (orcC 6 (x_ixr (kk := .i64) 56 9 1 0 eStr (.tmp 14) (.tmp 15) h14) (orcD 7 (x_st (b := x11) 9 1 0 0 eStr (sv x11) (.tmp 20) (.tmp 19) h14 rfl) orcN))) ?_
    refine J_st (σ' := St.mk' [(0, sl 1 eStr a1), (3, rr 0 (s9.1.set s9.2.toNat x11)), (4, iv s9.2)] [(0, rE 1 eStr (s9.1.set s9.2.toNat x11))]) (by simp only [rr, List.length_set]) ?_
    refine J_g 467 [] [(0, sl 1 eStr a1), (3, rr 0 (s9.1.set s9.2.toNat x11)), (4, iv (w64 (s9.2 + 1)))] [(0, rE 1 eStr (s9.1.set s9.2.toNat x11))] orcN ?_
    exact J_q (J_b (ih (s9.1.set s9.2.toNat x11, w64 (s9.2 + 1)))) rfl
  · exact J_qw (hk s9.1) rfl

theorem laws_toStringS.ok (a1 : (List ByteArray)) : Ok Try.prog 49 [sl 1 eStr a1] [] ((laws_toStringS a1).map fun r => (so 1 eStr r, [])) := by
  refine Ok_of3 c49 Try.f49 0 22 (fun q => ?_)
  unfold laws_toStringS
  refine J_g 2 [] [(0, sl 1 eStr a1)] [] orcN ?_
  refine J_bind (fun x2 h3 => ?_)
  refine J_g 6 [] [(0, sl 1 eStr a1), (3, rr 0 x2)] [(0, rE 1 eStr x2)] (orcC 2 (x_mk 56 9 1 16 0 eStr ByteArray.empty (.tmp 6) h3 (.keep rfl (.nil))) orcN) ?_
  refine J_g 28 [] [(0, sl 1 eStr a1), (3, rr 0 x2), (4, iv 0)] [(0, rE 1 eStr x2)] orcN ?_
  refine J_lq (laws_toStringS_l1.ok a1 q _ (fun v15 => J_j ?_) (x2, 0))
  refine J_g 30 [] [(2, rr 0 v15)] [(0, rE 1 eStr v15)] orcN ?_
  exact J_rm (ds := [rr 0 v15]) (ds' := [so 1 eStr v15]) (.cons (.cell (.move (.head _) (List.length_map _) (by decide) (.nil))) (.nil) (by decide)) rfl

noncomputable def c86 : Code := (Try.f86.body).getD .skip

theorem laws_toTerm.ok (a1 : Term) : Ok Try.prog 86 [.ag (Term.enc a1)] [] ((laws_toTerm a1).map fun r => (.ag (Term.enc r), [])) := by
  refine Ok_of3 c86 Try.f86 0 16 (fun q => ?_)
  unfold laws_toTerm
  refine J_g 2 [(0, 0), (1, 1)] [(1, pp 0), (2, pp 1)] [(0, .box (Term.enc a1)), (1, .box [sv ByteArray.empty, iv 0, iv 0, iv 0, iv 0, iv 0, iv 0])] orcN ?_
  refine J_g 6 [(0, 2)] [(1, pp 0), (2, pp 1), (3, pp 2)] [(0, .box (Term.enc a1)), (1, .box [sv ByteArray.empty, iv 0, iv 0, iv 0, iv 0, iv 0, iv 0]), (2, .box [sv ByteArray.empty, iv 0, iv 0, iv 0, iv 0, iv 0, iv 0])] orcN ?_
  refine J_g 14 [] [(1, pp 0), (2, pp 1), (3, pp 2)] [(0, .box (Term.enc a1)), (1, .box [sv ByteArray.empty, iv 0, iv 0, iv 0, iv 0, iv 0, iv 0]), (2, .box [sv a1.Name, iv 0, iv 0, iv 0, iv 0, iv 0, iv 0])] orcN ?_
  refine J_bind (fun x2 h3 => ?_)
  refine J_g 30 [] [(1, pp 0), (2, pp 1), (3, pp 2)] [(0, .box (Term.enc a1)), (1, .box [sv ByteArray.empty, iv 0, iv 0, iv 0, iv 0, iv 0, iv 0]), (2, .box [sv a1.Name, iv x2.A, iv x2.B, iv x2.C, iv 0, iv 0, iv 0])] (orcC 2 (x_c0 [(.tmp 8)] [55] (laws_toVersion.ok a1.Low) h3) orcN) ?_
  refine J_bind (fun x4 h5 => ?_)
  refine J_g 62 [] [(2, pp 1), (3, pp 2)] [(1, .box [sv ByteArray.empty, iv 0, iv 0, iv 0, iv 0, iv 0, iv 0]), (2, .box [sv a1.Name, iv x2.A, iv x2.B, iv x2.C, iv x4.A, iv x4.B, iv x4.C])] (orcC 2 (x_c0 [(.tmp 12)] [55] (laws_toVersion.ok a1.High) h5) orcN) ?_
  refine J_g 126 [] [(2, pp 1)] [(1, .box [sv a1.Name, iv x2.A, iv x2.B, iv x2.C, iv x4.A, iv x4.B, iv x4.C])] orcN ?_
  exact J_r1 rfl

noncomputable def c51 : Code := (Try.f51.body).getD .skip

theorem laws_toTermS_l1.ok (a1 : (List Term)) (q : Wd) (kn : (List Term) → Option (D × List Ent)) (hk : ∀ v : (List Term), J (q.g Try.prog 51 0 23) c51 (atI c51 15) (St.mk' [(3, rr 0 v)] [(0, rE 7 Term.enc v)]) (some v) kn) :
    ∀ s11 : ((List Term) × Int), J (q.g Try.prog 51 0 23) c51 (atI c51 116) (St.mk' [(0, sl 7 Term.enc a1), (3, rr 0 s11.1), (4, iv s11.2)] [(0, rE 7 Term.enc s11.1)]) (laws_toTermS_l1 a1 s11) kn := by
  refine J_lp (fun g ih s11 => ?_)
  unfold laws_toTermS_l1b
  refine J_g 464 [] [(0, sl 7 Term.enc a1), (3, rr 0 s11.1), (4, iv s11.2), (11, bv (decide (s11.2 < (a1.length : Int))))] [(0, rE 7 Term.enc s11.1)] orcN ?_
  refine J_if2 11 (fun h12 => ?_) (fun h12 => ?_)
  · refine J_bind (fun x13 h14 => ?_)
    refine J_bind (fun x15 h16 => ?_)
    refine J_bind (fun x17 h18 => ?_)
    refine J_g 932 [] [(0, sl 7 Term.enc a1), (3, rr 0 s11.1), (4, iv s11.2)] [(0, rE 7 Term.enc (s11.1.set s11.2.toNat x15))] (orcC 4 (x_ix (kk := .i64) 58 117 7 Term.enc (.tmp 16) (.tmp 17) h14) (orcC 6 (x_c0 [(.tmp 19)] [117] (laws_toTerm.ok x13) h16) (orcC 7 (x_ixr (kk := .i64) 64 119 7 0 Term.enc (.tmp 14) (.tmp 15) h18) (orcD 8 (x_st (b := x15) 119 7 0 0 Term.enc (.ag (Term.enc x15)) (.tmp 21) (.tmp 20) h18 rfl) orcN)))) ?_
    refine J_st (σ' := St.mk' [(0, sl 7 Term.enc a1), (3, rr 0 (s11.1.set s11.2.toNat x15)), (4, iv s11.2)] [(0, rE 7 Term.enc (s11.1.set s11.2.toNat x15))]) (by simp only [rr, List.length_set]) ?_
    refine J_g 467 [] [(0, sl 7 Term.enc a1), (3, rr 0 (s11.1.set s11.2.toNat x15)), (4, iv (w64 (s11.2 + 1)))] [(0, rE 7 Term.enc (s11.1.set s11.2.toNat x15))] orcN ?_
    exact J_q (J_b (ih (s11.1.set s11.2.toNat x15, w64 (s11.2 + 1)))) rfl
  · exact J_qw (hk s11.1) rfl

theorem laws_toTermS.ok (a1 : (List Term)) : Ok Try.prog 51 [sl 7 Term.enc a1] [] ((laws_toTermS a1).map fun r => (so 7 Term.enc r, [])) := by
  refine Ok_of3 c51 Try.f51 0 23 (fun q => ?_)
  unfold laws_toTermS
  refine J_g 2 [] [(0, sl 7 Term.enc a1)] [] orcN ?_
  refine J_bind (fun x2 h3 => ?_)
  refine J_g 6 [] [(0, sl 7 Term.enc a1), (3, rr 0 x2)] [(0, rE 7 Term.enc x2)] (orcC 2 (x_mk 64 119 7 64 0 Term.enc ({ Name := ByteArray.empty, Low := ({ A := 0, B := 0, C := 0 } : Version), High := ({ A := 0, B := 0, C := 0 } : Version) } : Term) (.tmp 6) h3 (.keep rfl (.keep rfl (.keep rfl (.keep rfl (.keep rfl (.keep rfl (.keep rfl (.nil))))))))) orcN) ?_
  refine J_g 28 [] [(0, sl 7 Term.enc a1), (3, rr 0 x2), (4, iv 0)] [(0, rE 7 Term.enc x2)] orcN ?_
  refine J_lq (laws_toTermS_l1.ok a1 q _ (fun v19 => J_j ?_) (x2, 0))
  refine J_g 30 [] [(2, rr 0 v19)] [(0, rE 7 Term.enc v19)] orcN ?_
  exact J_rm (ds := [rr 0 v19]) (ds' := [so 7 Term.enc v19]) (.cons (.cell (.move (.head _) (List.length_map _) (by decide) (.nil))) (.nil) (by decide)) rfl

noncomputable def c50 : Code := (Try.f50.body).getD .skip

theorem laws_toTermSS_l1.ok (a1 : (List (List Term))) (q : Wd) (kn : (List (List Term)) → Option (D × List Ent)) (hk : ∀ v : (List (List Term)), J (q.g Try.prog 50 0 23) c50 (atI c50 15) (St.mk' [(3, rr 0 v)] [(0, rE 1 (eSl true 7 Term.enc) v)]) (some v) kn) :
    ∀ s11 : ((List (List Term)) × Int), J (q.g Try.prog 50 0 23) c50 (atI c50 116) (St.mk' [(0, sl 1 (eSl false 7 Term.enc) a1), (3, rr 0 s11.1), (4, iv s11.2)] [(0, rE 1 (eSl true 7 Term.enc) s11.1)]) (laws_toTermSS_l1 a1 s11) kn := by
  refine J_lp (fun g ih s11 => ?_)
  unfold laws_toTermSS_l1b
  refine J_g 464 [] [(0, sl 1 (eSl false 7 Term.enc) a1), (3, rr 0 s11.1), (4, iv s11.2), (11, bv (decide (s11.2 < (a1.length : Int))))] [(0, rE 1 (eSl true 7 Term.enc) s11.1)] orcN ?_
  refine J_if2 11 (fun h12 => ?_) (fun h12 => ?_)
  · refine J_bind (fun x13 h14 => ?_)
    refine J_bind (fun x15 h16 => ?_)
    refine J_bind (fun x17 h18 => ?_)
    refine J_g 932 [] [(0, sl 1 (eSl false 7 Term.enc) a1), (3, rr 0 s11.1), (4, iv s11.2)] [(0, rE 1 (eSl true 7 Term.enc) (s11.1.set s11.2.toNat x15))] (orcC 4 (x_ix (kk := .i64) 57 58 1 (eSl false 7 Term.enc) (.tmp 16) (.tmp 17) h14) (orcC 6 (x_c1 («as» := [sl 7 Term.enc x13]) [(.tmp 19)] [58] false [] [] (.cons (.same rfl) (.nil)) (laws_toTermS.ok x13) h16 (.own 1)) (orcC 7 (x_ixr (kk := .i64) 63 64 1 0 (eSl true 7 Term.enc) (.tmp 14) (.tmp 15) h18) (orcD 8 (x_stm (b := x15) (es' := [so 7 Term.enc x15]) (ts := [1]) 64 1 0 0 (eSl true 7 Term.enc) (rr 1 x15) (.tmp 21) (.tmp 20) [(1, rE 7 Term.enc x15)] h18 (.move (.head _) (List.length_map _) (by decide) (.nil)) rfl) orcN)))) ?_
    refine J_st (σ' := St.mk' [(0, sl 1 (eSl false 7 Term.enc) a1), (3, rr 0 (s11.1.set s11.2.toNat x15)), (4, iv s11.2)] [(0, rE 1 (eSl true 7 Term.enc) (s11.1.set s11.2.toNat x15))]) (by simp only [rr, List.length_set]) ?_
    refine J_g 467 [] [(0, sl 1 (eSl false 7 Term.enc) a1), (3, rr 0 (s11.1.set s11.2.toNat x15)), (4, iv (w64 (s11.2 + 1)))] [(0, rE 1 (eSl true 7 Term.enc) (s11.1.set s11.2.toNat x15))] orcN ?_
    exact J_q (J_b (ih (s11.1.set s11.2.toNat x15, w64 (s11.2 + 1)))) rfl
  · exact J_qw (hk s11.1) rfl

theorem laws_toTermSS.ok (a1 : (List (List Term))) : Ok Try.prog 50 [sl 1 (eSl false 7 Term.enc) a1] [] ((laws_toTermSS a1).map fun r => (so 1 (eSl true 7 Term.enc) r, [])) := by
  refine Ok_of3 c50 Try.f50 0 23 (fun q => ?_)
  unfold laws_toTermSS
  refine J_g 2 [] [(0, sl 1 (eSl false 7 Term.enc) a1)] [] orcN ?_
  refine J_bind (fun x2 h3 => ?_)
  refine J_g 6 [] [(0, sl 1 (eSl false 7 Term.enc) a1), (3, rr 0 x2)] [(0, rE 1 (eSl true 7 Term.enc) x2)] (orcC 2 (x_mk 63 64 1 24 0 (eSl true 7 Term.enc) ([] : List Term) (.tmp 6) h3 (.nilsl true 7 (.nil))) orcN) ?_
  refine J_g 28 [] [(0, sl 1 (eSl false 7 Term.enc) a1), (3, rr 0 x2), (4, iv 0)] [(0, rE 1 (eSl true 7 Term.enc) x2)] orcN ?_
  refine J_lq (laws_toTermSS_l1.ok a1 q _ (fun v19 => J_j ?_) (x2, 0))
  refine J_g 30 [] [(2, rr 0 v19)] [(0, rE 1 (eSl true 7 Term.enc) v19)] orcN ?_
  exact J_rm (ds := [rr 0 v19]) (ds' := [so 1 (eSl true 7 Term.enc) v19]) (.cons (.cell (.move (.head _) (List.length_map _) (by decide) (.nil))) (.nil) (by decide)) rfl

noncomputable def c29 : Code := (Try.f29.body).getD .skip

theorem laws_toPack.ok (a1 : Pack) : Ok Try.prog 29 [.ag (Pack.enc false a1)] [] ((laws_toPack a1).map fun r => (.ag [sv r.Name, iv r.Version.A, iv r.Version.B, iv r.Version.C, iv r.Size, so 1 eStr r.Provides, so 1 (eSl true 7 Term.enc) r.Needs, so 7 Term.enc r.Bars], [])) := by
  refine Ok_of3 c29 Try.f29 0 27 (fun q => ?_)
  unfold laws_toPack
  refine J_g 2 [(0, 0), (1, 1)] [(1, pp 0), (2, pp 1)] [(0, .box (Pack.enc false a1)), (1, .box [sv ByteArray.empty, iv 0, iv 0, iv 0, iv 0, nv, nv, nv])] orcN ?_
  refine J_g 6 [(0, 2)] [(1, pp 0), (2, pp 1), (3, pp 2)] [(0, .box (Pack.enc false a1)), (1, .box [sv ByteArray.empty, iv 0, iv 0, iv 0, iv 0, nv, nv, nv]), (2, .box [sv ByteArray.empty, iv 0, iv 0, iv 0, iv 0, nv, nv, nv])] orcN ?_
  refine J_g 14 [] [(1, pp 0), (2, pp 1), (3, pp 2)] [(0, .box (Pack.enc false a1)), (1, .box [sv ByteArray.empty, iv 0, iv 0, iv 0, iv 0, nv, nv, nv]), (2, .box [sv a1.Name, iv 0, iv 0, iv 0, iv 0, nv, nv, nv])] orcN ?_
  refine J_bind (fun x2 h3 => ?_)
  refine J_g 30 [] [(1, pp 0), (2, pp 1), (3, pp 2)] [(0, .box (Pack.enc false a1)), (1, .box [sv ByteArray.empty, iv 0, iv 0, iv 0, iv 0, nv, nv, nv]), (2, .box [sv a1.Name, iv x2.A, iv x2.B, iv x2.C, iv 0, nv, nv, nv])] (orcC 2 (x_c0 [(.tmp 8)] [55] (laws_toVersion.ok a1.Version) h3) orcN) ?_
  refine J_g 62 [] [(1, pp 0), (2, pp 1), (3, pp 2)] [(0, .box (Pack.enc false a1)), (1, .box [sv ByteArray.empty, iv 0, iv 0, iv 0, iv 0, nv, nv, nv]), (2, .box [sv a1.Name, iv x2.A, iv x2.B, iv x2.C, iv a1.Size, nv, nv, nv])] orcN ?_
  refine J_bind (fun x4 h5 => ?_)
  refine J_g 126 [] [(1, pp 0), (2, pp 1), (3, pp 2)] [(0, .box (Pack.enc false a1)), (1, .box [sv ByteArray.empty, iv 0, iv 0, iv 0, iv 0, nv, nv, nv]), (2, .box [sv a1.Name, iv x2.A, iv x2.B, iv x2.C, iv a1.Size, rr 3 x4, nv, nv]), (3, rE 1 eStr x4)] (orcC 2 (x_c1 («as» := [sl 1 eStr a1.Provides]) [(.tmp 15)] [56] false [] [] (.cons (.same rfl) (.nil)) (laws_toStringS.ok a1.Provides) h5 (.own 3)) orcN) ?_
  refine J_bind (fun x6 h7 => ?_)
  refine J_g 254 [] [(1, pp 0), (2, pp 1), (3, pp 2)] [(0, .box (Pack.enc false a1)), (1, .box [sv ByteArray.empty, iv 0, iv 0, iv 0, iv 0, nv, nv, nv]), (2, .box [sv a1.Name, iv x2.A, iv x2.B, iv x2.C, iv a1.Size, rr 3 x4, rr 4 x6, nv]), (3, rE 1 eStr x4), (4, rE 1 (eSl true 7 Term.enc) x6)] (orcC 2 (x_c1 («as» := [sl 1 (eSl false 7 Term.enc) a1.Needs]) [(.tmp 19)] [57] false [] [] (.cons (.same rfl) (.nil)) (laws_toTermSS.ok a1.Needs) h7 (.own 4)) orcN) ?_
  refine J_bind (fun x8 h9 => ?_)
  refine J_g 510 [] [(2, pp 1), (3, pp 2)] [(1, .box [sv ByteArray.empty, iv 0, iv 0, iv 0, iv 0, nv, nv, nv]), (2, .box [sv a1.Name, iv x2.A, iv x2.B, iv x2.C, iv a1.Size, rr 3 x4, rr 4 x6, rr 5 x8]), (3, rE 1 eStr x4), (4, rE 1 (eSl true 7 Term.enc) x6), (5, rE 7 Term.enc x8)] (orcC 2 (x_c1 («as» := [sl 7 Term.enc a1.Bars]) [(.tmp 23)] [58] false [] [] (.cons (.same rfl) (.nil)) (laws_toTermS.ok a1.Bars) h9 (.own 5)) orcN) ?_
  refine J_g 1022 [] [(2, pp 1)] [(1, .box [sv a1.Name, iv x2.A, iv x2.B, iv x2.C, iv a1.Size, rr 3 x4, rr 4 x6, rr 5 x8]), (3, rE 1 eStr x4), (4, rE 1 (eSl true 7 Term.enc) x6), (5, rE 7 Term.enc x8)] orcN ?_
  exact J_rm (ds := [.ag [sv a1.Name, iv x2.A, iv x2.B, iv x2.C, iv a1.Size, rr 3 x4, rr 4 x6, rr 5 x8]]) (ds' := [.ag [sv a1.Name, iv x2.A, iv x2.B, iv x2.C, iv a1.Size, so 1 eStr x4, so 1 (eSl true 7 Term.enc) x6, so 7 Term.enc x8]]) (.cons (.ag (.keep rfl (.keep rfl (.keep rfl (.keep rfl (.keep rfl (.move (.tail _ (.head _)) (List.length_map _) (by decide) (.move (.tail _ (.tail _ (.head _))) (List.length_map _) (by decide) (.move (.tail _ (.tail _ (.tail _ (.head _)))) (List.length_map _) (by decide) (.nil)))))))))) (.nil) (by decide)) rfl

noncomputable def c8 : Code := (Try.f8.body).getD .skip

theorem laws_toPackS_l1.ok (a1 : (List Pack)) (q : Wd) (kn : (List Pack) → Option (D × List Ent)) (hk : ∀ v : (List Pack), J (q.g Try.prog 8 0 23) c8 (atI c8 15) (St.mk' [(3, rr 0 v)] [(0, rE 8 (Pack.enc true) v)]) (some v) kn) :
    ∀ s11 : ((List Pack) × Int), J (q.g Try.prog 8 0 23) c8 (atI c8 116) (St.mk' [(0, sl 8 (Pack.enc false) a1), (3, rr 0 s11.1), (4, iv s11.2)] [(0, rE 8 (Pack.enc true) s11.1)]) (laws_toPackS_l1 a1 s11) kn := by
  refine J_lp (fun g ih s11 => ?_)
  unfold laws_toPackS_l1b
  refine J_g 464 [] [(0, sl 8 (Pack.enc false) a1), (3, rr 0 s11.1), (4, iv s11.2), (11, bv (decide (s11.2 < (a1.length : Int))))] [(0, rE 8 (Pack.enc true) s11.1)] orcN ?_
  refine J_if2 11 (fun h12 => ?_) (fun h12 => ?_)
  · refine J_bind (fun x13 h14 => ?_)
    refine J_bind (fun x15 h16 => ?_)
    refine J_bind (fun x17 h18 => ?_)
    refine J_g 932 [] [(0, sl 8 (Pack.enc false) a1), (3, rr 0 s11.1), (4, iv s11.2)] [(0, rE 8 (Pack.enc true) (s11.1.set s11.2.toNat x15))] (orcC 4 (x_ix (kk := .i64) 22 60 8 (Pack.enc false) (.tmp 16) (.tmp 17) h14) (orcC 6 (x_c1 («as» := [.ag (Pack.enc false x13)]) [(.tmp 19)] [60] false [] [] (.cons (.same rfl) (.nil)) (laws_toPack.ok x13) h16 (.ag (.cons (.same rfl rfl) (.cons (.same rfl rfl) (.cons (.same rfl rfl) (.cons (.same rfl rfl) (.cons (.same rfl rfl) (.cons (.own 1) (.cons (.own 2) (.cons (.own 3) (.nil))))))))))) (orcC 7 (x_ixr (kk := .i64) 28 66 8 0 (Pack.enc true) (.tmp 14) (.tmp 15) h18) (orcD 8 (x_stm (b := x15) (es' := [sv x15.Name, iv x15.Version.A, iv x15.Version.B, iv x15.Version.C, iv x15.Size, so 1 eStr x15.Provides, so 1 (eSl true 7 Term.enc) x15.Needs, so 7 Term.enc x15.Bars]) (ts := [1, 2, 3]) 66 8 0 0 (Pack.enc true) (.ag [sv x15.Name, iv x15.Version.A, iv x15.Version.B, iv x15.Version.C, iv x15.Size, rr 1 x15.Provides, rr 2 x15.Needs, rr 3 x15.Bars]) (.tmp 21) (.tmp 20) [(1, rE 1 eStr x15.Provides), (2, rE 1 (eSl true 7 Term.enc) x15.Needs), (3, rE 7 Term.enc x15.Bars)] h18 (.keep rfl (.keep rfl (.keep rfl (.keep rfl (.keep rfl (.move (.head _) (List.length_map _) (by decide) (.move (.tail _ (.head _)) (List.length_map _) (by decide) (.move (.tail _ (.tail _ (.head _))) (List.length_map _) (by decide) (.nil))))))))) rfl) orcN)))) ?_
    refine J_st (σ' := St.mk' [(0, sl 8 (Pack.enc false) a1), (3, rr 0 (s11.1.set s11.2.toNat x15)), (4, iv s11.2)] [(0, rE 8 (Pack.enc true) (s11.1.set s11.2.toNat x15))]) (by simp only [rr, List.length_set]) ?_
    refine J_g 467 [] [(0, sl 8 (Pack.enc false) a1), (3, rr 0 (s11.1.set s11.2.toNat x15)), (4, iv (w64 (s11.2 + 1)))] [(0, rE 8 (Pack.enc true) (s11.1.set s11.2.toNat x15))] orcN ?_
    exact J_q (J_b (ih (s11.1.set s11.2.toNat x15, w64 (s11.2 + 1)))) rfl
  · exact J_qw (hk s11.1) rfl

theorem laws_toPackS.ok (a1 : (List Pack)) : Ok Try.prog 8 [sl 8 (Pack.enc false) a1] [] ((laws_toPackS a1).map fun r => (so 8 (Pack.enc true) r, [])) := by
  refine Ok_of3 c8 Try.f8 0 23 (fun q => ?_)
  unfold laws_toPackS
  refine J_g 2 [] [(0, sl 8 (Pack.enc false) a1)] [] orcN ?_
  refine J_bind (fun x2 h3 => ?_)
  refine J_g 6 [] [(0, sl 8 (Pack.enc false) a1), (3, rr 0 x2)] [(0, rE 8 (Pack.enc true) x2)] (orcC 2 (x_mk 28 66 8 120 0 (Pack.enc true) ({ Name := ByteArray.empty, Version := ({ A := 0, B := 0, C := 0 } : Version), Size := 0, Provides := ([] : List ByteArray), Needs := ([] : List (List Term)), Bars := ([] : List Term) } : Pack) (.tmp 6) h3 (.keep rfl (.keep rfl (.keep rfl (.keep rfl (.keep rfl (.nilsl true 1 (.nilsl true 1 (.nilsl true 7 (.nil)))))))))) orcN) ?_
  refine J_g 28 [] [(0, sl 8 (Pack.enc false) a1), (3, rr 0 x2), (4, iv 0)] [(0, rE 8 (Pack.enc true) x2)] orcN ?_
  refine J_lq (laws_toPackS_l1.ok a1 q _ (fun v19 => J_j ?_) (x2, 0))
  refine J_g 30 [] [(2, rr 0 v19)] [(0, rE 8 (Pack.enc true) v19)] orcN ?_
  exact J_rm (ds := [rr 0 v19]) (ds' := [so 8 (Pack.enc true) v19]) (.cons (.cell (.move (.head _) (List.length_map _) (by decide) (.nil))) (.nil) (by decide)) rfl

noncomputable def c9 : Code := (Try.f9.body).getD .skip

theorem laws_toInt64S_l1.ok (a1 : (List Int)) (q : Wd) (kn : (List Int) → Option (D × List Ent)) (hk : ∀ v : (List Int), J (q.g Try.prog 9 0 22) c9 (atI c9 15) (St.mk' [(3, rr 0 v)] [(0, rE 1 eI64 v)]) (some v) kn) :
    ∀ s9 : ((List Int) × Int), J (q.g Try.prog 9 0 22) c9 (atI c9 116) (St.mk' [(0, sl 1 eI64 a1), (3, rr 0 s9.1), (4, iv s9.2)] [(0, rE 1 eI64 s9.1)]) (laws_toInt64S_l1 a1 s9) kn := by
  refine J_lp (fun g ih s9 => ?_)
  unfold laws_toInt64S_l1b
  refine J_g 464 [] [(0, sl 1 eI64 a1), (3, rr 0 s9.1), (4, iv s9.2), (11, bv (decide (s9.2 < (a1.length : Int))))] [(0, rE 1 eI64 s9.1)] orcN ?_
  refine J_if2 11 (fun h10 => ?_) (fun h10 => ?_)
  · refine J_bind (fun x11 h12 => ?_)
    refine J_bind (fun x13 h14 => ?_)
    refine J_g 932 [] [(0, sl 1 eI64 a1), (3, rr 0 s9.1), (4, iv s9.2)] [(0, rE 1 eI64 (s9.1.set s9.2.toNat x11))] (orcC 4 (x_ix (kk := .i64) 23 2 1 eI64 (.tmp 16) (.tmp 17) h12) (orcC 6 (x_ixr (kk := .i64) 23 2 1 0 eI64 (.tmp 14) (.tmp 15) h14) (orcD 7 (x_st (b := x11) 2 1 0 0 eI64 (iv x11) (.tmp 20) (.tmp 19) h14 rfl) orcN))) ?_
    refine J_st (σ' := St.mk' [(0, sl 1 eI64 a1), (3, rr 0 (s9.1.set s9.2.toNat x11)), (4, iv s9.2)] [(0, rE 1 eI64 (s9.1.set s9.2.toNat x11))]) (by simp only [rr, List.length_set]) ?_
    refine J_g 467 [] [(0, sl 1 eI64 a1), (3, rr 0 (s9.1.set s9.2.toNat x11)), (4, iv (w64 (s9.2 + 1)))] [(0, rE 1 eI64 (s9.1.set s9.2.toNat x11))] orcN ?_
    exact J_q (J_b (ih (s9.1.set s9.2.toNat x11, w64 (s9.2 + 1)))) rfl
  · exact J_qw (hk s9.1) rfl

theorem laws_toInt64S.ok (a1 : (List Int)) : Ok Try.prog 9 [sl 1 eI64 a1] [] ((laws_toInt64S a1).map fun r => (so 1 eI64 r, [])) := by
  refine Ok_of3 c9 Try.f9 0 22 (fun q => ?_)
  unfold laws_toInt64S
  refine J_g 2 [] [(0, sl 1 eI64 a1)] [] orcN ?_
  refine J_bind (fun x2 h3 => ?_)
  refine J_g 6 [] [(0, sl 1 eI64 a1), (3, rr 0 x2)] [(0, rE 1 eI64 x2)] (orcC 2 (x_mk 23 2 1 8 0 eI64 0 (.tmp 6) h3 (.keep rfl (.nil))) orcN) ?_
  refine J_g 28 [] [(0, sl 1 eI64 a1), (3, rr 0 x2), (4, iv 0)] [(0, rE 1 eI64 x2)] orcN ?_
  refine J_lq (laws_toInt64S_l1.ok a1 q _ (fun v15 => J_j ?_) (x2, 0))
  refine J_g 30 [] [(2, rr 0 v15)] [(0, rE 1 eI64 v15)] orcN ?_
  exact J_rm (ds := [rr 0 v15]) (ds' := [so 1 eI64 v15]) (.cons (.cell (.move (.head _) (List.length_map _) (by decide) (.nil))) (.nil) (by decide)) rfl

noncomputable def c10 : Code := (Try.f10.body).getD .skip

theorem laws_toInt64SS_l1.ok (a1 : (List (List Int))) (q : Wd) (kn : (List (List Int)) → Option (D × List Ent)) (hk : ∀ v : (List (List Int)), J (q.g Try.prog 10 0 23) c10 (atI c10 15) (St.mk' [(3, rr 0 v)] [(0, rE 1 (eSl true 1 eI64) v)]) (some v) kn) :
    ∀ s11 : ((List (List Int)) × Int), J (q.g Try.prog 10 0 23) c10 (atI c10 116) (St.mk' [(0, sl 1 (eSl false 1 eI64) a1), (3, rr 0 s11.1), (4, iv s11.2)] [(0, rE 1 (eSl true 1 eI64) s11.1)]) (laws_toInt64SS_l1 a1 s11) kn := by
  refine J_lp (fun g ih s11 => ?_)
  unfold laws_toInt64SS_l1b
  refine J_g 464 [] [(0, sl 1 (eSl false 1 eI64) a1), (3, rr 0 s11.1), (4, iv s11.2), (11, bv (decide (s11.2 < (a1.length : Int))))] [(0, rE 1 (eSl true 1 eI64) s11.1)] orcN ?_
  refine J_if2 11 (fun h12 => ?_) (fun h12 => ?_)
  · refine J_bind (fun x13 h14 => ?_)
    refine J_bind (fun x15 h16 => ?_)
    refine J_bind (fun x17 h18 => ?_)
    refine J_g 932 [] [(0, sl 1 (eSl false 1 eI64) a1), (3, rr 0 s11.1), (4, iv s11.2)] [(0, rE 1 (eSl true 1 eI64) (s11.1.set s11.2.toNat x15))] (orcC 4 (x_ix (kk := .i64) 24 23 1 (eSl false 1 eI64) (.tmp 16) (.tmp 17) h14) (orcC 6 (x_c1 («as» := [sl 1 eI64 x13]) [(.tmp 19)] [23] false [] [] (.cons (.same rfl) (.nil)) (laws_toInt64S.ok x13) h16 (.own 1)) (orcC 7 (x_ixr (kk := .i64) 24 23 1 0 (eSl true 1 eI64) (.tmp 14) (.tmp 15) h18) (orcD 8 (x_stm (b := x15) (es' := [so 1 eI64 x15]) (ts := [1]) 23 1 0 0 (eSl true 1 eI64) (rr 1 x15) (.tmp 21) (.tmp 20) [(1, rE 1 eI64 x15)] h18 (.move (.head _) (List.length_map _) (by decide) (.nil)) rfl) orcN)))) ?_
    refine J_st (σ' := St.mk' [(0, sl 1 (eSl false 1 eI64) a1), (3, rr 0 (s11.1.set s11.2.toNat x15)), (4, iv s11.2)] [(0, rE 1 (eSl true 1 eI64) (s11.1.set s11.2.toNat x15))]) (by simp only [rr, List.length_set]) ?_
    refine J_g 467 [] [(0, sl 1 (eSl false 1 eI64) a1), (3, rr 0 (s11.1.set s11.2.toNat x15)), (4, iv (w64 (s11.2 + 1)))] [(0, rE 1 (eSl true 1 eI64) (s11.1.set s11.2.toNat x15))] orcN ?_
    exact J_q (J_b (ih (s11.1.set s11.2.toNat x15, w64 (s11.2 + 1)))) rfl
  · exact J_qw (hk s11.1) rfl

theorem laws_toInt64SS.ok (a1 : (List (List Int))) : Ok Try.prog 10 [sl 1 (eSl false 1 eI64) a1] [] ((laws_toInt64SS a1).map fun r => (so 1 (eSl true 1 eI64) r, [])) := by
  refine Ok_of3 c10 Try.f10 0 23 (fun q => ?_)
  unfold laws_toInt64SS
  refine J_g 2 [] [(0, sl 1 (eSl false 1 eI64) a1)] [] orcN ?_
  refine J_bind (fun x2 h3 => ?_)
  refine J_g 6 [] [(0, sl 1 (eSl false 1 eI64) a1), (3, rr 0 x2)] [(0, rE 1 (eSl true 1 eI64) x2)] (orcC 2 (x_mk 24 23 1 24 0 (eSl true 1 eI64) ([] : List Int) (.tmp 6) h3 (.nilsl true 1 (.nil))) orcN) ?_
  refine J_g 28 [] [(0, sl 1 (eSl false 1 eI64) a1), (3, rr 0 x2), (4, iv 0)] [(0, rE 1 (eSl true 1 eI64) x2)] orcN ?_
  refine J_lq (laws_toInt64SS_l1.ok a1 q _ (fun v19 => J_j ?_) (x2, 0))
  refine J_g 30 [] [(2, rr 0 v19)] [(0, rE 1 (eSl true 1 eI64) v19)] orcN ?_
  exact J_rm (ds := [rr 0 v19]) (ds' := [so 1 (eSl true 1 eI64) v19]) (.cons (.cell (.move (.head _) (List.length_map _) (by decide) (.nil))) (.nil) (by decide)) rfl

noncomputable def c159 : Code := (Try.f159.body).getD .skip

theorem spec_l1Letter.ok (a1 : Int) : Ok Try.prog 159 [uv a1] [] ((spec_l1Letter a1).map fun r => (bv r, [])) := by
  refine Ok_of3 c159 Try.f159 0 9 (fun q => ?_)
  unfold spec_l1Letter
  refine J_g 2 [] [(0, uv a1)] [] orcN ?_
  refine J_ite (fun h2 => ?_) (fun h2 => ?_)
  · refine J_g 6 [] [(2, bv (decide (a1 ≤ 122)))] [] (orcL 2 [(4, bv (decide (a1 ≥ 97)))] [] h2 orcN) ?_
    exact J_r1 rfl
  · refine J_g 6 [] [(2, bv false)] [] (orcL 2 [(4, bv (decide (a1 ≥ 97)))] [] h2 orcN) ?_
    exact J_r1 rfl

noncomputable def c132 : Code := (Try.f132.body).getD .skip

theorem spec_l1Digit.ok (a1 : Int) : Ok Try.prog 132 [uv a1] [] ((spec_l1Digit a1).map fun r => (bv r, [])) := by
  refine Ok_of3 c132 Try.f132 0 9 (fun q => ?_)
  unfold spec_l1Digit
  refine J_g 2 [] [(0, uv a1)] [] orcN ?_
  refine J_ite (fun h2 => ?_) (fun h2 => ?_)
  · refine J_g 6 [] [(2, bv (decide (a1 ≤ 57)))] [] (orcL 2 [(4, bv (decide (a1 ≥ 48)))] [] h2 orcN) ?_
    exact J_r1 rfl
  · refine J_g 6 [] [(2, bv false)] [] (orcL 2 [(4, bv (decide (a1 ≥ 48)))] [] h2 orcN) ?_
    exact J_r1 rfl

noncomputable def c130 : Code := (Try.f130.body).getD .skip

theorem spec_l1Name.ok (a1 : Int) : Ok Try.prog 130 [uv a1] [] ((spec_l1Name a1).map fun r => (bv r, [])) := by
  refine Ok_of3 c130 Try.f130 0 13 (fun q => ?_)
  unfold spec_l1Name
  refine J_g 2 [] [(0, uv a1)] [] orcN ?_
  refine J_bind (fun x2 h3 => ?_)
  refine J_ite (fun h4 => ?_) (fun h4 => ?_)
  · refine J_g 6 [] [(2, bv true)] [] (orcC 1 (x_c0 [(.tmp 3)] [5] (spec_l1Letter.ok a1) h3) (orcL 2 [(4, bv x2)] [] h4 orcN)) ?_
    exact J_r1 rfl
  · refine J_bind (fun x5 h6 => ?_)
    refine J_ite (fun h7 => ?_) (fun h7 => ?_)
    · refine J_g 6 [] [(2, bv true)] [] (orcC 1 (x_c0 [(.tmp 3)] [5] (spec_l1Letter.ok a1) h3) (orcL 2 [(4, bv x2)] [] h4 (orcH 4 2 5 false (x_c0 [(.tmp 6)] [5] (spec_l1Digit.ok a1) h6) (orcL 6 [(8, bv x5)] [] h7 orcN)))) ?_
      exact J_r1 rfl
    · refine J_g 6 [] [(2, bv (a1 == 95))] [] (orcC 1 (x_c0 [(.tmp 3)] [5] (spec_l1Letter.ok a1) h3) (orcL 2 [(4, bv x2)] [] h4 (orcH 4 2 5 false (x_c0 [(.tmp 6)] [5] (spec_l1Digit.ok a1) h6) (orcL 6 [(8, bv x5)] [] h7 orcN)))) ?_
      exact J_r1 rfl

noncomputable def c147 : Code := (Try.f147.body).getD .skip

theorem spec_NameFault_l1.ok (a1 : ByteArray) (q : Wd) (kn : Unit → Option (D × List Ent)) (hk : ∀ v : Unit, J (q.g Try.prog 147 0 29) c147 (atI c147 15) (St.mk' [] []) (some v) kn) :
    ∀ s16 : Int, J (q.g Try.prog 147 0 29) c147 (atI c147 116) (St.mk' [(0, sv a1), (3, iv s16)] []) (spec_NameFault_l1 a1 s16) (Fl.go (fun r : Int => some (iv r, [])) kn) := by
  refine J_lp (fun g ih s16 => ?_)
  unfold spec_NameFault_l1b
  refine J_g 464 [] [(0, sv a1), (3, iv s16), (21, bv (decide (s16 < (a1.size : Int))))] [] orcN ?_
  refine J_if2 21 (fun h17 => ?_) (fun h17 => ?_)
  · refine J_bind (fun x18 h19 => ?_)
    refine J_bind (fun x20 h21 => ?_)
    refine J_g 1864 [] [(0, sv a1), (3, iv s16), (28, bv (!x20))] [] (orcC 2 (x_bi (kk := .i64) 9 (.tmp 24) (.tmp 25) h19) (orcC 3 (x_c0 [(.tmp 26)] [5] (spec_l1Name.ok x18) h21) orcN)) ?_
    refine J_if2 28 (fun h22 => ?_) (fun h22 => ?_)
    · refine J_g 7460 [] [(2, iv 5)] [] orcN ?_
      exact J_r1 rfl
    · refine J_g 467 [] [(0, sv a1), (3, iv (w64 (s16 + 1)))] [] orcN ?_
      exact J_q (J_b (ih (w64 (s16 + 1)))) rfl
  · exact J_qw (hk ()) rfl

theorem spec_NameFault.ok (a1 : ByteArray) : Ok Try.prog 147 [sv a1] [] ((spec_NameFault a1).map fun r => (iv r, [])) := by
  refine Ok_of3 c147 Try.f147 0 29 (fun q => ?_)
  unfold spec_NameFault
  refine J_g 2 [] [(0, sv a1)] [] orcN ?_
  refine J_join (atI c147 13) (fun v8 : Bool => St.mk' [(0, sv a1), (17, bv v8)] []) (fun v8 => ?_) (fun jv8 => ?_)
  · refine J_if2 17 (fun h9 => ?_) (fun h9 => ?_)
    · refine J_g 52 [] [(2, iv 5)] [] orcN ?_
      exact J_r1 rfl
    · refine J_g 28 [] [(0, sv a1), (3, iv 0)] [] orcN ?_
      refine J_lqF (K0 := (fun r : Int => some (iv r, []))) (fun _ => rfl) (spec_NameFault_l1.ok a1 q _ (fun v23 => J_j ?_) 0)
      refine J_g 30 [] [(2, iv 0)] [] orcN ?_
      exact J_r1 rfl
  · refine J_ite (fun h2 => ?_) (fun h2 => ?_)
    · refine J_g 12 [] [(0, sv a1), (17, bv true)] [] (orcL 3 [(6, bv (decide ((a1.size : Int) < 1)))] [] h2 orcN) ?_
      exact J_qw (J_j (jv8 true)) rfl
    · refine J_ite (fun h3 => ?_) (fun h3 => ?_)
      · refine J_g 12 [] [(0, sv a1), (17, bv true)] [] (orcL 3 [(6, bv (decide ((a1.size : Int) < 1)))] [] h2 (orcL 8 [(11, bv (decide ((a1.size : Int) > 12)))] [] h3 orcN)) ?_
        exact J_qw (J_j (jv8 true)) rfl
      · refine J_bind (fun x4 h5 => ?_)
        refine J_bind (fun x6 h7 => ?_)
        refine J_g 12 [] [(0, sv a1), (17, bv (!x6))] [] (orcL 3 [(6, bv (decide ((a1.size : Int) < 1)))] [] h2 (orcL 8 [(11, bv (decide ((a1.size : Int) > 12)))] [] h3 (orcH 10 8 12 false (x_bi (kk := .i64) 9 (.tmp 13) (.const (.int .i64 0)) h5) (orcH 11 8 12 false (x_c0 [(.tmp 14)] [5] (spec_l1Letter.ok x4) h7) orcN)))) ?_
        exact J_qw (J_j (jv8 (!x6))) rfl

noncomputable def c60 : Code := (Try.f60.body).getD .skip

theorem spec_l1In.ok (a1 : Int) (a2 : Int) (a3 : Int) : Ok Try.prog 60 [iv a1, iv a2, iv a3] [] ((spec_l1In a1 a2 a3).map fun r => (bv r, [])) := by
  refine Ok_of3 c60 Try.f60 0 15 (fun q => ?_)
  unfold spec_l1In
  refine J_g 2 [] [(0, iv a1), (1, iv a2), (2, iv a3)] [] orcN ?_
  refine J_ite (fun h4 => ?_) (fun h4 => ?_)
  · refine J_g 6 [] [(6, bv (decide (a1 ≤ a3)))] [] (orcL 3 [(9, bv (decide (a1 ≥ a2)))] [] h4 orcN) ?_
    exact J_r1 rfl
  · refine J_g 6 [] [(6, bv false)] [] (orcL 3 [(9, bv (decide (a1 ≥ a2)))] [] h4 orcN) ?_
    exact J_r1 rfl

noncomputable def c148 : Code := (Try.f148.body).getD .skip

theorem spec_VersionFault.ok (a1 : Version) : Ok Try.prog 148 [.ag (Version.enc a1)] [] ((spec_VersionFault a1).map fun r => (iv r, [])) := by
  refine Ok_of3 c148 Try.f148 0 19 (fun q => ?_)
  unfold spec_VersionFault
  refine J_g 2 [(0, 0)] [(1, pp 0)] [(0, .box (Version.enc a1))] orcN ?_
  refine J_bind (fun x2 h3 => ?_)
  refine J_join (atI c148 13) (fun v10 : Bool => St.mk' [(18, bv v10)] []) (fun v10 => ?_) (fun jv10 => ?_)
  · refine J_if2 18 (fun h11 => ?_) (fun h11 => ?_)
    · refine J_g 52 [] [(2, iv 3)] [] orcN ?_
      exact J_r1 rfl
    · refine J_g 14 [] [(2, iv 0)] [] orcN ?_
      exact J_r1 rfl
  · refine J_ite (fun h4 => ?_) (fun h4 => ?_)
    · refine J_g 12 [] [(18, bv true)] [] (orcC 2 (x_c0 [(.tmp 4), (.const (.int .i64 0)), (.const (.int .i64 999))] [2, 2, 2] (spec_l1In.ok a1.A 0 999) h3) (orcL 4 [(6, bv (!x2))] [] h4 orcN)) ?_
      exact J_qw (J_j (jv10 true)) rfl
    · refine J_bind (fun x5 h6 => ?_)
      refine J_ite (fun h7 => ?_) (fun h7 => ?_)
      · refine J_g 12 [] [(18, bv true)] [] (orcC 2 (x_c0 [(.tmp 4), (.const (.int .i64 0)), (.const (.int .i64 999))] [2, 2, 2] (spec_l1In.ok a1.A 0 999) h3) (orcL 4 [(6, bv (!x2))] [] h4 (orcH 7 4 7 false (x_c0 [(.tmp 9), (.const (.int .i64 0)), (.const (.int .i64 999))] [2, 2, 2] (spec_l1In.ok a1.B 0 999) h6) (orcL 10 [(12, bv (!x5))] [] h7 orcN)))) ?_
        exact J_qw (J_j (jv10 true)) rfl
      · refine J_bind (fun x8 h9 => ?_)
        refine J_g 12 [] [(18, bv (!x8))] [] (orcC 2 (x_c0 [(.tmp 4), (.const (.int .i64 0)), (.const (.int .i64 999))] [2, 2, 2] (spec_l1In.ok a1.A 0 999) h3) (orcL 4 [(6, bv (!x2))] [] h4 (orcH 7 4 7 false (x_c0 [(.tmp 9), (.const (.int .i64 0)), (.const (.int .i64 999))] [2, 2, 2] (spec_l1In.ok a1.B 0 999) h6) (orcL 10 [(12, bv (!x5))] [] h7 (orcH 13 10 13 false (x_c0 [(.tmp 15), (.const (.int .i64 0)), (.const (.int .i64 999))] [2, 2, 2] (spec_l1In.ok a1.C 0 999) h9) orcN))))) ?_
        exact J_qw (J_j (jv10 (!x8))) rfl

noncomputable def c149 : Code := (Try.f149.body).getD .skip

theorem spec_l2Holds_l1.ok (a1 : (List ByteArray)) (a2 : ByteArray) (q : Wd) (kn : Unit → Option (D × List Ent)) (hk : ∀ v : Unit, J (q.g Try.prog 149 0 18) c149 (atI c149 7) (St.mk' [] []) (some v) kn) :
    ∀ s7 : Int, J (q.g Try.prog 149 0 18) c149 (atI c149 52) (St.mk' [(0, sl 1 eStr a1), (1, sv a2), (5, iv s7)] []) (spec_l2Holds_l1 a1 a2 s7) (Fl.go (fun r : Bool => some (bv r, [])) kn) := by
  refine J_lp (fun g ih s7 => ?_)
  unfold spec_l2Holds_l1b
  refine J_g 208 [] [(0, sl 1 eStr a1), (1, sv a2), (5, iv s7), (9, bv (decide (s7 < (a1.length : Int))))] [] orcN ?_
  refine J_if2 9 (fun h8 => ?_) (fun h8 => ?_)
  · refine J_bind (fun x9 h10 => ?_)
    refine J_g 840 [] [(0, sl 1 eStr a1), (1, sv a2), (5, iv s7), (17, bv (seq x9 a2))] [] (orcC 2 (x_ix (kk := .i64) 56 9 1 eStr (.tmp 12) (.tmp 13) h10) orcN) ?_
    refine J_if2 17 (fun h11 => ?_) (fun h11 => ?_)
    · refine J_g 3364 [] [(4, bv true)] [] orcN ?_
      exact J_r1 rfl
    · refine J_g 211 [] [(0, sl 1 eStr a1), (1, sv a2), (5, iv (w64 (s7 + 1)))] [] orcN ?_
      exact J_q (J_b (ih (w64 (s7 + 1)))) rfl
  · exact J_qw (hk ()) rfl

theorem spec_l2Holds.ok (a1 : (List ByteArray)) (a2 : ByteArray) : Ok Try.prog 149 [sl 1 eStr a1, sv a2] [] ((spec_l2Holds a1 a2).map fun r => (bv r, [])) := by
  refine Ok_of3 c149 Try.f149 0 18 (fun q => ?_)
  unfold spec_l2Holds
  refine J_g 2 [] [(0, sl 1 eStr a1), (1, sv a2)] [] orcN ?_
  refine J_g 12 [] [(0, sl 1 eStr a1), (1, sv a2), (5, iv 0)] [] orcN ?_
  refine J_lqF (K0 := (fun r : Bool => some (bv r, []))) (fun _ => rfl) (spec_l2Holds_l1.ok a1 a2 q _ (fun v12 => J_j ?_) 0)
  refine J_g 14 [] [(4, bv false)] [] orcN ?_
  exact J_r1 rfl

noncomputable def c178 : Code := (Try.f178.body).getD .skip

theorem spec_l1Top.ok  : Ok Try.prog 178 [] [] ((spec_l1Top).map fun r => (.ag (Version.enc r), [])) := by
  refine Ok_of3 c178 Try.f178 0 2 (fun q => ?_)
  unfold spec_l1Top
  refine J_g 2 [(0, 0)] [(0, pp 0)] [(0, .box [iv 0, iv 0, iv 0])] orcN ?_
  refine J_g 6 [] [(0, pp 0)] [(0, .box [iv 1000, iv 0, iv 0])] orcN ?_
  exact J_r1 rfl

noncomputable def c171 : Code := (Try.f171.body).getD .skip

theorem spec_l1Sign.ok (a1 : Int) (a2 : Int) : Ok Try.prog 171 [iv a1, iv a2] [] ((spec_l1Sign a1 a2).map fun r => (iv r, [])) := by
  refine Ok_of3 c171 Try.f171 0 11 (fun q => ?_)
  unfold spec_l1Sign
  refine J_g 2 [] [(0, iv a1), (1, iv a2)] [] orcN ?_
  refine J_g 12 [] [(0, iv a1), (1, iv a2), (7, bv (decide (a1 < a2)))] [] orcN ?_
  refine J_if2 7 (fun h3 => ?_) (fun h3 => ?_)
  · refine J_g 52 [] [(4, iv (-1))] [] orcN ?_
    exact J_r1 rfl
  · refine J_g 28 [] [(10, bv (decide (a1 > a2)))] [] orcN ?_
    refine J_if2 10 (fun h4 => ?_) (fun h4 => ?_)
    · refine J_g 116 [] [(4, iv 1)] [] orcN ?_
      exact J_r1 rfl
    · refine J_g 30 [] [(4, iv 0)] [] orcN ?_
      exact J_r1 rfl

noncomputable def c151 : Code := (Try.f151.body).getD .skip

theorem spec_CompareVersions.ok (a1 : Version) (a2 : Version) : Ok Try.prog 151 [.ag (Version.enc a1), .ag (Version.enc a2)] [] ((spec_CompareVersions a1 a2).map fun r => (iv r, [])) := by
  refine Ok_of3 c151 Try.f151 0 28 (fun q => ?_)
  unfold spec_CompareVersions
  refine J_g 2 [(0, 0), (1, 1)] [(2, pp 0), (3, pp 1)] [(0, .box (Version.enc a1)), (1, .box (Version.enc a2))] orcN ?_
  refine J_bind (fun x3 h4 => ?_)
  refine J_g 12 [] [(2, pp 0), (3, pp 1), (5, iv x3)] [(0, .box (Version.enc a1)), (1, .box (Version.enc a2))] (orcC 4 (x_c0 [(.tmp 8), (.tmp 10)] [2, 2] (spec_l1Sign.ok a1.A a2.A) h4) orcN) ?_
  refine J_g 26 [] [(2, pp 0), (3, pp 1), (5, iv x3), (13, bv (x3 != 0))] [(0, .box (Version.enc a1)), (1, .box (Version.enc a2))] orcN ?_
  refine J_if2 13 (fun h5 => ?_) (fun h5 => ?_)
  · refine J_g 108 [] [(4, iv x3)] [] orcN ?_
    exact J_r1 rfl
  · refine J_bind (fun x6 h7 => ?_)
    refine J_g 28 [] [(2, pp 0), (3, pp 1), (6, iv x6)] [(0, .box (Version.enc a1)), (1, .box (Version.enc a2))] (orcC 4 (x_c0 [(.tmp 16), (.tmp 18)] [2, 2] (spec_l1Sign.ok a1.B a2.B) h7) orcN) ?_
    refine J_g 58 [] [(2, pp 0), (3, pp 1), (6, iv x6), (21, bv (x6 != 0))] [(0, .box (Version.enc a1)), (1, .box (Version.enc a2))] orcN ?_
    refine J_if2 21 (fun h8 => ?_) (fun h8 => ?_)
    · refine J_g 236 [] [(4, iv x6)] [] orcN ?_
      exact J_r1 rfl
    · refine J_bind (fun x9 h10 => ?_)
      refine J_g 30 [] [(4, iv x9)] [] (orcC 4 (x_c0 [(.tmp 24), (.tmp 26)] [2, 2] (spec_l1Sign.ok a1.C a2.C) h10) orcN) ?_
      exact J_r1 rfl

noncomputable def c170 : Code := (Try.f170.body).getD .skip

theorem spec_TermFault.ok (a1 : Term) : Ok Try.prog 170 [.ag (Term.enc a1)] [] ((spec_TermFault a1).map fun r => (iv r, [])) := by
  refine Ok_of3 c170 Try.f170 0 33 (fun q => ?_)
  unfold spec_TermFault
  refine J_g 2 [(0, 0)] [(1, pp 0)] [(0, .box (Term.enc a1))] orcN ?_
  refine J_bind (fun x2 h3 => ?_)
  refine J_g 12 [] [(1, pp 0), (3, iv x2)] [(0, .box (Term.enc a1))] (orcC 2 (x_c0 [(.tmp 6)] [9] (spec_NameFault.ok a1.Name) h3) orcN) ?_
  refine J_g 26 [] [(1, pp 0), (3, iv x2), (9, bv (x2 != 0))] [(0, .box (Term.enc a1))] orcN ?_
  refine J_if2 9 (fun h4 => ?_) (fun h4 => ?_)
  · refine J_g 108 [] [(2, iv x2)] [] orcN ?_
    exact J_r1 rfl
  · refine J_bind (fun x5 h6 => ?_)
    refine J_g 28 [] [(1, pp 0), (4, iv x5)] [(0, .box (Term.enc a1))] (orcC 2 (x_c0 [(.tmp 12)] [62] (spec_VersionFault.ok a1.Low) h6) orcN) ?_
    refine J_g 58 [] [(1, pp 0), (4, iv x5), (15, bv (x5 != 0))] [(0, .box (Term.enc a1))] orcN ?_
    refine J_if2 15 (fun h7 => ?_) (fun h7 => ?_)
    · refine J_g 236 [] [(2, iv x5)] [] orcN ?_
      exact J_r1 rfl
    · refine J_bind (fun x8 h9 => ?_)
      refine J_join (atI c170 61) (fun v13 : Bool => St.mk' [(1, pp 0), (26, bv v13)] [(0, .box (Term.enc a1))]) (fun v13 => ?_) (fun jv13 => ?_)
      · refine J_if2 26 (fun h14 => ?_) (fun h14 => ?_)
        · refine J_g 244 [] [(2, iv 3)] [] orcN ?_
          exact J_r1 rfl
        · refine J_bind (fun x15 h16 => ?_)
          refine J_g 124 [] [(32, bv (decide (x15 ≥ 0)))] [] (orcC 4 (x_c0 [(.tmp 28), (.tmp 30)] [62, 62] (spec_CompareVersions.ok a1.Low a1.High) h16) orcN) ?_
          refine J_if2 32 (fun h17 => ?_) (fun h17 => ?_)
          · refine J_g 500 [] [(2, iv 1)] [] orcN ?_
            exact J_r1 rfl
          · refine J_g 126 [] [(2, iv 0)] [] orcN ?_
            exact J_r1 rfl
      · refine J_ite (fun h10 => ?_) (fun h10 => ?_)
        · refine J_bind (fun x11 h12 => ?_)
          refine J_g 60 [] [(1, pp 0), (26, bv (x11 != 0))] [(0, .box (Term.enc a1))] (orcC 2 (x_c0 [] [] (spec_l1Top.ok) h9) (orcC 3 (x_seq (b := .neq) (r := (a1.High.A == x8.A && (a1.High.B == x8.B && (a1.High.C == x8.C && true)))) 62 62 (.tmp 18) (.tmp 19) [.int .i64 a1.High.A, .int .i64 a1.High.B, .int .i64 a1.High.C] [.int .i64 x8.A, .int .i64 x8.B, .int .i64 x8.C] (.inr ⟨rfl, rfl⟩)) (orcL 4 [(20, bv (!(a1.High.A == x8.A && (a1.High.B == x8.B && (a1.High.C == x8.C && true)))))] [] h10 (orcH 7 4 21 true (x_c0 [(.tmp 23)] [62] (spec_VersionFault.ok a1.High) h12) orcN)))) ?_
          exact J_qw (J_j (jv13 (x11 != 0))) rfl
        · refine J_g 60 [] [(1, pp 0), (26, bv false)] [(0, .box (Term.enc a1))] (orcC 2 (x_c0 [] [] (spec_l1Top.ok) h9) (orcC 3 (x_seq (b := .neq) (r := (a1.High.A == x8.A && (a1.High.B == x8.B && (a1.High.C == x8.C && true)))) 62 62 (.tmp 18) (.tmp 19) [.int .i64 a1.High.A, .int .i64 a1.High.B, .int .i64 a1.High.C] [.int .i64 x8.A, .int .i64 x8.B, .int .i64 x8.C] (.inr ⟨rfl, rfl⟩)) (orcL 4 [(20, bv (!(a1.High.A == x8.A && (a1.High.B == x8.B && (a1.High.C == x8.C && true)))))] [] h10 orcN))) ?_
          exact J_qw (J_j (jv13 false)) rfl

noncomputable def c150 : Code := (Try.f150.body).getD .skip

theorem spec_l2Terms_l1.ok (a1 : (List Term)) (q : Wd) (kn : Unit → Option (D × List Ent)) (hk : ∀ v : Unit, J (q.g Try.prog 150 0 19) c150 (atI c150 7) (St.mk' [] []) (some v) kn) :
    ∀ s8 : Int, J (q.g Try.prog 150 0 19) c150 (atI c150 52) (St.mk' [(0, sl 7 Term.enc a1), (3, iv s8)] []) (spec_l2Terms_l1 a1 s8) (Fl.go (fun r : Int => some (iv r, [])) kn) := by
  refine J_lp (fun g ih s8 => ?_)
  unfold spec_l2Terms_l1b
  refine J_g 208 [] [(0, sl 7 Term.enc a1), (3, iv s8), (8, bv (decide (s8 < (a1.length : Int))))] [] orcN ?_
  refine J_if2 8 (fun h9 => ?_) (fun h9 => ?_)
  · refine J_bind (fun x10 h11 => ?_)
    refine J_bind (fun x12 h13 => ?_)
    refine J_g 840 [] [(0, sl 7 Term.enc a1), (3, iv s8), (4, iv x12)] [] (orcC 2 (x_ix (kk := .i64) 64 119 7 Term.enc (.tmp 11) (.tmp 12) h11) (orcC 4 (x_c0 [(.tmp 14)] [119] (spec_TermFault.ok x10) h13) orcN)) ?_
    refine J_g 1682 [] [(0, sl 7 Term.enc a1), (3, iv s8), (4, iv x12), (17, bv (x12 != 0))] [] orcN ?_
    refine J_if2 17 (fun h14 => ?_) (fun h14 => ?_)
    · refine J_g 6732 [] [(2, iv x12)] [] orcN ?_
      exact J_r1 rfl
    · refine J_g 211 [] [(0, sl 7 Term.enc a1), (3, iv (w64 (s8 + 1)))] [] orcN ?_
      exact J_q (J_b (ih (w64 (s8 + 1)))) rfl
  · exact J_qw (hk ()) rfl

theorem spec_l2Terms.ok (a1 : (List Term)) : Ok Try.prog 150 [sl 7 Term.enc a1] [] ((spec_l2Terms a1).map fun r => (iv r, [])) := by
  refine Ok_of3 c150 Try.f150 0 19 (fun q => ?_)
  unfold spec_l2Terms
  refine J_g 2 [] [(0, sl 7 Term.enc a1)] [] orcN ?_
  refine J_g 12 [] [(0, sl 7 Term.enc a1), (3, iv 0)] [] orcN ?_
  refine J_lqF (K0 := (fun r : Int => some (iv r, []))) (fun _ => rfl) (spec_l2Terms_l1.ok a1 q _ (fun v15 => J_j ?_) 0)
  refine J_g 14 [] [(2, iv 0)] [] orcN ?_
  exact J_r1 rfl

noncomputable def c112 : Code := (Try.f112.body).getD .skip

theorem spec_PackFault_l3.ok (a1 : Pack) (q : Wd) (kn : Unit → Option (D × List Ent)) (hk : ∀ v : Unit, J (q.g Try.prog 112 0 118) c112 (atI c112 511) (St.mk' [(1, pp 0)] [(0, .box (Pack.enc false a1))]) (some v) kn) :
    ∀ s70 : Int, J (q.g Try.prog 112 0 118) c112 (atI c112 4084) (St.mk' [(1, pp 0), (8, iv s70)] [(0, .box (Pack.enc false a1))]) (spec_PackFault_l3 a1 s70) (Fl.go (fun r : Int => some (iv r, [])) kn) := by
  refine J_lp (fun g ih s70 => ?_)
  unfold spec_PackFault_l3b
  refine J_g 16336 [] [(1, pp 0), (8, iv s70), (96, bv (decide (s70 < (a1.Needs.length : Int))))] [(0, .box (Pack.enc false a1))] orcN ?_
  refine J_if2 96 (fun h71 => ?_) (fun h71 => ?_)
  · refine J_bind (fun x72 h73 => ?_)
    refine J_g 130704 [] [(1, pp 0), (8, iv s70), (105, bv ((x72.length : Int) == 0))] [(0, .box (Pack.enc false a1))] (orcC 3 (x_ix (kk := .i64) 63 64 1 (eSl false 7 Term.enc) (.tmp 100) (.tmp 101) h73) orcN) ?_
    refine J_if2 105 (fun h74 => ?_) (fun h74 => ?_)
    · refine J_g 522820 [] [(2, iv 1)] [] orcN ?_
      exact J_r1 rfl
    · refine J_bind (fun x75 h76 => ?_)
      refine J_bind (fun x77 h78 => ?_)
      refine J_g 130706 [] [(1, pp 0), (8, iv s70), (9, iv x77)] [(0, .box (Pack.enc false a1))] (orcC 3 (x_ix (kk := .i64) 63 64 1 (eSl false 7 Term.enc) (.tmp 107) (.tmp 108) h76) (orcC 5 (x_c0 [(.tmp 110)] [64] (spec_l2Terms.ok x75) h78) orcN)) ?_
      refine J_g 261414 [] [(1, pp 0), (8, iv s70), (9, iv x77), (113, bv (x77 != 0))] [(0, .box (Pack.enc false a1))] orcN ?_
      refine J_if2 113 (fun h79 => ?_) (fun h79 => ?_)
      · refine J_g 1045660 [] [(2, iv x77)] [] orcN ?_
        exact J_r1 rfl
      · refine J_g 16339 [] [(1, pp 0), (8, iv (w64 (s70 + 1)))] [(0, .box (Pack.enc false a1))] orcN ?_
        exact J_q (J_b (ih (w64 (s70 + 1)))) rfl
  · exact J_qw (hk ()) rfl

theorem spec_PackFault_l2.ok (a1 : Pack) (q : Wd) (kn : Unit → Option (D × List Ent)) (hk : ∀ v : Unit, J (q.g Try.prog 112 0 118) c112 (atI c112 255) (St.mk' [(1, pp 0)] [(0, .box (Pack.enc false a1))]) (some v) kn) :
    ∀ s42 : Int, J (q.g Try.prog 112 0 118) c112 (atI c112 2036) (St.mk' [(1, pp 0), (6, iv s42)] [(0, .box (Pack.enc false a1))]) (spec_PackFault_l2 a1 s42) (Fl.go (fun r : Int => some (iv r, [])) kn) := by
  refine J_lp (fun g ih s42 => ?_)
  unfold spec_PackFault_l2b
  refine J_g 8144 [] [(1, pp 0), (6, iv s42), (60, bv (decide (s42 < (a1.Provides.length : Int))))] [(0, .box (Pack.enc false a1))] orcN ?_
  refine J_if2 60 (fun h43 => ?_) (fun h43 => ?_)
  · refine J_bind (fun x44 h45 => ?_)
    refine J_bind (fun x46 h47 => ?_)
    refine J_g 65168 [] [(1, pp 0), (6, iv s42), (7, iv x46)] [(0, .box (Pack.enc false a1))] (orcC 3 (x_ix (kk := .i64) 56 9 1 eStr (.tmp 64) (.tmp 65) h45) (orcC 5 (x_c0 [(.tmp 67)] [9] (spec_NameFault.ok x44) h47) orcN)) ?_
    refine J_g 130338 [] [(1, pp 0), (6, iv s42), (7, iv x46), (70, bv (x46 != 0))] [(0, .box (Pack.enc false a1))] orcN ?_
    refine J_if2 70 (fun h48 => ?_) (fun h48 => ?_)
    · refine J_g 521356 [] [(2, iv x46)] [] orcN ?_
      exact J_r1 rfl
    · refine J_bind (fun x49 h50 => ?_)
      refine J_join (atI c112 65171) (fun v58 : Bool => St.mk' [(1, pp 0), (6, iv s42), (91, bv v58)] [(0, .box (Pack.enc false a1))]) (fun v58 => ?_) (fun jv58 => ?_)
      · refine J_if2 91 (fun h59 => ?_) (fun h59 => ?_)
        · refine J_g 260684 [] [(2, iv 6)] [] orcN ?_
          exact J_r1 rfl
        · refine J_g 8147 [] [(1, pp 0), (6, iv (w64 (s42 + 1)))] [(0, .box (Pack.enc false a1))] orcN ?_
          exact J_q (J_b (ih (w64 (s42 + 1)))) rfl
      · refine J_ite (fun h51 => ?_) (fun h51 => ?_)
        · refine J_g 65170 [] [(1, pp 0), (6, iv s42), (91, bv true)] [(0, .box (Pack.enc false a1))] (orcC 3 (x_ix (kk := .i64) 56 9 1 eStr (.tmp 73) (.tmp 74) h50) (orcL 8 [(79, bv (seq x49 a1.Name))] [] h51 orcN)) ?_
          exact J_qw (J_j (jv58 true)) rfl
        · refine J_bind (fun x52 h53 => ?_)
          refine J_bind (fun x54 h55 => ?_)
          refine J_bind (fun x56 h57 => ?_)
          refine J_g 65170 [] [(1, pp 0), (6, iv s42), (91, bv x56)] [(0, .box (Pack.enc false a1))] (orcC 3 (x_ix (kk := .i64) 56 9 1 eStr (.tmp 73) (.tmp 74) h50) (orcL 8 [(79, bv (seq x49 a1.Name))] [] h51 (orcH 12 8 80 false (x_ls 56 9 1 eStr (.tmp 82) none (some (.tmp 83)) h53) (orcH 16 8 80 false (x_ix (kk := .i64) 56 9 1 eStr (.tmp 86) (.tmp 87) h55) (orcH 18 8 80 false (x_c0 [(.tmp 84), (.tmp 89)] [56, 9] (spec_l2Holds.ok x52 x54) h57) orcN))))) ?_
          exact J_qw (J_j (jv58 x56)) rfl
  · exact J_qw (hk ()) rfl

theorem spec_PackFault_l1.ok (a1 : Pack) (q : Wd) (kn : Unit → Option (D × List Ent)) (hk : ∀ v : Unit, J (q.g Try.prog 112 0 118) c112 (atI c112 127) (St.mk' [(1, pp 0)] [(0, .box (Pack.enc false a1))]) (some v) kn) :
    ∀ s19 : Int, J (q.g Try.prog 112 0 118) c112 (atI c112 1012) (St.mk' [(1, pp 0), (5, iv s19)] [(0, .box (Pack.enc false a1))]) (spec_PackFault_l1 a1 s19) (Fl.go (fun r : Int => some (iv r, [])) kn) := by
  refine J_lp (fun g ih s19 => ?_)
  unfold spec_PackFault_l1b
  refine J_g 4048 [] [(1, pp 0), (5, iv s19), (46, bv (decide (s19 < (a1.Needs.length : Int))))] [(0, .box (Pack.enc false a1))] orcN ?_
  refine J_if2 46 (fun h20 => ?_) (fun h20 => ?_)
  · refine J_bind (fun x21 h22 => ?_)
    refine J_g 16200 [] [(1, pp 0), (5, iv s19), (55, bv (decide ((x21.length : Int) > 4)))] [(0, .box (Pack.enc false a1))] (orcC 3 (x_ix (kk := .i64) 63 64 1 (eSl false 7 Term.enc) (.tmp 50) (.tmp 51) h22) orcN) ?_
    refine J_if2 55 (fun h23 => ?_) (fun h23 => ?_)
    · refine J_g 64804 [] [(2, iv 2)] [] orcN ?_
      exact J_r1 rfl
    · refine J_g 4051 [] [(1, pp 0), (5, iv (w64 (s19 + 1)))] [(0, .box (Pack.enc false a1))] orcN ?_
      exact J_q (J_b (ih (w64 (s19 + 1)))) rfl
  · exact J_qw (hk ()) rfl

theorem spec_PackFault.ok (a1 : Pack) : Ok Try.prog 112 [.ag (Pack.enc false a1)] [] ((spec_PackFault a1).map fun r => (iv r, [])) := by
  refine Ok_of3 c112 Try.f112 0 118 (fun q => ?_)
  unfold spec_PackFault
  refine J_g 2 [(0, 0)] [(1, pp 0)] [(0, .box (Pack.enc false a1))] orcN ?_
  refine J_bind (fun x2 h3 => ?_)
  refine J_g 12 [] [(1, pp 0), (3, iv x2)] [(0, .box (Pack.enc false a1))] (orcC 2 (x_c0 [(.tmp 11)] [9] (spec_NameFault.ok a1.Name) h3) orcN) ?_
  refine J_g 26 [] [(1, pp 0), (3, iv x2), (14, bv (x2 != 0))] [(0, .box (Pack.enc false a1))] orcN ?_
  refine J_if2 14 (fun h4 => ?_) (fun h4 => ?_)
  · refine J_g 108 [] [(2, iv x2)] [] orcN ?_
    exact J_r1 rfl
  · refine J_bind (fun x5 h6 => ?_)
    refine J_g 28 [] [(1, pp 0), (4, iv x5)] [(0, .box (Pack.enc false a1))] (orcC 2 (x_c0 [(.tmp 17)] [62] (spec_VersionFault.ok a1.Version) h6) orcN) ?_
    refine J_g 58 [] [(1, pp 0), (4, iv x5), (20, bv (x5 != 0))] [(0, .box (Pack.enc false a1))] orcN ?_
    refine J_if2 20 (fun h7 => ?_) (fun h7 => ?_)
    · refine J_g 236 [] [(2, iv x5)] [] orcN ?_
      exact J_r1 rfl
    · refine J_bind (fun x8 h9 => ?_)
      refine J_g 60 [] [(1, pp 0), (25, bv (!x8))] [(0, .box (Pack.enc false a1))] (orcC 2 (x_c0 [(.tmp 23), (.const (.int .i64 1)), (.const (.int .i64 200))] [2, 2, 2] (spec_l1In.ok a1.Size 1 200) h9) orcN) ?_
      refine J_if2 25 (fun h10 => ?_) (fun h10 => ?_)
      · refine J_g 244 [] [(2, iv 3)] [] orcN ?_
        exact J_r1 rfl
      · refine J_join (atI c112 125) (fun v13 : Bool => St.mk' [(1, pp 0), (41, bv v13)] [(0, .box (Pack.enc false a1))]) (fun v13 => ?_) (fun jv13 => ?_)
        · refine J_if2 41 (fun h14 => ?_) (fun h14 => ?_)
          · refine J_g 500 [] [(2, iv 2)] [] orcN ?_
            exact J_r1 rfl
          · refine J_g 252 [] [(1, pp 0), (5, iv 0)] [(0, .box (Pack.enc false a1))] orcN ?_
            refine J_lqF (K0 := (fun r : Int => some (iv r, []))) (fun _ => rfl) (spec_PackFault_l1.ok a1 q _ (fun v24 => J_j ?_) 0)
            refine J_g 508 [] [(1, pp 0), (6, iv 0)] [(0, .box (Pack.enc false a1))] orcN ?_
            refine J_lqF (K0 := (fun r : Int => some (iv r, []))) (fun _ => rfl) (spec_PackFault_l2.ok a1 q _ (fun v60 => J_j ?_) 0)
            refine J_g 1020 [] [(1, pp 0), (8, iv 0)] [(0, .box (Pack.enc false a1))] orcN ?_
            refine J_lqF (K0 := (fun r : Int => some (iv r, []))) (fun _ => rfl) (spec_PackFault_l3.ok a1 q _ (fun v80 => J_j ?_) 0)
            refine J_bind (fun x81 h82 => ?_)
            refine J_g 1022 [] [(2, iv x81)] [] (orcC 2 (x_c0 [(.tmp 116)] [64] (spec_l2Terms.ok a1.Bars) h82) orcN) ?_
            exact J_r1 rfl
        · refine J_ite (fun h11 => ?_) (fun h11 => ?_)
          · refine J_g 124 [] [(1, pp 0), (41, bv true)] [(0, .box (Pack.enc false a1))] (orcL 4 [(29, bv (decide ((a1.Provides.length : Int) > 4)))] [] h11 orcN) ?_
            exact J_qw (J_j (jv13 true)) rfl
          · refine J_ite (fun h12 => ?_) (fun h12 => ?_)
            · refine J_g 124 [] [(1, pp 0), (41, bv true)] [(0, .box (Pack.enc false a1))] (orcL 4 [(29, bv (decide ((a1.Provides.length : Int) > 4)))] [] h11 (orcL 10 [(35, bv (decide ((a1.Needs.length : Int) > 4)))] [] h12 orcN)) ?_
              exact J_qw (J_j (jv13 true)) rfl
            · refine J_g 124 [] [(1, pp 0), (41, bv (decide ((a1.Bars.length : Int) > 4)))] [(0, .box (Pack.enc false a1))] (orcL 4 [(29, bv (decide ((a1.Provides.length : Int) > 4)))] [] h11 (orcL 10 [(35, bv (decide ((a1.Needs.length : Int) > 4)))] [] h12 orcN)) ?_
              exact J_qw (J_j (jv13 (decide ((a1.Bars.length : Int) > 4)))) rfl

noncomputable def c113 : Code := (Try.f113.body).getD .skip

theorem spec_l2Find_l1.ok (a1 : (List Pack)) (a2 : ByteArray) (a3 : Version) (q : Wd) (kn : Unit → Option (D × List Ent)) (hk : ∀ v : Unit, J (q.g Try.prog 113 0 32) c113 (atI c113 7) (St.mk' [] []) (some v) kn) :
    ∀ s14 : Int, J (q.g Try.prog 113 0 32) c113 (atI c113 52) (St.mk' [(0, sl 8 (Pack.enc false) a1), (1, sv a2), (5, pp 0), (7, iv s14)] [(0, .box (Version.enc a3))]) (spec_l2Find_l1 a1 a2 a3 s14) (Fl.go (fun r : Int => some (iv r, [])) kn) := by
  refine J_lp (fun g ih s14 => ?_)
  unfold spec_l2Find_l1b
  refine J_g 208 [] [(0, sl 8 (Pack.enc false) a1), (1, sv a2), (5, pp 0), (7, iv s14), (11, bv (decide (s14 < (a1.length : Int))))] [(0, .box (Version.enc a3))] orcN ?_
  refine J_if2 11 (fun h15 => ?_) (fun h15 => ?_)
  · refine J_bind (fun x16 h17 => ?_)
    refine J_join (atI c113 841) (fun v23 : Bool => St.mk' [(0, sl 8 (Pack.enc false) a1), (1, sv a2), (5, pp 0), (7, iv s14), (30, bv v23)] [(0, .box (Version.enc a3))]) (fun v23 => ?_) (fun jv23 => ?_)
    · refine J_if2 30 (fun h24 => ?_) (fun h24 => ?_)
      · refine J_g 3364 [] [(6, iv s14)] [] orcN ?_
        exact J_r1 rfl
      · refine J_g 211 [] [(0, sl 8 (Pack.enc false) a1), (1, sv a2), (5, pp 0), (7, iv (w64 (s14 + 1)))] [(0, .box (Version.enc a3))] orcN ?_
        exact J_q (J_b (ih (w64 (s14 + 1)))) rfl
    · refine J_ite (fun h18 => ?_) (fun h18 => ?_)
      · refine J_bind (fun x19 h20 => ?_)
        refine J_bind (fun x21 h22 => ?_)
        refine J_g 840 [] [(0, sl 8 (Pack.enc false) a1), (1, sv a2), (5, pp 0), (7, iv s14), (30, bv (x21 == 0))] [(0, .box (Version.enc a3))] (orcC 2 (x_ix (kk := .i64) 28 66 8 (Pack.enc false) (.tmp 14) (.tmp 15) h17) (orcL 7 [(20, bv (seq x16.Name a2))] [] h18 (orcH 10 7 21 true (x_ix (kk := .i64) 28 66 8 (Pack.enc false) (.tmp 22) (.tmp 23) h20) (orcH 14 7 21 true (x_c0 [(.tmp 26), (.tmp 27)] [62, 62] (spec_CompareVersions.ok x19.Version a3) h22) orcN)))) ?_
        exact J_qw (J_j (jv23 (x21 == 0))) rfl
      · refine J_g 840 [] [(0, sl 8 (Pack.enc false) a1), (1, sv a2), (5, pp 0), (7, iv s14), (30, bv false)] [(0, .box (Version.enc a3))] (orcC 2 (x_ix (kk := .i64) 28 66 8 (Pack.enc false) (.tmp 14) (.tmp 15) h17) (orcL 7 [(20, bv (seq x16.Name a2))] [] h18 orcN)) ?_
        exact J_qw (J_j (jv23 false)) rfl
  · exact J_qw (hk ()) rfl

theorem spec_l2Find.ok (a1 : (List Pack)) (a2 : ByteArray) (a3 : Version) : Ok Try.prog 113 [sl 8 (Pack.enc false) a1, sv a2, .ag (Version.enc a3)] [] ((spec_l2Find a1 a2 a3).map fun r => (iv r, [])) := by
  refine Ok_of3 c113 Try.f113 0 32 (fun q => ?_)
  unfold spec_l2Find
  refine J_g 2 [(0, 0)] [(0, sl 8 (Pack.enc false) a1), (1, sv a2), (5, pp 0)] [(0, .box (Version.enc a3))] orcN ?_
  refine J_g 12 [] [(0, sl 8 (Pack.enc false) a1), (1, sv a2), (5, pp 0), (7, iv 0)] [(0, .box (Version.enc a3))] orcN ?_
  refine J_lqF (K0 := (fun r : Int => some (iv r, []))) (fun _ => rfl) (spec_l2Find_l1.ok a1 a2 a3 q _ (fun v25 => J_j ?_) 0)
  refine J_g 14 [] [(6, iv (-1))] [] orcN ?_
  exact J_r1 rfl

noncomputable def c83 : Code := (Try.f83.body).getD .skip

theorem spec_CatalogFault_l1.ok (a1 : (List Pack)) (q : Wd) (kn : Unit → Option (D × List Ent)) (hk : ∀ v : Unit, J (q.g Try.prog 83 0 37) c83 (atI c83 15) (St.mk' [] []) (some v) kn) :
    ∀ s18 : Int, J (q.g Try.prog 83 0 37) c83 (atI c83 116) (St.mk' [(0, sl 8 (Pack.enc false) a1), (3, iv s18)] []) (spec_CatalogFault_l1 a1 s18) (Fl.go (fun r : Int => some (iv r, [])) kn) := by
  refine J_lp (fun g ih s18 => ?_)
  unfold spec_CatalogFault_l1b
  refine J_g 464 [] [(0, sl 8 (Pack.enc false) a1), (3, iv s18), (11, bv (decide (s18 < (a1.length : Int))))] [] orcN ?_
  refine J_if2 11 (fun h19 => ?_) (fun h19 => ?_)
  · refine J_bind (fun x20 h21 => ?_)
    refine J_bind (fun x22 h23 => ?_)
    refine J_g 3728 [] [(0, sl 8 (Pack.enc false) a1), (3, iv s18), (4, iv x22)] [] (orcC 2 (x_ix (kk := .i64) 28 66 8 (Pack.enc false) (.tmp 14) (.tmp 15) h21) (orcC 4 (x_c0 [(.tmp 17)] [66] (spec_PackFault.ok x20) h23) orcN)) ?_
    refine J_g 7458 [] [(0, sl 8 (Pack.enc false) a1), (3, iv s18), (4, iv x22), (20, bv (x22 != 0))] [] orcN ?_
    refine J_if2 20 (fun h24 => ?_) (fun h24 => ?_)
    · refine J_g 29836 [] [(2, iv x22)] [] orcN ?_
      exact J_r1 rfl
    · refine J_bind (fun x25 h26 => ?_)
      refine J_bind (fun x27 h28 => ?_)
      refine J_bind (fun x29 h30 => ?_)
      refine J_bind (fun x31 h32 => ?_)
      refine J_g 3730 [] [(0, sl 8 (Pack.enc false) a1), (3, iv s18), (36, bv (decide (x31 ≥ 0)))] [] (orcC 2 (x_ls 28 66 8 (Pack.enc false) (.tmp 22) none (some (.tmp 23)) h26) (orcC 5 (x_ix (kk := .i64) 28 66 8 (Pack.enc false) (.tmp 25) (.tmp 26) h28) (orcC 10 (x_ix (kk := .i64) 28 66 8 (Pack.enc false) (.tmp 30) (.tmp 31) h30) (orcC 13 (x_c0 [(.tmp 24), (.tmp 29), (.tmp 34)] [28, 9, 62] (spec_l2Find.ok x25 x27.Name x29.Version) h32) orcN)))) ?_
      refine J_if2 36 (fun h33 => ?_) (fun h33 => ?_)
      · refine J_g 14924 [] [(2, iv 6)] [] orcN ?_
        exact J_r1 rfl
      · refine J_g 467 [] [(0, sl 8 (Pack.enc false) a1), (3, iv (w64 (s18 + 1)))] [] orcN ?_
        exact J_q (J_b (ih (w64 (s18 + 1)))) rfl
  · exact J_qw (hk ()) rfl

theorem spec_CatalogFault.ok (a1 : (List Pack)) : Ok Try.prog 83 [sl 8 (Pack.enc false) a1] [] ((spec_CatalogFault a1).map fun r => (iv r, [])) := by
  refine Ok_of3 c83 Try.f83 0 37 (fun q => ?_)
  unfold spec_CatalogFault
  refine J_g 2 [] [(0, sl 8 (Pack.enc false) a1)] [] orcN ?_
  refine J_g 12 [] [(0, sl 8 (Pack.enc false) a1), (7, bv (decide ((a1.length : Int) > 24)))] [] orcN ?_
  refine J_if2 7 (fun h2 => ?_) (fun h2 => ?_)
  · refine J_g 52 [] [(2, iv 2)] [] orcN ?_
    exact J_r1 rfl
  · refine J_g 28 [] [(0, sl 8 (Pack.enc false) a1), (3, iv 0)] [] orcN ?_
    refine J_lqF (K0 := (fun r : Int => some (iv r, []))) (fun _ => rfl) (spec_CatalogFault_l1.ok a1 q _ (fun v34 => J_j ?_) 0)
    refine J_g 30 [] [(2, iv 0)] [] orcN ?_
    exact J_r1 rfl

noncomputable def c84 : Code := (Try.f84.body).getD .skip

theorem spec_l3Set_l1.ok (a1 : (List Pack)) (a2 : (List Int)) (q : Wd) (kn : Unit → Option (D × List Ent)) (hk : ∀ v : Unit, J (q.g Try.prog 84 0 37) c84 (atI c84 7) (St.mk' [] []) (some v) kn) :
    ∀ s16 : Int, J (q.g Try.prog 84 0 37) c84 (atI c84 52) (St.mk' [(0, sl 8 (Pack.enc false) a1), (1, sl 1 eI64 a2), (5, iv s16)] []) (spec_l3Set_l1 a1 a2 s16) (Fl.go (fun r : Bool => some (bv r, [])) kn) := by
  refine J_lp (fun g ih s16 => ?_)
  unfold spec_l3Set_l1b
  refine J_g 208 [] [(0, sl 8 (Pack.enc false) a1), (1, sl 1 eI64 a2), (5, iv s16), (9, bv (decide (s16 < (a2.length : Int))))] [] orcN ?_
  refine J_if2 9 (fun h17 => ?_) (fun h17 => ?_)
  · refine J_bind (fun x18 h19 => ?_)
    refine J_bind (fun x20 h21 => ?_)
    refine J_join (atI c84 841) (fun v28 : Bool => St.mk' [(0, sl 8 (Pack.enc false) a1), (1, sl 1 eI64 a2), (5, iv s16), (36, bv v28)] []) (fun v28 => ?_) (fun jv28 => ?_)
    · refine J_if2 36 (fun h29 => ?_) (fun h29 => ?_)
      · refine J_g 3364 [] [(4, bv false)] [] orcN ?_
        exact J_r1 rfl
      · refine J_g 211 [] [(0, sl 8 (Pack.enc false) a1), (1, sl 1 eI64 a2), (5, iv (w64 (s16 + 1)))] [] orcN ?_
        exact J_q (J_b (ih (w64 (s16 + 1)))) rfl
    · refine J_ite (fun h22 => ?_) (fun h22 => ?_)
      · refine J_g 840 [] [(0, sl 8 (Pack.enc false) a1), (1, sl 1 eI64 a2), (5, iv s16), (36, bv true)] [] (orcC 2 (x_ix (kk := .i64) 23 2 1 eI64 (.tmp 12) (.tmp 13) h19) (orcC 7 (x_c0 [(.tmp 15), (.const (.int .i64 0)), (.tmp 18)] [2, 2, 2] (spec_l1In.ok x18 0 (w64 ((a1.length : Int) - 1))) h21) (orcL 9 [(20, bv (!x20))] [] h22 (orcV 12 (orcU (i := 12) (g := 9) (t := 21) (b := false) (v := (.bool true)) (.inl rfl) (by kernel_rfl) (by kernel_rfl)) (orcV 13 (orcU (i := 13) (g := 12) (t := 24) (b := true) (v := undef) (.inr rfl) (by kernel_rfl) (by kernel_rfl)) (orcV 14 (orcU (i := 14) (g := 12) (t := 24) (b := true) (v := undef) (.inr rfl) (by kernel_rfl) (by kernel_rfl)) (orcV 15 (orcU (i := 15) (g := 12) (t := 24) (b := true) (v := undef) (.inr rfl) (by kernel_rfl) (by kernel_rfl)) (orcV 16 (orcU (i := 16) (g := 12) (t := 24) (b := true) (v := undef) (.inr rfl) (by kernel_rfl) (by kernel_rfl)) (orcV 17 (orcU (i := 17) (g := 12) (t := 24) (b := true) (v := undef) (.inr rfl) (by kernel_rfl) (by kernel_rfl)) (orcV 18 (orcU (i := 18) (g := 12) (t := 24) (b := true) (v := undef) (.inr rfl) (by kernel_rfl) (by kernel_rfl)) (orcV 19 (orcU (i := 19) (g := 12) (t := 24) (b := true) (v := undef) (.inr rfl) (by kernel_rfl) (by kernel_rfl)) (orcV 20 (orcU (i := 20) (g := 12) (t := 24) (b := true) (v := undef) (.inr rfl) (by kernel_rfl) (by kernel_rfl)) (orcV 21 (orcU (i := 21) (g := 12) (t := 24) (b := true) (v := undef) (.inr rfl) (by kernel_rfl) (by kernel_rfl)) (orcV 22 (orcU (i := 22) (g := 12) (t := 24) (b := true) (v := undef) (.inr rfl) (by kernel_rfl) (by kernel_rfl)) orcN)))))))))))))) ?_
        exact J_qw (J_j (jv28 true)) rfl
      · refine J_ite (fun h23 => ?_) (fun h23 => ?_)
        · refine J_bind (fun x24 h25 => ?_)
          refine J_bind (fun x26 h27 => ?_)
          refine J_g 840 [] [(0, sl 8 (Pack.enc false) a1), (1, sl 1 eI64 a2), (5, iv s16), (36, bv (decide (x24 ≤ x26)))] [] (orcC 2 (x_ix (kk := .i64) 23 2 1 eI64 (.tmp 12) (.tmp 13) h19) (orcC 7 (x_c0 [(.tmp 15), (.const (.int .i64 0)), (.tmp 18)] [2, 2, 2] (spec_l1In.ok x18 0 (w64 ((a1.length : Int) - 1))) h21) (orcL 9 [(20, bv (!x20))] [] h22 (orcLG 12 9 21 false [(23, bv (decide (s16 > 0)))] [] h23 (orcH 15 12 24 true (x_ix (kk := .i64) 23 2 1 eI64 (.tmp 25) (.tmp 26) h25) (orcH 20 12 24 true (x_ix (kk := .i64) 23 2 1 eI64 (.tmp 29) (.tmp 31) h27) orcN)))))) ?_
          exact J_qw (J_j (jv28 (decide (x24 ≤ x26)))) rfl
        · refine J_g 840 [] [(0, sl 8 (Pack.enc false) a1), (1, sl 1 eI64 a2), (5, iv s16), (36, bv false)] [] (orcC 2 (x_ix (kk := .i64) 23 2 1 eI64 (.tmp 12) (.tmp 13) h19) (orcC 7 (x_c0 [(.tmp 15), (.const (.int .i64 0)), (.tmp 18)] [2, 2, 2] (spec_l1In.ok x18 0 (w64 ((a1.length : Int) - 1))) h21) (orcL 9 [(20, bv (!x20))] [] h22 (orcLG 12 9 21 false [(23, bv (decide (s16 > 0)))] [] h23 orcN)))) ?_
          exact J_qw (J_j (jv28 false)) rfl
  · exact J_qw (hk ()) rfl

theorem spec_l3Set.ok (a1 : (List Pack)) (a2 : (List Int)) : Ok Try.prog 84 [sl 8 (Pack.enc false) a1, sl 1 eI64 a2] [] ((spec_l3Set a1 a2).map fun r => (bv r, [])) := by
  refine Ok_of3 c84 Try.f84 0 37 (fun q => ?_)
  unfold spec_l3Set
  refine J_g 2 [] [(0, sl 8 (Pack.enc false) a1), (1, sl 1 eI64 a2)] [] orcN ?_
  refine J_g 12 [] [(0, sl 8 (Pack.enc false) a1), (1, sl 1 eI64 a2), (5, iv 0)] [] orcN ?_
  refine J_lqF (K0 := (fun r : Bool => some (bv r, []))) (fun _ => rfl) (spec_l3Set_l1.ok a1 a2 q _ (fun v30 => J_j ?_) 0)
  refine J_g 14 [] [(4, bv true)] [] orcN ?_
  exact J_r1 rfl

noncomputable def c46 : Code := (Try.f46.body).getD .skip

theorem spec_SetFault.ok (a1 : (List Pack)) (a2 : (List Int)) : Ok Try.prog 46 [sl 8 (Pack.enc false) a1, sl 1 eI64 a2] [] ((spec_SetFault a1 a2).map fun r => (iv r, [])) := by
  refine Ok_of3 c46 Try.f46 0 15 (fun q => ?_)
  unfold spec_SetFault
  refine J_g 2 [] [(0, sl 8 (Pack.enc false) a1), (1, sl 1 eI64 a2)] [] orcN ?_
  refine J_bind (fun x3 h4 => ?_)
  refine J_g 12 [] [(0, sl 8 (Pack.enc false) a1), (1, sl 1 eI64 a2), (5, iv x3)] [] (orcC 1 (x_c0 [(.tmp 6)] [28] (spec_CatalogFault.ok a1) h4) orcN) ?_
  refine J_g 26 [] [(0, sl 8 (Pack.enc false) a1), (1, sl 1 eI64 a2), (5, iv x3), (9, bv (x3 != 0))] [] orcN ?_
  refine J_if2 9 (fun h5 => ?_) (fun h5 => ?_)
  · refine J_g 108 [] [(4, iv x3)] [] orcN ?_
    exact J_r1 rfl
  · refine J_bind (fun x6 h7 => ?_)
    refine J_g 28 [] [(14, bv (!x6))] [] (orcC 2 (x_c0 [(.tmp 11), (.tmp 12)] [28, 23] (spec_l3Set.ok a1 a2) h7) orcN) ?_
    refine J_if2 14 (fun h8 => ?_) (fun h8 => ?_)
    · refine J_g 116 [] [(4, iv 1)] [] orcN ?_
      exact J_r1 rfl
    · refine J_g 30 [] [(4, iv 0)] [] orcN ?_
      exact J_r1 rfl

noncomputable def c172 : Code := (Try.f172.body).getD .skip

theorem spec_l1InTerm.ok (a1 : Term) (a2 : ByteArray) (a3 : Version) : Ok Try.prog 172 [.ag (Term.enc a1), sv a2, .ag (Version.enc a3)] [] ((spec_l1InTerm a1 a2 a3).map fun r => (bv r, [])) := by
  refine Ok_of3 c172 Try.f172 0 25 (fun q => ?_)
  unfold spec_l1InTerm
  refine J_g 2 [(0, 0), (1, 1)] [(1, sv a2), (3, pp 0), (5, pp 1)] [(0, .box (Term.enc a1)), (1, .box (Version.enc a3))] orcN ?_
  refine J_ite (fun h4 => ?_) (fun h4 => ?_)
  · refine J_bind (fun x5 h6 => ?_)
    refine J_ite (fun h7 => ?_) (fun h7 => ?_)
    · refine J_bind (fun x8 h9 => ?_)
      refine J_g 6 [] [(6, bv (decide (x8 < 0)))] [] (orcL 4 [(10, bv (seq a1.Name a2))] [] h4 (orcH 8 4 11 true (x_c0 [(.tmp 12), (.tmp 14)] [62, 62] (spec_CompareVersions.ok a3 a1.Low) h6) (orcL 11 [(17, bv (decide (x5 ≥ 0)))] [] h7 (orcH 15 11 18 true (x_c0 [(.tmp 19), (.tmp 21)] [62, 62] (spec_CompareVersions.ok a3 a1.High) h9) orcN)))) ?_
      exact J_r1 rfl
    · refine J_g 6 [] [(6, bv false)] [] (orcL 4 [(10, bv (seq a1.Name a2))] [] h4 (orcH 8 4 11 true (x_c0 [(.tmp 12), (.tmp 14)] [62, 62] (spec_CompareVersions.ok a3 a1.Low) h6) (orcL 11 [(17, bv (decide (x5 ≥ 0)))] [] h7 orcN))) ?_
      exact J_r1 rfl
  · refine J_g 6 [] [(6, bv false)] [] (orcL 4 [(10, bv (seq a1.Name a2))] [] h4 orcN) ?_
    exact J_r1 rfl

noncomputable def c152 : Code := (Try.f152.body).getD .skip

theorem spec_l2Gives.ok (a1 : Pack) (a2 : Term) : Ok Try.prog 152 [.ag (Pack.enc false a1), .ag (Term.enc a2)] [] ((spec_l2Gives a1 a2).map fun r => (bv r, [])) := by
  refine Ok_of3 c152 Try.f152 0 25 (fun q => ?_)
  unfold spec_l2Gives
  refine J_g 2 [(0, 0), (1, 1)] [(2, pp 0), (3, pp 1)] [(0, .box (Pack.enc false a1)), (1, .box (Term.enc a2))] orcN ?_
  refine J_ite (fun h3 => ?_) (fun h3 => ?_)
  · refine J_bind (fun x4 h5 => ?_)
    refine J_g 6 [] [(4, bv x4)] [] (orcL 5 [(9, bv (seq a2.Name a1.Name))] [] h3 (orcH 18 12 17 true (x_c0 [(.tmp 18), (.tmp 20), (.tmp 22)] [119, 9, 62] (spec_l1InTerm.ok a2 a2.Name a1.Version) h5) orcN)) ?_
    exact J_r1 rfl
  · refine J_bind (fun x6 h7 => ?_)
    refine J_ite (fun h8 => ?_) (fun h8 => ?_)
    · refine J_bind (fun x9 h10 => ?_)
      refine J_g 6 [] [(4, bv x9)] [] (orcL 5 [(9, bv (seq a2.Name a1.Name))] [] h3 (orcH 10 5 10 false (x_c0 [(.tmp 12), (.tmp 14)] [56, 9] (spec_l2Holds.ok a1.Provides a2.Name) h7) (orcL 12 [(16, bv x6)] [] h8 (orcH 18 12 17 true (x_c0 [(.tmp 18), (.tmp 20), (.tmp 22)] [119, 9, 62] (spec_l1InTerm.ok a2 a2.Name a1.Version) h10) orcN)))) ?_
      exact J_r1 rfl
    · refine J_g 6 [] [(4, bv false)] [] (orcL 5 [(9, bv (seq a2.Name a1.Name))] [] h3 (orcH 10 5 10 false (x_c0 [(.tmp 12), (.tmp 14)] [56, 9] (spec_l2Holds.ok a1.Provides a2.Name) h7) (orcL 12 [(16, bv x6)] [] h8 orcN))) ?_
      exact J_r1 rfl

noncomputable def c115 : Code := (Try.f115.body).getD .skip

theorem spec_l3Given_l1.ok (a1 : (List Pack)) (a2 : (List Int)) (a3 : Term) (a4 : Int) (q : Wd) (kn : Unit → Option (D × List Ent)) (hk : ∀ v : Unit, J (q.g Try.prog 115 0 33) c115 (atI c115 7) (St.mk' [] []) (some v) kn) :
    ∀ s17 : Int, J (q.g Try.prog 115 0 33) c115 (atI c115 52) (St.mk' [(0, sl 8 (Pack.enc false) a1), (1, sl 1 eI64 a2), (3, iv a4), (6, pp 0), (9, iv s17)] [(0, .box (Term.enc a3))]) (spec_l3Given_l1 a1 a2 a3 a4 s17) (Fl.go (fun r : Bool => some (bv r, [])) kn) := by
  refine J_lp (fun g ih s17 => ?_)
  unfold spec_l3Given_l1b
  refine J_g 208 [] [(0, sl 8 (Pack.enc false) a1), (1, sl 1 eI64 a2), (3, iv a4), (6, pp 0), (9, iv s17), (13, bv (decide (s17 < (a2.length : Int))))] [(0, .box (Term.enc a3))] orcN ?_
  refine J_if2 13 (fun h18 => ?_) (fun h18 => ?_)
  · refine J_bind (fun x19 h20 => ?_)
    refine J_join (atI c115 841) (fun v28 : Bool => St.mk' [(0, sl 8 (Pack.enc false) a1), (1, sl 1 eI64 a2), (3, iv a4), (6, pp 0), (9, iv s17), (32, bv v28)] [(0, .box (Term.enc a3))]) (fun v28 => ?_) (fun jv28 => ?_)
    · refine J_if2 32 (fun h29 => ?_) (fun h29 => ?_)
      · refine J_g 3364 [] [(8, bv true)] [] orcN ?_
        exact J_r1 rfl
      · refine J_g 211 [] [(0, sl 8 (Pack.enc false) a1), (1, sl 1 eI64 a2), (3, iv a4), (6, pp 0), (9, iv (w64 (s17 + 1)))] [(0, .box (Term.enc a3))] orcN ?_
        exact J_q (J_b (ih (w64 (s17 + 1)))) rfl
    · refine J_ite (fun h21 => ?_) (fun h21 => ?_)
      · refine J_bind (fun x22 h23 => ?_)
        refine J_bind (fun x24 h25 => ?_)
        refine J_bind (fun x26 h27 => ?_)
        refine J_g 840 [] [(0, sl 8 (Pack.enc false) a1), (1, sl 1 eI64 a2), (3, iv a4), (6, pp 0), (9, iv s17), (32, bv x26)] [(0, .box (Term.enc a3))] (orcC 2 (x_ix (kk := .i64) 23 2 1 eI64 (.tmp 16) (.tmp 17) h20) (orcL 6 [(21, bv (x19 != a4))] [] h21 (orcH 10 6 22 true (x_ix (kk := .i64) 23 2 1 eI64 (.tmp 24) (.tmp 25) h23) (orcH 12 6 22 true (x_ix (kk := .i64) 28 66 8 (Pack.enc false) (.tmp 23) (.tmp 27) h25) (orcH 15 6 22 true (x_c0 [(.tmp 29), (.tmp 30)] [66, 119] (spec_l2Gives.ok x24 a3) h27) orcN))))) ?_
        exact J_qw (J_j (jv28 x26)) rfl
      · refine J_g 840 [] [(0, sl 8 (Pack.enc false) a1), (1, sl 1 eI64 a2), (3, iv a4), (6, pp 0), (9, iv s17), (32, bv false)] [(0, .box (Term.enc a3))] (orcC 2 (x_ix (kk := .i64) 23 2 1 eI64 (.tmp 16) (.tmp 17) h20) (orcL 6 [(21, bv (x19 != a4))] [] h21 orcN)) ?_
        exact J_qw (J_j (jv28 false)) rfl
  · exact J_qw (hk ()) rfl

theorem spec_l3Given.ok (a1 : (List Pack)) (a2 : (List Int)) (a3 : Term) (a4 : Int) : Ok Try.prog 115 [sl 8 (Pack.enc false) a1, sl 1 eI64 a2, .ag (Term.enc a3), iv a4] [] ((spec_l3Given a1 a2 a3 a4).map fun r => (bv r, [])) := by
  refine Ok_of3 c115 Try.f115 0 33 (fun q => ?_)
  unfold spec_l3Given
  refine J_g 2 [(0, 0)] [(0, sl 8 (Pack.enc false) a1), (1, sl 1 eI64 a2), (3, iv a4), (6, pp 0)] [(0, .box (Term.enc a3))] orcN ?_
  refine J_g 12 [] [(0, sl 8 (Pack.enc false) a1), (1, sl 1 eI64 a2), (3, iv a4), (6, pp 0), (9, iv 0)] [(0, .box (Term.enc a3))] orcN ?_
  refine J_lqF (K0 := (fun r : Bool => some (bv r, []))) (fun _ => rfl) (spec_l3Given_l1.ok a1 a2 a3 a4 q _ (fun v30 => J_j ?_) 0)
  refine J_g 14 [] [(8, bv false)] [] orcN ?_
  exact J_r1 rfl

noncomputable def c114 : Code := (Try.f114.body).getD .skip

theorem spec_l3Met_l1.ok (a1 : (List Pack)) (a2 : (List Int)) (a3 : (List Term)) (q : Wd) (kn : Unit → Option (D × List Ent)) (hk : ∀ v : Unit, J (q.g Try.prog 114 0 21) c114 (atI c114 7) (St.mk' [] []) (some v) kn) :
    ∀ s10 : Int, J (q.g Try.prog 114 0 21) c114 (atI c114 52) (St.mk' [(0, sl 8 (Pack.enc false) a1), (1, sl 1 eI64 a2), (2, sl 7 Term.enc a3), (7, iv s10)] []) (spec_l3Met_l1 a1 a2 a3 s10) (Fl.go (fun r : Bool => some (bv r, [])) kn) := by
  refine J_lp (fun g ih s10 => ?_)
  unfold spec_l3Met_l1b
  refine J_g 208 [] [(0, sl 8 (Pack.enc false) a1), (1, sl 1 eI64 a2), (2, sl 7 Term.enc a3), (7, iv s10), (11, bv (decide (s10 < (a3.length : Int))))] [] orcN ?_
  refine J_if2 11 (fun h11 => ?_) (fun h11 => ?_)
  · refine J_bind (fun x12 h13 => ?_)
    refine J_bind (fun x14 h15 => ?_)
    refine J_g 840 [] [(0, sl 8 (Pack.enc false) a1), (1, sl 1 eI64 a2), (2, sl 7 Term.enc a3), (7, iv s10), (20, bv x14)] [] (orcC 4 (x_ix (kk := .i64) 64 119 7 Term.enc (.tmp 16) (.tmp 17) h13) (orcC 6 (x_c0 [(.tmp 14), (.tmp 15), (.tmp 19), (.const (.int .i64 (-1)))] [28, 23, 119, 2] (spec_l3Given.ok a1 a2 x12 (-1)) h15) orcN)) ?_
    refine J_if2 20 (fun h16 => ?_) (fun h16 => ?_)
    · refine J_g 3364 [] [(6, bv true)] [] orcN ?_
      exact J_r1 rfl
    · refine J_g 211 [] [(0, sl 8 (Pack.enc false) a1), (1, sl 1 eI64 a2), (2, sl 7 Term.enc a3), (7, iv (w64 (s10 + 1)))] [] orcN ?_
      exact J_q (J_b (ih (w64 (s10 + 1)))) rfl
  · exact J_qw (hk ()) rfl

theorem spec_l3Met.ok (a1 : (List Pack)) (a2 : (List Int)) (a3 : (List Term)) : Ok Try.prog 114 [sl 8 (Pack.enc false) a1, sl 1 eI64 a2, sl 7 Term.enc a3] [] ((spec_l3Met a1 a2 a3).map fun r => (bv r, [])) := by
  refine Ok_of3 c114 Try.f114 0 21 (fun q => ?_)
  unfold spec_l3Met
  refine J_g 2 [] [(0, sl 8 (Pack.enc false) a1), (1, sl 1 eI64 a2), (2, sl 7 Term.enc a3)] [] orcN ?_
  refine J_g 12 [] [(0, sl 8 (Pack.enc false) a1), (1, sl 1 eI64 a2), (2, sl 7 Term.enc a3), (7, iv 0)] [] orcN ?_
  refine J_lqF (K0 := (fun r : Bool => some (bv r, []))) (fun _ => rfl) (spec_l3Met_l1.ok a1 a2 a3 q _ (fun v17 => J_j ?_) 0)
  refine J_g 14 [] [(6, bv false)] [] orcN ?_
  exact J_r1 rfl

noncomputable def c85 : Code := (Try.f85.body).getD .skip

theorem spec_l3Faults_l3.ok (a1 : (List Pack)) (a2 : (List Int)) (s82 : ((List Fault) × Int)) (x86 : Pack) (q : Wd) (kn : (List Fault) → Option (D × List Ent)) (hk : ∀ v : (List Fault), J (q.g Try.prog 85 0 103) c85 (aft c85 932) (St.mk' [(0, sl 8 (Pack.enc false) a1), (1, sl 1 eI64 a2), (5, rr 0 v), (6, iv s82.2)] [(0, rE 3 Fault.enc v)]) (some v) kn) :
    ∀ s147 : ((List Fault) × Int), J (q.g Try.prog 85 0 103) c85 (atI c85 59708) (St.mk' [(0, sl 8 (Pack.enc false) a1), (1, sl 1 eI64 a2), (5, rr 0 s147.1), (6, iv s82.2), (7, pp 1), (10, iv s147.2)] [(0, rE 3 Fault.enc s147.1), (1, .box (Pack.enc false x86))]) (spec_l3Faults_l3 a1 a2 s82 x86 s147) kn := by
  refine J_lp (fun g ih s147 => ?_)
  unfold spec_l3Faults_l3b
  refine J_g 238832 [] [(0, sl 8 (Pack.enc false) a1), (1, sl 1 eI64 a2), (5, rr 0 s147.1), (6, iv s82.2), (7, pp 1), (10, iv s147.2), (78, bv (decide (s147.2 < (x86.Bars.length : Int))))] [(0, rE 3 Fault.enc s147.1), (1, .box (Pack.enc false x86))] orcN ?_
  refine J_if2 78 (fun h148 => ?_) (fun h148 => ?_)
  · refine J_bind (fun x149 h150 => ?_)
    refine J_bind (fun x151 h152 => ?_)
    refine J_bind (fun x153 h154 => ?_)
    refine J_g 955336 [] [(0, sl 8 (Pack.enc false) a1), (1, sl 1 eI64 a2), (5, rr 0 s147.1), (6, iv s82.2), (7, pp 1), (10, iv s147.2), (92, bv x153)] [(0, rE 3 Fault.enc s147.1), (1, .box (Pack.enc false x86))] (orcC 5 (x_ix (kk := .i64) 64 119 7 Term.enc (.tmp 84) (.tmp 85) h150) (orcC 9 (x_ix (kk := .i64) 23 2 1 eI64 (.tmp 88) (.tmp 89) h152) (orcC 11 (x_c0 [(.tmp 81), (.tmp 82), (.tmp 87), (.tmp 91)] [28, 23, 119, 2] (spec_l3Given.ok a1 a2 x149 x151) h154) orcN))) ?_
    refine J_join (aft c85 477668) (fun v160 : (List Fault) => St.mk' [(0, sl 8 (Pack.enc false) a1), (1, sl 1 eI64 a2), (5, rr 3 v160), (6, iv s82.2), (7, pp 1), (10, iv s147.2)] [(1, .box (Pack.enc false x86)), (3, rE 3 Fault.enc v160)]) (fun v160 => ?_) (fun jv160 => ?_)
    · refine J_g 238835 [] [(0, sl 8 (Pack.enc false) a1), (1, sl 1 eI64 a2), (5, rr 3 v160), (6, iv s82.2), (7, pp 1), (10, iv (w64 (s147.2 + 1)))] [(1, .box (Pack.enc false x86)), (3, rE 3 Fault.enc v160)] orcN ?_
      refine J_ren 3 0 (Nat.le_of_ble_eq_true rfl) (Nat.le_of_ble_eq_true rfl) ?_
      exact J_q (J_b (ih (v160, w64 (s147.2 + 1)))) rfl
    · refine J_if2 92 (fun h155 => ?_) (fun h155 => ?_)
      · refine J_bind (fun x156 h157 => ?_)
        refine J_bind (fun x158 h159 => ?_)
        refine J_g 1910674 [] [(0, sl 8 (Pack.enc false) a1), (1, sl 1 eI64 a2), (5, rr 3 x158), (6, iv s82.2), (7, pp 1), (10, iv s147.2)] [(1, .box (Pack.enc false x86)), (3, rE 3 Fault.enc x158)] (orcC 3 (x_ix (kk := .i64) 23 2 1 eI64 (.tmp 94) (.tmp 95) h157) (orcC 7 (x_bp 87 125 3 2 Fault.enc [({ Kind := 3, Pack := x156, At := s147.2 } : Fault)] [0] [(.tmp 99)] [.ag [iv 3, iv x156, iv s147.2]]) (orcC 8 (x_ap 87 87 125 125 3 24 3 0 2 Fault.enc (.tmp 93) (.tmp 100) h159) orcN))) ?_
        exact J_qw (J_j (jv160 x158)) rfl
      · refine J_ren 0 3 (Nat.le_of_ble_eq_true rfl) (Nat.le_of_ble_eq_true rfl) ?_
        exact J_qw (J_j (jv160 s147.1)) rfl
  · exact J_qw (hk s147.1) rfl

theorem spec_l3Faults_l2.ok (a1 : (List Pack)) (a2 : (List Int)) (s82 : ((List Fault) × Int)) (x86 : Pack) (q : Wd) (kn : (List Fault) → Option (D × List Ent)) (hk : ∀ v : (List Fault), J (q.g Try.prog 85 0 103) c85 (atI c85 7463) (St.mk' [(0, sl 8 (Pack.enc false) a1), (1, sl 1 eI64 a2), (5, rr 0 v), (6, iv s82.2), (7, pp 1)] [(0, rE 3 Fault.enc v), (1, .box (Pack.enc false x86))]) (some v) kn) :
    ∀ s121 : ((List Fault) × Int), J (q.g Try.prog 85 0 103) c85 (atI c85 59700) (St.mk' [(0, sl 8 (Pack.enc false) a1), (1, sl 1 eI64 a2), (5, rr 0 s121.1), (6, iv s82.2), (7, pp 1), (9, iv s121.2)] [(0, rE 3 Fault.enc s121.1), (1, .box (Pack.enc false x86))]) (spec_l3Faults_l2 a1 a2 s82 x86 s121) kn := by
  refine J_lp (fun g ih s121 => ?_)
  unfold spec_l3Faults_l2b
  refine J_g 238800 [] [(0, sl 8 (Pack.enc false) a1), (1, sl 1 eI64 a2), (5, rr 0 s121.1), (6, iv s82.2), (7, pp 1), (9, iv s121.2), (53, bv (decide (s121.2 < (x86.Needs.length : Int))))] [(0, rE 3 Fault.enc s121.1), (1, .box (Pack.enc false x86))] orcN ?_
  refine J_if2 53 (fun h122 => ?_) (fun h122 => ?_)
  · refine J_bind (fun x123 h124 => ?_)
    refine J_bind (fun x125 h126 => ?_)
    refine J_g 955208 [] [(0, sl 8 (Pack.enc false) a1), (1, sl 1 eI64 a2), (5, rr 0 s121.1), (6, iv s82.2), (7, pp 1), (9, iv s121.2), (64, bv (!x125))] [(0, rE 3 Fault.enc s121.1), (1, .box (Pack.enc false x86))] (orcC 5 (x_ix (kk := .i64) 63 64 1 (eSl false 7 Term.enc) (.tmp 59) (.tmp 60) h124) (orcC 7 (x_c0 [(.tmp 56), (.tmp 57), (.tmp 62)] [28, 23, 64] (spec_l3Met.ok a1 a2 x123) h126) orcN)) ?_
    refine J_join (aft c85 477604) (fun v132 : (List Fault) => St.mk' [(0, sl 8 (Pack.enc false) a1), (1, sl 1 eI64 a2), (5, rr 3 v132), (6, iv s82.2), (7, pp 1), (9, iv s121.2)] [(1, .box (Pack.enc false x86)), (3, rE 3 Fault.enc v132)]) (fun v132 => ?_) (fun jv132 => ?_)
    · refine J_g 238803 [] [(0, sl 8 (Pack.enc false) a1), (1, sl 1 eI64 a2), (5, rr 3 v132), (6, iv s82.2), (7, pp 1), (9, iv (w64 (s121.2 + 1)))] [(1, .box (Pack.enc false x86)), (3, rE 3 Fault.enc v132)] orcN ?_
      refine J_ren 3 0 (Nat.le_of_ble_eq_true rfl) (Nat.le_of_ble_eq_true rfl) ?_
      exact J_q (J_b (ih (v132, w64 (s121.2 + 1)))) rfl
    · refine J_if2 64 (fun h127 => ?_) (fun h127 => ?_)
      · refine J_bind (fun x128 h129 => ?_)
        refine J_bind (fun x130 h131 => ?_)
        refine J_g 1910418 [] [(0, sl 8 (Pack.enc false) a1), (1, sl 1 eI64 a2), (5, rr 3 x130), (6, iv s82.2), (7, pp 1), (9, iv s121.2)] [(1, .box (Pack.enc false x86)), (3, rE 3 Fault.enc x130)] (orcC 3 (x_ix (kk := .i64) 23 2 1 eI64 (.tmp 66) (.tmp 67) h129) (orcC 7 (x_bp 87 125 3 2 Fault.enc [({ Kind := 2, Pack := x128, At := s121.2 } : Fault)] [0] [(.tmp 71)] [.ag [iv 2, iv x128, iv s121.2]]) (orcC 8 (x_ap 87 87 125 125 3 24 3 0 2 Fault.enc (.tmp 65) (.tmp 72) h131) orcN))) ?_
        exact J_qw (J_j (jv132 x130)) rfl
      · refine J_ren 0 3 (Nat.le_of_ble_eq_true rfl) (Nat.le_of_ble_eq_true rfl) ?_
        exact J_qw (J_j (jv132 s121.1)) rfl
  · exact J_qw (hk s121.1) rfl

theorem spec_l3Faults_l1.ok (a1 : (List Pack)) (a2 : (List Int)) (s82 : ((List Fault) × Int)) (x86 : Pack) (q : Wd) (kn : (List Fault) → Option (D × List Ent)) (hk : ∀ v : (List Fault), J (q.g Try.prog 85 0 103) c85 (atI c85 3731) (St.mk' [(0, sl 8 (Pack.enc false) a1), (1, sl 1 eI64 a2), (5, rr 0 v), (6, iv s82.2), (7, pp 1)] [(0, rE 3 Fault.enc v), (1, .box (Pack.enc false x86))]) (some v) kn) :
    ∀ s98 : Int, J (q.g Try.prog 85 0 103) c85 (atI c85 29844) (St.mk' [(0, sl 8 (Pack.enc false) a1), (1, sl 1 eI64 a2), (5, rr 0 s82.1), (6, iv s82.2), (7, pp 1), (8, iv s98)] [(0, rE 3 Fault.enc s82.1), (1, .box (Pack.enc false x86))]) (spec_l3Faults_l1 a1 a2 s82 x86 s98) kn := by
  refine J_lp (fun g ih s98 => ?_)
  unfold spec_l3Faults_l1b
  refine J_g 119376 [] [(0, sl 8 (Pack.enc false) a1), (1, sl 1 eI64 a2), (5, rr 0 s82.1), (6, iv s82.2), (7, pp 1), (8, iv s98), (27, bv (decide (s98 < s82.2)))] [(0, rE 3 Fault.enc s82.1), (1, .box (Pack.enc false x86))] orcN ?_
  refine J_if2 27 (fun h99 => ?_) (fun h99 => ?_)
  · refine J_bind (fun x100 h101 => ?_)
    refine J_bind (fun x102 h103 => ?_)
    refine J_g 477512 [] [(0, sl 8 (Pack.enc false) a1), (1, sl 1 eI64 a2), (5, rr 0 s82.1), (6, iv s82.2), (7, pp 1), (8, iv s98), (40, bv (seq x102.Name x86.Name))] [(0, rE 3 Fault.enc s82.1), (1, .box (Pack.enc false x86))] (orcC 3 (x_ix (kk := .i64) 23 2 1 eI64 (.tmp 31) (.tmp 32) h101) (orcC 5 (x_ix (kk := .i64) 28 66 8 (Pack.enc false) (.tmp 30) (.tmp 34) h103) orcN)) ?_
    refine J_if2 40 (fun h104 => ?_) (fun h104 => ?_)
    · refine J_bind (fun x105 h106 => ?_)
      refine J_bind (fun x107 h108 => ?_)
      refine J_g 1910052 [] [(0, sl 8 (Pack.enc false) a1), (1, sl 1 eI64 a2), (5, rr 3 x107), (6, iv s82.2), (7, pp 1)] [(1, .box (Pack.enc false x86)), (3, rE 3 Fault.enc x107)] (orcC 3 (x_ix (kk := .i64) 23 2 1 eI64 (.tmp 42) (.tmp 43) h106) (orcC 6 (x_bp 87 125 3 2 Fault.enc [({ Kind := 1, Pack := x105, At := 0 } : Fault)] [0] [(.tmp 46)] [.ag [iv 1, iv x105, iv 0]]) (orcC 7 (x_ap 87 87 125 125 3 24 3 0 2 Fault.enc (.tmp 41) (.tmp 47) h108) orcN))) ?_
      refine J_ren 3 0 (Nat.le_of_ble_eq_true rfl) (Nat.le_of_ble_eq_true rfl) ?_
      exact J_qw (hk x107) rfl
    · refine J_g 119379 [] [(0, sl 8 (Pack.enc false) a1), (1, sl 1 eI64 a2), (5, rr 0 s82.1), (6, iv s82.2), (7, pp 1), (8, iv (w64 (s98 + 1)))] [(0, rE 3 Fault.enc s82.1), (1, .box (Pack.enc false x86))] orcN ?_
      exact J_q (J_b (ih (w64 (s98 + 1)))) rfl
  · exact J_qw (hk s82.1) rfl

theorem spec_l3Faults_l4.ok (a1 : (List Pack)) (a2 : (List Int)) (q : Wd) (kn : (List Fault) → Option (D × List Ent)) (hk : ∀ v : (List Fault), J (q.g Try.prog 85 0 103) c85 (atI c85 15) (St.mk' [(5, rr 0 v)] [(0, rE 3 Fault.enc v)]) (some v) kn) :
    ∀ s82 : ((List Fault) × Int), J (q.g Try.prog 85 0 103) c85 (atI c85 116) (St.mk' [(0, sl 8 (Pack.enc false) a1), (1, sl 1 eI64 a2), (5, rr 0 s82.1), (6, iv s82.2)] [(0, rE 3 Fault.enc s82.1)]) (spec_l3Faults_l4 a1 a2 s82) kn := by
  refine J_lp (fun g ih s82 => ?_)
  unfold spec_l3Faults_l4b
  refine J_g 464 [] [(0, sl 8 (Pack.enc false) a1), (1, sl 1 eI64 a2), (5, rr 0 s82.1), (6, iv s82.2), (15, bv (decide (s82.2 < (a2.length : Int))))] [(0, rE 3 Fault.enc s82.1)] orcN ?_
  refine J_if2 15 (fun h83 => ?_) (fun h83 => ?_)
  · refine J_bind (fun x84 h85 => ?_)
    refine J_bind (fun x86 h87 => ?_)
    refine J_g 1864 [(7, 1)] [(0, sl 8 (Pack.enc false) a1), (1, sl 1 eI64 a2), (5, rr 0 s82.1), (6, iv s82.2), (7, pp 1)] [(0, rE 3 Fault.enc s82.1), (1, .box (Pack.enc false x86))] (orcC 3 (x_ix (kk := .i64) 23 2 1 eI64 (.tmp 19) (.tmp 20) h85) (orcC 5 (x_ix (kk := .i64) 28 66 8 (Pack.enc false) (.tmp 18) (.tmp 22) h87) orcN)) ?_
    refine J_g 7460 [] [(0, sl 8 (Pack.enc false) a1), (1, sl 1 eI64 a2), (5, rr 0 s82.1), (6, iv s82.2), (7, pp 1), (8, iv 0)] [(0, rE 3 Fault.enc s82.1), (1, .box (Pack.enc false x86))] orcN ?_
    refine J_lq (spec_l3Faults_l1.ok a1 a2 s82 x86 q _ (fun v109 => J_j ?_) 0)
    refine J_g 14924 [] [(0, sl 8 (Pack.enc false) a1), (1, sl 1 eI64 a2), (5, rr 0 v109), (6, iv s82.2), (7, pp 1), (9, iv 0)] [(0, rE 3 Fault.enc v109), (1, .box (Pack.enc false x86))] orcN ?_
    refine J_lq (spec_l3Faults_l2.ok a1 a2 s82 x86 q _ (fun v133 => J_j ?_) (v109, 0))
    refine J_g 14926 [] [(0, sl 8 (Pack.enc false) a1), (1, sl 1 eI64 a2), (5, rr 0 v133), (6, iv s82.2), (7, pp 1), (10, iv 0)] [(0, rE 3 Fault.enc v133), (1, .box (Pack.enc false x86))] orcN ?_
    refine J_lq (spec_l3Faults_l3.ok a1 a2 s82 x86 q _ (fun v161 => J_j ?_) (v133, 0))
    refine J_g 467 [] [(0, sl 8 (Pack.enc false) a1), (1, sl 1 eI64 a2), (5, rr 0 v161), (6, iv (w64 (s82.2 + 1)))] [(0, rE 3 Fault.enc v161)] orcN ?_
    exact J_q (J_b (ih (v161, w64 (s82.2 + 1)))) rfl
  · exact J_qw (hk s82.1) rfl

theorem spec_l3Faults.ok (a1 : (List Pack)) (a2 : (List Int)) : Ok Try.prog 85 [sl 8 (Pack.enc false) a1, sl 1 eI64 a2] [] ((spec_l3Faults a1 a2).map fun r => (so 3 Fault.enc r, [])) := by
  refine Ok_of3 c85 Try.f85 0 103 (fun q => ?_)
  unfold spec_l3Faults
  refine J_g 2 [] [(0, sl 8 (Pack.enc false) a1), (1, sl 1 eI64 a2)] [] orcN ?_
  refine J_g 6 [] [(0, sl 8 (Pack.enc false) a1), (1, sl 1 eI64 a2), (5, rr 0 ([] : List Fault))] [(0, rE 3 Fault.enc ([] : List Fault))] (orcC 0 (x_bp 87 125 3 0 Fault.enc ([] : List Fault) [] [] []) orcN) ?_
  refine J_g 28 [] [(0, sl 8 (Pack.enc false) a1), (1, sl 1 eI64 a2), (5, rr 0 ([] : List Fault)), (6, iv 0)] [(0, rE 3 Fault.enc ([] : List Fault))] orcN ?_
  refine J_lq (spec_l3Faults_l4.ok a1 a2 q _ (fun v162 => J_j ?_) (([] : List Fault), 0))
  refine J_g 30 [] [(4, rr 0 v162)] [(0, rE 3 Fault.enc v162)] orcN ?_
  exact J_rm (ds := [rr 0 v162]) (ds' := [so 3 Fault.enc v162]) (.cons (.cell (.move (.head _) (List.length_map _) (by decide) (.nil))) (.nil) (by decide)) rfl

noncomputable def c47 : Code := (Try.f47.body).getD .skip

theorem spec_l3Good.ok (a1 : (List Pack)) (a2 : (List Int)) : Ok Try.prog 47 [sl 8 (Pack.enc false) a1, sl 1 eI64 a2] [] ((spec_l3Good a1 a2).map fun r => (bv r, [])) := by
  refine Ok_of3 c47 Try.f47 0 10 (fun q => ?_)
  unfold spec_l3Good
  refine J_g 2 [] [(0, sl 8 (Pack.enc false) a1), (1, sl 1 eI64 a2)] [] orcN ?_
  refine J_bind (fun x3 h4 => ?_)
  refine J_g 6 [] [(4, bv ((x3.length : Int) == 0))] [] (orcC 2 (x_c1 («as» := [sl 8 (Pack.enc false) a1, sl 1 eI64 a2]) [(.tmp 5), (.tmp 6)] [28, 23] false [] [] (.cons (.same rfl) (.cons (.same rfl) (.nil))) (spec_l3Faults.ok a1 a2) h4 (.own 0)) orcN) ?_
  exact J_r1 rfl

noncomputable def c27 : Code := (Try.f27.body).getD .skip

theorem spec_Consistent.ok (a1 : (List Pack)) (a2 : (List Int)) : Ok Try.prog 27 [sl 8 (Pack.enc false) a1, sl 1 eI64 a2] [] ((spec_Consistent a1 a2).map fun r => (bv r, [])) := by
  refine Ok_of3 c27 Try.f27 0 14 (fun q => ?_)
  unfold spec_Consistent
  refine J_g 2 [] [(0, sl 8 (Pack.enc false) a1), (1, sl 1 eI64 a2)] [] orcN ?_
  refine J_bind (fun x3 h4 => ?_)
  refine J_ite (fun h5 => ?_) (fun h5 => ?_)
  · refine J_bind (fun x6 h7 => ?_)
    refine J_g 6 [] [(4, bv x6)] [] (orcC 2 (x_c0 [(.tmp 5), (.tmp 6)] [28, 23] (spec_SetFault.ok a1 a2) h4) (orcL 4 [(8, bv (x3 == 0))] [] h5 (orcH 7 4 9 true (x_c0 [(.tmp 10), (.tmp 11)] [28, 23] (spec_l3Good.ok a1 a2) h7) orcN))) ?_
    exact J_r1 rfl
  · refine J_g 6 [] [(4, bv false)] [] (orcC 2 (x_c0 [(.tmp 5), (.tmp 6)] [28, 23] (spec_SetFault.ok a1 a2) h4) (orcL 4 [(8, bv (x3 == 0))] [] h5 orcN)) ?_
    exact J_r1 rfl

noncomputable def c28 : Code := (Try.f28.body).getD .skip

theorem spec_l6Same_l1.ok (a1 : (List Int)) (a2 : (List Int)) (q : Wd) (kn : Unit → Option (D × List Ent)) (hk : ∀ v : Unit, J (q.g Try.prog 28 0 26) c28 (atI c28 15) (St.mk' [] []) (some v) kn) :
    ∀ s10 : Int, J (q.g Try.prog 28 0 26) c28 (atI c28 116) (St.mk' [(0, sl 1 eI64 a1), (1, sl 1 eI64 a2), (5, iv s10)] []) (spec_l6Same_l1 a1 a2 s10) (Fl.go (fun r : Bool => some (bv r, [])) kn) := by
  refine J_lp (fun g ih s10 => ?_)
  unfold spec_l6Same_l1b
  refine J_g 464 [] [(0, sl 1 eI64 a1), (1, sl 1 eI64 a2), (5, iv s10), (14, bv (decide (s10 < (a1.length : Int))))] [] orcN ?_
  refine J_if2 14 (fun h11 => ?_) (fun h11 => ?_)
  · refine J_bind (fun x12 h13 => ?_)
    refine J_bind (fun x14 h15 => ?_)
    refine J_g 1864 [] [(0, sl 1 eI64 a1), (1, sl 1 eI64 a2), (5, iv s10), (25, bv (x12 != x14))] [] (orcC 2 (x_ix (kk := .i64) 23 2 1 eI64 (.tmp 17) (.tmp 18) h13) (orcC 6 (x_ix (kk := .i64) 23 2 1 eI64 (.tmp 21) (.tmp 22) h15) orcN)) ?_
    refine J_if2 25 (fun h16 => ?_) (fun h16 => ?_)
    · refine J_g 7460 [] [(4, bv false)] [] orcN ?_
      exact J_r1 rfl
    · refine J_g 467 [] [(0, sl 1 eI64 a1), (1, sl 1 eI64 a2), (5, iv (w64 (s10 + 1)))] [] orcN ?_
      exact J_q (J_b (ih (w64 (s10 + 1)))) rfl
  · exact J_qw (hk ()) rfl

theorem spec_l6Same.ok (a1 : (List Int)) (a2 : (List Int)) : Ok Try.prog 28 [sl 1 eI64 a1, sl 1 eI64 a2] [] ((spec_l6Same a1 a2).map fun r => (bv r, [])) := by
  refine Ok_of3 c28 Try.f28 0 26 (fun q => ?_)
  unfold spec_l6Same
  refine J_g 2 [] [(0, sl 1 eI64 a1), (1, sl 1 eI64 a2)] [] orcN ?_
  refine J_g 12 [] [(0, sl 1 eI64 a1), (1, sl 1 eI64 a2), (10, bv ((a1.length : Int) != (a2.length : Int)))] [] orcN ?_
  refine J_if2 10 (fun h3 => ?_) (fun h3 => ?_)
  · refine J_g 52 [] [(4, bv false)] [] orcN ?_
    exact J_r1 rfl
  · refine J_g 28 [] [(0, sl 1 eI64 a1), (1, sl 1 eI64 a2), (5, iv 0)] [] orcN ?_
    refine J_lqF (K0 := (fun r : Bool => some (bv r, []))) (fun _ => rfl) (spec_l6Same_l1.ok a1 a2 q _ (fun v17 => J_j ?_) 0)
    refine J_g 30 [] [(4, bv true)] [] orcN ?_
    exact J_r1 rfl

noncomputable def c7 : Code := (Try.f7.body).getD .skip

theorem spec_CheckPlan_l1.ok (a1 : (List Pack)) (a3 : (List (List Int))) (q : Wd) (kn : Unit → Option (D × List Ent)) (hk : ∀ v : Unit, J (q.g Try.prog 7 0 39) c7 (atI c7 31) (St.mk' [] []) (some v) kn) :
    ∀ s21 : ((List Int) × Int), J (q.g Try.prog 7 0 39) c7 (atI c7 244) (St.mk' [(0, sl 8 (Pack.enc false) a1), (2, sl 1 (eSl false 1 eI64) a3), (7, sl 1 eI64 s21.1), (8, iv s21.2)] []) (spec_CheckPlan_l1 a1 a3 s21) (Fl.go (fun r : Bool => some (bv r, [])) kn) := by
  refine J_lp (fun g ih s21 => ?_)
  unfold spec_CheckPlan_l1b
  refine J_g 976 [] [(0, sl 8 (Pack.enc false) a1), (2, sl 1 (eSl false 1 eI64) a3), (7, sl 1 eI64 s21.1), (8, iv s21.2), (17, bv (decide (s21.2 < (a3.length : Int))))] [] orcN ?_
  refine J_if2 17 (fun h22 => ?_) (fun h22 => ?_)
  · refine J_bind (fun x23 h24 => ?_)
    refine J_bind (fun x25 h26 => ?_)
    refine J_join (atI c7 7825) (fun v32 : Bool => St.mk' [(0, sl 8 (Pack.enc false) a1), (2, sl 1 (eSl false 1 eI64) a3), (8, iv s21.2), (34, bv v32)] []) (fun v32 => ?_) (fun jv32 => ?_)
    · refine J_if2 34 (fun h33 => ?_) (fun h33 => ?_)
      · refine J_g 31300 [] [(6, bv false)] [] orcN ?_
        exact J_r1 rfl
      · refine J_bind (fun x34 h35 => ?_)
        refine J_g 3913 [] [(0, sl 8 (Pack.enc false) a1), (2, sl 1 (eSl false 1 eI64) a3), (7, sl 1 eI64 x34), (8, iv s21.2)] [] (orcC 2 (x_ix (kk := .i64) 24 23 1 (eSl false 1 eI64) (.tmp 35) (.tmp 36) h35) orcN) ?_
        refine J_g 979 [] [(0, sl 8 (Pack.enc false) a1), (2, sl 1 (eSl false 1 eI64) a3), (7, sl 1 eI64 x34), (8, iv (w64 (s21.2 + 1)))] [] orcN ?_
        exact J_q (J_b (ih (x34, w64 (s21.2 + 1)))) rfl
    · refine J_ite (fun h27 => ?_) (fun h27 => ?_)
      · refine J_g 7824 [] [(0, sl 8 (Pack.enc false) a1), (2, sl 1 (eSl false 1 eI64) a3), (8, iv s21.2), (34, bv true)] [] (orcC 3 (x_ix (kk := .i64) 24 23 1 (eSl false 1 eI64) (.tmp 21) (.tmp 22) h24) (orcC 5 (x_c0 [(.tmp 20), (.tmp 24)] [28, 23] (spec_Consistent.ok a1 x23) h26) (orcL 7 [(26, bv (!x25))] [] h27 orcN))) ?_
        exact J_qw (J_j (jv32 true)) rfl
      · refine J_bind (fun x28 h29 => ?_)
        refine J_bind (fun x30 h31 => ?_)
        refine J_g 7824 [] [(0, sl 8 (Pack.enc false) a1), (2, sl 1 (eSl false 1 eI64) a3), (8, iv s21.2), (34, bv x30)] [] (orcC 3 (x_ix (kk := .i64) 24 23 1 (eSl false 1 eI64) (.tmp 21) (.tmp 22) h24) (orcC 5 (x_c0 [(.tmp 20), (.tmp 24)] [28, 23] (spec_Consistent.ok a1 x23) h26) (orcL 7 [(26, bv (!x25))] [] h27 (orcH 11 7 27 false (x_ix (kk := .i64) 24 23 1 (eSl false 1 eI64) (.tmp 29) (.tmp 30) h29) (orcH 13 7 27 false (x_c0 [(.tmp 28), (.tmp 32)] [23, 23] (spec_l6Same.ok s21.1 x28) h31) orcN))))) ?_
        exact J_qw (J_j (jv32 x30)) rfl
  · exact J_qw (hk ()) rfl

theorem spec_CheckPlan.ok (a1 : (List Pack)) (a2 : (List Int)) (a3 : (List (List Int))) : Ok Try.prog 7 [sl 8 (Pack.enc false) a1, sl 1 eI64 a2, sl 1 (eSl false 1 eI64) a3] [] ((spec_CheckPlan a1 a2 a3).map fun r => (bv r, [])) := by
  refine Ok_of3 c7 Try.f7 0 39 (fun q => ?_)
  unfold spec_CheckPlan
  refine J_g 2 [] [(0, sl 8 (Pack.enc false) a1), (1, sl 1 eI64 a2), (2, sl 1 (eSl false 1 eI64) a3)] [] orcN ?_
  refine J_bind (fun x4 h5 => ?_)
  refine J_g 12 [] [(0, sl 8 (Pack.enc false) a1), (1, sl 1 eI64 a2), (2, sl 1 (eSl false 1 eI64) a3), (12, bv (!x4))] [] (orcC 2 (x_c0 [(.tmp 9), (.tmp 10)] [28, 23] (spec_Consistent.ok a1 a2) h5) orcN) ?_
  refine J_if2 12 (fun h6 => ?_) (fun h6 => ?_)
  · refine J_g 52 [] [(6, bv false)] [] orcN ?_
    exact J_r1 rfl
  · refine J_g 14 [] [(0, sl 8 (Pack.enc false) a1), (2, sl 1 (eSl false 1 eI64) a3), (7, sl 1 eI64 a2)] [] orcN ?_
    refine J_g 60 [] [(0, sl 8 (Pack.enc false) a1), (2, sl 1 (eSl false 1 eI64) a3), (7, sl 1 eI64 a2), (8, iv 0)] [] orcN ?_
    refine J_lqF (K0 := (fun r : Bool => some (bv r, []))) (fun _ => rfl) (spec_CheckPlan_l1.ok a1 a3 q _ (fun v36 => J_j ?_) (a2, 0))
    refine J_g 62 [] [(6, bv true)] [] orcN ?_
    exact J_r1 rfl

noncomputable def c103 : Code := (Try.f103.body).getD .skip

theorem impl_isNameByte.ok (a1 : Int) : Ok Try.prog 103 [uv a1] [] ((impl_isNameByte a1).map fun r => (bv r, [])) := by
  refine Ok_of3 c103 Try.f103 0 21 (fun q => ?_)
  unfold impl_isNameByte
  refine J_g 2 [] [(0, uv a1)] [] orcN ?_
  refine J_ite (fun h2 => ?_) (fun h2 => ?_)
  · refine J_ite (fun h3 => ?_) (fun h3 => ?_)
    · refine J_g 6 [] [(2, bv true)] [] (orcL 2 [(4, bv (decide (a1 ≥ 97)))] [] h2 (orcL 6 [(8, bv (decide (a1 ≤ 122)))] [] h3 (orcV 9 (orcU (i := 9) (g := 6) (t := 9) (b := false) (v := (.bool true)) (.inl rfl) (by kernel_rfl) (by kernel_rfl)) (orcV 10 (orcU (i := 10) (g := 9) (t := 12) (b := true) (v := undef) (.inr rfl) (by kernel_rfl) (by kernel_rfl)) (orcV 11 (orcU (i := 11) (g := 9) (t := 12) (b := true) (v := undef) (.inr rfl) (by kernel_rfl) (by kernel_rfl)) orcN))))) ?_
      exact J_r1 rfl
    · refine J_ite (fun h4 => ?_) (fun h4 => ?_)
      · refine J_ite (fun h5 => ?_) (fun h5 => ?_)
        · refine J_g 6 [] [(2, bv true)] [] (orcL 2 [(4, bv (decide (a1 ≥ 97)))] [] h2 (orcL 6 [(8, bv (decide (a1 ≤ 122)))] [] h3 (orcLG 9 6 9 false [(11, bv (decide (a1 ≥ 48)))] [] h4 (orcL 14 [(16, bv (decide (a1 ≤ 57)))] [] h5 orcN)))) ?_
          exact J_r1 rfl
        · refine J_g 6 [] [(2, bv (a1 == 95))] [] (orcL 2 [(4, bv (decide (a1 ≥ 97)))] [] h2 (orcL 6 [(8, bv (decide (a1 ≤ 122)))] [] h3 (orcLG 9 6 9 false [(11, bv (decide (a1 ≥ 48)))] [] h4 (orcL 14 [(16, bv (decide (a1 ≤ 57)))] [] h5 orcN)))) ?_
          exact J_r1 rfl
      · refine J_g 6 [] [(2, bv (a1 == 95))] [] (orcL 2 [(4, bv (decide (a1 ≥ 97)))] [] h2 (orcL 6 [(8, bv (decide (a1 ≤ 122)))] [] h3 (orcLG 9 6 9 false [(11, bv (decide (a1 ≥ 48)))] [] h4 orcN))) ?_
        exact J_r1 rfl
  · refine J_ite (fun h6 => ?_) (fun h6 => ?_)
    · refine J_ite (fun h7 => ?_) (fun h7 => ?_)
      · refine J_g 6 [] [(2, bv true)] [] (orcL 2 [(4, bv (decide (a1 ≥ 97)))] [] h2 (orcLG 9 6 9 false [(11, bv (decide (a1 ≥ 48)))] [] h6 (orcL 14 [(16, bv (decide (a1 ≤ 57)))] [] h7 orcN))) ?_
        exact J_r1 rfl
      · refine J_g 6 [] [(2, bv (a1 == 95))] [] (orcL 2 [(4, bv (decide (a1 ≥ 97)))] [] h2 (orcLG 9 6 9 false [(11, bv (decide (a1 ≥ 48)))] [] h6 (orcL 14 [(16, bv (decide (a1 ≤ 57)))] [] h7 orcN))) ?_
        exact J_r1 rfl
    · refine J_g 6 [] [(2, bv (a1 == 95))] [] (orcL 2 [(4, bv (decide (a1 ≥ 97)))] [] h2 (orcLG 9 6 9 false [(11, bv (decide (a1 ≥ 48)))] [] h6 orcN)) ?_
      exact J_r1 rfl

noncomputable def c117 : Code := (Try.f117.body).getD .skip

theorem impl_NameFault_l1.ok (a1 : ByteArray) (q : Wd) (kn : Unit → Option (D × List Ent)) (hk : ∀ v : Unit, J (q.g Try.prog 117 0 33) c117 (atI c117 15) (St.mk' [] []) (some v) kn) :
    ∀ s17 : Int, J (q.g Try.prog 117 0 33) c117 (atI c117 116) (St.mk' [(0, sv a1), (23, iv (a1.size : Int)), (24, iv s17)] []) (impl_NameFault_l1 a1 s17) (Fl.go (fun r : Int => some (iv r, [])) kn) := by
  refine J_lp (fun g ih s17 => ?_)
  unfold impl_NameFault_l1b
  refine J_g 232 [] [(0, sv a1), (23, iv (a1.size : Int)), (24, iv s17), (25, bv (decide (s17 < (a1.size : Int))))] [] orcN ?_
  refine J_if2 25 (fun h18 => ?_) (fun h18 => ?_)
  · refine J_g 3736 [] [(0, sv a1), (3, iv s17), (23, iv (a1.size : Int)), (24, iv s17)] [] orcN ?_
    refine J_bind (fun x19 h20 => ?_)
    refine J_bind (fun x21 h22 => ?_)
    refine J_g 7474 [] [(0, sv a1), (23, iv (a1.size : Int)), (24, iv s17), (31, bv (!x21))] [] (orcC 2 (x_bi (kk := .i64) 9 (.tmp 27) (.tmp 28) h20) (orcC 3 (x_c0 [(.tmp 29)] [5] (impl_isNameByte.ok x19) h22) orcN)) ?_
    refine J_if2 31 (fun h23 => ?_) (fun h23 => ?_)
    · refine J_g 29900 [] [(2, iv 5)] [] orcN ?_
      exact J_r1 rfl
    · refine J_g 935 [] [(0, sv a1), (23, iv (a1.size : Int)), (24, iv (w64 (s17 + 1)))] [] orcN ?_
      exact J_q (J_b (ih (w64 (s17 + 1)))) rfl
  · exact J_qw (hk ()) rfl

theorem impl_NameFault.ok (a1 : ByteArray) : Ok Try.prog 117 [sv a1] [] ((impl_NameFault a1).map fun r => (iv r, [])) := by
  refine Ok_of3 c117 Try.f117 0 33 (fun q => ?_)
  unfold impl_NameFault
  refine J_g 2 [] [(0, sv a1)] [] orcN ?_
  refine J_join (atI c117 13) (fun v9 : Bool => St.mk' [(0, sv a1), (21, bv v9)] []) (fun v9 => ?_) (fun jv9 => ?_)
  · refine J_if2 21 (fun h10 => ?_) (fun h10 => ?_)
    · refine J_g 52 [] [(2, iv 5)] [] orcN ?_
      exact J_r1 rfl
    · refine J_g 28 [] [(0, sv a1), (23, iv (a1.size : Int)), (24, iv 0)] [] orcN ?_
      refine J_lqF (K0 := (fun r : Int => some (iv r, []))) (fun _ => rfl) (impl_NameFault_l1.ok a1 q _ (fun v24 => J_j ?_) 0)
      refine J_g 30 [] [(2, iv 0)] [] orcN ?_
      exact J_r1 rfl
  · refine J_ite (fun h2 => ?_) (fun h2 => ?_)
    · refine J_g 12 [] [(0, sv a1), (21, bv true)] [] (orcL 3 [(6, bv (decide ((a1.size : Int) < 1)))] [] h2 orcN) ?_
      exact J_qw (J_j (jv9 true)) rfl
    · refine J_ite (fun h3 => ?_) (fun h3 => ?_)
      · refine J_g 12 [] [(0, sv a1), (21, bv true)] [] (orcL 3 [(6, bv (decide ((a1.size : Int) < 1)))] [] h2 (orcL 8 [(11, bv (decide ((a1.size : Int) > 12)))] [] h3 orcN)) ?_
        exact J_qw (J_j (jv9 true)) rfl
      · refine J_bind (fun x4 h5 => ?_)
        refine J_ite (fun h6 => ?_) (fun h6 => ?_)
        · refine J_g 12 [] [(0, sv a1), (21, bv true)] [] (orcL 3 [(6, bv (decide ((a1.size : Int) < 1)))] [] h2 (orcL 8 [(11, bv (decide ((a1.size : Int) > 12)))] [] h3 (orcH 10 8 12 false (x_bi (kk := .i64) 9 (.tmp 13) (.const (.int .i64 0)) h5) (orcL 13 [(16, bv (decide (x4 < 97)))] [] h6 orcN)))) ?_
          exact J_qw (J_j (jv9 true)) rfl
        · refine J_bind (fun x7 h8 => ?_)
          refine J_g 12 [] [(0, sv a1), (21, bv (decide (x7 > 122)))] [] (orcL 3 [(6, bv (decide ((a1.size : Int) < 1)))] [] h2 (orcL 8 [(11, bv (decide ((a1.size : Int) > 12)))] [] h3 (orcH 10 8 12 false (x_bi (kk := .i64) 9 (.tmp 13) (.const (.int .i64 0)) h5) (orcL 13 [(16, bv (decide (x4 < 97)))] [] h6 (orcH 15 13 17 false (x_bi (kk := .i64) 9 (.tmp 18) (.const (.int .i64 0)) h8) orcN))))) ?_
          exact J_qw (J_j (jv9 (decide (x7 > 122)))) rfl

noncomputable def c68 : Code := (Try.f68.body).getD .skip

theorem impl_within.ok (a1 : Int) (a2 : Int) (a3 : Int) : Ok Try.prog 68 [iv a1, iv a2, iv a3] [] ((impl_within a1 a2 a3).map fun r => (bv r, [])) := by
  refine Ok_of3 c68 Try.f68 0 15 (fun q => ?_)
  unfold impl_within
  refine J_g 2 [] [(0, iv a1), (1, iv a2), (2, iv a3)] [] orcN ?_
  refine J_ite (fun h4 => ?_) (fun h4 => ?_)
  · refine J_g 6 [] [(6, bv (decide (a1 ≤ a3)))] [] (orcL 3 [(9, bv (decide (a2 ≤ a1)))] [] h4 orcN) ?_
    exact J_r1 rfl
  · refine J_g 6 [] [(6, bv false)] [] (orcL 3 [(9, bv (decide (a2 ≤ a1)))] [] h4 orcN) ?_
    exact J_r1 rfl

noncomputable def c118 : Code := (Try.f118.body).getD .skip

theorem impl_VersionFault.ok (a1 : Version) : Ok Try.prog 118 [.ag (Version.enc a1)] [] ((impl_VersionFault a1).map fun r => (iv r, [])) := by
  refine Ok_of3 c118 Try.f118 0 19 (fun q => ?_)
  unfold impl_VersionFault
  refine J_g 2 [(0, 0)] [(1, pp 0)] [(0, .box (Version.enc a1))] orcN ?_
  refine J_bind (fun x2 h3 => ?_)
  refine J_join (atI c118 13) (fun v10 : Bool => St.mk' [(18, bv v10)] []) (fun v10 => ?_) (fun jv10 => ?_)
  · refine J_if2 18 (fun h11 => ?_) (fun h11 => ?_)
    · refine J_g 52 [] [(2, iv 3)] [] orcN ?_
      exact J_r1 rfl
    · refine J_g 14 [] [(2, iv 0)] [] orcN ?_
      exact J_r1 rfl
  · refine J_ite (fun h4 => ?_) (fun h4 => ?_)
    · refine J_g 12 [] [(18, bv true)] [] (orcC 2 (x_c0 [(.tmp 4), (.const (.int .i64 0)), (.const (.int .i64 999))] [2, 2, 2] (impl_within.ok a1.A 0 999) h3) (orcL 4 [(6, bv (!x2))] [] h4 orcN)) ?_
      exact J_qw (J_j (jv10 true)) rfl
    · refine J_bind (fun x5 h6 => ?_)
      refine J_ite (fun h7 => ?_) (fun h7 => ?_)
      · refine J_g 12 [] [(18, bv true)] [] (orcC 2 (x_c0 [(.tmp 4), (.const (.int .i64 0)), (.const (.int .i64 999))] [2, 2, 2] (impl_within.ok a1.A 0 999) h3) (orcL 4 [(6, bv (!x2))] [] h4 (orcH 7 4 7 false (x_c0 [(.tmp 9), (.const (.int .i64 0)), (.const (.int .i64 999))] [2, 2, 2] (impl_within.ok a1.B 0 999) h6) (orcL 10 [(12, bv (!x5))] [] h7 orcN)))) ?_
        exact J_qw (J_j (jv10 true)) rfl
      · refine J_bind (fun x8 h9 => ?_)
        refine J_g 12 [] [(18, bv (!x8))] [] (orcC 2 (x_c0 [(.tmp 4), (.const (.int .i64 0)), (.const (.int .i64 999))] [2, 2, 2] (impl_within.ok a1.A 0 999) h3) (orcL 4 [(6, bv (!x2))] [] h4 (orcH 7 4 7 false (x_c0 [(.tmp 9), (.const (.int .i64 0)), (.const (.int .i64 999))] [2, 2, 2] (impl_within.ok a1.B 0 999) h6) (orcL 10 [(12, bv (!x5))] [] h7 (orcH 13 10 13 false (x_c0 [(.tmp 15), (.const (.int .i64 0)), (.const (.int .i64 999))] [2, 2, 2] (impl_within.ok a1.C 0 999) h9) orcN))))) ?_
        exact J_qw (J_j (jv10 (!x8))) rfl

noncomputable def c116 : Code := (Try.f116.body).getD .skip

theorem impl_firstCode_l1.ok (a1 : (List Int)) (q : Wd) (kn : Unit → Option (D × List Ent)) (hk : ∀ v : Unit, J (q.g Try.prog 116 0 15) c116 (atI c116 7) (St.mk' [] []) (some v) kn) :
    ∀ s6 : Int, J (q.g Try.prog 116 0 15) c116 (atI c116 52) (St.mk' [(5, sl 1 eI64 a1), (6, iv (a1.length : Int)), (7, iv s6)] []) (impl_firstCode_l1 a1 s6) (Fl.go (fun r : Int => some (iv r, [])) kn) := by
  refine J_lp (fun g ih s6 => ?_)
  unfold impl_firstCode_l1b
  refine J_g 104 [] [(5, sl 1 eI64 a1), (6, iv (a1.length : Int)), (7, iv s6), (8, bv (decide (s6 < (a1.length : Int))))] [] orcN ?_
  refine J_if2 8 (fun h7 => ?_) (fun h7 => ?_)
  · refine J_bind (fun x8 h9 => ?_)
    refine J_g 1688 [] [(4, iv x8), (5, sl 1 eI64 a1), (6, iv (a1.length : Int)), (7, iv s6)] [] (orcC 0 (x_ix (kk := .i64) 23 2 1 eI64 (.tmp 5) (.tmp 7) h9) orcN) ?_
    refine J_g 3378 [] [(4, iv x8), (5, sl 1 eI64 a1), (6, iv (a1.length : Int)), (7, iv s6), (12, bv (x8 != 0))] [] orcN ?_
    refine J_if2 12 (fun h10 => ?_) (fun h10 => ?_)
    · refine J_g 13516 [] [(2, iv x8)] [] orcN ?_
      exact J_r1 rfl
    · refine J_g 423 [] [(5, sl 1 eI64 a1), (6, iv (a1.length : Int)), (7, iv (w64 (s6 + 1)))] [] orcN ?_
      exact J_q (J_b (ih (w64 (s6 + 1)))) rfl
  · exact J_qw (hk ()) rfl

theorem impl_firstCode.ok (a1 : (List Int)) : Ok Try.prog 116 [sl 1 eI64 a1] [] ((impl_firstCode a1).map fun r => (iv r, [])) := by
  refine Ok_of3 c116 Try.f116 0 15 (fun q => ?_)
  unfold impl_firstCode
  refine J_g 2 [] [(0, sl 1 eI64 a1)] [] orcN ?_
  refine J_g 12 [] [(5, sl 1 eI64 a1), (6, iv (a1.length : Int)), (7, iv 0)] [] orcN ?_
  refine J_lqF (K0 := (fun r : Int => some (iv r, []))) (fun _ => rfl) (impl_firstCode_l1.ok a1 q _ (fun v11 => J_j ?_) 0)
  refine J_g 14 [] [(2, iv 0)] [] orcN ?_
  exact J_r1 rfl

noncomputable def c120 : Code := (Try.f120.body).getD .skip

theorem impl_PackFault_1.ok (a1 : (List Term)) : Ok Try.prog 120 [sl 7 Term.enc a1] [] ((impl_PackFault_1 a1).map fun r => (bv r, [])) := by
  refine Ok_of3 c120 Try.f120 0 6 (fun q => ?_)
  unfold impl_PackFault_1
  refine J_g 2 [] [(0, sl 7 Term.enc a1)] [] orcN ?_
  refine J_g 6 [] [(2, bv (decide ((a1.length : Int) > 4)))] [] orcN ?_
  exact J_r1 rfl

noncomputable def c153 : Code := (Try.f153.body).getD .skip

theorem slices_IndexFunc_LLimplTerm_impl_PackFault_1_l1.ok (a1 : (List (List Term))) (q : Wd) (kn : Unit → Option (D × List Ent)) (hk : ∀ v : Unit, J (q.g Try.prog 153 0 19) c153 (atI c153 7) (St.mk' [] []) (some v) kn) :
    ∀ s8 : Int, J (q.g Try.prog 153 0 19) c153 (atI c153 52) (St.mk' [(0, sl 1 (eSl false 7 Term.enc) a1), (1, .fn 120 []), (7, iv (a1.length : Int)), (8, iv s8)] []) (slices_IndexFunc_LLimplTerm_impl_PackFault_1_l1 a1 s8) (Fl.go (fun r : Int => some (iv r, [])) kn) := by
  refine J_lp (fun g ih s8 => ?_)
  unfold slices_IndexFunc_LLimplTerm_impl_PackFault_1_l1b
  refine J_g 104 [] [(0, sl 1 (eSl false 7 Term.enc) a1), (1, .fn 120 []), (7, iv (a1.length : Int)), (8, iv s8), (9, bv (decide (s8 < (a1.length : Int))))] [] orcN ?_
  refine J_if2 9 (fun h9 => ?_) (fun h9 => ?_)
  · refine J_g 1688 [] [(0, sl 1 (eSl false 7 Term.enc) a1), (1, .fn 120 []), (5, iv s8), (7, iv (a1.length : Int)), (8, iv s8)] [] orcN ?_
    refine J_bind (fun x10 h11 => ?_)
    refine J_bind (fun x12 h13 => ?_)
    refine J_g 3378 [] [(0, sl 1 (eSl false 7 Term.enc) a1), (1, .fn 120 []), (5, iv s8), (7, iv (a1.length : Int)), (8, iv s8), (16, bv x12)] [] (orcC 3 (x_ix (kk := .i64) 63 64 1 (eSl false 7 Term.enc) (.tmp 12) (.tmp 13) h11) (orcC 5 (x_c0v («as» := [sl 7 Term.enc x10]) (caps := []) 11 [(.tmp 15)] [64] (impl_PackFault_1.ok x10) h13) orcN)) ?_
    refine J_if2 16 (fun h14 => ?_) (fun h14 => ?_)
    · refine J_g 13516 [] [(4, iv s8)] [] orcN ?_
      exact J_r1 rfl
    · refine J_g 423 [] [(0, sl 1 (eSl false 7 Term.enc) a1), (1, .fn 120 []), (7, iv (a1.length : Int)), (8, iv (w64 (s8 + 1)))] [] orcN ?_
      exact J_q (J_b (ih (w64 (s8 + 1)))) rfl
  · exact J_qw (hk ()) rfl

theorem slices_IndexFunc_LLimplTerm_impl_PackFault_1.ok (a1 : (List (List Term))) : Ok Try.prog 153 [sl 1 (eSl false 7 Term.enc) a1, .fn 120 []] [] ((slices_IndexFunc_LLimplTerm_impl_PackFault_1 a1).map fun r => (iv r, [])) := by
  refine Ok_of3 c153 Try.f153 0 19 (fun q => ?_)
  unfold slices_IndexFunc_LLimplTerm_impl_PackFault_1
  refine J_g 2 [] [(0, sl 1 (eSl false 7 Term.enc) a1), (1, .fn 120 [])] [] orcN ?_
  refine J_g 12 [] [(0, sl 1 (eSl false 7 Term.enc) a1), (1, .fn 120 []), (7, iv (a1.length : Int)), (8, iv 0)] [] orcN ?_
  refine J_lqF (K0 := (fun r : Int => some (iv r, []))) (fun _ => rfl) (slices_IndexFunc_LLimplTerm_impl_PackFault_1_l1.ok a1 q _ (fun v15 => J_j ?_) 0)
  refine J_g 14 [] [(4, iv (-1))] [] orcN ?_
  exact J_r1 rfl

noncomputable def c119 : Code := (Try.f119.body).getD .skip

theorem slices_ContainsFunc_LLimplTerm_impl_PackFault_1.ok (a1 : (List (List Term))) : Ok Try.prog 119 [sl 1 (eSl false 7 Term.enc) a1, .fn 120 []] [] ((slices_ContainsFunc_LLimplTerm_impl_PackFault_1 a1).map fun r => (bv r, [])) := by
  refine Ok_of3 c119 Try.f119 0 9 (fun q => ?_)
  unfold slices_ContainsFunc_LLimplTerm_impl_PackFault_1
  refine J_g 2 [] [(0, sl 1 (eSl false 7 Term.enc) a1), (1, .fn 120 [])] [] orcN ?_
  refine J_bind (fun x2 h3 => ?_)
  refine J_g 6 [] [(4, bv (decide (x2 ≥ 0)))] [] (orcC 2 (x_c1 («as» := [sl 1 (eSl false 7 Term.enc) a1, .fn 120 []]) [(.tmp 5), (.tmp 6)] [63, 126] false [] [] (.cons (.same rfl) (.cons (.fn (.nil)) (.nil))) (slices_IndexFunc_LLimplTerm_impl_PackFault_1.ok a1) h3 (.same rfl rfl)) orcN) ?_
  exact J_r1 rfl

noncomputable def c154 : Code := (Try.f154.body).getD .skip

theorem slices_Index_Lstring_l1.ok (a1 : (List ByteArray)) (a2 : ByteArray) (q : Wd) (kn : Unit → Option (D × List Ent)) (hk : ∀ v : Unit, J (q.g Try.prog 154 0 19) c154 (atI c154 7) (St.mk' [] []) (some v) kn) :
    ∀ s7 : Int, J (q.g Try.prog 154 0 19) c154 (atI c154 52) (St.mk' [(0, sl 1 eStr a1), (1, sv a2), (7, iv (a1.length : Int)), (8, iv s7)] []) (slices_Index_Lstring_l1 a1 a2 s7) (Fl.go (fun r : Int => some (iv r, [])) kn) := by
  refine J_lp (fun g ih s7 => ?_)
  unfold slices_Index_Lstring_l1b
  refine J_g 104 [] [(0, sl 1 eStr a1), (1, sv a2), (7, iv (a1.length : Int)), (8, iv s7), (9, bv (decide (s7 < (a1.length : Int))))] [] orcN ?_
  refine J_if2 9 (fun h8 => ?_) (fun h8 => ?_)
  · refine J_g 1688 [] [(0, sl 1 eStr a1), (1, sv a2), (5, iv s7), (7, iv (a1.length : Int)), (8, iv s7)] [] orcN ?_
    refine J_bind (fun x9 h10 => ?_)
    refine J_g 3378 [] [(0, sl 1 eStr a1), (1, sv a2), (5, iv s7), (7, iv (a1.length : Int)), (8, iv s7), (16, bv (seq a2 x9))] [] (orcC 3 (x_ix (kk := .i64) 56 9 1 eStr (.tmp 12) (.tmp 13) h10) orcN) ?_
    refine J_if2 16 (fun h11 => ?_) (fun h11 => ?_)
    · refine J_g 13516 [] [(4, iv s7)] [] orcN ?_
      exact J_r1 rfl
    · refine J_g 423 [] [(0, sl 1 eStr a1), (1, sv a2), (7, iv (a1.length : Int)), (8, iv (w64 (s7 + 1)))] [] orcN ?_
      exact J_q (J_b (ih (w64 (s7 + 1)))) rfl
  · exact J_qw (hk ()) rfl

theorem slices_Index_Lstring.ok (a1 : (List ByteArray)) (a2 : ByteArray) : Ok Try.prog 154 [sl 1 eStr a1, sv a2] [] ((slices_Index_Lstring a1 a2).map fun r => (iv r, [])) := by
  refine Ok_of3 c154 Try.f154 0 19 (fun q => ?_)
  unfold slices_Index_Lstring
  refine J_g 2 [] [(0, sl 1 eStr a1), (1, sv a2)] [] orcN ?_
  refine J_g 12 [] [(0, sl 1 eStr a1), (1, sv a2), (7, iv (a1.length : Int)), (8, iv 0)] [] orcN ?_
  refine J_lqF (K0 := (fun r : Int => some (iv r, []))) (fun _ => rfl) (slices_Index_Lstring_l1.ok a1 a2 q _ (fun v12 => J_j ?_) 0)
  refine J_g 14 [] [(4, iv (-1))] [] orcN ?_
  exact J_r1 rfl

noncomputable def c121 : Code := (Try.f121.body).getD .skip

theorem slices_Contains_Lstring.ok (a1 : (List ByteArray)) (a2 : ByteArray) : Ok Try.prog 121 [sl 1 eStr a1, sv a2] [] ((slices_Contains_Lstring a1 a2).map fun r => (bv r, [])) := by
  refine Ok_of3 c121 Try.f121 0 9 (fun q => ?_)
  unfold slices_Contains_Lstring
  refine J_g 2 [] [(0, sl 1 eStr a1), (1, sv a2)] [] orcN ?_
  refine J_bind (fun x3 h4 => ?_)
  refine J_g 6 [] [(4, bv (decide (x3 ≥ 0)))] [] (orcC 2 (x_c0 [(.tmp 5), (.tmp 6)] [56, 9] (slices_Index_Lstring.ok a1 a2) h4) orcN) ?_
  exact J_r1 rfl

noncomputable def c173 : Code := (Try.f173.body).getD .skip

theorem impl_top.ok  : Ok Try.prog 173 [] [] ((impl_top).map fun r => (.ag (Version.enc r), [])) := by
  refine Ok_of3 c173 Try.f173 0 2 (fun q => ?_)
  unfold impl_top
  refine J_g 2 [(0, 0)] [(0, pp 0)] [(0, .box [iv 0, iv 0, iv 0])] orcN ?_
  refine J_g 6 [] [(0, pp 0)] [(0, .box [iv 1000, iv 0, iv 0])] orcN ?_
  exact J_r1 rfl

noncomputable def c169 : Code := (Try.f169.body).getD .skip

theorem cmp_isNaN_int64.ok (a1 : Int) : Ok Try.prog 169 [iv a1] [] ((cmp_isNaN_int64 a1).map fun r => (bv r, [])) := by
  refine Ok_of3 c169 Try.f169 0 6 (fun q => ?_)
  unfold cmp_isNaN_int64
  refine J_g 2 [] [(0, iv a1)] [] orcN ?_
  refine J_g 6 [] [(2, bv (a1 != a1))] [] orcN ?_
  exact J_r1 rfl

noncomputable def c175 : Code := (Try.f175.body).getD .skip

theorem cmp_Compare_int64.ok (a1 : Int) (a2 : Int) : Ok Try.prog 175 [iv a1, iv a2] [] ((cmp_Compare_int64 a1 a2).map fun r => (iv r, [])) := by
  refine Ok_of3 c175 Try.f175 0 20 (fun q => ?_)
  unfold cmp_Compare_int64
  refine J_g 2 [] [(0, iv a1), (1, iv a2)] [] orcN ?_
  refine J_bind (fun x3 h4 => ?_)
  refine J_g 6 [] [(0, iv a1), (1, iv a2), (5, bv x3)] [] (orcC 1 (x_c0 [(.tmp 7)] [2] (cmp_isNaN_int64.ok a1) h4) orcN) ?_
  refine J_bind (fun x5 h6 => ?_)
  refine J_g 14 [] [(0, iv a1), (1, iv a2), (5, bv x3), (6, bv x5)] [] (orcC 1 (x_c0 [(.tmp 9)] [2] (cmp_isNaN_int64.ok a2) h6) orcN) ?_
  refine J_g 60 [] [(0, iv a1), (1, iv a2), (6, bv x5), (11, bv x3)] [] orcN ?_
  refine J_if2 11 (fun h7 => ?_) (fun h7 => ?_)
  · refine J_g 488 [] [(12, bv x5)] [] orcN ?_
    refine J_if2 12 (fun h8 => ?_) (fun h8 => ?_)
    · refine J_g 1956 [] [(4, iv 0)] [] orcN ?_
      exact J_r1 rfl
    · refine J_g 490 [] [(4, iv (-1))] [] orcN ?_
      exact J_r1 rfl
  · refine J_g 124 [] [(0, iv a1), (1, iv a2), (13, bv x5)] [] orcN ?_
    refine J_if2 13 (fun h9 => ?_) (fun h9 => ?_)
    · refine J_g 500 [] [(4, iv 1)] [] orcN ?_
      exact J_r1 rfl
    · refine J_g 252 [] [(0, iv a1), (1, iv a2), (16, bv (decide (a1 < a2)))] [] orcN ?_
      refine J_if2 16 (fun h10 => ?_) (fun h10 => ?_)
      · refine J_g 1012 [] [(4, iv (-1))] [] orcN ?_
        exact J_r1 rfl
      · refine J_g 508 [] [(19, bv (decide (a1 > a2)))] [] orcN ?_
        refine J_if2 19 (fun h11 => ?_) (fun h11 => ?_)
        · refine J_g 2036 [] [(4, iv 1)] [] orcN ?_
          exact J_r1 rfl
        · refine J_g 510 [] [(4, iv 0)] [] orcN ?_
          exact J_r1 rfl

noncomputable def c174 : Code := (Try.f174.body).getD .skip

theorem cmp_Or_int_l1.ok (a1 : (List Int)) (q : Wd) (kn : Unit → Option (D × List Ent)) (hk : ∀ v : Unit, J (q.g Try.prog 174 0 18) c174 (atI c174 15) (St.mk' [(3, iv 0)] []) (some v) kn) :
    ∀ s6 : Int, J (q.g Try.prog 174 0 18) c174 (atI c174 116) (St.mk' [(3, iv 0), (6, sl 1 eI64 a1), (7, iv (a1.length : Int)), (8, iv s6)] []) (cmp_Or_int_l1 a1 s6) (Fl.go (fun r : Int => some (iv r, [])) kn) := by
  refine J_lp (fun g ih s6 => ?_)
  unfold cmp_Or_int_l1b
  refine J_g 232 [] [(3, iv 0), (6, sl 1 eI64 a1), (7, iv (a1.length : Int)), (8, iv s6), (9, bv (decide (s6 < (a1.length : Int))))] [] orcN ?_
  refine J_if2 9 (fun h7 => ?_) (fun h7 => ?_)
  · refine J_bind (fun x8 h9 => ?_)
    refine J_g 3736 [] [(3, iv 0), (5, iv x8), (6, sl 1 eI64 a1), (7, iv (a1.length : Int)), (8, iv s6)] [] (orcC 0 (x_ix (kk := .i64) 201 3 1 eI64 (.tmp 6) (.tmp 8) h9) orcN) ?_
    refine J_g 7474 [] [(3, iv 0), (5, iv x8), (6, sl 1 eI64 a1), (7, iv (a1.length : Int)), (8, iv s6), (14, bv (x8 != 0))] [] orcN ?_
    refine J_if2 14 (fun h10 => ?_) (fun h10 => ?_)
    · refine J_g 29900 [] [(2, iv x8)] [] orcN ?_
      exact J_r1 rfl
    · refine J_g 935 [] [(3, iv 0), (6, sl 1 eI64 a1), (7, iv (a1.length : Int)), (8, iv (w64 (s6 + 1)))] [] orcN ?_
      exact J_q (J_b (ih (w64 (s6 + 1)))) rfl
  · exact J_qw (hk ()) rfl

theorem cmp_Or_int.ok (a1 : (List Int)) : Ok Try.prog 174 [sl 1 eI64 a1] [] ((cmp_Or_int a1).map fun r => (iv r, [])) := by
  refine Ok_of3 c174 Try.f174 0 18 (fun q => ?_)
  unfold cmp_Or_int
  refine J_g 2 [] [(0, sl 1 eI64 a1)] [] orcN ?_
  refine J_g 6 [] [(0, sl 1 eI64 a1), (3, iv 0)] [] orcN ?_
  refine J_g 28 [] [(3, iv 0), (6, sl 1 eI64 a1), (7, iv (a1.length : Int)), (8, iv 0)] [] orcN ?_
  refine J_lqF (K0 := (fun r : Int => some (iv r, []))) (fun _ => rfl) (cmp_Or_int_l1.ok a1 q _ (fun v11 => J_j ?_) 0)
  refine J_g 30 [] [(2, iv 0)] [] orcN ?_
  exact J_r1 rfl

noncomputable def c158 : Code := (Try.f158.body).getD .skip

theorem impl_compare.ok (a1 : Version) (a2 : Version) : Ok Try.prog 158 [.ag (Version.enc a1), .ag (Version.enc a2)] [] ((impl_compare a1 a2).map fun r => (iv r, [])) := by
  refine Ok_of3 c158 Try.f158 0 22 (fun q => ?_)
  unfold impl_compare
  refine J_g 2 [(0, 0), (1, 1)] [(2, pp 0), (3, pp 1)] [(0, .box (Version.enc a1)), (1, .box (Version.enc a2))] orcN ?_
  refine J_bind (fun x3 h4 => ?_)
  refine J_bind (fun x5 h6 => ?_)
  refine J_bind (fun x7 h8 => ?_)
  refine J_bind (fun x9 h10 => ?_)
  refine J_g 6 [] [(4, iv x9)] [] (orcC 4 (x_c0 [(.tmp 6), (.tmp 8)] [2, 2] (cmp_Compare_int64.ok a1.A a2.A) h4) (orcC 9 (x_c0 [(.tmp 11), (.tmp 13)] [2, 2] (cmp_Compare_int64.ok a1.B a2.B) h6) (orcC 14 (x_c0 [(.tmp 16), (.tmp 18)] [2, 2] (cmp_Compare_int64.ok a1.C a2.C) h8) (orcC 15 (x_bp 201 3 1 2 eI64 [x3, x5, x7] [0, 1, 2] [(.tmp 9), (.tmp 14), (.tmp 19)] [iv x3, iv x5, iv x7]) (orcC 16 (x_c1 («as» := [rr 2 [x3, x5, x7]]) [(.tmp 20)] [201] true [(2, rE 1 eI64 [x3, x5, x7])] [] (.cons (am_b (.head _) (fun _ => rfl) rfl) (.nil)) (cmp_Or_int.ok [x3, x5, x7]) h10 (.same rfl rfl) (hbor := fun _ => ⟨rfl, flat_sc⟩)) orcN))))) ?_
  exact J_r1 rfl

noncomputable def c155 : Code := (Try.f155.body).getD .skip

theorem impl_TermFault.ok (a1 : Term) : Ok Try.prog 155 [.ag (Term.enc a1)] [] ((impl_TermFault a1).map fun r => (iv r, [])) := by
  refine Ok_of3 c155 Try.f155 0 35 (fun q => ?_)
  unfold impl_TermFault
  refine J_g 2 [(0, 0)] [(1, pp 0)] [(0, .box (Term.enc a1))] orcN ?_
  refine J_bind (fun x2 h3 => ?_)
  refine J_g 12 [] [(1, pp 0), (3, iv x2)] [(0, .box (Term.enc a1))] (orcC 2 (x_c0 [(.tmp 6)] [9] (impl_NameFault.ok a1.Name) h3) orcN) ?_
  refine J_g 26 [] [(1, pp 0), (3, iv x2), (9, bv (x2 != 0))] [(0, .box (Term.enc a1))] orcN ?_
  refine J_if2 9 (fun h4 => ?_) (fun h4 => ?_)
  · refine J_g 108 [] [(2, iv x2)] [] orcN ?_
    exact J_r1 rfl
  · refine J_bind (fun x5 h6 => ?_)
    refine J_g 28 [] [(1, pp 0), (4, iv x5)] [(0, .box (Term.enc a1))] (orcC 2 (x_c0 [(.tmp 12)] [62] (impl_VersionFault.ok a1.Low) h6) orcN) ?_
    refine J_g 58 [] [(1, pp 0), (4, iv x5), (15, bv (x5 != 0))] [(0, .box (Term.enc a1))] orcN ?_
    refine J_if2 15 (fun h7 => ?_) (fun h7 => ?_)
    · refine J_g 236 [] [(2, iv x5)] [] orcN ?_
      exact J_r1 rfl
    · refine J_bind (fun x8 h9 => ?_)
      refine J_join (atI c155 121) (fun v13 : Bool => St.mk' [(1, pp 0), (17, bv v13)] [(0, .box (Term.enc a1))]) (fun v13 => ?_) (fun jv13 => ?_)
      · refine J_if2 17 (fun h14 => ?_) (fun h14 => ?_)
        · refine J_g 484 [] [(2, iv 3)] [] orcN ?_
          exact J_r1 rfl
        · refine J_bind (fun x15 h16 => ?_)
          refine J_g 486 [] [(28, bv (decide (x15 ≥ 0)))] [] (orcC 4 (x_c0 [(.tmp 30), (.tmp 32)] [62, 62] (impl_compare.ok a1.Low a1.High) h16) orcN) ?_
          refine J_if2 28 (fun h17 => ?_) (fun h17 => ?_)
          · refine J_g 1948 [] [(2, iv 1)] [] orcN ?_
            exact J_r1 rfl
          · refine J_g 62 [] [(2, iv 0)] [] orcN ?_
            exact J_r1 rfl
      · refine J_ite (fun h10 => ?_) (fun h10 => ?_)
        · refine J_bind (fun x11 h12 => ?_)
          refine J_g 120 [] [(1, pp 0), (17, bv (x11 != 0))] [(0, .box (Term.enc a1))] (orcC 2 (x_c0 [] [] (impl_top.ok) h9) (orcC 3 (x_seq (b := .neq) (r := (a1.High.A == x8.A && (a1.High.B == x8.B && (a1.High.C == x8.C && true)))) 62 62 (.tmp 19) (.tmp 20) [.int .i64 a1.High.A, .int .i64 a1.High.B, .int .i64 a1.High.C] [.int .i64 x8.A, .int .i64 x8.B, .int .i64 x8.C] (.inr ⟨rfl, rfl⟩)) (orcL 4 [(21, bv (!(a1.High.A == x8.A && (a1.High.B == x8.B && (a1.High.C == x8.C && true)))))] [] h10 (orcH 7 4 22 true (x_c0 [(.tmp 24)] [62] (impl_VersionFault.ok a1.High) h12) orcN)))) ?_
          exact J_qw (J_j (jv13 (x11 != 0))) rfl
        · refine J_g 120 [] [(1, pp 0), (17, bv false)] [(0, .box (Term.enc a1))] (orcC 2 (x_c0 [] [] (impl_top.ok) h9) (orcC 3 (x_seq (b := .neq) (r := (a1.High.A == x8.A && (a1.High.B == x8.B && (a1.High.C == x8.C && true)))) 62 62 (.tmp 19) (.tmp 20) [.int .i64 a1.High.A, .int .i64 a1.High.B, .int .i64 a1.High.C] [.int .i64 x8.A, .int .i64 x8.B, .int .i64 x8.C] (.inr ⟨rfl, rfl⟩)) (orcL 4 [(21, bv (!(a1.High.A == x8.A && (a1.High.B == x8.B && (a1.High.C == x8.C && true)))))] [] h10 orcN))) ?_
          exact J_qw (J_j (jv13 false)) rfl

noncomputable def c122 : Code := (Try.f122.body).getD .skip

theorem impl_termsFault_l1.ok (a1 : (List Term)) (q : Wd) (kn : Unit → Option (D × List Ent)) (hk : ∀ v : Unit, J (q.g Try.prog 122 0 18) c122 (atI c122 7) (St.mk' [] []) (some v) kn) :
    ∀ s8 : Int, J (q.g Try.prog 122 0 18) c122 (atI c122 52) (St.mk' [(6, sl 7 Term.enc a1), (7, iv (a1.length : Int)), (8, iv s8)] []) (impl_termsFault_l1 a1 s8) (Fl.go (fun r : Int => some (iv r, [])) kn) := by
  refine J_lp (fun g ih s8 => ?_)
  unfold impl_termsFault_l1b
  refine J_g 104 [] [(6, sl 7 Term.enc a1), (7, iv (a1.length : Int)), (8, iv s8), (9, bv (decide (s8 < (a1.length : Int))))] [] orcN ?_
  refine J_if2 9 (fun h9 => ?_) (fun h9 => ?_)
  · refine J_bind (fun x10 h11 => ?_)
    refine J_g 1688 [(2, 0)] [(4, pp 0), (6, sl 7 Term.enc a1), (7, iv (a1.length : Int)), (8, iv s8)] [(0, .box (Term.enc x10))] (orcC 0 (x_ix (kk := .i64) 64 119 7 Term.enc (.tmp 6) (.tmp 8) h11) orcN) ?_
    refine J_bind (fun x12 h13 => ?_)
    refine J_g 3378 [] [(5, iv x12), (6, sl 7 Term.enc a1), (7, iv (a1.length : Int)), (8, iv s8)] [] (orcC 1 (x_c0 [(.tmp 12)] [119] (impl_TermFault.ok x10) h13) orcN) ?_
    refine J_g 6758 [] [(5, iv x12), (6, sl 7 Term.enc a1), (7, iv (a1.length : Int)), (8, iv s8), (15, bv (x12 != 0))] [] orcN ?_
    refine J_if2 15 (fun h14 => ?_) (fun h14 => ?_)
    · refine J_g 27036 [] [(2, iv x12)] [] orcN ?_
      exact J_r1 rfl
    · refine J_g 423 [] [(6, sl 7 Term.enc a1), (7, iv (a1.length : Int)), (8, iv (w64 (s8 + 1)))] [] orcN ?_
      exact J_q (J_b (ih (w64 (s8 + 1)))) rfl
  · exact J_qw (hk ()) rfl

theorem impl_termsFault.ok (a1 : (List Term)) : Ok Try.prog 122 [sl 7 Term.enc a1] [] ((impl_termsFault a1).map fun r => (iv r, [])) := by
  refine Ok_of3 c122 Try.f122 0 18 (fun q => ?_)
  unfold impl_termsFault
  refine J_g 2 [] [(0, sl 7 Term.enc a1)] [] orcN ?_
  refine J_g 12 [] [(6, sl 7 Term.enc a1), (7, iv (a1.length : Int)), (8, iv 0)] [] orcN ?_
  refine J_lqF (K0 := (fun r : Int => some (iv r, []))) (fun _ => rfl) (impl_termsFault_l1.ok a1 q _ (fun v15 => J_j ?_) 0)
  refine J_g 14 [] [(2, iv 0)] [] orcN ?_
  exact J_r1 rfl

noncomputable def c87 : Code := (Try.f87.body).getD .skip

theorem impl_PackFault_l2.ok (a1 : Pack) (q : Wd) (kn : Unit → Option (D × List Ent)) (hk : ∀ v : Unit, J (q.g Try.prog 87 0 93) c87 (atI c87 63) (St.mk' [(1, pp 0)] [(0, .box (Pack.enc false a1))]) (some v) kn) :
    ∀ s54 : Int, J (q.g Try.prog 87 0 93) c87 (atI c87 500) (St.mk' [(1, pp 0), (75, sl 1 (eSl false 7 Term.enc) a1.Needs), (76, iv (a1.Needs.length : Int)), (77, iv s54)] [(0, .box (Pack.enc false a1))]) (impl_PackFault_l2 a1 s54) (Fl.go (fun r : Int => some (iv r, [])) kn) := by
  refine J_lp (fun g ih s54 => ?_)
  unfold impl_PackFault_l2b
  refine J_g 1000 [] [(1, pp 0), (75, sl 1 (eSl false 7 Term.enc) a1.Needs), (76, iv (a1.Needs.length : Int)), (77, iv s54), (78, bv (decide (s54 < (a1.Needs.length : Int))))] [(0, .box (Pack.enc false a1))] orcN ?_
  refine J_if2 78 (fun h55 => ?_) (fun h55 => ?_)
  · refine J_bind (fun x56 h57 => ?_)
    refine J_g 16024 [] [(1, pp 0), (8, sl 7 Term.enc x56), (75, sl 1 (eSl false 7 Term.enc) a1.Needs), (76, iv (a1.Needs.length : Int)), (77, iv s54)] [(0, .box (Pack.enc false a1))] (orcC 0 (x_ix (kk := .i64) 63 64 1 (eSl false 7 Term.enc) (.tmp 75) (.tmp 77) h57) orcN) ?_
    refine J_g 64100 [] [(1, pp 0), (8, sl 7 Term.enc x56), (75, sl 1 (eSl false 7 Term.enc) a1.Needs), (76, iv (a1.Needs.length : Int)), (77, iv s54), (83, bv ((x56.length : Int) == 0))] [(0, .box (Pack.enc false a1))] orcN ?_
    refine J_if2 83 (fun h58 => ?_) (fun h58 => ?_)
    · refine J_g 256404 [] [(2, iv 1)] [] orcN ?_
      exact J_r1 rfl
    · refine J_bind (fun x59 h60 => ?_)
      refine J_g 64102 [] [(1, pp 0), (9, iv x59), (75, sl 1 (eSl false 7 Term.enc) a1.Needs), (76, iv (a1.Needs.length : Int)), (77, iv s54)] [(0, .box (Pack.enc false a1))] (orcC 1 (x_c0 [(.tmp 84)] [64] (impl_termsFault.ok x56) h60) orcN) ?_
      refine J_g 128206 [] [(1, pp 0), (9, iv x59), (75, sl 1 (eSl false 7 Term.enc) a1.Needs), (76, iv (a1.Needs.length : Int)), (77, iv s54), (87, bv (x59 != 0))] [(0, .box (Pack.enc false a1))] orcN ?_
      refine J_if2 87 (fun h61 => ?_) (fun h61 => ?_)
      · refine J_g 512828 [] [(2, iv x59)] [] orcN ?_
        exact J_r1 rfl
      · refine J_g 4007 [] [(1, pp 0), (75, sl 1 (eSl false 7 Term.enc) a1.Needs), (76, iv (a1.Needs.length : Int)), (77, iv (w64 (s54 + 1)))] [(0, .box (Pack.enc false a1))] orcN ?_
        exact J_q (J_b (ih (w64 (s54 + 1)))) rfl
  · exact J_qw (hk ()) rfl

theorem impl_PackFault_l1.ok (a1 : Pack) (q : Wd) (kn : Unit → Option (D × List Ent)) (hk : ∀ v : Unit, J (q.g Try.prog 87 0 93) c87 (atI c87 31) (St.mk' [(1, pp 0)] [(0, .box (Pack.enc false a1))]) (some v) kn) :
    ∀ s32 : Int, J (q.g Try.prog 87 0 93) c87 (atI c87 244) (St.mk' [(1, pp 0), (49, sl 1 eStr a1.Provides), (50, iv (a1.Provides.length : Int)), (51, iv s32)] [(0, .box (Pack.enc false a1))]) (impl_PackFault_l1 a1 s32) (Fl.go (fun r : Int => some (iv r, [])) kn) := by
  refine J_lp (fun g ih s32 => ?_)
  unfold impl_PackFault_l1b
  refine J_g 488 [] [(1, pp 0), (49, sl 1 eStr a1.Provides), (50, iv (a1.Provides.length : Int)), (51, iv s32), (52, bv (decide (s32 < (a1.Provides.length : Int))))] [(0, .box (Pack.enc false a1))] orcN ?_
  refine J_if2 52 (fun h33 => ?_) (fun h33 => ?_)
  · refine J_bind (fun x34 h35 => ?_)
    refine J_g 7832 [] [(1, pp 0), (4, iv s32), (5, sv x34), (49, sl 1 eStr a1.Provides), (50, iv (a1.Provides.length : Int)), (51, iv s32)] [(0, .box (Pack.enc false a1))] (orcC 1 (x_ix (kk := .i64) 56 9 1 eStr (.tmp 49) (.tmp 51) h35) orcN) ?_
    refine J_bind (fun x36 h37 => ?_)
    refine J_g 31332 [] [(1, pp 0), (4, iv s32), (5, sv x34), (6, iv x36), (49, sl 1 eStr a1.Provides), (50, iv (a1.Provides.length : Int)), (51, iv s32)] [(0, .box (Pack.enc false a1))] (orcC 1 (x_c0 [(.tmp 56)] [9] (impl_NameFault.ok x34) h37) orcN) ?_
    refine J_g 62666 [] [(1, pp 0), (4, iv s32), (5, sv x34), (6, iv x36), (49, sl 1 eStr a1.Provides), (50, iv (a1.Provides.length : Int)), (51, iv s32), (59, bv (x36 != 0))] [(0, .box (Pack.enc false a1))] orcN ?_
    refine J_if2 59 (fun h38 => ?_) (fun h38 => ?_)
    · refine J_g 250668 [] [(2, iv x36)] [] orcN ?_
      exact J_r1 rfl
    · refine J_join (atI c87 31335) (fun v44 : Bool => St.mk' [(1, pp 0), (49, sl 1 eStr a1.Provides), (50, iv (a1.Provides.length : Int)), (51, iv s32), (72, bv v44)] [(0, .box (Pack.enc false a1))]) (fun v44 => ?_) (fun jv44 => ?_)
      · refine J_if2 72 (fun h45 => ?_) (fun h45 => ?_)
        · refine J_g 125340 [] [(2, iv 6)] [] orcN ?_
          exact J_r1 rfl
        · refine J_g 1959 [] [(1, pp 0), (49, sl 1 eStr a1.Provides), (50, iv (a1.Provides.length : Int)), (51, iv (w64 (s32 + 1)))] [(0, .box (Pack.enc false a1))] orcN ?_
          exact J_q (J_b (ih (w64 (s32 + 1)))) rfl
      · refine J_ite (fun h39 => ?_) (fun h39 => ?_)
        · refine J_g 31334 [] [(1, pp 0), (49, sl 1 eStr a1.Provides), (50, iv (a1.Provides.length : Int)), (51, iv s32), (72, bv true)] [(0, .box (Pack.enc false a1))] (orcL 4 [(64, bv (seq x34 a1.Name))] [] h39 orcN) ?_
          exact J_qw (J_j (jv44 true)) rfl
        · refine J_bind (fun x40 h41 => ?_)
          refine J_bind (fun x42 h43 => ?_)
          refine J_g 31334 [] [(1, pp 0), (49, sl 1 eStr a1.Provides), (50, iv (a1.Provides.length : Int)), (51, iv s32), (72, bv x42)] [(0, .box (Pack.enc false a1))] (orcL 4 [(64, bv (seq x34 a1.Name))] [] h39 (orcH 8 4 65 false (x_ls 56 9 1 eStr (.tmp 67) none (some (.tmp 68)) h41) (orcH 10 4 65 false (x_c0 [(.tmp 69), (.tmp 70)] [56, 9] (slices_Contains_Lstring.ok x40 x34) h43) orcN))) ?_
          exact J_qw (J_j (jv44 x42)) rfl
  · exact J_qw (hk ()) rfl

theorem impl_PackFault.ok (a1 : Pack) : Ok Try.prog 87 [.ag (Pack.enc false a1)] [] ((impl_PackFault a1).map fun r => (iv r, [])) := by
  refine Ok_of3 c87 Try.f87 0 93 (fun q => ?_)
  unfold impl_PackFault
  refine J_g 2 [(0, 0)] [(1, pp 0)] [(0, .box (Pack.enc false a1))] orcN ?_
  refine J_bind (fun x2 h3 => ?_)
  refine J_bind (fun x4 h5 => ?_)
  refine J_bind (fun x6 h7 => ?_)
  refine J_g 12 [] [(1, pp 0), (3, iv x6)] [(0, .box (Pack.enc false a1))] (orcC 2 (x_c0 [(.tmp 11)] [9] (impl_NameFault.ok a1.Name) h3) (orcC 5 (x_c0 [(.tmp 14)] [62] (impl_VersionFault.ok a1.Version) h5) (orcC 6 (x_bp 23 2 1 1 eI64 [x2, x4] [0, 1] [(.tmp 12), (.tmp 15)] [iv x2, iv x4]) (orcC 7 (x_c1 («as» := [rr 1 [x2, x4]]) [(.tmp 16)] [23] true [(1, rE 1 eI64 [x2, x4])] [] (.cons (am_b (.head _) (fun _ => rfl) rfl) (.nil)) (impl_firstCode.ok [x2, x4]) h7 (.same rfl rfl) (hbor := fun _ => ⟨rfl, flat_sc⟩)) orcN)))) ?_
  refine J_g 26 [] [(1, pp 0), (3, iv x6), (19, bv (x6 != 0))] [(0, .box (Pack.enc false a1))] orcN ?_
  refine J_if2 19 (fun h8 => ?_) (fun h8 => ?_)
  · refine J_g 108 [] [(2, iv x6)] [] orcN ?_
    exact J_r1 rfl
  · refine J_bind (fun x9 h10 => ?_)
    refine J_g 56 [] [(1, pp 0), (21, bv (!x9))] [(0, .box (Pack.enc false a1))] (orcC 2 (x_c0 [(.tmp 23), (.const (.int .i64 1)), (.const (.int .i64 200))] [2, 2, 2] (impl_within.ok a1.Size 1 200) h10) orcN) ?_
    refine J_if2 21 (fun h11 => ?_) (fun h11 => ?_)
    · refine J_g 228 [] [(2, iv 3)] [] orcN ?_
      exact J_r1 rfl
    · refine J_join (atI c87 231) (fun v17 : Bool => St.mk' [(1, pp 0), (26, bv v17)] [(0, .box (Pack.enc false a1))]) (fun v17 => ?_) (fun jv17 => ?_)
      · refine J_if2 26 (fun h18 => ?_) (fun h18 => ?_)
        · refine J_g 924 [] [(2, iv 2)] [] orcN ?_
          exact J_r1 rfl
        · refine J_g 60 [] [(1, pp 0), (49, sl 1 eStr a1.Provides), (50, iv (a1.Provides.length : Int)), (51, iv 0)] [(0, .box (Pack.enc false a1))] orcN ?_
          refine J_lqF (K0 := (fun r : Int => some (iv r, []))) (fun _ => rfl) (impl_PackFault_l1.ok a1 q _ (fun v46 => J_j ?_) 0)
          refine J_g 124 [] [(1, pp 0), (75, sl 1 (eSl false 7 Term.enc) a1.Needs), (76, iv (a1.Needs.length : Int)), (77, iv 0)] [(0, .box (Pack.enc false a1))] orcN ?_
          refine J_lqF (K0 := (fun r : Int => some (iv r, []))) (fun _ => rfl) (impl_PackFault_l2.ok a1 q _ (fun v62 => J_j ?_) 0)
          refine J_bind (fun x63 h64 => ?_)
          refine J_g 126 [] [(2, iv x63)] [] (orcC 2 (x_c0 [(.tmp 91)] [64] (impl_termsFault.ok a1.Bars) h64) orcN) ?_
          exact J_r1 rfl
      · refine J_ite (fun h12 => ?_) (fun h12 => ?_)
        · refine J_g 230 [] [(1, pp 0), (26, bv true)] [(0, .box (Pack.enc false a1))] (orcL 4 [(30, bv (decide ((a1.Provides.length : Int) > 4)))] [] h12 orcN) ?_
          exact J_qw (J_j (jv17 true)) rfl
        · refine J_ite (fun h13 => ?_) (fun h13 => ?_)
          · refine J_g 230 [] [(1, pp 0), (26, bv true)] [(0, .box (Pack.enc false a1))] (orcL 4 [(30, bv (decide ((a1.Provides.length : Int) > 4)))] [] h12 (orcL 10 [(36, bv (decide ((a1.Needs.length : Int) > 4)))] [] h13 orcN)) ?_
            exact J_qw (J_j (jv17 true)) rfl
          · refine J_ite (fun h14 => ?_) (fun h14 => ?_)
            · refine J_g 230 [] [(1, pp 0), (26, bv true)] [(0, .box (Pack.enc false a1))] (orcL 4 [(30, bv (decide ((a1.Provides.length : Int) > 4)))] [] h12 (orcL 10 [(36, bv (decide ((a1.Needs.length : Int) > 4)))] [] h13 (orcL 16 [(42, bv (decide ((a1.Bars.length : Int) > 4)))] [] h14 orcN))) ?_
              exact J_qw (J_j (jv17 true)) rfl
            · refine J_bind (fun x15 h16 => ?_)
              refine J_g 230 [] [(1, pp 0), (26, bv x15)] [(0, .box (Pack.enc false a1))] (orcL 4 [(30, bv (decide ((a1.Provides.length : Int) > 4)))] [] h12 (orcL 10 [(36, bv (decide ((a1.Needs.length : Int) > 4)))] [] h13 (orcL 16 [(42, bv (decide ((a1.Bars.length : Int) > 4)))] [] h14 (orcH 19 16 43 false (x_c1 («as» := [sl 1 (eSl false 7 Term.enc) a1.Needs, .fn 120 []]) [(.tmp 45), (.func 120)] [63, 126] false [] [] (.cons (.same rfl) (.cons (.fn (.nil)) (.nil))) (slices_ContainsFunc_LLimplTerm_impl_PackFault_1.ok a1.Needs) h16 (.same rfl rfl)) orcN)))) ?_
              exact J_qw (J_j (jv17 x15)) rfl

noncomputable def c124 : Code := (Try.f124.body).getD .skip

theorem impl_find_1.ok (a1 : Pack) (a2 : ByteArray) (a3 : Version) : Ok Try.prog 124 [.ag (Pack.enc false a1), pp 0, pp 1] [.box [sv a2], .box (Version.enc a3)] ((impl_find_1 a1 a2 a3).map fun r => (bv r, [.box [sv a2], .box (Version.enc a3)])) := by
  refine Ok_of3 c124 Try.f124 2 15 (fun q => ?_)
  unfold impl_find_1
  refine J_g 2 [(0, 2)] [(1, pp 0), (2, pp 1), (3, pp 2)] [(0, .box [sv a2]), (1, .box (Version.enc a3)), (2, .box (Pack.enc false a1))] orcN ?_
  refine J_ite (fun h4 => ?_) (fun h4 => ?_)
  · refine J_g 6 [] [(4, bv (a1.Version.A == a3.A && (a1.Version.B == a3.B && (a1.Version.C == a3.C && true))))] [(0, .box [sv a2]), (1, .box (Version.enc a3))] (orcL 4 [(8, bv (seq a1.Name a2))] [] h4 (orcH 8 4 9 true (x_seq (b := .eql) (r := (a1.Version.A == a3.A && (a1.Version.B == a3.B && (a1.Version.C == a3.C && true)))) 62 62 (.tmp 11) (.tmp 12) [.int .i64 a1.Version.A, .int .i64 a1.Version.B, .int .i64 a1.Version.C] [.int .i64 a3.A, .int .i64 a3.B, .int .i64 a3.C] (.inl ⟨rfl, rfl⟩)) orcN)) ?_
    exact J_r1 rfl
  · refine J_g 6 [] [(4, bv false)] [(0, .box [sv a2]), (1, .box (Version.enc a3))] (orcL 4 [(8, bv (seq a1.Name a2))] [] h4 orcN) ?_
    exact J_r1 rfl

noncomputable def c123 : Code := (Try.f123.body).getD .skip

theorem slices_IndexFunc_LimplPack_impl_find_1_l1.ok (a1 : (List Pack)) (a2 : ByteArray) (a3 : Version) (q : Wd) (kn : Unit → Option (D × List Ent)) (hk : ∀ v : Unit, J (q.g Try.prog 123 2 19) c123 (atI c123 7) (St.mk' [] [(0, .box [sv a2]), (1, .box (Version.enc a3))]) (some v) kn) :
    ∀ s10 : Int, J (q.g Try.prog 123 2 19) c123 (atI c123 52) (St.mk' [(0, sl 8 (Pack.enc false) a1), (1, .fn 124 [pp 0, pp 1]), (7, iv (a1.length : Int)), (8, iv s10)] [(0, .box [sv a2]), (1, .box (Version.enc a3))]) (slices_IndexFunc_LimplPack_impl_find_1_l1 a1 a2 a3 s10) (Fl.go (fun r : Int => some (iv r, [.box [sv a2], .box (Version.enc a3)])) kn) := by
  refine J_lp (fun g ih s10 => ?_)
  unfold slices_IndexFunc_LimplPack_impl_find_1_l1b
  refine J_g 104 [] [(0, sl 8 (Pack.enc false) a1), (1, .fn 124 [pp 0, pp 1]), (7, iv (a1.length : Int)), (8, iv s10), (9, bv (decide (s10 < (a1.length : Int))))] [(0, .box [sv a2]), (1, .box (Version.enc a3))] orcN ?_
  refine J_if2 9 (fun h11 => ?_) (fun h11 => ?_)
  · refine J_g 1688 [] [(0, sl 8 (Pack.enc false) a1), (1, .fn 124 [pp 0, pp 1]), (5, iv s10), (7, iv (a1.length : Int)), (8, iv s10)] [(0, .box [sv a2]), (1, .box (Version.enc a3))] orcN ?_
    refine J_bind (fun x12 h13 => ?_)
    refine J_bind (fun x14 h15 => ?_)
    refine J_g 3378 [] [(0, sl 8 (Pack.enc false) a1), (1, .fn 124 [pp 0, pp 1]), (5, iv s10), (7, iv (a1.length : Int)), (8, iv s10), (16, bv x14)] [(0, .box [sv a2]), (1, .box (Version.enc a3))] (orcC 3 (x_ix (kk := .i64) 28 66 8 (Pack.enc false) (.tmp 12) (.tmp 13) h13) (orcC 5 (x_ro [(0, .box [sv a2]), (1, .box (Version.enc a3))] [] (x_c1v 11 [(.tmp 15)] [66] false [(0, .box [sv a2]), (1, .box (Version.enc a3))] [0, 1] [.ag (Pack.enc false x12)] [pp 0, pp 1] (.cons (.same rfl) (.cons (.pt rfl) (.cons (.pt rfl) (.nil)))) (impl_find_1.ok x12 a2 a3) h15 (.same rfl rfl))) orcN)) ?_
    refine J_if2 16 (fun h16 => ?_) (fun h16 => ?_)
    · refine J_g 13516 [] [(4, iv s10)] [(0, .box [sv a2]), (1, .box (Version.enc a3))] orcN ?_
      exact J_r1 rfl
    · refine J_g 423 [] [(0, sl 8 (Pack.enc false) a1), (1, .fn 124 [pp 0, pp 1]), (7, iv (a1.length : Int)), (8, iv (w64 (s10 + 1)))] [(0, .box [sv a2]), (1, .box (Version.enc a3))] orcN ?_
      exact J_q (J_b (ih (w64 (s10 + 1)))) rfl
  · exact J_qw (hk ()) rfl

theorem slices_IndexFunc_LimplPack_impl_find_1.ok (a1 : (List Pack)) (a2 : ByteArray) (a3 : Version) : Ok Try.prog 123 [sl 8 (Pack.enc false) a1, .fn 124 [pp 0, pp 1]] [.box [sv a2], .box (Version.enc a3)] ((slices_IndexFunc_LimplPack_impl_find_1 a1 a2 a3).map fun r => (iv r, [.box [sv a2], .box (Version.enc a3)])) := by
  refine Ok_of3 c123 Try.f123 2 19 (fun q => ?_)
  unfold slices_IndexFunc_LimplPack_impl_find_1
  refine J_g 2 [] [(0, sl 8 (Pack.enc false) a1), (1, .fn 124 [pp 0, pp 1])] [(0, .box [sv a2]), (1, .box (Version.enc a3))] orcN ?_
  refine J_g 12 [] [(0, sl 8 (Pack.enc false) a1), (1, .fn 124 [pp 0, pp 1]), (7, iv (a1.length : Int)), (8, iv 0)] [(0, .box [sv a2]), (1, .box (Version.enc a3))] orcN ?_
  refine J_lqF (K0 := (fun r : Int => some (iv r, [.box [sv a2], .box (Version.enc a3)]))) (fun _ => rfl) (slices_IndexFunc_LimplPack_impl_find_1_l1.ok a1 a2 a3 q _ (fun v17 => J_j ?_) 0)
  refine J_g 14 [] [(4, iv (-1))] [(0, .box [sv a2]), (1, .box (Version.enc a3))] orcN ?_
  exact J_r1 rfl

noncomputable def c88 : Code := (Try.f88.body).getD .skip

theorem impl_find.ok (a1 : (List Pack)) (a2 : ByteArray) (a3 : Version) : Ok Try.prog 88 [sl 8 (Pack.enc false) a1, sv a2, .ag (Version.enc a3)] [] ((impl_find a1 a2 a3).map fun r => (iv r, [])) := by
  refine Ok_of3 c88 Try.f88 0 10 (fun q => ?_)
  unfold impl_find
  refine J_g 2 [(0, 0), (1, 1)] [(0, sl 8 (Pack.enc false) a1), (4, pp 0), (5, pp 1)] [(0, .box [sv a2]), (1, .box (Version.enc a3))] orcN ?_
  refine J_bind (fun x4 h5 => ?_)
  refine J_g 6 [] [(6, iv x4)] [] (orcC 2 (x_ro [(0, .box [sv a2]), (1, .box (Version.enc a3))] [] (x_c1 («as» := [sl 8 (Pack.enc false) a1, .fn 124 [pp 0, pp 1]]) [(.tmp 7), (.tmp 8)] [28, 155] false [(0, .box [sv a2]), (1, .box (Version.enc a3))] [0, 1] (.cons (.same rfl) (.cons (.fn (.cons (.pt rfl) (.cons (.pt rfl) (.nil)))) (.nil))) (slices_IndexFunc_LimplPack_impl_find_1.ok a1 a2 a3) h5 (.same rfl rfl))) orcN) ?_
  exact J_r1 rfl

noncomputable def c52 : Code := (Try.f52.body).getD .skip

theorem impl_CatalogFault_l1.ok (a1 : (List Pack)) (q : Wd) (kn : Unit → Option (D × List Ent)) (hk : ∀ v : Unit, J (q.g Try.prog 52 0 31) c52 (atI c52 15) (St.mk' [] []) (some v) kn) :
    ∀ s14 : Int, J (q.g Try.prog 52 0 31) c52 (atI c52 116) (St.mk' [(0, sl 8 (Pack.enc false) a1), (9, sl 8 (Pack.enc false) a1), (10, iv (a1.length : Int)), (11, iv s14)] []) (impl_CatalogFault_l1 a1 s14) (Fl.go (fun r : Int => some (iv r, [])) kn) := by
  refine J_lp (fun g ih s14 => ?_)
  unfold impl_CatalogFault_l1b
  refine J_g 232 [] [(0, sl 8 (Pack.enc false) a1), (9, sl 8 (Pack.enc false) a1), (10, iv (a1.length : Int)), (11, iv s14), (12, bv (decide (s14 < (a1.length : Int))))] [] orcN ?_
  refine J_if2 12 (fun h15 => ?_) (fun h15 => ?_)
  · refine J_bind (fun x16 h17 => ?_)
    refine J_g 3736 [(3, 0)] [(0, sl 8 (Pack.enc false) a1), (3, iv s14), (4, pp 0), (9, sl 8 (Pack.enc false) a1), (10, iv (a1.length : Int)), (11, iv s14)] [(0, .box (Pack.enc false x16))] (orcC 1 (x_ix (kk := .i64) 28 66 8 (Pack.enc false) (.tmp 9) (.tmp 11) h17) orcN) ?_
    refine J_bind (fun x18 h19 => ?_)
    refine J_g 14948 [] [(0, sl 8 (Pack.enc false) a1), (3, iv s14), (4, pp 0), (5, iv x18), (9, sl 8 (Pack.enc false) a1), (10, iv (a1.length : Int)), (11, iv s14)] [(0, .box (Pack.enc false x16))] (orcC 1 (x_c0 [(.tmp 16)] [66] (impl_PackFault.ok x16) h19) orcN) ?_
    refine J_g 29898 [] [(0, sl 8 (Pack.enc false) a1), (3, iv s14), (4, pp 0), (5, iv x18), (9, sl 8 (Pack.enc false) a1), (10, iv (a1.length : Int)), (11, iv s14), (19, bv (x18 != 0))] [(0, .box (Pack.enc false x16))] orcN ?_
    refine J_if2 19 (fun h20 => ?_) (fun h20 => ?_)
    · refine J_g 119596 [] [(2, iv x18)] [] orcN ?_
      exact J_r1 rfl
    · refine J_bind (fun x21 h22 => ?_)
      refine J_bind (fun x23 h24 => ?_)
      refine J_g 14950 [] [(0, sl 8 (Pack.enc false) a1), (9, sl 8 (Pack.enc false) a1), (10, iv (a1.length : Int)), (11, iv s14), (29, bv (decide (x23 ≥ 0)))] [] (orcC 2 (x_ls 28 66 8 (Pack.enc false) (.tmp 21) none (some (.tmp 22)) h22) (orcC 7 (x_c0 [(.tmp 23), (.tmp 25), (.tmp 27)] [28, 9, 62] (impl_find.ok x21 x16.Name x16.Version) h24) orcN)) ?_
      refine J_if2 29 (fun h25 => ?_) (fun h25 => ?_)
      · refine J_g 59804 [] [(2, iv 6)] [] orcN ?_
        exact J_r1 rfl
      · refine J_g 935 [] [(0, sl 8 (Pack.enc false) a1), (9, sl 8 (Pack.enc false) a1), (10, iv (a1.length : Int)), (11, iv (w64 (s14 + 1)))] [] orcN ?_
        exact J_q (J_b (ih (w64 (s14 + 1)))) rfl
  · exact J_qw (hk ()) rfl

theorem impl_CatalogFault.ok (a1 : (List Pack)) : Ok Try.prog 52 [sl 8 (Pack.enc false) a1] [] ((impl_CatalogFault a1).map fun r => (iv r, [])) := by
  refine Ok_of3 c52 Try.f52 0 31 (fun q => ?_)
  unfold impl_CatalogFault
  refine J_g 2 [] [(0, sl 8 (Pack.enc false) a1)] [] orcN ?_
  refine J_g 12 [] [(0, sl 8 (Pack.enc false) a1), (8, bv (decide ((a1.length : Int) > 24)))] [] orcN ?_
  refine J_if2 8 (fun h2 => ?_) (fun h2 => ?_)
  · refine J_g 52 [] [(2, iv 2)] [] orcN ?_
    exact J_r1 rfl
  · refine J_g 28 [] [(0, sl 8 (Pack.enc false) a1), (9, sl 8 (Pack.enc false) a1), (10, iv (a1.length : Int)), (11, iv 0)] [] orcN ?_
    refine J_lqF (K0 := (fun r : Int => some (iv r, []))) (fun _ => rfl) (impl_CatalogFault_l1.ok a1 q _ (fun v26 => J_j ?_) 0)
    refine J_g 30 [] [(2, iv 0)] [] orcN ?_
    exact J_r1 rfl

noncomputable def c89 : Code := (Try.f89.body).getD .skip

theorem impl_arePlaces_1.ok (a1 : Int) (a2 : (List Pack)) : Ok Try.prog 89 [iv a1, pp 0] [.box [sl 8 (Pack.enc false) a2]] ((impl_arePlaces_1 a1 a2).map fun r => (bv r, [.box [sl 8 (Pack.enc false) a2]])) := by
  refine Ok_of3 c89 Try.f89 1 10 (fun q => ?_)
  unfold impl_arePlaces_1
  refine J_g 2 [] [(0, iv a1), (1, pp 0)] [(0, .box [sl 8 (Pack.enc false) a2])] orcN ?_
  refine J_bind (fun x3 h4 => ?_)
  refine J_g 6 [] [(3, bv (!x3))] [(0, .box [sl 8 (Pack.enc false) a2])] (orcC 4 (x_c0 [(.tmp 4), (.const (.int .i64 0)), (.tmp 7)] [2, 2, 2] (impl_within.ok a1 0 (w64 ((a2.length : Int) - 1))) h4) orcN) ?_
  exact J_r1 rfl

noncomputable def c106 : Code := (Try.f106.body).getD .skip

theorem slices_IndexFunc_Lint64_impl_arePlaces_1_l1.ok (a1 : (List Int)) (a2 : (List Pack)) (q : Wd) (kn : Unit → Option (D × List Ent)) (hk : ∀ v : Unit, J (q.g Try.prog 106 1 19) c106 (atI c106 7) (St.mk' [] [(0, .box [sl 8 (Pack.enc false) a2])]) (some v) kn) :
    ∀ s9 : Int, J (q.g Try.prog 106 1 19) c106 (atI c106 52) (St.mk' [(0, sl 1 eI64 a1), (1, .fn 89 [pp 0]), (7, iv (a1.length : Int)), (8, iv s9)] [(0, .box [sl 8 (Pack.enc false) a2])]) (slices_IndexFunc_Lint64_impl_arePlaces_1_l1 a1 a2 s9) (Fl.go (fun r : Int => some (iv r, [.box [sl 8 (Pack.enc false) a2]])) kn) := by
  refine J_lp (fun g ih s9 => ?_)
  unfold slices_IndexFunc_Lint64_impl_arePlaces_1_l1b
  refine J_g 104 [] [(0, sl 1 eI64 a1), (1, .fn 89 [pp 0]), (7, iv (a1.length : Int)), (8, iv s9), (9, bv (decide (s9 < (a1.length : Int))))] [(0, .box [sl 8 (Pack.enc false) a2])] orcN ?_
  refine J_if2 9 (fun h10 => ?_) (fun h10 => ?_)
  · refine J_g 1688 [] [(0, sl 1 eI64 a1), (1, .fn 89 [pp 0]), (5, iv s9), (7, iv (a1.length : Int)), (8, iv s9)] [(0, .box [sl 8 (Pack.enc false) a2])] orcN ?_
    refine J_bind (fun x11 h12 => ?_)
    refine J_bind (fun x13 h14 => ?_)
    refine J_g 3378 [] [(0, sl 1 eI64 a1), (1, .fn 89 [pp 0]), (5, iv s9), (7, iv (a1.length : Int)), (8, iv s9), (16, bv x13)] [(0, .box [sl 8 (Pack.enc false) a2])] (orcC 3 (x_ix (kk := .i64) 23 2 1 eI64 (.tmp 12) (.tmp 13) h12) (orcC 5 (x_ro [(0, .box [sl 8 (Pack.enc false) a2])] [] (x_c1v 11 [(.tmp 15)] [2] false [(0, .box [sl 8 (Pack.enc false) a2])] [0] [iv x11] [pp 0] (.cons (.same rfl) (.cons (.pt rfl) (.nil))) (impl_arePlaces_1.ok x11 a2) h14 (.same rfl rfl))) orcN)) ?_
    refine J_if2 16 (fun h15 => ?_) (fun h15 => ?_)
    · refine J_g 13516 [] [(4, iv s9)] [(0, .box [sl 8 (Pack.enc false) a2])] orcN ?_
      exact J_r1 rfl
    · refine J_g 423 [] [(0, sl 1 eI64 a1), (1, .fn 89 [pp 0]), (7, iv (a1.length : Int)), (8, iv (w64 (s9 + 1)))] [(0, .box [sl 8 (Pack.enc false) a2])] orcN ?_
      exact J_q (J_b (ih (w64 (s9 + 1)))) rfl
  · exact J_qw (hk ()) rfl

theorem slices_IndexFunc_Lint64_impl_arePlaces_1.ok (a1 : (List Int)) (a2 : (List Pack)) : Ok Try.prog 106 [sl 1 eI64 a1, .fn 89 [pp 0]] [.box [sl 8 (Pack.enc false) a2]] ((slices_IndexFunc_Lint64_impl_arePlaces_1 a1 a2).map fun r => (iv r, [.box [sl 8 (Pack.enc false) a2]])) := by
  refine Ok_of3 c106 Try.f106 1 19 (fun q => ?_)
  unfold slices_IndexFunc_Lint64_impl_arePlaces_1
  refine J_g 2 [] [(0, sl 1 eI64 a1), (1, .fn 89 [pp 0])] [(0, .box [sl 8 (Pack.enc false) a2])] orcN ?_
  refine J_g 12 [] [(0, sl 1 eI64 a1), (1, .fn 89 [pp 0]), (7, iv (a1.length : Int)), (8, iv 0)] [(0, .box [sl 8 (Pack.enc false) a2])] orcN ?_
  refine J_lqF (K0 := (fun r : Int => some (iv r, [.box [sl 8 (Pack.enc false) a2]]))) (fun _ => rfl) (slices_IndexFunc_Lint64_impl_arePlaces_1_l1.ok a1 a2 q _ (fun v16 => J_j ?_) 0)
  refine J_g 14 [] [(4, iv (-1))] [(0, .box [sl 8 (Pack.enc false) a2])] orcN ?_
  exact J_r1 rfl

noncomputable def c72 : Code := (Try.f72.body).getD .skip

theorem slices_ContainsFunc_Lint64_impl_arePlaces_1.ok (a1 : (List Int)) (a2 : (List Pack)) : Ok Try.prog 72 [sl 1 eI64 a1, .fn 89 [pp 0]] [.box [sl 8 (Pack.enc false) a2]] ((slices_ContainsFunc_Lint64_impl_arePlaces_1 a1 a2).map fun r => (bv r, [.box [sl 8 (Pack.enc false) a2]])) := by
  refine Ok_of3 c72 Try.f72 1 9 (fun q => ?_)
  unfold slices_ContainsFunc_Lint64_impl_arePlaces_1
  refine J_g 2 [] [(0, sl 1 eI64 a1), (1, .fn 89 [pp 0])] [(0, .box [sl 8 (Pack.enc false) a2])] orcN ?_
  refine J_bind (fun x3 h4 => ?_)
  refine J_g 6 [] [(4, bv (decide (x3 ≥ 0)))] [(0, .box [sl 8 (Pack.enc false) a2])] (orcC 2 (x_ro [(0, .box [sl 8 (Pack.enc false) a2])] [] (x_c1 («as» := [sl 1 eI64 a1, .fn 89 [pp 0]]) [(.tmp 5), (.tmp 6)] [23, 108] false [(0, .box [sl 8 (Pack.enc false) a2])] [0] (.cons (.same rfl) (.cons (.fn (.cons (.pt rfl) (.nil))) (.nil))) (slices_IndexFunc_Lint64_impl_arePlaces_1.ok a1 a2) h4 (.same rfl rfl))) orcN) ?_
  exact J_r1 rfl

noncomputable def c53 : Code := (Try.f53.body).getD .skip

theorem impl_arePlaces.ok (a1 : (List Pack)) (a2 : (List Int)) : Ok Try.prog 53 [sl 8 (Pack.enc false) a1, sl 1 eI64 a2] [] ((impl_arePlaces a1 a2).map fun r => (bv r, [])) := by
  refine Ok_of3 c53 Try.f53 0 9 (fun q => ?_)
  unfold impl_arePlaces
  refine J_g 2 [(0, 0)] [(1, sl 1 eI64 a2), (2, pp 0)] [(0, .box [sl 8 (Pack.enc false) a1])] orcN ?_
  refine J_bind (fun x3 h4 => ?_)
  refine J_g 6 [] [(4, bv (!x3))] [] (orcC 2 (x_ro [(0, .box [sl 8 (Pack.enc false) a1])] [] (x_c1 («as» := [sl 1 eI64 a2, .fn 89 [pp 0]]) [(.tmp 5), (.tmp 6)] [23, 108] false [(0, .box [sl 8 (Pack.enc false) a1])] [0] (.cons (.same rfl) (.cons (.fn (.cons (.pt rfl) (.nil))) (.nil))) (slices_ContainsFunc_Lint64_impl_arePlaces_1.ok a2 a1) h4 (.same rfl rfl))) orcN) ?_
  exact J_r1 rfl

noncomputable def c30 : Code := (Try.f30.body).getD .skip

theorem impl_SetFault_l1.ok (a1 : (List Pack)) (a2 : (List Int)) (q : Wd) (kn : Unit → Option (D × List Ent)) (hk : ∀ v : Unit, J (q.g Try.prog 30 0 32) c30 (atI c30 15) (St.mk' [(0, sl 8 (Pack.enc false) a1), (1, sl 1 eI64 a2)] []) (some v) kn) :
    ∀ s12 : Int, J (q.g Try.prog 30 0 32) c30 (atI c30 116) (St.mk' [(0, sl 8 (Pack.enc false) a1), (1, sl 1 eI64 a2), (6, iv s12)] []) (impl_SetFault_l1 a1 a2 s12) (Fl.go (fun r : Int => some (iv r, [])) kn) := by
  refine J_lp (fun g ih s12 => ?_)
  unfold impl_SetFault_l1b
  refine J_g 464 [] [(0, sl 8 (Pack.enc false) a1), (1, sl 1 eI64 a2), (6, iv s12), (15, bv (decide (s12 < (a2.length : Int))))] [] orcN ?_
  refine J_if2 15 (fun h13 => ?_) (fun h13 => ?_)
  · refine J_bind (fun x14 h15 => ?_)
    refine J_bind (fun x16 h17 => ?_)
    refine J_g 1864 [] [(0, sl 8 (Pack.enc false) a1), (1, sl 1 eI64 a2), (6, iv s12), (27, bv (decide (x14 ≤ x16)))] [] (orcC 2 (x_ix (kk := .i64) 23 2 1 eI64 (.tmp 18) (.tmp 19) h15) (orcC 7 (x_ix (kk := .i64) 23 2 1 eI64 (.tmp 22) (.tmp 24) h17) orcN)) ?_
    refine J_if2 27 (fun h18 => ?_) (fun h18 => ?_)
    · refine J_g 7460 [] [(4, iv 1)] [] orcN ?_
      exact J_r1 rfl
    · refine J_g 467 [] [(0, sl 8 (Pack.enc false) a1), (1, sl 1 eI64 a2), (6, iv (w64 (s12 + 1)))] [] orcN ?_
      exact J_q (J_b (ih (w64 (s12 + 1)))) rfl
  · exact J_qw (hk ()) rfl

theorem impl_SetFault.ok (a1 : (List Pack)) (a2 : (List Int)) : Ok Try.prog 30 [sl 8 (Pack.enc false) a1, sl 1 eI64 a2] [] ((impl_SetFault a1 a2).map fun r => (iv r, [])) := by
  refine Ok_of3 c30 Try.f30 0 32 (fun q => ?_)
  unfold impl_SetFault
  refine J_g 2 [] [(0, sl 8 (Pack.enc false) a1), (1, sl 1 eI64 a2)] [] orcN ?_
  refine J_bind (fun x3 h4 => ?_)
  refine J_g 12 [] [(0, sl 8 (Pack.enc false) a1), (1, sl 1 eI64 a2), (5, iv x3)] [] (orcC 1 (x_c0 [(.tmp 7)] [28] (impl_CatalogFault.ok a1) h4) orcN) ?_
  refine J_g 26 [] [(0, sl 8 (Pack.enc false) a1), (1, sl 1 eI64 a2), (5, iv x3), (10, bv (x3 != 0))] [] orcN ?_
  refine J_if2 10 (fun h5 => ?_) (fun h5 => ?_)
  · refine J_g 108 [] [(4, iv x3)] [] orcN ?_
    exact J_r1 rfl
  · refine J_g 28 [] [(0, sl 8 (Pack.enc false) a1), (1, sl 1 eI64 a2), (6, iv 1)] [] orcN ?_
    refine J_lqF (K0 := (fun r : Int => some (iv r, []))) (fun _ => rfl) (impl_SetFault_l1.ok a1 a2 q _ (fun v19 => J_j ?_) 1)
    refine J_bind (fun x20 h21 => ?_)
    refine J_g 60 [] [(31, bv (!x20))] [] (orcC 2 (x_c0 [(.tmp 28), (.tmp 29)] [28, 23] (impl_arePlaces.ok a1 a2) h21) orcN) ?_
    refine J_if2 31 (fun h22 => ?_) (fun h22 => ?_)
    · refine J_g 244 [] [(4, iv 1)] [] orcN ?_
      exact J_r1 rfl
    · refine J_g 62 [] [(4, iv 0)] [] orcN ?_
      exact J_r1 rfl

noncomputable def c90 : Code := (Try.f90.body).getD .skip

theorem impl_named_l1.ok (a1 : (List Pack)) (a2 : (List Int)) (a3 : ByteArray) (q : Wd) (kn : Unit → Option (D × List Ent)) (hk : ∀ v : Unit, J (q.g Try.prog 90 0 24) c90 (atI c90 7) (St.mk' [] []) (some v) kn) :
    ∀ s10 : Int, J (q.g Try.prog 90 0 24) c90 (atI c90 52) (St.mk' [(0, sl 8 (Pack.enc false) a1), (2, sv a3), (9, sl 1 eI64 a2), (10, iv (a2.length : Int)), (11, iv s10)] []) (impl_named_l1 a1 a2 a3 s10) (Fl.go (fun r : Int => some (iv r, [])) kn) := by
  refine J_lp (fun g ih s10 => ?_)
  unfold impl_named_l1b
  refine J_g 104 [] [(0, sl 8 (Pack.enc false) a1), (2, sv a3), (9, sl 1 eI64 a2), (10, iv (a2.length : Int)), (11, iv s10), (12, bv (decide (s10 < (a2.length : Int))))] [] orcN ?_
  refine J_if2 12 (fun h11 => ?_) (fun h11 => ?_)
  · refine J_bind (fun x12 h13 => ?_)
    refine J_g 1688 [] [(0, sl 8 (Pack.enc false) a1), (2, sv a3), (8, iv x12), (9, sl 1 eI64 a2), (10, iv (a2.length : Int)), (11, iv s10)] [] (orcC 0 (x_ix (kk := .i64) 23 2 1 eI64 (.tmp 9) (.tmp 11) h13) orcN) ?_
    refine J_bind (fun x14 h15 => ?_)
    refine J_g 3378 [] [(0, sl 8 (Pack.enc false) a1), (2, sv a3), (8, iv x12), (9, sl 1 eI64 a2), (10, iv (a2.length : Int)), (11, iv s10), (21, bv (seq x14.Name a3))] [] (orcC 2 (x_ix (kk := .i64) 28 66 8 (Pack.enc false) (.tmp 15) (.tmp 16) h15) orcN) ?_
    refine J_if2 21 (fun h16 => ?_) (fun h16 => ?_)
    · refine J_g 13516 [] [(6, iv x12)] [] orcN ?_
      exact J_r1 rfl
    · refine J_g 423 [] [(0, sl 8 (Pack.enc false) a1), (2, sv a3), (9, sl 1 eI64 a2), (10, iv (a2.length : Int)), (11, iv (w64 (s10 + 1)))] [] orcN ?_
      exact J_q (J_b (ih (w64 (s10 + 1)))) rfl
  · exact J_qw (hk ()) rfl

theorem impl_named.ok (a1 : (List Pack)) (a2 : (List Int)) (a3 : ByteArray) : Ok Try.prog 90 [sl 8 (Pack.enc false) a1, sl 1 eI64 a2, sv a3] [] ((impl_named a1 a2 a3).map fun r => (iv r, [])) := by
  refine Ok_of3 c90 Try.f90 0 24 (fun q => ?_)
  unfold impl_named
  refine J_g 2 [] [(0, sl 8 (Pack.enc false) a1), (1, sl 1 eI64 a2), (2, sv a3)] [] orcN ?_
  refine J_g 12 [] [(0, sl 8 (Pack.enc false) a1), (2, sv a3), (9, sl 1 eI64 a2), (10, iv (a2.length : Int)), (11, iv 0)] [] orcN ?_
  refine J_lqF (K0 := (fun r : Int => some (iv r, []))) (fun _ => rfl) (impl_named_l1.ok a1 a2 a3 q _ (fun v17 => J_j ?_) 0)
  refine J_g 14 [] [(6, iv (-1))] [] orcN ?_
  exact J_r1 rfl

noncomputable def c127 : Code := (Try.f127.body).getD .skip

theorem impl_Pack_names.ok (a1 : Pack) : Ok Try.prog 127 [.ag (Pack.enc false a1)] [] ((impl_Pack_names a1).map fun r => (so 1 eStr r, [])) := by
  refine Ok_of3 c127 Try.f127 0 9 (fun q => ?_)
  unfold impl_Pack_names
  refine J_g 2 [(0, 0)] [(1, pp 0)] [(0, .box (Pack.enc false a1))] orcN ?_
  refine J_bind (fun x2 h3 => ?_)
  refine J_g 6 [] [(2, rr 2 x2)] [(2, rE 1 eStr x2)] (orcC 2 (x_bp 56 9 1 1 eStr [a1.Name] [0] [(.tmp 4)] [sv a1.Name]) (orcC 5 (x_aps 56 56 9 9 1 16 2 1 eStr (.tmp 5) (.tmp 7) h3) orcN)) ?_
  exact J_rm (ds := [rr 2 x2]) (ds' := [so 1 eStr x2]) (.cons (.cell (.move (.head _) (List.length_map _) (by decide) (.nil))) (.nil) (by decide)) rfl

noncomputable def c129 : Code := (Try.f129.body).getD .skip

theorem impl_Term_has.ok (a1 : Term) (a2 : ByteArray) (a3 : Version) : Ok Try.prog 129 [.ag (Term.enc a1), sv a2, .ag (Version.enc a3)] [] ((impl_Term_has a1 a2 a3).map fun r => (bv r, [])) := by
  refine Ok_of3 c129 Try.f129 0 25 (fun q => ?_)
  unfold impl_Term_has
  refine J_g 2 [(0, 0), (1, 1)] [(1, sv a2), (3, pp 0), (5, pp 1)] [(0, .box (Term.enc a1)), (1, .box (Version.enc a3))] orcN ?_
  refine J_ite (fun h4 => ?_) (fun h4 => ?_)
  · refine J_bind (fun x5 h6 => ?_)
    refine J_ite (fun h7 => ?_) (fun h7 => ?_)
    · refine J_bind (fun x8 h9 => ?_)
      refine J_g 6 [] [(6, bv (decide (x8 < 0)))] [] (orcL 4 [(10, bv (seq a1.Name a2))] [] h4 (orcH 8 4 11 true (x_c0 [(.tmp 13), (.tmp 14)] [62, 62] (impl_compare.ok a1.Low a3) h6) (orcL 11 [(17, bv (decide (x5 ≤ 0)))] [] h7 (orcH 15 11 18 true (x_c0 [(.tmp 19), (.tmp 21)] [62, 62] (impl_compare.ok a3 a1.High) h9) orcN)))) ?_
      exact J_r1 rfl
    · refine J_g 6 [] [(6, bv false)] [] (orcL 4 [(10, bv (seq a1.Name a2))] [] h4 (orcH 8 4 11 true (x_c0 [(.tmp 13), (.tmp 14)] [62, 62] (impl_compare.ok a1.Low a3) h6) (orcL 11 [(17, bv (decide (x5 ≤ 0)))] [] h7 orcN))) ?_
      exact J_r1 rfl
  · refine J_g 6 [] [(6, bv false)] [] (orcL 4 [(10, bv (seq a1.Name a2))] [] h4 orcN) ?_
    exact J_r1 rfl

noncomputable def c128 : Code := (Try.f128.body).getD .skip

theorem impl_Pack_gives_1.ok (a1 : ByteArray) (a2 : Term) (a3 : Pack) : Ok Try.prog 128 [sv a1, pp 0, pp 1] [.box (Term.enc a2), .box (Pack.enc false a3)] ((impl_Pack_gives_1 a1 a2 a3).map fun r => (bv r, [.box (Term.enc a2), .box (Pack.enc false a3)])) := by
  refine Ok_of3 c128 Try.f128 2 10 (fun q => ?_)
  unfold impl_Pack_gives_1
  refine J_g 2 [] [(0, sv a1), (1, pp 0), (2, pp 1)] [(0, .box (Term.enc a2)), (1, .box (Pack.enc false a3))] orcN ?_
  refine J_bind (fun x4 h5 => ?_)
  refine J_g 6 [] [(4, bv x4)] [(0, .box (Term.enc a2)), (1, .box (Pack.enc false a3))] (orcC 4 (x_c0 [(.tmp 5), (.tmp 6), (.tmp 8)] [119, 9, 62] (impl_Term_has.ok a2 a1 a3.Version) h5) orcN) ?_
  exact J_r1 rfl

noncomputable def c157 : Code := (Try.f157.body).getD .skip

theorem slices_IndexFunc_Lstringr_impl_Pack_gives_1_l1.ok (a1 : (List ByteArray)) (a2 : Term) (a3 : Pack) (q : Wd) (kn : Unit → Option (D × List Ent)) (hk : ∀ v : Unit, J (q.g Try.prog 157 3 19) c157 (atI c157 7) (St.mk' [] [(0, rE 1 eStr a1), (1, .box (Term.enc a2)), (2, .box (Pack.enc false a3))]) (some v) kn) :
    ∀ s10 : Int, J (q.g Try.prog 157 3 19) c157 (atI c157 52) (St.mk' [(0, rr 0 a1), (1, .fn 128 [pp 1, pp 2]), (7, iv (a1.length : Int)), (8, iv s10)] [(0, rE 1 eStr a1), (1, .box (Term.enc a2)), (2, .box (Pack.enc false a3))]) (slices_IndexFunc_Lstringr_impl_Pack_gives_1_l1 a1 a2 a3 s10) (Fl.go (fun r : Int => some (iv r, [rE 1 eStr a1, .box (Term.enc a2), .box (Pack.enc false a3)])) kn) := by
  refine J_lp (fun g ih s10 => ?_)
  unfold slices_IndexFunc_Lstringr_impl_Pack_gives_1_l1b
  refine J_g 104 [] [(0, rr 0 a1), (1, .fn 128 [pp 1, pp 2]), (7, iv (a1.length : Int)), (8, iv s10), (9, bv (decide (s10 < (a1.length : Int))))] [(0, rE 1 eStr a1), (1, .box (Term.enc a2)), (2, .box (Pack.enc false a3))] orcN ?_
  refine J_if2 9 (fun h11 => ?_) (fun h11 => ?_)
  · refine J_g 1688 [] [(0, rr 0 a1), (1, .fn 128 [pp 1, pp 2]), (5, iv s10), (7, iv (a1.length : Int)), (8, iv s10)] [(0, rE 1 eStr a1), (1, .box (Term.enc a2)), (2, .box (Pack.enc false a3))] orcN ?_
    refine J_bind (fun x12 h13 => ?_)
    refine J_bind (fun x14 h15 => ?_)
    refine J_g 3378 [] [(0, rr 0 a1), (1, .fn 128 [pp 1, pp 2]), (5, iv s10), (7, iv (a1.length : Int)), (8, iv s10), (16, bv x14)] [(0, rE 1 eStr a1), (1, .box (Term.enc a2)), (2, .box (Pack.enc false a3))] (orcC 3 (x_ixr (kk := .i64) 56 9 1 0 eStr (.tmp 12) (.tmp 13) h13) (orcC 4 (x_ldr (d := sv x12) 9 1 0 0 eStr (.tmp 14) h13 (by kernel_rfl)) (orcC 5 (x_ro [(1, .box (Term.enc a2)), (2, .box (Pack.enc false a3))] [] (x_c1v 11 [(.tmp 15)] [9] false [(1, .box (Term.enc a2)), (2, .box (Pack.enc false a3))] [1, 2] [sv x12] [pp 1, pp 2] (.cons (.same rfl) (.cons (.pt rfl) (.cons (.pt rfl) (.nil)))) (impl_Pack_gives_1.ok x12 a2 a3) h15 (.same rfl rfl))) orcN))) ?_
    refine J_if2 16 (fun h16 => ?_) (fun h16 => ?_)
    · refine J_g 13516 [] [(4, iv s10)] [(0, rE 1 eStr a1), (1, .box (Term.enc a2)), (2, .box (Pack.enc false a3))] orcN ?_
      exact J_r1 rfl
    · refine J_g 423 [] [(0, rr 0 a1), (1, .fn 128 [pp 1, pp 2]), (7, iv (a1.length : Int)), (8, iv (w64 (s10 + 1)))] [(0, rE 1 eStr a1), (1, .box (Term.enc a2)), (2, .box (Pack.enc false a3))] orcN ?_
      exact J_q (J_b (ih (w64 (s10 + 1)))) rfl
  · exact J_qw (hk ()) rfl

theorem slices_IndexFunc_Lstringr_impl_Pack_gives_1.ok (a1 : (List ByteArray)) (a2 : Term) (a3 : Pack) : Ok Try.prog 157 [rr 0 a1, .fn 128 [pp 1, pp 2]] [rE 1 eStr a1, .box (Term.enc a2), .box (Pack.enc false a3)] ((slices_IndexFunc_Lstringr_impl_Pack_gives_1 a1 a2 a3).map fun r => (iv r, [rE 1 eStr a1, .box (Term.enc a2), .box (Pack.enc false a3)])) := by
  refine Ok_of3 c157 Try.f157 3 19 (fun q => ?_)
  unfold slices_IndexFunc_Lstringr_impl_Pack_gives_1
  refine J_g 2 [] [(0, rr 0 a1), (1, .fn 128 [pp 1, pp 2])] [(0, rE 1 eStr a1), (1, .box (Term.enc a2)), (2, .box (Pack.enc false a3))] orcN ?_
  refine J_g 12 [] [(0, rr 0 a1), (1, .fn 128 [pp 1, pp 2]), (7, iv (a1.length : Int)), (8, iv 0)] [(0, rE 1 eStr a1), (1, .box (Term.enc a2)), (2, .box (Pack.enc false a3))] orcN ?_
  refine J_lqF (K0 := (fun r : Int => some (iv r, [rE 1 eStr a1, .box (Term.enc a2), .box (Pack.enc false a3)]))) (fun _ => rfl) (slices_IndexFunc_Lstringr_impl_Pack_gives_1_l1.ok a1 a2 a3 q _ (fun v17 => J_j ?_) 0)
  refine J_g 14 [] [(4, iv (-1))] [(0, rE 1 eStr a1), (1, .box (Term.enc a2)), (2, .box (Pack.enc false a3))] orcN ?_
  exact J_r1 rfl

noncomputable def c126 : Code := (Try.f126.body).getD .skip

theorem slices_ContainsFunc_Lstringr_impl_Pack_gives_1.ok (a1 : (List ByteArray)) (a2 : Term) (a3 : Pack) : Ok Try.prog 126 [rr 0 a1, .fn 128 [pp 1, pp 2]] [rE 1 eStr a1, .box (Term.enc a2), .box (Pack.enc false a3)] ((slices_ContainsFunc_Lstringr_impl_Pack_gives_1 a1 a2 a3).map fun r => (bv r, [rE 1 eStr a1, .box (Term.enc a2), .box (Pack.enc false a3)])) := by
  refine Ok_of3 c126 Try.f126 3 9 (fun q => ?_)
  unfold slices_ContainsFunc_Lstringr_impl_Pack_gives_1
  refine J_g 2 [] [(0, rr 0 a1), (1, .fn 128 [pp 1, pp 2])] [(0, rE 1 eStr a1), (1, .box (Term.enc a2)), (2, .box (Pack.enc false a3))] orcN ?_
  refine J_bind (fun x4 h5 => ?_)
  refine J_g 6 [] [(4, bv (decide (x4 ≥ 0)))] [(0, rE 1 eStr a1), (1, .box (Term.enc a2)), (2, .box (Pack.enc false a3))] (orcC 2 (x_ro [(0, rE 1 eStr a1), (1, .box (Term.enc a2)), (2, .box (Pack.enc false a3))] [] (x_c1 («as» := [rr 0 a1, .fn 128 [pp 1, pp 2]]) [(.tmp 5), (.tmp 6)] [56, 160] false [(0, rE 1 eStr a1), (1, .box (Term.enc a2)), (2, .box (Pack.enc false a3))] [0, 1, 2] (.cons (.rf rfl) (.cons (.fn (.cons (.pt rfl) (.cons (.pt rfl) (.nil)))) (.nil))) (slices_IndexFunc_Lstringr_impl_Pack_gives_1.ok a1 a2 a3) h5 (.same rfl rfl))) orcN) ?_
  exact J_r1 rfl

noncomputable def c94 : Code := (Try.f94.body).getD .skip

theorem impl_Pack_gives.ok (a1 : Pack) (a2 : Term) : Ok Try.prog 94 [.ag (Pack.enc false a1), .ag (Term.enc a2)] [] ((impl_Pack_gives a1 a2).map fun r => (bv r, [])) := by
  refine Ok_of3 c94 Try.f94 0 9 (fun q => ?_)
  unfold impl_Pack_gives
  refine J_g 2 [(0, 0), (1, 1)] [(2, pp 0), (3, pp 1)] [(0, .box (Pack.enc false a1)), (1, .box (Term.enc a2))] orcN ?_
  refine J_bind (fun x3 h4 => ?_)
  refine J_bind (fun x5 h6 => ?_)
  refine J_g 6 [] [(4, bv x5)] [] (orcC 1 (x_c1 («as» := [.ag (Pack.enc false a1)]) [(.tmp 5)] [66] false [] [] (.cons (.same rfl) (.nil)) (impl_Pack_names.ok a1) h4 (.own 2)) (orcC 3 (x_ro [(2, rE 1 eStr x3), (1, .box (Term.enc a2)), (0, .box (Pack.enc false a1))] [] (x_c1 («as» := [rr 2 x3, .fn 128 [pp 1, pp 0]]) [(.tmp 6), (.tmp 7)] [56, 160] false [(2, rE 1 eStr x3), (1, .box (Term.enc a2)), (0, .box (Pack.enc false a1))] [2, 1, 0] (.cons (.rf rfl) (.cons (.fn (.cons (.pt rfl) (.cons (.pt rfl) (.nil)))) (.nil))) (slices_ContainsFunc_Lstringr_impl_Pack_gives_1.ok x3 a2 a1) h6 (.same rfl rfl))) orcN)) ?_
  exact J_r1 rfl

noncomputable def c156 : Code := (Try.f156.body).getD .skip

theorem slices_IndexFunc_LimplTerm_impl_Pack_gives_l1.ok (a1 : (List Term)) (a2 : Pack) (q : Wd) (kn : Unit → Option (D × List Ent)) (hk : ∀ v : Unit, J (q.g Try.prog 156 0 19) c156 (atI c156 7) (St.mk' [] []) (some v) kn) :
    ∀ s9 : Int, J (q.g Try.prog 156 0 19) c156 (atI c156 52) (St.mk' [(0, sl 7 Term.enc a1), (1, .fb 94 [.ag (Pack.enc false a2)]), (7, iv (a1.length : Int)), (8, iv s9)] []) (slices_IndexFunc_LimplTerm_impl_Pack_gives_l1 a1 a2 s9) (Fl.go (fun r : Int => some (iv r, [])) kn) := by
  refine J_lp (fun g ih s9 => ?_)
  unfold slices_IndexFunc_LimplTerm_impl_Pack_gives_l1b
  refine J_g 104 [] [(0, sl 7 Term.enc a1), (1, .fb 94 [.ag (Pack.enc false a2)]), (7, iv (a1.length : Int)), (8, iv s9), (9, bv (decide (s9 < (a1.length : Int))))] [] orcN ?_
  refine J_if2 9 (fun h10 => ?_) (fun h10 => ?_)
  · refine J_g 1688 [] [(0, sl 7 Term.enc a1), (1, .fb 94 [.ag (Pack.enc false a2)]), (5, iv s9), (7, iv (a1.length : Int)), (8, iv s9)] [] orcN ?_
    refine J_bind (fun x11 h12 => ?_)
    refine J_bind (fun x13 h14 => ?_)
    refine J_g 3378 [] [(0, sl 7 Term.enc a1), (1, .fb 94 [.ag (Pack.enc false a2)]), (5, iv s9), (7, iv (a1.length : Int)), (8, iv s9), (16, bv x13)] [] (orcC 3 (x_ix (kk := .i64) 64 119 7 Term.enc (.tmp 12) (.tmp 13) h12) (orcC 5 (x_c0b («as» := [.ag (Term.enc x11)]) (caps := [.ag (Pack.enc false a2)]) 11 [(.tmp 15)] [119] (impl_Pack_gives.ok a2 x11) h14) orcN)) ?_
    refine J_if2 16 (fun h15 => ?_) (fun h15 => ?_)
    · refine J_g 13516 [] [(4, iv s9)] [] orcN ?_
      exact J_r1 rfl
    · refine J_g 423 [] [(0, sl 7 Term.enc a1), (1, .fb 94 [.ag (Pack.enc false a2)]), (7, iv (a1.length : Int)), (8, iv (w64 (s9 + 1)))] [] orcN ?_
      exact J_q (J_b (ih (w64 (s9 + 1)))) rfl
  · exact J_qw (hk ()) rfl

theorem slices_IndexFunc_LimplTerm_impl_Pack_gives.ok (a1 : (List Term)) (a2 : Pack) : Ok Try.prog 156 [sl 7 Term.enc a1, .fb 94 [.ag (Pack.enc false a2)]] [] ((slices_IndexFunc_LimplTerm_impl_Pack_gives a1 a2).map fun r => (iv r, [])) := by
  refine Ok_of3 c156 Try.f156 0 19 (fun q => ?_)
  unfold slices_IndexFunc_LimplTerm_impl_Pack_gives
  refine J_g 2 [] [(0, sl 7 Term.enc a1), (1, .fb 94 [.ag (Pack.enc false a2)])] [] orcN ?_
  refine J_g 12 [] [(0, sl 7 Term.enc a1), (1, .fb 94 [.ag (Pack.enc false a2)]), (7, iv (a1.length : Int)), (8, iv 0)] [] orcN ?_
  refine J_lqF (K0 := (fun r : Int => some (iv r, []))) (fun _ => rfl) (slices_IndexFunc_LimplTerm_impl_Pack_gives_l1.ok a1 a2 q _ (fun v16 => J_j ?_) 0)
  refine J_g 14 [] [(4, iv (-1))] [] orcN ?_
  exact J_r1 rfl

noncomputable def c125 : Code := (Try.f125.body).getD .skip

theorem slices_ContainsFunc_LimplTerm_impl_Pack_gives.ok (a1 : (List Term)) (a2 : Pack) : Ok Try.prog 125 [sl 7 Term.enc a1, .fb 94 [.ag (Pack.enc false a2)]] [] ((slices_ContainsFunc_LimplTerm_impl_Pack_gives a1 a2).map fun r => (bv r, [])) := by
  refine Ok_of3 c125 Try.f125 0 9 (fun q => ?_)
  unfold slices_ContainsFunc_LimplTerm_impl_Pack_gives
  refine J_g 2 [] [(0, sl 7 Term.enc a1), (1, .fb 94 [.ag (Pack.enc false a2)])] [] orcN ?_
  refine J_bind (fun x3 h4 => ?_)
  refine J_g 6 [] [(4, bv (decide (x3 ≥ 0)))] [] (orcC 2 (x_c1 («as» := [sl 7 Term.enc a1, .fb 94 [.ag (Pack.enc false a2)]]) [(.tmp 5), (.tmp 6)] [64, 127] false [] [] (.cons (.same rfl) (.cons (.fb (.cons (.same rfl) (.nil))) (.nil))) (slices_IndexFunc_LimplTerm_impl_Pack_gives.ok a1 a2) h4 (.same rfl rfl)) orcN) ?_
  exact J_r1 rfl

noncomputable def c92 : Code := (Try.f92.body).getD .skip

theorem impl_Pack_givesOne.ok (a1 : Pack) (a2 : (List Term)) : Ok Try.prog 92 [.ag (Pack.enc false a1), sl 7 Term.enc a2] [] ((impl_Pack_givesOne a1 a2).map fun r => (bv r, [])) := by
  refine Ok_of3 c92 Try.f92 0 9 (fun q => ?_)
  unfold impl_Pack_givesOne
  refine J_g 2 [(0, 0)] [(1, sl 7 Term.enc a2), (2, pp 0)] [(0, .box (Pack.enc false a1))] orcN ?_
  refine J_bind (fun x3 h4 => ?_)
  refine J_g 6 [] [(4, bv x3)] [] (orcC 2 (x_mkb 94 [(.tmp 6)] [.ag (Pack.enc false a1)]) (orcC 3 (x_c1 («as» := [sl 7 Term.enc a2, .fb 94 [.ag (Pack.enc false a1)]]) [(.tmp 5), (.tmp 7)] [64, 127] false [] [] (.cons (.same rfl) (.cons (.fb (.cons (.same rfl) (.nil))) (.nil))) (slices_ContainsFunc_LimplTerm_impl_Pack_gives.ok a2 a1) h4 (.same rfl rfl)) orcN)) ?_
  exact J_r1 rfl

noncomputable def c91 : Code := (Try.f91.body).getD .skip

theorem impl_faults_1.ok (a1 : Int) (a2 : (List Pack)) (a3 : (List Term)) : Ok Try.prog 91 [iv a1, pp 0, pp 1] [.box [sl 8 (Pack.enc false) a2], .box [sl 7 Term.enc a3]] ((impl_faults_1 a1 a2 a3).map fun r => (bv r, [.box [sl 8 (Pack.enc false) a2], .box [sl 7 Term.enc a3]])) := by
  refine Ok_of3 c91 Try.f91 2 11 (fun q => ?_)
  unfold impl_faults_1
  refine J_g 2 [] [(0, iv a1), (1, pp 0), (2, pp 1)] [(0, .box [sl 8 (Pack.enc false) a2]), (1, .box [sl 7 Term.enc a3])] orcN ?_
  refine J_bind (fun x4 h5 => ?_)
  refine J_bind (fun x6 h7 => ?_)
  refine J_g 6 [] [(4, bv x6)] [(0, .box [sl 8 (Pack.enc false) a2]), (1, .box [sl 7 Term.enc a3])] (orcC 2 (x_ix (kk := .i64) 28 66 8 (Pack.enc false) (.tmp 5) (.tmp 6) h5) (orcC 5 (x_c0 [(.tmp 8), (.tmp 9)] [66, 64] (impl_Pack_givesOne.ok x4 a3) h7) orcN)) ?_
  exact J_r1 rfl

theorem slices_IndexFunc_Lint64_impl_faults_1_l1.ok (a1 : (List Int)) (a2 : (List Pack)) (a3 : (List Term)) (q : Wd) (kn : Unit → Option (D × List Ent)) (hk : ∀ v : Unit, J (q.g Try.prog 106 2 19) c106 (atI c106 7) (St.mk' [] [(0, .box [sl 8 (Pack.enc false) a2]), (1, .box [sl 7 Term.enc a3])]) (some v) kn) :
    ∀ s10 : Int, J (q.g Try.prog 106 2 19) c106 (atI c106 52) (St.mk' [(0, sl 1 eI64 a1), (1, .fn 91 [pp 0, pp 1]), (7, iv (a1.length : Int)), (8, iv s10)] [(0, .box [sl 8 (Pack.enc false) a2]), (1, .box [sl 7 Term.enc a3])]) (slices_IndexFunc_Lint64_impl_faults_1_l1 a1 a2 a3 s10) (Fl.go (fun r : Int => some (iv r, [.box [sl 8 (Pack.enc false) a2], .box [sl 7 Term.enc a3]])) kn) := by
  refine J_lp (fun g ih s10 => ?_)
  unfold slices_IndexFunc_Lint64_impl_faults_1_l1b
  refine J_g 104 [] [(0, sl 1 eI64 a1), (1, .fn 91 [pp 0, pp 1]), (7, iv (a1.length : Int)), (8, iv s10), (9, bv (decide (s10 < (a1.length : Int))))] [(0, .box [sl 8 (Pack.enc false) a2]), (1, .box [sl 7 Term.enc a3])] orcN ?_
  refine J_if2 9 (fun h11 => ?_) (fun h11 => ?_)
  · refine J_g 1688 [] [(0, sl 1 eI64 a1), (1, .fn 91 [pp 0, pp 1]), (5, iv s10), (7, iv (a1.length : Int)), (8, iv s10)] [(0, .box [sl 8 (Pack.enc false) a2]), (1, .box [sl 7 Term.enc a3])] orcN ?_
    refine J_bind (fun x12 h13 => ?_)
    refine J_bind (fun x14 h15 => ?_)
    refine J_g 3378 [] [(0, sl 1 eI64 a1), (1, .fn 91 [pp 0, pp 1]), (5, iv s10), (7, iv (a1.length : Int)), (8, iv s10), (16, bv x14)] [(0, .box [sl 8 (Pack.enc false) a2]), (1, .box [sl 7 Term.enc a3])] (orcC 3 (x_ix (kk := .i64) 23 2 1 eI64 (.tmp 12) (.tmp 13) h13) (orcC 5 (x_ro [(0, .box [sl 8 (Pack.enc false) a2]), (1, .box [sl 7 Term.enc a3])] [] (x_c1v 11 [(.tmp 15)] [2] false [(0, .box [sl 8 (Pack.enc false) a2]), (1, .box [sl 7 Term.enc a3])] [0, 1] [iv x12] [pp 0, pp 1] (.cons (.same rfl) (.cons (.pt rfl) (.cons (.pt rfl) (.nil)))) (impl_faults_1.ok x12 a2 a3) h15 (.same rfl rfl))) orcN)) ?_
    refine J_if2 16 (fun h16 => ?_) (fun h16 => ?_)
    · refine J_g 13516 [] [(4, iv s10)] [(0, .box [sl 8 (Pack.enc false) a2]), (1, .box [sl 7 Term.enc a3])] orcN ?_
      exact J_r1 rfl
    · refine J_g 423 [] [(0, sl 1 eI64 a1), (1, .fn 91 [pp 0, pp 1]), (7, iv (a1.length : Int)), (8, iv (w64 (s10 + 1)))] [(0, .box [sl 8 (Pack.enc false) a2]), (1, .box [sl 7 Term.enc a3])] orcN ?_
      exact J_q (J_b (ih (w64 (s10 + 1)))) rfl
  · exact J_qw (hk ()) rfl

theorem slices_IndexFunc_Lint64_impl_faults_1.ok (a1 : (List Int)) (a2 : (List Pack)) (a3 : (List Term)) : Ok Try.prog 106 [sl 1 eI64 a1, .fn 91 [pp 0, pp 1]] [.box [sl 8 (Pack.enc false) a2], .box [sl 7 Term.enc a3]] ((slices_IndexFunc_Lint64_impl_faults_1 a1 a2 a3).map fun r => (iv r, [.box [sl 8 (Pack.enc false) a2], .box [sl 7 Term.enc a3]])) := by
  refine Ok_of3 c106 Try.f106 2 19 (fun q => ?_)
  unfold slices_IndexFunc_Lint64_impl_faults_1
  refine J_g 2 [] [(0, sl 1 eI64 a1), (1, .fn 91 [pp 0, pp 1])] [(0, .box [sl 8 (Pack.enc false) a2]), (1, .box [sl 7 Term.enc a3])] orcN ?_
  refine J_g 12 [] [(0, sl 1 eI64 a1), (1, .fn 91 [pp 0, pp 1]), (7, iv (a1.length : Int)), (8, iv 0)] [(0, .box [sl 8 (Pack.enc false) a2]), (1, .box [sl 7 Term.enc a3])] orcN ?_
  refine J_lqF (K0 := (fun r : Int => some (iv r, [.box [sl 8 (Pack.enc false) a2], .box [sl 7 Term.enc a3]]))) (fun _ => rfl) (slices_IndexFunc_Lint64_impl_faults_1_l1.ok a1 a2 a3 q _ (fun v17 => J_j ?_) 0)
  refine J_g 14 [] [(4, iv (-1))] [(0, .box [sl 8 (Pack.enc false) a2]), (1, .box [sl 7 Term.enc a3])] orcN ?_
  exact J_r1 rfl

theorem slices_ContainsFunc_Lint64_impl_faults_1.ok (a1 : (List Int)) (a2 : (List Pack)) (a3 : (List Term)) : Ok Try.prog 72 [sl 1 eI64 a1, .fn 91 [pp 0, pp 1]] [.box [sl 8 (Pack.enc false) a2], .box [sl 7 Term.enc a3]] ((slices_ContainsFunc_Lint64_impl_faults_1 a1 a2 a3).map fun r => (bv r, [.box [sl 8 (Pack.enc false) a2], .box [sl 7 Term.enc a3]])) := by
  refine Ok_of3 c72 Try.f72 2 9 (fun q => ?_)
  unfold slices_ContainsFunc_Lint64_impl_faults_1
  refine J_g 2 [] [(0, sl 1 eI64 a1), (1, .fn 91 [pp 0, pp 1])] [(0, .box [sl 8 (Pack.enc false) a2]), (1, .box [sl 7 Term.enc a3])] orcN ?_
  refine J_bind (fun x4 h5 => ?_)
  refine J_g 6 [] [(4, bv (decide (x4 ≥ 0)))] [(0, .box [sl 8 (Pack.enc false) a2]), (1, .box [sl 7 Term.enc a3])] (orcC 2 (x_ro [(0, .box [sl 8 (Pack.enc false) a2]), (1, .box [sl 7 Term.enc a3])] [] (x_c1 («as» := [sl 1 eI64 a1, .fn 91 [pp 0, pp 1]]) [(.tmp 5), (.tmp 6)] [23, 108] false [(0, .box [sl 8 (Pack.enc false) a2]), (1, .box [sl 7 Term.enc a3])] [0, 1] (.cons (.same rfl) (.cons (.fn (.cons (.pt rfl) (.cons (.pt rfl) (.nil)))) (.nil))) (slices_IndexFunc_Lint64_impl_faults_1.ok a1 a2 a3) h5 (.same rfl rfl))) orcN) ?_
  exact J_r1 rfl

noncomputable def c93 : Code := (Try.f93.body).getD .skip

theorem impl_faults_2.ok (a1 : Int) (a2 : Int) (a3 : (List Pack)) (a4 : Term) : Ok Try.prog 93 [iv a1, pp 0, pp 1, pp 2] [.box [iv a2], .box [sl 8 (Pack.enc false) a3], .box (Term.enc a4)] ((impl_faults_2 a1 a2 a3 a4).map fun r => (bv r, [.box [iv a2], .box [sl 8 (Pack.enc false) a3], .box (Term.enc a4)])) := by
  refine Ok_of3 c93 Try.f93 3 17 (fun q => ?_)
  unfold impl_faults_2
  refine J_g 2 [] [(0, iv a1), (1, pp 0), (2, pp 1), (3, pp 2)] [(0, .box [iv a2]), (1, .box [sl 8 (Pack.enc false) a3]), (2, .box (Term.enc a4))] orcN ?_
  refine J_ite (fun h5 => ?_) (fun h5 => ?_)
  · refine J_bind (fun x6 h7 => ?_)
    refine J_bind (fun x8 h9 => ?_)
    refine J_g 6 [] [(5, bv x8)] [(0, .box [iv a2]), (1, .box [sl 8 (Pack.enc false) a3]), (2, .box (Term.enc a4))] (orcL 3 [(8, bv (a1 != a2))] [] h5 (orcH 6 3 9 true (x_ix (kk := .i64) 28 66 8 (Pack.enc false) (.tmp 10) (.tmp 11) h7) (orcH 9 3 9 true (x_c0 [(.tmp 13), (.tmp 14)] [66, 119] (impl_Pack_gives.ok x6 a4) h9) orcN))) ?_
    exact J_r1 rfl
  · refine J_g 6 [] [(5, bv false)] [(0, .box [iv a2]), (1, .box [sl 8 (Pack.enc false) a3]), (2, .box (Term.enc a4))] (orcL 3 [(8, bv (a1 != a2))] [] h5 orcN) ?_
    exact J_r1 rfl

theorem slices_IndexFunc_Lint64_impl_faults_2_l1.ok (a1 : (List Int)) (a2 : Int) (a3 : (List Pack)) (a4 : Term) (q : Wd) (kn : Unit → Option (D × List Ent)) (hk : ∀ v : Unit, J (q.g Try.prog 106 3 19) c106 (atI c106 7) (St.mk' [] [(0, .box [iv a2]), (1, .box [sl 8 (Pack.enc false) a3]), (2, .box (Term.enc a4))]) (some v) kn) :
    ∀ s11 : Int, J (q.g Try.prog 106 3 19) c106 (atI c106 52) (St.mk' [(0, sl 1 eI64 a1), (1, .fn 93 [pp 0, pp 1, pp 2]), (7, iv (a1.length : Int)), (8, iv s11)] [(0, .box [iv a2]), (1, .box [sl 8 (Pack.enc false) a3]), (2, .box (Term.enc a4))]) (slices_IndexFunc_Lint64_impl_faults_2_l1 a1 a2 a3 a4 s11) (Fl.go (fun r : Int => some (iv r, [.box [iv a2], .box [sl 8 (Pack.enc false) a3], .box (Term.enc a4)])) kn) := by
  refine J_lp (fun g ih s11 => ?_)
  unfold slices_IndexFunc_Lint64_impl_faults_2_l1b
  refine J_g 104 [] [(0, sl 1 eI64 a1), (1, .fn 93 [pp 0, pp 1, pp 2]), (7, iv (a1.length : Int)), (8, iv s11), (9, bv (decide (s11 < (a1.length : Int))))] [(0, .box [iv a2]), (1, .box [sl 8 (Pack.enc false) a3]), (2, .box (Term.enc a4))] orcN ?_
  refine J_if2 9 (fun h12 => ?_) (fun h12 => ?_)
  · refine J_g 1688 [] [(0, sl 1 eI64 a1), (1, .fn 93 [pp 0, pp 1, pp 2]), (5, iv s11), (7, iv (a1.length : Int)), (8, iv s11)] [(0, .box [iv a2]), (1, .box [sl 8 (Pack.enc false) a3]), (2, .box (Term.enc a4))] orcN ?_
    refine J_bind (fun x13 h14 => ?_)
    refine J_bind (fun x15 h16 => ?_)
    refine J_g 3378 [] [(0, sl 1 eI64 a1), (1, .fn 93 [pp 0, pp 1, pp 2]), (5, iv s11), (7, iv (a1.length : Int)), (8, iv s11), (16, bv x15)] [(0, .box [iv a2]), (1, .box [sl 8 (Pack.enc false) a3]), (2, .box (Term.enc a4))] (orcC 3 (x_ix (kk := .i64) 23 2 1 eI64 (.tmp 12) (.tmp 13) h14) (orcC 5 (x_ro [(0, .box [iv a2]), (1, .box [sl 8 (Pack.enc false) a3]), (2, .box (Term.enc a4))] [] (x_c1v 11 [(.tmp 15)] [2] false [(0, .box [iv a2]), (1, .box [sl 8 (Pack.enc false) a3]), (2, .box (Term.enc a4))] [0, 1, 2] [iv x13] [pp 0, pp 1, pp 2] (.cons (.same rfl) (.cons (.pt rfl) (.cons (.pt rfl) (.cons (.pt rfl) (.nil))))) (impl_faults_2.ok x13 a2 a3 a4) h16 (.same rfl rfl))) orcN)) ?_
    refine J_if2 16 (fun h17 => ?_) (fun h17 => ?_)
    · refine J_g 13516 [] [(4, iv s11)] [(0, .box [iv a2]), (1, .box [sl 8 (Pack.enc false) a3]), (2, .box (Term.enc a4))] orcN ?_
      exact J_r1 rfl
    · refine J_g 423 [] [(0, sl 1 eI64 a1), (1, .fn 93 [pp 0, pp 1, pp 2]), (7, iv (a1.length : Int)), (8, iv (w64 (s11 + 1)))] [(0, .box [iv a2]), (1, .box [sl 8 (Pack.enc false) a3]), (2, .box (Term.enc a4))] orcN ?_
      exact J_q (J_b (ih (w64 (s11 + 1)))) rfl
  · exact J_qw (hk ()) rfl

theorem slices_IndexFunc_Lint64_impl_faults_2.ok (a1 : (List Int)) (a2 : Int) (a3 : (List Pack)) (a4 : Term) : Ok Try.prog 106 [sl 1 eI64 a1, .fn 93 [pp 0, pp 1, pp 2]] [.box [iv a2], .box [sl 8 (Pack.enc false) a3], .box (Term.enc a4)] ((slices_IndexFunc_Lint64_impl_faults_2 a1 a2 a3 a4).map fun r => (iv r, [.box [iv a2], .box [sl 8 (Pack.enc false) a3], .box (Term.enc a4)])) := by
  refine Ok_of3 c106 Try.f106 3 19 (fun q => ?_)
  unfold slices_IndexFunc_Lint64_impl_faults_2
  refine J_g 2 [] [(0, sl 1 eI64 a1), (1, .fn 93 [pp 0, pp 1, pp 2])] [(0, .box [iv a2]), (1, .box [sl 8 (Pack.enc false) a3]), (2, .box (Term.enc a4))] orcN ?_
  refine J_g 12 [] [(0, sl 1 eI64 a1), (1, .fn 93 [pp 0, pp 1, pp 2]), (7, iv (a1.length : Int)), (8, iv 0)] [(0, .box [iv a2]), (1, .box [sl 8 (Pack.enc false) a3]), (2, .box (Term.enc a4))] orcN ?_
  refine J_lqF (K0 := (fun r : Int => some (iv r, [.box [iv a2], .box [sl 8 (Pack.enc false) a3], .box (Term.enc a4)]))) (fun _ => rfl) (slices_IndexFunc_Lint64_impl_faults_2_l1.ok a1 a2 a3 a4 q _ (fun v18 => J_j ?_) 0)
  refine J_g 14 [] [(4, iv (-1))] [(0, .box [iv a2]), (1, .box [sl 8 (Pack.enc false) a3]), (2, .box (Term.enc a4))] orcN ?_
  exact J_r1 rfl

theorem slices_ContainsFunc_Lint64_impl_faults_2.ok (a1 : (List Int)) (a2 : Int) (a3 : (List Pack)) (a4 : Term) : Ok Try.prog 72 [sl 1 eI64 a1, .fn 93 [pp 0, pp 1, pp 2]] [.box [iv a2], .box [sl 8 (Pack.enc false) a3], .box (Term.enc a4)] ((slices_ContainsFunc_Lint64_impl_faults_2 a1 a2 a3 a4).map fun r => (bv r, [.box [iv a2], .box [sl 8 (Pack.enc false) a3], .box (Term.enc a4)])) := by
  refine Ok_of3 c72 Try.f72 3 9 (fun q => ?_)
  unfold slices_ContainsFunc_Lint64_impl_faults_2
  refine J_g 2 [] [(0, sl 1 eI64 a1), (1, .fn 93 [pp 0, pp 1, pp 2])] [(0, .box [iv a2]), (1, .box [sl 8 (Pack.enc false) a3]), (2, .box (Term.enc a4))] orcN ?_
  refine J_bind (fun x5 h6 => ?_)
  refine J_g 6 [] [(4, bv (decide (x5 ≥ 0)))] [(0, .box [iv a2]), (1, .box [sl 8 (Pack.enc false) a3]), (2, .box (Term.enc a4))] (orcC 2 (x_ro [(0, .box [iv a2]), (1, .box [sl 8 (Pack.enc false) a3]), (2, .box (Term.enc a4))] [] (x_c1 («as» := [sl 1 eI64 a1, .fn 93 [pp 0, pp 1, pp 2]]) [(.tmp 5), (.tmp 6)] [23, 108] false [(0, .box [iv a2]), (1, .box [sl 8 (Pack.enc false) a3]), (2, .box (Term.enc a4))] [0, 1, 2] (.cons (.same rfl) (.cons (.fn (.cons (.pt rfl) (.cons (.pt rfl) (.cons (.pt rfl) (.nil))))) (.nil))) (slices_IndexFunc_Lint64_impl_faults_2.ok a1 a2 a3 a4) h6 (.same rfl rfl))) orcN) ?_
  exact J_r1 rfl

noncomputable def c54 : Code := (Try.f54.body).getD .skip

theorem impl_faults_l2.ok (a1 : (List Pack)) (a2 : (List Int)) (s56 : ((List Fault) × Int)) (x58 : Int) (x60 : Pack) (q : Wd) (kn : (List Fault) → Option (D × List Ent)) (hk : ∀ v : (List Fault), J (q.g Try.prog 54 0 77) c54 (aft c54 1868) (St.mk' [(1, sl 1 eI64 a2), (2, pp 0), (5, rr 5 v), (14, sl 1 eI64 a2), (15, iv (a2.length : Int)), (16, iv s56.2)] [(0, .box [sl 8 (Pack.enc false) a1]), (5, rE 3 Fault.enc v)]) (some v) kn) :
    ∀ s99 : ((List Fault) × Int), J (q.g Try.prog 54 0 77) c54 (atI c54 239228) (St.mk' [(1, sl 1 eI64 a2), (2, pp 0), (5, rr 5 s99.1), (7, pp 2), (14, sl 1 eI64 a2), (15, iv (a2.length : Int)), (16, iv s56.2), (58, sl 7 Term.enc x60.Bars), (59, iv (x60.Bars.length : Int)), (60, iv s99.2)] [(0, .box [sl 8 (Pack.enc false) a1]), (2, .box [iv x58]), (5, rE 3 Fault.enc s99.1)]) (impl_faults_l2 a1 a2 s56 x58 x60 s99) kn := by
  refine J_lp (fun g ih s99 => ?_)
  unfold impl_faults_l2b
  refine J_g 478456 [] [(1, sl 1 eI64 a2), (2, pp 0), (5, rr 5 s99.1), (7, pp 2), (14, sl 1 eI64 a2), (15, iv (a2.length : Int)), (16, iv s56.2), (58, sl 7 Term.enc x60.Bars), (59, iv (x60.Bars.length : Int)), (60, iv s99.2), (61, bv (decide (s99.2 < (x60.Bars.length : Int))))] [(0, .box [sl 8 (Pack.enc false) a1]), (2, .box [iv x58]), (5, rE 3 Fault.enc s99.1)] orcN ?_
  refine J_if2 61 (fun h100 => ?_) (fun h100 => ?_)
  · refine J_bind (fun x101 h102 => ?_)
    refine J_g 7655320 [(3, 6)] [(1, sl 1 eI64 a2), (2, pp 0), (5, rr 5 s99.1), (7, pp 2), (11, iv s99.2), (12, pp 6), (14, sl 1 eI64 a2), (15, iv (a2.length : Int)), (16, iv s56.2), (58, sl 7 Term.enc x60.Bars), (59, iv (x60.Bars.length : Int)), (60, iv s99.2)] [(0, .box [sl 8 (Pack.enc false) a1]), (2, .box [iv x58]), (5, rE 3 Fault.enc s99.1), (6, .box (Term.enc x101))] (orcC 1 (x_ix (kk := .i64) 64 119 7 Term.enc (.tmp 58) (.tmp 60) h102) orcN) ?_
    refine J_bind (fun x103 h104 => ?_)
    refine J_g 15310642 [] [(1, sl 1 eI64 a2), (2, pp 0), (5, rr 5 s99.1), (7, pp 2), (11, iv s99.2), (14, sl 1 eI64 a2), (15, iv (a2.length : Int)), (16, iv s56.2), (58, sl 7 Term.enc x60.Bars), (59, iv (x60.Bars.length : Int)), (60, iv s99.2), (67, bv x103)] [(0, .box [sl 8 (Pack.enc false) a1]), (2, .box [iv x58]), (5, rE 3 Fault.enc s99.1)] (orcC 2 (x_ro [(2, .box [iv x58]), (0, .box [sl 8 (Pack.enc false) a1]), (6, .box (Term.enc x101))] [] (x_c1 («as» := [sl 1 eI64 a2, .fn 93 [pp 2, pp 0, pp 6]]) [(.tmp 65), (.tmp 66)] [23, 108] false [(2, .box [iv x58]), (0, .box [sl 8 (Pack.enc false) a1]), (6, .box (Term.enc x101))] [2, 0, 6] (.cons (.same rfl) (.cons (.fn (.cons (.pt rfl) (.cons (.pt rfl) (.cons (.pt rfl) (.nil))))) (.nil))) (slices_ContainsFunc_Lint64_impl_faults_2.ok a2 x58 a1 x101) h104 (.same rfl rfl))) orcN) ?_
    refine J_join (aft c54 3827660) (fun v108 : (List Fault) => St.mk' [(1, sl 1 eI64 a2), (2, pp 0), (5, rr 7 v108), (7, pp 2), (14, sl 1 eI64 a2), (15, iv (a2.length : Int)), (16, iv s56.2), (58, sl 7 Term.enc x60.Bars), (59, iv (x60.Bars.length : Int)), (60, iv s99.2)] [(0, .box [sl 8 (Pack.enc false) a1]), (2, .box [iv x58]), (7, rE 3 Fault.enc v108)]) (fun v108 => ?_) (fun jv108 => ?_)
    · refine J_g 1913831 [] [(1, sl 1 eI64 a2), (2, pp 0), (5, rr 7 v108), (7, pp 2), (14, sl 1 eI64 a2), (15, iv (a2.length : Int)), (16, iv s56.2), (58, sl 7 Term.enc x60.Bars), (59, iv (x60.Bars.length : Int)), (60, iv (w64 (s99.2 + 1)))] [(0, .box [sl 8 (Pack.enc false) a1]), (2, .box [iv x58]), (7, rE 3 Fault.enc v108)] orcN ?_
      refine J_ren 7 5 (Nat.le_of_ble_eq_true rfl) (Nat.le_of_ble_eq_true rfl) ?_
      exact J_q (J_b (ih (v108, w64 (s99.2 + 1)))) rfl
    · refine J_if2 67 (fun h105 => ?_) (fun h105 => ?_)
      · refine J_bind (fun x106 h107 => ?_)
        refine J_g 30621286 [] [(1, sl 1 eI64 a2), (2, pp 0), (5, rr 7 x106), (7, pp 2), (14, sl 1 eI64 a2), (15, iv (a2.length : Int)), (16, iv s56.2), (58, sl 7 Term.enc x60.Bars), (59, iv (x60.Bars.length : Int)), (60, iv s99.2)] [(0, .box [sl 8 (Pack.enc false) a1]), (2, .box [iv x58]), (7, rE 3 Fault.enc x106)] (orcC 4 (x_bp 87 125 3 6 Fault.enc [({ Kind := 3, Pack := x58, At := s99.2 } : Fault)] [0] [(.tmp 71)] [.ag [iv 3, iv x58, iv s99.2]]) (orcC 5 (x_ap 87 87 125 125 3 24 7 5 6 Fault.enc (.tmp 68) (.tmp 72) h107) orcN)) ?_
        exact J_qw (J_j (jv108 x106)) rfl
      · refine J_ren 5 7 (Nat.le_of_ble_eq_true rfl) (Nat.le_of_ble_eq_true rfl) ?_
        exact J_qw (J_j (jv108 s99.1)) rfl
  · exact J_qw (hk s99.1) rfl

theorem impl_faults_l1.ok (a1 : (List Pack)) (a2 : (List Int)) (s56 : ((List Fault) × Int)) (x58 : Int) (x60 : Pack) (q : Wd) (kn : (List Fault) → Option (D × List Ent)) (hk : ∀ v : (List Fault), J (q.g Try.prog 54 0 77) c54 (atI c54 29903) (St.mk' [(1, sl 1 eI64 a2), (2, pp 0), (5, rr 5 v), (7, pp 2), (8, pp 3), (14, sl 1 eI64 a2), (15, iv (a2.length : Int)), (16, iv s56.2)] [(0, .box [sl 8 (Pack.enc false) a1]), (2, .box [iv x58]), (3, .box (Pack.enc false x60)), (5, rE 3 Fault.enc v)]) (some v) kn) :
    ∀ s79 : ((List Fault) × Int), J (q.g Try.prog 54 0 77) c54 (atI c54 239220) (St.mk' [(1, sl 1 eI64 a2), (2, pp 0), (5, rr 5 s79.1), (7, pp 2), (8, pp 3), (14, sl 1 eI64 a2), (15, iv (a2.length : Int)), (16, iv s56.2), (39, sl 1 (eSl false 7 Term.enc) x60.Needs), (40, iv (x60.Needs.length : Int)), (41, iv s79.2)] [(0, .box [sl 8 (Pack.enc false) a1]), (2, .box [iv x58]), (3, .box (Pack.enc false x60)), (5, rE 3 Fault.enc s79.1)]) (impl_faults_l1 a1 a2 s56 x58 x60 s79) kn := by
  refine J_lp (fun g ih s79 => ?_)
  unfold impl_faults_l1b
  refine J_g 478440 [] [(1, sl 1 eI64 a2), (2, pp 0), (5, rr 5 s79.1), (7, pp 2), (8, pp 3), (14, sl 1 eI64 a2), (15, iv (a2.length : Int)), (16, iv s56.2), (39, sl 1 (eSl false 7 Term.enc) x60.Needs), (40, iv (x60.Needs.length : Int)), (41, iv s79.2), (42, bv (decide (s79.2 < (x60.Needs.length : Int))))] [(0, .box [sl 8 (Pack.enc false) a1]), (2, .box [iv x58]), (3, .box (Pack.enc false x60)), (5, rE 3 Fault.enc s79.1)] orcN ?_
  refine J_if2 42 (fun h80 => ?_) (fun h80 => ?_)
  · refine J_bind (fun x81 h82 => ?_)
    refine J_g 7655064 [(3, 6)] [(1, sl 1 eI64 a2), (2, pp 0), (5, rr 5 s79.1), (7, pp 2), (8, pp 3), (9, iv s79.2), (10, pp 6), (14, sl 1 eI64 a2), (15, iv (a2.length : Int)), (16, iv s56.2), (39, sl 1 (eSl false 7 Term.enc) x60.Needs), (40, iv (x60.Needs.length : Int)), (41, iv s79.2)] [(0, .box [sl 8 (Pack.enc false) a1]), (2, .box [iv x58]), (3, .box (Pack.enc false x60)), (5, rE 3 Fault.enc s79.1), (6, .box [sl 7 Term.enc x81])] (orcC 1 (x_ix (kk := .i64) 63 64 1 (eSl false 7 Term.enc) (.tmp 39) (.tmp 41) h82) orcN) ?_
    refine J_bind (fun x83 h84 => ?_)
    refine J_g 15310130 [] [(1, sl 1 eI64 a2), (2, pp 0), (5, rr 5 s79.1), (7, pp 2), (8, pp 3), (9, iv s79.2), (14, sl 1 eI64 a2), (15, iv (a2.length : Int)), (16, iv s56.2), (39, sl 1 (eSl false 7 Term.enc) x60.Needs), (40, iv (x60.Needs.length : Int)), (41, iv s79.2), (49, bv (!x83))] [(0, .box [sl 8 (Pack.enc false) a1]), (2, .box [iv x58]), (3, .box (Pack.enc false x60)), (5, rE 3 Fault.enc s79.1)] (orcC 2 (x_ro [(0, .box [sl 8 (Pack.enc false) a1]), (6, .box [sl 7 Term.enc x81])] [] (x_c1 («as» := [sl 1 eI64 a2, .fn 91 [pp 0, pp 6]]) [(.tmp 46), (.tmp 47)] [23, 108] false [(0, .box [sl 8 (Pack.enc false) a1]), (6, .box [sl 7 Term.enc x81])] [0, 6] (.cons (.same rfl) (.cons (.fn (.cons (.pt rfl) (.cons (.pt rfl) (.nil)))) (.nil))) (slices_ContainsFunc_Lint64_impl_faults_1.ok a2 a1 x81) h84 (.same rfl rfl))) orcN) ?_
    refine J_join (aft c54 3827532) (fun v88 : (List Fault) => St.mk' [(1, sl 1 eI64 a2), (2, pp 0), (5, rr 7 v88), (7, pp 2), (8, pp 3), (14, sl 1 eI64 a2), (15, iv (a2.length : Int)), (16, iv s56.2), (39, sl 1 (eSl false 7 Term.enc) x60.Needs), (40, iv (x60.Needs.length : Int)), (41, iv s79.2)] [(0, .box [sl 8 (Pack.enc false) a1]), (2, .box [iv x58]), (3, .box (Pack.enc false x60)), (7, rE 3 Fault.enc v88)]) (fun v88 => ?_) (fun jv88 => ?_)
    · refine J_g 1913767 [] [(1, sl 1 eI64 a2), (2, pp 0), (5, rr 7 v88), (7, pp 2), (8, pp 3), (14, sl 1 eI64 a2), (15, iv (a2.length : Int)), (16, iv s56.2), (39, sl 1 (eSl false 7 Term.enc) x60.Needs), (40, iv (x60.Needs.length : Int)), (41, iv (w64 (s79.2 + 1)))] [(0, .box [sl 8 (Pack.enc false) a1]), (2, .box [iv x58]), (3, .box (Pack.enc false x60)), (7, rE 3 Fault.enc v88)] orcN ?_
      refine J_ren 7 5 (Nat.le_of_ble_eq_true rfl) (Nat.le_of_ble_eq_true rfl) ?_
      exact J_q (J_b (ih (v88, w64 (s79.2 + 1)))) rfl
    · refine J_if2 49 (fun h85 => ?_) (fun h85 => ?_)
      · refine J_bind (fun x86 h87 => ?_)
        refine J_g 30620262 [] [(1, sl 1 eI64 a2), (2, pp 0), (5, rr 7 x86), (7, pp 2), (8, pp 3), (14, sl 1 eI64 a2), (15, iv (a2.length : Int)), (16, iv s56.2), (39, sl 1 (eSl false 7 Term.enc) x60.Needs), (40, iv (x60.Needs.length : Int)), (41, iv s79.2)] [(0, .box [sl 8 (Pack.enc false) a1]), (2, .box [iv x58]), (3, .box (Pack.enc false x60)), (7, rE 3 Fault.enc x86)] (orcC 4 (x_bp 87 125 3 6 Fault.enc [({ Kind := 2, Pack := x58, At := s79.2 } : Fault)] [0] [(.tmp 53)] [.ag [iv 2, iv x58, iv s79.2]]) (orcC 5 (x_ap 87 87 125 125 3 24 7 5 6 Fault.enc (.tmp 50) (.tmp 54) h87) orcN)) ?_
        exact J_qw (J_j (jv88 x86)) rfl
      · refine J_ren 5 7 (Nat.le_of_ble_eq_true rfl) (Nat.le_of_ble_eq_true rfl) ?_
        exact J_qw (J_j (jv88 s79.1)) rfl
  · exact J_qw (hk s79.1) rfl

theorem impl_faults_l3.ok (a1 : (List Pack)) (a2 : (List Int)) (q : Wd) (kn : (List Fault) → Option (D × List Ent)) (hk : ∀ v : (List Fault), J (q.g Try.prog 54 0 77) c54 (atI c54 15) (St.mk' [(5, rr 1 v)] [(1, rE 3 Fault.enc v)]) (some v) kn) :
    ∀ s56 : ((List Fault) × Int), J (q.g Try.prog 54 0 77) c54 (atI c54 116) (St.mk' [(1, sl 1 eI64 a2), (2, pp 0), (5, rr 1 s56.1), (14, sl 1 eI64 a2), (15, iv (a2.length : Int)), (16, iv s56.2)] [(0, .box [sl 8 (Pack.enc false) a1]), (1, rE 3 Fault.enc s56.1)]) (impl_faults_l3 a1 a2 s56) kn := by
  refine J_lp (fun g ih s56 => ?_)
  unfold impl_faults_l3b
  refine J_g 232 [] [(1, sl 1 eI64 a2), (2, pp 0), (5, rr 1 s56.1), (14, sl 1 eI64 a2), (15, iv (a2.length : Int)), (16, iv s56.2), (17, bv (decide (s56.2 < (a2.length : Int))))] [(0, .box [sl 8 (Pack.enc false) a1]), (1, rE 3 Fault.enc s56.1)] orcN ?_
  refine J_if2 17 (fun h57 => ?_) (fun h57 => ?_)
  · refine J_bind (fun x58 h59 => ?_)
    refine J_g 3736 [(3, 2)] [(1, sl 1 eI64 a2), (2, pp 0), (5, rr 1 s56.1), (6, iv s56.2), (7, pp 2), (14, sl 1 eI64 a2), (15, iv (a2.length : Int)), (16, iv s56.2)] [(0, .box [sl 8 (Pack.enc false) a1]), (1, rE 3 Fault.enc s56.1), (2, .box [iv x58])] (orcC 1 (x_ix (kk := .i64) 23 2 1 eI64 (.tmp 14) (.tmp 16) h59) orcN) ?_
    refine J_bind (fun x60 h61 => ?_)
    refine J_g 7474 [(4, 3)] [(1, sl 1 eI64 a2), (2, pp 0), (5, rr 1 s56.1), (6, iv s56.2), (7, pp 2), (8, pp 3), (14, sl 1 eI64 a2), (15, iv (a2.length : Int)), (16, iv s56.2)] [(0, .box [sl 8 (Pack.enc false) a1]), (1, rE 3 Fault.enc s56.1), (2, .box [iv x58]), (3, .box (Pack.enc false x60))] (orcC 2 (x_ix (kk := .i64) 28 66 8 (Pack.enc false) (.tmp 21) (.tmp 22) h61) orcN) ?_
    refine J_bind (fun x62 h63 => ?_)
    refine J_bind (fun x64 h65 => ?_)
    refine J_g 29900 [] [(1, sl 1 eI64 a2), (2, pp 0), (5, rr 1 s56.1), (7, pp 2), (8, pp 3), (14, sl 1 eI64 a2), (15, iv (a2.length : Int)), (16, iv s56.2), (32, bv (decide (x64 ≥ 0)))] [(0, .box [sl 8 (Pack.enc false) a1]), (1, rE 3 Fault.enc s56.1), (2, .box [iv x58]), (3, .box (Pack.enc false x60))] (orcC 3 (x_ls 23 2 1 eI64 (.tmp 26) none (some (.tmp 27)) h63) (orcC 6 (x_c0 [(.tmp 25), (.tmp 28), (.tmp 30)] [28, 23, 9] (impl_named.ok a1 x62 x60.Name) h65) orcN)) ?_
    refine J_join (atI c54 14951) (fun v69 : (List Fault) => St.mk' [(1, sl 1 eI64 a2), (2, pp 0), (5, rr 5 v69), (7, pp 2), (8, pp 3), (14, sl 1 eI64 a2), (15, iv (a2.length : Int)), (16, iv s56.2)] [(0, .box [sl 8 (Pack.enc false) a1]), (2, .box [iv x58]), (3, .box (Pack.enc false x60)), (5, rE 3 Fault.enc v69)]) (fun v69 => ?_) (fun jv69 => ?_)
    · refine J_g 59804 [] [(1, sl 1 eI64 a2), (2, pp 0), (5, rr 5 v69), (7, pp 2), (8, pp 3), (14, sl 1 eI64 a2), (15, iv (a2.length : Int)), (16, iv s56.2), (39, sl 1 (eSl false 7 Term.enc) x60.Needs), (40, iv (x60.Needs.length : Int)), (41, iv 0)] [(0, .box [sl 8 (Pack.enc false) a1]), (2, .box [iv x58]), (3, .box (Pack.enc false x60)), (5, rE 3 Fault.enc v69)] orcN ?_
      refine J_lq (impl_faults_l1.ok a1 a2 s56 x58 x60 q _ (fun v89 => J_j ?_) (v69, 0))
      refine J_g 59806 [] [(1, sl 1 eI64 a2), (2, pp 0), (5, rr 5 v89), (7, pp 2), (14, sl 1 eI64 a2), (15, iv (a2.length : Int)), (16, iv s56.2), (58, sl 7 Term.enc x60.Bars), (59, iv (x60.Bars.length : Int)), (60, iv 0)] [(0, .box [sl 8 (Pack.enc false) a1]), (2, .box [iv x58]), (5, rE 3 Fault.enc v89)] orcN ?_
      refine J_lq (impl_faults_l2.ok a1 a2 s56 x58 x60 q _ (fun v109 => J_j ?_) (v89, 0))
      refine J_g 935 [] [(1, sl 1 eI64 a2), (2, pp 0), (5, rr 5 v109), (14, sl 1 eI64 a2), (15, iv (a2.length : Int)), (16, iv (w64 (s56.2 + 1)))] [(0, .box [sl 8 (Pack.enc false) a1]), (5, rE 3 Fault.enc v109)] orcN ?_
      refine J_ren 5 1 (Nat.le_of_ble_eq_true rfl) (Nat.le_of_ble_eq_true rfl) ?_
      exact J_q (J_b (ih (v109, w64 (s56.2 + 1)))) rfl
    · refine J_if2 32 (fun h66 => ?_) (fun h66 => ?_)
      · refine J_bind (fun x67 h68 => ?_)
        refine J_g 59802 [] [(1, sl 1 eI64 a2), (2, pp 0), (5, rr 5 x67), (7, pp 2), (8, pp 3), (14, sl 1 eI64 a2), (15, iv (a2.length : Int)), (16, iv s56.2)] [(0, .box [sl 8 (Pack.enc false) a1]), (2, .box [iv x58]), (3, .box (Pack.enc false x60)), (5, rE 3 Fault.enc x67)] (orcC 3 (x_bp 87 125 3 4 Fault.enc [({ Kind := 1, Pack := x58, At := 0 } : Fault)] [0] [(.tmp 35)] [.ag [iv 1, iv x58, iv 0]]) (orcC 4 (x_ap 87 87 125 125 3 24 5 1 4 Fault.enc (.tmp 33) (.tmp 36) h68) orcN)) ?_
        exact J_qw (J_j (jv69 x67)) rfl
      · refine J_ren 1 5 (Nat.le_of_ble_eq_true rfl) (Nat.le_of_ble_eq_true rfl) ?_
        exact J_qw (J_j (jv69 s56.1)) rfl
  · exact J_qw (hk s56.1) rfl

theorem impl_faults.ok (a1 : (List Pack)) (a2 : (List Int)) : Ok Try.prog 54 [sl 8 (Pack.enc false) a1, sl 1 eI64 a2] [] ((impl_faults a1 a2).map fun r => (so 3 Fault.enc r, [])) := by
  refine Ok_of3 c54 Try.f54 0 77 (fun q => ?_)
  unfold impl_faults
  refine J_g 2 [(0, 0)] [(1, sl 1 eI64 a2), (2, pp 0)] [(0, .box [sl 8 (Pack.enc false) a1])] orcN ?_
  refine J_g 6 [] [(1, sl 1 eI64 a2), (2, pp 0), (5, rr 1 ([] : List Fault))] [(0, .box [sl 8 (Pack.enc false) a1]), (1, rE 3 Fault.enc ([] : List Fault))] (orcC 0 (x_bp 87 125 3 1 Fault.enc ([] : List Fault) [] [] []) orcN) ?_
  refine J_g 28 [] [(1, sl 1 eI64 a2), (2, pp 0), (5, rr 1 ([] : List Fault)), (14, sl 1 eI64 a2), (15, iv (a2.length : Int)), (16, iv 0)] [(0, .box [sl 8 (Pack.enc false) a1]), (1, rE 3 Fault.enc ([] : List Fault))] orcN ?_
  refine J_lq (impl_faults_l3.ok a1 a2 q _ (fun v110 => J_j ?_) (([] : List Fault), 0))
  refine J_g 30 [] [(4, rr 1 v110)] [(1, rE 3 Fault.enc v110)] orcN ?_
  exact J_rm (ds := [rr 1 v110]) (ds' := [so 3 Fault.enc v110]) (.cons (.cell (.move (.head _) (List.length_map _) (by decide) (.nil))) (.nil) (by decide)) rfl

noncomputable def c31 : Code := (Try.f31.body).getD .skip

theorem impl_consistent.ok (a1 : (List Pack)) (a2 : (List Int)) : Ok Try.prog 31 [sl 8 (Pack.enc false) a1, sl 1 eI64 a2] [] ((impl_consistent a1 a2).map fun r => (bv r, [])) := by
  refine Ok_of3 c31 Try.f31 0 10 (fun q => ?_)
  unfold impl_consistent
  refine J_g 2 [] [(0, sl 8 (Pack.enc false) a1), (1, sl 1 eI64 a2)] [] orcN ?_
  refine J_bind (fun x3 h4 => ?_)
  refine J_g 6 [] [(4, bv ((x3.length : Int) == 0))] [] (orcC 2 (x_c1 («as» := [sl 8 (Pack.enc false) a1, sl 1 eI64 a2]) [(.tmp 5), (.tmp 6)] [28, 23] false [] [] (.cons (.same rfl) (.cons (.same rfl) (.nil))) (impl_faults.ok a1 a2) h4 (.own 0)) orcN) ?_
  exact J_r1 rfl

noncomputable def c32 : Code := (Try.f32.body).getD .skip

theorem slices_Equal_Lint64_l1.ok (a1 : (List Int)) (a2 : (List Int)) (q : Wd) (kn : Unit → Option (D × List Ent)) (hk : ∀ v : Unit, J (q.g Try.prog 32 0 26) c32 (atI c32 15) (St.mk' [] []) (some v) kn) :
    ∀ s10 : Int, J (q.g Try.prog 32 0 26) c32 (atI c32 116) (St.mk' [(0, sl 1 eI64 a1), (1, sl 1 eI64 a2), (12, iv (a1.length : Int)), (13, iv s10)] []) (slices_Equal_Lint64_l1 a1 a2 s10) (Fl.go (fun r : Bool => some (bv r, [])) kn) := by
  refine J_lp (fun g ih s10 => ?_)
  unfold slices_Equal_Lint64_l1b
  refine J_g 232 [] [(0, sl 1 eI64 a1), (1, sl 1 eI64 a2), (12, iv (a1.length : Int)), (13, iv s10), (14, bv (decide (s10 < (a1.length : Int))))] [] orcN ?_
  refine J_if2 14 (fun h11 => ?_) (fun h11 => ?_)
  · refine J_g 3736 [] [(0, sl 1 eI64 a1), (1, sl 1 eI64 a2), (5, iv s10), (12, iv (a1.length : Int)), (13, iv s10)] [] orcN ?_
    refine J_bind (fun x12 h13 => ?_)
    refine J_bind (fun x14 h15 => ?_)
    refine J_g 7474 [] [(0, sl 1 eI64 a1), (1, sl 1 eI64 a2), (12, iv (a1.length : Int)), (13, iv s10), (24, bv (x12 != x14))] [] (orcC 2 (x_ix (kk := .i64) 23 2 1 eI64 (.tmp 16) (.tmp 17) h13) (orcC 6 (x_ix (kk := .i64) 23 2 1 eI64 (.tmp 20) (.tmp 21) h15) orcN)) ?_
    refine J_if2 24 (fun h16 => ?_) (fun h16 => ?_)
    · refine J_g 29900 [] [(4, bv false)] [] orcN ?_
      exact J_r1 rfl
    · refine J_g 935 [] [(0, sl 1 eI64 a1), (1, sl 1 eI64 a2), (12, iv (a1.length : Int)), (13, iv (w64 (s10 + 1)))] [] orcN ?_
      exact J_q (J_b (ih (w64 (s10 + 1)))) rfl
  · exact J_qw (hk ()) rfl

theorem slices_Equal_Lint64.ok (a1 : (List Int)) (a2 : (List Int)) : Ok Try.prog 32 [sl 1 eI64 a1, sl 1 eI64 a2] [] ((slices_Equal_Lint64 a1 a2).map fun r => (bv r, [])) := by
  refine Ok_of3 c32 Try.f32 0 26 (fun q => ?_)
  unfold slices_Equal_Lint64
  refine J_g 2 [] [(0, sl 1 eI64 a1), (1, sl 1 eI64 a2)] [] orcN ?_
  refine J_g 12 [] [(0, sl 1 eI64 a1), (1, sl 1 eI64 a2), (10, bv ((a1.length : Int) != (a2.length : Int)))] [] orcN ?_
  refine J_if2 10 (fun h3 => ?_) (fun h3 => ?_)
  · refine J_g 52 [] [(4, bv false)] [] orcN ?_
    exact J_r1 rfl
  · refine J_g 28 [] [(0, sl 1 eI64 a1), (1, sl 1 eI64 a2), (12, iv (a1.length : Int)), (13, iv 0)] [] orcN ?_
    refine J_lqF (K0 := (fun r : Bool => some (bv r, []))) (fun _ => rfl) (slices_Equal_Lint64_l1.ok a1 a2 q _ (fun v17 => J_j ?_) 0)
    refine J_g 30 [] [(4, bv true)] [] orcN ?_
    exact J_r1 rfl

noncomputable def c11 : Code := (Try.f11.body).getD .skip

theorem impl_CheckPlan_l1.ok (a1 : (List Pack)) (a3 : (List (List Int))) (q : Wd) (kn : Unit → Option (D × List Ent)) (hk : ∀ v : Unit, J (q.g Try.prog 11 0 42) c11 (atI c11 15) (St.mk' [] []) (some v) kn) :
    ∀ s24 : ((List Int) × Int), J (q.g Try.prog 11 0 42) c11 (atI c11 116) (St.mk' [(0, sl 8 (Pack.enc false) a1), (1, sl 1 eI64 s24.1), (19, sl 1 (eSl false 1 eI64) a3), (20, iv (a3.length : Int)), (21, iv s24.2)] []) (impl_CheckPlan_l1 a1 a3 s24) (Fl.go (fun r : Bool => some (bv r, [])) kn) := by
  refine J_lp (fun g ih s24 => ?_)
  unfold impl_CheckPlan_l1b
  refine J_g 232 [] [(0, sl 8 (Pack.enc false) a1), (1, sl 1 eI64 s24.1), (19, sl 1 (eSl false 1 eI64) a3), (20, iv (a3.length : Int)), (21, iv s24.2), (22, bv (decide (s24.2 < (a3.length : Int))))] [] orcN ?_
  refine J_if2 22 (fun h25 => ?_) (fun h25 => ?_)
  · refine J_bind (fun x26 h27 => ?_)
    refine J_g 3736 [] [(0, sl 8 (Pack.enc false) a1), (1, sl 1 eI64 s24.1), (8, sl 1 eI64 x26), (19, sl 1 (eSl false 1 eI64) a3), (20, iv (a3.length : Int)), (21, iv s24.2)] [] (orcC 0 (x_ix (kk := .i64) 24 23 1 (eSl false 1 eI64) (.tmp 19) (.tmp 21) h27) orcN) ?_
    refine J_bind (fun x28 h29 => ?_)
    refine J_join (atI c11 14949) (fun v36 : Bool => St.mk' [(0, sl 8 (Pack.enc false) a1), (8, sl 1 eI64 x26), (19, sl 1 (eSl false 1 eI64) a3), (20, iv (a3.length : Int)), (21, iv s24.2), (39, bv v36)] []) (fun v36 => ?_) (fun jv36 => ?_)
    · refine J_if2 39 (fun h37 => ?_) (fun h37 => ?_)
      · refine J_g 59796 [] [(6, bv false)] [] orcN ?_
        exact J_r1 rfl
      · refine J_g 7475 [] [(0, sl 8 (Pack.enc false) a1), (1, sl 1 eI64 x26), (19, sl 1 (eSl false 1 eI64) a3), (20, iv (a3.length : Int)), (21, iv s24.2)] [] orcN ?_
        refine J_g 935 [] [(0, sl 8 (Pack.enc false) a1), (1, sl 1 eI64 x26), (19, sl 1 (eSl false 1 eI64) a3), (20, iv (a3.length : Int)), (21, iv (w64 (s24.2 + 1)))] [] orcN ?_
        exact J_q (J_b (ih (x26, w64 (s24.2 + 1)))) rfl
    · refine J_ite (fun h30 => ?_) (fun h30 => ?_)
      · refine J_g 14948 [] [(0, sl 8 (Pack.enc false) a1), (8, sl 1 eI64 x26), (19, sl 1 (eSl false 1 eI64) a3), (20, iv (a3.length : Int)), (21, iv s24.2), (39, bv true)] [] (orcC 2 (x_c0 [(.tmp 25), (.tmp 26)] [28, 23] (impl_SetFault.ok a1 x26) h29) (orcL 4 [(28, bv (x28 != 0))] [] h30 orcN)) ?_
        exact J_qw (J_j (jv36 true)) rfl
      · refine J_bind (fun x31 h32 => ?_)
        refine J_ite (fun h33 => ?_) (fun h33 => ?_)
        · refine J_g 14948 [] [(0, sl 8 (Pack.enc false) a1), (8, sl 1 eI64 x26), (19, sl 1 (eSl false 1 eI64) a3), (20, iv (a3.length : Int)), (21, iv s24.2), (39, bv true)] [] (orcC 2 (x_c0 [(.tmp 25), (.tmp 26)] [28, 23] (impl_SetFault.ok a1 x26) h29) (orcL 4 [(28, bv (x28 != 0))] [] h30 (orcH 7 4 29 false (x_c0 [(.tmp 30), (.tmp 31)] [28, 23] (impl_consistent.ok a1 x26) h32) (orcL 10 [(34, bv (!x31))] [] h33 orcN)))) ?_
          exact J_qw (J_j (jv36 true)) rfl
        · refine J_bind (fun x34 h35 => ?_)
          refine J_g 14948 [] [(0, sl 8 (Pack.enc false) a1), (8, sl 1 eI64 x26), (19, sl 1 (eSl false 1 eI64) a3), (20, iv (a3.length : Int)), (21, iv s24.2), (39, bv x34)] [] (orcC 2 (x_c0 [(.tmp 25), (.tmp 26)] [28, 23] (impl_SetFault.ok a1 x26) h29) (orcL 4 [(28, bv (x28 != 0))] [] h30 (orcH 7 4 29 false (x_c0 [(.tmp 30), (.tmp 31)] [28, 23] (impl_consistent.ok a1 x26) h32) (orcL 10 [(34, bv (!x31))] [] h33 (orcH 13 10 35 false (x_c0 [(.tmp 36), (.tmp 37)] [23, 23] (slices_Equal_Lint64.ok x26 s24.1) h35) orcN))))) ?_
          exact J_qw (J_j (jv36 x34)) rfl
  · exact J_qw (hk ()) rfl

theorem impl_CheckPlan.ok (a1 : (List Pack)) (a2 : (List Int)) (a3 : (List (List Int))) : Ok Try.prog 11 [sl 8 (Pack.enc false) a1, sl 1 eI64 a2, sl 1 (eSl false 1 eI64) a3] [] ((impl_CheckPlan a1 a2 a3).map fun r => (bv r, [])) := by
  refine Ok_of3 c11 Try.f11 0 42 (fun q => ?_)
  unfold impl_CheckPlan
  refine J_g 2 [] [(0, sl 8 (Pack.enc false) a1), (1, sl 1 eI64 a2), (2, sl 1 (eSl false 1 eI64) a3)] [] orcN ?_
  refine J_bind (fun x4 h5 => ?_)
  refine J_join (atI c11 13) (fun v9 : Bool => St.mk' [(0, sl 8 (Pack.enc false) a1), (1, sl 1 eI64 a2), (2, sl 1 (eSl false 1 eI64) a3), (18, bv v9)] []) (fun v9 => ?_) (fun jv9 => ?_)
  · refine J_if2 18 (fun h10 => ?_) (fun h10 => ?_)
    · refine J_g 52 [] [(6, bv false)] [] orcN ?_
      exact J_r1 rfl
    · refine J_g 28 [] [(0, sl 8 (Pack.enc false) a1), (1, sl 1 eI64 a2), (19, sl 1 (eSl false 1 eI64) a3), (20, iv (a3.length : Int)), (21, iv 0)] [] orcN ?_
      refine J_lqF (K0 := (fun r : Bool => some (bv r, []))) (fun _ => rfl) (impl_CheckPlan_l1.ok a1 a3 q _ (fun v38 => J_j ?_) (a2, 0))
      refine J_g 30 [] [(6, bv true)] [] orcN ?_
      exact J_r1 rfl
  · refine J_ite (fun h6 => ?_) (fun h6 => ?_)
    · refine J_g 12 [] [(0, sl 8 (Pack.enc false) a1), (1, sl 1 eI64 a2), (2, sl 1 (eSl false 1 eI64) a3), (18, bv true)] [] (orcC 2 (x_c0 [(.tmp 9), (.tmp 10)] [28, 23] (impl_SetFault.ok a1 a2) h5) (orcL 4 [(12, bv (x4 != 0))] [] h6 orcN)) ?_
      exact J_qw (J_j (jv9 true)) rfl
    · refine J_bind (fun x7 h8 => ?_)
      refine J_g 12 [] [(0, sl 8 (Pack.enc false) a1), (1, sl 1 eI64 a2), (2, sl 1 (eSl false 1 eI64) a3), (18, bv (!x7))] [] (orcC 2 (x_c0 [(.tmp 9), (.tmp 10)] [28, 23] (impl_SetFault.ok a1 a2) h5) (orcL 4 [(12, bv (x4 != 0))] [] h6 (orcH 7 4 13 false (x_c0 [(.tmp 14), (.tmp 15)] [28, 23] (impl_consistent.ok a1 a2) h8) orcN))) ?_
      exact J_qw (J_j (jv9 (!x7))) rfl

noncomputable def c55 : Code := (Try.f55.body).getD .skip

theorem laws_eqVersion.ok (a1 : Version) (a2 : Version) : Ok Try.prog 55 [.ag (Version.enc a1), .ag (Version.enc a2)] [] ((laws_eqVersion a1 a2).map fun r => (bv r, [])) := by
  refine Ok_of3 c55 Try.f55 0 20 (fun q => ?_)
  unfold laws_eqVersion
  refine J_g 2 [(0, 0), (1, 1)] [(2, pp 0), (3, pp 1)] [(0, .box (Version.enc a1)), (1, .box (Version.enc a2))] orcN ?_
  refine J_g 12 [] [(2, pp 0), (3, pp 1), (9, bv (a1.A != a2.A))] [(0, .box (Version.enc a1)), (1, .box (Version.enc a2))] orcN ?_
  refine J_if2 9 (fun h3 => ?_) (fun h3 => ?_)
  · refine J_g 52 [] [(4, bv false)] [] orcN ?_
    exact J_r1 rfl
  · refine J_g 28 [] [(2, pp 0), (3, pp 1), (14, bv (a1.B != a2.B))] [(0, .box (Version.enc a1)), (1, .box (Version.enc a2))] orcN ?_
    refine J_if2 14 (fun h4 => ?_) (fun h4 => ?_)
    · refine J_g 116 [] [(4, bv false)] [] orcN ?_
      exact J_r1 rfl
    · refine J_g 60 [] [(19, bv (a1.C != a2.C))] [] orcN ?_
      refine J_if2 19 (fun h5 => ?_) (fun h5 => ?_)
      · refine J_g 244 [] [(4, bv false)] [] orcN ?_
        exact J_r1 rfl
      · refine J_g 62 [] [(4, bv true)] [] orcN ?_
        exact J_r1 rfl

noncomputable def c56 : Code := (Try.f56.body).getD .skip

theorem laws_eqStringS_l1.ok (a1 : (List ByteArray)) (a2 : (List ByteArray)) (q : Wd) (kn : Unit → Option (D × List Ent)) (hk : ∀ v : Unit, J (q.g Try.prog 56 0 26) c56 (atI c56 15) (St.mk' [] []) (some v) kn) :
    ∀ s10 : Int, J (q.g Try.prog 56 0 26) c56 (atI c56 116) (St.mk' [(0, sl 1 eStr a1), (1, sl 1 eStr a2), (5, iv s10)] []) (laws_eqStringS_l1 a1 a2 s10) (Fl.go (fun r : Bool => some (bv r, [])) kn) := by
  refine J_lp (fun g ih s10 => ?_)
  unfold laws_eqStringS_l1b
  refine J_g 464 [] [(0, sl 1 eStr a1), (1, sl 1 eStr a2), (5, iv s10), (14, bv (decide (s10 < (a1.length : Int))))] [] orcN ?_
  refine J_if2 14 (fun h11 => ?_) (fun h11 => ?_)
  · refine J_bind (fun x12 h13 => ?_)
    refine J_bind (fun x14 h15 => ?_)
    refine J_g 1864 [] [(0, sl 1 eStr a1), (1, sl 1 eStr a2), (5, iv s10), (25, bv (!(seq x12 x14)))] [] (orcC 2 (x_ix (kk := .i64) 56 9 1 eStr (.tmp 17) (.tmp 18) h13) (orcC 6 (x_ix (kk := .i64) 56 9 1 eStr (.tmp 21) (.tmp 22) h15) orcN)) ?_
    refine J_if2 25 (fun h16 => ?_) (fun h16 => ?_)
    · refine J_g 7460 [] [(4, bv false)] [] orcN ?_
      exact J_r1 rfl
    · refine J_g 467 [] [(0, sl 1 eStr a1), (1, sl 1 eStr a2), (5, iv (w64 (s10 + 1)))] [] orcN ?_
      exact J_q (J_b (ih (w64 (s10 + 1)))) rfl
  · exact J_qw (hk ()) rfl

theorem laws_eqStringS.ok (a1 : (List ByteArray)) (a2 : (List ByteArray)) : Ok Try.prog 56 [sl 1 eStr a1, sl 1 eStr a2] [] ((laws_eqStringS a1 a2).map fun r => (bv r, [])) := by
  refine Ok_of3 c56 Try.f56 0 26 (fun q => ?_)
  unfold laws_eqStringS
  refine J_g 2 [] [(0, sl 1 eStr a1), (1, sl 1 eStr a2)] [] orcN ?_
  refine J_g 12 [] [(0, sl 1 eStr a1), (1, sl 1 eStr a2), (10, bv ((a1.length : Int) != (a2.length : Int)))] [] orcN ?_
  refine J_if2 10 (fun h3 => ?_) (fun h3 => ?_)
  · refine J_g 52 [] [(4, bv false)] [] orcN ?_
    exact J_r1 rfl
  · refine J_g 28 [] [(0, sl 1 eStr a1), (1, sl 1 eStr a2), (5, iv 0)] [] orcN ?_
    refine J_lqF (K0 := (fun r : Bool => some (bv r, []))) (fun _ => rfl) (laws_eqStringS_l1.ok a1 a2 q _ (fun v17 => J_j ?_) 0)
    refine J_g 30 [] [(4, bv true)] [] orcN ?_
    exact J_r1 rfl

noncomputable def c95 : Code := (Try.f95.body).getD .skip

theorem laws_eqTerm.ok (a1 : Term) (a2 : Term) : Ok Try.prog 95 [.ag (Term.enc a1), .ag (Term.enc a2)] [] ((laws_eqTerm a1 a2).map fun r => (bv r, [])) := by
  refine Ok_of3 c95 Try.f95 0 22 (fun q => ?_)
  unfold laws_eqTerm
  refine J_g 2 [(0, 0), (1, 1)] [(2, pp 0), (3, pp 1)] [(0, .box (Term.enc a1)), (1, .box (Term.enc a2))] orcN ?_
  refine J_g 12 [] [(2, pp 0), (3, pp 1), (9, bv (!(seq a1.Name a2.Name)))] [(0, .box (Term.enc a1)), (1, .box (Term.enc a2))] orcN ?_
  refine J_if2 9 (fun h3 => ?_) (fun h3 => ?_)
  · refine J_g 52 [] [(4, bv false)] [] orcN ?_
    exact J_r1 rfl
  · refine J_bind (fun x4 h5 => ?_)
    refine J_g 28 [] [(2, pp 0), (3, pp 1), (15, bv (!x4))] [(0, .box (Term.enc a1)), (1, .box (Term.enc a2))] (orcC 4 (x_c0 [(.tmp 11), (.tmp 13)] [62, 62] (laws_eqVersion.ok a1.Low a2.Low) h5) orcN) ?_
    refine J_if2 15 (fun h6 => ?_) (fun h6 => ?_)
    · refine J_g 116 [] [(4, bv false)] [] orcN ?_
      exact J_r1 rfl
    · refine J_bind (fun x7 h8 => ?_)
      refine J_g 60 [] [(21, bv (!x7))] [] (orcC 4 (x_c0 [(.tmp 17), (.tmp 19)] [62, 62] (laws_eqVersion.ok a1.High a2.High) h8) orcN) ?_
      refine J_if2 21 (fun h9 => ?_) (fun h9 => ?_)
      · refine J_g 244 [] [(4, bv false)] [] orcN ?_
        exact J_r1 rfl
      · refine J_g 62 [] [(4, bv true)] [] orcN ?_
        exact J_r1 rfl

noncomputable def c58 : Code := (Try.f58.body).getD .skip

theorem laws_eqTermS_l1.ok (a1 : (List Term)) (a2 : (List Term)) (q : Wd) (kn : Unit → Option (D × List Ent)) (hk : ∀ v : Unit, J (q.g Try.prog 58 0 27) c58 (atI c58 15) (St.mk' [] []) (some v) kn) :
    ∀ s12 : Int, J (q.g Try.prog 58 0 27) c58 (atI c58 116) (St.mk' [(0, sl 7 Term.enc a1), (1, sl 7 Term.enc a2), (5, iv s12)] []) (laws_eqTermS_l1 a1 a2 s12) (Fl.go (fun r : Bool => some (bv r, [])) kn) := by
  refine J_lp (fun g ih s12 => ?_)
  unfold laws_eqTermS_l1b
  refine J_g 464 [] [(0, sl 7 Term.enc a1), (1, sl 7 Term.enc a2), (5, iv s12), (14, bv (decide (s12 < (a1.length : Int))))] [] orcN ?_
  refine J_if2 14 (fun h13 => ?_) (fun h13 => ?_)
  · refine J_bind (fun x14 h15 => ?_)
    refine J_bind (fun x16 h17 => ?_)
    refine J_bind (fun x18 h19 => ?_)
    refine J_g 1864 [] [(0, sl 7 Term.enc a1), (1, sl 7 Term.enc a2), (5, iv s12), (26, bv (!x18))] [] (orcC 2 (x_ix (kk := .i64) 64 119 7 Term.enc (.tmp 17) (.tmp 18) h15) (orcC 6 (x_ix (kk := .i64) 64 119 7 Term.enc (.tmp 21) (.tmp 22) h17) (orcC 8 (x_c0 [(.tmp 20), (.tmp 24)] [119, 119] (laws_eqTerm.ok x14 x16) h19) orcN))) ?_
    refine J_if2 26 (fun h20 => ?_) (fun h20 => ?_)
    · refine J_g 7460 [] [(4, bv false)] [] orcN ?_
      exact J_r1 rfl
    · refine J_g 467 [] [(0, sl 7 Term.enc a1), (1, sl 7 Term.enc a2), (5, iv (w64 (s12 + 1)))] [] orcN ?_
      exact J_q (J_b (ih (w64 (s12 + 1)))) rfl
  · exact J_qw (hk ()) rfl

theorem laws_eqTermS.ok (a1 : (List Term)) (a2 : (List Term)) : Ok Try.prog 58 [sl 7 Term.enc a1, sl 7 Term.enc a2] [] ((laws_eqTermS a1 a2).map fun r => (bv r, [])) := by
  refine Ok_of3 c58 Try.f58 0 27 (fun q => ?_)
  unfold laws_eqTermS
  refine J_g 2 [] [(0, sl 7 Term.enc a1), (1, sl 7 Term.enc a2)] [] orcN ?_
  refine J_g 12 [] [(0, sl 7 Term.enc a1), (1, sl 7 Term.enc a2), (10, bv ((a1.length : Int) != (a2.length : Int)))] [] orcN ?_
  refine J_if2 10 (fun h3 => ?_) (fun h3 => ?_)
  · refine J_g 52 [] [(4, bv false)] [] orcN ?_
    exact J_r1 rfl
  · refine J_g 28 [] [(0, sl 7 Term.enc a1), (1, sl 7 Term.enc a2), (5, iv 0)] [] orcN ?_
    refine J_lqF (K0 := (fun r : Bool => some (bv r, []))) (fun _ => rfl) (laws_eqTermS_l1.ok a1 a2 q _ (fun v21 => J_j ?_) 0)
    refine J_g 30 [] [(4, bv true)] [] orcN ?_
    exact J_r1 rfl

noncomputable def c57 : Code := (Try.f57.body).getD .skip

theorem laws_eqTermSS_l1.ok (a1 : (List (List Term))) (a2 : (List (List Term))) (q : Wd) (kn : Unit → Option (D × List Ent)) (hk : ∀ v : Unit, J (q.g Try.prog 57 0 27) c57 (atI c57 15) (St.mk' [] []) (some v) kn) :
    ∀ s12 : Int, J (q.g Try.prog 57 0 27) c57 (atI c57 116) (St.mk' [(0, sl 1 (eSl false 7 Term.enc) a1), (1, sl 1 (eSl false 7 Term.enc) a2), (5, iv s12)] []) (laws_eqTermSS_l1 a1 a2 s12) (Fl.go (fun r : Bool => some (bv r, [])) kn) := by
  refine J_lp (fun g ih s12 => ?_)
  unfold laws_eqTermSS_l1b
  refine J_g 464 [] [(0, sl 1 (eSl false 7 Term.enc) a1), (1, sl 1 (eSl false 7 Term.enc) a2), (5, iv s12), (14, bv (decide (s12 < (a1.length : Int))))] [] orcN ?_
  refine J_if2 14 (fun h13 => ?_) (fun h13 => ?_)
  · refine J_bind (fun x14 h15 => ?_)
    refine J_bind (fun x16 h17 => ?_)
    refine J_bind (fun x18 h19 => ?_)
    refine J_g 1864 [] [(0, sl 1 (eSl false 7 Term.enc) a1), (1, sl 1 (eSl false 7 Term.enc) a2), (5, iv s12), (26, bv (!x18))] [] (orcC 2 (x_ix (kk := .i64) 63 64 1 (eSl false 7 Term.enc) (.tmp 17) (.tmp 18) h15) (orcC 6 (x_ix (kk := .i64) 63 64 1 (eSl false 7 Term.enc) (.tmp 21) (.tmp 22) h17) (orcC 8 (x_c0 [(.tmp 20), (.tmp 24)] [64, 64] (laws_eqTermS.ok x14 x16) h19) orcN))) ?_
    refine J_if2 26 (fun h20 => ?_) (fun h20 => ?_)
    · refine J_g 7460 [] [(4, bv false)] [] orcN ?_
      exact J_r1 rfl
    · refine J_g 467 [] [(0, sl 1 (eSl false 7 Term.enc) a1), (1, sl 1 (eSl false 7 Term.enc) a2), (5, iv (w64 (s12 + 1)))] [] orcN ?_
      exact J_q (J_b (ih (w64 (s12 + 1)))) rfl
  · exact J_qw (hk ()) rfl

theorem laws_eqTermSS.ok (a1 : (List (List Term))) (a2 : (List (List Term))) : Ok Try.prog 57 [sl 1 (eSl false 7 Term.enc) a1, sl 1 (eSl false 7 Term.enc) a2] [] ((laws_eqTermSS a1 a2).map fun r => (bv r, [])) := by
  refine Ok_of3 c57 Try.f57 0 27 (fun q => ?_)
  unfold laws_eqTermSS
  refine J_g 2 [] [(0, sl 1 (eSl false 7 Term.enc) a1), (1, sl 1 (eSl false 7 Term.enc) a2)] [] orcN ?_
  refine J_g 12 [] [(0, sl 1 (eSl false 7 Term.enc) a1), (1, sl 1 (eSl false 7 Term.enc) a2), (10, bv ((a1.length : Int) != (a2.length : Int)))] [] orcN ?_
  refine J_if2 10 (fun h3 => ?_) (fun h3 => ?_)
  · refine J_g 52 [] [(4, bv false)] [] orcN ?_
    exact J_r1 rfl
  · refine J_g 28 [] [(0, sl 1 (eSl false 7 Term.enc) a1), (1, sl 1 (eSl false 7 Term.enc) a2), (5, iv 0)] [] orcN ?_
    refine J_lqF (K0 := (fun r : Bool => some (bv r, []))) (fun _ => rfl) (laws_eqTermSS_l1.ok a1 a2 q _ (fun v21 => J_j ?_) 0)
    refine J_g 30 [] [(4, bv true)] [] orcN ?_
    exact J_r1 rfl

noncomputable def c33 : Code := (Try.f33.body).getD .skip

theorem laws_eqPack.ok (a1 : Pack) (a2 : Pack) : Ok Try.prog 33 [.ag (Pack.enc false a1), .ag (Pack.enc false a2)] [] ((laws_eqPack a1 a2).map fun r => (bv r, [])) := by
  refine Ok_of3 c33 Try.f33 0 39 (fun q => ?_)
  unfold laws_eqPack
  refine J_g 2 [(0, 0), (1, 1)] [(2, pp 0), (3, pp 1)] [(0, .box (Pack.enc false a1)), (1, .box (Pack.enc false a2))] orcN ?_
  refine J_g 12 [] [(2, pp 0), (3, pp 1), (9, bv (!(seq a1.Name a2.Name)))] [(0, .box (Pack.enc false a1)), (1, .box (Pack.enc false a2))] orcN ?_
  refine J_if2 9 (fun h3 => ?_) (fun h3 => ?_)
  · refine J_g 52 [] [(4, bv false)] [] orcN ?_
    exact J_r1 rfl
  · refine J_bind (fun x4 h5 => ?_)
    refine J_g 28 [] [(2, pp 0), (3, pp 1), (15, bv (!x4))] [(0, .box (Pack.enc false a1)), (1, .box (Pack.enc false a2))] (orcC 4 (x_c0 [(.tmp 11), (.tmp 13)] [62, 62] (laws_eqVersion.ok a1.Version a2.Version) h5) orcN) ?_
    refine J_if2 15 (fun h6 => ?_) (fun h6 => ?_)
    · refine J_g 116 [] [(4, bv false)] [] orcN ?_
      exact J_r1 rfl
    · refine J_g 60 [] [(2, pp 0), (3, pp 1), (20, bv (a1.Size != a2.Size))] [(0, .box (Pack.enc false a1)), (1, .box (Pack.enc false a2))] orcN ?_
      refine J_if2 20 (fun h7 => ?_) (fun h7 => ?_)
      · refine J_g 244 [] [(4, bv false)] [] orcN ?_
        exact J_r1 rfl
      · refine J_bind (fun x8 h9 => ?_)
        refine J_g 124 [] [(2, pp 0), (3, pp 1), (26, bv (!x8))] [(0, .box (Pack.enc false a1)), (1, .box (Pack.enc false a2))] (orcC 4 (x_c0 [(.tmp 22), (.tmp 24)] [56, 56] (laws_eqStringS.ok a1.Provides a2.Provides) h9) orcN) ?_
        refine J_if2 26 (fun h10 => ?_) (fun h10 => ?_)
        · refine J_g 500 [] [(4, bv false)] [] orcN ?_
          exact J_r1 rfl
        · refine J_bind (fun x11 h12 => ?_)
          refine J_g 252 [] [(2, pp 0), (3, pp 1), (32, bv (!x11))] [(0, .box (Pack.enc false a1)), (1, .box (Pack.enc false a2))] (orcC 4 (x_c0 [(.tmp 28), (.tmp 30)] [63, 63] (laws_eqTermSS.ok a1.Needs a2.Needs) h12) orcN) ?_
          refine J_if2 32 (fun h13 => ?_) (fun h13 => ?_)
          · refine J_g 1012 [] [(4, bv false)] [] orcN ?_
            exact J_r1 rfl
          · refine J_bind (fun x14 h15 => ?_)
            refine J_g 508 [] [(38, bv (!x14))] [] (orcC 4 (x_c0 [(.tmp 34), (.tmp 36)] [64, 64] (laws_eqTermS.ok a1.Bars a2.Bars) h15) orcN) ?_
            refine J_if2 38 (fun h16 => ?_) (fun h16 => ?_)
            · refine J_g 2036 [] [(4, bv false)] [] orcN ?_
              exact J_r1 rfl
            · refine J_g 510 [] [(4, bv true)] [] orcN ?_
              exact J_r1 rfl

noncomputable def c12 : Code := (Try.f12.body).getD .skip

theorem laws_eqPackS_l1.ok (a1 : (List Pack)) (a2 : (List Pack)) (q : Wd) (kn : Unit → Option (D × List Ent)) (hk : ∀ v : Unit, J (q.g Try.prog 12 0 27) c12 (atI c12 15) (St.mk' [] []) (some v) kn) :
    ∀ s12 : Int, J (q.g Try.prog 12 0 27) c12 (atI c12 116) (St.mk' [(0, sl 8 (Pack.enc false) a1), (1, sl 8 (Pack.enc false) a2), (5, iv s12)] []) (laws_eqPackS_l1 a1 a2 s12) (Fl.go (fun r : Bool => some (bv r, [])) kn) := by
  refine J_lp (fun g ih s12 => ?_)
  unfold laws_eqPackS_l1b
  refine J_g 464 [] [(0, sl 8 (Pack.enc false) a1), (1, sl 8 (Pack.enc false) a2), (5, iv s12), (14, bv (decide (s12 < (a1.length : Int))))] [] orcN ?_
  refine J_if2 14 (fun h13 => ?_) (fun h13 => ?_)
  · refine J_bind (fun x14 h15 => ?_)
    refine J_bind (fun x16 h17 => ?_)
    refine J_bind (fun x18 h19 => ?_)
    refine J_g 1864 [] [(0, sl 8 (Pack.enc false) a1), (1, sl 8 (Pack.enc false) a2), (5, iv s12), (26, bv (!x18))] [] (orcC 2 (x_ix (kk := .i64) 28 66 8 (Pack.enc false) (.tmp 17) (.tmp 18) h15) (orcC 6 (x_ix (kk := .i64) 28 66 8 (Pack.enc false) (.tmp 21) (.tmp 22) h17) (orcC 8 (x_c0 [(.tmp 20), (.tmp 24)] [66, 66] (laws_eqPack.ok x14 x16) h19) orcN))) ?_
    refine J_if2 26 (fun h20 => ?_) (fun h20 => ?_)
    · refine J_g 7460 [] [(4, bv false)] [] orcN ?_
      exact J_r1 rfl
    · refine J_g 467 [] [(0, sl 8 (Pack.enc false) a1), (1, sl 8 (Pack.enc false) a2), (5, iv (w64 (s12 + 1)))] [] orcN ?_
      exact J_q (J_b (ih (w64 (s12 + 1)))) rfl
  · exact J_qw (hk ()) rfl

theorem laws_eqPackS.ok (a1 : (List Pack)) (a2 : (List Pack)) : Ok Try.prog 12 [sl 8 (Pack.enc false) a1, sl 8 (Pack.enc false) a2] [] ((laws_eqPackS a1 a2).map fun r => (bv r, [])) := by
  refine Ok_of3 c12 Try.f12 0 27 (fun q => ?_)
  unfold laws_eqPackS
  refine J_g 2 [] [(0, sl 8 (Pack.enc false) a1), (1, sl 8 (Pack.enc false) a2)] [] orcN ?_
  refine J_g 12 [] [(0, sl 8 (Pack.enc false) a1), (1, sl 8 (Pack.enc false) a2), (10, bv ((a1.length : Int) != (a2.length : Int)))] [] orcN ?_
  refine J_if2 10 (fun h3 => ?_) (fun h3 => ?_)
  · refine J_g 52 [] [(4, bv false)] [] orcN ?_
    exact J_r1 rfl
  · refine J_g 28 [] [(0, sl 8 (Pack.enc false) a1), (1, sl 8 (Pack.enc false) a2), (5, iv 0)] [] orcN ?_
    refine J_lqF (K0 := (fun r : Bool => some (bv r, []))) (fun _ => rfl) (laws_eqPackS_l1.ok a1 a2 q _ (fun v21 => J_j ?_) 0)
    refine J_g 30 [] [(4, bv true)] [] orcN ?_
    exact J_r1 rfl

noncomputable def c13 : Code := (Try.f13.body).getD .skip

theorem laws_eqInt64S_l1.ok (a1 : (List Int)) (a2 : (List Int)) (q : Wd) (kn : Unit → Option (D × List Ent)) (hk : ∀ v : Unit, J (q.g Try.prog 13 0 26) c13 (atI c13 15) (St.mk' [] []) (some v) kn) :
    ∀ s10 : Int, J (q.g Try.prog 13 0 26) c13 (atI c13 116) (St.mk' [(0, sl 1 eI64 a1), (1, sl 1 eI64 a2), (5, iv s10)] []) (laws_eqInt64S_l1 a1 a2 s10) (Fl.go (fun r : Bool => some (bv r, [])) kn) := by
  refine J_lp (fun g ih s10 => ?_)
  unfold laws_eqInt64S_l1b
  refine J_g 464 [] [(0, sl 1 eI64 a1), (1, sl 1 eI64 a2), (5, iv s10), (14, bv (decide (s10 < (a1.length : Int))))] [] orcN ?_
  refine J_if2 14 (fun h11 => ?_) (fun h11 => ?_)
  · refine J_bind (fun x12 h13 => ?_)
    refine J_bind (fun x14 h15 => ?_)
    refine J_g 1864 [] [(0, sl 1 eI64 a1), (1, sl 1 eI64 a2), (5, iv s10), (25, bv (x12 != x14))] [] (orcC 2 (x_ix (kk := .i64) 23 2 1 eI64 (.tmp 17) (.tmp 18) h13) (orcC 6 (x_ix (kk := .i64) 23 2 1 eI64 (.tmp 21) (.tmp 22) h15) orcN)) ?_
    refine J_if2 25 (fun h16 => ?_) (fun h16 => ?_)
    · refine J_g 7460 [] [(4, bv false)] [] orcN ?_
      exact J_r1 rfl
    · refine J_g 467 [] [(0, sl 1 eI64 a1), (1, sl 1 eI64 a2), (5, iv (w64 (s10 + 1)))] [] orcN ?_
      exact J_q (J_b (ih (w64 (s10 + 1)))) rfl
  · exact J_qw (hk ()) rfl

theorem laws_eqInt64S.ok (a1 : (List Int)) (a2 : (List Int)) : Ok Try.prog 13 [sl 1 eI64 a1, sl 1 eI64 a2] [] ((laws_eqInt64S a1 a2).map fun r => (bv r, [])) := by
  refine Ok_of3 c13 Try.f13 0 26 (fun q => ?_)
  unfold laws_eqInt64S
  refine J_g 2 [] [(0, sl 1 eI64 a1), (1, sl 1 eI64 a2)] [] orcN ?_
  refine J_g 12 [] [(0, sl 1 eI64 a1), (1, sl 1 eI64 a2), (10, bv ((a1.length : Int) != (a2.length : Int)))] [] orcN ?_
  refine J_if2 10 (fun h3 => ?_) (fun h3 => ?_)
  · refine J_g 52 [] [(4, bv false)] [] orcN ?_
    exact J_r1 rfl
  · refine J_g 28 [] [(0, sl 1 eI64 a1), (1, sl 1 eI64 a2), (5, iv 0)] [] orcN ?_
    refine J_lqF (K0 := (fun r : Bool => some (bv r, []))) (fun _ => rfl) (laws_eqInt64S_l1.ok a1 a2 q _ (fun v17 => J_j ?_) 0)
    refine J_g 30 [] [(4, bv true)] [] orcN ?_
    exact J_r1 rfl

noncomputable def c14 : Code := (Try.f14.body).getD .skip

theorem laws_eqInt64SS_l1.ok (a1 : (List (List Int))) (a2 : (List (List Int))) (q : Wd) (kn : Unit → Option (D × List Ent)) (hk : ∀ v : Unit, J (q.g Try.prog 14 0 27) c14 (atI c14 15) (St.mk' [] []) (some v) kn) :
    ∀ s12 : Int, J (q.g Try.prog 14 0 27) c14 (atI c14 116) (St.mk' [(0, sl 1 (eSl false 1 eI64) a1), (1, sl 1 (eSl false 1 eI64) a2), (5, iv s12)] []) (laws_eqInt64SS_l1 a1 a2 s12) (Fl.go (fun r : Bool => some (bv r, [])) kn) := by
  refine J_lp (fun g ih s12 => ?_)
  unfold laws_eqInt64SS_l1b
  refine J_g 464 [] [(0, sl 1 (eSl false 1 eI64) a1), (1, sl 1 (eSl false 1 eI64) a2), (5, iv s12), (14, bv (decide (s12 < (a1.length : Int))))] [] orcN ?_
  refine J_if2 14 (fun h13 => ?_) (fun h13 => ?_)
  · refine J_bind (fun x14 h15 => ?_)
    refine J_bind (fun x16 h17 => ?_)
    refine J_bind (fun x18 h19 => ?_)
    refine J_g 1864 [] [(0, sl 1 (eSl false 1 eI64) a1), (1, sl 1 (eSl false 1 eI64) a2), (5, iv s12), (26, bv (!x18))] [] (orcC 2 (x_ix (kk := .i64) 24 23 1 (eSl false 1 eI64) (.tmp 17) (.tmp 18) h15) (orcC 6 (x_ix (kk := .i64) 24 23 1 (eSl false 1 eI64) (.tmp 21) (.tmp 22) h17) (orcC 8 (x_c0 [(.tmp 20), (.tmp 24)] [23, 23] (laws_eqInt64S.ok x14 x16) h19) orcN))) ?_
    refine J_if2 26 (fun h20 => ?_) (fun h20 => ?_)
    · refine J_g 7460 [] [(4, bv false)] [] orcN ?_
      exact J_r1 rfl
    · refine J_g 467 [] [(0, sl 1 (eSl false 1 eI64) a1), (1, sl 1 (eSl false 1 eI64) a2), (5, iv (w64 (s12 + 1)))] [] orcN ?_
      exact J_q (J_b (ih (w64 (s12 + 1)))) rfl
  · exact J_qw (hk ()) rfl

theorem laws_eqInt64SS.ok (a1 : (List (List Int))) (a2 : (List (List Int))) : Ok Try.prog 14 [sl 1 (eSl false 1 eI64) a1, sl 1 (eSl false 1 eI64) a2] [] ((laws_eqInt64SS a1 a2).map fun r => (bv r, [])) := by
  refine Ok_of3 c14 Try.f14 0 27 (fun q => ?_)
  unfold laws_eqInt64SS
  refine J_g 2 [] [(0, sl 1 (eSl false 1 eI64) a1), (1, sl 1 (eSl false 1 eI64) a2)] [] orcN ?_
  refine J_g 12 [] [(0, sl 1 (eSl false 1 eI64) a1), (1, sl 1 (eSl false 1 eI64) a2), (10, bv ((a1.length : Int) != (a2.length : Int)))] [] orcN ?_
  refine J_if2 10 (fun h3 => ?_) (fun h3 => ?_)
  · refine J_g 52 [] [(4, bv false)] [] orcN ?_
    exact J_r1 rfl
  · refine J_g 28 [] [(0, sl 1 (eSl false 1 eI64) a1), (1, sl 1 (eSl false 1 eI64) a2), (5, iv 0)] [] orcN ?_
    refine J_lqF (K0 := (fun r : Bool => some (bv r, []))) (fun _ => rfl) (laws_eqInt64SS_l1.ok a1 a2 q _ (fun v21 => J_j ?_) 0)
    refine J_g 30 [] [(4, bv true)] [] orcN ?_
    exact J_r1 rfl

noncomputable def c3 : Code := (Try.f3.body).getD .skip

theorem laws_FnExactCheckPlan.ok (a1 : (List Pack)) (a2 : (List Int)) (a3 : (List (List Int))) : Ok Try.prog 3 [sl 8 (Pack.enc false) a1, sl 1 eI64 a2, sl 1 (eSl false 1 eI64) a3] [] ((laws_FnExactCheckPlan a1 a2 a3).map fun r => (bv r, [])) := by
  refine Ok_of3 c3 Try.f3 0 61 (fun q => ?_)
  unfold laws_FnExactCheckPlan
  refine J_g 2 [] [(0, sl 8 (Pack.enc false) a1), (1, sl 1 eI64 a2), (2, sl 1 (eSl false 1 eI64) a3)] [] orcN ?_
  refine J_g 12 [] [(0, sl 8 (Pack.enc false) a1), (1, sl 1 eI64 a2), (2, sl 1 (eSl false 1 eI64) a3), (15, bv (decide ((a2.length : Int) > 1048576)))] [] orcN ?_
  refine J_if2 15 (fun h4 => ?_) (fun h4 => ?_)
  · refine J_g 52 [] [(6, bv true)] [] orcN ?_
    exact J_r1 rfl
  · refine J_g 14 [] [(0, sl 8 (Pack.enc false) a1), (1, sl 1 eI64 a2), (2, sl 1 (eSl false 1 eI64) a3), (7, iv 1048576)] [] orcN ?_
    refine J_bind (fun x5 h6 => ?_)
    refine J_g 30 [] [(0, sl 8 (Pack.enc false) a1), (1, sl 1 eI64 a2), (2, sl 1 (eSl false 1 eI64) a3), (7, iv x5)] [] (orcC 2 (x_c0 [(.tmp 16), (.tmp 17)] [22, 3] (laws_szPackS.ok a1 1048576) h6) orcN) ?_
    refine J_g 124 [] [(0, sl 8 (Pack.enc false) a1), (1, sl 1 eI64 a2), (2, sl 1 (eSl false 1 eI64) a3), (7, iv x5), (20, bv (decide (x5 < 0)))] [] orcN ?_
    refine J_if2 20 (fun h7 => ?_) (fun h7 => ?_)
    · refine J_g 500 [] [(6, bv true)] [] orcN ?_
      exact J_r1 rfl
    · refine J_bind (fun x8 h9 => ?_)
      refine J_g 126 [] [(0, sl 8 (Pack.enc false) a1), (1, sl 1 eI64 a2), (2, sl 1 (eSl false 1 eI64) a3), (7, iv x8)] [] (orcC 2 (x_c0 [(.tmp 21), (.tmp 22)] [24, 3] (laws_szInt64SS.ok a3 x5) h9) orcN) ?_
      refine J_g 508 [] [(0, sl 8 (Pack.enc false) a1), (1, sl 1 eI64 a2), (2, sl 1 (eSl false 1 eI64) a3), (25, bv (decide (x8 < 0)))] [] orcN ?_
      refine J_if2 25 (fun h10 => ?_) (fun h10 => ?_)
      · refine J_g 2036 [] [(6, bv true)] [] orcN ?_
        exact J_r1 rfl
      · refine J_bind (fun x11 h12 => ?_)
        refine J_bind (fun x13 h14 => ?_)
        refine J_bind (fun x15 h16 => ?_)
        refine J_bind (fun x17 h18 => ?_)
        refine J_g 510 [] [(0, sl 8 (Pack.enc false) a1), (1, sl 1 eI64 a2), (2, sl 1 (eSl false 1 eI64) a3), (8, bv x17)] [] (orcC 1 (x_c1 («as» := [sl 8 (Pack.enc false) a1]) [(.tmp 26)] [22] false [] [] (.cons (.same rfl) (.nil)) (laws_toPackS.ok a1) h12 (.own 0)) (orcC 3 (x_c1 («as» := [sl 1 eI64 a2]) [(.tmp 28)] [23] false [] [] (.cons (.same rfl) (.nil)) (laws_toInt64S.ok a2) h14 (.own 1)) (orcC 5 (x_c1 («as» := [sl 1 (eSl false 1 eI64) a3]) [(.tmp 30)] [24] false [] [] (.cons (.same rfl) (.nil)) (laws_toInt64SS.ok a3) h16 (.own 2)) (orcC 6 (x_c1 («as» := [rr 0 x11, rr 1 x13, rr 2 x15]) [(.tmp 27), (.tmp 29), (.tmp 31)] [28, 23, 24] true [(0, rE 8 (Pack.enc true) x11), (1, rE 1 eI64 x13), (2, rE 1 (eSl true 1 eI64) x15)] [] (.cons (am_b (.head _) (Pack.ro true) rfl) (.cons (am_b (.tail _ (.head _)) (fun _ => rfl) rfl) (.cons (am_b (.tail _ (.tail _ (.head _))) (eSl_ro (fun _ => rfl)) rfl) (.nil)))) (spec_CheckPlan.ok x11 x13 x15) h18 (.same rfl rfl) (hbor := fun _ => ⟨rfl, flat_sc⟩)) orcN)))) ?_
        refine J_bind (fun x19 h20 => ?_)
        refine J_g 1022 [] [(0, sl 8 (Pack.enc false) a1), (1, sl 1 eI64 a2), (2, sl 1 (eSl false 1 eI64) a3), (8, bv x17), (9, rr 0 x19)] [(0, rE 8 (Pack.enc true) x19)] (orcC 1 (x_c1 («as» := [sl 8 (Pack.enc false) a1]) [(.tmp 33)] [22] false [] [] (.cons (.same rfl) (.nil)) (laws_toPackS.ok a1) h20 (.own 0)) orcN) ?_
        refine J_bind (fun x21 h22 => ?_)
        refine J_g 2046 [] [(0, sl 8 (Pack.enc false) a1), (1, sl 1 eI64 a2), (2, sl 1 (eSl false 1 eI64) a3), (8, bv x17), (9, rr 0 x19), (10, rr 1 x21)] [(0, rE 8 (Pack.enc true) x19), (1, rE 1 eI64 x21)] (orcC 1 (x_c1 («as» := [sl 1 eI64 a2]) [(.tmp 35)] [23] false [] [] (.cons (.same rfl) (.nil)) (laws_toInt64S.ok a2) h22 (.own 1)) orcN) ?_
        refine J_bind (fun x23 h24 => ?_)
        refine J_g 4094 [] [(0, sl 8 (Pack.enc false) a1), (1, sl 1 eI64 a2), (2, sl 1 (eSl false 1 eI64) a3), (8, bv x17), (9, rr 0 x19), (10, rr 1 x21), (11, rr 2 x23)] [(0, rE 8 (Pack.enc true) x19), (1, rE 1 eI64 x21), (2, rE 1 (eSl true 1 eI64) x23)] (orcC 1 (x_c1 («as» := [sl 1 (eSl false 1 eI64) a3]) [(.tmp 37)] [24] false [] [] (.cons (.same rfl) (.nil)) (laws_toInt64SS.ok a3) h24 (.own 2)) orcN) ?_
        refine J_bind (fun x25 h26 => ?_)
        refine J_g 8190 [] [(0, sl 8 (Pack.enc false) a1), (1, sl 1 eI64 a2), (2, sl 1 (eSl false 1 eI64) a3), (8, bv x17), (9, rr 0 x19), (10, rr 1 x21), (11, rr 2 x23), (12, bv x25)] [(0, rE 8 (Pack.enc true) x19), (1, rE 1 eI64 x21), (2, rE 1 (eSl true 1 eI64) x23)] (orcC 3 (x_c1 («as» := [rr 0 x19, rr 1 x21, rr 2 x23]) [(.tmp 39), (.tmp 40), (.tmp 41)] [28, 23, 24] true [(0, rE 8 (Pack.enc true) x19), (1, rE 1 eI64 x21), (2, rE 1 (eSl true 1 eI64) x23)] [] (.cons (am_b (.head _) (Pack.ro true) rfl) (.cons (am_b (.tail _ (.head _)) (fun _ => rfl) rfl) (.cons (am_b (.tail _ (.tail _ (.head _))) (eSl_ro (fun _ => rfl)) rfl) (.nil)))) (impl_CheckPlan.ok x19 x21 x23) h26 (.same rfl rfl) (hbor := fun _ => ⟨rfl, flat_sc⟩)) orcN) ?_
        refine J_g 32764 [] [(0, sl 8 (Pack.enc false) a1), (1, sl 1 eI64 a2), (2, sl 1 (eSl false 1 eI64) a3), (9, rr 0 x19), (10, rr 1 x21), (11, rr 2 x23), (45, bv (!(x25 == x17)))] [(0, rE 8 (Pack.enc true) x19), (1, rE 1 eI64 x21), (2, rE 1 (eSl true 1 eI64) x23)] orcN ?_
        refine J_if2 45 (fun h27 => ?_) (fun h27 => ?_)
        · refine J_g 131060 [] [(6, bv false)] [] orcN ?_
          exact J_r1 rfl
        · refine J_bind (fun x28 h29 => ?_)
          refine J_bind (fun x30 h31 => ?_)
          refine J_g 65532 [] [(1, sl 1 eI64 a2), (2, sl 1 (eSl false 1 eI64) a3), (10, rr 1 x21), (11, rr 2 x23), (50, bv (!x30))] [(1, rE 1 eI64 x21), (2, rE 1 (eSl true 1 eI64) x23)] (orcC 2 (x_c1 («as» := [sl 8 (Pack.enc false) a1]) [(.tmp 47)] [22] false [] [] (.cons (.same rfl) (.nil)) (laws_toPackS.ok a1) h29 (.own 3)) (orcC 3 (x_c1 («as» := [rr 0 x19, rr 3 x28]) [(.tmp 46), (.tmp 48)] [28, 28] true [(0, rE 8 (Pack.enc true) x19), (3, rE 8 (Pack.enc true) x28)] [] (.cons (am_b (.head _) (Pack.ro true) rfl) (.cons (am_b (.tail _ (.head _)) (Pack.ro true) rfl) (.nil))) (laws_eqPackS.ok x19 x28) h31 (.same rfl rfl) (hbor := fun _ => ⟨rfl, flat_sc⟩)) orcN)) ?_
          refine J_if2 50 (fun h32 => ?_) (fun h32 => ?_)
          · refine J_g 262132 [] [(6, bv false)] [] orcN ?_
            exact J_r1 rfl
          · refine J_bind (fun x33 h34 => ?_)
            refine J_bind (fun x35 h36 => ?_)
            refine J_g 131068 [] [(2, sl 1 (eSl false 1 eI64) a3), (11, rr 2 x23), (55, bv (!x35))] [(2, rE 1 (eSl true 1 eI64) x23)] (orcC 2 (x_c1 («as» := [sl 1 eI64 a2]) [(.tmp 52)] [23] false [] [] (.cons (.same rfl) (.nil)) (laws_toInt64S.ok a2) h34 (.own 3)) (orcC 3 (x_c1 («as» := [rr 1 x21, rr 3 x33]) [(.tmp 51), (.tmp 53)] [23, 23] true [(1, rE 1 eI64 x21), (3, rE 1 eI64 x33)] [] (.cons (am_b (.head _) (fun _ => rfl) rfl) (.cons (am_b (.tail _ (.head _)) (fun _ => rfl) rfl) (.nil))) (laws_eqInt64S.ok x21 x33) h36 (.same rfl rfl) (hbor := fun _ => ⟨rfl, flat_sc⟩)) orcN)) ?_
            refine J_if2 55 (fun h37 => ?_) (fun h37 => ?_)
            · refine J_g 524276 [] [(6, bv false)] [] orcN ?_
              exact J_r1 rfl
            · refine J_bind (fun x38 h39 => ?_)
              refine J_bind (fun x40 h41 => ?_)
              refine J_g 262140 [] [(60, bv (!x40))] [] (orcC 2 (x_c1 («as» := [sl 1 (eSl false 1 eI64) a3]) [(.tmp 57)] [24] false [] [] (.cons (.same rfl) (.nil)) (laws_toInt64SS.ok a3) h39 (.own 3)) (orcC 3 (x_c1 («as» := [rr 2 x23, rr 3 x38]) [(.tmp 56), (.tmp 58)] [24, 24] true [(2, rE 1 (eSl true 1 eI64) x23), (3, rE 1 (eSl true 1 eI64) x38)] [] (.cons (am_b (.head _) (eSl_ro (fun _ => rfl)) rfl) (.cons (am_b (.tail _ (.head _)) (eSl_ro (fun _ => rfl)) rfl) (.nil))) (laws_eqInt64SS.ok x23 x38) h41 (.same rfl rfl) (hbor := fun _ => ⟨rfl, flat_sc⟩)) orcN)) ?_
              refine J_if2 60 (fun h42 => ?_) (fun h42 => ?_)
              · refine J_g 1048564 [] [(6, bv false)] [] orcN ?_
                exact J_r1 rfl
              · refine J_g 262142 [] [(6, bv true)] [] orcN ?_
                exact J_r1 rfl

end Go.Told

import Derived.Test.YtobkkecdnlecgaaGreatDoorOkSystemFaultx1
set_option linter.unusedVariables false
set_option maxRecDepth 4000
namespace Go.Told
open Go Go.Im Go.Proofs

noncomputable def c241 : Code := (Tryz.f241.body).getD .skip

theorem slices_ContainsFunc_LLimplTerm_impl_PackFault_1.ok (a1 : (List (List Term))) : Ok Tryz.prog 241 [sl 1 (eSl false 7 Term.enc) a1, .fn 242 []] [] ((slices_ContainsFunc_LLimplTerm_impl_PackFault_1 a1).map fun r => (bv r, [])) := by
  refine Ok_of3 c241 Tryz.f241 0 9 (fun q => ?_)
  unfold slices_ContainsFunc_LLimplTerm_impl_PackFault_1
  refine J_g 2 [] [(0, sl 1 (eSl false 7 Term.enc) a1), (1, .fn 242 [])] [] orcN ?_
  refine J_bind (fun x2 h3 => ?_)
  refine J_g 6 [] [(4, bv (decide (x2 ≥ 0)))] [] (orcC 2 (x_c1 («as» := [sl 1 (eSl false 7 Term.enc) a1, .fn 242 []]) [(.tmp 5), (.tmp 6)] [100, 154] false [] [] (.cons (.same rfl) (.cons (.fn (.nil)) (.nil))) (slices_IndexFunc_LLimplTerm_impl_PackFault_1.ok a1) h3 (.same rfl rfl)) orcN) ?_
  exact J_r1 rfl

noncomputable def c209 : Code := (Tryz.f209.body).getD .skip

theorem slices_Index_Lstring_l1.ok (a1 : (List ByteArray)) (a2 : ByteArray) (q : Wd) (kn : Unit → Option (D × List Ent)) (hk : ∀ v : Unit, J (q.g Tryz.prog 209 0 19) c209 (atI c209 7) (St.mk' [] []) (some v) kn) :
    ∀ s7 : Int, J (q.g Tryz.prog 209 0 19) c209 (atI c209 52) (St.mk' [(0, sl 1 eStr a1), (1, sv a2), (7, iv (a1.length : Int)), (8, iv s7)] []) (slices_Index_Lstring_l1 a1 a2 s7) (Fl.go (fun r : Int => some (iv r, [])) kn) := by
  refine J_lp (fun g ih s7 => ?_)
  unfold slices_Index_Lstring_l1b
  refine J_g 104 [] [(0, sl 1 eStr a1), (1, sv a2), (7, iv (a1.length : Int)), (8, iv s7), (9, bv (decide (s7 < (a1.length : Int))))] [] orcN ?_
  refine J_if2 9 (fun h8 => ?_) (fun h8 => ?_)
  · refine J_g 1688 [] [(0, sl 1 eStr a1), (1, sv a2), (5, iv s7), (7, iv (a1.length : Int)), (8, iv s7)] [] orcN ?_
    refine J_bind (fun x9 h10 => ?_)
    refine J_g 3378 [] [(0, sl 1 eStr a1), (1, sv a2), (5, iv s7), (7, iv (a1.length : Int)), (8, iv s7), (16, bv (seq a2 x9))] [] (orcC 3 (x_ix (kk := .i64) 86 9 1 eStr (.tmp 12) (.tmp 13) h10) orcN) ?_
    refine J_if2 16 (fun h11 => ?_) (fun h11 => ?_)
    · refine J_g 13516 [] [(4, iv s7)] [] orcN ?_
      exact J_r1 rfl
    · refine J_g 423 [] [(0, sl 1 eStr a1), (1, sv a2), (7, iv (a1.length : Int)), (8, iv (w64 (s7 + 1)))] [] orcN ?_
      exact J_q (J_b (ih (w64 (s7 + 1)))) rfl
  · exact J_qw (hk ()) rfl

theorem slices_Index_Lstring.ok (a1 : (List ByteArray)) (a2 : ByteArray) : Ok Tryz.prog 209 [sl 1 eStr a1, sv a2] [] ((slices_Index_Lstring a1 a2).map fun r => (iv r, [])) := by
  refine Ok_of3 c209 Tryz.f209 0 19 (fun q => ?_)
  unfold slices_Index_Lstring
  refine J_g 2 [] [(0, sl 1 eStr a1), (1, sv a2)] [] orcN ?_
  refine J_g 12 [] [(0, sl 1 eStr a1), (1, sv a2), (7, iv (a1.length : Int)), (8, iv 0)] [] orcN ?_
  refine J_lqF (K0 := (fun r : Int => some (iv r, []))) (fun _ => rfl) (slices_Index_Lstring_l1.ok a1 a2 q _ (fun v12 => J_j ?_) 0)
  refine J_g 14 [] [(4, iv (-1))] [] orcN ?_
  exact J_r1 rfl

noncomputable def c137 : Code := (Tryz.f137.body).getD .skip

theorem slices_Contains_Lstring.ok (a1 : (List ByteArray)) (a2 : ByteArray) : Ok Tryz.prog 137 [sl 1 eStr a1, sv a2] [] ((slices_Contains_Lstring a1 a2).map fun r => (bv r, [])) := by
  refine Ok_of3 c137 Tryz.f137 0 9 (fun q => ?_)
  unfold slices_Contains_Lstring
  refine J_g 2 [] [(0, sl 1 eStr a1), (1, sv a2)] [] orcN ?_
  refine J_bind (fun x3 h4 => ?_)
  refine J_g 6 [] [(4, bv (decide (x3 ≥ 0)))] [] (orcC 2 (x_c0 [(.tmp 5), (.tmp 6)] [86, 9] (slices_Index_Lstring.ok a1 a2) h4) orcN) ?_
  exact J_r1 rfl

noncomputable def c254 : Code := (Tryz.f254.body).getD .skip

theorem impl_top.ok  : Ok Tryz.prog 254 [] [] ((impl_top).map fun r => (.ag (Version.enc r), [])) := by
  refine Ok_of3 c254 Tryz.f254 0 2 (fun q => ?_)
  unfold impl_top
  refine J_g 2 [(0, 0)] [(0, pp 0)] [(0, .box [iv 0, iv 0, iv 0])] orcN ?_
  refine J_g 6 [] [(0, pp 0)] [(0, .box [iv 1000, iv 0, iv 0])] orcN ?_
  exact J_r1 rfl

noncomputable def c310 : Code := (Tryz.f310.body).getD .skip

theorem cmp_isNaN_int64.ok (a1 : Int) : Ok Tryz.prog 310 [iv a1] [] ((cmp_isNaN_int64 a1).map fun r => (bv r, [])) := by
  refine Ok_of3 c310 Tryz.f310 0 6 (fun q => ?_)
  unfold cmp_isNaN_int64
  refine J_g 2 [] [(0, iv a1)] [] orcN ?_
  refine J_g 6 [] [(2, bv (a1 != a1))] [] orcN ?_
  exact J_r1 rfl

noncomputable def c303 : Code := (Tryz.f303.body).getD .skip

theorem cmp_Compare_int64.ok (a1 : Int) (a2 : Int) : Ok Tryz.prog 303 [iv a1, iv a2] [] ((cmp_Compare_int64 a1 a2).map fun r => (iv r, [])) := by
  refine Ok_of3 c303 Tryz.f303 0 20 (fun q => ?_)
  unfold cmp_Compare_int64
  refine J_g 2 [] [(0, iv a1), (1, iv a2)] [] orcN ?_
  refine J_bind (fun x3 h4 => ?_)
  refine J_g 6 [] [(0, iv a1), (1, iv a2), (5, bv x3)] [] (orcC 1 (x_c0 [(.tmp 7)] [2] (cmp_isNaN_int64.ok a1) h4) orcN) ?_
  refine J_bind (fun x5 h6 => ?_)
  refine J_g 14 [] [(0, iv a1), (1, iv a2), (5, bv x3), (6, bv x5)] [] (orcC 1 (x_c0 [(.tmp 9)] [2] (cmp_isNaN_int64.ok a2) h6) orcN) ?_
  refine J_g 60 [] [(0, iv a1), (1, iv a2), (6, bv x5), (11, bv x3)] [] orcN ?_
  refine J_if2 11 (fun h7 => ?_) (fun h7 => ?_)
  · refine J_g 488 [] [(12, bv x5)] [] orcN ?_
    refine J_if2 12 (fun h8 => ?_) (fun h8 => ?_)
    · refine J_g 1956 [] [(4, iv 0)] [] orcN ?_
      exact J_r1 rfl
    · refine J_g 490 [] [(4, iv (-1))] [] orcN ?_
      exact J_r1 rfl
  · refine J_g 124 [] [(0, iv a1), (1, iv a2), (13, bv x5)] [] orcN ?_
    refine J_if2 13 (fun h9 => ?_) (fun h9 => ?_)
    · refine J_g 500 [] [(4, iv 1)] [] orcN ?_
      exact J_r1 rfl
    · refine J_g 252 [] [(0, iv a1), (1, iv a2), (16, bv (decide (a1 < a2)))] [] orcN ?_
      refine J_if2 16 (fun h10 => ?_) (fun h10 => ?_)
      · refine J_g 1012 [] [(4, iv (-1))] [] orcN ?_
        exact J_r1 rfl
      · refine J_g 508 [] [(19, bv (decide (a1 > a2)))] [] orcN ?_
        refine J_if2 19 (fun h11 => ?_) (fun h11 => ?_)
        · refine J_g 2036 [] [(4, iv 1)] [] orcN ?_
          exact J_r1 rfl
        · refine J_g 510 [] [(4, iv 0)] [] orcN ?_
          exact J_r1 rfl

noncomputable def c302 : Code := (Tryz.f302.body).getD .skip

theorem cmp_Or_int_l1.ok (a1 : (List Int)) (q : Wd) (kn : Unit → Option (D × List Ent)) (hk : ∀ v : Unit, J (q.g Tryz.prog 302 0 18) c302 (atI c302 15) (St.mk' [(3, iv 0)] []) (some v) kn) :
    ∀ s6 : Int, J (q.g Tryz.prog 302 0 18) c302 (atI c302 116) (St.mk' [(3, iv 0), (6, sl 1 eI64 a1), (7, iv (a1.length : Int)), (8, iv s6)] []) (cmp_Or_int_l1 a1 s6) (Fl.go (fun r : Int => some (iv r, [])) kn) := by
  refine J_lp (fun g ih s6 => ?_)
  unfold cmp_Or_int_l1b
  refine J_g 232 [] [(3, iv 0), (6, sl 1 eI64 a1), (7, iv (a1.length : Int)), (8, iv s6), (9, bv (decide (s6 < (a1.length : Int))))] [] orcN ?_
  refine J_if2 9 (fun h7 => ?_) (fun h7 => ?_)
  · refine J_bind (fun x8 h9 => ?_)
    refine J_g 3736 [] [(3, iv 0), (5, iv x8), (6, sl 1 eI64 a1), (7, iv (a1.length : Int)), (8, iv s6)] [] (orcC 0 (x_ix (kk := .i64) 318 3 1 eI64 (.tmp 6) (.tmp 8) h9) orcN) ?_
    refine J_g 7474 [] [(3, iv 0), (5, iv x8), (6, sl 1 eI64 a1), (7, iv (a1.length : Int)), (8, iv s6), (14, bv (x8 != 0))] [] orcN ?_
    refine J_if2 14 (fun h10 => ?_) (fun h10 => ?_)
    · refine J_g 29900 [] [(2, iv x8)] [] orcN ?_
      exact J_r1 rfl
    · refine J_g 935 [] [(3, iv 0), (6, sl 1 eI64 a1), (7, iv (a1.length : Int)), (8, iv (w64 (s6 + 1)))] [] orcN ?_
      exact J_q (J_b (ih (w64 (s6 + 1)))) rfl
  · exact J_qw (hk ()) rfl

theorem cmp_Or_int.ok (a1 : (List Int)) : Ok Tryz.prog 302 [sl 1 eI64 a1] [] ((cmp_Or_int a1).map fun r => (iv r, [])) := by
  refine Ok_of3 c302 Tryz.f302 0 18 (fun q => ?_)
  unfold cmp_Or_int
  refine J_g 2 [] [(0, sl 1 eI64 a1)] [] orcN ?_
  refine J_g 6 [] [(0, sl 1 eI64 a1), (3, iv 0)] [] orcN ?_
  refine J_g 28 [] [(3, iv 0), (6, sl 1 eI64 a1), (7, iv (a1.length : Int)), (8, iv 0)] [] orcN ?_
  refine J_lqF (K0 := (fun r : Int => some (iv r, []))) (fun _ => rfl) (cmp_Or_int_l1.ok a1 q _ (fun v11 => J_j ?_) 0)
  refine J_g 30 [] [(2, iv 0)] [] orcN ?_
  exact J_r1 rfl

noncomputable def c257 : Code := (Tryz.f257.body).getD .skip

theorem impl_compare.ok (a1 : Version) (a2 : Version) : Ok Tryz.prog 257 [.ag (Version.enc a1), .ag (Version.enc a2)] [] ((impl_compare a1 a2).map fun r => (iv r, [])) := by
  refine Ok_of3 c257 Tryz.f257 0 22 (fun q => ?_)
  unfold impl_compare
  refine J_g 2 [(0, 0), (1, 1)] [(2, pp 0), (3, pp 1)] [(0, .box (Version.enc a1)), (1, .box (Version.enc a2))] orcN ?_
  refine J_bind (fun x3 h4 => ?_)
  refine J_bind (fun x5 h6 => ?_)
  refine J_bind (fun x7 h8 => ?_)
  refine J_bind (fun x9 h10 => ?_)
  refine J_g 6 [] [(4, iv x9)] [] (orcC 4 (x_c0 [(.tmp 6), (.tmp 8)] [2, 2] (cmp_Compare_int64.ok a1.A a2.A) h4) (orcC 9 (x_c0 [(.tmp 11), (.tmp 13)] [2, 2] (cmp_Compare_int64.ok a1.B a2.B) h6) (orcC 14 (x_c0 [(.tmp 16), (.tmp 18)] [2, 2] (cmp_Compare_int64.ok a1.C a2.C) h8) (orcC 15 (x_bp 318 3 1 2 eI64 [x3, x5, x7] [0, 1, 2] [(.tmp 9), (.tmp 14), (.tmp 19)] [iv x3, iv x5, iv x7]) (orcC 16 (x_c1 («as» := [rr 2 [x3, x5, x7]]) [(.tmp 20)] [318] true [(2, rE 1 eI64 [x3, x5, x7])] [] (.cons (am_b (.head _) (fun _ => rfl) rfl) (.nil)) (cmp_Or_int.ok [x3, x5, x7]) h10 (.same rfl rfl) (hbor := fun _ => ⟨rfl, flat_sc⟩)) orcN))))) ?_
  exact J_r1 rfl

noncomputable def c190 : Code := (Tryz.f190.body).getD .skip

theorem impl_TermFault.ok (a1 : Term) : Ok Tryz.prog 190 [.ag (Term.enc a1)] [] ((impl_TermFault a1).map fun r => (iv r, [])) := by
  refine Ok_of3 c190 Tryz.f190 0 35 (fun q => ?_)
  unfold impl_TermFault
  refine J_g 2 [(0, 0)] [(1, pp 0)] [(0, .box (Term.enc a1))] orcN ?_
  refine J_bind (fun x2 h3 => ?_)
  refine J_g 12 [] [(1, pp 0), (3, iv x2)] [(0, .box (Term.enc a1))] (orcC 2 (x_c0 [(.tmp 6)] [9] (impl_NameFault.ok a1.Name) h3) orcN) ?_
  refine J_g 26 [] [(1, pp 0), (3, iv x2), (9, bv (x2 != 0))] [(0, .box (Term.enc a1))] orcN ?_
  refine J_if2 9 (fun h4 => ?_) (fun h4 => ?_)
  · refine J_g 108 [] [(2, iv x2)] [] orcN ?_
    exact J_r1 rfl
  · refine J_bind (fun x5 h6 => ?_)
    refine J_g 28 [] [(1, pp 0), (4, iv x5)] [(0, .box (Term.enc a1))] (orcC 2 (x_c0 [(.tmp 12)] [99] (impl_VersionFault.ok a1.Low) h6) orcN) ?_
    refine J_g 58 [] [(1, pp 0), (4, iv x5), (15, bv (x5 != 0))] [(0, .box (Term.enc a1))] orcN ?_
    refine J_if2 15 (fun h7 => ?_) (fun h7 => ?_)
    · refine J_g 236 [] [(2, iv x5)] [] orcN ?_
      exact J_r1 rfl
    · refine J_bind (fun x8 h9 => ?_)
      refine J_join (atI c190 121) (fun v13 : Bool => St.mk' [(1, pp 0), (17, bv v13)] [(0, .box (Term.enc a1))]) (fun v13 => ?_) (fun jv13 => ?_)
      · refine J_if2 17 (fun h14 => ?_) (fun h14 => ?_)
        · refine J_g 484 [] [(2, iv 3)] [] orcN ?_
          exact J_r1 rfl
        · refine J_bind (fun x15 h16 => ?_)
          refine J_g 486 [] [(28, bv (decide (x15 ≥ 0)))] [] (orcC 4 (x_c0 [(.tmp 30), (.tmp 32)] [99, 99] (impl_compare.ok a1.Low a1.High) h16) orcN) ?_
          refine J_if2 28 (fun h17 => ?_) (fun h17 => ?_)
          · refine J_g 1948 [] [(2, iv 1)] [] orcN ?_
            exact J_r1 rfl
          · refine J_g 62 [] [(2, iv 0)] [] orcN ?_
            exact J_r1 rfl
      · refine J_ite (fun h10 => ?_) (fun h10 => ?_)
        · refine J_bind (fun x11 h12 => ?_)
          refine J_g 120 [] [(1, pp 0), (17, bv (x11 != 0))] [(0, .box (Term.enc a1))] (orcC 2 (x_c0 [] [] (impl_top.ok) h9) (orcC 3 (x_seq (b := .neq) (r := (a1.High.A == x8.A && (a1.High.B == x8.B && (a1.High.C == x8.C && true)))) 99 99 (.tmp 19) (.tmp 20) [.int .i64 a1.High.A, .int .i64 a1.High.B, .int .i64 a1.High.C] [.int .i64 x8.A, .int .i64 x8.B, .int .i64 x8.C] (.inr ⟨rfl, rfl⟩)) (orcL 4 [(21, bv (!(a1.High.A == x8.A && (a1.High.B == x8.B && (a1.High.C == x8.C && true)))))] [] h10 (orcH 7 4 22 true (x_c0 [(.tmp 24)] [99] (impl_VersionFault.ok a1.High) h12) orcN)))) ?_
          exact J_qw (J_j (jv13 (x11 != 0))) rfl
        · refine J_g 120 [] [(1, pp 0), (17, bv false)] [(0, .box (Term.enc a1))] (orcC 2 (x_c0 [] [] (impl_top.ok) h9) (orcC 3 (x_seq (b := .neq) (r := (a1.High.A == x8.A && (a1.High.B == x8.B && (a1.High.C == x8.C && true)))) 99 99 (.tmp 19) (.tmp 20) [.int .i64 a1.High.A, .int .i64 a1.High.B, .int .i64 a1.High.C] [.int .i64 x8.A, .int .i64 x8.B, .int .i64 x8.C] (.inr ⟨rfl, rfl⟩)) (orcL 4 [(21, bv (!(a1.High.A == x8.A && (a1.High.B == x8.B && (a1.High.C == x8.C && true)))))] [] h10 orcN))) ?_
          exact J_qw (J_j (jv13 false)) rfl

noncomputable def c191 : Code := (Tryz.f191.body).getD .skip

theorem impl_termsFault_l1.ok (a1 : (List Term)) (q : Wd) (kn : Unit → Option (D × List Ent)) (hk : ∀ v : Unit, J (q.g Tryz.prog 191 0 18) c191 (atI c191 7) (St.mk' [] []) (some v) kn) :
    ∀ s8 : Int, J (q.g Tryz.prog 191 0 18) c191 (atI c191 52) (St.mk' [(6, sl 7 Term.enc a1), (7, iv (a1.length : Int)), (8, iv s8)] []) (impl_termsFault_l1 a1 s8) (Fl.go (fun r : Int => some (iv r, [])) kn) := by
  refine J_lp (fun g ih s8 => ?_)
  unfold impl_termsFault_l1b
  refine J_g 104 [] [(6, sl 7 Term.enc a1), (7, iv (a1.length : Int)), (8, iv s8), (9, bv (decide (s8 < (a1.length : Int))))] [] orcN ?_
  refine J_if2 9 (fun h9 => ?_) (fun h9 => ?_)
  · refine J_bind (fun x10 h11 => ?_)
    refine J_g 1688 [(2, 0)] [(4, pp 0), (6, sl 7 Term.enc a1), (7, iv (a1.length : Int)), (8, iv s8)] [(0, .box (Term.enc x10))] (orcC 0 (x_ix (kk := .i64) 75 149 7 Term.enc (.tmp 6) (.tmp 8) h11) orcN) ?_
    refine J_bind (fun x12 h13 => ?_)
    refine J_g 3378 [] [(5, iv x12), (6, sl 7 Term.enc a1), (7, iv (a1.length : Int)), (8, iv s8)] [] (orcC 1 (x_c0 [(.tmp 12)] [149] (impl_TermFault.ok x10) h13) orcN) ?_
    refine J_g 6758 [] [(5, iv x12), (6, sl 7 Term.enc a1), (7, iv (a1.length : Int)), (8, iv s8), (15, bv (x12 != 0))] [] orcN ?_
    refine J_if2 15 (fun h14 => ?_) (fun h14 => ?_)
    · refine J_g 27036 [] [(2, iv x12)] [] orcN ?_
      exact J_r1 rfl
    · refine J_g 423 [] [(6, sl 7 Term.enc a1), (7, iv (a1.length : Int)), (8, iv (w64 (s8 + 1)))] [] orcN ?_
      exact J_q (J_b (ih (w64 (s8 + 1)))) rfl
  · exact J_qw (hk ()) rfl

theorem impl_termsFault.ok (a1 : (List Term)) : Ok Tryz.prog 191 [sl 7 Term.enc a1] [] ((impl_termsFault a1).map fun r => (iv r, [])) := by
  refine Ok_of3 c191 Tryz.f191 0 18 (fun q => ?_)
  unfold impl_termsFault
  refine J_g 2 [] [(0, sl 7 Term.enc a1)] [] orcN ?_
  refine J_g 12 [] [(6, sl 7 Term.enc a1), (7, iv (a1.length : Int)), (8, iv 0)] [] orcN ?_
  refine J_lqF (K0 := (fun r : Int => some (iv r, []))) (fun _ => rfl) (impl_termsFault_l1.ok a1 q _ (fun v15 => J_j ?_) 0)
  refine J_g 14 [] [(2, iv 0)] [] orcN ?_
  exact J_r1 rfl

noncomputable def c173 : Code := (Tryz.f173.body).getD .skip

theorem impl_PackFault_l2.ok (a1 : Pack) (q : Wd) (kn : Unit → Option (D × List Ent)) (hk : ∀ v : Unit, J (q.g Tryz.prog 173 0 93) c173 (atI c173 63) (St.mk' [(1, pp 0)] [(0, .box (Pack.enc false a1))]) (some v) kn) :
    ∀ s54 : Int, J (q.g Tryz.prog 173 0 93) c173 (atI c173 500) (St.mk' [(1, pp 0), (75, sl 1 (eSl false 7 Term.enc) a1.Needs), (76, iv (a1.Needs.length : Int)), (77, iv s54)] [(0, .box (Pack.enc false a1))]) (impl_PackFault_l2 a1 s54) (Fl.go (fun r : Int => some (iv r, [])) kn) := by
  refine J_lp (fun g ih s54 => ?_)
  unfold impl_PackFault_l2b
  refine J_g 1000 [] [(1, pp 0), (75, sl 1 (eSl false 7 Term.enc) a1.Needs), (76, iv (a1.Needs.length : Int)), (77, iv s54), (78, bv (decide (s54 < (a1.Needs.length : Int))))] [(0, .box (Pack.enc false a1))] orcN ?_
  refine J_if2 78 (fun h55 => ?_) (fun h55 => ?_)
  · refine J_bind (fun x56 h57 => ?_)
    refine J_g 16024 [] [(1, pp 0), (8, sl 7 Term.enc x56), (75, sl 1 (eSl false 7 Term.enc) a1.Needs), (76, iv (a1.Needs.length : Int)), (77, iv s54)] [(0, .box (Pack.enc false a1))] (orcC 0 (x_ix (kk := .i64) 100 75 1 (eSl false 7 Term.enc) (.tmp 75) (.tmp 77) h57) orcN) ?_
    refine J_g 64100 [] [(1, pp 0), (8, sl 7 Term.enc x56), (75, sl 1 (eSl false 7 Term.enc) a1.Needs), (76, iv (a1.Needs.length : Int)), (77, iv s54), (83, bv ((x56.length : Int) == 0))] [(0, .box (Pack.enc false a1))] orcN ?_
    refine J_if2 83 (fun h58 => ?_) (fun h58 => ?_)
    · refine J_g 256404 [] [(2, iv 1)] [] orcN ?_
      exact J_r1 rfl
    · refine J_bind (fun x59 h60 => ?_)
      refine J_g 64102 [] [(1, pp 0), (9, iv x59), (75, sl 1 (eSl false 7 Term.enc) a1.Needs), (76, iv (a1.Needs.length : Int)), (77, iv s54)] [(0, .box (Pack.enc false a1))] (orcC 1 (x_c0 [(.tmp 84)] [75] (impl_termsFault.ok x56) h60) orcN) ?_
      refine J_g 128206 [] [(1, pp 0), (9, iv x59), (75, sl 1 (eSl false 7 Term.enc) a1.Needs), (76, iv (a1.Needs.length : Int)), (77, iv s54), (87, bv (x59 != 0))] [(0, .box (Pack.enc false a1))] orcN ?_
      refine J_if2 87 (fun h61 => ?_) (fun h61 => ?_)
      · refine J_g 512828 [] [(2, iv x59)] [] orcN ?_
        exact J_r1 rfl
      · refine J_g 4007 [] [(1, pp 0), (75, sl 1 (eSl false 7 Term.enc) a1.Needs), (76, iv (a1.Needs.length : Int)), (77, iv (w64 (s54 + 1)))] [(0, .box (Pack.enc false a1))] orcN ?_
        exact J_q (J_b (ih (w64 (s54 + 1)))) rfl
  · exact J_qw (hk ()) rfl

theorem impl_PackFault_l1.ok (a1 : Pack) (q : Wd) (kn : Unit → Option (D × List Ent)) (hk : ∀ v : Unit, J (q.g Tryz.prog 173 0 93) c173 (atI c173 31) (St.mk' [(1, pp 0)] [(0, .box (Pack.enc false a1))]) (some v) kn) :
    ∀ s32 : Int, J (q.g Tryz.prog 173 0 93) c173 (atI c173 244) (St.mk' [(1, pp 0), (49, sl 1 eStr a1.Provides), (50, iv (a1.Provides.length : Int)), (51, iv s32)] [(0, .box (Pack.enc false a1))]) (impl_PackFault_l1 a1 s32) (Fl.go (fun r : Int => some (iv r, [])) kn) := by
  refine J_lp (fun g ih s32 => ?_)
  unfold impl_PackFault_l1b
  refine J_g 488 [] [(1, pp 0), (49, sl 1 eStr a1.Provides), (50, iv (a1.Provides.length : Int)), (51, iv s32), (52, bv (decide (s32 < (a1.Provides.length : Int))))] [(0, .box (Pack.enc false a1))] orcN ?_
  refine J_if2 52 (fun h33 => ?_) (fun h33 => ?_)
  · refine J_bind (fun x34 h35 => ?_)
    refine J_g 7832 [] [(1, pp 0), (4, iv s32), (5, sv x34), (49, sl 1 eStr a1.Provides), (50, iv (a1.Provides.length : Int)), (51, iv s32)] [(0, .box (Pack.enc false a1))] (orcC 1 (x_ix (kk := .i64) 86 9 1 eStr (.tmp 49) (.tmp 51) h35) orcN) ?_
    refine J_bind (fun x36 h37 => ?_)
    refine J_g 31332 [] [(1, pp 0), (4, iv s32), (5, sv x34), (6, iv x36), (49, sl 1 eStr a1.Provides), (50, iv (a1.Provides.length : Int)), (51, iv s32)] [(0, .box (Pack.enc false a1))] (orcC 1 (x_c0 [(.tmp 56)] [9] (impl_NameFault.ok x34) h37) orcN) ?_
    refine J_g 62666 [] [(1, pp 0), (4, iv s32), (5, sv x34), (6, iv x36), (49, sl 1 eStr a1.Provides), (50, iv (a1.Provides.length : Int)), (51, iv s32), (59, bv (x36 != 0))] [(0, .box (Pack.enc false a1))] orcN ?_
    refine J_if2 59 (fun h38 => ?_) (fun h38 => ?_)
    · refine J_g 250668 [] [(2, iv x36)] [] orcN ?_
      exact J_r1 rfl
    · refine J_join (atI c173 31335) (fun v44 : Bool => St.mk' [(1, pp 0), (49, sl 1 eStr a1.Provides), (50, iv (a1.Provides.length : Int)), (51, iv s32), (72, bv v44)] [(0, .box (Pack.enc false a1))]) (fun v44 => ?_) (fun jv44 => ?_)
      · refine J_if2 72 (fun h45 => ?_) (fun h45 => ?_)
        · refine J_g 125340 [] [(2, iv 6)] [] orcN ?_
          exact J_r1 rfl
        · refine J_g 1959 [] [(1, pp 0), (49, sl 1 eStr a1.Provides), (50, iv (a1.Provides.length : Int)), (51, iv (w64 (s32 + 1)))] [(0, .box (Pack.enc false a1))] orcN ?_
          exact J_q (J_b (ih (w64 (s32 + 1)))) rfl
      · refine J_ite (fun h39 => ?_) (fun h39 => ?_)
        · refine J_g 31334 [] [(1, pp 0), (49, sl 1 eStr a1.Provides), (50, iv (a1.Provides.length : Int)), (51, iv s32), (72, bv true)] [(0, .box (Pack.enc false a1))] (orcL 4 [(64, bv (seq x34 a1.Name))] [] h39 orcN) ?_
          exact J_qw (J_j (jv44 true)) rfl
        · refine J_bind (fun x40 h41 => ?_)
          refine J_bind (fun x42 h43 => ?_)
          refine J_g 31334 [] [(1, pp 0), (49, sl 1 eStr a1.Provides), (50, iv (a1.Provides.length : Int)), (51, iv s32), (72, bv x42)] [(0, .box (Pack.enc false a1))] (orcL 4 [(64, bv (seq x34 a1.Name))] [] h39 (orcH 8 4 65 false (x_ls 86 9 1 eStr (.tmp 67) none (some (.tmp 68)) h41) (orcH 10 4 65 false (x_c0 [(.tmp 69), (.tmp 70)] [86, 9] (slices_Contains_Lstring.ok x40 x34) h43) orcN))) ?_
          exact J_qw (J_j (jv44 x42)) rfl
  · exact J_qw (hk ()) rfl

theorem impl_PackFault.ok (a1 : Pack) : Ok Tryz.prog 173 [.ag (Pack.enc false a1)] [] ((impl_PackFault a1).map fun r => (iv r, [])) := by
  refine Ok_of3 c173 Tryz.f173 0 93 (fun q => ?_)
  unfold impl_PackFault
  refine J_g 2 [(0, 0)] [(1, pp 0)] [(0, .box (Pack.enc false a1))] orcN ?_
  refine J_bind (fun x2 h3 => ?_)
  refine J_bind (fun x4 h5 => ?_)
  refine J_bind (fun x6 h7 => ?_)
  refine J_g 12 [] [(1, pp 0), (3, iv x6)] [(0, .box (Pack.enc false a1))] (orcC 2 (x_c0 [(.tmp 11)] [9] (impl_NameFault.ok a1.Name) h3) (orcC 5 (x_c0 [(.tmp 14)] [99] (impl_VersionFault.ok a1.Version) h5) (orcC 6 (x_bp 39 2 1 1 eI64 [x2, x4] [0, 1] [(.tmp 12), (.tmp 15)] [iv x2, iv x4]) (orcC 7 (x_c1 («as» := [rr 1 [x2, x4]]) [(.tmp 16)] [39] true [(1, rE 1 eI64 [x2, x4])] [] (.cons (am_b (.head _) (fun _ => rfl) rfl) (.nil)) (impl_firstCode.ok [x2, x4]) h7 (.same rfl rfl) (hbor := fun _ => ⟨rfl, flat_sc⟩)) orcN)))) ?_
  refine J_g 26 [] [(1, pp 0), (3, iv x6), (19, bv (x6 != 0))] [(0, .box (Pack.enc false a1))] orcN ?_
  refine J_if2 19 (fun h8 => ?_) (fun h8 => ?_)
  · refine J_g 108 [] [(2, iv x6)] [] orcN ?_
    exact J_r1 rfl
  · refine J_bind (fun x9 h10 => ?_)
    refine J_g 56 [] [(1, pp 0), (21, bv (!x9))] [(0, .box (Pack.enc false a1))] (orcC 2 (x_c0 [(.tmp 23), (.const (.int .i64 1)), (.const (.int .i64 200))] [2, 2, 2] (impl_within.ok a1.Size 1 200) h10) orcN) ?_
    refine J_if2 21 (fun h11 => ?_) (fun h11 => ?_)
    · refine J_g 228 [] [(2, iv 3)] [] orcN ?_
      exact J_r1 rfl
    · refine J_join (atI c173 231) (fun v17 : Bool => St.mk' [(1, pp 0), (26, bv v17)] [(0, .box (Pack.enc false a1))]) (fun v17 => ?_) (fun jv17 => ?_)
      · refine J_if2 26 (fun h18 => ?_) (fun h18 => ?_)
        · refine J_g 924 [] [(2, iv 2)] [] orcN ?_
          exact J_r1 rfl
        · refine J_g 60 [] [(1, pp 0), (49, sl 1 eStr a1.Provides), (50, iv (a1.Provides.length : Int)), (51, iv 0)] [(0, .box (Pack.enc false a1))] orcN ?_
          refine J_lqF (K0 := (fun r : Int => some (iv r, []))) (fun _ => rfl) (impl_PackFault_l1.ok a1 q _ (fun v46 => J_j ?_) 0)
          refine J_g 124 [] [(1, pp 0), (75, sl 1 (eSl false 7 Term.enc) a1.Needs), (76, iv (a1.Needs.length : Int)), (77, iv 0)] [(0, .box (Pack.enc false a1))] orcN ?_
          refine J_lqF (K0 := (fun r : Int => some (iv r, []))) (fun _ => rfl) (impl_PackFault_l2.ok a1 q _ (fun v62 => J_j ?_) 0)
          refine J_bind (fun x63 h64 => ?_)
          refine J_g 126 [] [(2, iv x63)] [] (orcC 2 (x_c0 [(.tmp 91)] [75] (impl_termsFault.ok a1.Bars) h64) orcN) ?_
          exact J_r1 rfl
      · refine J_ite (fun h12 => ?_) (fun h12 => ?_)
        · refine J_g 230 [] [(1, pp 0), (26, bv true)] [(0, .box (Pack.enc false a1))] (orcL 4 [(30, bv (decide ((a1.Provides.length : Int) > 4)))] [] h12 orcN) ?_
          exact J_qw (J_j (jv17 true)) rfl
        · refine J_ite (fun h13 => ?_) (fun h13 => ?_)
          · refine J_g 230 [] [(1, pp 0), (26, bv true)] [(0, .box (Pack.enc false a1))] (orcL 4 [(30, bv (decide ((a1.Provides.length : Int) > 4)))] [] h12 (orcL 10 [(36, bv (decide ((a1.Needs.length : Int) > 4)))] [] h13 orcN)) ?_
            exact J_qw (J_j (jv17 true)) rfl
          · refine J_ite (fun h14 => ?_) (fun h14 => ?_)
            · refine J_g 230 [] [(1, pp 0), (26, bv true)] [(0, .box (Pack.enc false a1))] (orcL 4 [(30, bv (decide ((a1.Provides.length : Int) > 4)))] [] h12 (orcL 10 [(36, bv (decide ((a1.Needs.length : Int) > 4)))] [] h13 (orcL 16 [(42, bv (decide ((a1.Bars.length : Int) > 4)))] [] h14 orcN))) ?_
              exact J_qw (J_j (jv17 true)) rfl
            · refine J_bind (fun x15 h16 => ?_)
              refine J_g 230 [] [(1, pp 0), (26, bv x15)] [(0, .box (Pack.enc false a1))] (orcL 4 [(30, bv (decide ((a1.Provides.length : Int) > 4)))] [] h12 (orcL 10 [(36, bv (decide ((a1.Needs.length : Int) > 4)))] [] h13 (orcL 16 [(42, bv (decide ((a1.Bars.length : Int) > 4)))] [] h14 (orcH 19 16 43 false (x_c1 («as» := [sl 1 (eSl false 7 Term.enc) a1.Needs, .fn 242 []]) [(.tmp 45), (.func 242)] [100, 154] false [] [] (.cons (.same rfl) (.cons (.fn (.nil)) (.nil))) (slices_ContainsFunc_LLimplTerm_impl_PackFault_1.ok a1.Needs) h16 (.same rfl rfl)) orcN)))) ?_
              exact J_qw (J_j (jv17 x15)) rfl

noncomputable def c244 : Code := (Tryz.f244.body).getD .skip

theorem impl_find_1.ok (a1 : Pack) (a2 : ByteArray) (a3 : Version) : Ok Tryz.prog 244 [.ag (Pack.enc false a1), pp 0, pp 1] [.box [sv a2], .box (Version.enc a3)] ((impl_find_1 a1 a2 a3).map fun r => (bv r, [.box [sv a2], .box (Version.enc a3)])) := by
  refine Ok_of3 c244 Tryz.f244 2 15 (fun q => ?_)
  unfold impl_find_1
  refine J_g 2 [(0, 2)] [(1, pp 0), (2, pp 1), (3, pp 2)] [(0, .box [sv a2]), (1, .box (Version.enc a3)), (2, .box (Pack.enc false a1))] orcN ?_
  refine J_ite (fun h4 => ?_) (fun h4 => ?_)
  · refine J_g 6 [] [(4, bv (a1.Version.A == a3.A && (a1.Version.B == a3.B && (a1.Version.C == a3.C && true))))] [(0, .box [sv a2]), (1, .box (Version.enc a3))] (orcL 4 [(8, bv (seq a1.Name a2))] [] h4 (orcH 8 4 9 true (x_seq (b := .eql) (r := (a1.Version.A == a3.A && (a1.Version.B == a3.B && (a1.Version.C == a3.C && true)))) 99 99 (.tmp 11) (.tmp 12) [.int .i64 a1.Version.A, .int .i64 a1.Version.B, .int .i64 a1.Version.C] [.int .i64 a3.A, .int .i64 a3.B, .int .i64 a3.C] (.inl ⟨rfl, rfl⟩)) orcN)) ?_
    exact J_r1 rfl
  · refine J_g 6 [] [(4, bv false)] [(0, .box [sv a2]), (1, .box (Version.enc a3))] (orcL 4 [(8, bv (seq a1.Name a2))] [] h4 orcN) ?_
    exact J_r1 rfl

noncomputable def c243 : Code := (Tryz.f243.body).getD .skip

theorem slices_IndexFunc_LimplPack_impl_find_1_l1.ok (a1 : (List Pack)) (a2 : ByteArray) (a3 : Version) (q : Wd) (kn : Unit → Option (D × List Ent)) (hk : ∀ v : Unit, J (q.g Tryz.prog 243 2 19) c243 (atI c243 7) (St.mk' [] [(0, .box [sv a2]), (1, .box (Version.enc a3))]) (some v) kn) :
    ∀ s10 : Int, J (q.g Tryz.prog 243 2 19) c243 (atI c243 52) (St.mk' [(0, sl 8 (Pack.enc false) a1), (1, .fn 244 [pp 0, pp 1]), (7, iv (a1.length : Int)), (8, iv s10)] [(0, .box [sv a2]), (1, .box (Version.enc a3))]) (slices_IndexFunc_LimplPack_impl_find_1_l1 a1 a2 a3 s10) (Fl.go (fun r : Int => some (iv r, [.box [sv a2], .box (Version.enc a3)])) kn) := by
  refine J_lp (fun g ih s10 => ?_)
  unfold slices_IndexFunc_LimplPack_impl_find_1_l1b
  refine J_g 104 [] [(0, sl 8 (Pack.enc false) a1), (1, .fn 244 [pp 0, pp 1]), (7, iv (a1.length : Int)), (8, iv s10), (9, bv (decide (s10 < (a1.length : Int))))] [(0, .box [sv a2]), (1, .box (Version.enc a3))] orcN ?_
  refine J_if2 9 (fun h11 => ?_) (fun h11 => ?_)
  · refine J_g 1688 [] [(0, sl 8 (Pack.enc false) a1), (1, .fn 244 [pp 0, pp 1]), (5, iv s10), (7, iv (a1.length : Int)), (8, iv s10)] [(0, .box [sv a2]), (1, .box (Version.enc a3))] orcN ?_
    refine J_bind (fun x12 h13 => ?_)
    refine J_bind (fun x14 h15 => ?_)
    refine J_g 3378 [] [(0, sl 8 (Pack.enc false) a1), (1, .fn 244 [pp 0, pp 1]), (5, iv s10), (7, iv (a1.length : Int)), (8, iv s10), (16, bv x14)] [(0, .box [sv a2]), (1, .box (Version.enc a3))] (orcC 3 (x_ix (kk := .i64) 30 102 8 (Pack.enc false) (.tmp 12) (.tmp 13) h13) (orcC 5 (x_ro [(0, .box [sv a2]), (1, .box (Version.enc a3))] [] (x_c1v 11 [(.tmp 15)] [102] false [(0, .box [sv a2]), (1, .box (Version.enc a3))] [0, 1] [.ag (Pack.enc false x12)] [pp 0, pp 1] (.cons (.same rfl) (.cons (.pt rfl) (.cons (.pt rfl) (.nil)))) (impl_find_1.ok x12 a2 a3) h15 (.same rfl rfl))) orcN)) ?_
    refine J_if2 16 (fun h16 => ?_) (fun h16 => ?_)
    · refine J_g 13516 [] [(4, iv s10)] [(0, .box [sv a2]), (1, .box (Version.enc a3))] orcN ?_
      exact J_r1 rfl
    · refine J_g 423 [] [(0, sl 8 (Pack.enc false) a1), (1, .fn 244 [pp 0, pp 1]), (7, iv (a1.length : Int)), (8, iv (w64 (s10 + 1)))] [(0, .box [sv a2]), (1, .box (Version.enc a3))] orcN ?_
      exact J_q (J_b (ih (w64 (s10 + 1)))) rfl
  · exact J_qw (hk ()) rfl

theorem slices_IndexFunc_LimplPack_impl_find_1.ok (a1 : (List Pack)) (a2 : ByteArray) (a3 : Version) : Ok Tryz.prog 243 [sl 8 (Pack.enc false) a1, .fn 244 [pp 0, pp 1]] [.box [sv a2], .box (Version.enc a3)] ((slices_IndexFunc_LimplPack_impl_find_1 a1 a2 a3).map fun r => (iv r, [.box [sv a2], .box (Version.enc a3)])) := by
  refine Ok_of3 c243 Tryz.f243 2 19 (fun q => ?_)
  unfold slices_IndexFunc_LimplPack_impl_find_1
  refine J_g 2 [] [(0, sl 8 (Pack.enc false) a1), (1, .fn 244 [pp 0, pp 1])] [(0, .box [sv a2]), (1, .box (Version.enc a3))] orcN ?_
  refine J_g 12 [] [(0, sl 8 (Pack.enc false) a1), (1, .fn 244 [pp 0, pp 1]), (7, iv (a1.length : Int)), (8, iv 0)] [(0, .box [sv a2]), (1, .box (Version.enc a3))] orcN ?_
  refine J_lqF (K0 := (fun r : Int => some (iv r, [.box [sv a2], .box (Version.enc a3)]))) (fun _ => rfl) (slices_IndexFunc_LimplPack_impl_find_1_l1.ok a1 a2 a3 q _ (fun v17 => J_j ?_) 0)
  refine J_g 14 [] [(4, iv (-1))] [(0, .box [sv a2]), (1, .box (Version.enc a3))] orcN ?_
  exact J_r1 rfl

noncomputable def c174 : Code := (Tryz.f174.body).getD .skip

theorem impl_find.ok (a1 : (List Pack)) (a2 : ByteArray) (a3 : Version) : Ok Tryz.prog 174 [sl 8 (Pack.enc false) a1, sv a2, .ag (Version.enc a3)] [] ((impl_find a1 a2 a3).map fun r => (iv r, [])) := by
  refine Ok_of3 c174 Tryz.f174 0 10 (fun q => ?_)
  unfold impl_find
  refine J_g 2 [(0, 0), (1, 1)] [(0, sl 8 (Pack.enc false) a1), (4, pp 0), (5, pp 1)] [(0, .box [sv a2]), (1, .box (Version.enc a3))] orcN ?_
  refine J_bind (fun x4 h5 => ?_)
  refine J_g 6 [] [(6, iv x4)] [] (orcC 2 (x_ro [(0, .box [sv a2]), (1, .box (Version.enc a3))] [] (x_c1 («as» := [sl 8 (Pack.enc false) a1, .fn 244 [pp 0, pp 1]]) [(.tmp 7), (.tmp 8)] [30, 249] false [(0, .box [sv a2]), (1, .box (Version.enc a3))] [0, 1] (.cons (.same rfl) (.cons (.fn (.cons (.pt rfl) (.cons (.pt rfl) (.nil)))) (.nil))) (slices_IndexFunc_LimplPack_impl_find_1.ok a1 a2 a3) h5 (.same rfl rfl))) orcN) ?_
  exact J_r1 rfl

noncomputable def c99 : Code := (Tryz.f99.body).getD .skip

theorem impl_CatalogFault_l1.ok (a1 : (List Pack)) (q : Wd) (kn : Unit → Option (D × List Ent)) (hk : ∀ v : Unit, J (q.g Tryz.prog 99 0 31) c99 (atI c99 15) (St.mk' [] []) (some v) kn) :
    ∀ s14 : Int, J (q.g Tryz.prog 99 0 31) c99 (atI c99 116) (St.mk' [(0, sl 8 (Pack.enc false) a1), (9, sl 8 (Pack.enc false) a1), (10, iv (a1.length : Int)), (11, iv s14)] []) (impl_CatalogFault_l1 a1 s14) (Fl.go (fun r : Int => some (iv r, [])) kn) := by
  refine J_lp (fun g ih s14 => ?_)
  unfold impl_CatalogFault_l1b
  refine J_g 232 [] [(0, sl 8 (Pack.enc false) a1), (9, sl 8 (Pack.enc false) a1), (10, iv (a1.length : Int)), (11, iv s14), (12, bv (decide (s14 < (a1.length : Int))))] [] orcN ?_
  refine J_if2 12 (fun h15 => ?_) (fun h15 => ?_)
  · refine J_bind (fun x16 h17 => ?_)
    refine J_g 3736 [(3, 0)] [(0, sl 8 (Pack.enc false) a1), (3, iv s14), (4, pp 0), (9, sl 8 (Pack.enc false) a1), (10, iv (a1.length : Int)), (11, iv s14)] [(0, .box (Pack.enc false x16))] (orcC 1 (x_ix (kk := .i64) 30 102 8 (Pack.enc false) (.tmp 9) (.tmp 11) h17) orcN) ?_
    refine J_bind (fun x18 h19 => ?_)
    refine J_g 14948 [] [(0, sl 8 (Pack.enc false) a1), (3, iv s14), (4, pp 0), (5, iv x18), (9, sl 8 (Pack.enc false) a1), (10, iv (a1.length : Int)), (11, iv s14)] [(0, .box (Pack.enc false x16))] (orcC 1 (x_c0 [(.tmp 16)] [102] (impl_PackFault.ok x16) h19) orcN) ?_
    refine J_g 29898 [] [(0, sl 8 (Pack.enc false) a1), (3, iv s14), (4, pp 0), (5, iv x18), (9, sl 8 (Pack.enc false) a1), (10, iv (a1.length : Int)), (11, iv s14), (19, bv (x18 != 0))] [(0, .box (Pack.enc false x16))] orcN ?_
    refine J_if2 19 (fun h20 => ?_) (fun h20 => ?_)
    · refine J_g 119596 [] [(2, iv x18)] [] orcN ?_
      exact J_r1 rfl
    · refine J_bind (fun x21 h22 => ?_)
      refine J_bind (fun x23 h24 => ?_)
      refine J_g 14950 [] [(0, sl 8 (Pack.enc false) a1), (9, sl 8 (Pack.enc false) a1), (10, iv (a1.length : Int)), (11, iv s14), (29, bv (decide (x23 ≥ 0)))] [] (orcC 2 (x_ls 30 102 8 (Pack.enc false) (.tmp 21) none (some (.tmp 22)) h22) (orcC 7 (x_c0 [(.tmp 23), (.tmp 25), (.tmp 27)] [30, 9, 99] (impl_find.ok x21 x16.Name x16.Version) h24) orcN)) ?_
      refine J_if2 29 (fun h25 => ?_) (fun h25 => ?_)
      · refine J_g 59804 [] [(2, iv 6)] [] orcN ?_
        exact J_r1 rfl
      · refine J_g 935 [] [(0, sl 8 (Pack.enc false) a1), (9, sl 8 (Pack.enc false) a1), (10, iv (a1.length : Int)), (11, iv (w64 (s14 + 1)))] [] orcN ?_
        exact J_q (J_b (ih (w64 (s14 + 1)))) rfl
  · exact J_qw (hk ()) rfl

theorem impl_CatalogFault.ok (a1 : (List Pack)) : Ok Tryz.prog 99 [sl 8 (Pack.enc false) a1] [] ((impl_CatalogFault a1).map fun r => (iv r, [])) := by
  refine Ok_of3 c99 Tryz.f99 0 31 (fun q => ?_)
  unfold impl_CatalogFault
  refine J_g 2 [] [(0, sl 8 (Pack.enc false) a1)] [] orcN ?_
  refine J_g 12 [] [(0, sl 8 (Pack.enc false) a1), (8, bv (decide ((a1.length : Int) > 24)))] [] orcN ?_
  refine J_if2 8 (fun h2 => ?_) (fun h2 => ?_)
  · refine J_g 52 [] [(2, iv 2)] [] orcN ?_
    exact J_r1 rfl
  · refine J_g 28 [] [(0, sl 8 (Pack.enc false) a1), (9, sl 8 (Pack.enc false) a1), (10, iv (a1.length : Int)), (11, iv 0)] [] orcN ?_
    refine J_lqF (K0 := (fun r : Int => some (iv r, []))) (fun _ => rfl) (impl_CatalogFault_l1.ok a1 q _ (fun v26 => J_j ?_) 0)
    refine J_g 30 [] [(2, iv 0)] [] orcN ?_
    exact J_r1 rfl

noncomputable def c152 : Code := (Tryz.f152.body).getD .skip

theorem impl_PathFault_l1.ok (a1 : ByteArray) (q : Wd) (kn : Unit → Option (D × List Ent)) (hk : ∀ v : Unit, J (q.g Tryz.prog 152 0 37) c152 (atI c152 15) (St.mk' [] []) (some v) kn) :
    ∀ s15 : Int, J (q.g Tryz.prog 152 0 37) c152 (atI c152 116) (St.mk' [(0, sv a1), (14, iv (a1.size : Int)), (15, iv s15)] []) (impl_PathFault_l1 a1 s15) (Fl.go (fun r : Int => some (iv r, [])) kn) := by
  refine J_lp (fun g ih s15 => ?_)
  unfold impl_PathFault_l1b
  refine J_g 232 [] [(0, sv a1), (14, iv (a1.size : Int)), (15, iv s15), (16, bv (decide (s15 < (a1.size : Int))))] [] orcN ?_
  refine J_if2 16 (fun h16 => ?_) (fun h16 => ?_)
  · refine J_g 3736 [] [(0, sv a1), (3, iv s15), (14, iv (a1.size : Int)), (15, iv s15)] [] orcN ?_
    refine J_bind (fun x17 h18 => ?_)
    refine J_g 7474 [] [(0, sv a1), (4, uv x17), (14, iv (a1.size : Int)), (15, iv s15)] [] (orcC 2 (x_bi (kk := .i64) 9 (.tmp 18) (.tmp 19) h18) orcN) ?_
    refine J_bind (fun x19 h20 => ?_)
    refine J_join (atI c152 14951) (fun v24 : Bool => St.mk' [(0, sv a1), (14, iv (a1.size : Int)), (15, iv s15), (35, bv v24)] []) (fun v24 => ?_) (fun jv24 => ?_)
    · refine J_if2 35 (fun h25 => ?_) (fun h25 => ?_)
      · refine J_g 59804 [] [(2, iv 5)] [] orcN ?_
        exact J_r1 rfl
      · refine J_g 935 [] [(0, sv a1), (14, iv (a1.size : Int)), (15, iv (w64 (s15 + 1)))] [] orcN ?_
        exact J_q (J_b (ih (w64 (s15 + 1)))) rfl
    · refine J_ite (fun h21 => ?_) (fun h21 => ?_)
      · refine J_ite (fun h22 => ?_) (fun h22 => ?_)
        · refine J_ite (fun h23 => ?_) (fun h23 => ?_)
          · refine J_g 14950 [] [(0, sv a1), (14, iv (a1.size : Int)), (15, iv s15), (35, bv (x17 != 47))] [] (orcC 1 (x_c0 [(.tmp 21)] [5] (impl_isNameByte.ok x17) h20) (orcL 3 [(23, bv (!x19))] [] h21 (orcL 7 [(27, bv (x17 != 46))] [] h22 (orcL 11 [(31, bv (x17 != 45))] [] h23 orcN)))) ?_
            exact J_qw (J_j (jv24 (x17 != 47))) rfl
          · refine J_g 14950 [] [(0, sv a1), (14, iv (a1.size : Int)), (15, iv s15), (35, bv false)] [] (orcC 1 (x_c0 [(.tmp 21)] [5] (impl_isNameByte.ok x17) h20) (orcL 3 [(23, bv (!x19))] [] h21 (orcL 7 [(27, bv (x17 != 46))] [] h22 (orcL 11 [(31, bv (x17 != 45))] [] h23 orcN)))) ?_
            exact J_qw (J_j (jv24 false)) rfl
        · refine J_g 14950 [] [(0, sv a1), (14, iv (a1.size : Int)), (15, iv s15), (35, bv false)] [] (orcC 1 (x_c0 [(.tmp 21)] [5] (impl_isNameByte.ok x17) h20) (orcL 3 [(23, bv (!x19))] [] h21 (orcL 7 [(27, bv (x17 != 46))] [] h22 orcN))) ?_
          exact J_qw (J_j (jv24 false)) rfl
      · refine J_g 14950 [] [(0, sv a1), (14, iv (a1.size : Int)), (15, iv s15), (35, bv false)] [] (orcC 1 (x_c0 [(.tmp 21)] [5] (impl_isNameByte.ok x17) h20) (orcL 3 [(23, bv (!x19))] [] h21 orcN)) ?_
        exact J_qw (J_j (jv24 false)) rfl
  · exact J_qw (hk ()) rfl

theorem impl_PathFault.ok (a1 : ByteArray) : Ok Tryz.prog 152 [sv a1] [] ((impl_PathFault a1).map fun r => (iv r, [])) := by
  refine Ok_of3 c152 Tryz.f152 0 37 (fun q => ?_)
  unfold impl_PathFault
  refine J_g 2 [] [(0, sv a1)] [] orcN ?_
  refine J_join (atI c152 13) (fun v3 : Bool => St.mk' [(0, sv a1), (12, bv v3)] []) (fun v3 => ?_) (fun jv3 => ?_)
  · refine J_if2 12 (fun h4 => ?_) (fun h4 => ?_)
    · refine J_g 52 [] [(2, iv 5)] [] orcN ?_
      exact J_r1 rfl
    · refine J_g 28 [] [(0, sv a1), (14, iv (a1.size : Int)), (15, iv 0)] [] orcN ?_
      refine J_lqF (K0 := (fun r : Int => some (iv r, []))) (fun _ => rfl) (impl_PathFault_l1.ok a1 q _ (fun v26 => J_j ?_) 0)
      refine J_g 30 [] [(2, iv 0)] [] orcN ?_
      exact J_r1 rfl
  · refine J_ite (fun h2 => ?_) (fun h2 => ?_)
    · refine J_g 12 [] [(0, sv a1), (12, bv true)] [] (orcL 3 [(7, bv (decide ((a1.size : Int) < 1)))] [] h2 orcN) ?_
      exact J_qw (J_j (jv3 true)) rfl
    · refine J_g 12 [] [(0, sv a1), (12, bv (decide ((a1.size : Int) > 40)))] [] (orcL 3 [(7, bv (decide ((a1.size : Int) < 1)))] [] h2 orcN) ?_
      exact J_qw (J_j (jv3 (decide ((a1.size : Int) > 40)))) rfl

noncomputable def c153 : Code := (Tryz.f153.body).getD .skip

theorem impl_Disk_total_l1.ok (a1 : Disk) (q : Wd) (kn : Int → Option (D × List Ent)) (hk : ∀ v : Int, J (q.g Tryz.prog 153 0 20) c153 (atI c153 15) (St.mk' [(3, iv v)] []) (some v) kn) :
    ∀ s5 : (Int × Int), J (q.g Tryz.prog 153 0 20) c153 (atI c153 116) (St.mk' [(3, iv s5.1), (7, sl 2 (File.enc false) a1.Files), (8, iv (a1.Files.length : Int)), (9, iv s5.2)] []) (impl_Disk_total_l1 a1 s5) kn := by
  refine J_lp (fun g ih s5 => ?_)
  unfold impl_Disk_total_l1b
  refine J_g 232 [] [(3, iv s5.1), (7, sl 2 (File.enc false) a1.Files), (8, iv (a1.Files.length : Int)), (9, iv s5.2), (10, bv (decide (s5.2 < (a1.Files.length : Int))))] [] orcN ?_
  refine J_if2 10 (fun h6 => ?_) (fun h6 => ?_)
  · refine J_bind (fun x7 h8 => ?_)
    refine J_g 3736 [(2, 0)] [(3, iv s5.1), (5, pp 0), (7, sl 2 (File.enc false) a1.Files), (8, iv (a1.Files.length : Int)), (9, iv s5.2)] [(0, .box (File.enc false x7))] (orcC 0 (x_ix (kk := .i64) 31 138 2 (File.enc false) (.tmp 7) (.tmp 9) h8) orcN) ?_
    refine J_g 3737 [] [(3, iv (w64 (s5.1 + (x7.Data.length : Int)))), (7, sl 2 (File.enc false) a1.Files), (8, iv (a1.Files.length : Int)), (9, iv s5.2)] [] orcN ?_
    refine J_g 935 [] [(3, iv (w64 (s5.1 + (x7.Data.length : Int)))), (7, sl 2 (File.enc false) a1.Files), (8, iv (a1.Files.length : Int)), (9, iv (w64 (s5.2 + 1)))] [] orcN ?_
    exact J_q (J_b (ih (w64 (s5.1 + (x7.Data.length : Int)), w64 (s5.2 + 1)))) rfl
  · exact J_qw (hk s5.1) rfl

theorem impl_Disk_total.ok (a1 : Disk) : Ok Tryz.prog 153 [.ag (Disk.enc false a1)] [] ((impl_Disk_total a1).map fun r => (iv r, [])) := by
  refine Ok_of3 c153 Tryz.f153 0 20 (fun q => ?_)
  unfold impl_Disk_total
  refine J_g 2 [(0, 0)] [(1, pp 0)] [(0, .box (Disk.enc false a1))] orcN ?_
  refine J_g 6 [] [(1, pp 0), (3, iv 0)] [(0, .box (Disk.enc false a1))] orcN ?_
  refine J_g 28 [] [(3, iv 0), (7, sl 2 (File.enc false) a1.Files), (8, iv (a1.Files.length : Int)), (9, iv 0)] [] orcN ?_
  refine J_lq (impl_Disk_total_l1.ok a1 q _ (fun v9 => J_j ?_) (0, 0))
  refine J_g 30 [] [(2, iv v9)] [] orcN ?_
  exact J_r1 rfl

noncomputable def c100 : Code := (Tryz.f100.body).getD .skip

theorem impl_DiskFault_l1.ok (a1 : Disk) (q : Wd) (kn : Unit → Option (D × List Ent)) (hk : ∀ v : Unit, J (q.g Tryz.prog 100 0 68) c100 (atI c100 15) (St.mk' [(1, pp 0)] [(0, .box (Disk.enc false a1))]) (some v) kn) :
    ∀ s25 : Int, J (q.g Tryz.prog 100 0 68) c100 (atI c100 116) (St.mk' [(1, pp 0), (29, sl 2 (File.enc false) a1.Files), (30, iv (a1.Files.length : Int)), (31, iv s25)] [(0, .box (Disk.enc false a1))]) (impl_DiskFault_l1 a1 s25) (Fl.go (fun r : Int => some (iv r, [])) kn) := by
  refine J_lp (fun g ih s25 => ?_)
  unfold impl_DiskFault_l1b
  refine J_g 232 [] [(1, pp 0), (29, sl 2 (File.enc false) a1.Files), (30, iv (a1.Files.length : Int)), (31, iv s25), (32, bv (decide (s25 < (a1.Files.length : Int))))] [(0, .box (Disk.enc false a1))] orcN ?_
  refine J_if2 32 (fun h26 => ?_) (fun h26 => ?_)
  · refine J_bind (fun x27 h28 => ?_)
    refine J_g 3736 [(3, 1)] [(1, pp 0), (3, iv s25), (4, pp 1), (29, sl 2 (File.enc false) a1.Files), (30, iv (a1.Files.length : Int)), (31, iv s25)] [(0, .box (Disk.enc false a1)), (1, .box (File.enc false x27))] (orcC 1 (x_ix (kk := .i64) 31 138 2 (File.enc false) (.tmp 29) (.tmp 31) h28) orcN) ?_
    refine J_bind (fun x29 h30 => ?_)
    refine J_g 14948 [] [(1, pp 0), (3, iv s25), (4, pp 1), (5, iv x29), (29, sl 2 (File.enc false) a1.Files), (30, iv (a1.Files.length : Int)), (31, iv s25)] [(0, .box (Disk.enc false a1)), (1, .box (File.enc false x27))] (orcC 2 (x_c0 [(.tmp 37)] [9] (impl_PathFault.ok x27.Path) h30) orcN) ?_
    refine J_g 29898 [] [(1, pp 0), (3, iv s25), (4, pp 1), (5, iv x29), (29, sl 2 (File.enc false) a1.Files), (30, iv (a1.Files.length : Int)), (31, iv s25), (40, bv (x29 != 0))] [(0, .box (Disk.enc false a1)), (1, .box (File.enc false x27))] orcN ?_
    refine J_if2 40 (fun h31 => ?_) (fun h31 => ?_)
    · refine J_g 119596 [] [(2, iv x29)] [] orcN ?_
      exact J_r1 rfl
    · refine J_join (atI c100 29901) (fun v35 : Bool => St.mk' [(1, pp 0), (4, pp 1), (29, sl 2 (File.enc false) a1.Files), (30, iv (a1.Files.length : Int)), (31, iv s25), (42, bv v35)] [(0, .box (Disk.enc false a1)), (1, .box (File.enc false x27))]) (fun v35 => ?_) (fun jv35 => ?_)
      · refine J_if2 42 (fun h36 => ?_) (fun h36 => ?_)
        · refine J_g 119604 [] [(2, iv 1)] [] orcN ?_
          exact J_r1 rfl
        · refine J_g 119606 [] [(1, pp 0), (29, sl 2 (File.enc false) a1.Files), (30, iv (a1.Files.length : Int)), (31, iv s25), (57, bv (decide ((x27.Data.length : Int) > 4000)))] [(0, .box (Disk.enc false a1))] orcN ?_
          refine J_if2 57 (fun h37 => ?_) (fun h37 => ?_)
          · refine J_g 478428 [] [(2, iv 2)] [] orcN ?_
            exact J_r1 rfl
          · refine J_g 935 [] [(1, pp 0), (29, sl 2 (File.enc false) a1.Files), (30, iv (a1.Files.length : Int)), (31, iv (w64 (s25 + 1)))] [(0, .box (Disk.enc false a1))] orcN ?_
            exact J_q (J_b (ih (w64 (s25 + 1)))) rfl
      · refine J_ite (fun h32 => ?_) (fun h32 => ?_)
        · refine J_bind (fun x33 h34 => ?_)
          refine J_g 29900 [] [(1, pp 0), (4, pp 1), (29, sl 2 (File.enc false) a1.Files), (30, iv (a1.Files.length : Int)), (31, iv s25), (42, bv (slt x27.Path x33.Path || seq x27.Path x33.Path))] [(0, .box (Disk.enc false a1)), (1, .box (File.enc false x27))] (orcL 2 [(44, bv (decide (s25 > 0)))] [] h32 (orcH 9 2 45 true (x_ix (kk := .i64) 31 138 2 (File.enc false) (.tmp 49) (.tmp 51) h34) orcN)) ?_
          exact J_qw (J_j (jv35 (slt x27.Path x33.Path || seq x27.Path x33.Path))) rfl
        · refine J_g 29900 [] [(1, pp 0), (4, pp 1), (29, sl 2 (File.enc false) a1.Files), (30, iv (a1.Files.length : Int)), (31, iv s25), (42, bv false)] [(0, .box (Disk.enc false a1)), (1, .box (File.enc false x27))] (orcL 2 [(44, bv (decide (s25 > 0)))] [] h32 orcN) ?_
          exact J_qw (J_j (jv35 false)) rfl
  · exact J_qw (hk ()) rfl

theorem impl_DiskFault.ok (a1 : Disk) : Ok Tryz.prog 100 [.ag (Disk.enc false a1)] [] ((impl_DiskFault a1).map fun r => (iv r, [])) := by
  refine Ok_of3 c100 Tryz.f100 0 68 (fun q => ?_)
  unfold impl_DiskFault
  refine J_g 2 [(0, 0)] [(1, pp 0)] [(0, .box (Disk.enc false a1))] orcN ?_
  refine J_bind (fun x2 h3 => ?_)
  refine J_join (atI c100 25) (fun v10 : Bool => St.mk' [(1, pp 0), (6, bv v10)] [(0, .box (Disk.enc false a1))]) (fun v10 => ?_) (fun jv10 => ?_)
  · refine J_if2 6 (fun h11 => ?_) (fun h11 => ?_)
    · refine J_g 100 [] [(2, iv 3)] [] orcN ?_
      exact J_r1 rfl
    · refine J_g 102 [] [(1, pp 0), (23, bv (decide ((a1.Files.length : Int) > 120)))] [(0, .box (Disk.enc false a1))] orcN ?_
      refine J_if2 23 (fun h12 => ?_) (fun h12 => ?_)
      · refine J_g 412 [] [(2, iv 2)] [] orcN ?_
        exact J_r1 rfl
      · refine J_g 28 [] [(1, pp 0), (29, sl 2 (File.enc false) a1.Files), (30, iv (a1.Files.length : Int)), (31, iv 0)] [(0, .box (Disk.enc false a1))] orcN ?_
        refine J_lqF (K0 := (fun r : Int => some (iv r, []))) (fun _ => rfl) (impl_DiskFault_l1.ok a1 q _ (fun v38 => J_j ?_) 0)
        refine J_bind (fun x39 h40 => ?_)
        refine J_g 60 [] [(67, bv (decide (x39 > a1.Budget)))] [] (orcC 1 (x_c0 [(.tmp 63)] [33] (impl_Disk_total.ok a1) h40) orcN) ?_
        refine J_if2 67 (fun h41 => ?_) (fun h41 => ?_)
        · refine J_g 244 [] [(2, iv 8)] [] orcN ?_
          exact J_r1 rfl
        · refine J_g 62 [] [(2, iv 0)] [] orcN ?_
          exact J_r1 rfl
  · refine J_ite (fun h4 => ?_) (fun h4 => ?_)
    · refine J_g 24 [] [(1, pp 0), (6, bv true)] [(0, .box (Disk.enc false a1))] (orcC 2 (x_c0 [(.tmp 8), (.const (.int .i64 0)), (.const (.int .i64 20000))] [2, 2, 2] (impl_within.ok a1.Budget 0 20000) h3) (orcL 4 [(10, bv (!x2))] [] h4 orcN)) ?_
      exact J_qw (J_j (jv10 true)) rfl
    · refine J_bind (fun x5 h6 => ?_)
      refine J_ite (fun h7 => ?_) (fun h7 => ?_)
      · refine J_g 24 [] [(1, pp 0), (6, bv true)] [(0, .box (Disk.enc false a1))] (orcC 2 (x_c0 [(.tmp 8), (.const (.int .i64 0)), (.const (.int .i64 20000))] [2, 2, 2] (impl_within.ok a1.Budget 0 20000) h3) (orcL 4 [(10, bv (!x2))] [] h4 (orcH 7 4 11 false (x_c0 [(.tmp 13), (.const (.int .i64 0)), (.const (.int .i64 1000000000))] [2, 2, 2] (impl_within.ok a1.Writes 0 1000000000) h6) (orcL 10 [(16, bv (!x5))] [] h7 orcN)))) ?_
        exact J_qw (J_j (jv10 true)) rfl
      · refine J_bind (fun x8 h9 => ?_)
        refine J_g 24 [] [(1, pp 0), (6, bv (!x8))] [(0, .box (Disk.enc false a1))] (orcC 2 (x_c0 [(.tmp 8), (.const (.int .i64 0)), (.const (.int .i64 20000))] [2, 2, 2] (impl_within.ok a1.Budget 0 20000) h3) (orcL 4 [(10, bv (!x2))] [] h4 (orcH 7 4 11 false (x_c0 [(.tmp 13), (.const (.int .i64 0)), (.const (.int .i64 1000000000))] [2, 2, 2] (impl_within.ok a1.Writes 0 1000000000) h6) (orcL 10 [(16, bv (!x5))] [] h7 (orcH 13 10 17 false (x_c0 [(.tmp 19), (.const (.int .i64 (-1))), (.const (.int .i64 1000000000))] [2, 2, 2] (impl_within.ok a1.Stop (-1) 1000000000) h9) orcN))))) ?_
        exact J_qw (J_j (jv10 (!x8))) rfl

noncomputable def c47 : Code := (Tryz.f47.body).getD .skip

theorem impl_bothCode.ok (a1 : (List Pack)) (a2 : Disk) : Ok Tryz.prog 47 [sl 8 (Pack.enc false) a1, .ag (Disk.enc false a2)] [] ((impl_bothCode a1 a2).map fun r => (iv r, [])) := by
  refine Ok_of3 c47 Tryz.f47 0 11 (fun q => ?_)
  unfold impl_bothCode
  refine J_g 2 [(0, 0)] [(0, sl 8 (Pack.enc false) a1), (3, pp 0)] [(0, .box (Disk.enc false a2))] orcN ?_
  refine J_bind (fun x3 h4 => ?_)
  refine J_bind (fun x5 h6 => ?_)
  refine J_bind (fun x7 h8 => ?_)
  refine J_g 6 [] [(4, iv x7)] [] (orcC 1 (x_c0 [(.tmp 5)] [30] (impl_CatalogFault.ok a1) h4) (orcC 3 (x_c0 [(.tmp 7)] [33] (impl_DiskFault.ok a2) h6) (orcC 4 (x_bp 39 2 1 1 eI64 [x3, x5] [0, 1] [(.tmp 6), (.tmp 8)] [iv x3, iv x5]) (orcC 5 (x_c1 («as» := [rr 1 [x3, x5]]) [(.tmp 9)] [39] true [(1, rE 1 eI64 [x3, x5])] [] (.cons (am_b (.head _) (fun _ => rfl) rfl) (.nil)) (impl_firstCode.ok [x3, x5]) h8 (.same rfl rfl) (hbor := fun _ => ⟨rfl, flat_sc⟩)) orcN)))) ?_
  exact J_r1 rfl

theorem bytealg_CompareString.ok (a1 a2 : ByteArray) : Ok Tryz.prog 278 [sv a1, sv a2] [] ((bytealg_CompareString a1 a2).map fun r => (iv r, [])) :=
  Ok_sc (vs := [.string a1, .string a2]) (fun w => Tryz.bytealg_CompareString a1 a2 w)

noncomputable def c212 : Code := (Tryz.f212.body).getD .skip

theorem strings_Compare.ok (a1 : ByteArray) (a2 : ByteArray) : Ok Tryz.prog 212 [sv a1, sv a2] [] ((strings_Compare a1 a2).map fun r => (iv r, [])) := by
  refine Ok_of3 c212 Tryz.f212 0 8 (fun q => ?_)
  unfold strings_Compare
  refine J_g 2 [] [(0, sv a1), (1, sv a2)] [] orcN ?_
  refine J_bind (fun x3 h4 => ?_)
  refine J_g 6 [] [(4, iv x3)] [] (orcC 2 (x_c0 [(.tmp 5), (.tmp 6)] [9, 9] (bytealg_CompareString.ok a1 a2) h4) orcN) ?_
  exact J_r1 rfl

noncomputable def c211 : Code := (Tryz.f211.body).getD .skip

theorem impl_Disk_place_1.ok (a1 : File) (a2 : ByteArray) : Ok Tryz.prog 211 [.ag (File.enc false a1), sv a2] [] ((impl_Disk_place_1 a1 a2).map fun r => (iv r, [])) := by
  refine Ok_of3 c211 Tryz.f211 0 9 (fun q => ?_)
  unfold impl_Disk_place_1
  refine J_g 2 [(0, 0)] [(1, sv a2), (2, pp 0)] [(0, .box (File.enc false a1))] orcN ?_
  refine J_bind (fun x3 h4 => ?_)
  refine J_g 6 [] [(4, iv x3)] [] (orcC 3 (x_c0 [(.tmp 6), (.tmp 7)] [9, 9] (strings_Compare.ok a1.Path a2) h4) orcN) ?_
  exact J_r1 rfl

noncomputable def c210 : Code := (Tryz.f210.body).getD .skip

theorem slices_BinarySearchFunc_LimplFile_impl_Disk_place_1_l1.ok (a1 : (List File)) (a2 : ByteArray) (q : Wd) (kn : Int → Option (D × List Ent)) (hk : ∀ v : Int, J (q.g Tryz.prog 210 0 49) c210 (atI c210 31) (St.mk' [(0, sl 2 (File.enc false) a1), (1, sv a2), (2, .fn 211 []), (8, iv (a1.length : Int)), (9, iv v)] []) (some v) kn) :
    ∀ s9 : (Int × Int), J (q.g Tryz.prog 210 0 49) c210 (atI c210 120) (St.mk' [(0, sl 2 (File.enc false) a1), (1, sv a2), (2, .fn 211 []), (8, iv (a1.length : Int)), (9, iv s9.1), (10, iv s9.2)] []) (slices_BinarySearchFunc_LimplFile_impl_Disk_place_1_l1 a1 a2 s9) kn := by
  refine J_lp (fun g ih s9 => ?_)
  unfold slices_BinarySearchFunc_LimplFile_impl_Disk_place_1_l1b
  refine J_g 480 [] [(0, sl 2 (File.enc false) a1), (1, sv a2), (2, .fn 211 []), (8, iv (a1.length : Int)), (9, iv s9.1), (10, iv s9.2), (17, bv (decide (s9.1 < s9.2)))] [] orcN ?_
  refine J_if2 17 (fun h10 => ?_) (fun h10 => ?_)
  · refine J_g 964 [] [(0, sl 2 (File.enc false) a1), (1, sv a2), (2, .fn 211 []), (8, iv (a1.length : Int)), (9, iv s9.1), (10, iv s9.2), (11, iv (w64 ((IntKind.u64.wrap (w64 (s9.1 + s9.2))).fdiv (2 ^ (min (1 : Int).toNat 64)))))] [] orcN ?_
    refine J_bind (fun x11 h12 => ?_)
    refine J_bind (fun x13 h14 => ?_)
    refine J_g 1930 [] [(0, sl 2 (File.enc false) a1), (1, sv a2), (2, .fn 211 []), (8, iv (a1.length : Int)), (9, iv s9.1), (10, iv s9.2), (11, iv (w64 ((IntKind.u64.wrap (w64 (s9.1 + s9.2))).fdiv (2 ^ (min (1 : Int).toNat 64))))), (31, bv (decide (x13 < 0)))] [] (orcC 3 (x_ix (kk := .i64) 31 138 2 (File.enc false) (.tmp 25) (.tmp 26) h12) (orcC 6 (x_c0v («as» := [.ag (File.enc false x11), sv a2]) (caps := []) 24 [(.tmp 28), (.tmp 29)] [138, 9] (impl_Disk_place_1.ok x11 a2) h14) orcN)) ?_
    refine J_if2 31 (fun h15 => ?_) (fun h15 => ?_)
    · refine J_g 3862 [] [(0, sl 2 (File.enc false) a1), (1, sv a2), (2, .fn 211 []), (8, iv (a1.length : Int)), (9, iv (w64 ((w64 ((IntKind.u64.wrap (w64 (s9.1 + s9.2))).fdiv (2 ^ (min (1 : Int).toNat 64)))) + 1))), (10, iv s9.2)] [] orcN ?_
      exact J_q (J_b (ih (w64 ((w64 ((IntKind.u64.wrap (w64 (s9.1 + s9.2))).fdiv (2 ^ (min (1 : Int).toNat 64)))) + 1), s9.2))) rfl
    · refine J_g 3863 [] [(0, sl 2 (File.enc false) a1), (1, sv a2), (2, .fn 211 []), (8, iv (a1.length : Int)), (9, iv s9.1), (10, iv (w64 ((IntKind.u64.wrap (w64 (s9.1 + s9.2))).fdiv (2 ^ (min (1 : Int).toNat 64)))))] [] orcN ?_
      exact J_q (J_b (ih (s9.1, w64 ((IntKind.u64.wrap (w64 (s9.1 + s9.2))).fdiv (2 ^ (min (1 : Int).toNat 64)))))) rfl
  · exact J_qw (hk s9.1) rfl

theorem slices_BinarySearchFunc_LimplFile_impl_Disk_place_1.ok (a1 : (List File)) (a2 : ByteArray) : Ok Tryz.prog 210 [sl 2 (File.enc false) a1, sv a2, .fn 211 []] [] ((slices_BinarySearchFunc_LimplFile_impl_Disk_place_1 a1 a2).map fun r => (.tu [iv r.1, bv r.2], [])) := by
  refine Ok_of3 c210 Tryz.f210 0 49 (fun q => ?_)
  unfold slices_BinarySearchFunc_LimplFile_impl_Disk_place_1
  refine J_g 2 [] [(0, sl 2 (File.enc false) a1), (1, sv a2), (2, .fn 211 [])] [] orcN ?_
  refine J_g 6 [] [(0, sl 2 (File.enc false) a1), (1, sv a2), (2, .fn 211 []), (8, iv (a1.length : Int))] [] orcN ?_
  refine J_g 14 [] [(0, sl 2 (File.enc false) a1), (1, sv a2), (2, .fn 211 []), (8, iv (a1.length : Int)), (9, iv 0), (10, iv (a1.length : Int))] [] orcN ?_
  refine J_lq (slices_BinarySearchFunc_LimplFile_impl_Disk_place_1_l1.ok a1 a2 q _ (fun v16 => J_j ?_) (0, (a1.length : Int)))
  refine J_ite (fun h17 => ?_) (fun h17 => ?_)
  · refine J_bind (fun x18 h19 => ?_)
    refine J_bind (fun x20 h21 => ?_)
    refine J_g 62 [] [(6, iv v16), (7, bv (x20 == 0))] [] (orcL 4 [(38, bv (decide (v16 < (a1.length : Int))))] [] h17 (orcH 8 4 39 true (x_ix (kk := .i64) 31 138 2 (File.enc false) (.tmp 41) (.tmp 42) h19) (orcH 11 4 39 true (x_c0v («as» := [.ag (File.enc false x18), sv a2]) (caps := []) 40 [(.tmp 44), (.tmp 45)] [138, 9] (impl_Disk_place_1.ok x18 a2) h21) orcN))) ?_
    exact J_rT rfl
  · refine J_g 62 [] [(6, iv v16), (7, bv false)] [] (orcL 4 [(38, bv (decide (v16 < (a1.length : Int))))] [] h17 orcN) ?_
    exact J_rT rfl

noncomputable def c138 : Code := (Tryz.f138.body).getD .skip

theorem impl_Disk_place.ok (a1 : Disk) (a2 : ByteArray) : Ok Tryz.prog 138 [.ag (Disk.enc false a1), sv a2] [] ((impl_Disk_place a1 a2).map fun r => (.tu [iv r.1, bv r.2], [])) := by
  refine Ok_of3 c138 Tryz.f138 0 12 (fun q => ?_)
  unfold impl_Disk_place
  refine J_g 2 [(0, 0)] [(1, sv a2), (2, pp 0)] [(0, .box (Disk.enc false a1))] orcN ?_
  refine J_bind (fun x3 h4 => ?_)
  refine J_g 6 [] [(4, iv x3.1), (5, bv x3.2)] [] (orcC 3 (x_c1 («as» := [sl 2 (File.enc false) a1.Files, sv a2, .fn 211 []]) [(.tmp 7), (.tmp 8), (.func 211)] [31, 9, 238] false [] [] (.cons (.same rfl) (.cons (.same rfl) (.cons (.fn (.nil)) (.nil)))) (slices_BinarySearchFunc_LimplFile_impl_Disk_place_1.ok a1.Files a2) h4 (.tu (.cons (.same rfl rfl) (.cons (.same rfl rfl) (.nil))))) orcN) ?_
  exact J_rT rfl

noncomputable def c104 : Code := (Tryz.f104.body).getD .skip

theorem impl_Disk_data.ok (a1 : Disk) (a2 : ByteArray) : Ok Tryz.prog 104 [.ag (Disk.enc false a1), sv a2] [] ((impl_Disk_data a1 a2).map fun r => (.tu [sl 1 eU8 r.1, bv r.2], [])) := by
  refine Ok_of3 c104 Tryz.f104 0 22 (fun q => ?_)
  unfold impl_Disk_data
  refine J_g 2 [(0, 0)] [(1, sv a2), (2, pp 0)] [(0, .box (Disk.enc false a1))] orcN ?_
  refine J_bind (fun x3 h4 => ?_)
  refine J_g 6 [] [(2, pp 0), (6, iv x3.1), (7, bv x3.2)] [(0, .box (Disk.enc false a1))] (orcC 2 (x_c0 [(.tmp 9), (.tmp 10)] [33, 9] (impl_Disk_place.ok a1 a2) h4) orcN) ?_
  refine J_g 28 [] [(2, pp 0), (6, iv x3.1), (15, bv (!x3.2))] [(0, .box (Disk.enc false a1))] orcN ?_
  refine J_if2 15 (fun h5 => ?_) (fun h5 => ?_)
  · refine J_g 116 [] [(4, nv), (5, bv false)] [] orcN ?_
    exact J_rm (ds := [nv, bv false]) (ds' := [sl 1 eU8 ([] : List Int), bv false]) (.cons (.cell (.nilsl false 1 (.nil))) (.cons (.cell (.keep rfl (.nil))) (.nil) (by decide)) (by decide)) rfl
  · refine J_bind (fun x6 h7 => ?_)
    refine J_g 30 [] [(4, sl 1 eU8 x6.Data), (5, bv true)] [] (orcC 3 (x_ix (kk := .i64) 31 138 2 (File.enc false) (.tmp 17) (.tmp 18) h7) orcN) ?_
    exact J_rT rfl

noncomputable def c176 : Code := (Tryz.f176.body).getD .skip

theorem impl_number_l1.ok (a1 : ByteArray) (q : Wd) (kn : Int → Option (D × List Ent)) (hk : ∀ v : Int, J (q.g Tryz.prog 176 0 40) c176 (atI c176 31) (St.mk' [(5, iv v)] []) (some v) kn) :
    ∀ s16 : (Int × Int), J (q.g Tryz.prog 176 0 40) c176 (atI c176 244) (St.mk' [(0, sv a1), (5, iv s16.1), (16, iv (a1.size : Int)), (17, iv s16.2)] []) (impl_number_l1 a1 s16) (Fl.go (fun r : Int => some (iv r, [])) kn) := by
  refine J_lp (fun g ih s16 => ?_)
  unfold impl_number_l1b
  refine J_g 488 [] [(0, sv a1), (5, iv s16.1), (16, iv (a1.size : Int)), (17, iv s16.2), (18, bv (decide (s16.2 < (a1.size : Int))))] [] orcN ?_
  refine J_if2 18 (fun h17 => ?_) (fun h17 => ?_)
  · refine J_g 7832 [] [(0, sv a1), (5, iv s16.1), (6, iv s16.2), (16, iv (a1.size : Int)), (17, iv s16.2)] [] orcN ?_
    refine J_bind (fun x18 h19 => ?_)
    refine J_join (atI c176 31333) (fun v23 : Bool => St.mk' [(0, sv a1), (5, iv s16.1), (6, iv s16.2), (16, iv (a1.size : Int)), (17, iv s16.2), (29, bv v23)] []) (fun v23 => ?_) (fun jv23 => ?_)
    · refine J_if2 29 (fun h24 => ?_) (fun h24 => ?_)
      · refine J_g 125332 [] [(4, iv (-1))] [] orcN ?_
        exact J_r1 rfl
      · refine J_bind (fun x25 h26 => ?_)
        refine J_g 15667 [] [(0, sv a1), (5, iv (w64 ((w64 (10 * s16.1)) + (w64 (IntKind.u8.wrap (x25 - 48)))))), (16, iv (a1.size : Int)), (17, iv s16.2)] [] (orcC 4 (x_bi (kk := .i64) 9 (.tmp 32) (.tmp 33) h26) orcN) ?_
        refine J_g 1959 [] [(0, sv a1), (5, iv (w64 ((w64 (10 * s16.1)) + (w64 (IntKind.u8.wrap (x25 - 48)))))), (16, iv (a1.size : Int)), (17, iv (w64 (s16.2 + 1)))] [] orcN ?_
        exact J_q (J_b (ih (w64 ((w64 (10 * s16.1)) + (w64 (IntKind.u8.wrap (x25 - 48)))), w64 (s16.2 + 1)))) rfl
    · refine J_ite (fun h20 => ?_) (fun h20 => ?_)
      · refine J_g 31332 [] [(0, sv a1), (5, iv s16.1), (6, iv s16.2), (16, iv (a1.size : Int)), (17, iv s16.2), (29, bv true)] [] (orcC 2 (x_bi (kk := .i64) 9 (.tmp 20) (.tmp 21) h19) (orcL 4 [(23, bv (decide (x18 < 48)))] [] h20 orcN)) ?_
        exact J_qw (J_j (jv23 true)) rfl
      · refine J_bind (fun x21 h22 => ?_)
        refine J_g 31332 [] [(0, sv a1), (5, iv s16.1), (6, iv s16.2), (16, iv (a1.size : Int)), (17, iv s16.2), (29, bv (decide (x21 > 57)))] [] (orcC 2 (x_bi (kk := .i64) 9 (.tmp 20) (.tmp 21) h19) (orcL 4 [(23, bv (decide (x18 < 48)))] [] h20 (orcH 7 4 24 false (x_bi (kk := .i64) 9 (.tmp 25) (.tmp 26) h22) orcN))) ?_
        exact J_qw (J_j (jv23 (decide (x21 > 57)))) rfl
  · exact J_qw (hk s16.1) rfl

theorem impl_number.ok (a1 : ByteArray) (a2 : Int) : Ok Tryz.prog 176 [sv a1, iv a2] [] ((impl_number a1 a2).map fun r => (iv r, [])) := by
  refine Ok_of3 c176 Tryz.f176 0 40 (fun q => ?_)
  unfold impl_number
  refine J_g 2 [] [(0, sv a1), (1, iv a2)] [] orcN ?_
  refine J_join (atI c176 13) (fun v4 : Bool => St.mk' [(0, sv a1), (14, bv v4)] []) (fun v4 => ?_) (fun jv4 => ?_)
  · refine J_if2 14 (fun h5 => ?_) (fun h5 => ?_)
    · refine J_g 52 [] [(4, iv (-1))] [] orcN ?_
      exact J_r1 rfl
    · refine J_g 14 [] [(0, sv a1), (5, iv 0)] [] orcN ?_
      refine J_g 60 [] [(0, sv a1), (5, iv 0), (16, iv (a1.size : Int)), (17, iv 0)] [] orcN ?_
      refine J_lqF (K0 := (fun r : Int => some (iv r, []))) (fun _ => rfl) (impl_number_l1.ok a1 q _ (fun v27 => J_j ?_) (0, 0))
      refine J_g 62 [] [(4, iv v27)] [] orcN ?_
      exact J_r1 rfl
  · refine J_ite (fun h3 => ?_) (fun h3 => ?_)
    · refine J_g 12 [] [(0, sv a1), (14, bv true)] [] (orcL 2 [(8, bv (seq a1 (bs [])))] [] h3 orcN) ?_
      exact J_qw (J_j (jv4 true)) rfl
    · refine J_g 12 [] [(0, sv a1), (14, bv (decide ((a1.size : Int) > a2)))] [] (orcL 2 [(8, bv (seq a1 (bs [])))] [] h3 orcN) ?_
      exact J_qw (J_j (jv4 (decide ((a1.size : Int) > a2)))) rfl

noncomputable def c277 : Code := (Tryz.f277.body).getD .skip

theorem internal_stringslite_HasPrefix.ok (a1 : ByteArray) (a2 : ByteArray) : Ok Tryz.prog 277 [sv a1, sv a2] [] ((internal_stringslite_HasPrefix a1 a2).map fun r => (bv r, [])) := by
  refine Ok_of3 c277 Tryz.f277 0 18 (fun q => ?_)
  unfold internal_stringslite_HasPrefix
  refine J_g 2 [] [(0, sv a1), (1, sv a2)] [] orcN ?_
  refine J_ite (fun h3 => ?_) (fun h3 => ?_)
  · refine J_bind (fun x4 h5 => ?_)
    refine J_g 6 [] [(4, bv (seq x4 a2))] [] (orcL 5 [(9, bv (decide ((a1.size : Int) ≥ (a2.size : Int))))] [] h3 (orcH 9 5 10 true (x_ss 9 (.tmp 11) none (some (.tmp 13)) h5) orcN)) ?_
    exact J_r1 rfl
  · refine J_g 6 [] [(4, bv false)] [] (orcL 5 [(9, bv (decide ((a1.size : Int) ≥ (a2.size : Int))))] [] h3 orcN) ?_
    exact J_r1 rfl

noncomputable def c208 : Code := (Tryz.f208.body).getD .skip

theorem strings_HasPrefix.ok (a1 : ByteArray) (a2 : ByteArray) : Ok Tryz.prog 208 [sv a1, sv a2] [] ((strings_HasPrefix a1 a2).map fun r => (bv r, [])) := by
  refine Ok_of3 c208 Tryz.f208 0 8 (fun q => ?_)
  unfold strings_HasPrefix
  refine J_g 2 [] [(0, sv a1), (1, sv a2)] [] orcN ?_
  refine J_bind (fun x3 h4 => ?_)
  refine J_g 6 [] [(4, bv x3)] [] (orcC 2 (x_c0 [(.tmp 5), (.tmp 6)] [9, 9] (internal_stringslite_HasPrefix.ok a1 a2) h4) orcN) ?_
  exact J_r1 rfl

noncomputable def c136 : Code := (Tryz.f136.body).getD .skip

theorem impl_Disk_paths_l1.ok (a1 : Disk) (a2 : ByteArray) (q : Wd) (kn : (List ByteArray) → Option (D × List Ent)) (hk : ∀ v : (List ByteArray), J (q.g Tryz.prog 136 0 27) c136 (atI c136 15) (St.mk' [(5, rr 1 v)] [(1, rE 1 eStr v)]) (some v) kn) :
    ∀ s12 : ((List ByteArray) × Int), J (q.g Tryz.prog 136 0 27) c136 (atI c136 116) (St.mk' [(1, sv a2), (5, rr 1 s12.1), (10, sl 2 (File.enc false) a1.Files), (11, iv (a1.Files.length : Int)), (12, iv s12.2)] [(1, rE 1 eStr s12.1)]) (impl_Disk_paths_l1 a1 a2 s12) kn := by
  refine J_lp (fun g ih s12 => ?_)
  unfold impl_Disk_paths_l1b
  refine J_g 232 [] [(1, sv a2), (5, rr 1 s12.1), (10, sl 2 (File.enc false) a1.Files), (11, iv (a1.Files.length : Int)), (12, iv s12.2), (13, bv (decide (s12.2 < (a1.Files.length : Int))))] [(1, rE 1 eStr s12.1)] orcN ?_
  refine J_if2 13 (fun h13 => ?_) (fun h13 => ?_)
  · refine J_bind (fun x14 h15 => ?_)
    refine J_g 3736 [(2, 2)] [(1, sv a2), (5, rr 1 s12.1), (7, pp 2), (10, sl 2 (File.enc false) a1.Files), (11, iv (a1.Files.length : Int)), (12, iv s12.2)] [(1, rE 1 eStr s12.1), (2, .box (File.enc false x14))] (orcC 0 (x_ix (kk := .i64) 31 138 2 (File.enc false) (.tmp 10) (.tmp 12) h15) orcN) ?_
    refine J_bind (fun x16 h17 => ?_)
    refine J_g 7474 [] [(1, sv a2), (5, rr 1 s12.1), (7, pp 2), (10, sl 2 (File.enc false) a1.Files), (11, iv (a1.Files.length : Int)), (12, iv s12.2), (19, bv x16)] [(1, rE 1 eStr s12.1), (2, .box (File.enc false x14))] (orcC 3 (x_c0 [(.tmp 17), (.tmp 18)] [9, 9] (strings_HasPrefix.ok x14.Path a2) h17) orcN) ?_
    refine J_join (aft c136 1868) (fun v21 : (List ByteArray) => St.mk' [(1, sv a2), (5, rr 4 v21), (10, sl 2 (File.enc false) a1.Files), (11, iv (a1.Files.length : Int)), (12, iv s12.2)] [(4, rE 1 eStr v21)]) (fun v21 => ?_) (fun jv21 => ?_)
    · refine J_g 935 [] [(1, sv a2), (5, rr 4 v21), (10, sl 2 (File.enc false) a1.Files), (11, iv (a1.Files.length : Int)), (12, iv (w64 (s12.2 + 1)))] [(4, rE 1 eStr v21)] orcN ?_
      refine J_ren 4 1 (Nat.le_of_ble_eq_true rfl) (Nat.le_of_ble_eq_true rfl) ?_
      exact J_q (J_b (ih (v21, w64 (s12.2 + 1)))) rfl
    · refine J_if2 19 (fun h18 => ?_) (fun h18 => ?_)
      · refine J_bind (fun x19 h20 => ?_)
        refine J_g 14950 [] [(1, sv a2), (5, rr 4 x19), (10, sl 2 (File.enc false) a1.Files), (11, iv (a1.Files.length : Int)), (12, iv s12.2)] [(4, rE 1 eStr x19)] (orcC 3 (x_bp 86 9 1 3 eStr [x14.Path] [0] [(.tmp 22)] [sv x14.Path]) (orcC 4 (x_ap 86 86 9 9 1 16 4 1 3 eStr (.tmp 20) (.tmp 23) h20) orcN)) ?_
        exact J_qw (J_j (jv21 x19)) rfl
      · refine J_ren 1 4 (Nat.le_of_ble_eq_true rfl) (Nat.le_of_ble_eq_true rfl) ?_
        exact J_qw (J_j (jv21 s12.1)) rfl
  · exact J_qw (hk s12.1) rfl

theorem impl_Disk_paths.ok (a1 : Disk) (a2 : ByteArray) : Ok Tryz.prog 136 [.ag (Disk.enc false a1), sv a2] [] ((impl_Disk_paths a1 a2).map fun r => (so 1 eStr r, [])) := by
  refine Ok_of3 c136 Tryz.f136 0 27 (fun q => ?_)
  unfold impl_Disk_paths
  refine J_g 2 [(0, 0)] [(1, sv a2), (2, pp 0)] [(0, .box (Disk.enc false a1))] orcN ?_
  refine J_g 6 [] [(1, sv a2), (2, pp 0), (5, rr 1 ([] : List ByteArray))] [(0, .box (Disk.enc false a1)), (1, rE 1 eStr ([] : List ByteArray))] (orcC 0 (x_bp 86 9 1 1 eStr ([] : List ByteArray) [] [] []) orcN) ?_
  refine J_g 28 [] [(1, sv a2), (5, rr 1 ([] : List ByteArray)), (10, sl 2 (File.enc false) a1.Files), (11, iv (a1.Files.length : Int)), (12, iv 0)] [(1, rE 1 eStr ([] : List ByteArray))] orcN ?_
  refine J_lq (impl_Disk_paths_l1.ok a1 a2 q _ (fun v22 => J_j ?_) (([] : List ByteArray), 0))
  refine J_g 30 [] [(4, rr 1 v22)] [(1, rE 1 eStr v22)] orcN ?_
  exact J_rm (ds := [rr 1 v22]) (ds' := [so 1 eStr v22]) (.cons (.cell (.move (.head _) (List.length_map _) (by decide) (.nil))) (.nil) (by decide)) rfl

noncomputable def c128 : Code := (Tryz.f128.body).getD .skip

theorem impl_Disk_gens_l1.ok (x2 : (List ByteArray)) (q : Wd) (kn : (List Int) → Option (D × List Ent)) (hk : ∀ v : (List Int), J (q.g Tryz.prog 128 0 31) c128 (atI c128 15) (St.mk' [(3, rr 1 v)] [(1, rE 1 eI64 v)]) (some v) kn) :
    ∀ s17 : ((List Int) × Int), J (q.g Tryz.prog 128 0 31) c128 (atI c128 116) (St.mk' [(3, rr 1 s17.1), (9, rr 2 x2), (10, iv (x2.length : Int)), (11, iv s17.2)] [(1, rE 1 eI64 s17.1), (2, rE 1 eStr x2)]) (impl_Disk_gens_l1 x2 s17) kn := by
  refine J_lp (fun g ih s17 => ?_)
  unfold impl_Disk_gens_l1b
  refine J_g 232 [] [(3, rr 1 s17.1), (9, rr 2 x2), (10, iv (x2.length : Int)), (11, iv s17.2), (12, bv (decide (s17.2 < (x2.length : Int))))] [(1, rE 1 eI64 s17.1), (2, rE 1 eStr x2)] orcN ?_
  refine J_if2 12 (fun h18 => ?_) (fun h18 => ?_)
  · refine J_bind (fun x19 h20 => ?_)
    refine J_g 3736 [] [(3, rr 1 s17.1), (5, sv x19), (9, rr 2 x2), (10, iv (x2.length : Int)), (11, iv s17.2)] [(1, rE 1 eI64 s17.1), (2, rE 1 eStr x2)] (orcC 0 (x_ixr (kk := .i64) 86 9 1 2 eStr (.tmp 9) (.tmp 11) h20) (orcC 1 (x_ldr (d := sv x19) 9 1 2 0 eStr (.tmp 13) h20 (by kernel_rfl)) orcN)) ?_
    refine J_bind (fun x21 h22 => ?_)
    refine J_bind (fun x23 h24 => ?_)
    refine J_g 7474 [] [(3, rr 1 s17.1), (5, sv x19), (6, iv x23), (9, rr 2 x2), (10, iv (x2.length : Int)), (11, iv s17.2)] [(1, rE 1 eI64 s17.1), (2, rE 1 eStr x2)] (orcC 1 (x_ss 9 (.tmp 15) (some (.const (.int .i64 4))) none h22) (orcC 2 (x_c0 [(.tmp 16), (.const (.int .i64 6))] [9, 3] (impl_number.ok x21 6) h24) orcN)) ?_
    refine J_join (atI c128 14951) (fun v26 : Bool => St.mk' [(3, rr 1 s17.1), (6, iv x23), (9, rr 2 x2), (10, iv (x2.length : Int)), (11, iv s17.2), (24, bv v26)] [(1, rE 1 eI64 s17.1), (2, rE 1 eStr x2)]) (fun v26 => ?_) (fun jv26 => ?_)
    · refine J_join (aft c128 1868) (fun v30 : (List Int) => St.mk' [(3, rr 4 v30), (9, rr 2 x2), (10, iv (x2.length : Int)), (11, iv s17.2)] [(2, rE 1 eStr x2), (4, rE 1 eI64 v30)]) (fun v30 => ?_) (fun jv30 => ?_)
      · refine J_g 935 [] [(3, rr 4 v30), (9, rr 2 x2), (10, iv (x2.length : Int)), (11, iv (w64 (s17.2 + 1)))] [(2, rE 1 eStr x2), (4, rE 1 eI64 v30)] orcN ?_
        refine J_ren 4 1 (Nat.le_of_ble_eq_true rfl) (Nat.le_of_ble_eq_true rfl) ?_
        exact J_q (J_b (ih (v30, w64 (s17.2 + 1)))) rfl
      · refine J_if2 24 (fun h27 => ?_) (fun h27 => ?_)
        · refine J_bind (fun x28 h29 => ?_)
          refine J_g 29902 [] [(3, rr 4 x28), (9, rr 2 x2), (10, iv (x2.length : Int)), (11, iv s17.2)] [(2, rE 1 eStr x2), (4, rE 1 eI64 x28)] (orcC 2 (x_bp 39 2 1 3 eI64 [x23] [0] [(.tmp 26)] [iv x23]) (orcC 3 (x_ap 39 39 2 2 1 8 4 1 3 eI64 (.tmp 25) (.tmp 27) h29) orcN)) ?_
          exact J_qw (J_j (jv30 x28)) rfl
        · refine J_ren 1 4 (Nat.le_of_ble_eq_true rfl) (Nat.le_of_ble_eq_true rfl) ?_
          exact J_qw (J_j (jv30 s17.1)) rfl
    · refine J_ite (fun h25 => ?_) (fun h25 => ?_)
      · refine J_g 14950 [] [(3, rr 1 s17.1), (6, iv x23), (9, rr 2 x2), (10, iv (x2.length : Int)), (11, iv s17.2), (24, bv ((x19.size : Int) == 10))] [(1, rE 1 eI64 s17.1), (2, rE 1 eStr x2)] (orcL 2 [(19, bv (decide (x23 ≥ 1)))] [] h25 orcN) ?_
        exact J_qw (J_j (jv26 ((x19.size : Int) == 10))) rfl
      · refine J_g 14950 [] [(3, rr 1 s17.1), (6, iv x23), (9, rr 2 x2), (10, iv (x2.length : Int)), (11, iv s17.2), (24, bv false)] [(1, rE 1 eI64 s17.1), (2, rE 1 eStr x2)] (orcL 2 [(19, bv (decide (x23 ≥ 1)))] [] h25 orcN) ?_
        exact J_qw (J_j (jv26 false)) rfl
  · exact J_qw (hk s17.1) rfl

theorem impl_Disk_gens.ok (a1 : Disk) : Ok Tryz.prog 128 [.ag (Disk.enc false a1)] [] ((impl_Disk_gens a1).map fun r => (so 1 eI64 r, [])) := by
  refine Ok_of3 c128 Tryz.f128 0 31 (fun q => ?_)
  unfold impl_Disk_gens
  refine J_g 2 [(0, 0)] [(1, pp 0)] [(0, .box (Disk.enc false a1))] orcN ?_
  refine J_g 6 [] [(1, pp 0), (3, rr 1 ([] : List Int))] [(0, .box (Disk.enc false a1)), (1, rE 1 eI64 ([] : List Int))] (orcC 0 (x_bp 39 2 1 1 eI64 ([] : List Int) [] [] []) orcN) ?_
  refine J_bind (fun x2 h3 => ?_)
  refine J_g 28 [] [(3, rr 1 ([] : List Int)), (9, rr 2 x2), (10, iv (x2.length : Int)), (11, iv 0)] [(1, rE 1 eI64 ([] : List Int)), (2, rE 1 eStr x2)] (orcC 1 (x_c1 («as» := [.ag (Disk.enc false a1), sv (bs [103, 101, 110, 47])]) [(.tmp 8), (.const (.string (bs [103, 101, 110, 47])))] [33, 9] false [] [] (.cons (.same rfl) (.cons (.same rfl) (.nil))) (impl_Disk_paths.ok a1 (bs [103, 101, 110, 47])) h3 (.own 2)) orcN) ?_
  refine J_lq (impl_Disk_gens_l1.ok x2 q _ (fun v31 => J_j ?_) (([] : List Int), 0))
  refine J_g 30 [] [(2, rr 1 v31)] [(1, rE 1 eI64 v31)] orcN ?_
  exact J_rm (ds := [rr 1 v31]) (ds' := [so 1 eI64 v31]) (.cons (.cell (.move (.head _) (List.length_map _) (by decide) (.nil))) (.nil) (by decide)) rfl

noncomputable def c204 : Code := (Tryz.f204.body).getD .skip

theorem slices_Index_Lint64_l1.ok (a1 : (List Int)) (a2 : Int) (q : Wd) (kn : Unit → Option (D × List Ent)) (hk : ∀ v : Unit, J (q.g Tryz.prog 204 0 19) c204 (atI c204 7) (St.mk' [] []) (some v) kn) :
    ∀ s7 : Int, J (q.g Tryz.prog 204 0 19) c204 (atI c204 52) (St.mk' [(0, sl 1 eI64 a1), (1, iv a2), (7, iv (a1.length : Int)), (8, iv s7)] []) (slices_Index_Lint64_l1 a1 a2 s7) (Fl.go (fun r : Int => some (iv r, [])) kn) := by
  refine J_lp (fun g ih s7 => ?_)
  unfold slices_Index_Lint64_l1b
  refine J_g 104 [] [(0, sl 1 eI64 a1), (1, iv a2), (7, iv (a1.length : Int)), (8, iv s7), (9, bv (decide (s7 < (a1.length : Int))))] [] orcN ?_
  refine J_if2 9 (fun h8 => ?_) (fun h8 => ?_)
  · refine J_g 1688 [] [(0, sl 1 eI64 a1), (1, iv a2), (5, iv s7), (7, iv (a1.length : Int)), (8, iv s7)] [] orcN ?_
    refine J_bind (fun x9 h10 => ?_)
    refine J_g 3378 [] [(0, sl 1 eI64 a1), (1, iv a2), (5, iv s7), (7, iv (a1.length : Int)), (8, iv s7), (16, bv (a2 == x9))] [] (orcC 3 (x_ix (kk := .i64) 39 2 1 eI64 (.tmp 12) (.tmp 13) h10) orcN) ?_
    refine J_if2 16 (fun h11 => ?_) (fun h11 => ?_)
    · refine J_g 13516 [] [(4, iv s7)] [] orcN ?_
      exact J_r1 rfl
    · refine J_g 423 [] [(0, sl 1 eI64 a1), (1, iv a2), (7, iv (a1.length : Int)), (8, iv (w64 (s7 + 1)))] [] orcN ?_
      exact J_q (J_b (ih (w64 (s7 + 1)))) rfl
  · exact J_qw (hk ()) rfl

theorem slices_Index_Lint64.ok (a1 : (List Int)) (a2 : Int) : Ok Tryz.prog 204 [sl 1 eI64 a1, iv a2] [] ((slices_Index_Lint64 a1 a2).map fun r => (iv r, [])) := by
  refine Ok_of3 c204 Tryz.f204 0 19 (fun q => ?_)
  unfold slices_Index_Lint64
  refine J_g 2 [] [(0, sl 1 eI64 a1), (1, iv a2)] [] orcN ?_
  refine J_g 12 [] [(0, sl 1 eI64 a1), (1, iv a2), (7, iv (a1.length : Int)), (8, iv 0)] [] orcN ?_
  refine J_lqF (K0 := (fun r : Int => some (iv r, []))) (fun _ => rfl) (slices_Index_Lint64_l1.ok a1 a2 q _ (fun v12 => J_j ?_) 0)
  refine J_g 14 [] [(4, iv (-1))] [] orcN ?_
  exact J_r1 rfl

noncomputable def c131 : Code := (Tryz.f131.body).getD .skip

theorem slices_Contains_Lint64.ok (a1 : (List Int)) (a2 : Int) : Ok Tryz.prog 131 [sl 1 eI64 a1, iv a2] [] ((slices_Contains_Lint64 a1 a2).map fun r => (bv r, [])) := by
  refine Ok_of3 c131 Tryz.f131 0 9 (fun q => ?_)
  unfold slices_Contains_Lint64
  refine J_g 2 [] [(0, sl 1 eI64 a1), (1, iv a2)] [] orcN ?_
  refine J_bind (fun x3 h4 => ?_)
  refine J_g 6 [] [(4, bv (decide (x3 ≥ 0)))] [] (orcC 2 (x_c0 [(.tmp 5), (.tmp 6)] [39, 2] (slices_Index_Lint64.ok a1 a2) h4) orcN) ?_
  exact J_r1 rfl

noncomputable def c101 : Code := (Tryz.f101.body).getD .skip

theorem impl_Disk_current.ok (a1 : Disk) : Ok Tryz.prog 101 [.ag (Disk.enc false a1)] [] ((impl_Disk_current a1).map fun r => (.tu [iv r.1, iv r.2], [])) := by
  refine Ok_of3 c101 Tryz.f101 0 25 (fun q => ?_)
  unfold impl_Disk_current
  refine J_g 2 [(0, 0)] [(1, pp 0)] [(0, .box (Disk.enc false a1))] orcN ?_
  refine J_bind (fun x2 h3 => ?_)
  refine J_g 6 [] [(1, pp 0), (4, sl 1 eU8 x2.1), (5, bv x2.2)] [(0, .box (Disk.enc false a1))] (orcC 1 (x_c0 [(.tmp 8), (.const (.string (bs [99, 117, 114])))] [33, 9] (impl_Disk_data.ok a1 (bs [99, 117, 114])) h3) orcN) ?_
  refine J_bind (fun x4 h5 => ?_)
  refine J_g 14 [] [(1, pp 0), (5, bv x2.2), (6, iv x4)] [(0, .box (Disk.enc false a1))] (orcC 1 (x_b2s (xs := x2.1) 121 9 5 (.tmp 12)) (orcC 2 (x_c0 [(.tmp 13), (.const (.int .i64 6))] [9, 3] (impl_number.ok (b2s x2.1) 6) h5) orcN)) ?_
  refine J_join (atI c101 61) (fun v11 : Bool => St.mk' [(6, iv x4), (23, bv v11)] []) (fun v11 => ?_) (fun jv11 => ?_)
  · refine J_if2 23 (fun h12 => ?_) (fun h12 => ?_)
    · refine J_g 244 [] [(2, iv 0), (3, iv 4)] [] orcN ?_
      exact J_rT rfl
    · refine J_g 62 [] [(2, iv x4), (3, iv 0)] [] orcN ?_
      exact J_rT rfl
  · refine J_ite (fun h6 => ?_) (fun h6 => ?_)
    · refine J_g 60 [] [(6, iv x4), (23, bv true)] [] (orcL 2 [(16, bv (!x2.2))] [] h6 orcN) ?_
      exact J_qw (J_j (jv11 true)) rfl
    · refine J_bind (fun x7 h8 => ?_)
      refine J_bind (fun x9 h10 => ?_)
      refine J_g 60 [] [(6, iv x4), (23, bv (!x9))] [] (orcL 2 [(16, bv (!x2.2))] [] h6 (orcH 4 2 17 false (x_c1 («as» := [.ag (Disk.enc false a1)]) [(.tmp 18)] [33] false [] [] (.cons (.same rfl) (.nil)) (impl_Disk_gens.ok a1) h8 (.own 1)) (orcH 6 2 17 false (x_c1 («as» := [rr 1 x7, iv x4]) [(.tmp 19), (.tmp 20)] [39, 2] true [(1, rE 1 eI64 x7)] [] (.cons (am_b (.head _) (fun _ => rfl) rfl) (.cons (.same rfl) (.nil))) (slices_Contains_Lint64.ok x7 x4) h10 (.same rfl rfl) (hbor := fun _ => ⟨rfl, flat_sc⟩)) orcN))) ?_
      exact J_qw (J_j (jv11 (!x9))) rfl

theorem strconv_FormatInt.ok (a1 a2 : Int) : Ok Tryz.prog 156 [iv a1, iv a2] [] ((strconv_FormatInt a1 a2).map fun r => (sv r, [])) := by
  unfold strconv_FormatInt
  split
  · rename_i h
    obtain ⟨rfl, h0, h1⟩ := h
    exact Ok_grow (vs := [.int .i64 a1, .int .i64 10]) (fun w hG => Tryz.strconv_FormatInt_10 a1 h0 h1 w (tabIs_of (g := 1) hG (by kernel_rfl) (by kernel_rfl)))
  · exact fun _ h => by cases h

noncomputable def c84 : Code := (Tryz.f84.body).getD .skip

theorem impl_dec.ok (a1 : Int) : Ok Tryz.prog 84 [iv a1] [] ((impl_dec a1).map fun r => (sv r, [])) := by
  refine Ok_of3 c84 Tryz.f84 0 5 (fun q => ?_)
  unfold impl_dec
  refine J_g 2 [] [(0, iv a1)] [] orcN ?_
  refine J_bind (fun x2 h3 => ?_)
  refine J_g 6 [] [(2, sv x2)] [] (orcC 1 (x_c0 [(.tmp 3), (.const (.int .i64 10))] [2, 3] (strconv_FormatInt.ok a1 10) h3) orcN) ?_
  exact J_r1 rfl

theorem strings_Repeat.ok (a1 : ByteArray) (a2 : Int) : Ok Tryz.prog 207 [sv a1, iv a2] [] ((strings_Repeat a1 a2).map fun r => (sv r, [])) := by
  unfold strings_Repeat
  split
  · rename_i h
    obtain ⟨h0, h1, h2⟩ := h
    obtain ⟨n, rfl⟩ := Int.eq_ofNat_of_zero_le h0
    exact Ok_below (vs := [.string a1, .int .i64 n]) (fun w => Tryz.strings_Repeat a1 n w (by omega) h2)
  · exact fun _ h => by cases h

noncomputable def c135 : Code := (Tryz.f135.body).getD .skip

theorem impl_genPath.ok (a1 : Int) : Ok Tryz.prog 135 [iv a1] [] ((impl_genPath a1).map fun r => (sv r, [])) := by
  refine Ok_of3 c135 Tryz.f135 0 13 (fun q => ?_)
  unfold impl_genPath
  refine J_g 2 [] [(0, iv a1)] [] orcN ?_
  refine J_bind (fun x2 h3 => ?_)
  refine J_g 6 [] [(3, sv x2)] [] (orcC 1 (x_c0 [(.tmp 4)] [2] (impl_dec.ok a1) h3) orcN) ?_
  refine J_bind (fun x4 h5 => ?_)
  refine J_bind (fun x6 h7 => ?_)
  refine J_bind (fun x8 h9 => ?_)
  refine J_g 14 [] [(2, sv x8)] [] (orcC 3 (x_c0 [(.const (.string (bs [48]))), (.tmp 8)] [9, 3] (strings_Repeat.ok (bs [48]) (w64 (6 - (x2.size : Int)))) h5) (orcC 4 (x_cat 9 9 (.const (.string (bs [103, 101, 110, 47]))) (.tmp 9) h7) (orcC 6 (x_cat 9 9 (.tmp 10) (.tmp 11) h9) orcN))) ?_
  exact J_r1 rfl

theorem strings_Split.ok (a1 a2 : ByteArray) : Ok Tryz.prog 183 [sv a1, sv a2] [] ((strings_Split a1 a2).map fun r => (so 1 eStr r, [])) := by
  unfold strings_Split
  split
  · rename_i h
    refine Ok_split (t := 9) (fun w hG => ?_)
    obtain ⟨m, hm⟩ := maxLen_of (g := 0) hG (by kernel_rfl)
    rw [Lib.splitB_all a2 h.2 0 _ a1 rfl]
    exact Tryz.strings_Split a1 a2 m w h.1 hm h.2
  · exact fun _ h => by cases h

noncomputable def c105 : Code := (Tryz.f105.body).getD .skip

theorem impl_linesOf.ok (a1 : ByteArray) : Ok Tryz.prog 105 [sv a1] [] ((impl_linesOf a1).map fun r => (so 1 eStr r, [])) := by
  refine Ok_of3 c105 Tryz.f105 0 19 (fun q => ?_)
  unfold impl_linesOf
  refine J_g 2 [] [(0, sv a1)] [] orcN ?_
  refine J_bind (fun x2 h3 => ?_)
  refine J_g 6 [] [(3, rr 0 x2)] [(0, rE 1 eStr x2)] (orcC 1 (x_c1 («as» := [sv a1, sv (bs [10])]) [(.tmp 4), (.const (.string (bs [10])))] [9, 9] false [] [] (.cons (.same rfl) (.cons (.same rfl) (.nil))) (strings_Split.ok a1 (bs [10])) h3 (.own 0)) orcN) ?_
  refine J_bind (fun x4 h5 => ?_)
  refine J_g 28 [] [(3, rr 0 x2), (12, bv (seq x4 (bs [])))] [(0, rE 1 eStr x2)] (orcC 4 (x_ixr (kk := .i64) 86 9 1 0 eStr (.tmp 6) (.tmp 9) h5) (orcC 5 (x_ldr (d := sv x4) 9 1 0 0 eStr (.tmp 10) h5 (by kernel_rfl)) orcN)) ?_
  refine J_join (atI c105 15) (fun v9 : (List ByteArray) => St.mk' [(3, rr 1 v9)] [(1, rE 1 eStr v9)]) (fun v9 => ?_) (fun jv9 => ?_)
  · refine J_g 30 [] [(2, rr 1 v9)] [(1, rE 1 eStr v9)] orcN ?_
    exact J_rm (ds := [rr 1 v9]) (ds' := [so 1 eStr v9]) (.cons (.cell (.move (.head _) (List.length_map _) (by decide) (.nil))) (.nil) (by decide)) rfl
  · refine J_if2 12 (fun h6 => ?_) (fun h6 => ?_)
    · refine J_bind (fun x7 h8 => ?_)
      refine J_g 58 [] [(3, rr 1 x7)] [(1, rE 1 eStr x7)] (orcC 4 (x_cut 86 9 1 0 1 eStr (.tmp 13) none (some (.tmp 16)) h8) orcN) ?_
      exact J_qw (J_j (jv9 x7)) rfl
    · refine J_ren 0 1 (Nat.le_of_ble_eq_true rfl) (Nat.le_of_ble_eq_true rfl) ?_
      exact J_qw (J_j (jv9 x2)) rfl

noncomputable def c280 : Code := (Tryz.f280.body).getD .skip

theorem impl_wordsOf_1.ok (a1 : ByteArray) : Ok Tryz.prog 280 [sv a1] [] ((impl_wordsOf_1 a1).map fun r => (bv r, [])) := by
  refine Ok_of3 c280 Tryz.f280 0 5 (fun q => ?_)
  unfold impl_wordsOf_1
  refine J_g 2 [] [(0, sv a1)] [] orcN ?_
  refine J_g 6 [] [(2, bv (seq a1 (bs [])))] [] orcN ?_
  exact J_r1 rfl

noncomputable def c316 : Code := (Tryz.f316.body).getD .skip

theorem slices_IndexFunc_Lstring_impl_wordsOf_1_l1.ok (a1 : (List ByteArray)) (q : Wd) (kn : Unit → Option (D × List Ent)) (hk : ∀ v : Unit, J (q.g Tryz.prog 316 0 19) c316 (atI c316 7) (St.mk' [] []) (some v) kn) :
    ∀ s8 : Int, J (q.g Tryz.prog 316 0 19) c316 (atI c316 52) (St.mk' [(0, sl 1 eStr a1), (1, .fn 280 []), (7, iv (a1.length : Int)), (8, iv s8)] []) (slices_IndexFunc_Lstring_impl_wordsOf_1_l1 a1 s8) (Fl.go (fun r : Int => some (iv r, [])) kn) := by
  refine J_lp (fun g ih s8 => ?_)
  unfold slices_IndexFunc_Lstring_impl_wordsOf_1_l1b
  refine J_g 104 [] [(0, sl 1 eStr a1), (1, .fn 280 []), (7, iv (a1.length : Int)), (8, iv s8), (9, bv (decide (s8 < (a1.length : Int))))] [] orcN ?_
  refine J_if2 9 (fun h9 => ?_) (fun h9 => ?_)
  · refine J_g 1688 [] [(0, sl 1 eStr a1), (1, .fn 280 []), (5, iv s8), (7, iv (a1.length : Int)), (8, iv s8)] [] orcN ?_
    refine J_bind (fun x10 h11 => ?_)
    refine J_bind (fun x12 h13 => ?_)
    refine J_g 3378 [] [(0, sl 1 eStr a1), (1, .fn 280 []), (5, iv s8), (7, iv (a1.length : Int)), (8, iv s8), (16, bv x12)] [] (orcC 3 (x_ix (kk := .i64) 86 9 1 eStr (.tmp 12) (.tmp 13) h11) (orcC 5 (x_c0v («as» := [sv x10]) (caps := []) 11 [(.tmp 15)] [9] (impl_wordsOf_1.ok x10) h13) orcN)) ?_
    refine J_if2 16 (fun h14 => ?_) (fun h14 => ?_)
    · refine J_g 13516 [] [(4, iv s8)] [] orcN ?_
      exact J_r1 rfl
    · refine J_g 423 [] [(0, sl 1 eStr a1), (1, .fn 280 []), (7, iv (a1.length : Int)), (8, iv (w64 (s8 + 1)))] [] orcN ?_
      exact J_q (J_b (ih (w64 (s8 + 1)))) rfl
  · exact J_qw (hk ()) rfl

theorem slices_IndexFunc_Lstring_impl_wordsOf_1.ok (a1 : (List ByteArray)) : Ok Tryz.prog 316 [sl 1 eStr a1, .fn 280 []] [] ((slices_IndexFunc_Lstring_impl_wordsOf_1 a1).map fun r => (iv r, [])) := by
  refine Ok_of3 c316 Tryz.f316 0 19 (fun q => ?_)
  unfold slices_IndexFunc_Lstring_impl_wordsOf_1
  refine J_g 2 [] [(0, sl 1 eStr a1), (1, .fn 280 [])] [] orcN ?_
  refine J_g 12 [] [(0, sl 1 eStr a1), (1, .fn 280 []), (7, iv (a1.length : Int)), (8, iv 0)] [] orcN ?_
  refine J_lqF (K0 := (fun r : Int => some (iv r, []))) (fun _ => rfl) (slices_IndexFunc_Lstring_impl_wordsOf_1_l1.ok a1 q _ (fun v15 => J_j ?_) 0)
  refine J_g 14 [] [(4, iv (-1))] [] orcN ?_
  exact J_r1 rfl

noncomputable def c279 : Code := (Tryz.f279.body).getD .skip

theorem slices_DeleteFunc_Lstringr_impl_wordsOf_1_l1.ok  (q : Wd) (kn : ((List ByteArray) × Int) → Option (D × List Ent)) (hk : ∀ v : ((List ByteArray) × Int), J (q.g Tryz.prog 279 1 42) c279 (atI c279 31) (St.mk' [(0, rr 0 v.1), (5, iv v.2)] [(0, rE 1 eStr v.1)]) (some v) kn) :
    ∀ s14 : ((List ByteArray) × Int × Int), J (q.g Tryz.prog 279 1 42) c279 (atI c279 244) (St.mk' [(0, rr 0 s14.1), (1, .fn 280 []), (5, iv s14.2.1), (6, iv s14.2.2)] [(0, rE 1 eStr s14.1)]) (slices_DeleteFunc_Lstringr_impl_wordsOf_1_l1 s14) kn := by
  refine J_lp (fun g ih s14 => ?_)
  unfold slices_DeleteFunc_Lstringr_impl_wordsOf_1_l1b
  refine J_g 976 [] [(0, rr 0 s14.1), (1, .fn 280 []), (5, iv s14.2.1), (6, iv s14.2.2), (19, bv (decide (s14.2.2 < (s14.1.length : Int))))] [(0, rE 1 eStr s14.1)] orcN ?_
  refine J_if2 19 (fun h15 => ?_) (fun h15 => ?_)
  · refine J_bind (fun x16 h17 => ?_)
    refine J_g 3912 [] [(0, rr 0 s14.1), (1, .fn 280 []), (5, iv s14.2.1), (6, iv s14.2.2), (7, sv x16)] [(0, rE 1 eStr s14.1)] (orcC 2 (x_ixr (kk := .i64) 86 9 1 0 eStr (.tmp 22) (.tmp 23) h17) (orcC 3 (x_ldr (d := sv x16) 9 1 0 0 eStr (.tmp 24) h17 (by kernel_rfl)) orcN)) ?_
    refine J_bind (fun x18 h19 => ?_)
    refine J_g 7826 [] [(0, rr 0 s14.1), (1, .fn 280 []), (5, iv s14.2.1), (6, iv s14.2.2), (7, sv x16), (29, bv (!x18))] [(0, rE 1 eStr s14.1)] (orcC 2 (x_c0v («as» := [sv x16]) (caps := []) 26 [(.tmp 27)] [9] (impl_wordsOf_1.ok x16) h19) orcN) ?_
    refine J_join (aft c279 1956) (fun v23 : ((List ByteArray) × Int) => St.mk' [(0, rr 0 v23.1), (1, .fn 280 []), (5, iv v23.2), (6, iv s14.2.2)] [(0, rE 1 eStr v23.1)]) (fun v23 => ?_) (fun jv23 => ?_)
    · refine J_g 979 [] [(0, rr 0 v23.1), (1, .fn 280 []), (5, iv v23.2), (6, iv (w64 (s14.2.2 + 1)))] [(0, rE 1 eStr v23.1)] orcN ?_
      exact J_q (J_b (ih (v23.1, v23.2, w64 (s14.2.2 + 1)))) rfl
    · refine J_if2 29 (fun h20 => ?_) (fun h20 => ?_)
      · refine J_bind (fun x21 h22 => ?_)
        refine J_g 31308 [] [(0, rr 0 s14.1), (1, .fn 280 []), (5, iv s14.2.1), (6, iv s14.2.2)] [(0, rE 1 eStr (s14.1.set s14.2.1.toNat x16))] (orcC 3 (x_ixr (kk := .i64) 86 9 1 0 eStr (.tmp 30) (.tmp 31) h22) (orcD 4 (x_st (b := x16) 9 1 0 0 eStr (sv x16) (.tmp 33) (.tmp 32) h22 rfl) orcN)) ?_
        refine J_st (σ' := St.mk' [(0, rr 0 (s14.1.set s14.2.1.toNat x16)), (1, .fn 280 []), (5, iv s14.2.1), (6, iv s14.2.2)] [(0, rE 1 eStr (s14.1.set s14.2.1.toNat x16))]) (by simp only [rr, List.length_set]) ?_
        refine J_g 31309 [] [(0, rr 0 (s14.1.set s14.2.1.toNat x16)), (1, .fn 280 []), (5, iv (w64 (s14.2.1 + 1))), (6, iv s14.2.2)] [(0, rE 1 eStr (s14.1.set s14.2.1.toNat x16))] orcN ?_
        exact J_qw (J_j (jv23 (s14.1.set s14.2.1.toNat x16, w64 (s14.2.1 + 1)))) rfl
      · exact J_qw (J_j (jv23 (s14.1, s14.2.1))) rfl
  · exact J_qw (hk (s14.1, s14.2.1)) rfl

theorem slices_DeleteFunc_Lstringr_impl_wordsOf_1.ok (a1 : (List ByteArray)) : Ok Tryz.prog 279 [rr 0 a1, .fn 280 []] [rE 1 eStr a1] ((slices_DeleteFunc_Lstringr_impl_wordsOf_1 a1).map fun r => (so 1 eStr r, [])) := by
  refine Ok_of3 c279 Tryz.f279 1 42 (fun q => ?_)
  unfold slices_DeleteFunc_Lstringr_impl_wordsOf_1
  refine J_g 2 [] [(0, rr 0 a1), (1, .fn 280 [])] [(0, rE 1 eStr a1)] orcN ?_
  refine J_bind (fun x2 h3 => ?_)
  refine J_g 6 [] [(0, rr 0 a1), (1, .fn 280 []), (5, iv x2)] [(0, rE 1 eStr a1)] (orcC 2 (x_c1 («as» := [rr 0 a1, .fn 280 []]) [(.tmp 8), (.tmp 9)] [86, 281] true [(0, rE 1 eStr a1)] [] (.cons (am_b (.head _) (fun _ => rfl) rfl) (.cons (.fn (.nil)) (.nil))) (slices_IndexFunc_Lstring_impl_wordsOf_1.ok a1) h3 (.same rfl rfl) (hbor := fun _ => ⟨rfl, flat_sc⟩)) orcN) ?_
  refine J_g 28 [] [(0, rr 0 a1), (1, .fn 280 []), (5, iv x2), (12, bv (x2 == (-1)))] [(0, rE 1 eStr a1)] orcN ?_
  refine J_if2 12 (fun h4 => ?_) (fun h4 => ?_)
  · refine J_g 116 [] [(4, rr 0 a1)] [(0, rE 1 eStr a1)] orcN ?_
    exact J_rm (ds := [rr 0 a1]) (ds' := [so 1 eStr a1]) (.cons (.cell (.move (.head _) (List.length_map _) (by decide) (.nil))) (.nil) (by decide)) rfl
  · refine J_g 60 [] [(0, rr 0 a1), (1, .fn 280 []), (5, iv x2), (6, iv (w64 (x2 + 1)))] [(0, rE 1 eStr a1)] orcN ?_
    refine J_lq (slices_DeleteFunc_Lstringr_impl_wordsOf_1_l1.ok q _ (fun v24 => J_j ?_) (a1, x2, w64 (x2 + 1)))
    refine J_bind (fun x25 h26 => ?_)
    refine J_bind (fun x27 h28 => ?_)
    refine J_g 62 [] [(0, rr 0 v24.1), (5, iv v24.2)] [(0, rE 1 eStr x27)] (orcC 2 (x_slr 86 9 1 0 eStr (.tmp 36) (some (.tmp 37)) none h26) (orcD 3 (x_clr (l := v24.2) (a := ByteArray.empty) 86 9 1 0 eStr (.tmp 38) h28 (.keep rfl (.nil))) orcN)) ?_
    refine J_st (σ' := St.mk' [(0, rr 0 x27), (5, iv v24.2)] [(0, rE 1 eStr x27)]) (by simp only [rr, clrw_len h28]) ?_
    refine J_bind (fun x29 h30 => ?_)
    refine J_g 126 [] [(4, rr 1 x29)] [(1, rE 1 eStr x29)] (orcC 2 (x_cut 86 9 1 0 1 eStr (.tmp 39) none (some (.tmp 40)) h30) orcN) ?_
    exact J_rm (ds := [rr 1 x29]) (ds' := [so 1 eStr x29]) (.cons (.cell (.move (.head _) (List.length_map _) (by decide) (.nil))) (.nil) (by decide)) rfl

noncomputable def c219 : Code := (Tryz.f219.body).getD .skip

theorem impl_wordsOf.ok (a1 : ByteArray) : Ok Tryz.prog 219 [sv a1] [] ((impl_wordsOf a1).map fun r => (so 1 eStr r, [])) := by
  refine Ok_of3 c219 Tryz.f219 0 6 (fun q => ?_)
  unfold impl_wordsOf
  refine J_g 2 [] [(0, sv a1)] [] orcN ?_
  refine J_bind (fun x2 h3 => ?_)
  refine J_bind (fun x4 h5 => ?_)
  refine J_g 6 [] [(2, rr 1 x4)] [(1, rE 1 eStr x4)] (orcC 1 (x_c1 («as» := [sv a1, sv (bs [32])]) [(.tmp 3), (.const (.string (bs [32])))] [9, 9] false [] [] (.cons (.same rfl) (.cons (.same rfl) (.nil))) (strings_Split.ok a1 (bs [32])) h3 (.own 0)) (orcC 2 (x_c1 («as» := [rr 0 x2, .fn 280 []]) [(.tmp 4), (.func 280)] [86, 281] false [(0, rE 1 eStr x2)] [0] (.cons (.rf rfl) (.cons (.fn (.nil)) (.nil))) (slices_DeleteFunc_Lstringr_impl_wordsOf_1.ok x2) h5 (.own 1)) orcN)) ?_
  exact J_rm (ds := [rr 1 x4]) (ds' := [so 1 eStr x4]) (.cons (.cell (.move (.head _) (List.length_map _) (by decide) (.nil))) (.nil) (by decide)) rfl

noncomputable def c189 : Code := (Tryz.f189.body).getD .skip

theorem impl_ParseVersion_l1.ok (x2 : (List ByteArray)) (q : Wd) (kn : (List Int) → Option (D × List Ent)) (hk : ∀ v : (List Int), J (q.g Tryz.prog 189 0 39) c189 (atI c189 63) (St.mk' [(2, pp 0), (4, pp 2)] [(0, .box [iv 0, iv 0, iv 0, iv 0]), (2, rE 1 eI64 v)]) (some v) kn) :
    ∀ s15 : ((List Int) × Int), J (q.g Tryz.prog 189 0 39) c189 (atI c189 500) (St.mk' [(2, pp 0), (4, pp 2), (14, rr 1 x2), (15, iv (x2.length : Int)), (16, iv s15.2)] [(0, .box [iv 0, iv 0, iv 0, iv 0]), (1, rE 1 eStr x2), (2, rE 1 eI64 s15.1)]) (impl_ParseVersion_l1 x2 s15) (Fl.go (fun r : VersionResult => some (.ag (VersionResult.enc r), [])) kn) := by
  refine J_lp (fun g ih s15 => ?_)
  unfold impl_ParseVersion_l1b
  refine J_g 1000 [] [(2, pp 0), (4, pp 2), (14, rr 1 x2), (15, iv (x2.length : Int)), (16, iv s15.2), (17, bv (decide (s15.2 < (x2.length : Int))))] [(0, .box [iv 0, iv 0, iv 0, iv 0]), (1, rE 1 eStr x2), (2, rE 1 eI64 s15.1)] orcN ?_
  refine J_if2 17 (fun h16 => ?_) (fun h16 => ?_)
  · refine J_bind (fun x17 h18 => ?_)
    refine J_g 16024 [] [(2, pp 0), (4, pp 2), (5, iv s15.2), (6, sv x17), (14, rr 1 x2), (15, iv (x2.length : Int)), (16, iv s15.2)] [(0, .box [iv 0, iv 0, iv 0, iv 0]), (1, rE 1 eStr x2), (2, rE 1 eI64 s15.1)] (orcC 1 (x_ixr (kk := .i64) 86 9 1 1 eStr (.tmp 14) (.tmp 16) h18) (orcC 2 (x_ldr (d := sv x17) 9 1 1 0 eStr (.tmp 19) h18 (by kernel_rfl)) orcN)) ?_
    refine J_bind (fun x19 h20 => ?_)
    refine J_bind (fun x21 h22 => ?_)
    refine J_g 32050 [] [(2, pp 0), (4, pp 2), (5, iv s15.2), (14, rr 1 x2), (15, iv (x2.length : Int)), (16, iv s15.2)] [(0, .box [iv 0, iv 0, iv 0, iv 0]), (1, rE 1 eStr x2), (2, rE 1 eI64 (s15.1.set s15.2.toNat x19))] (orcC 2 (x_c0 [(.tmp 22), (.const (.int .i64 3))] [9, 3] (impl_number.ok x17 3) h20) (orcC 3 (x_ixa (kk := .i64) 253 2 1 2 eI64 (.tmp 4) (.tmp 21) 3 h22) (orcD 4 (x_st (b := x19) 2 1 2 0 eI64 (iv x19) (.tmp 24) (.tmp 23) (idxa_idx h22) rfl) orcN))) ?_
    refine J_bind (fun x23 h24 => ?_)
    refine J_g 64102 [] [(2, pp 0), (4, pp 2), (14, rr 1 x2), (15, iv (x2.length : Int)), (16, iv s15.2), (28, bv (decide (x23 < 0)))] [(0, .box [iv 0, iv 0, iv 0, iv 0]), (1, rE 1 eStr x2), (2, rE 1 eI64 (s15.1.set s15.2.toNat x19))] (orcC 1 (x_ixa (kk := .i64) 253 2 1 2 eI64 (.tmp 4) (.tmp 25) 3 h24) (orcC 2 (x_ldr (d := iv x23) 2 1 2 0 eI64 (.tmp 26) (idxa_idx h24) (by kernel_rfl)) orcN)) ?_
    refine J_if2 28 (fun h25 => ?_) (fun h25 => ?_)
    · refine J_g 256412 [] [(2, pp 0)] [(0, .box [iv 5, iv 0, iv 0, iv 0])] orcN ?_
      exact J_r1 rfl
    · refine J_g 4007 [] [(2, pp 0), (4, pp 2), (14, rr 1 x2), (15, iv (x2.length : Int)), (16, iv (w64 (s15.2 + 1)))] [(0, .box [iv 0, iv 0, iv 0, iv 0]), (1, rE 1 eStr x2), (2, rE 1 eI64 (s15.1.set s15.2.toNat x19))] orcN ?_
      exact J_q (J_b (ih (s15.1.set s15.2.toNat x19, w64 (s15.2 + 1)))) rfl
  · exact J_qw (hk s15.1) rfl

theorem impl_ParseVersion.ok (a1 : ByteArray) : Ok Tryz.prog 189 [sv a1] [] ((impl_ParseVersion a1).map fun r => (.ag (VersionResult.enc r), [])) := by
  refine Ok_of3 c189 Tryz.f189 0 39 (fun q => ?_)
  unfold impl_ParseVersion
  refine J_g 2 [(0, 0)] [(0, sv a1), (2, pp 0)] [(0, .box [iv 0, iv 0, iv 0, iv 0])] orcN ?_
  refine J_bind (fun x2 h3 => ?_)
  refine J_g 6 [] [(2, pp 0), (3, rr 1 x2)] [(0, .box [iv 0, iv 0, iv 0, iv 0]), (1, rE 1 eStr x2)] (orcC 1 (x_c1 («as» := [sv a1, sv (bs [46])]) [(.tmp 7), (.const (.string (bs [46])))] [9, 9] false [] [] (.cons (.same rfl) (.cons (.same rfl) (.nil))) (strings_Split.ok a1 (bs [46])) h3 (.own 1)) orcN) ?_
  refine J_g 14 [(1, 2)] [(2, pp 0), (3, rr 1 x2), (4, pp 2)] [(0, .box [iv 0, iv 0, iv 0, iv 0]), (1, rE 1 eStr x2), (2, .box [iv 0, iv 0, iv 0])] (orcC 0 (x_build0 253 [.int .i64 0, .int .i64 0, .int .i64 0]) orcN) ?_
  refine J_wk [(2, pp 0), (3, rr 1 x2), (4, pp 2)] [(2, .box [iv 0, iv 0, iv 0]), (0, .box [iv 0, iv 0, iv 0, iv 0]), (1, rE 1 eStr x2)] (by kernel_rfl) ?_
  refine J_boxrow 2 (z := 1) (xs := ([0, 0, 0] : (List Int)).map eI64) (by kernel_rfl) (by kernel_rfl) (by kernel_rfl) (by kernel_rfl) rfl ?_
  refine J_wk [(2, pp 0), (3, rr 1 x2), (4, pp 2)] [(0, .box [iv 0, iv 0, iv 0, iv 0]), (1, rE 1 eStr x2), (2, rE 1 eI64 ([0, 0, 0] : (List Int)))] (by kernel_rfl) ?_
  refine J_g 60 [] [(2, pp 0), (3, rr 1 x2), (4, pp 2), (12, bv (decide ((x2.length : Int) > 3)))] [(0, .box [iv 0, iv 0, iv 0, iv 0]), (1, rE 1 eStr x2), (2, rE 1 eI64 ([0, 0, 0] : (List Int)))] orcN ?_
  refine J_if2 12 (fun h4 => ?_) (fun h4 => ?_)
  · refine J_g 244 [] [(2, pp 0)] [(0, .box [iv 5, iv 0, iv 0, iv 0])] orcN ?_
    exact J_r1 rfl
  · refine J_g 124 [] [(2, pp 0), (4, pp 2), (14, rr 1 x2), (15, iv (x2.length : Int)), (16, iv 0)] [(0, .box [iv 0, iv 0, iv 0, iv 0]), (1, rE 1 eStr x2), (2, rE 1 eI64 ([0, 0, 0] : (List Int)))] orcN ?_
    refine J_lqF (K0 := (fun r : VersionResult => some (.ag (VersionResult.enc r), []))) (fun _ => rfl) (impl_ParseVersion_l1.ok x2 q _ (fun v26 => J_j ?_) (([0, 0, 0] : (List Int)), 0))
    refine J_bind (fun x27 h28 => ?_)
    refine J_bind (fun x29 h30 => ?_)
    refine J_bind (fun x31 h32 => ?_)
    refine J_g 126 [] [(2, pp 0)] [(0, .box [iv 0, iv x27, iv x29, iv x31])] (orcC 0 (x_ixa (kk := .i64) 253 2 1 2 eI64 (.tmp 4) (.const (.int .i64 0)) 3 h28) (orcC 1 (x_ldr (d := iv x27) 2 1 2 0 eI64 (.tmp 31) (idxa_idx h28) (by kernel_rfl)) (orcC 2 (x_ixa (kk := .i64) 253 2 1 2 eI64 (.tmp 4) (.const (.int .i64 1)) 3 h30) (orcC 3 (x_ldr (d := iv x29) 2 1 2 0 eI64 (.tmp 33) (idxa_idx h30) (by kernel_rfl)) (orcC 4 (x_ixa (kk := .i64) 253 2 1 2 eI64 (.tmp 4) (.const (.int .i64 2)) 3 h32) (orcC 5 (x_ldr (d := iv x31) 2 1 2 0 eI64 (.tmp 35) (idxa_idx h32) (by kernel_rfl)) orcN)))))) ?_
    exact J_r1 rfl

noncomputable def c218 : Code := (Tryz.f218.body).getD .skip

theorem impl_readPack.ok (a1 : (List Pack)) (a2 : (List ByteArray)) : Ok Tryz.prog 218 [sl 8 (Pack.enc false) a1, sl 1 eStr a2] [] ((impl_readPack a1 a2).map fun r => (iv r, [])) := by
  refine Ok_of3 c218 Tryz.f218 0 23 (fun q => ?_)
  unfold impl_readPack
  refine J_g 2 [] [(0, sl 8 (Pack.enc false) a1), (1, sl 1 eStr a2)] [] orcN ?_
  refine J_g 12 [] [(0, sl 8 (Pack.enc false) a1), (1, sl 1 eStr a2), (8, bv ((a2.length : Int) != 2))] [] orcN ?_
  refine J_if2 8 (fun h3 => ?_) (fun h3 => ?_)
  · refine J_g 52 [] [(4, iv (-1))] [] orcN ?_
    exact J_r1 rfl
  · refine J_bind (fun x4 h5 => ?_)
    refine J_bind (fun x6 h7 => ?_)
    refine J_g 14 [(4, 0)] [(0, sl 8 (Pack.enc false) a1), (1, sl 1 eStr a2), (5, pp 0)] [(0, .box (VersionResult.enc x6))] (orcC 1 (x_ix (kk := .i64) 86 9 1 eStr (.tmp 9) (.const (.int .i64 1)) h5) (orcC 3 (x_c0 [(.tmp 11)] [9] (impl_ParseVersion.ok x4) h7) orcN)) ?_
    refine J_g 60 [] [(0, sl 8 (Pack.enc false) a1), (1, sl 1 eStr a2), (5, pp 0), (15, bv (x6.Code != 0))] [(0, .box (VersionResult.enc x6))] orcN ?_
    refine J_if2 15 (fun h8 => ?_) (fun h8 => ?_)
    · refine J_g 244 [] [(4, iv (-1))] [] orcN ?_
      exact J_r1 rfl
    · refine J_bind (fun x9 h10 => ?_)
      refine J_bind (fun x11 h12 => ?_)
      refine J_g 62 [] [(4, iv x11)] [] (orcC 2 (x_ix (kk := .i64) 86 9 1 eStr (.tmp 17) (.const (.int .i64 0)) h10) (orcC 6 (x_c0 [(.tmp 16), (.tmp 19), (.tmp 21)] [30, 9, 99] (impl_find.ok a1 x9 x6.Version) h12) orcN)) ?_
      exact J_r1 rfl

theorem slices_Sort_Lint64r.ok (a1 : List Int) : Ok Tryz.prog 133 [rr 0 a1] [rE 1 eI64 a1] ((slices_Sort_Lint64r a1).map fun r => (.tu [], [rE 1 eI64 r])) := by
  unfold slices_Sort_Lint64r
  split
  · exact Ok_sort (enc := Value.int .i64) (by simp [List.length_mergeSort]) (fun blk off cap w hH hb => Tryz.slices_Sort_int blk off cap a1 w hH hb (by omega)) (fun _ p cap w => Tryz.slices_Sort_int_none p cap w)
  · exact fun _ h => by cases h

noncomputable def c151 : Code := (Tryz.f151.body).getD .skip

theorem impl_ParseSet_l1.ok (a1 : (List Pack)) (x7 : (List ByteArray)) (q : Wd) (kn : (List Int) → Option (D × List Ent)) (hk : ∀ v : (List Int), J (q.g Tryz.prog 151 0 51) c151 (atI c151 63) (St.mk' [(4, pp 0), (6, rr 1 v)] [(0, .box [iv 0, iv 0, nv]), (1, rE 1 eI64 v)]) (some v) kn) :
    ∀ s23 : ((List Int) × Int), J (q.g Tryz.prog 151 0 51) c151 (atI c151 500) (St.mk' [(0, sl 8 (Pack.enc false) a1), (4, pp 0), (6, rr 1 s23.1), (22, rr 2 x7), (23, iv (x7.length : Int)), (24, iv s23.2)] [(0, .box [iv 0, iv 0, nv]), (1, rE 1 eI64 s23.1), (2, rE 1 eStr x7)]) (impl_ParseSet_l1 a1 x7 s23) (Fl.go (fun r : SetResult => some (.ag [iv r.Code, iv r.At, so 1 eI64 r.Set], [])) kn) := by
  refine J_lp (fun g ih s23 => ?_)
  unfold impl_ParseSet_l1b
  refine J_g 1000 [] [(0, sl 8 (Pack.enc false) a1), (4, pp 0), (6, rr 1 s23.1), (22, rr 2 x7), (23, iv (x7.length : Int)), (24, iv s23.2), (25, bv (decide (s23.2 < (x7.length : Int))))] [(0, .box [iv 0, iv 0, nv]), (1, rE 1 eI64 s23.1), (2, rE 1 eStr x7)] orcN ?_
  refine J_if2 25 (fun h24 => ?_) (fun h24 => ?_)
  · refine J_bind (fun x25 h26 => ?_)
    refine J_g 16024 [] [(0, sl 8 (Pack.enc false) a1), (4, pp 0), (6, rr 1 s23.1), (7, iv s23.2), (8, sv x25), (22, rr 2 x7), (23, iv (x7.length : Int)), (24, iv s23.2)] [(0, .box [iv 0, iv 0, nv]), (1, rE 1 eI64 s23.1), (2, rE 1 eStr x7)] (orcC 1 (x_ixr (kk := .i64) 86 9 1 2 eStr (.tmp 22) (.tmp 24) h26) (orcC 2 (x_ldr (d := sv x25) 9 1 2 0 eStr (.tmp 27) h26 (by kernel_rfl)) orcN)) ?_
    refine J_bind (fun x27 h28 => ?_)
    refine J_bind (fun x29 h30 => ?_)
    refine J_g 32050 [] [(0, sl 8 (Pack.enc false) a1), (4, pp 0), (6, rr 1 s23.1), (7, iv s23.2), (9, iv x29), (22, rr 2 x7), (23, iv (x7.length : Int)), (24, iv s23.2)] [(0, .box [iv 0, iv 0, nv]), (1, rE 1 eI64 s23.1), (2, rE 1 eStr x7)] (orcC 2 (x_c1 («as» := [sv x25]) [(.tmp 30)] [9] false [] [] (.cons (.same rfl) (.nil)) (impl_wordsOf.ok x25) h28 (.own 3)) (orcC 3 (x_c1 («as» := [sl 8 (Pack.enc false) a1, rr 3 x27]) [(.tmp 29), (.tmp 31)] [30, 86] true [(3, rE 1 eStr x27)] [] (.cons (.same rfl) (.cons (am_b (.head _) (fun _ => rfl) rfl) (.nil))) (impl_readPack.ok a1 x27) h30 (.same rfl rfl) (hbor := fun _ => ⟨rfl, flat_sc⟩)) orcN)) ?_
    refine J_join (atI c151 128205) (fun v34 : Bool => St.mk' [(0, sl 8 (Pack.enc false) a1), (4, pp 0), (6, rr 1 s23.1), (7, iv s23.2), (9, iv x29), (22, rr 2 x7), (23, iv (x7.length : Int)), (24, iv s23.2), (39, bv v34)] [(0, .box [iv 0, iv 0, nv]), (1, rE 1 eI64 s23.1), (2, rE 1 eStr x7)]) (fun v34 => ?_) (fun jv34 => ?_)
    · refine J_if2 39 (fun h35 => ?_) (fun h35 => ?_)
      · refine J_g 512820 [] [(4, pp 0)] [(0, .box [iv 5, iv s23.2, nv])] orcN ?_
        exact J_rm (ds := [.ag [iv 5, iv s23.2, nv]]) (ds' := [.ag [iv 5, iv s23.2, so 1 eI64 ([] : List Int)]]) (.cons (.ag (.keep rfl (.keep rfl (.nilsl true 1 (.nil))))) (.nil) (by decide)) rfl
      · refine J_bind (fun x36 h37 => ?_)
        refine J_g 64103 [] [(0, sl 8 (Pack.enc false) a1), (4, pp 0), (6, rr 4 x36), (22, rr 2 x7), (23, iv (x7.length : Int)), (24, iv s23.2)] [(0, .box [iv 0, iv 0, nv]), (2, rE 1 eStr x7), (4, rE 1 eI64 x36)] (orcC 2 (x_bp 39 2 1 3 eI64 [x29] [0] [(.tmp 43)] [iv x29]) (orcC 3 (x_ap 39 39 2 2 1 8 4 1 3 eI64 (.tmp 42) (.tmp 44) h37) orcN)) ?_
        refine J_g 4007 [] [(0, sl 8 (Pack.enc false) a1), (4, pp 0), (6, rr 4 x36), (22, rr 2 x7), (23, iv (x7.length : Int)), (24, iv (w64 (s23.2 + 1)))] [(0, .box [iv 0, iv 0, nv]), (2, rE 1 eStr x7), (4, rE 1 eI64 x36)] orcN ?_
        refine J_ren 4 1 (Nat.le_of_ble_eq_true rfl) (Nat.le_of_ble_eq_true rfl) ?_
        exact J_q (J_b (ih (x36, w64 (s23.2 + 1)))) rfl
    · refine J_ite (fun h31 => ?_) (fun h31 => ?_)
      · refine J_g 128204 [] [(0, sl 8 (Pack.enc false) a1), (4, pp 0), (6, rr 1 s23.1), (7, iv s23.2), (9, iv x29), (22, rr 2 x7), (23, iv (x7.length : Int)), (24, iv s23.2), (39, bv true)] [(0, .box [iv 0, iv 0, nv]), (1, rE 1 eI64 s23.1), (2, rE 1 eStr x7)] (orcL 2 [(34, bv (decide (x29 < 0)))] [] h31 orcN) ?_
        exact J_qw (J_j (jv34 true)) rfl
      · refine J_bind (fun x32 h33 => ?_)
        refine J_g 128204 [] [(0, sl 8 (Pack.enc false) a1), (4, pp 0), (6, rr 1 s23.1), (7, iv s23.2), (9, iv x29), (22, rr 2 x7), (23, iv (x7.length : Int)), (24, iv s23.2), (39, bv x32)] [(0, .box [iv 0, iv 0, nv]), (1, rE 1 eI64 s23.1), (2, rE 1 eStr x7)] (orcL 2 [(34, bv (decide (x29 < 0)))] [] h31 (orcH 5 2 35 false (x_c1 («as» := [rr 1 s23.1, iv x29]) [(.tmp 36), (.tmp 37)] [39, 2] true [(1, rE 1 eI64 s23.1)] [] (.cons (am_b (.head _) (fun _ => rfl) rfl) (.cons (.same rfl) (.nil))) (slices_Contains_Lint64.ok s23.1 x29) h33 (.same rfl rfl) (hbor := fun _ => ⟨rfl, flat_sc⟩)) orcN)) ?_
        exact J_qw (J_j (jv34 x32)) rfl
  · exact J_qw (hk s23.1) rfl

theorem impl_ParseSet.ok (a1 : (List Pack)) (a2 : ByteArray) : Ok Tryz.prog 151 [sl 8 (Pack.enc false) a1, sv a2] [] ((impl_ParseSet a1 a2).map fun r => (.ag [iv r.Code, iv r.At, so 1 eI64 r.Set], [])) := by
  refine Ok_of3 c151 Tryz.f151 0 51 (fun q => ?_)
  unfold impl_ParseSet
  refine J_g 2 [(0, 0)] [(0, sl 8 (Pack.enc false) a1), (1, sv a2), (4, pp 0)] [(0, .box [iv 0, iv 0, nv])] orcN ?_
  refine J_bind (fun x3 h4 => ?_)
  refine J_g 12 [] [(0, sl 8 (Pack.enc false) a1), (1, sv a2), (4, pp 0), (5, iv x3)] [(0, .box [iv 0, iv 0, nv])] (orcC 1 (x_c0 [(.tmp 10)] [30] (impl_CatalogFault.ok a1) h4) orcN) ?_
  refine J_g 26 [] [(0, sl 8 (Pack.enc false) a1), (1, sv a2), (4, pp 0), (5, iv x3), (13, bv (x3 != 0))] [(0, .box [iv 0, iv 0, nv])] orcN ?_
  refine J_if2 13 (fun h5 => ?_) (fun h5 => ?_)
  · refine J_g 108 [] [(4, pp 0)] [(0, .box [iv x3, iv 0, nv])] orcN ?_
    exact J_rm (ds := [.ag [iv x3, iv 0, nv]]) (ds' := [.ag [iv x3, iv 0, so 1 eI64 ([] : List Int)]]) (.cons (.ag (.keep rfl (.keep rfl (.nilsl true 1 (.nil))))) (.nil) (by decide)) rfl
  · refine J_g 28 [] [(0, sl 8 (Pack.enc false) a1), (1, sv a2), (4, pp 0), (18, bv (decide ((a2.size : Int) > 4000)))] [(0, .box [iv 0, iv 0, nv])] orcN ?_
    refine J_if2 18 (fun h6 => ?_) (fun h6 => ?_)
    · refine J_g 116 [] [(4, pp 0)] [(0, .box [iv 2, iv 0, nv])] orcN ?_
      exact J_rm (ds := [.ag [iv 2, iv 0, nv]]) (ds' := [.ag [iv 2, iv 0, so 1 eI64 ([] : List Int)]]) (.cons (.ag (.keep rfl (.keep rfl (.nilsl true 1 (.nil))))) (.nil) (by decide)) rfl
    · refine J_g 30 [] [(0, sl 8 (Pack.enc false) a1), (1, sv a2), (4, pp 0), (6, rr 1 ([] : List Int))] [(0, .box [iv 0, iv 0, nv]), (1, rE 1 eI64 ([] : List Int))] (orcC 0 (x_bp 39 2 1 1 eI64 ([] : List Int) [] [] []) orcN) ?_
      refine J_bind (fun x7 h8 => ?_)
      refine J_g 124 [] [(0, sl 8 (Pack.enc false) a1), (4, pp 0), (6, rr 1 ([] : List Int)), (22, rr 2 x7), (23, iv (x7.length : Int)), (24, iv 0)] [(0, .box [iv 0, iv 0, nv]), (1, rE 1 eI64 ([] : List Int)), (2, rE 1 eStr x7)] (orcC 1 (x_c1 («as» := [sv a2]) [(.tmp 21)] [9] false [] [] (.cons (.same rfl) (.nil)) (impl_linesOf.ok a2) h8 (.own 2)) orcN) ?_
      refine J_lqF (K0 := (fun r : SetResult => some (.ag [iv r.Code, iv r.At, so 1 eI64 r.Set], []))) (fun _ => rfl) (impl_ParseSet_l1.ok a1 x7 q _ (fun v38 => J_j ?_) (([] : List Int), 0))
      refine J_bind (fun x39 h40 => ?_)
      refine J_g 126 [] [(4, pp 0), (6, rr 1 v38)] [(0, .box [iv 0, iv 0, nv]), (1, rE 1 eI64 x39)] (orcC 1 (x_c1 («as» := [rr 1 v38]) [(.tmp 47)] [39] false [(1, rE 1 eI64 v38)] [1] (.cons (.rf rfl) (.nil)) (slices_Sort_Lint64r.ok v38) h40 (.tu (.nil))) orcN) ?_
      refine J_bind (fun u41 h42 => ?_)
      refine J_st (σ' := St.mk' [(4, pp 0), (6, rr 1 x39)] [(0, .box [iv 0, iv 0, nv]), (1, rE 1 eI64 x39)]) (by simp only [rr, same_len h42]) ?_
      refine J_g 254 [] [(4, pp 0)] [(0, .box [iv 0, iv 0, rr 1 x39]), (1, rE 1 eI64 x39)] orcN ?_
      exact J_rm (ds := [.ag [iv 0, iv 0, rr 1 x39]]) (ds' := [.ag [iv 0, iv 0, so 1 eI64 x39]]) (.cons (.ag (.keep rfl (.keep rfl (.move (.tail _ (.head _)) (List.length_map _) (by decide) (.nil))))) (.nil) (by decide)) rfl

noncomputable def c82 : Code := (Tryz.f82.body).getD .skip

theorem impl_setOf.ok (a1 : (List Pack)) (a2 : Disk) (a3 : Int) : Ok Tryz.prog 82 [sl 8 (Pack.enc false) a1, .ag (Disk.enc false a2), iv a3] [] ((impl_setOf a1 a2 a3).map fun r => (.tu [so 1 eI64 r.1, iv r.2], [])) := by
  refine Ok_of3 c82 Tryz.f82 0 31 (fun q => ?_)
  unfold impl_setOf
  refine J_g 2 [(0, 0)] [(0, sl 8 (Pack.enc false) a1), (2, iv a3), (4, pp 0)] [(0, .box (Disk.enc false a2))] orcN ?_
  refine J_bind (fun x4 h5 => ?_)
  refine J_bind (fun x6 h7 => ?_)
  refine J_g 12 [] [(0, sl 8 (Pack.enc false) a1), (2, iv a3), (4, pp 0), (15, bv (!x6))] [(0, .box (Disk.enc false a2))] (orcC 1 (x_c1 («as» := [.ag (Disk.enc false a2)]) [(.tmp 11)] [33] false [] [] (.cons (.same rfl) (.nil)) (impl_Disk_gens.ok a2) h5 (.own 1)) (orcC 3 (x_c1 («as» := [rr 1 x4, iv a3]) [(.tmp 12), (.tmp 13)] [39, 2] true [(1, rE 1 eI64 x4)] [] (.cons (am_b (.head _) (fun _ => rfl) rfl) (.cons (.same rfl) (.nil))) (slices_Contains_Lint64.ok x4 a3) h7 (.same rfl rfl) (hbor := fun _ => ⟨rfl, flat_sc⟩)) orcN)) ?_
  refine J_if2 15 (fun h8 => ?_) (fun h8 => ?_)
  · refine J_g 52 [] [(6, nv), (7, iv 4)] [] orcN ?_
    exact J_rm (ds := [nv, iv 4]) (ds' := [so 1 eI64 ([] : List Int), iv 4]) (.cons (.cell (.nilsl true 1 (.nil))) (.cons (.cell (.keep rfl (.nil))) (.nil) (by decide)) (by decide)) rfl
  · refine J_bind (fun x9 h10 => ?_)
    refine J_bind (fun x11 h12 => ?_)
    refine J_g 14 [] [(0, sl 8 (Pack.enc false) a1), (8, sl 1 eU8 x11.1)] [] (orcC 2 (x_c0 [(.tmp 18)] [2] (impl_genPath.ok a3) h10) (orcC 3 (x_c0 [(.tmp 17), (.tmp 19)] [33, 9] (impl_Disk_data.ok a2 x9) h12) orcN)) ?_
    refine J_bind (fun x13 h14 => ?_)
    refine J_g 30 [(4, 1)] [(10, pp 1)] [(0, rE 1 eI64 x13.Set), (1, .box [iv x13.Code, iv x13.At, rr 0 x13.Set])] (orcC 2 (x_b2s (xs := x11.1) 121 9 5 (.tmp 24)) (orcC 3 (x_c1 («as» := [sl 8 (Pack.enc false) a1, sv (b2s x11.1)]) [(.tmp 23), (.tmp 25)] [30, 9] false [] [] (.cons (.same rfl) (.cons (.same rfl) (.nil))) (impl_ParseSet.ok a1 (b2s x11.1)) h14 (.ag (.cons (.same rfl rfl) (.cons (.same rfl rfl) (.cons (.own 0) (.nil)))))) orcN)) ?_
    refine J_g 62 [] [(6, rr 0 x13.Set), (7, iv x13.Code)] [(0, rE 1 eI64 x13.Set)] orcN ?_
    exact J_rm (ds := [rr 0 x13.Set, iv x13.Code]) (ds' := [so 1 eI64 x13.Set, iv x13.Code]) (.cons (.cell (.move (.head _) (List.length_map _) (by decide) (.nil))) (.cons (.cell (.keep rfl (.nil))) (.nil) (by decide)) (by decide)) rfl

noncomputable def c48 : Code := (Tryz.f48.body).getD .skip

theorem impl_shown.ok (a1 : (List Pack)) (a2 : Disk) : Ok Tryz.prog 48 [sl 8 (Pack.enc false) a1, .ag (Disk.enc false a2)] [] ((impl_shown a1 a2).map fun r => (.tu [so 1 eI64 r.1, iv r.2], [])) := by
  refine Ok_of3 c48 Tryz.f48 0 22 (fun q => ?_)
  unfold impl_shown
  refine J_g 2 [(0, 0)] [(0, sl 8 (Pack.enc false) a1), (3, pp 0)] [(0, .box (Disk.enc false a2))] orcN ?_
  refine J_bind (fun x3 h4 => ?_)
  refine J_g 6 [] [(0, sl 8 (Pack.enc false) a1), (3, pp 0), (6, iv x3.1), (7, iv x3.2)] [(0, .box (Disk.enc false a2))] (orcC 1 (x_c0 [(.tmp 9)] [33] (impl_Disk_current.ok a2) h4) orcN) ?_
  refine J_g 28 [] [(0, sl 8 (Pack.enc false) a1), (3, pp 0), (6, iv x3.1), (7, iv x3.2), (14, bv (x3.2 != 0))] [(0, .box (Disk.enc false a2))] orcN ?_
  refine J_if2 14 (fun h5 => ?_) (fun h5 => ?_)
  · refine J_g 116 [] [(4, nv), (5, iv x3.2)] [] orcN ?_
    exact J_rm (ds := [nv, iv x3.2]) (ds' := [so 1 eI64 ([] : List Int), iv x3.2]) (.cons (.cell (.nilsl true 1 (.nil))) (.cons (.cell (.keep rfl (.nil))) (.nil) (by decide)) (by decide)) rfl
  · refine J_bind (fun x6 h7 => ?_)
    refine J_g 30 [] [(4, rr 1 x6.1), (5, iv x6.2)] [(1, rE 1 eI64 x6.1)] (orcC 3 (x_c1 («as» := [sl 8 (Pack.enc false) a1, .ag (Disk.enc false a2), iv x3.1]) [(.tmp 16), (.tmp 17), (.tmp 18)] [30, 33, 2] false [] [] (.cons (.same rfl) (.cons (.same rfl) (.cons (.same rfl) (.nil)))) (impl_setOf.ok a1 a2 x3.1) h7 (.tu (.cons (.own 1) (.cons (.same rfl rfl) (.nil))))) orcN) ?_
    exact J_rm (ds := [rr 1 x6.1, iv x6.2]) (ds' := [so 1 eI64 x6.1, iv x6.2]) (.cons (.cell (.move (.head _) (List.length_map _) (by decide) (.nil))) (.cons (.cell (.keep rfl (.nil))) (.nil) (by decide)) (by decide)) rfl

noncomputable def c245 : Code := (Tryz.f245.body).getD .skip

theorem impl_named_l1.ok (a1 : (List Pack)) (a2 : (List Int)) (a3 : ByteArray) (q : Wd) (kn : Unit → Option (D × List Ent)) (hk : ∀ v : Unit, J (q.g Tryz.prog 245 0 24) c245 (atI c245 7) (St.mk' [] []) (some v) kn) :
    ∀ s10 : Int, J (q.g Tryz.prog 245 0 24) c245 (atI c245 52) (St.mk' [(0, sl 8 (Pack.enc false) a1), (2, sv a3), (9, sl 1 eI64 a2), (10, iv (a2.length : Int)), (11, iv s10)] []) (impl_named_l1 a1 a2 a3 s10) (Fl.go (fun r : Int => some (iv r, [])) kn) := by
  refine J_lp (fun g ih s10 => ?_)
  unfold impl_named_l1b
  refine J_g 104 [] [(0, sl 8 (Pack.enc false) a1), (2, sv a3), (9, sl 1 eI64 a2), (10, iv (a2.length : Int)), (11, iv s10), (12, bv (decide (s10 < (a2.length : Int))))] [] orcN ?_
  refine J_if2 12 (fun h11 => ?_) (fun h11 => ?_)
  · refine J_bind (fun x12 h13 => ?_)
    refine J_g 1688 [] [(0, sl 8 (Pack.enc false) a1), (2, sv a3), (8, iv x12), (9, sl 1 eI64 a2), (10, iv (a2.length : Int)), (11, iv s10)] [] (orcC 0 (x_ix (kk := .i64) 39 2 1 eI64 (.tmp 9) (.tmp 11) h13) orcN) ?_
    refine J_bind (fun x14 h15 => ?_)
    refine J_g 3378 [] [(0, sl 8 (Pack.enc false) a1), (2, sv a3), (8, iv x12), (9, sl 1 eI64 a2), (10, iv (a2.length : Int)), (11, iv s10), (21, bv (seq x14.Name a3))] [] (orcC 2 (x_ix (kk := .i64) 30 102 8 (Pack.enc false) (.tmp 15) (.tmp 16) h15) orcN) ?_
    refine J_if2 21 (fun h16 => ?_) (fun h16 => ?_)
    · refine J_g 13516 [] [(6, iv x12)] [] orcN ?_
      exact J_r1 rfl
    · refine J_g 423 [] [(0, sl 8 (Pack.enc false) a1), (2, sv a3), (9, sl 1 eI64 a2), (10, iv (a2.length : Int)), (11, iv (w64 (s10 + 1)))] [] orcN ?_
      exact J_q (J_b (ih (w64 (s10 + 1)))) rfl
  · exact J_qw (hk ()) rfl

theorem impl_named.ok (a1 : (List Pack)) (a2 : (List Int)) (a3 : ByteArray) : Ok Tryz.prog 245 [sl 8 (Pack.enc false) a1, sl 1 eI64 a2, sv a3] [] ((impl_named a1 a2 a3).map fun r => (iv r, [])) := by
  refine Ok_of3 c245 Tryz.f245 0 24 (fun q => ?_)
  unfold impl_named
  refine J_g 2 [] [(0, sl 8 (Pack.enc false) a1), (1, sl 1 eI64 a2), (2, sv a3)] [] orcN ?_
  refine J_g 12 [] [(0, sl 8 (Pack.enc false) a1), (2, sv a3), (9, sl 1 eI64 a2), (10, iv (a2.length : Int)), (11, iv 0)] [] orcN ?_
  refine J_lqF (K0 := (fun r : Int => some (iv r, []))) (fun _ => rfl) (impl_named_l1.ok a1 a2 a3 q _ (fun v17 => J_j ?_) 0)
  refine J_g 14 [] [(6, iv (-1))] [] orcN ?_
  exact J_r1 rfl

noncomputable def c295 : Code := (Tryz.f295.body).getD .skip

theorem impl_Pack_names.ok (a1 : Pack) : Ok Tryz.prog 295 [.ag (Pack.enc false a1)] [] ((impl_Pack_names a1).map fun r => (so 1 eStr r, [])) := by
  refine Ok_of3 c295 Tryz.f295 0 9 (fun q => ?_)
  unfold impl_Pack_names
  refine J_g 2 [(0, 0)] [(1, pp 0)] [(0, .box (Pack.enc false a1))] orcN ?_
  refine J_bind (fun x2 h3 => ?_)
  refine J_g 6 [] [(2, rr 2 x2)] [(2, rE 1 eStr x2)] (orcC 2 (x_bp 86 9 1 1 eStr [a1.Name] [0] [(.tmp 4)] [sv a1.Name]) (orcC 5 (x_aps 86 86 9 9 1 16 2 1 eStr (.tmp 5) (.tmp 7) h3) orcN)) ?_
  exact J_rm (ds := [rr 2 x2]) (ds' := [so 1 eStr x2]) (.cons (.cell (.move (.head _) (List.length_map _) (by decide) (.nil))) (.nil) (by decide)) rfl

noncomputable def c297 : Code := (Tryz.f297.body).getD .skip

theorem impl_Term_has.ok (a1 : Term) (a2 : ByteArray) (a3 : Version) : Ok Tryz.prog 297 [.ag (Term.enc a1), sv a2, .ag (Version.enc a3)] [] ((impl_Term_has a1 a2 a3).map fun r => (bv r, [])) := by
  refine Ok_of3 c297 Tryz.f297 0 25 (fun q => ?_)
  unfold impl_Term_has
  refine J_g 2 [(0, 0), (1, 1)] [(1, sv a2), (3, pp 0), (5, pp 1)] [(0, .box (Term.enc a1)), (1, .box (Version.enc a3))] orcN ?_
  refine J_ite (fun h4 => ?_) (fun h4 => ?_)
  · refine J_bind (fun x5 h6 => ?_)
    refine J_ite (fun h7 => ?_) (fun h7 => ?_)
    · refine J_bind (fun x8 h9 => ?_)
      refine J_g 6 [] [(6, bv (decide (x8 < 0)))] [] (orcL 4 [(10, bv (seq a1.Name a2))] [] h4 (orcH 8 4 11 true (x_c0 [(.tmp 13), (.tmp 14)] [99, 99] (impl_compare.ok a1.Low a3) h6) (orcL 11 [(17, bv (decide (x5 ≤ 0)))] [] h7 (orcH 15 11 18 true (x_c0 [(.tmp 19), (.tmp 21)] [99, 99] (impl_compare.ok a3 a1.High) h9) orcN)))) ?_
      exact J_r1 rfl
    · refine J_g 6 [] [(6, bv false)] [] (orcL 4 [(10, bv (seq a1.Name a2))] [] h4 (orcH 8 4 11 true (x_c0 [(.tmp 13), (.tmp 14)] [99, 99] (impl_compare.ok a1.Low a3) h6) (orcL 11 [(17, bv (decide (x5 ≤ 0)))] [] h7 orcN))) ?_
      exact J_r1 rfl
  · refine J_g 6 [] [(6, bv false)] [] (orcL 4 [(10, bv (seq a1.Name a2))] [] h4 orcN) ?_
    exact J_r1 rfl

noncomputable def c296 : Code := (Tryz.f296.body).getD .skip

theorem impl_Pack_gives_1.ok (a1 : ByteArray) (a2 : Term) (a3 : Pack) : Ok Tryz.prog 296 [sv a1, pp 0, pp 1] [.box (Term.enc a2), .box (Pack.enc false a3)] ((impl_Pack_gives_1 a1 a2 a3).map fun r => (bv r, [.box (Term.enc a2), .box (Pack.enc false a3)])) := by
  refine Ok_of3 c296 Tryz.f296 2 10 (fun q => ?_)
  unfold impl_Pack_gives_1
  refine J_g 2 [] [(0, sv a1), (1, pp 0), (2, pp 1)] [(0, .box (Term.enc a2)), (1, .box (Pack.enc false a3))] orcN ?_
  refine J_bind (fun x4 h5 => ?_)
  refine J_g 6 [] [(4, bv x4)] [(0, .box (Term.enc a2)), (1, .box (Pack.enc false a3))] (orcC 4 (x_c0 [(.tmp 5), (.tmp 6), (.tmp 8)] [149, 9, 99] (impl_Term_has.ok a2 a1 a3.Version) h5) orcN) ?_
  exact J_r1 rfl

theorem slices_IndexFunc_Lstringr_impl_Pack_gives_1_l1.ok (a1 : (List ByteArray)) (a2 : Term) (a3 : Pack) (q : Wd) (kn : Unit → Option (D × List Ent)) (hk : ∀ v : Unit, J (q.g Tryz.prog 316 3 19) c316 (atI c316 7) (St.mk' [] [(0, rE 1 eStr a1), (1, .box (Term.enc a2)), (2, .box (Pack.enc false a3))]) (some v) kn) :
    ∀ s10 : Int, J (q.g Tryz.prog 316 3 19) c316 (atI c316 52) (St.mk' [(0, rr 0 a1), (1, .fn 296 [pp 1, pp 2]), (7, iv (a1.length : Int)), (8, iv s10)] [(0, rE 1 eStr a1), (1, .box (Term.enc a2)), (2, .box (Pack.enc false a3))]) (slices_IndexFunc_Lstringr_impl_Pack_gives_1_l1 a1 a2 a3 s10) (Fl.go (fun r : Int => some (iv r, [rE 1 eStr a1, .box (Term.enc a2), .box (Pack.enc false a3)])) kn) := by
  refine J_lp (fun g ih s10 => ?_)
  unfold slices_IndexFunc_Lstringr_impl_Pack_gives_1_l1b
  refine J_g 104 [] [(0, rr 0 a1), (1, .fn 296 [pp 1, pp 2]), (7, iv (a1.length : Int)), (8, iv s10), (9, bv (decide (s10 < (a1.length : Int))))] [(0, rE 1 eStr a1), (1, .box (Term.enc a2)), (2, .box (Pack.enc false a3))] orcN ?_
  refine J_if2 9 (fun h11 => ?_) (fun h11 => ?_)
  · refine J_g 1688 [] [(0, rr 0 a1), (1, .fn 296 [pp 1, pp 2]), (5, iv s10), (7, iv (a1.length : Int)), (8, iv s10)] [(0, rE 1 eStr a1), (1, .box (Term.enc a2)), (2, .box (Pack.enc false a3))] orcN ?_
    refine J_bind (fun x12 h13 => ?_)
    refine J_bind (fun x14 h15 => ?_)
    refine J_g 3378 [] [(0, rr 0 a1), (1, .fn 296 [pp 1, pp 2]), (5, iv s10), (7, iv (a1.length : Int)), (8, iv s10), (16, bv x14)] [(0, rE 1 eStr a1), (1, .box (Term.enc a2)), (2, .box (Pack.enc false a3))] (orcC 3 (x_ixr (kk := .i64) 86 9 1 0 eStr (.tmp 12) (.tmp 13) h13) (orcC 4 (x_ldr (d := sv x12) 9 1 0 0 eStr (.tmp 14) h13 (by kernel_rfl)) (orcC 5 (x_ro [(1, .box (Term.enc a2)), (2, .box (Pack.enc false a3))] [] (x_c1v 11 [(.tmp 15)] [9] false [(1, .box (Term.enc a2)), (2, .box (Pack.enc false a3))] [1, 2] [sv x12] [pp 1, pp 2] (.cons (.same rfl) (.cons (.pt rfl) (.cons (.pt rfl) (.nil)))) (impl_Pack_gives_1.ok x12 a2 a3) h15 (.same rfl rfl))) orcN))) ?_
    refine J_if2 16 (fun h16 => ?_) (fun h16 => ?_)
    · refine J_g 13516 [] [(4, iv s10)] [(0, rE 1 eStr a1), (1, .box (Term.enc a2)), (2, .box (Pack.enc false a3))] orcN ?_
      exact J_r1 rfl
    · refine J_g 423 [] [(0, rr 0 a1), (1, .fn 296 [pp 1, pp 2]), (7, iv (a1.length : Int)), (8, iv (w64 (s10 + 1)))] [(0, rE 1 eStr a1), (1, .box (Term.enc a2)), (2, .box (Pack.enc false a3))] orcN ?_
      exact J_q (J_b (ih (w64 (s10 + 1)))) rfl
  · exact J_qw (hk ()) rfl

theorem slices_IndexFunc_Lstringr_impl_Pack_gives_1.ok (a1 : (List ByteArray)) (a2 : Term) (a3 : Pack) : Ok Tryz.prog 316 [rr 0 a1, .fn 296 [pp 1, pp 2]] [rE 1 eStr a1, .box (Term.enc a2), .box (Pack.enc false a3)] ((slices_IndexFunc_Lstringr_impl_Pack_gives_1 a1 a2 a3).map fun r => (iv r, [rE 1 eStr a1, .box (Term.enc a2), .box (Pack.enc false a3)])) := by
  refine Ok_of3 c316 Tryz.f316 3 19 (fun q => ?_)
  unfold slices_IndexFunc_Lstringr_impl_Pack_gives_1
  refine J_g 2 [] [(0, rr 0 a1), (1, .fn 296 [pp 1, pp 2])] [(0, rE 1 eStr a1), (1, .box (Term.enc a2)), (2, .box (Pack.enc false a3))] orcN ?_
  refine J_g 12 [] [(0, rr 0 a1), (1, .fn 296 [pp 1, pp 2]), (7, iv (a1.length : Int)), (8, iv 0)] [(0, rE 1 eStr a1), (1, .box (Term.enc a2)), (2, .box (Pack.enc false a3))] orcN ?_
  refine J_lqF (K0 := (fun r : Int => some (iv r, [rE 1 eStr a1, .box (Term.enc a2), .box (Pack.enc false a3)]))) (fun _ => rfl) (slices_IndexFunc_Lstringr_impl_Pack_gives_1_l1.ok a1 a2 a3 q _ (fun v17 => J_j ?_) 0)
  refine J_g 14 [] [(4, iv (-1))] [(0, rE 1 eStr a1), (1, .box (Term.enc a2)), (2, .box (Pack.enc false a3))] orcN ?_
  exact J_r1 rfl

noncomputable def c294 : Code := (Tryz.f294.body).getD .skip

theorem slices_ContainsFunc_Lstringr_impl_Pack_gives_1.ok (a1 : (List ByteArray)) (a2 : Term) (a3 : Pack) : Ok Tryz.prog 294 [rr 0 a1, .fn 296 [pp 1, pp 2]] [rE 1 eStr a1, .box (Term.enc a2), .box (Pack.enc false a3)] ((slices_ContainsFunc_Lstringr_impl_Pack_gives_1 a1 a2 a3).map fun r => (bv r, [rE 1 eStr a1, .box (Term.enc a2), .box (Pack.enc false a3)])) := by
  refine Ok_of3 c294 Tryz.f294 3 9 (fun q => ?_)
  unfold slices_ContainsFunc_Lstringr_impl_Pack_gives_1
  refine J_g 2 [] [(0, rr 0 a1), (1, .fn 296 [pp 1, pp 2])] [(0, rE 1 eStr a1), (1, .box (Term.enc a2)), (2, .box (Pack.enc false a3))] orcN ?_
  refine J_bind (fun x4 h5 => ?_)
  refine J_g 6 [] [(4, bv (decide (x4 ≥ 0)))] [(0, rE 1 eStr a1), (1, .box (Term.enc a2)), (2, .box (Pack.enc false a3))] (orcC 2 (x_ro [(0, rE 1 eStr a1), (1, .box (Term.enc a2)), (2, .box (Pack.enc false a3))] [] (x_c1 («as» := [rr 0 a1, .fn 296 [pp 1, pp 2]]) [(.tmp 5), (.tmp 6)] [86, 281] false [(0, rE 1 eStr a1), (1, .box (Term.enc a2)), (2, .box (Pack.enc false a3))] [0, 1, 2] (.cons (.rf rfl) (.cons (.fn (.cons (.pt rfl) (.cons (.pt rfl) (.nil)))) (.nil))) (slices_IndexFunc_Lstringr_impl_Pack_gives_1.ok a1 a2 a3) h5 (.same rfl rfl))) orcN) ?_
  exact J_r1 rfl

noncomputable def c249 : Code := (Tryz.f249.body).getD .skip

theorem impl_Pack_gives.ok (a1 : Pack) (a2 : Term) : Ok Tryz.prog 249 [.ag (Pack.enc false a1), .ag (Term.enc a2)] [] ((impl_Pack_gives a1 a2).map fun r => (bv r, [])) := by
  refine Ok_of3 c249 Tryz.f249 0 9 (fun q => ?_)
  unfold impl_Pack_gives
  refine J_g 2 [(0, 0), (1, 1)] [(2, pp 0), (3, pp 1)] [(0, .box (Pack.enc false a1)), (1, .box (Term.enc a2))] orcN ?_
  refine J_bind (fun x3 h4 => ?_)
  refine J_bind (fun x5 h6 => ?_)
  refine J_g 6 [] [(4, bv x5)] [] (orcC 1 (x_c1 («as» := [.ag (Pack.enc false a1)]) [(.tmp 5)] [102] false [] [] (.cons (.same rfl) (.nil)) (impl_Pack_names.ok a1) h4 (.own 2)) (orcC 3 (x_ro [(2, rE 1 eStr x3), (1, .box (Term.enc a2)), (0, .box (Pack.enc false a1))] [] (x_c1 («as» := [rr 2 x3, .fn 296 [pp 1, pp 0]]) [(.tmp 6), (.tmp 7)] [86, 281] false [(2, rE 1 eStr x3), (1, .box (Term.enc a2)), (0, .box (Pack.enc false a1))] [2, 1, 0] (.cons (.rf rfl) (.cons (.fn (.cons (.pt rfl) (.cons (.pt rfl) (.nil)))) (.nil))) (slices_ContainsFunc_Lstringr_impl_Pack_gives_1.ok x3 a2 a1) h6 (.same rfl rfl))) orcN)) ?_
  exact J_r1 rfl

noncomputable def c258 : Code := (Tryz.f258.body).getD .skip

theorem slices_IndexFunc_LimplTerm_impl_Pack_gives_l1.ok (a1 : (List Term)) (a2 : Pack) (q : Wd) (kn : Unit → Option (D × List Ent)) (hk : ∀ v : Unit, J (q.g Tryz.prog 258 0 19) c258 (atI c258 7) (St.mk' [] []) (some v) kn) :
    ∀ s9 : Int, J (q.g Tryz.prog 258 0 19) c258 (atI c258 52) (St.mk' [(0, sl 7 Term.enc a1), (1, .fb 249 [.ag (Pack.enc false a2)]), (7, iv (a1.length : Int)), (8, iv s9)] []) (slices_IndexFunc_LimplTerm_impl_Pack_gives_l1 a1 a2 s9) (Fl.go (fun r : Int => some (iv r, [])) kn) := by
  refine J_lp (fun g ih s9 => ?_)
  unfold slices_IndexFunc_LimplTerm_impl_Pack_gives_l1b
  refine J_g 104 [] [(0, sl 7 Term.enc a1), (1, .fb 249 [.ag (Pack.enc false a2)]), (7, iv (a1.length : Int)), (8, iv s9), (9, bv (decide (s9 < (a1.length : Int))))] [] orcN ?_
  refine J_if2 9 (fun h10 => ?_) (fun h10 => ?_)
  · refine J_g 1688 [] [(0, sl 7 Term.enc a1), (1, .fb 249 [.ag (Pack.enc false a2)]), (5, iv s9), (7, iv (a1.length : Int)), (8, iv s9)] [] orcN ?_
    refine J_bind (fun x11 h12 => ?_)
    refine J_bind (fun x13 h14 => ?_)
    refine J_g 3378 [] [(0, sl 7 Term.enc a1), (1, .fb 249 [.ag (Pack.enc false a2)]), (5, iv s9), (7, iv (a1.length : Int)), (8, iv s9), (16, bv x13)] [] (orcC 3 (x_ix (kk := .i64) 75 149 7 Term.enc (.tmp 12) (.tmp 13) h12) (orcC 5 (x_c0b («as» := [.ag (Term.enc x11)]) (caps := [.ag (Pack.enc false a2)]) 11 [(.tmp 15)] [149] (impl_Pack_gives.ok a2 x11) h14) orcN)) ?_
    refine J_if2 16 (fun h15 => ?_) (fun h15 => ?_)
    · refine J_g 13516 [] [(4, iv s9)] [] orcN ?_
      exact J_r1 rfl
    · refine J_g 423 [] [(0, sl 7 Term.enc a1), (1, .fb 249 [.ag (Pack.enc false a2)]), (7, iv (a1.length : Int)), (8, iv (w64 (s9 + 1)))] [] orcN ?_
      exact J_q (J_b (ih (w64 (s9 + 1)))) rfl
  · exact J_qw (hk ()) rfl

theorem slices_IndexFunc_LimplTerm_impl_Pack_gives.ok (a1 : (List Term)) (a2 : Pack) : Ok Tryz.prog 258 [sl 7 Term.enc a1, .fb 249 [.ag (Pack.enc false a2)]] [] ((slices_IndexFunc_LimplTerm_impl_Pack_gives a1 a2).map fun r => (iv r, [])) := by
  refine Ok_of3 c258 Tryz.f258 0 19 (fun q => ?_)
  unfold slices_IndexFunc_LimplTerm_impl_Pack_gives
  refine J_g 2 [] [(0, sl 7 Term.enc a1), (1, .fb 249 [.ag (Pack.enc false a2)])] [] orcN ?_
  refine J_g 12 [] [(0, sl 7 Term.enc a1), (1, .fb 249 [.ag (Pack.enc false a2)]), (7, iv (a1.length : Int)), (8, iv 0)] [] orcN ?_
  refine J_lqF (K0 := (fun r : Int => some (iv r, []))) (fun _ => rfl) (slices_IndexFunc_LimplTerm_impl_Pack_gives_l1.ok a1 a2 q _ (fun v16 => J_j ?_) 0)
  refine J_g 14 [] [(4, iv (-1))] [] orcN ?_
  exact J_r1 rfl

noncomputable def c193 : Code := (Tryz.f193.body).getD .skip

theorem slices_ContainsFunc_LimplTerm_impl_Pack_gives.ok (a1 : (List Term)) (a2 : Pack) : Ok Tryz.prog 193 [sl 7 Term.enc a1, .fb 249 [.ag (Pack.enc false a2)]] [] ((slices_ContainsFunc_LimplTerm_impl_Pack_gives a1 a2).map fun r => (bv r, [])) := by
  refine Ok_of3 c193 Tryz.f193 0 9 (fun q => ?_)
  unfold slices_ContainsFunc_LimplTerm_impl_Pack_gives
  refine J_g 2 [] [(0, sl 7 Term.enc a1), (1, .fb 249 [.ag (Pack.enc false a2)])] [] orcN ?_
  refine J_bind (fun x3 h4 => ?_)
  refine J_g 6 [] [(4, bv (decide (x3 ≥ 0)))] [] (orcC 2 (x_c1 («as» := [sl 7 Term.enc a1, .fb 249 [.ag (Pack.enc false a2)]]) [(.tmp 5), (.tmp 6)] [75, 221] false [] [] (.cons (.same rfl) (.cons (.fb (.cons (.same rfl) (.nil))) (.nil))) (slices_IndexFunc_LimplTerm_impl_Pack_gives.ok a1 a2) h4 (.same rfl rfl)) orcN) ?_
  exact J_r1 rfl

noncomputable def c247 : Code := (Tryz.f247.body).getD .skip

theorem impl_Pack_givesOne.ok (a1 : Pack) (a2 : (List Term)) : Ok Tryz.prog 247 [.ag (Pack.enc false a1), sl 7 Term.enc a2] [] ((impl_Pack_givesOne a1 a2).map fun r => (bv r, [])) := by
  refine Ok_of3 c247 Tryz.f247 0 9 (fun q => ?_)
  unfold impl_Pack_givesOne
  refine J_g 2 [(0, 0)] [(1, sl 7 Term.enc a2), (2, pp 0)] [(0, .box (Pack.enc false a1))] orcN ?_
  refine J_bind (fun x3 h4 => ?_)
  refine J_g 6 [] [(4, bv x3)] [] (orcC 2 (x_mkb 249 [(.tmp 6)] [.ag (Pack.enc false a1)]) (orcC 3 (x_c1 («as» := [sl 7 Term.enc a2, .fb 249 [.ag (Pack.enc false a1)]]) [(.tmp 5), (.tmp 7)] [75, 221] false [] [] (.cons (.same rfl) (.cons (.fb (.cons (.same rfl) (.nil))) (.nil))) (slices_ContainsFunc_LimplTerm_impl_Pack_gives.ok a2 a1) h4 (.same rfl rfl)) orcN)) ?_
  exact J_r1 rfl

noncomputable def c246 : Code := (Tryz.f246.body).getD .skip

theorem impl_faults_1.ok (a1 : Int) (a2 : (List Pack)) (a3 : (List Term)) : Ok Tryz.prog 246 [iv a1, pp 0, pp 1] [.box [sl 8 (Pack.enc false) a2], .box [sl 7 Term.enc a3]] ((impl_faults_1 a1 a2 a3).map fun r => (bv r, [.box [sl 8 (Pack.enc false) a2], .box [sl 7 Term.enc a3]])) := by
  refine Ok_of3 c246 Tryz.f246 2 11 (fun q => ?_)
  unfold impl_faults_1
  refine J_g 2 [] [(0, iv a1), (1, pp 0), (2, pp 1)] [(0, .box [sl 8 (Pack.enc false) a2]), (1, .box [sl 7 Term.enc a3])] orcN ?_
  refine J_bind (fun x4 h5 => ?_)
  refine J_bind (fun x6 h7 => ?_)
  refine J_g 6 [] [(4, bv x6)] [(0, .box [sl 8 (Pack.enc false) a2]), (1, .box [sl 7 Term.enc a3])] (orcC 2 (x_ix (kk := .i64) 30 102 8 (Pack.enc false) (.tmp 5) (.tmp 6) h5) (orcC 5 (x_c0 [(.tmp 8), (.tmp 9)] [102, 75] (impl_Pack_givesOne.ok x4 a3) h7) orcN)) ?_
  exact J_r1 rfl

noncomputable def c203 : Code := (Tryz.f203.body).getD .skip

theorem slices_IndexFunc_Lint64_impl_faults_1_l1.ok (a1 : (List Int)) (a2 : (List Pack)) (a3 : (List Term)) (q : Wd) (kn : Unit → Option (D × List Ent)) (hk : ∀ v : Unit, J (q.g Tryz.prog 203 2 19) c203 (atI c203 7) (St.mk' [] [(0, .box [sl 8 (Pack.enc false) a2]), (1, .box [sl 7 Term.enc a3])]) (some v) kn) :
    ∀ s10 : Int, J (q.g Tryz.prog 203 2 19) c203 (atI c203 52) (St.mk' [(0, sl 1 eI64 a1), (1, .fn 246 [pp 0, pp 1]), (7, iv (a1.length : Int)), (8, iv s10)] [(0, .box [sl 8 (Pack.enc false) a2]), (1, .box [sl 7 Term.enc a3])]) (slices_IndexFunc_Lint64_impl_faults_1_l1 a1 a2 a3 s10) (Fl.go (fun r : Int => some (iv r, [.box [sl 8 (Pack.enc false) a2], .box [sl 7 Term.enc a3]])) kn) := by
  refine J_lp (fun g ih s10 => ?_)
  unfold slices_IndexFunc_Lint64_impl_faults_1_l1b
  refine J_g 104 [] [(0, sl 1 eI64 a1), (1, .fn 246 [pp 0, pp 1]), (7, iv (a1.length : Int)), (8, iv s10), (9, bv (decide (s10 < (a1.length : Int))))] [(0, .box [sl 8 (Pack.enc false) a2]), (1, .box [sl 7 Term.enc a3])] orcN ?_
  refine J_if2 9 (fun h11 => ?_) (fun h11 => ?_)
  · refine J_g 1688 [] [(0, sl 1 eI64 a1), (1, .fn 246 [pp 0, pp 1]), (5, iv s10), (7, iv (a1.length : Int)), (8, iv s10)] [(0, .box [sl 8 (Pack.enc false) a2]), (1, .box [sl 7 Term.enc a3])] orcN ?_
    refine J_bind (fun x12 h13 => ?_)
    refine J_bind (fun x14 h15 => ?_)
    refine J_g 3378 [] [(0, sl 1 eI64 a1), (1, .fn 246 [pp 0, pp 1]), (5, iv s10), (7, iv (a1.length : Int)), (8, iv s10), (16, bv x14)] [(0, .box [sl 8 (Pack.enc false) a2]), (1, .box [sl 7 Term.enc a3])] (orcC 3 (x_ix (kk := .i64) 39 2 1 eI64 (.tmp 12) (.tmp 13) h13) (orcC 5 (x_ro [(0, .box [sl 8 (Pack.enc false) a2]), (1, .box [sl 7 Term.enc a3])] [] (x_c1v 11 [(.tmp 15)] [2] false [(0, .box [sl 8 (Pack.enc false) a2]), (1, .box [sl 7 Term.enc a3])] [0, 1] [iv x12] [pp 0, pp 1] (.cons (.same rfl) (.cons (.pt rfl) (.cons (.pt rfl) (.nil)))) (impl_faults_1.ok x12 a2 a3) h15 (.same rfl rfl))) orcN)) ?_
    refine J_if2 16 (fun h16 => ?_) (fun h16 => ?_)
    · refine J_g 13516 [] [(4, iv s10)] [(0, .box [sl 8 (Pack.enc false) a2]), (1, .box [sl 7 Term.enc a3])] orcN ?_
      exact J_r1 rfl
    · refine J_g 423 [] [(0, sl 1 eI64 a1), (1, .fn 246 [pp 0, pp 1]), (7, iv (a1.length : Int)), (8, iv (w64 (s10 + 1)))] [(0, .box [sl 8 (Pack.enc false) a2]), (1, .box [sl 7 Term.enc a3])] orcN ?_
      exact J_q (J_b (ih (w64 (s10 + 1)))) rfl
  · exact J_qw (hk ()) rfl

theorem slices_IndexFunc_Lint64_impl_faults_1.ok (a1 : (List Int)) (a2 : (List Pack)) (a3 : (List Term)) : Ok Tryz.prog 203 [sl 1 eI64 a1, .fn 246 [pp 0, pp 1]] [.box [sl 8 (Pack.enc false) a2], .box [sl 7 Term.enc a3]] ((slices_IndexFunc_Lint64_impl_faults_1 a1 a2 a3).map fun r => (iv r, [.box [sl 8 (Pack.enc false) a2], .box [sl 7 Term.enc a3]])) := by
  refine Ok_of3 c203 Tryz.f203 2 19 (fun q => ?_)
  unfold slices_IndexFunc_Lint64_impl_faults_1
  refine J_g 2 [] [(0, sl 1 eI64 a1), (1, .fn 246 [pp 0, pp 1])] [(0, .box [sl 8 (Pack.enc false) a2]), (1, .box [sl 7 Term.enc a3])] orcN ?_
  refine J_g 12 [] [(0, sl 1 eI64 a1), (1, .fn 246 [pp 0, pp 1]), (7, iv (a1.length : Int)), (8, iv 0)] [(0, .box [sl 8 (Pack.enc false) a2]), (1, .box [sl 7 Term.enc a3])] orcN ?_
  refine J_lqF (K0 := (fun r : Int => some (iv r, [.box [sl 8 (Pack.enc false) a2], .box [sl 7 Term.enc a3]]))) (fun _ => rfl) (slices_IndexFunc_Lint64_impl_faults_1_l1.ok a1 a2 a3 q _ (fun v17 => J_j ?_) 0)
  refine J_g 14 [] [(4, iv (-1))] [(0, .box [sl 8 (Pack.enc false) a2]), (1, .box [sl 7 Term.enc a3])] orcN ?_
  exact J_r1 rfl

noncomputable def c129 : Code := (Tryz.f129.body).getD .skip

theorem slices_ContainsFunc_Lint64_impl_faults_1.ok (a1 : (List Int)) (a2 : (List Pack)) (a3 : (List Term)) : Ok Tryz.prog 129 [sl 1 eI64 a1, .fn 246 [pp 0, pp 1]] [.box [sl 8 (Pack.enc false) a2], .box [sl 7 Term.enc a3]] ((slices_ContainsFunc_Lint64_impl_faults_1 a1 a2 a3).map fun r => (bv r, [.box [sl 8 (Pack.enc false) a2], .box [sl 7 Term.enc a3]])) := by
  refine Ok_of3 c129 Tryz.f129 2 9 (fun q => ?_)
  unfold slices_ContainsFunc_Lint64_impl_faults_1
  refine J_g 2 [] [(0, sl 1 eI64 a1), (1, .fn 246 [pp 0, pp 1])] [(0, .box [sl 8 (Pack.enc false) a2]), (1, .box [sl 7 Term.enc a3])] orcN ?_
  refine J_bind (fun x4 h5 => ?_)
  refine J_g 6 [] [(4, bv (decide (x4 ≥ 0)))] [(0, .box [sl 8 (Pack.enc false) a2]), (1, .box [sl 7 Term.enc a3])] (orcC 2 (x_ro [(0, .box [sl 8 (Pack.enc false) a2]), (1, .box [sl 7 Term.enc a3])] [] (x_c1 («as» := [sl 1 eI64 a1, .fn 246 [pp 0, pp 1]]) [(.tmp 5), (.tmp 6)] [39, 174] false [(0, .box [sl 8 (Pack.enc false) a2]), (1, .box [sl 7 Term.enc a3])] [0, 1] (.cons (.same rfl) (.cons (.fn (.cons (.pt rfl) (.cons (.pt rfl) (.nil)))) (.nil))) (slices_IndexFunc_Lint64_impl_faults_1.ok a1 a2 a3) h5 (.same rfl rfl))) orcN) ?_
  exact J_r1 rfl

noncomputable def c248 : Code := (Tryz.f248.body).getD .skip

theorem impl_faults_2.ok (a1 : Int) (a2 : Int) (a3 : (List Pack)) (a4 : Term) : Ok Tryz.prog 248 [iv a1, pp 0, pp 1, pp 2] [.box [iv a2], .box [sl 8 (Pack.enc false) a3], .box (Term.enc a4)] ((impl_faults_2 a1 a2 a3 a4).map fun r => (bv r, [.box [iv a2], .box [sl 8 (Pack.enc false) a3], .box (Term.enc a4)])) := by
  refine Ok_of3 c248 Tryz.f248 3 17 (fun q => ?_)
  unfold impl_faults_2
  refine J_g 2 [] [(0, iv a1), (1, pp 0), (2, pp 1), (3, pp 2)] [(0, .box [iv a2]), (1, .box [sl 8 (Pack.enc false) a3]), (2, .box (Term.enc a4))] orcN ?_
  refine J_ite (fun h5 => ?_) (fun h5 => ?_)
  · refine J_bind (fun x6 h7 => ?_)
    refine J_bind (fun x8 h9 => ?_)
    refine J_g 6 [] [(5, bv x8)] [(0, .box [iv a2]), (1, .box [sl 8 (Pack.enc false) a3]), (2, .box (Term.enc a4))] (orcL 3 [(8, bv (a1 != a2))] [] h5 (orcH 6 3 9 true (x_ix (kk := .i64) 30 102 8 (Pack.enc false) (.tmp 10) (.tmp 11) h7) (orcH 9 3 9 true (x_c0 [(.tmp 13), (.tmp 14)] [102, 149] (impl_Pack_gives.ok x6 a4) h9) orcN))) ?_
    exact J_r1 rfl
  · refine J_g 6 [] [(5, bv false)] [(0, .box [iv a2]), (1, .box [sl 8 (Pack.enc false) a3]), (2, .box (Term.enc a4))] (orcL 3 [(8, bv (a1 != a2))] [] h5 orcN) ?_
    exact J_r1 rfl

theorem slices_IndexFunc_Lint64_impl_faults_2_l1.ok (a1 : (List Int)) (a2 : Int) (a3 : (List Pack)) (a4 : Term) (q : Wd) (kn : Unit → Option (D × List Ent)) (hk : ∀ v : Unit, J (q.g Tryz.prog 203 3 19) c203 (atI c203 7) (St.mk' [] [(0, .box [iv a2]), (1, .box [sl 8 (Pack.enc false) a3]), (2, .box (Term.enc a4))]) (some v) kn) :
    ∀ s11 : Int, J (q.g Tryz.prog 203 3 19) c203 (atI c203 52) (St.mk' [(0, sl 1 eI64 a1), (1, .fn 248 [pp 0, pp 1, pp 2]), (7, iv (a1.length : Int)), (8, iv s11)] [(0, .box [iv a2]), (1, .box [sl 8 (Pack.enc false) a3]), (2, .box (Term.enc a4))]) (slices_IndexFunc_Lint64_impl_faults_2_l1 a1 a2 a3 a4 s11) (Fl.go (fun r : Int => some (iv r, [.box [iv a2], .box [sl 8 (Pack.enc false) a3], .box (Term.enc a4)])) kn) := by
  refine J_lp (fun g ih s11 => ?_)
  unfold slices_IndexFunc_Lint64_impl_faults_2_l1b
  refine J_g 104 [] [(0, sl 1 eI64 a1), (1, .fn 248 [pp 0, pp 1, pp 2]), (7, iv (a1.length : Int)), (8, iv s11), (9, bv (decide (s11 < (a1.length : Int))))] [(0, .box [iv a2]), (1, .box [sl 8 (Pack.enc false) a3]), (2, .box (Term.enc a4))] orcN ?_
  refine J_if2 9 (fun h12 => ?_) (fun h12 => ?_)
  · refine J_g 1688 [] [(0, sl 1 eI64 a1), (1, .fn 248 [pp 0, pp 1, pp 2]), (5, iv s11), (7, iv (a1.length : Int)), (8, iv s11)] [(0, .box [iv a2]), (1, .box [sl 8 (Pack.enc false) a3]), (2, .box (Term.enc a4))] orcN ?_
    refine J_bind (fun x13 h14 => ?_)
    refine J_bind (fun x15 h16 => ?_)
    refine J_g 3378 [] [(0, sl 1 eI64 a1), (1, .fn 248 [pp 0, pp 1, pp 2]), (5, iv s11), (7, iv (a1.length : Int)), (8, iv s11), (16, bv x15)] [(0, .box [iv a2]), (1, .box [sl 8 (Pack.enc false) a3]), (2, .box (Term.enc a4))] (orcC 3 (x_ix (kk := .i64) 39 2 1 eI64 (.tmp 12) (.tmp 13) h14) (orcC 5 (x_ro [(0, .box [iv a2]), (1, .box [sl 8 (Pack.enc false) a3]), (2, .box (Term.enc a4))] [] (x_c1v 11 [(.tmp 15)] [2] false [(0, .box [iv a2]), (1, .box [sl 8 (Pack.enc false) a3]), (2, .box (Term.enc a4))] [0, 1, 2] [iv x13] [pp 0, pp 1, pp 2] (.cons (.same rfl) (.cons (.pt rfl) (.cons (.pt rfl) (.cons (.pt rfl) (.nil))))) (impl_faults_2.ok x13 a2 a3 a4) h16 (.same rfl rfl))) orcN)) ?_
    refine J_if2 16 (fun h17 => ?_) (fun h17 => ?_)
    · refine J_g 13516 [] [(4, iv s11)] [(0, .box [iv a2]), (1, .box [sl 8 (Pack.enc false) a3]), (2, .box (Term.enc a4))] orcN ?_
      exact J_r1 rfl
    · refine J_g 423 [] [(0, sl 1 eI64 a1), (1, .fn 248 [pp 0, pp 1, pp 2]), (7, iv (a1.length : Int)), (8, iv (w64 (s11 + 1)))] [(0, .box [iv a2]), (1, .box [sl 8 (Pack.enc false) a3]), (2, .box (Term.enc a4))] orcN ?_
      exact J_q (J_b (ih (w64 (s11 + 1)))) rfl
  · exact J_qw (hk ()) rfl

theorem slices_IndexFunc_Lint64_impl_faults_2.ok (a1 : (List Int)) (a2 : Int) (a3 : (List Pack)) (a4 : Term) : Ok Tryz.prog 203 [sl 1 eI64 a1, .fn 248 [pp 0, pp 1, pp 2]] [.box [iv a2], .box [sl 8 (Pack.enc false) a3], .box (Term.enc a4)] ((slices_IndexFunc_Lint64_impl_faults_2 a1 a2 a3 a4).map fun r => (iv r, [.box [iv a2], .box [sl 8 (Pack.enc false) a3], .box (Term.enc a4)])) := by
  refine Ok_of3 c203 Tryz.f203 3 19 (fun q => ?_)
  unfold slices_IndexFunc_Lint64_impl_faults_2
  refine J_g 2 [] [(0, sl 1 eI64 a1), (1, .fn 248 [pp 0, pp 1, pp 2])] [(0, .box [iv a2]), (1, .box [sl 8 (Pack.enc false) a3]), (2, .box (Term.enc a4))] orcN ?_
  refine J_g 12 [] [(0, sl 1 eI64 a1), (1, .fn 248 [pp 0, pp 1, pp 2]), (7, iv (a1.length : Int)), (8, iv 0)] [(0, .box [iv a2]), (1, .box [sl 8 (Pack.enc false) a3]), (2, .box (Term.enc a4))] orcN ?_
  refine J_lqF (K0 := (fun r : Int => some (iv r, [.box [iv a2], .box [sl 8 (Pack.enc false) a3], .box (Term.enc a4)]))) (fun _ => rfl) (slices_IndexFunc_Lint64_impl_faults_2_l1.ok a1 a2 a3 a4 q _ (fun v18 => J_j ?_) 0)
  refine J_g 14 [] [(4, iv (-1))] [(0, .box [iv a2]), (1, .box [sl 8 (Pack.enc false) a3]), (2, .box (Term.enc a4))] orcN ?_
  exact J_r1 rfl

theorem slices_ContainsFunc_Lint64_impl_faults_2.ok (a1 : (List Int)) (a2 : Int) (a3 : (List Pack)) (a4 : Term) : Ok Tryz.prog 129 [sl 1 eI64 a1, .fn 248 [pp 0, pp 1, pp 2]] [.box [iv a2], .box [sl 8 (Pack.enc false) a3], .box (Term.enc a4)] ((slices_ContainsFunc_Lint64_impl_faults_2 a1 a2 a3 a4).map fun r => (bv r, [.box [iv a2], .box [sl 8 (Pack.enc false) a3], .box (Term.enc a4)])) := by
  refine Ok_of3 c129 Tryz.f129 3 9 (fun q => ?_)
  unfold slices_ContainsFunc_Lint64_impl_faults_2
  refine J_g 2 [] [(0, sl 1 eI64 a1), (1, .fn 248 [pp 0, pp 1, pp 2])] [(0, .box [iv a2]), (1, .box [sl 8 (Pack.enc false) a3]), (2, .box (Term.enc a4))] orcN ?_
  refine J_bind (fun x5 h6 => ?_)
  refine J_g 6 [] [(4, bv (decide (x5 ≥ 0)))] [(0, .box [iv a2]), (1, .box [sl 8 (Pack.enc false) a3]), (2, .box (Term.enc a4))] (orcC 2 (x_ro [(0, .box [iv a2]), (1, .box [sl 8 (Pack.enc false) a3]), (2, .box (Term.enc a4))] [] (x_c1 («as» := [sl 1 eI64 a1, .fn 248 [pp 0, pp 1, pp 2]]) [(.tmp 5), (.tmp 6)] [39, 174] false [(0, .box [iv a2]), (1, .box [sl 8 (Pack.enc false) a3]), (2, .box (Term.enc a4))] [0, 1, 2] (.cons (.same rfl) (.cons (.fn (.cons (.pt rfl) (.cons (.pt rfl) (.cons (.pt rfl) (.nil))))) (.nil))) (slices_IndexFunc_Lint64_impl_faults_2.ok a1 a2 a3 a4) h6 (.same rfl rfl))) orcN) ?_
  exact J_r1 rfl

noncomputable def c177 : Code := (Tryz.f177.body).getD .skip

theorem impl_faults_l2.ok (a1 : (List Pack)) (a2 : (List Int)) (s56 : ((List Fault) × Int)) (x58 : Int) (x60 : Pack) (q : Wd) (kn : (List Fault) → Option (D × List Ent)) (hk : ∀ v : (List Fault), J (q.g Tryz.prog 177 0 77) c177 (aft c177 1868) (St.mk' [(1, sl 1 eI64 a2), (2, pp 0), (5, rr 5 v), (14, sl 1 eI64 a2), (15, iv (a2.length : Int)), (16, iv s56.2)] [(0, .box [sl 8 (Pack.enc false) a1]), (5, rE 3 Fault.enc v)]) (some v) kn) :
    ∀ s99 : ((List Fault) × Int), J (q.g Tryz.prog 177 0 77) c177 (atI c177 239228) (St.mk' [(1, sl 1 eI64 a2), (2, pp 0), (5, rr 5 s99.1), (7, pp 2), (14, sl 1 eI64 a2), (15, iv (a2.length : Int)), (16, iv s56.2), (58, sl 7 Term.enc x60.Bars), (59, iv (x60.Bars.length : Int)), (60, iv s99.2)] [(0, .box [sl 8 (Pack.enc false) a1]), (2, .box [iv x58]), (5, rE 3 Fault.enc s99.1)]) (impl_faults_l2 a1 a2 s56 x58 x60 s99) kn := by
  refine J_lp (fun g ih s99 => ?_)
  unfold impl_faults_l2b
  refine J_g 478456 [] [(1, sl 1 eI64 a2), (2, pp 0), (5, rr 5 s99.1), (7, pp 2), (14, sl 1 eI64 a2), (15, iv (a2.length : Int)), (16, iv s56.2), (58, sl 7 Term.enc x60.Bars), (59, iv (x60.Bars.length : Int)), (60, iv s99.2), (61, bv (decide (s99.2 < (x60.Bars.length : Int))))] [(0, .box [sl 8 (Pack.enc false) a1]), (2, .box [iv x58]), (5, rE 3 Fault.enc s99.1)] orcN ?_
  refine J_if2 61 (fun h100 => ?_) (fun h100 => ?_)
  · refine J_bind (fun x101 h102 => ?_)
    refine J_g 7655320 [(3, 6)] [(1, sl 1 eI64 a2), (2, pp 0), (5, rr 5 s99.1), (7, pp 2), (11, iv s99.2), (12, pp 6), (14, sl 1 eI64 a2), (15, iv (a2.length : Int)), (16, iv s56.2), (58, sl 7 Term.enc x60.Bars), (59, iv (x60.Bars.length : Int)), (60, iv s99.2)] [(0, .box [sl 8 (Pack.enc false) a1]), (2, .box [iv x58]), (5, rE 3 Fault.enc s99.1), (6, .box (Term.enc x101))] (orcC 1 (x_ix (kk := .i64) 75 149 7 Term.enc (.tmp 58) (.tmp 60) h102) orcN) ?_
    refine J_bind (fun x103 h104 => ?_)
    refine J_g 15310642 [] [(1, sl 1 eI64 a2), (2, pp 0), (5, rr 5 s99.1), (7, pp 2), (11, iv s99.2), (14, sl 1 eI64 a2), (15, iv (a2.length : Int)), (16, iv s56.2), (58, sl 7 Term.enc x60.Bars), (59, iv (x60.Bars.length : Int)), (60, iv s99.2), (67, bv x103)] [(0, .box [sl 8 (Pack.enc false) a1]), (2, .box [iv x58]), (5, rE 3 Fault.enc s99.1)] (orcC 2 (x_ro [(2, .box [iv x58]), (0, .box [sl 8 (Pack.enc false) a1]), (6, .box (Term.enc x101))] [] (x_c1 («as» := [sl 1 eI64 a2, .fn 248 [pp 2, pp 0, pp 6]]) [(.tmp 65), (.tmp 66)] [39, 174] false [(2, .box [iv x58]), (0, .box [sl 8 (Pack.enc false) a1]), (6, .box (Term.enc x101))] [2, 0, 6] (.cons (.same rfl) (.cons (.fn (.cons (.pt rfl) (.cons (.pt rfl) (.cons (.pt rfl) (.nil))))) (.nil))) (slices_ContainsFunc_Lint64_impl_faults_2.ok a2 x58 a1 x101) h104 (.same rfl rfl))) orcN) ?_
    refine J_join (aft c177 3827660) (fun v108 : (List Fault) => St.mk' [(1, sl 1 eI64 a2), (2, pp 0), (5, rr 7 v108), (7, pp 2), (14, sl 1 eI64 a2), (15, iv (a2.length : Int)), (16, iv s56.2), (58, sl 7 Term.enc x60.Bars), (59, iv (x60.Bars.length : Int)), (60, iv s99.2)] [(0, .box [sl 8 (Pack.enc false) a1]), (2, .box [iv x58]), (7, rE 3 Fault.enc v108)]) (fun v108 => ?_) (fun jv108 => ?_)
    · refine J_g 1913831 [] [(1, sl 1 eI64 a2), (2, pp 0), (5, rr 7 v108), (7, pp 2), (14, sl 1 eI64 a2), (15, iv (a2.length : Int)), (16, iv s56.2), (58, sl 7 Term.enc x60.Bars), (59, iv (x60.Bars.length : Int)), (60, iv (w64 (s99.2 + 1)))] [(0, .box [sl 8 (Pack.enc false) a1]), (2, .box [iv x58]), (7, rE 3 Fault.enc v108)] orcN ?_
      refine J_ren 7 5 (Nat.le_of_ble_eq_true rfl) (Nat.le_of_ble_eq_true rfl) ?_
      exact J_q (J_b (ih (v108, w64 (s99.2 + 1)))) rfl
    · refine J_if2 67 (fun h105 => ?_) (fun h105 => ?_)
      · refine J_bind (fun x106 h107 => ?_)
        refine J_g 30621286 [] [(1, sl 1 eI64 a2), (2, pp 0), (5, rr 7 x106), (7, pp 2), (14, sl 1 eI64 a2), (15, iv (a2.length : Int)), (16, iv s56.2), (58, sl 7 Term.enc x60.Bars), (59, iv (x60.Bars.length : Int)), (60, iv s99.2)] [(0, .box [sl 8 (Pack.enc false) a1]), (2, .box [iv x58]), (7, rE 3 Fault.enc x106)] (orcC 4 (x_bp 133 199 3 6 Fault.enc [({ Kind := 3, Pack := x58, At := s99.2 } : Fault)] [0] [(.tmp 71)] [.ag [iv 3, iv x58, iv s99.2]]) (orcC 5 (x_ap 133 133 199 199 3 24 7 5 6 Fault.enc (.tmp 68) (.tmp 72) h107) orcN)) ?_
        exact J_qw (J_j (jv108 x106)) rfl
      · refine J_ren 5 7 (Nat.le_of_ble_eq_true rfl) (Nat.le_of_ble_eq_true rfl) ?_
        exact J_qw (J_j (jv108 s99.1)) rfl
  · exact J_qw (hk s99.1) rfl

theorem impl_faults_l1.ok (a1 : (List Pack)) (a2 : (List Int)) (s56 : ((List Fault) × Int)) (x58 : Int) (x60 : Pack) (q : Wd) (kn : (List Fault) → Option (D × List Ent)) (hk : ∀ v : (List Fault), J (q.g Tryz.prog 177 0 77) c177 (atI c177 29903) (St.mk' [(1, sl 1 eI64 a2), (2, pp 0), (5, rr 5 v), (7, pp 2), (8, pp 3), (14, sl 1 eI64 a2), (15, iv (a2.length : Int)), (16, iv s56.2)] [(0, .box [sl 8 (Pack.enc false) a1]), (2, .box [iv x58]), (3, .box (Pack.enc false x60)), (5, rE 3 Fault.enc v)]) (some v) kn) :
    ∀ s79 : ((List Fault) × Int), J (q.g Tryz.prog 177 0 77) c177 (atI c177 239220) (St.mk' [(1, sl 1 eI64 a2), (2, pp 0), (5, rr 5 s79.1), (7, pp 2), (8, pp 3), (14, sl 1 eI64 a2), (15, iv (a2.length : Int)), (16, iv s56.2), (39, sl 1 (eSl false 7 Term.enc) x60.Needs), (40, iv (x60.Needs.length : Int)), (41, iv s79.2)] [(0, .box [sl 8 (Pack.enc false) a1]), (2, .box [iv x58]), (3, .box (Pack.enc false x60)), (5, rE 3 Fault.enc s79.1)]) (impl_faults_l1 a1 a2 s56 x58 x60 s79) kn := by
  refine J_lp (fun g ih s79 => ?_)
  unfold impl_faults_l1b
  refine J_g 478440 [] [(1, sl 1 eI64 a2), (2, pp 0), (5, rr 5 s79.1), (7, pp 2), (8, pp 3), (14, sl 1 eI64 a2), (15, iv (a2.length : Int)), (16, iv s56.2), (39, sl 1 (eSl false 7 Term.enc) x60.Needs), (40, iv (x60.Needs.length : Int)), (41, iv s79.2), (42, bv (decide (s79.2 < (x60.Needs.length : Int))))] [(0, .box [sl 8 (Pack.enc false) a1]), (2, .box [iv x58]), (3, .box (Pack.enc false x60)), (5, rE 3 Fault.enc s79.1)] orcN ?_
  refine J_if2 42 (fun h80 => ?_) (fun h80 => ?_)
  · refine J_bind (fun x81 h82 => ?_)
    refine J_g 7655064 [(3, 6)] [(1, sl 1 eI64 a2), (2, pp 0), (5, rr 5 s79.1), (7, pp 2), (8, pp 3), (9, iv s79.2), (10, pp 6), (14, sl 1 eI64 a2), (15, iv (a2.length : Int)), (16, iv s56.2), (39, sl 1 (eSl false 7 Term.enc) x60.Needs), (40, iv (x60.Needs.length : Int)), (41, iv s79.2)] [(0, .box [sl 8 (Pack.enc false) a1]), (2, .box [iv x58]), (3, .box (Pack.enc false x60)), (5, rE 3 Fault.enc s79.1), (6, .box [sl 7 Term.enc x81])] (orcC 1 (x_ix (kk := .i64) 100 75 1 (eSl false 7 Term.enc) (.tmp 39) (.tmp 41) h82) orcN) ?_
    refine J_bind (fun x83 h84 => ?_)
    refine J_g 15310130 [] [(1, sl 1 eI64 a2), (2, pp 0), (5, rr 5 s79.1), (7, pp 2), (8, pp 3), (9, iv s79.2), (14, sl 1 eI64 a2), (15, iv (a2.length : Int)), (16, iv s56.2), (39, sl 1 (eSl false 7 Term.enc) x60.Needs), (40, iv (x60.Needs.length : Int)), (41, iv s79.2), (49, bv (!x83))] [(0, .box [sl 8 (Pack.enc false) a1]), (2, .box [iv x58]), (3, .box (Pack.enc false x60)), (5, rE 3 Fault.enc s79.1)] (orcC 2 (x_ro [(0, .box [sl 8 (Pack.enc false) a1]), (6, .box [sl 7 Term.enc x81])] [] (x_c1 («as» := [sl 1 eI64 a2, .fn 246 [pp 0, pp 6]]) [(.tmp 46), (.tmp 47)] [39, 174] false [(0, .box [sl 8 (Pack.enc false) a1]), (6, .box [sl 7 Term.enc x81])] [0, 6] (.cons (.same rfl) (.cons (.fn (.cons (.pt rfl) (.cons (.pt rfl) (.nil)))) (.nil))) (slices_ContainsFunc_Lint64_impl_faults_1.ok a2 a1 x81) h84 (.same rfl rfl))) orcN) ?_
    refine J_join (aft c177 3827532) (fun v88 : (List Fault) => St.mk' [(1, sl 1 eI64 a2), (2, pp 0), (5, rr 7 v88), (7, pp 2), (8, pp 3), (14, sl 1 eI64 a2), (15, iv (a2.length : Int)), (16, iv s56.2), (39, sl 1 (eSl false 7 Term.enc) x60.Needs), (40, iv (x60.Needs.length : Int)), (41, iv s79.2)] [(0, .box [sl 8 (Pack.enc false) a1]), (2, .box [iv x58]), (3, .box (Pack.enc false x60)), (7, rE 3 Fault.enc v88)]) (fun v88 => ?_) (fun jv88 => ?_)
    · refine J_g 1913767 [] [(1, sl 1 eI64 a2), (2, pp 0), (5, rr 7 v88), (7, pp 2), (8, pp 3), (14, sl 1 eI64 a2), (15, iv (a2.length : Int)), (16, iv s56.2), (39, sl 1 (eSl false 7 Term.enc) x60.Needs), (40, iv (x60.Needs.length : Int)), (41, iv (w64 (s79.2 + 1)))] [(0, .box [sl 8 (Pack.enc false) a1]), (2, .box [iv x58]), (3, .box (Pack.enc false x60)), (7, rE 3 Fault.enc v88)] orcN ?_
      refine J_ren 7 5 (Nat.le_of_ble_eq_true rfl) (Nat.le_of_ble_eq_true rfl) ?_
      exact J_q (J_b (ih (v88, w64 (s79.2 + 1)))) rfl
    · refine J_if2 49 (fun h85 => ?_) (fun h85 => ?_)
      · refine J_bind (fun x86 h87 => ?_)
        refine J_g 30620262 [] [(1, sl 1 eI64 a2), (2, pp 0), (5, rr 7 x86), (7, pp 2), (8, pp 3), (14, sl 1 eI64 a2), (15, iv (a2.length : Int)), (16, iv s56.2), (39, sl 1 (eSl false 7 Term.enc) x60.Needs), (40, iv (x60.Needs.length : Int)), (41, iv s79.2)] [(0, .box [sl 8 (Pack.enc false) a1]), (2, .box [iv x58]), (3, .box (Pack.enc false x60)), (7, rE 3 Fault.enc x86)] (orcC 4 (x_bp 133 199 3 6 Fault.enc [({ Kind := 2, Pack := x58, At := s79.2 } : Fault)] [0] [(.tmp 53)] [.ag [iv 2, iv x58, iv s79.2]]) (orcC 5 (x_ap 133 133 199 199 3 24 7 5 6 Fault.enc (.tmp 50) (.tmp 54) h87) orcN)) ?_
        exact J_qw (J_j (jv88 x86)) rfl
      · refine J_ren 5 7 (Nat.le_of_ble_eq_true rfl) (Nat.le_of_ble_eq_true rfl) ?_
        exact J_qw (J_j (jv88 s79.1)) rfl
  · exact J_qw (hk s79.1) rfl

theorem impl_faults_l3.ok (a1 : (List Pack)) (a2 : (List Int)) (q : Wd) (kn : (List Fault) → Option (D × List Ent)) (hk : ∀ v : (List Fault), J (q.g Tryz.prog 177 0 77) c177 (atI c177 15) (St.mk' [(5, rr 1 v)] [(1, rE 3 Fault.enc v)]) (some v) kn) :
    ∀ s56 : ((List Fault) × Int), J (q.g Tryz.prog 177 0 77) c177 (atI c177 116) (St.mk' [(1, sl 1 eI64 a2), (2, pp 0), (5, rr 1 s56.1), (14, sl 1 eI64 a2), (15, iv (a2.length : Int)), (16, iv s56.2)] [(0, .box [sl 8 (Pack.enc false) a1]), (1, rE 3 Fault.enc s56.1)]) (impl_faults_l3 a1 a2 s56) kn := by
  refine J_lp (fun g ih s56 => ?_)
  unfold impl_faults_l3b
  refine J_g 232 [] [(1, sl 1 eI64 a2), (2, pp 0), (5, rr 1 s56.1), (14, sl 1 eI64 a2), (15, iv (a2.length : Int)), (16, iv s56.2), (17, bv (decide (s56.2 < (a2.length : Int))))] [(0, .box [sl 8 (Pack.enc false) a1]), (1, rE 3 Fault.enc s56.1)] orcN ?_
  refine J_if2 17 (fun h57 => ?_) (fun h57 => ?_)
  · refine J_bind (fun x58 h59 => ?_)
    refine J_g 3736 [(3, 2)] [(1, sl 1 eI64 a2), (2, pp 0), (5, rr 1 s56.1), (6, iv s56.2), (7, pp 2), (14, sl 1 eI64 a2), (15, iv (a2.length : Int)), (16, iv s56.2)] [(0, .box [sl 8 (Pack.enc false) a1]), (1, rE 3 Fault.enc s56.1), (2, .box [iv x58])] (orcC 1 (x_ix (kk := .i64) 39 2 1 eI64 (.tmp 14) (.tmp 16) h59) orcN) ?_
    refine J_bind (fun x60 h61 => ?_)
    refine J_g 7474 [(4, 3)] [(1, sl 1 eI64 a2), (2, pp 0), (5, rr 1 s56.1), (6, iv s56.2), (7, pp 2), (8, pp 3), (14, sl 1 eI64 a2), (15, iv (a2.length : Int)), (16, iv s56.2)] [(0, .box [sl 8 (Pack.enc false) a1]), (1, rE 3 Fault.enc s56.1), (2, .box [iv x58]), (3, .box (Pack.enc false x60))] (orcC 2 (x_ix (kk := .i64) 30 102 8 (Pack.enc false) (.tmp 21) (.tmp 22) h61) orcN) ?_
    refine J_bind (fun x62 h63 => ?_)
    refine J_bind (fun x64 h65 => ?_)
    refine J_g 29900 [] [(1, sl 1 eI64 a2), (2, pp 0), (5, rr 1 s56.1), (7, pp 2), (8, pp 3), (14, sl 1 eI64 a2), (15, iv (a2.length : Int)), (16, iv s56.2), (32, bv (decide (x64 ≥ 0)))] [(0, .box [sl 8 (Pack.enc false) a1]), (1, rE 3 Fault.enc s56.1), (2, .box [iv x58]), (3, .box (Pack.enc false x60))] (orcC 3 (x_ls 39 2 1 eI64 (.tmp 26) none (some (.tmp 27)) h63) (orcC 6 (x_c0 [(.tmp 25), (.tmp 28), (.tmp 30)] [30, 39, 9] (impl_named.ok a1 x62 x60.Name) h65) orcN)) ?_
    refine J_join (atI c177 14951) (fun v69 : (List Fault) => St.mk' [(1, sl 1 eI64 a2), (2, pp 0), (5, rr 5 v69), (7, pp 2), (8, pp 3), (14, sl 1 eI64 a2), (15, iv (a2.length : Int)), (16, iv s56.2)] [(0, .box [sl 8 (Pack.enc false) a1]), (2, .box [iv x58]), (3, .box (Pack.enc false x60)), (5, rE 3 Fault.enc v69)]) (fun v69 => ?_) (fun jv69 => ?_)
    · refine J_g 59804 [] [(1, sl 1 eI64 a2), (2, pp 0), (5, rr 5 v69), (7, pp 2), (8, pp 3), (14, sl 1 eI64 a2), (15, iv (a2.length : Int)), (16, iv s56.2), (39, sl 1 (eSl false 7 Term.enc) x60.Needs), (40, iv (x60.Needs.length : Int)), (41, iv 0)] [(0, .box [sl 8 (Pack.enc false) a1]), (2, .box [iv x58]), (3, .box (Pack.enc false x60)), (5, rE 3 Fault.enc v69)] orcN ?_
      refine J_lq (impl_faults_l1.ok a1 a2 s56 x58 x60 q _ (fun v89 => J_j ?_) (v69, 0))
      refine J_g 59806 [] [(1, sl 1 eI64 a2), (2, pp 0), (5, rr 5 v89), (7, pp 2), (14, sl 1 eI64 a2), (15, iv (a2.length : Int)), (16, iv s56.2), (58, sl 7 Term.enc x60.Bars), (59, iv (x60.Bars.length : Int)), (60, iv 0)] [(0, .box [sl 8 (Pack.enc false) a1]), (2, .box [iv x58]), (5, rE 3 Fault.enc v89)] orcN ?_
      refine J_lq (impl_faults_l2.ok a1 a2 s56 x58 x60 q _ (fun v109 => J_j ?_) (v89, 0))
      refine J_g 935 [] [(1, sl 1 eI64 a2), (2, pp 0), (5, rr 5 v109), (14, sl 1 eI64 a2), (15, iv (a2.length : Int)), (16, iv (w64 (s56.2 + 1)))] [(0, .box [sl 8 (Pack.enc false) a1]), (5, rE 3 Fault.enc v109)] orcN ?_
      refine J_ren 5 1 (Nat.le_of_ble_eq_true rfl) (Nat.le_of_ble_eq_true rfl) ?_
      exact J_q (J_b (ih (v109, w64 (s56.2 + 1)))) rfl
    · refine J_if2 32 (fun h66 => ?_) (fun h66 => ?_)
      · refine J_bind (fun x67 h68 => ?_)
        refine J_g 59802 [] [(1, sl 1 eI64 a2), (2, pp 0), (5, rr 5 x67), (7, pp 2), (8, pp 3), (14, sl 1 eI64 a2), (15, iv (a2.length : Int)), (16, iv s56.2)] [(0, .box [sl 8 (Pack.enc false) a1]), (2, .box [iv x58]), (3, .box (Pack.enc false x60)), (5, rE 3 Fault.enc x67)] (orcC 3 (x_bp 133 199 3 4 Fault.enc [({ Kind := 1, Pack := x58, At := 0 } : Fault)] [0] [(.tmp 35)] [.ag [iv 1, iv x58, iv 0]]) (orcC 4 (x_ap 133 133 199 199 3 24 5 1 4 Fault.enc (.tmp 33) (.tmp 36) h68) orcN)) ?_
        exact J_qw (J_j (jv69 x67)) rfl
      · refine J_ren 1 5 (Nat.le_of_ble_eq_true rfl) (Nat.le_of_ble_eq_true rfl) ?_
        exact J_qw (J_j (jv69 s56.1)) rfl
  · exact J_qw (hk s56.1) rfl

theorem impl_faults.ok (a1 : (List Pack)) (a2 : (List Int)) : Ok Tryz.prog 177 [sl 8 (Pack.enc false) a1, sl 1 eI64 a2] [] ((impl_faults a1 a2).map fun r => (so 3 Fault.enc r, [])) := by
  refine Ok_of3 c177 Tryz.f177 0 77 (fun q => ?_)
  unfold impl_faults
  refine J_g 2 [(0, 0)] [(1, sl 1 eI64 a2), (2, pp 0)] [(0, .box [sl 8 (Pack.enc false) a1])] orcN ?_
  refine J_g 6 [] [(1, sl 1 eI64 a2), (2, pp 0), (5, rr 1 ([] : List Fault))] [(0, .box [sl 8 (Pack.enc false) a1]), (1, rE 3 Fault.enc ([] : List Fault))] (orcC 0 (x_bp 133 199 3 1 Fault.enc ([] : List Fault) [] [] []) orcN) ?_
  refine J_g 28 [] [(1, sl 1 eI64 a2), (2, pp 0), (5, rr 1 ([] : List Fault)), (14, sl 1 eI64 a2), (15, iv (a2.length : Int)), (16, iv 0)] [(0, .box [sl 8 (Pack.enc false) a1]), (1, rE 3 Fault.enc ([] : List Fault))] orcN ?_
  refine J_lq (impl_faults_l3.ok a1 a2 q _ (fun v110 => J_j ?_) (([] : List Fault), 0))
  refine J_g 30 [] [(4, rr 1 v110)] [(1, rE 3 Fault.enc v110)] orcN ?_
  exact J_rm (ds := [rr 1 v110]) (ds' := [so 3 Fault.enc v110]) (.cons (.cell (.move (.head _) (List.length_map _) (by decide) (.nil))) (.nil) (by decide)) rfl

noncomputable def c102 : Code := (Tryz.f102.body).getD .skip

theorem impl_consistent.ok (a1 : (List Pack)) (a2 : (List Int)) : Ok Tryz.prog 102 [sl 8 (Pack.enc false) a1, sl 1 eI64 a2] [] ((impl_consistent a1 a2).map fun r => (bv r, [])) := by
  refine Ok_of3 c102 Tryz.f102 0 10 (fun q => ?_)
  unfold impl_consistent
  refine J_g 2 [] [(0, sl 8 (Pack.enc false) a1), (1, sl 1 eI64 a2)] [] orcN ?_
  refine J_bind (fun x3 h4 => ?_)
  refine J_g 6 [] [(4, bv ((x3.length : Int) == 0))] [] (orcC 2 (x_c1 («as» := [sl 8 (Pack.enc false) a1, sl 1 eI64 a2]) [(.tmp 5), (.tmp 6)] [30, 39] false [] [] (.cons (.same rfl) (.cons (.same rfl) (.nil))) (impl_faults.ok a1 a2) h4 (.own 0)) orcN) ?_
  exact J_r1 rfl

noncomputable def c132 : Code := (Tryz.f132.body).getD .skip

theorem slices_Clone_Lint64.ok (a1 : (List Int)) : Ok Tryz.prog 132 [sl 1 eI64 a1] [] ((slices_Clone_Lint64 a1).map fun r => (so 1 eI64 r, [])) := by
  refine Ok_of3 c132 Tryz.f132 0 8 (fun q => ?_)
  unfold slices_Clone_Lint64
  refine J_g 2 [] [(0, sl 1 eI64 a1)] [] orcN ?_
  refine J_g 12 [] [(0, sl 1 eI64 a1), (4, .nb a1.length)] [] (orcC 1 (x_nileq (xs := a1) 39 2 39 1 eI64 (.tmp 3)) orcN) ?_
  refine J_nb 4 rfl (fun h2 => ?_) ?_
  · obtain rfl : a1 = [] := List.eq_nil_of_length_eq_zero h2
    refine J_told (e' := some ([] : List Int)) (by kernel_rfl) ?_
    refine J_g 52 [] [(2, nv)] [] orcN ?_
    exact J_rm (ds := [nv]) (ds' := [so 1 eI64 ([] : List Int)]) (.cons (.cell (.nilsl true 1 (.nil))) (.nil) (by decide)) rfl
  · refine J_bind (fun x3 h4 => ?_)
    refine J_g 14 [] [(2, rr 1 x3)] [(1, rE 1 eI64 x3)] (orcC 0 (x_bp 39 2 1 0 eI64 ([] : List Int) [] [] []) (orcC 2 (x_aps 39 39 2 2 1 8 1 0 eI64 (.tmp 5) (.tmp 6) h4) orcN)) ?_
    exact J_rm (ds := [rr 1 x3]) (ds' := [so 1 eI64 x3]) (.cons (.cell (.move (.head _) (List.length_map _) (by decide) (.nil))) (.nil) (by decide)) rfl

noncomputable def c252 : Code := (Tryz.f252.body).getD .skip

theorem impl_Version_text.ok (a1 : Version) : Ok Tryz.prog 252 [.ag (Version.enc a1)] [] ((impl_Version_text a1).map fun r => (sv r, [])) := by
  refine Ok_of3 c252 Tryz.f252 0 16 (fun q => ?_)
  unfold impl_Version_text
  refine J_g 2 [(0, 0)] [(1, pp 0)] [(0, .box (Version.enc a1))] orcN ?_
  refine J_bind (fun x2 h3 => ?_)
  refine J_bind (fun x4 h5 => ?_)
  refine J_bind (fun x6 h7 => ?_)
  refine J_bind (fun x8 h9 => ?_)
  refine J_bind (fun x10 h11 => ?_)
  refine J_bind (fun x12 h13 => ?_)
  refine J_bind (fun x14 h15 => ?_)
  refine J_g 6 [] [(2, sv x14)] [] (orcC 2 (x_c0 [(.tmp 4)] [2] (impl_dec.ok a1.A) h3) (orcC 3 (x_cat 9 9 (.tmp 5) (.const (.string (bs [46]))) h5) (orcC 6 (x_c0 [(.tmp 8)] [2] (impl_dec.ok a1.B) h7) (orcC 7 (x_cat 9 9 (.tmp 6) (.tmp 9) h9) (orcC 8 (x_cat 9 9 (.tmp 10) (.const (.string (bs [46]))) h11) (orcC 11 (x_c0 [(.tmp 13)] [2] (impl_dec.ok a1.C) h13) (orcC 12 (x_cat 9 9 (.tmp 11) (.tmp 14) h15) orcN))))))) ?_
  exact J_r1 rfl

noncomputable def c180 : Code := (Tryz.f180.body).getD .skip

theorem impl_Pack_path.ok (a1 : Pack) : Ok Tryz.prog 180 [.ag (Pack.enc false a1)] [] ((impl_Pack_path a1).map fun r => (sv r, [])) := by
  refine Ok_of3 c180 Tryz.f180 0 11 (fun q => ?_)
  unfold impl_Pack_path
  refine J_g 2 [(0, 0)] [(1, pp 0)] [(0, .box (Pack.enc false a1))] orcN ?_
  refine J_bind (fun x2 h3 => ?_)
  refine J_bind (fun x4 h5 => ?_)
  refine J_bind (fun x6 h7 => ?_)
  refine J_bind (fun x8 h9 => ?_)
  refine J_g 6 [] [(2, sv x8)] [] (orcC 2 (x_cat 9 9 (.const (.string (bs [112, 107, 103, 47]))) (.tmp 4) h3) (orcC 3 (x_cat 9 9 (.tmp 5) (.const (.string (bs [45]))) h5) (orcC 6 (x_c0 [(.tmp 8)] [99] (impl_Version_text.ok a1.Version) h7) (orcC 7 (x_cat 9 9 (.tmp 6) (.tmp 9) h9) orcN)))) ?_
  exact J_r1 rfl

noncomputable def c182 : Code := (Tryz.f182.body).getD .skip

theorem impl_Pack_bytes_l2.ok (a1 : Pack) (q : Wd) (kn : (List Int) → Option (D × List Ent)) (hk : ∀ v : (List Int), J (q.g Tryz.prog 182 0 47) c182 (atI c182 63) (St.mk' [(5, rr 1 v)] [(1, rE 1 eU8 v)]) (some v) kn) :
    ∀ s13 : (Int × (List Int) × Int), J (q.g Tryz.prog 182 0 47) c182 (atI c182 500) (St.mk' [(3, uv s13.1), (5, rr 1 s13.2.1), (35, iv a1.Size), (36, iv s13.2.2)] [(1, rE 1 eU8 s13.2.1)]) (impl_Pack_bytes_l2 a1 s13) kn := by
  refine J_lp (fun g ih s13 => ?_)
  unfold impl_Pack_bytes_l2b
  refine J_g 1000 [] [(3, uv s13.1), (5, rr 1 s13.2.1), (35, iv a1.Size), (36, iv s13.2.2), (37, bv (decide (s13.2.2 < a1.Size)))] [(1, rE 1 eU8 s13.2.1)] orcN ?_
  refine J_if2 37 (fun h14 => ?_) (fun h14 => ?_)
  · refine J_bind (fun x15 h16 => ?_)
    refine J_g 16024 [] [(3, uv s13.1), (5, rr 3 x15), (35, iv a1.Size), (36, iv s13.2.2)] [(3, rE 1 eU8 x15)] (orcC 2 (x_bp 121 5 1 2 eU8 [s13.1] [0] [(.tmp 39)] [uv s13.1]) (orcC 3 (x_ap 121 121 5 5 1 1 3 1 2 eU8 (.tmp 38) (.tmp 40) h16) orcN)) ?_
    refine J_g 16025 [] [(3, uv (IntKind.u8.wrap ((IntKind.u8.wrap (31 * s13.1)) + 7))), (5, rr 3 x15), (35, iv a1.Size), (36, iv s13.2.2)] [(3, rE 1 eU8 x15)] orcN ?_
    refine J_g 4007 [] [(3, uv (IntKind.u8.wrap ((IntKind.u8.wrap (31 * s13.1)) + 7))), (5, rr 3 x15), (35, iv a1.Size), (36, iv (w64 (s13.2.2 + 1)))] [(3, rE 1 eU8 x15)] orcN ?_
    refine J_ren 3 1 (Nat.le_of_ble_eq_true rfl) (Nat.le_of_ble_eq_true rfl) ?_
    exact J_q (J_b (ih (IntKind.u8.wrap ((IntKind.u8.wrap (31 * s13.1)) + 7), x15, w64 (s13.2.2 + 1)))) rfl
  · exact J_qw (hk s13.2.1) rfl

theorem impl_Pack_bytes_l1.ok (a1 : Pack) (q : Wd) (kn : Int → Option (D × List Ent)) (hk : ∀ v : Int, J (q.g Tryz.prog 182 0 47) c182 (atI c182 15) (St.mk' [(1, pp 0), (3, uv v)] [(0, .box (Pack.enc false a1))]) (some v) kn) :
    ∀ s5 : (Int × Int), J (q.g Tryz.prog 182 0 47) c182 (atI c182 116) (St.mk' [(1, pp 0), (3, uv s5.1), (22, iv (a1.Name.size : Int)), (23, iv s5.2)] [(0, .box (Pack.enc false a1))]) (impl_Pack_bytes_l1 a1 s5) kn := by
  refine J_lp (fun g ih s5 => ?_)
  unfold impl_Pack_bytes_l1b
  refine J_g 232 [] [(1, pp 0), (3, uv s5.1), (22, iv (a1.Name.size : Int)), (23, iv s5.2), (24, bv (decide (s5.2 < (a1.Name.size : Int))))] [(0, .box (Pack.enc false a1))] orcN ?_
  refine J_if2 24 (fun h6 => ?_) (fun h6 => ?_)
  · refine J_g 3736 [] [(1, pp 0), (3, uv s5.1), (4, iv s5.2), (22, iv (a1.Name.size : Int)), (23, iv s5.2)] [(0, .box (Pack.enc false a1))] orcN ?_
    refine J_bind (fun x7 h8 => ?_)
    refine J_g 3737 [] [(1, pp 0), (3, uv (IntKind.u8.wrap (s5.1 + x7))), (22, iv (a1.Name.size : Int)), (23, iv s5.2)] [(0, .box (Pack.enc false a1))] (orcC 4 (x_bi (kk := .i64) 9 (.tmp 28) (.tmp 29) h8) orcN) ?_
    refine J_g 935 [] [(1, pp 0), (3, uv (IntKind.u8.wrap (s5.1 + x7))), (22, iv (a1.Name.size : Int)), (23, iv (w64 (s5.2 + 1)))] [(0, .box (Pack.enc false a1))] orcN ?_
    exact J_q (J_b (ih (IntKind.u8.wrap (s5.1 + x7), w64 (s5.2 + 1)))) rfl
  · exact J_qw (hk s5.1) rfl

theorem impl_Pack_bytes.ok (a1 : Pack) : Ok Tryz.prog 182 [.ag (Pack.enc false a1)] [] ((impl_Pack_bytes a1).map fun r => (so 1 eU8 r, [])) := by
  refine Ok_of3 c182 Tryz.f182 0 47 (fun q => ?_)
  unfold impl_Pack_bytes
  refine J_g 2 [(0, 0)] [(1, pp 0)] [(0, .box (Pack.enc false a1))] orcN ?_
  refine J_g 6 [] [(1, pp 0), (3, uv (IntKind.u8.wrap ((IntKind.u8.wrap ((IntKind.u8.wrap (a1.Version.A)) + (IntKind.u8.wrap (a1.Version.B)))) + (IntKind.u8.wrap (a1.Version.C)))))] [(0, .box (Pack.enc false a1))] orcN ?_
  refine J_g 28 [] [(1, pp 0), (3, uv (IntKind.u8.wrap ((IntKind.u8.wrap ((IntKind.u8.wrap (a1.Version.A)) + (IntKind.u8.wrap (a1.Version.B)))) + (IntKind.u8.wrap (a1.Version.C))))), (22, iv (a1.Name.size : Int)), (23, iv 0)] [(0, .box (Pack.enc false a1))] orcN ?_
  refine J_lq (impl_Pack_bytes_l1.ok a1 q _ (fun v9 => J_j ?_) (IntKind.u8.wrap ((IntKind.u8.wrap ((IntKind.u8.wrap (a1.Version.A)) + (IntKind.u8.wrap (a1.Version.B)))) + (IntKind.u8.wrap (a1.Version.C))), 0))
  refine J_g 30 [] [(1, pp 0), (3, uv v9), (5, rr 1 ([] : List Int))] [(0, .box (Pack.enc false a1)), (1, rE 1 eU8 ([] : List Int))] (orcC 0 (x_bp 121 5 1 1 eU8 ([] : List Int) [] [] []) orcN) ?_
  refine J_g 124 [] [(3, uv v9), (5, rr 1 ([] : List Int)), (35, iv a1.Size), (36, iv 0)] [(1, rE 1 eU8 ([] : List Int))] orcN ?_
  refine J_lq (impl_Pack_bytes_l2.ok a1 q _ (fun v17 => J_j ?_) (v9, ([] : List Int), 0))
  refine J_g 126 [] [(2, rr 1 v17)] [(1, rE 1 eU8 v17)] orcN ?_
  exact J_rm (ds := [rr 1 v17]) (ds' := [so 1 eU8 v17]) (.cons (.cell (.move (.head _) (List.length_map _) (by decide) (.nil))) (.nil) (by decide)) rfl

noncomputable def c181 : Code := (Tryz.f181.body).getD .skip

theorem slices_Equal_Lbyte_l1.ok (a1 : (List Int)) (a2 : (List Int)) (q : Wd) (kn : Unit → Option (D × List Ent)) (hk : ∀ v : Unit, J (q.g Tryz.prog 181 0 26) c181 (atI c181 15) (St.mk' [] []) (some v) kn) :
    ∀ s10 : Int, J (q.g Tryz.prog 181 0 26) c181 (atI c181 116) (St.mk' [(0, sl 1 eU8 a1), (1, sl 1 eU8 a2), (12, iv (a1.length : Int)), (13, iv s10)] []) (slices_Equal_Lbyte_l1 a1 a2 s10) (Fl.go (fun r : Bool => some (bv r, [])) kn) := by
  refine J_lp (fun g ih s10 => ?_)
  unfold slices_Equal_Lbyte_l1b
  refine J_g 232 [] [(0, sl 1 eU8 a1), (1, sl 1 eU8 a2), (12, iv (a1.length : Int)), (13, iv s10), (14, bv (decide (s10 < (a1.length : Int))))] [] orcN ?_
  refine J_if2 14 (fun h11 => ?_) (fun h11 => ?_)
  · refine J_g 3736 [] [(0, sl 1 eU8 a1), (1, sl 1 eU8 a2), (5, iv s10), (12, iv (a1.length : Int)), (13, iv s10)] [] orcN ?_
    refine J_bind (fun x12 h13 => ?_)
    refine J_bind (fun x14 h15 => ?_)
    refine J_g 7474 [] [(0, sl 1 eU8 a1), (1, sl 1 eU8 a2), (12, iv (a1.length : Int)), (13, iv s10), (24, bv (x12 != x14))] [] (orcC 2 (x_ix (kk := .i64) 121 5 1 eU8 (.tmp 16) (.tmp 17) h13) (orcC 6 (x_ix (kk := .i64) 121 5 1 eU8 (.tmp 20) (.tmp 21) h15) orcN)) ?_
    refine J_if2 24 (fun h16 => ?_) (fun h16 => ?_)
    · refine J_g 29900 [] [(4, bv false)] [] orcN ?_
      exact J_r1 rfl
    · refine J_g 935 [] [(0, sl 1 eU8 a1), (1, sl 1 eU8 a2), (12, iv (a1.length : Int)), (13, iv (w64 (s10 + 1)))] [] orcN ?_
      exact J_q (J_b (ih (w64 (s10 + 1)))) rfl
  · exact J_qw (hk ()) rfl

theorem slices_Equal_Lbyte.ok (a1 : (List Int)) (a2 : (List Int)) : Ok Tryz.prog 181 [sl 1 eU8 a1, sl 1 eU8 a2] [] ((slices_Equal_Lbyte a1 a2).map fun r => (bv r, [])) := by
  refine Ok_of3 c181 Tryz.f181 0 26 (fun q => ?_)
  unfold slices_Equal_Lbyte
  refine J_g 2 [] [(0, sl 1 eU8 a1), (1, sl 1 eU8 a2)] [] orcN ?_
  refine J_g 12 [] [(0, sl 1 eU8 a1), (1, sl 1 eU8 a2), (10, bv ((a1.length : Int) != (a2.length : Int)))] [] orcN ?_
  refine J_if2 10 (fun h3 => ?_) (fun h3 => ?_)
  · refine J_g 52 [] [(4, bv false)] [] orcN ?_
    exact J_r1 rfl
  · refine J_g 28 [] [(0, sl 1 eU8 a1), (1, sl 1 eU8 a2), (12, iv (a1.length : Int)), (13, iv 0)] [] orcN ?_
    refine J_lqF (K0 := (fun r : Bool => some (bv r, []))) (fun _ => rfl) (slices_Equal_Lbyte_l1.ok a1 a2 q _ (fun v17 => J_j ?_) 0)
    refine J_g 30 [] [(4, bv true)] [] orcN ?_
    exact J_r1 rfl

noncomputable def c179 : Code := (Tryz.f179.body).getD .skip

theorem impl_lacking_1.ok (a1 : Int) (a2 : Disk) (a3 : (List Pack)) : Ok Tryz.prog 179 [iv a1, pp 0, pp 1] [.box (Disk.enc false a2), .box [sl 8 (Pack.enc false) a3]] ((impl_lacking_1 a1 a2 a3).map fun r => (bv r, [.box (Disk.enc false a2), .box [sl 8 (Pack.enc false) a3]])) := by
  refine Ok_of3 c179 Tryz.f179 2 29 (fun q => ?_)
  unfold impl_lacking_1
  refine J_g 2 [] [(0, iv a1), (1, pp 0), (2, pp 1)] [(0, .box (Disk.enc false a2)), (1, .box [sl 8 (Pack.enc false) a3])] orcN ?_
  refine J_bind (fun x4 h5 => ?_)
  refine J_bind (fun x6 h7 => ?_)
  refine J_bind (fun x8 h9 => ?_)
  refine J_g 6 [] [(0, iv a1), (2, pp 1), (5, sl 1 eU8 x8.1), (6, bv x8.2)] [(0, .box (Disk.enc false a2)), (1, .box [sl 8 (Pack.enc false) a3])] (orcC 3 (x_ix (kk := .i64) 30 102 8 (Pack.enc false) (.tmp 9) (.tmp 10) h5) (orcC 5 (x_c0 [(.tmp 12)] [102] (impl_Pack_path.ok x4) h7) (orcC 6 (x_c0 [(.tmp 8), (.tmp 13)] [33, 9] (impl_Disk_data.ok a2 x6) h9) orcN))) ?_
  refine J_ite (fun h10 => ?_) (fun h10 => ?_)
  · refine J_g 14 [] [(4, bv true)] [(0, .box (Disk.enc false a2)), (1, .box [sl 8 (Pack.enc false) a3])] (orcL 2 [(18, bv (!x8.2))] [] h10 orcN) ?_
    exact J_r1 rfl
  · refine J_bind (fun x11 h12 => ?_)
    refine J_bind (fun x13 h14 => ?_)
    refine J_bind (fun x15 h16 => ?_)
    refine J_g 14 [] [(4, bv (!x15))] [(0, .box (Disk.enc false a2)), (1, .box [sl 8 (Pack.enc false) a3])] (orcL 2 [(18, bv (!x8.2))] [] h10 (orcH 6 2 19 false (x_ix (kk := .i64) 30 102 8 (Pack.enc false) (.tmp 21) (.tmp 22) h12) (orcH 8 2 19 false (x_c1 («as» := [.ag (Pack.enc false x11)]) [(.tmp 24)] [102] false [] [] (.cons (.same rfl) (.nil)) (impl_Pack_bytes.ok x11) h14 (.own 2)) (orcH 9 2 19 false (x_c1 («as» := [sl 1 eU8 x8.1, rr 2 x13]) [(.tmp 20), (.tmp 25)] [121, 121] true [(2, rE 1 eU8 x13)] [] (.cons (.same rfl) (.cons (am_b (.head _) (fun _ => rfl) rfl) (.nil))) (slices_Equal_Lbyte.ok x8.1 x13) h16 (.same rfl rfl) (hbor := fun _ => ⟨rfl, flat_sc⟩)) orcN)))) ?_
    exact J_r1 rfl

noncomputable def c251 : Code := (Tryz.f251.body).getD .skip

theorem impl_those_1_impl_lacking_1.ok (a1 : Int) (a2 : Disk) (a3 : (List Pack)) : Ok Tryz.prog 251 [iv a1, .pb [.fn 179 [pp 0, pp 1]]] [.box (Disk.enc false a2), .box [sl 8 (Pack.enc false) a3]] ((impl_those_1_impl_lacking_1 a1 a2 a3).map fun r => (bv r, [.box (Disk.enc false a2), .box [sl 8 (Pack.enc false) a3]])) := by
  refine Ok_of3 c251 Tryz.f251 2 8 (fun q => ?_)
  unfold impl_those_1_impl_lacking_1
  refine J_g 2 [] [(0, iv a1), (1, .pb [.fn 179 [pp 0, pp 1]])] [(0, .box (Disk.enc false a2)), (1, .box [sl 8 (Pack.enc false) a3])] orcN ?_
  refine J_bind (fun x4 h5 => ?_)
  refine J_g 6 [] [(3, bv (!x4))] [(0, .box (Disk.enc false a2)), (1, .box [sl 8 (Pack.enc false) a3])] (orcC 0 (x_ldpb (d := .fn 179 [pp 0, pp 1]) 174 (.tmp 1) [.fn 179 [pp 0, pp 1]]) (orcC 2 (x_ro [(0, .box (Disk.enc false a2)), (1, .box [sl 8 (Pack.enc false) a3])] [] (x_c1v 4 [(.tmp 5)] [2] false [(0, .box (Disk.enc false a2)), (1, .box [sl 8 (Pack.enc false) a3])] [0, 1] [iv a1] [pp 0, pp 1] (.cons (.same rfl) (.cons (.pt rfl) (.cons (.pt rfl) (.nil)))) (impl_lacking_1.ok a1 a2 a3) h5 (.same rfl rfl))) orcN)) ?_
  exact J_r1 rfl

theorem slices_IndexFunc_Lint64r_impl_those_1_impl_lacking_1_l1.ok (a1 : (List Int)) (a2 : Disk) (a3 : (List Pack)) (q : Wd) (kn : Unit → Option (D × List Ent)) (hk : ∀ v : Unit, J (q.g Tryz.prog 203 3 19) c203 (atI c203 7) (St.mk' [] [(0, rE 1 eI64 a1), (1, .box (Disk.enc false a2)), (2, .box [sl 8 (Pack.enc false) a3])]) (some v) kn) :
    ∀ s10 : Int, J (q.g Tryz.prog 203 3 19) c203 (atI c203 52) (St.mk' [(0, rr 0 a1), (1, .fn 251 [.pb [.fn 179 [pp 1, pp 2]]]), (7, iv (a1.length : Int)), (8, iv s10)] [(0, rE 1 eI64 a1), (1, .box (Disk.enc false a2)), (2, .box [sl 8 (Pack.enc false) a3])]) (slices_IndexFunc_Lint64r_impl_those_1_impl_lacking_1_l1 a1 a2 a3 s10) (Fl.go (fun r : Int => some (iv r, [rE 1 eI64 a1, .box (Disk.enc false a2), .box [sl 8 (Pack.enc false) a3]])) kn) := by
  refine J_lp (fun g ih s10 => ?_)
  unfold slices_IndexFunc_Lint64r_impl_those_1_impl_lacking_1_l1b
  refine J_g 104 [] [(0, rr 0 a1), (1, .fn 251 [.pb [.fn 179 [pp 1, pp 2]]]), (7, iv (a1.length : Int)), (8, iv s10), (9, bv (decide (s10 < (a1.length : Int))))] [(0, rE 1 eI64 a1), (1, .box (Disk.enc false a2)), (2, .box [sl 8 (Pack.enc false) a3])] orcN ?_
  refine J_if2 9 (fun h11 => ?_) (fun h11 => ?_)
  · refine J_g 1688 [] [(0, rr 0 a1), (1, .fn 251 [.pb [.fn 179 [pp 1, pp 2]]]), (5, iv s10), (7, iv (a1.length : Int)), (8, iv s10)] [(0, rE 1 eI64 a1), (1, .box (Disk.enc false a2)), (2, .box [sl 8 (Pack.enc false) a3])] orcN ?_
    refine J_bind (fun x12 h13 => ?_)
    refine J_bind (fun x14 h15 => ?_)
    refine J_g 3378 [] [(0, rr 0 a1), (1, .fn 251 [.pb [.fn 179 [pp 1, pp 2]]]), (5, iv s10), (7, iv (a1.length : Int)), (8, iv s10), (16, bv x14)] [(0, rE 1 eI64 a1), (1, .box (Disk.enc false a2)), (2, .box [sl 8 (Pack.enc false) a3])] (orcC 3 (x_ixr (kk := .i64) 39 2 1 0 eI64 (.tmp 12) (.tmp 13) h13) (orcC 4 (x_ldr (d := iv x12) 2 1 0 0 eI64 (.tmp 14) h13 (by kernel_rfl)) (orcC 5 (x_ro [(1, .box (Disk.enc false a2)), (2, .box [sl 8 (Pack.enc false) a3])] [] (x_c1v 11 [(.tmp 15)] [2] false [(1, .box (Disk.enc false a2)), (2, .box [sl 8 (Pack.enc false) a3])] [1, 2] [iv x12] [.pb [.fn 179 [pp 1, pp 2]]] (.cons (.same rfl) (.cons (.pb (.cons (.fn (.cons (.pt rfl) (.cons (.pt rfl) (.nil)))) (.nil))) (.nil))) (impl_those_1_impl_lacking_1.ok x12 a2 a3) h15 (.same rfl rfl))) orcN))) ?_
    refine J_if2 16 (fun h16 => ?_) (fun h16 => ?_)
    · refine J_g 13516 [] [(4, iv s10)] [(0, rE 1 eI64 a1), (1, .box (Disk.enc false a2)), (2, .box [sl 8 (Pack.enc false) a3])] orcN ?_
      exact J_r1 rfl
    · refine J_g 423 [] [(0, rr 0 a1), (1, .fn 251 [.pb [.fn 179 [pp 1, pp 2]]]), (7, iv (a1.length : Int)), (8, iv (w64 (s10 + 1)))] [(0, rE 1 eI64 a1), (1, .box (Disk.enc false a2)), (2, .box [sl 8 (Pack.enc false) a3])] orcN ?_
      exact J_q (J_b (ih (w64 (s10 + 1)))) rfl
  · exact J_qw (hk ()) rfl

theorem slices_IndexFunc_Lint64r_impl_those_1_impl_lacking_1.ok (a1 : (List Int)) (a2 : Disk) (a3 : (List Pack)) : Ok Tryz.prog 203 [rr 0 a1, .fn 251 [.pb [.fn 179 [pp 1, pp 2]]]] [rE 1 eI64 a1, .box (Disk.enc false a2), .box [sl 8 (Pack.enc false) a3]] ((slices_IndexFunc_Lint64r_impl_those_1_impl_lacking_1 a1 a2 a3).map fun r => (iv r, [rE 1 eI64 a1, .box (Disk.enc false a2), .box [sl 8 (Pack.enc false) a3]])) := by
  refine Ok_of3 c203 Tryz.f203 3 19 (fun q => ?_)
  unfold slices_IndexFunc_Lint64r_impl_those_1_impl_lacking_1
  refine J_g 2 [] [(0, rr 0 a1), (1, .fn 251 [.pb [.fn 179 [pp 1, pp 2]]])] [(0, rE 1 eI64 a1), (1, .box (Disk.enc false a2)), (2, .box [sl 8 (Pack.enc false) a3])] orcN ?_
  refine J_g 12 [] [(0, rr 0 a1), (1, .fn 251 [.pb [.fn 179 [pp 1, pp 2]]]), (7, iv (a1.length : Int)), (8, iv 0)] [(0, rE 1 eI64 a1), (1, .box (Disk.enc false a2)), (2, .box [sl 8 (Pack.enc false) a3])] orcN ?_
  refine J_lqF (K0 := (fun r : Int => some (iv r, [rE 1 eI64 a1, .box (Disk.enc false a2), .box [sl 8 (Pack.enc false) a3]]))) (fun _ => rfl) (slices_IndexFunc_Lint64r_impl_those_1_impl_lacking_1_l1.ok a1 a2 a3 q _ (fun v17 => J_j ?_) 0)
  refine J_g 14 [] [(4, iv (-1))] [(0, rE 1 eI64 a1), (1, .box (Disk.enc false a2)), (2, .box [sl 8 (Pack.enc false) a3])] orcN ?_
  exact J_r1 rfl

noncomputable def c250 : Code := (Tryz.f250.body).getD .skip

theorem slices_DeleteFunc_Lint64r_impl_those_1_impl_lacking_1_l1.ok (a2 : Disk) (a3 : (List Pack)) (q : Wd) (kn : ((List Int) × Int) → Option (D × List Ent)) (hk : ∀ v : ((List Int) × Int), J (q.g Tryz.prog 250 3 42) c250 (atI c250 31) (St.mk' [(0, rr 2 v.1), (5, iv v.2)] [(0, .box (Disk.enc false a2)), (1, .box [sl 8 (Pack.enc false) a3]), (2, rE 1 eI64 v.1)]) (some v) kn) :
    ∀ s16 : ((List Int) × Int × Int), J (q.g Tryz.prog 250 3 42) c250 (atI c250 244) (St.mk' [(0, rr 2 s16.1), (1, .fn 251 [.pb [.fn 179 [pp 0, pp 1]]]), (5, iv s16.2.1), (6, iv s16.2.2)] [(0, .box (Disk.enc false a2)), (1, .box [sl 8 (Pack.enc false) a3]), (2, rE 1 eI64 s16.1)]) (slices_DeleteFunc_Lint64r_impl_those_1_impl_lacking_1_l1 a2 a3 s16) kn := by
  refine J_lp (fun g ih s16 => ?_)
  unfold slices_DeleteFunc_Lint64r_impl_those_1_impl_lacking_1_l1b
  refine J_g 976 [] [(0, rr 2 s16.1), (1, .fn 251 [.pb [.fn 179 [pp 0, pp 1]]]), (5, iv s16.2.1), (6, iv s16.2.2), (19, bv (decide (s16.2.2 < (s16.1.length : Int))))] [(0, .box (Disk.enc false a2)), (1, .box [sl 8 (Pack.enc false) a3]), (2, rE 1 eI64 s16.1)] orcN ?_
  refine J_if2 19 (fun h17 => ?_) (fun h17 => ?_)
  · refine J_bind (fun x18 h19 => ?_)
    refine J_g 3912 [] [(0, rr 2 s16.1), (1, .fn 251 [.pb [.fn 179 [pp 0, pp 1]]]), (5, iv s16.2.1), (6, iv s16.2.2), (7, iv x18)] [(0, .box (Disk.enc false a2)), (1, .box [sl 8 (Pack.enc false) a3]), (2, rE 1 eI64 s16.1)] (orcC 2 (x_ixr (kk := .i64) 39 2 1 2 eI64 (.tmp 22) (.tmp 23) h19) (orcC 3 (x_ldr (d := iv x18) 2 1 2 0 eI64 (.tmp 24) h19 (by kernel_rfl)) orcN)) ?_
    refine J_bind (fun x20 h21 => ?_)
    refine J_g 7826 [] [(0, rr 2 s16.1), (1, .fn 251 [.pb [.fn 179 [pp 0, pp 1]]]), (5, iv s16.2.1), (6, iv s16.2.2), (7, iv x18), (29, bv (!x20))] [(0, .box (Disk.enc false a2)), (1, .box [sl 8 (Pack.enc false) a3]), (2, rE 1 eI64 s16.1)] (orcC 2 (x_ro [(0, .box (Disk.enc false a2)), (1, .box [sl 8 (Pack.enc false) a3])] [] (x_c1v 26 [(.tmp 27)] [2] false [(0, .box (Disk.enc false a2)), (1, .box [sl 8 (Pack.enc false) a3])] [0, 1] [iv x18] [.pb [.fn 179 [pp 0, pp 1]]] (.cons (.same rfl) (.cons (.pb (.cons (.fn (.cons (.pt rfl) (.cons (.pt rfl) (.nil)))) (.nil))) (.nil))) (impl_those_1_impl_lacking_1.ok x18 a2 a3) h21 (.same rfl rfl))) orcN) ?_
    refine J_join (aft c250 1956) (fun v25 : ((List Int) × Int) => St.mk' [(0, rr 2 v25.1), (1, .fn 251 [.pb [.fn 179 [pp 0, pp 1]]]), (5, iv v25.2), (6, iv s16.2.2)] [(0, .box (Disk.enc false a2)), (1, .box [sl 8 (Pack.enc false) a3]), (2, rE 1 eI64 v25.1)]) (fun v25 => ?_) (fun jv25 => ?_)
    · refine J_g 979 [] [(0, rr 2 v25.1), (1, .fn 251 [.pb [.fn 179 [pp 0, pp 1]]]), (5, iv v25.2), (6, iv (w64 (s16.2.2 + 1)))] [(0, .box (Disk.enc false a2)), (1, .box [sl 8 (Pack.enc false) a3]), (2, rE 1 eI64 v25.1)] orcN ?_
      exact J_q (J_b (ih (v25.1, v25.2, w64 (s16.2.2 + 1)))) rfl
    · refine J_if2 29 (fun h22 => ?_) (fun h22 => ?_)
      · refine J_bind (fun x23 h24 => ?_)
        refine J_g 31308 [] [(0, rr 2 s16.1), (1, .fn 251 [.pb [.fn 179 [pp 0, pp 1]]]), (5, iv s16.2.1), (6, iv s16.2.2)] [(0, .box (Disk.enc false a2)), (1, .box [sl 8 (Pack.enc false) a3]), (2, rE 1 eI64 (s16.1.set s16.2.1.toNat x18))] (orcC 3 (x_ixr (kk := .i64) 39 2 1 2 eI64 (.tmp 30) (.tmp 31) h24) (orcD 4 (x_st (b := x18) 2 1 2 0 eI64 (iv x18) (.tmp 33) (.tmp 32) h24 rfl) orcN)) ?_
        refine J_st (σ' := St.mk' [(0, rr 2 (s16.1.set s16.2.1.toNat x18)), (1, .fn 251 [.pb [.fn 179 [pp 0, pp 1]]]), (5, iv s16.2.1), (6, iv s16.2.2)] [(0, .box (Disk.enc false a2)), (1, .box [sl 8 (Pack.enc false) a3]), (2, rE 1 eI64 (s16.1.set s16.2.1.toNat x18))]) (by simp only [rr, List.length_set]) ?_
        refine J_g 31309 [] [(0, rr 2 (s16.1.set s16.2.1.toNat x18)), (1, .fn 251 [.pb [.fn 179 [pp 0, pp 1]]]), (5, iv (w64 (s16.2.1 + 1))), (6, iv s16.2.2)] [(0, .box (Disk.enc false a2)), (1, .box [sl 8 (Pack.enc false) a3]), (2, rE 1 eI64 (s16.1.set s16.2.1.toNat x18))] orcN ?_
        exact J_qw (J_j (jv25 (s16.1.set s16.2.1.toNat x18, w64 (s16.2.1 + 1)))) rfl
      · exact J_qw (J_j (jv25 (s16.1, s16.2.1))) rfl
  · exact J_qw (hk (s16.1, s16.2.1)) rfl

theorem slices_DeleteFunc_Lint64r_impl_those_1_impl_lacking_1.ok (a1 : (List Int)) (a2 : Disk) (a3 : (List Pack)) : Ok Tryz.prog 250 [rr 2 a1, .fn 251 [.pb [.fn 179 [pp 0, pp 1]]]] [.box (Disk.enc false a2), .box [sl 8 (Pack.enc false) a3], rE 1 eI64 a1] ((slices_DeleteFunc_Lint64r_impl_those_1_impl_lacking_1 a1 a2 a3).map fun r => (so 1 eI64 r, [.box (Disk.enc false a2), .box [sl 8 (Pack.enc false) a3]])) := by
  refine Ok_of3 c250 Tryz.f250 3 42 (fun q => ?_)
  unfold slices_DeleteFunc_Lint64r_impl_those_1_impl_lacking_1
  refine J_g 2 [] [(0, rr 2 a1), (1, .fn 251 [.pb [.fn 179 [pp 0, pp 1]]])] [(0, .box (Disk.enc false a2)), (1, .box [sl 8 (Pack.enc false) a3]), (2, rE 1 eI64 a1)] orcN ?_
  refine J_bind (fun x4 h5 => ?_)
  refine J_g 6 [] [(0, rr 2 a1), (1, .fn 251 [.pb [.fn 179 [pp 0, pp 1]]]), (5, iv x4)] [(0, .box (Disk.enc false a2)), (1, .box [sl 8 (Pack.enc false) a3]), (2, rE 1 eI64 a1)] (orcC 2 (x_ro [(2, rE 1 eI64 a1), (0, .box (Disk.enc false a2)), (1, .box [sl 8 (Pack.enc false) a3])] [] (x_c1 («as» := [rr 2 a1, .fn 251 [.pb [.fn 179 [pp 0, pp 1]]]]) [(.tmp 8), (.tmp 9)] [39, 174] false [(2, rE 1 eI64 a1), (0, .box (Disk.enc false a2)), (1, .box [sl 8 (Pack.enc false) a3])] [2, 0, 1] (.cons (.rf rfl) (.cons (.fn (.cons (.pb (.cons (.fn (.cons (.pt rfl) (.cons (.pt rfl) (.nil)))) (.nil))) (.nil))) (.nil))) (slices_IndexFunc_Lint64r_impl_those_1_impl_lacking_1.ok a1 a2 a3) h5 (.same rfl rfl))) orcN) ?_
  refine J_g 28 [] [(0, rr 2 a1), (1, .fn 251 [.pb [.fn 179 [pp 0, pp 1]]]), (5, iv x4), (12, bv (x4 == (-1)))] [(0, .box (Disk.enc false a2)), (1, .box [sl 8 (Pack.enc false) a3]), (2, rE 1 eI64 a1)] orcN ?_
  refine J_if2 12 (fun h6 => ?_) (fun h6 => ?_)
  · refine J_g 116 [] [(4, rr 2 a1)] [(0, .box (Disk.enc false a2)), (1, .box [sl 8 (Pack.enc false) a3]), (2, rE 1 eI64 a1)] orcN ?_
    exact J_rm (ds := [rr 2 a1]) (ds' := [so 1 eI64 a1]) (.cons (.cell (.move (.tail _ (.tail _ (.head _))) (List.length_map _) (by decide) (.nil))) (.nil) (by decide)) rfl
  · refine J_g 60 [] [(0, rr 2 a1), (1, .fn 251 [.pb [.fn 179 [pp 0, pp 1]]]), (5, iv x4), (6, iv (w64 (x4 + 1)))] [(0, .box (Disk.enc false a2)), (1, .box [sl 8 (Pack.enc false) a3]), (2, rE 1 eI64 a1)] orcN ?_
    refine J_lq (slices_DeleteFunc_Lint64r_impl_those_1_impl_lacking_1_l1.ok a2 a3 q _ (fun v26 => J_j ?_) (a1, x4, w64 (x4 + 1)))
    refine J_bind (fun x27 h28 => ?_)
    refine J_bind (fun x29 h30 => ?_)
    refine J_g 62 [] [(0, rr 2 v26.1), (5, iv v26.2)] [(0, .box (Disk.enc false a2)), (1, .box [sl 8 (Pack.enc false) a3]), (2, rE 1 eI64 x29)] (orcC 2 (x_slr 39 2 1 2 eI64 (.tmp 36) (some (.tmp 37)) none h28) (orcD 3 (x_clr (l := v26.2) (a := 0) 39 2 1 2 eI64 (.tmp 38) h30 (.keep rfl (.nil))) orcN)) ?_
    refine J_st (σ' := St.mk' [(0, rr 2 x29), (5, iv v26.2)] [(0, .box (Disk.enc false a2)), (1, .box [sl 8 (Pack.enc false) a3]), (2, rE 1 eI64 x29)]) (by simp only [rr, clrw_len h30]) ?_
    refine J_bind (fun x31 h32 => ?_)
    refine J_g 126 [] [(4, rr 3 x31)] [(0, .box (Disk.enc false a2)), (1, .box [sl 8 (Pack.enc false) a3]), (3, rE 1 eI64 x31)] (orcC 2 (x_cut 39 2 1 2 3 eI64 (.tmp 39) none (some (.tmp 40)) h32) orcN) ?_
    exact J_rm (ds := [rr 3 x31]) (ds' := [so 1 eI64 x31]) (.cons (.cell (.move (.tail _ (.tail _ (.head _))) (List.length_map _) (by decide) (.nil))) (.nil) (by decide)) rfl

noncomputable def c178 : Code := (Tryz.f178.body).getD .skip

theorem impl_those_impl_lacking_1.ok (a1 : (List Int)) (a2 : Disk) (a3 : (List Pack)) : Ok Tryz.prog 178 [sl 1 eI64 a1, .fn 179 [pp 0, pp 1]] [.box (Disk.enc false a2), .box [sl 8 (Pack.enc false) a3]] ((impl_those_impl_lacking_1 a1 a2 a3).map fun r => (so 1 eI64 r, [.box (Disk.enc false a2), .box [sl 8 (Pack.enc false) a3]])) := by
  refine Ok_of3 c178 Tryz.f178 2 9 (fun q => ?_)
  unfold impl_those_impl_lacking_1
  refine J_g 2 [] [(0, sl 1 eI64 a1), (3, .pb [.fn 179 [pp 0, pp 1]])] [(0, .box (Disk.enc false a2)), (1, .box [sl 8 (Pack.enc false) a3])] (orcC 0 (x_boxpb 174 (.tmp 1) (.fn 179 [pp 0, pp 1])) orcN) ?_
  refine J_bind (fun x4 h5 => ?_)
  refine J_bind (fun x6 h7 => ?_)
  refine J_g 6 [] [(4, rr 3 x6)] [(0, .box (Disk.enc false a2)), (1, .box [sl 8 (Pack.enc false) a3]), (3, rE 1 eI64 x6)] (orcC 1 (x_c1 («as» := [sl 1 eI64 a1]) [(.tmp 5)] [39] false [] [] (.cons (.same rfl) (.nil)) (slices_Clone_Lint64.ok a1) h5 (.own 2)) (orcC 3 (x_c1 («as» := [rr 2 x4, .fn 251 [.pb [.fn 179 [pp 0, pp 1]]]]) [(.tmp 6), (.tmp 7)] [39, 174] false [(0, .box (Disk.enc false a2)), (1, .box [sl 8 (Pack.enc false) a3]), (2, rE 1 eI64 x4)] [0, 1, 2] (.cons (.rf rfl) (.cons (.fn (.cons (.pb (.cons (.fn (.cons (.pt rfl) (.cons (.pt rfl) (.nil)))) (.nil))) (.nil))) (.nil))) (slices_DeleteFunc_Lint64r_impl_those_1_impl_lacking_1.ok x4 a2 a3) h7 (.own 3)) orcN)) ?_
  exact J_rm (ds := [rr 3 x6]) (ds' := [so 1 eI64 x6]) (.cons (.cell (.move (.tail _ (.tail _ (.head _))) (List.length_map _) (by decide) (.nil))) (.nil) (by decide)) rfl

noncomputable def c103 : Code := (Tryz.f103.body).getD .skip

theorem impl_lacking.ok (a1 : (List Pack)) (a2 : Disk) (a3 : (List Int)) : Ok Tryz.prog 103 [sl 8 (Pack.enc false) a1, .ag (Disk.enc false a2), sl 1 eI64 a3] [] ((impl_lacking a1 a2 a3).map fun r => (so 1 eI64 r, [])) := by
  refine Ok_of3 c103 Tryz.f103 0 10 (fun q => ?_)
  unfold impl_lacking
  refine J_g 2 [(0, 0), (1, 1)] [(2, sl 1 eI64 a3), (3, pp 0), (4, pp 1)] [(0, .box [sl 8 (Pack.enc false) a1]), (1, .box (Disk.enc false a2))] orcN ?_
  refine J_bind (fun x4 h5 => ?_)
  refine J_g 6 [] [(6, rr 2 x4)] [(2, rE 1 eI64 x4)] (orcC 2 (x_ro [(1, .box (Disk.enc false a2)), (0, .box [sl 8 (Pack.enc false) a1])] [(2, rE 1 eI64 x4)] (x_c1 («as» := [sl 1 eI64 a3, .fn 179 [pp 1, pp 0]]) [(.tmp 7), (.tmp 8)] [39, 174] false [(1, .box (Disk.enc false a2)), (0, .box [sl 8 (Pack.enc false) a1])] [1, 0] (.cons (.same rfl) (.cons (.fn (.cons (.pt rfl) (.cons (.pt rfl) (.nil)))) (.nil))) (impl_those_impl_lacking_1.ok a3 a2 a1) h5 (.own 2))) orcN) ?_
  exact J_rm (ds := [rr 2 x4]) (ds' := [so 1 eI64 x4]) (.cons (.cell (.move (.head _) (List.length_map _) (by decide) (.nil))) (.nil) (by decide)) rfl

noncomputable def c49 : Code := (Tryz.f49.body).getD .skip

theorem impl_isWhole.ok (a1 : (List Pack)) (a2 : Disk) (a3 : (List Int)) : Ok Tryz.prog 49 [sl 8 (Pack.enc false) a1, .ag (Disk.enc false a2), sl 1 eI64 a3] [] ((impl_isWhole a1 a2 a3).map fun r => (bv r, [])) := by
  refine Ok_of3 c49 Tryz.f49 0 18 (fun q => ?_)
  unfold impl_isWhole
  refine J_g 2 [(0, 0)] [(0, sl 8 (Pack.enc false) a1), (2, sl 1 eI64 a3), (4, pp 0)] [(0, .box (Disk.enc false a2))] orcN ?_
  refine J_bind (fun x4 h5 => ?_)
  refine J_ite (fun h6 => ?_) (fun h6 => ?_)
  · refine J_bind (fun x7 h8 => ?_)
    refine J_g 6 [] [(6, bv ((x7.length : Int) == 0))] [] (orcC 2 (x_c0 [(.tmp 7), (.tmp 8)] [30, 39] (impl_consistent.ok a1 a3) h5) (orcL 3 [(9, bv x4)] [] h6 (orcH 7 3 10 true (x_c1 («as» := [sl 8 (Pack.enc false) a1, .ag (Disk.enc false a2), sl 1 eI64 a3]) [(.tmp 11), (.tmp 12), (.tmp 13)] [30, 33, 39] false [] [] (.cons (.same rfl) (.cons (.same rfl) (.cons (.same rfl) (.nil)))) (impl_lacking.ok a1 a2 a3) h8 (.own 1)) orcN))) ?_
    exact J_r1 rfl
  · refine J_g 6 [] [(6, bv false)] [] (orcC 2 (x_c0 [(.tmp 7), (.tmp 8)] [30, 39] (impl_consistent.ok a1 a3) h5) (orcL 3 [(9, bv x4)] [] h6 orcN)) ?_
    exact J_r1 rfl

noncomputable def c185 : Code := (Tryz.f185.body).getD .skip

theorem impl_AnyTerm.ok (a1 : ByteArray) : Ok Tryz.prog 185 [sv a1] [] ((impl_AnyTerm a1).map fun r => (.ag (Term.enc r), [])) := by
  refine Ok_of3 c185 Tryz.f185 0 6 (fun q => ?_)
  unfold impl_AnyTerm
  refine J_g 2 [(0, 0)] [(0, sv a1), (2, pp 0)] [(0, .box [sv ByteArray.empty, iv 0, iv 0, iv 0, iv 0, iv 0, iv 0])] orcN ?_
  refine J_bind (fun x2 h3 => ?_)
  refine J_g 6 [] [(2, pp 0)] [(0, .box [sv a1, iv 0, iv 0, iv 0, iv x2.A, iv x2.B, iv x2.C])] (orcC 1 (x_c0 [] [] (impl_top.ok) h3) orcN) ?_
  exact J_r1 rfl

noncomputable def c255 : Code := (Tryz.f255.body).getD .skip

theorem internal_stringslite_CutPrefix.ok (a1 : ByteArray) (a2 : ByteArray) : Ok Tryz.prog 255 [sv a1, sv a2] [] ((internal_stringslite_CutPrefix a1 a2).map fun r => (.tu [sv r.1, bv r.2], [])) := by
  refine Ok_of3 c255 Tryz.f255 0 15 (fun q => ?_)
  unfold internal_stringslite_CutPrefix
  refine J_g 2 [] [(0, sv a1), (1, sv a2)] [] orcN ?_
  refine J_bind (fun x3 h4 => ?_)
  refine J_g 12 [] [(0, sv a1), (1, sv a2), (9, bv (!x3))] [] (orcC 2 (x_c0 [(.tmp 6), (.tmp 7)] [9, 9] (internal_stringslite_HasPrefix.ok a1 a2) h4) orcN) ?_
  refine J_if2 9 (fun h5 => ?_) (fun h5 => ?_)
  · refine J_g 52 [] [(4, sv a1), (5, bv false)] [] orcN ?_
    exact J_rT rfl
  · refine J_bind (fun x6 h7 => ?_)
    refine J_g 14 [] [(4, sv x6), (5, bv true)] [] (orcC 3 (x_ss 9 (.tmp 11) (some (.tmp 13)) none h7) orcN) ?_
    exact J_rT rfl

noncomputable def c187 : Code := (Tryz.f187.body).getD .skip

theorem strings_CutPrefix.ok (a1 : ByteArray) (a2 : ByteArray) : Ok Tryz.prog 187 [sv a1, sv a2] [] ((strings_CutPrefix a1 a2).map fun r => (.tu [sv r.1, bv r.2], [])) := by
  refine Ok_of3 c187 Tryz.f187 0 11 (fun q => ?_)
  unfold strings_CutPrefix
  refine J_g 2 [] [(0, sv a1), (1, sv a2)] [] orcN ?_
  refine J_bind (fun x3 h4 => ?_)
  refine J_g 6 [] [(4, sv x3.1), (5, bv x3.2)] [] (orcC 2 (x_c0 [(.tmp 6), (.tmp 7)] [9, 9] (internal_stringslite_CutPrefix.ok a1 a2) h4) orcN) ?_
  exact J_rT rfl

theorem strings_IndexByte.ok (a1 : ByteArray) (a2 : Int) : Ok Tryz.prog 188 [sv a1, uv a2] [] ((strings_IndexByte a1 a2).map fun r => (iv r, [])) :=
  Ok_sc (vs := [.string a1, .int .u8 a2]) (fun w => Tryz.strings_IndexByte a1 a2 w)

noncomputable def c106 : Code := (Tryz.f106.body).getD .skip

theorem impl_ParseTerm_l1.ok (a1 : ByteArray) (q : Wd) (kn : Int → Option (D × List Ent)) (hk : ∀ v : Int, J (q.g Tryz.prog 106 0 90) c106 (atI c106 15) (St.mk' [(0, sv a1), (2, pp 0), (3, iv v)] [(0, .box [iv 0, sv ByteArray.empty, iv 0, iv 0, iv 0, iv 0, iv 0, iv 0])]) (some v) kn) :
    ∀ s9 : Int, J (q.g Tryz.prog 106 0 90) c106 (atI c106 56) (St.mk' [(0, sv a1), (2, pp 0), (3, iv s9)] [(0, .box [iv 0, sv ByteArray.empty, iv 0, iv 0, iv 0, iv 0, iv 0, iv 0])]) (impl_ParseTerm_l1 a1 s9) kn := by
  refine J_lp (fun g ih s9 => ?_)
  unfold impl_ParseTerm_l1b
  refine J_join (atI c106 225) (fun v15 : Bool => St.mk' [(0, sv a1), (2, pp 0), (3, iv s9), (23, bv v15)] [(0, .box [iv 0, sv ByteArray.empty, iv 0, iv 0, iv 0, iv 0, iv 0, iv 0])]) (fun v15 => ?_) (fun jv15 => ?_)
  · refine J_if2 23 (fun h16 => ?_) (fun h16 => ?_)
    · refine J_g 226 [] [(0, sv a1), (2, pp 0), (3, iv (w64 (s9 + 1)))] [(0, .box [iv 0, sv ByteArray.empty, iv 0, iv 0, iv 0, iv 0, iv 0, iv 0])] orcN ?_
      exact J_q (J_b (ih (w64 (s9 + 1)))) rfl
    · exact J_qw (hk s9) rfl
  · refine J_ite (fun h10 => ?_) (fun h10 => ?_)
    · refine J_bind (fun x11 h12 => ?_)
      refine J_bind (fun x13 h14 => ?_)
      refine J_g 224 [] [(0, sv a1), (2, pp 0), (3, iv s9), (23, bv x13)] [(0, .box [iv 0, sv ByteArray.empty, iv 0, iv 0, iv 0, iv 0, iv 0, iv 0])] (orcL 4 [(17, bv (decide (s9 < (a1.size : Int))))] [] h10 (orcH 7 4 18 true (x_bi (kk := .i64) 9 (.tmp 19) (.tmp 20) h12) (orcH 8 4 18 true (x_c0 [(.tmp 21)] [5] (impl_isNameByte.ok x11) h14) orcN))) ?_
      exact J_qw (J_j (jv15 x13)) rfl
    · refine J_g 224 [] [(0, sv a1), (2, pp 0), (3, iv s9), (23, bv false)] [(0, .box [iv 0, sv ByteArray.empty, iv 0, iv 0, iv 0, iv 0, iv 0, iv 0])] (orcL 4 [(17, bv (decide (s9 < (a1.size : Int))))] [] h10 orcN) ?_
      exact J_qw (J_j (jv15 false)) rfl

theorem impl_ParseTerm.ok (a1 : ByteArray) : Ok Tryz.prog 106 [sv a1] [] ((impl_ParseTerm a1).map fun r => (.ag (TermResult.enc r), [])) := by
  refine Ok_of3 c106 Tryz.f106 0 90 (fun q => ?_)
  unfold impl_ParseTerm
  refine J_g 2 [(0, 0)] [(0, sv a1), (2, pp 0)] [(0, .box [iv 0, sv ByteArray.empty, iv 0, iv 0, iv 0, iv 0, iv 0, iv 0])] orcN ?_
  refine J_g 6 [] [(0, sv a1), (2, pp 0), (3, iv 0)] [(0, .box [iv 0, sv ByteArray.empty, iv 0, iv 0, iv 0, iv 0, iv 0, iv 0])] orcN ?_
  refine J_lq (impl_ParseTerm_l1.ok a1 q _ (fun v17 => J_j ?_) 0)
  refine J_bind (fun x18 h19 => ?_)
  refine J_bind (fun x20 h21 => ?_)
  refine J_g 30 [(4, 1)] [(0, sv a1), (2, pp 0), (3, iv v17), (4, pp 1)] [(0, .box [iv 0, sv ByteArray.empty, iv 0, iv 0, iv 0, iv 0, iv 0, iv 0]), (1, .box (Term.enc x20))] (orcC 2 (x_ss 9 (.tmp 26) none (some (.tmp 27)) h19) (orcC 3 (x_c0 [(.tmp 28)] [9] (impl_AnyTerm.ok x18) h21) orcN)) ?_
  refine J_bind (fun x22 h23 => ?_)
  refine J_g 62 [] [(2, pp 0), (4, pp 1), (5, sv x22)] [(0, .box [iv 0, sv ByteArray.empty, iv 0, iv 0, iv 0, iv 0, iv 0, iv 0]), (1, .box (Term.enc x20))] (orcC 2 (x_ss 9 (.tmp 30) (some (.tmp 31)) none h23) orcN) ?_
  refine J_bind (fun x24 h25 => ?_)
  refine J_g 252 [] [(2, pp 0), (4, pp 1), (5, sv x22), (36, bv (x24 != 0))] [(0, .box [iv 0, sv ByteArray.empty, iv 0, iv 0, iv 0, iv 0, iv 0, iv 0]), (1, .box (Term.enc x20))] (orcC 2 (x_c0 [(.tmp 34)] [9] (impl_NameFault.ok x20.Name) h25) orcN) ?_
  refine J_if2 36 (fun h26 => ?_) (fun h26 => ?_)
  · refine J_g 1012 [] [(2, pp 0)] [(0, .box [iv 5, sv ByteArray.empty, iv 0, iv 0, iv 0, iv 0, iv 0, iv 0])] orcN ?_
    exact J_r1 rfl
  · refine J_bind (fun x27 h28 => ?_)
    refine J_g 508 [] [(2, pp 0), (4, pp 1), (5, sv x22), (6, sv x27.1), (7, bv x27.2)] [(0, .box [iv 0, sv ByteArray.empty, iv 0, iv 0, iv 0, iv 0, iv 0, iv 0]), (1, .box (Term.enc x20))] (orcC 1 (x_c0 [(.tmp 39), (.const (.string (bs [62, 61])))] [9, 9] (strings_CutPrefix.ok x22 (bs [62, 61])) h28) orcN) ?_
    refine J_g 1018 [] [(2, pp 0), (4, pp 1), (5, sv x22), (6, sv x27.1), (43, bv x27.2)] [(0, .box [iv 0, sv ByteArray.empty, iv 0, iv 0, iv 0, iv 0, iv 0, iv 0]), (1, .box (Term.enc x20))] orcN ?_
    refine J_joinF (atI c106 255) (fun v41 : (Int × Int × Int × ByteArray) => St.mk' [(2, pp 0), (4, pp 1), (5, sv v41.2.2.2)] [(0, .box [iv 0, sv ByteArray.empty, iv 0, iv 0, iv 0, iv 0, iv 0, iv 0]), (1, .box [sv x20.Name, iv v41.1, iv v41.2.1, iv v41.2.2.1, iv x20.High.A, iv x20.High.B, iv x20.High.C])]) (fun v41 => ?_) (fun jv41 => ?_)
    · refine J_bind (fun x42 h43 => ?_)
      refine J_g 1020 [] [(2, pp 0), (4, pp 1), (5, sv v41.2.2.2), (10, sv x42.1), (11, bv x42.2)] [(0, .box [iv 0, sv ByteArray.empty, iv 0, iv 0, iv 0, iv 0, iv 0, iv 0]), (1, .box [sv x20.Name, iv v41.1, iv v41.2.1, iv v41.2.2.1, iv x20.High.A, iv x20.High.B, iv x20.High.C])] (orcC 1 (x_c0 [(.tmp 65), (.const (.string (bs [60])))] [9, 9] (strings_CutPrefix.ok v41.2.2.2 (bs [60])) h43) orcN) ?_
      refine J_g 2042 [] [(2, pp 0), (4, pp 1), (5, sv v41.2.2.2), (10, sv x42.1), (69, bv x42.2)] [(0, .box [iv 0, sv ByteArray.empty, iv 0, iv 0, iv 0, iv 0, iv 0, iv 0]), (1, .box [sv x20.Name, iv v41.1, iv v41.2.1, iv v41.2.2.1, iv x20.High.A, iv x20.High.B, iv x20.High.C])] orcN ?_
      refine J_joinF (atI c106 511) (fun v48 : (Int × Int × Int × ByteArray) => St.mk' [(2, pp 0), (4, pp 1), (5, sv v48.2.2.2)] [(0, .box [iv 0, sv ByteArray.empty, iv 0, iv 0, iv 0, iv 0, iv 0, iv 0]), (1, .box [sv x20.Name, iv v41.1, iv v41.2.1, iv v41.2.2.1, iv v48.1, iv v48.2.1, iv v48.2.2.1])]) (fun v48 => ?_) (fun jv48 => ?_)
      · refine J_g 2044 [] [(2, pp 0), (4, pp 1), (80, bv (!(seq v48.2.2.2 (bs []))))] [(0, .box [iv 0, sv ByteArray.empty, iv 0, iv 0, iv 0, iv 0, iv 0, iv 0]), (1, .box [sv x20.Name, iv v41.1, iv v41.2.1, iv v41.2.2.1, iv v48.1, iv v48.2.1, iv v48.2.2.1])] orcN ?_
        refine J_if2 80 (fun h49 => ?_) (fun h49 => ?_)
        · refine J_g 8180 [] [(2, pp 0)] [(0, .box [iv 5, sv ByteArray.empty, iv 0, iv 0, iv 0, iv 0, iv 0, iv 0])] orcN ?_
          exact J_r1 rfl
        · refine J_bind (fun x50 h51 => ?_)
          refine J_g 4092 [] [(2, pp 0), (4, pp 1), (13, iv x50)] [(0, .box [iv 0, sv ByteArray.empty, iv 0, iv 0, iv 0, iv 0, iv 0, iv 0]), (1, .box [sv x20.Name, iv v41.1, iv v41.2.1, iv v41.2.2.1, iv v48.1, iv v48.2.1, iv v48.2.2.1])] (orcC 1 (x_c0 [(.tmp 82)] [149] (impl_TermFault.ok ({ Name := x20.Name, Low := ({ A := v41.1, B := v41.2.1, C := v41.2.2.1 } : Version), High := ({ A := v48.1, B := v48.2.1, C := v48.2.2.1 } : Version) } : Term)) h51) orcN) ?_
          refine J_g 8186 [] [(2, pp 0), (4, pp 1), (13, iv x50), (85, bv (x50 != 0))] [(0, .box [iv 0, sv ByteArray.empty, iv 0, iv 0, iv 0, iv 0, iv 0, iv 0]), (1, .box [sv x20.Name, iv v41.1, iv v41.2.1, iv v41.2.2.1, iv v48.1, iv v48.2.1, iv v48.2.2.1])] orcN ?_
          refine J_if2 85 (fun h52 => ?_) (fun h52 => ?_)
          · refine J_g 32748 [] [(2, pp 0)] [(0, .box [iv x50, sv ByteArray.empty, iv 0, iv 0, iv 0, iv 0, iv 0, iv 0])] orcN ?_
            exact J_r1 rfl
          · refine J_g 4094 [] [(2, pp 0)] [(0, .box [iv 0, sv x20.Name, iv v41.1, iv v41.2.1, iv v41.2.2.1, iv v48.1, iv v48.2.1, iv v48.2.2.1])] orcN ?_
            exact J_r1 rfl
      · refine J_if2 69 (fun h44 => ?_) (fun h44 => ?_)
        · refine J_bind (fun x45 h46 => ?_)
          refine J_g 8172 [(2, 2)] [(2, pp 0), (4, pp 1), (12, pp 2)] [(0, .box [iv 0, sv ByteArray.empty, iv 0, iv 0, iv 0, iv 0, iv 0, iv 0]), (1, .box [sv x20.Name, iv v41.1, iv v41.2.1, iv v41.2.2.1, iv x20.High.A, iv x20.High.B, iv x20.High.C]), (2, .box (VersionResult.enc x45))] (orcC 1 (x_c0 [(.tmp 70)] [9] (impl_ParseVersion.ok x42.1) h46) orcN) ?_
          refine J_g 32692 [] [(2, pp 0), (4, pp 1), (12, pp 2), (74, bv (x45.Code != 0))] [(0, .box [iv 0, sv ByteArray.empty, iv 0, iv 0, iv 0, iv 0, iv 0, iv 0]), (1, .box [sv x20.Name, iv v41.1, iv v41.2.1, iv v41.2.2.1, iv x20.High.A, iv x20.High.B, iv x20.High.C]), (2, .box (VersionResult.enc x45))] orcN ?_
          refine J_if2 74 (fun h47 => ?_) (fun h47 => ?_)
          · refine J_g 130772 [] [(2, pp 0)] [(0, .box [iv 5, sv ByteArray.empty, iv 0, iv 0, iv 0, iv 0, iv 0, iv 0])] orcN ?_
            exact J_r1 rfl
          · refine J_g 16347 [] [(2, pp 0), (4, pp 1), (5, sv (bs []))] [(0, .box [iv 0, sv ByteArray.empty, iv 0, iv 0, iv 0, iv 0, iv 0, iv 0]), (1, .box [sv x20.Name, iv v41.1, iv v41.2.1, iv v41.2.2.1, iv x45.Version.A, iv x45.Version.B, iv x45.Version.C])] orcN ?_
            exact J_qw (J_j (jv48 (x45.Version.A, x45.Version.B, x45.Version.C, bs []))) rfl
        · exact J_qw (J_j (jv48 (x20.High.A, x20.High.B, x20.High.C, v41.2.2.2))) rfl
    · refine J_if2 43 (fun h29 => ?_) (fun h29 => ?_)
      · refine J_bind (fun x30 h31 => ?_)
        refine J_g 4076 [] [(2, pp 0), (4, pp 1), (6, sv x27.1), (8, iv x30)] [(0, .box [iv 0, sv ByteArray.empty, iv 0, iv 0, iv 0, iv 0, iv 0, iv 0]), (1, .box (Term.enc x20))] (orcC 1 (x_c0 [(.tmp 44), (.const (.int .u8 60))] [9, 5] (strings_IndexByte.ok x27.1 60) h31) orcN) ?_
        refine J_g 16308 [] [(2, pp 0), (4, pp 1), (6, sv x27.1), (8, iv x30), (47, bv (decide (x30 < 0)))] [(0, .box [iv 0, sv ByteArray.empty, iv 0, iv 0, iv 0, iv 0, iv 0, iv 0]), (1, .box (Term.enc x20))] orcN ?_
        refine J_join (atI c106 8155) (fun v33 : Int => St.mk' [(2, pp 0), (4, pp 1), (6, sv x27.1), (8, iv v33)] [(0, .box [iv 0, sv ByteArray.empty, iv 0, iv 0, iv 0, iv 0, iv 0, iv 0]), (1, .box (Term.enc x20))]) (fun v33 => ?_) (fun jv33 => ?_)
        · refine J_bind (fun x34 h35 => ?_)
          refine J_bind (fun x36 h37 => ?_)
          refine J_g 16310 [(4, 2)] [(2, pp 0), (4, pp 1), (6, sv x27.1), (8, iv v33), (9, pp 2)] [(0, .box [iv 0, sv ByteArray.empty, iv 0, iv 0, iv 0, iv 0, iv 0, iv 0]), (1, .box (Term.enc x20)), (2, .box (VersionResult.enc x36))] (orcC 2 (x_ss 9 (.tmp 50) none (some (.tmp 51)) h35) (orcC 3 (x_c0 [(.tmp 52)] [9] (impl_ParseVersion.ok x34) h37) orcN)) ?_
          refine J_g 65244 [] [(2, pp 0), (4, pp 1), (6, sv x27.1), (8, iv v33), (9, pp 2), (56, bv (x36.Code != 0))] [(0, .box [iv 0, sv ByteArray.empty, iv 0, iv 0, iv 0, iv 0, iv 0, iv 0]), (1, .box (Term.enc x20)), (2, .box (VersionResult.enc x36))] orcN ?_
          refine J_if2 56 (fun h38 => ?_) (fun h38 => ?_)
          · refine J_g 260980 [] [(2, pp 0)] [(0, .box [iv 5, sv ByteArray.empty, iv 0, iv 0, iv 0, iv 0, iv 0, iv 0])] orcN ?_
            exact J_r1 rfl
          · refine J_bind (fun x39 h40 => ?_)
            refine J_g 32623 [] [(2, pp 0), (4, pp 1), (5, sv x39)] [(0, .box [iv 0, sv ByteArray.empty, iv 0, iv 0, iv 0, iv 0, iv 0, iv 0]), (1, .box [sv x20.Name, iv x36.Version.A, iv x36.Version.B, iv x36.Version.C, iv x20.High.A, iv x20.High.B, iv x20.High.C])] (orcC 4 (x_ss 9 (.tmp 60) (some (.tmp 61)) none h40) orcN) ?_
            exact J_qw (J_j (jv41 (x36.Version.A, x36.Version.B, x36.Version.C, x39))) rfl
        · refine J_if2 47 (fun h32 => ?_) (fun h32 => ?_)
          · refine J_g 32618 [] [(2, pp 0), (4, pp 1), (6, sv x27.1), (8, iv (x27.1.size : Int))] [(0, .box [iv 0, sv ByteArray.empty, iv 0, iv 0, iv 0, iv 0, iv 0, iv 0]), (1, .box (Term.enc x20))] orcN ?_
            exact J_qw (J_j (jv33 (x27.1.size : Int))) rfl
          · exact J_qw (J_j (jv33 x30)) rfl
      · exact J_qw (J_j (jv41 (x20.Low.A, x20.Low.B, x20.Low.C, x22))) rfl

noncomputable def c192 : Code := (Tryz.f192.body).getD .skip

theorem impl_FormatTerm.ok (a1 : Term) : Ok Tryz.prog 192 [.ag (Term.enc a1)] [] ((impl_FormatTerm a1).map fun r => (sv r, [])) := by
  refine Ok_of3 c192 Tryz.f192 0 30 (fun q => ?_)
  unfold impl_FormatTerm
  refine J_g 2 [(0, 0)] [(1, pp 0)] [(0, .box (Term.enc a1))] orcN ?_
  refine J_bind (fun x2 h3 => ?_)
  refine J_g 12 [] [(1, pp 0), (6, bv (x2 != 0))] [(0, .box (Term.enc a1))] (orcC 1 (x_c0 [(.tmp 4)] [149] (impl_TermFault.ok a1) h3) orcN) ?_
  refine J_if2 6 (fun h4 => ?_) (fun h4 => ?_)
  · refine J_g 52 [] [(2, sv (bs []))] [] orcN ?_
    exact J_r1 rfl
  · refine J_g 14 [] [(1, pp 0), (3, sv a1.Name)] [(0, .box (Term.enc a1))] orcN ?_
    refine J_g 60 [] [(1, pp 0), (3, sv a1.Name), (12, bv (!(a1.Low.A == 0 && (a1.Low.B == 0 && (a1.Low.C == 0 && true)))))] [(0, .box (Term.enc a1))] (orcC 3 (x_seq (b := .neq) (r := (a1.Low.A == 0 && (a1.Low.B == 0 && (a1.Low.C == 0 && true)))) 99 99 (.tmp 10) (.tmp 11) [.int .i64 a1.Low.A, .int .i64 a1.Low.B, .int .i64 a1.Low.C] [.int .i64 0, .int .i64 0, .int .i64 0] (.inr ⟨rfl, rfl⟩)) orcN) ?_
    refine J_join (atI c192 31) (fun v12 : ByteArray => St.mk' [(1, pp 0), (3, sv v12)] [(0, .box (Term.enc a1))]) (fun v12 => ?_) (fun jv12 => ?_)
    · refine J_bind (fun x13 h14 => ?_)
      refine J_g 124 [] [(1, pp 0), (3, sv v12), (22, bv (!(a1.High.A == x13.A && (a1.High.B == x13.B && (a1.High.C == x13.C && true)))))] [(0, .box (Term.enc a1))] (orcC 2 (x_c0 [] [] (impl_top.ok) h14) (orcC 3 (x_seq (b := .neq) (r := (a1.High.A == x13.A && (a1.High.B == x13.B && (a1.High.C == x13.C && true)))) 99 99 (.tmp 20) (.tmp 21) [.int .i64 a1.High.A, .int .i64 a1.High.B, .int .i64 a1.High.C] [.int .i64 x13.A, .int .i64 x13.B, .int .i64 x13.C] (.inr ⟨rfl, rfl⟩)) orcN)) ?_
      refine J_join (atI c192 63) (fun v22 : ByteArray => St.mk' [(3, sv v22)] []) (fun v22 => ?_) (fun jv22 => ?_)
      · refine J_g 126 [] [(2, sv v22)] [] orcN ?_
        exact J_r1 rfl
      · refine J_if2 22 (fun h15 => ?_) (fun h15 => ?_)
        · refine J_bind (fun x16 h17 => ?_)
          refine J_bind (fun x18 h19 => ?_)
          refine J_bind (fun x20 h21 => ?_)
          refine J_g 250 [] [(3, sv x20)] [] (orcC 3 (x_c0 [(.tmp 25)] [99] (impl_Version_text.ok a1.High) h17) (orcC 4 (x_cat 9 9 (.const (.string (bs [60]))) (.tmp 26) h19) (orcC 5 (x_cat 9 9 (.tmp 23) (.tmp 27) h21) orcN))) ?_
          exact J_qw (J_j (jv22 x20)) rfl
        · exact J_qw (J_j (jv22 v12)) rfl
    · refine J_if2 12 (fun h5 => ?_) (fun h5 => ?_)
      · refine J_bind (fun x6 h7 => ?_)
        refine J_bind (fun x8 h9 => ?_)
        refine J_bind (fun x10 h11 => ?_)
        refine J_g 122 [] [(1, pp 0), (3, sv x10)] [(0, .box (Term.enc a1))] (orcC 3 (x_c0 [(.tmp 15)] [99] (impl_Version_text.ok a1.Low) h7) (orcC 4 (x_cat 9 9 (.const (.string (bs [62, 61]))) (.tmp 16) h9) (orcC 5 (x_cat 9 9 (.tmp 13) (.tmp 17) h11) orcN))) ?_
        exact J_qw (J_j (jv12 x10)) rfl
      · exact J_qw (J_j (jv12 a1.Name)) rfl

noncomputable def c107 : Code := (Tryz.f107.body).getD .skip

theorem impl_RootsText_l1.ok (a1 : (List Term)) (q : Wd) (kn : ByteArray → Option (D × List Ent)) (hk : ∀ v : ByteArray, J (q.g Tryz.prog 107 0 22) c107 (atI c107 31) (St.mk' [(3, sv v)] []) (some v) kn) :
    ∀ s14 : (ByteArray × Int), J (q.g Tryz.prog 107 0 22) c107 (atI c107 244) (St.mk' [(3, sv s14.1), (9, sl 7 Term.enc a1), (10, iv (a1.length : Int)), (11, iv s14.2)] []) (impl_RootsText_l1 a1 s14) kn := by
  refine J_lp (fun g ih s14 => ?_)
  unfold impl_RootsText_l1b
  refine J_g 488 [] [(3, sv s14.1), (9, sl 7 Term.enc a1), (10, iv (a1.length : Int)), (11, iv s14.2), (12, bv (decide (s14.2 < (a1.length : Int))))] [] orcN ?_
  refine J_if2 12 (fun h15 => ?_) (fun h15 => ?_)
  · refine J_bind (fun x16 h17 => ?_)
    refine J_g 7832 [(2, 0)] [(3, sv s14.1), (5, pp 0), (9, sl 7 Term.enc a1), (10, iv (a1.length : Int)), (11, iv s14.2)] [(0, .box (Term.enc x16))] (orcC 0 (x_ix (kk := .i64) 75 149 7 Term.enc (.tmp 9) (.tmp 11) h17) orcN) ?_
    refine J_bind (fun x18 h19 => ?_)
    refine J_bind (fun x20 h21 => ?_)
    refine J_bind (fun x22 h23 => ?_)
    refine J_g 7833 [] [(3, sv x22), (9, sl 7 Term.enc a1), (10, iv (a1.length : Int)), (11, iv s14.2)] [] (orcC 2 (x_c0 [(.tmp 16)] [149] (impl_FormatTerm.ok x16) h19) (orcC 3 (x_cat 9 9 (.tmp 17) (.const (.string (bs [10]))) h21) (orcC 4 (x_cat 9 9 (.tmp 15) (.tmp 18) h23) orcN))) ?_
    refine J_g 1959 [] [(3, sv x22), (9, sl 7 Term.enc a1), (10, iv (a1.length : Int)), (11, iv (w64 (s14.2 + 1)))] [] orcN ?_
    exact J_q (J_b (ih (x22, w64 (s14.2 + 1)))) rfl
  · exact J_qw (hk s14.1) rfl

theorem impl_RootsText.ok (a1 : (List Term)) : Ok Tryz.prog 107 [sl 7 Term.enc a1] [] ((impl_RootsText a1).map fun r => (sv r, [])) := by
  refine Ok_of3 c107 Tryz.f107 0 22 (fun q => ?_)
  unfold impl_RootsText
  refine J_g 2 [] [(0, sl 7 Term.enc a1)] [] orcN ?_
  refine J_bind (fun x2 h3 => ?_)
  refine J_g 12 [] [(0, sl 7 Term.enc a1), (8, bv (x2 != 0))] [] (orcC 1 (x_c0 [(.tmp 6)] [75] (impl_termsFault.ok a1) h3) orcN) ?_
  refine J_if2 8 (fun h4 => ?_) (fun h4 => ?_)
  · refine J_g 52 [] [(2, sv (bs []))] [] orcN ?_
    exact J_r1 rfl
  · refine J_g 14 [] [(0, sl 7 Term.enc a1), (3, sv (bs []))] [] orcN ?_
    refine J_g 60 [] [(3, sv (bs [])), (9, sl 7 Term.enc a1), (10, iv (a1.length : Int)), (11, iv 0)] [] orcN ?_
    refine J_lq (impl_RootsText_l1.ok a1 q _ (fun v24 => J_j ?_) (bs [], 0))
    refine J_g 62 [] [(2, sv v24)] [] orcN ?_
    exact J_r1 rfl

noncomputable def c194 : Code := (Tryz.f194.body).getD .skip

theorem impl_twoOfOne_1.ok (a1 : Term) (a2 : Term) : Ok Tryz.prog 194 [.ag (Term.enc a1), pp 0] [.box (Term.enc a2)] ((impl_twoOfOne_1 a1 a2).map fun r => (bv r, [.box (Term.enc a2)])) := by
  refine Ok_of3 c194 Tryz.f194 1 9 (fun q => ?_)
  unfold impl_twoOfOne_1
  refine J_g 2 [(0, 1)] [(1, pp 0), (2, pp 1)] [(0, .box (Term.enc a2)), (1, .box (Term.enc a1))] orcN ?_
  refine J_g 6 [] [(3, bv (seq a1.Name a2.Name))] [(0, .box (Term.enc a2))] orcN ?_
  exact J_r1 rfl

theorem slices_IndexFunc_LimplTerm_impl_twoOfOne_1_l1.ok (a1 : (List Term)) (a2 : Term) (q : Wd) (kn : Unit → Option (D × List Ent)) (hk : ∀ v : Unit, J (q.g Tryz.prog 258 1 19) c258 (atI c258 7) (St.mk' [] [(0, .box (Term.enc a2))]) (some v) kn) :
    ∀ s9 : Int, J (q.g Tryz.prog 258 1 19) c258 (atI c258 52) (St.mk' [(0, sl 7 Term.enc a1), (1, .fn 194 [pp 0]), (7, iv (a1.length : Int)), (8, iv s9)] [(0, .box (Term.enc a2))]) (slices_IndexFunc_LimplTerm_impl_twoOfOne_1_l1 a1 a2 s9) (Fl.go (fun r : Int => some (iv r, [.box (Term.enc a2)])) kn) := by
  refine J_lp (fun g ih s9 => ?_)
  unfold slices_IndexFunc_LimplTerm_impl_twoOfOne_1_l1b
  refine J_g 104 [] [(0, sl 7 Term.enc a1), (1, .fn 194 [pp 0]), (7, iv (a1.length : Int)), (8, iv s9), (9, bv (decide (s9 < (a1.length : Int))))] [(0, .box (Term.enc a2))] orcN ?_
  refine J_if2 9 (fun h10 => ?_) (fun h10 => ?_)
  · refine J_g 1688 [] [(0, sl 7 Term.enc a1), (1, .fn 194 [pp 0]), (5, iv s9), (7, iv (a1.length : Int)), (8, iv s9)] [(0, .box (Term.enc a2))] orcN ?_
    refine J_bind (fun x11 h12 => ?_)
    refine J_bind (fun x13 h14 => ?_)
    refine J_g 3378 [] [(0, sl 7 Term.enc a1), (1, .fn 194 [pp 0]), (5, iv s9), (7, iv (a1.length : Int)), (8, iv s9), (16, bv x13)] [(0, .box (Term.enc a2))] (orcC 3 (x_ix (kk := .i64) 75 149 7 Term.enc (.tmp 12) (.tmp 13) h12) (orcC 5 (x_ro [(0, .box (Term.enc a2))] [] (x_c1v 11 [(.tmp 15)] [149] false [(0, .box (Term.enc a2))] [0] [.ag (Term.enc x11)] [pp 0] (.cons (.same rfl) (.cons (.pt rfl) (.nil))) (impl_twoOfOne_1.ok x11 a2) h14 (.same rfl rfl))) orcN)) ?_
    refine J_if2 16 (fun h15 => ?_) (fun h15 => ?_)
    · refine J_g 13516 [] [(4, iv s9)] [(0, .box (Term.enc a2))] orcN ?_
      exact J_r1 rfl
    · refine J_g 423 [] [(0, sl 7 Term.enc a1), (1, .fn 194 [pp 0]), (7, iv (a1.length : Int)), (8, iv (w64 (s9 + 1)))] [(0, .box (Term.enc a2))] orcN ?_
      exact J_q (J_b (ih (w64 (s9 + 1)))) rfl
  · exact J_qw (hk ()) rfl

theorem slices_IndexFunc_LimplTerm_impl_twoOfOne_1.ok (a1 : (List Term)) (a2 : Term) : Ok Tryz.prog 258 [sl 7 Term.enc a1, .fn 194 [pp 0]] [.box (Term.enc a2)] ((slices_IndexFunc_LimplTerm_impl_twoOfOne_1 a1 a2).map fun r => (iv r, [.box (Term.enc a2)])) := by
  refine Ok_of3 c258 Tryz.f258 1 19 (fun q => ?_)
  unfold slices_IndexFunc_LimplTerm_impl_twoOfOne_1
  refine J_g 2 [] [(0, sl 7 Term.enc a1), (1, .fn 194 [pp 0])] [(0, .box (Term.enc a2))] orcN ?_
  refine J_g 12 [] [(0, sl 7 Term.enc a1), (1, .fn 194 [pp 0]), (7, iv (a1.length : Int)), (8, iv 0)] [(0, .box (Term.enc a2))] orcN ?_
  refine J_lqF (K0 := (fun r : Int => some (iv r, [.box (Term.enc a2)]))) (fun _ => rfl) (slices_IndexFunc_LimplTerm_impl_twoOfOne_1_l1.ok a1 a2 q _ (fun v16 => J_j ?_) 0)
  refine J_g 14 [] [(4, iv (-1))] [(0, .box (Term.enc a2))] orcN ?_
  exact J_r1 rfl

theorem slices_ContainsFunc_LimplTerm_impl_twoOfOne_1.ok (a1 : (List Term)) (a2 : Term) : Ok Tryz.prog 193 [sl 7 Term.enc a1, .fn 194 [pp 0]] [.box (Term.enc a2)] ((slices_ContainsFunc_LimplTerm_impl_twoOfOne_1 a1 a2).map fun r => (bv r, [.box (Term.enc a2)])) := by
  refine Ok_of3 c193 Tryz.f193 1 9 (fun q => ?_)
  unfold slices_ContainsFunc_LimplTerm_impl_twoOfOne_1
  refine J_g 2 [] [(0, sl 7 Term.enc a1), (1, .fn 194 [pp 0])] [(0, .box (Term.enc a2))] orcN ?_
  refine J_bind (fun x3 h4 => ?_)
  refine J_g 6 [] [(4, bv (decide (x3 ≥ 0)))] [(0, .box (Term.enc a2))] (orcC 2 (x_ro [(0, .box (Term.enc a2))] [] (x_c1 («as» := [sl 7 Term.enc a1, .fn 194 [pp 0]]) [(.tmp 5), (.tmp 6)] [75, 221] false [(0, .box (Term.enc a2))] [0] (.cons (.same rfl) (.cons (.fn (.cons (.pt rfl) (.nil))) (.nil))) (slices_IndexFunc_LimplTerm_impl_twoOfOne_1.ok a1 a2) h4 (.same rfl rfl))) orcN) ?_
  exact J_r1 rfl

noncomputable def c108 : Code := (Tryz.f108.body).getD .skip

theorem impl_twoOfOne_l1.ok (a1 : (List Term)) (q : Wd) (kn : Unit → Option (D × List Ent)) (hk : ∀ v : Unit, J (q.g Tryz.prog 108 0 18) c108 (atI c108 7) (St.mk' [] []) (some v) kn) :
    ∀ s10 : Int, J (q.g Tryz.prog 108 0 18) c108 (atI c108 52) (St.mk' [(0, sl 7 Term.enc a1), (5, sl 7 Term.enc a1), (6, iv (a1.length : Int)), (7, iv s10)] []) (impl_twoOfOne_l1 a1 s10) (Fl.go (fun r : Bool => some (bv r, [])) kn) := by
  refine J_lp (fun g ih s10 => ?_)
  unfold impl_twoOfOne_l1b
  refine J_g 104 [] [(0, sl 7 Term.enc a1), (5, sl 7 Term.enc a1), (6, iv (a1.length : Int)), (7, iv s10), (8, bv (decide (s10 < (a1.length : Int))))] [] orcN ?_
  refine J_if2 8 (fun h11 => ?_) (fun h11 => ?_)
  · refine J_bind (fun x12 h13 => ?_)
    refine J_g 1688 [(3, 0)] [(0, sl 7 Term.enc a1), (3, iv s10), (4, pp 0), (5, sl 7 Term.enc a1), (6, iv (a1.length : Int)), (7, iv s10)] [(0, .box (Term.enc x12))] (orcC 1 (x_ix (kk := .i64) 75 149 7 Term.enc (.tmp 5) (.tmp 7) h13) orcN) ?_
    refine J_bind (fun x14 h15 => ?_)
    refine J_bind (fun x16 h17 => ?_)
    refine J_g 3378 [] [(0, sl 7 Term.enc a1), (5, sl 7 Term.enc a1), (6, iv (a1.length : Int)), (7, iv s10), (16, bv x16)] [] (orcC 2 (x_ls 75 149 7 Term.enc (.tmp 12) none (some (.tmp 13)) h15) (orcC 4 (x_ro [(0, .box (Term.enc x12))] [] (x_c1 («as» := [sl 7 Term.enc x14, .fn 194 [pp 0]]) [(.tmp 14), (.tmp 15)] [75, 221] false [(0, .box (Term.enc x12))] [0] (.cons (.same rfl) (.cons (.fn (.cons (.pt rfl) (.nil))) (.nil))) (slices_ContainsFunc_LimplTerm_impl_twoOfOne_1.ok x14 x12) h17 (.same rfl rfl))) orcN)) ?_
    refine J_if2 16 (fun h18 => ?_) (fun h18 => ?_)
    · refine J_g 13516 [] [(2, bv true)] [] orcN ?_
      exact J_r1 rfl
    · refine J_g 423 [] [(0, sl 7 Term.enc a1), (5, sl 7 Term.enc a1), (6, iv (a1.length : Int)), (7, iv (w64 (s10 + 1)))] [] orcN ?_
      exact J_q (J_b (ih (w64 (s10 + 1)))) rfl
  · exact J_qw (hk ()) rfl

theorem impl_twoOfOne.ok (a1 : (List Term)) : Ok Tryz.prog 108 [sl 7 Term.enc a1] [] ((impl_twoOfOne a1).map fun r => (bv r, [])) := by
  refine Ok_of3 c108 Tryz.f108 0 18 (fun q => ?_)
  unfold impl_twoOfOne
  refine J_g 2 [] [(0, sl 7 Term.enc a1)] [] orcN ?_
  refine J_g 12 [] [(0, sl 7 Term.enc a1), (5, sl 7 Term.enc a1), (6, iv (a1.length : Int)), (7, iv 0)] [] orcN ?_
  refine J_lqF (K0 := (fun r : Bool => some (bv r, []))) (fun _ => rfl) (impl_twoOfOne_l1.ok a1 q _ (fun v19 => J_j ?_) 0)
  refine J_g 14 [] [(2, bv false)] [] orcN ?_
  exact J_r1 rfl

noncomputable def c50 : Code := (Tryz.f50.body).getD .skip

theorem impl_Disk_roots_l1.ok (x2 : ((List Int) × Bool)) (x4 : (List ByteArray)) (q : Wd) (kn : (List Term) → Option (D × List Ent)) (hk : ∀ v : (List Term), J (q.g Tryz.prog 50 0 51) c50 (atI c50 31) (St.mk' [(6, sv (b2s x2.1)), (7, rr 0 v)] [(0, rE 7 Term.enc v)]) (some v) kn) :
    ∀ s14 : ((List Term) × Int), J (q.g Tryz.prog 50 0 51) c50 (atI c50 244) (St.mk' [(6, sv (b2s x2.1)), (7, rr 0 s14.1), (20, rr 1 x4), (21, iv (x4.length : Int)), (22, iv s14.2)] [(0, rE 7 Term.enc s14.1), (1, rE 1 eStr x4)]) (impl_Disk_roots_l1 x2 x4 s14) (Fl.go (fun r : ((List Term) × Int) => some (.tu [so 7 Term.enc r.1, iv r.2], [])) kn) := by
  refine J_lp (fun g ih s14 => ?_)
  unfold impl_Disk_roots_l1b
  refine J_g 488 [] [(6, sv (b2s x2.1)), (7, rr 0 s14.1), (20, rr 1 x4), (21, iv (x4.length : Int)), (22, iv s14.2), (23, bv (decide (s14.2 < (x4.length : Int))))] [(0, rE 7 Term.enc s14.1), (1, rE 1 eStr x4)] orcN ?_
  refine J_if2 23 (fun h15 => ?_) (fun h15 => ?_)
  · refine J_bind (fun x16 h17 => ?_)
    refine J_g 7832 [] [(6, sv (b2s x2.1)), (7, rr 0 s14.1), (9, sv x16), (20, rr 1 x4), (21, iv (x4.length : Int)), (22, iv s14.2)] [(0, rE 7 Term.enc s14.1), (1, rE 1 eStr x4)] (orcC 0 (x_ixr (kk := .i64) 86 9 1 1 eStr (.tmp 20) (.tmp 22) h17) (orcC 1 (x_ldr (d := sv x16) 9 1 1 0 eStr (.tmp 24) h17 (by kernel_rfl)) orcN)) ?_
    refine J_bind (fun x18 h19 => ?_)
    refine J_g 15666 [(2, 2)] [(6, sv (b2s x2.1)), (7, rr 0 s14.1), (10, pp 2), (20, rr 1 x4), (21, iv (x4.length : Int)), (22, iv s14.2)] [(0, rE 7 Term.enc s14.1), (1, rE 1 eStr x4), (2, .box (TermResult.enc x18))] (orcC 1 (x_c0 [(.tmp 26)] [9] (impl_ParseTerm.ok x16) h19) orcN) ?_
    refine J_g 62668 [] [(6, sv (b2s x2.1)), (7, rr 0 s14.1), (10, pp 2), (20, rr 1 x4), (21, iv (x4.length : Int)), (22, iv s14.2), (30, bv (x18.Code != 0))] [(0, rE 7 Term.enc s14.1), (1, rE 1 eStr x4), (2, .box (TermResult.enc x18))] orcN ?_
    refine J_if2 30 (fun h20 => ?_) (fun h20 => ?_)
    · refine J_g 250676 [] [(2, nv), (3, iv 5)] [] orcN ?_
      exact J_rm (ds := [nv, iv 5]) (ds' := [so 7 Term.enc ([] : List Term), iv 5]) (.cons (.cell (.nilsl true 7 (.nil))) (.cons (.cell (.keep rfl (.nil))) (.nil) (by decide)) (by decide)) rfl
    · refine J_bind (fun x21 h22 => ?_)
      refine J_g 31335 [] [(6, sv (b2s x2.1)), (7, rr 4 x21), (20, rr 1 x4), (21, iv (x4.length : Int)), (22, iv s14.2)] [(1, rE 1 eStr x4), (4, rE 7 Term.enc x21)] (orcC 3 (x_bp 75 149 7 3 Term.enc [x18.Term] [0] [(.tmp 33)] [.ag (Term.enc x18.Term)]) (orcC 4 (x_ap 75 75 149 149 7 64 4 0 3 Term.enc (.tmp 31) (.tmp 34) h22) orcN)) ?_
      refine J_g 1959 [] [(6, sv (b2s x2.1)), (7, rr 4 x21), (20, rr 1 x4), (21, iv (x4.length : Int)), (22, iv (w64 (s14.2 + 1)))] [(1, rE 1 eStr x4), (4, rE 7 Term.enc x21)] orcN ?_
      refine J_ren 4 0 (Nat.le_of_ble_eq_true rfl) (Nat.le_of_ble_eq_true rfl) ?_
      exact J_q (J_b (ih (x21, w64 (s14.2 + 1)))) rfl
  · exact J_qw (hk s14.1) rfl

theorem impl_Disk_roots.ok (a1 : Disk) : Ok Tryz.prog 50 [.ag (Disk.enc false a1)] [] ((impl_Disk_roots a1).map fun r => (.tu [so 7 Term.enc r.1, iv r.2], [])) := by
  refine Ok_of3 c50 Tryz.f50 0 51 (fun q => ?_)
  unfold impl_Disk_roots
  refine J_g 2 [(0, 0)] [(1, pp 0)] [(0, .box (Disk.enc false a1))] orcN ?_
  refine J_bind (fun x2 h3 => ?_)
  refine J_g 6 [] [(4, sl 1 eU8 x2.1)] [] (orcC 1 (x_c0 [(.tmp 12), (.const (.string (bs [114, 111, 111, 116, 115])))] [33, 9] (impl_Disk_data.ok a1 (bs [114, 111, 111, 116, 115])) h3) orcN) ?_
  refine J_g 14 [] [(6, sv (b2s x2.1)), (7, rr 0 ([] : List Term))] [(0, rE 7 Term.enc ([] : List Term))] (orcC 1 (x_b2s (xs := x2.1) 121 9 5 (.tmp 16)) (orcC 2 (x_bp 75 149 7 0 Term.enc ([] : List Term) [] [] []) orcN)) ?_
  refine J_bind (fun x4 h5 => ?_)
  refine J_g 60 [] [(6, sv (b2s x2.1)), (7, rr 0 ([] : List Term)), (20, rr 1 x4), (21, iv (x4.length : Int)), (22, iv 0)] [(0, rE 7 Term.enc ([] : List Term)), (1, rE 1 eStr x4)] (orcC 1 (x_c1 («as» := [sv (b2s x2.1)]) [(.tmp 19)] [9] false [] [] (.cons (.same rfl) (.nil)) (impl_linesOf.ok (b2s x2.1)) h5 (.own 1)) orcN) ?_
  refine J_lqF (K0 := (fun r : ((List Term) × Int) => some (.tu [so 7 Term.enc r.1, iv r.2], []))) (fun _ => rfl) (impl_Disk_roots_l1.ok x2 x4 q _ (fun v23 => J_j ?_) (([] : List Term), 0))
  refine J_bind (fun x24 h25 => ?_)
  refine J_join (atI c50 125) (fun v30 : Bool => St.mk' [(7, rr 0 v23), (49, bv v30)] [(0, rE 7 Term.enc v23)]) (fun v30 => ?_) (fun jv30 => ?_)
  · refine J_if2 49 (fun h31 => ?_) (fun h31 => ?_)
    · refine J_g 500 [] [(2, nv), (3, iv 5)] [] orcN ?_
      exact J_rm (ds := [nv, iv 5]) (ds' := [so 7 Term.enc ([] : List Term), iv 5]) (.cons (.cell (.nilsl true 7 (.nil))) (.cons (.cell (.keep rfl (.nil))) (.nil) (by decide)) (by decide)) rfl
    · refine J_g 126 [] [(2, rr 0 v23), (3, iv 0)] [(0, rE 7 Term.enc v23)] orcN ?_
      exact J_rm (ds := [rr 0 v23, iv 0]) (ds' := [so 7 Term.enc v23, iv 0]) (.cons (.cell (.move (.head _) (List.length_map _) (by decide) (.nil))) (.cons (.cell (.keep rfl (.nil))) (.nil) (by decide)) (by decide)) rfl
  · refine J_ite (fun h26 => ?_) (fun h26 => ?_)
    · refine J_g 124 [] [(7, rr 0 v23), (49, bv true)] [(0, rE 7 Term.enc v23)] (orcC 1 (x_c1 («as» := [rr 0 v23]) [(.tmp 37)] [75] true [(0, rE 7 Term.enc v23)] [] (.cons (am_b (.head _) (fun _ => rfl) rfl) (.nil)) (impl_RootsText.ok v23) h25 (.same rfl rfl) (hbor := fun _ => ⟨rfl, flat_sc⟩)) (orcL 4 [(40, bv (!(seq x24 (b2s x2.1))))] [] h26 orcN)) ?_
      exact J_qw (J_j (jv30 true)) rfl
    · refine J_ite (fun h27 => ?_) (fun h27 => ?_)
      · refine J_g 124 [] [(7, rr 0 v23), (49, bv true)] [(0, rE 7 Term.enc v23)] (orcC 1 (x_c1 («as» := [rr 0 v23]) [(.tmp 37)] [75] true [(0, rE 7 Term.enc v23)] [] (.cons (am_b (.head _) (fun _ => rfl) rfl) (.nil)) (impl_RootsText.ok v23) h25 (.same rfl rfl) (hbor := fun _ => ⟨rfl, flat_sc⟩)) (orcL 4 [(40, bv (!(seq x24 (b2s x2.1))))] [] h26 (orcL 9 [(45, bv (decide ((v23.length : Int) > 8)))] [] h27 orcN))) ?_
        exact J_qw (J_j (jv30 true)) rfl
      · refine J_bind (fun x28 h29 => ?_)
        refine J_g 124 [] [(7, rr 0 v23), (49, bv x28)] [(0, rE 7 Term.enc v23)] (orcC 1 (x_c1 («as» := [rr 0 v23]) [(.tmp 37)] [75] true [(0, rE 7 Term.enc v23)] [] (.cons (am_b (.head _) (fun _ => rfl) rfl) (.nil)) (impl_RootsText.ok v23) h25 (.same rfl rfl) (hbor := fun _ => ⟨rfl, flat_sc⟩)) (orcL 4 [(40, bv (!(seq x24 (b2s x2.1))))] [] h26 (orcL 9 [(45, bv (decide ((v23.length : Int) > 8)))] [] h27 (orcH 11 9 46 false (x_c1 («as» := [rr 0 v23]) [(.tmp 47)] [75] true [(0, rE 7 Term.enc v23)] [] (.cons (am_b (.head _) (fun _ => rfl) rfl) (.nil)) (impl_twoOfOne.ok v23) h29 (.same rfl rfl) (hbor := fun _ => ⟨rfl, flat_sc⟩)) orcN)))) ?_
        exact J_qw (J_j (jv30 x28)) rfl

noncomputable def c11 : Code := (Tryz.f11.body).getD .skip

theorem impl_SystemFault.ok (a1 : System) : Ok Tryz.prog 11 [.ag (System.enc false a1)] [] ((impl_SystemFault a1).map fun r => (iv r, [])) := by
  refine Ok_of3 c11 Tryz.f11 0 41 (fun q => ?_)
  unfold impl_SystemFault
  refine J_g 2 [(0, 0)] [(1, pp 0)] [(0, .box (System.enc false a1))] orcN ?_
  refine J_bind (fun x2 h3 => ?_)
  refine J_g 12 [] [(1, pp 0), (3, iv x2)] [(0, .box (System.enc false a1))] (orcC 4 (x_c0 [(.tmp 7), (.tmp 9)] [30, 33] (impl_bothCode.ok a1.Catalog a1.Disk) h3) orcN) ?_
  refine J_g 26 [] [(1, pp 0), (3, iv x2), (12, bv (x2 != 0))] [(0, .box (System.enc false a1))] orcN ?_
  refine J_if2 12 (fun h4 => ?_) (fun h4 => ?_)
  · refine J_g 108 [] [(2, iv x2)] [] orcN ?_
    exact J_r1 rfl
  · refine J_bind (fun x5 h6 => ?_)
    refine J_g 14 [] [(1, pp 0), (4, rr 1 x5.1), (5, iv x5.2)] [(0, .box (System.enc false a1)), (1, rE 1 eI64 x5.1)] (orcC 4 (x_c1 («as» := [sl 8 (Pack.enc false) a1.Catalog, .ag (Disk.enc false a1.Disk)]) [(.tmp 16), (.tmp 18)] [30, 33] false [] [] (.cons (.same rfl) (.cons (.same rfl) (.nil))) (impl_shown.ok a1.Catalog a1.Disk) h6 (.tu (.cons (.own 1) (.cons (.same rfl rfl) (.nil))))) orcN) ?_
    refine J_g 120 [] [(1, pp 0), (4, rr 1 x5.1), (5, iv x5.2), (22, bv (x5.2 != 0))] [(0, .box (System.enc false a1)), (1, rE 1 eI64 x5.1)] orcN ?_
    refine J_if2 22 (fun h7 => ?_) (fun h7 => ?_)
    · refine J_g 484 [] [(2, iv x5.2)] [] orcN ?_
      exact J_r1 rfl
    · refine J_bind (fun x8 h9 => ?_)
      refine J_g 486 [] [(1, pp 0), (26, bv (!x8))] [(0, .box (System.enc false a1))] (orcC 5 (x_c1 («as» := [sl 8 (Pack.enc false) a1.Catalog, .ag (Disk.enc false a1.Disk), rr 1 x5.1]) [(.tmp 28), (.tmp 30), (.tmp 31)] [30, 33, 39] true [(1, rE 1 eI64 x5.1)] [] (.cons (.same rfl) (.cons (.same rfl) (.cons (am_b (.head _) (fun _ => rfl) rfl) (.nil)))) (impl_isWhole.ok a1.Catalog a1.Disk x5.1) h9 (.same rfl rfl) (hbor := fun _ => ⟨rfl, flat_sc⟩)) orcN) ?_
      refine J_if2 26 (fun h10 => ?_) (fun h10 => ?_)
      · refine J_g 1948 [] [(2, iv 1)] [] orcN ?_
        exact J_r1 rfl
      · refine J_bind (fun x11 h12 => ?_)
        refine J_g 62 [] [(5, iv x11.2)] [] (orcC 2 (x_c1 («as» := [.ag (Disk.enc false a1.Disk)]) [(.tmp 36)] [33] false [] [] (.cons (.same rfl) (.nil)) (impl_Disk_roots.ok a1.Disk) h12 (.tu (.cons (.own 1) (.cons (.same rfl rfl) (.nil))))) orcN) ?_
        refine J_g 126 [] [(2, iv x11.2)] [] orcN ?_
        exact J_r1 rfl

noncomputable def c142 : Code := (Tryz.f142.body).getD .skip

theorem laws_eqVersion.ok (a1 : Version) (a2 : Version) : Ok Tryz.prog 142 [.ag (Version.enc a1), .ag (Version.enc a2)] [] ((laws_eqVersion a1 a2).map fun r => (bv r, [])) := by
  refine Ok_of3 c142 Tryz.f142 0 20 (fun q => ?_)
  unfold laws_eqVersion
  refine J_g 2 [(0, 0), (1, 1)] [(2, pp 0), (3, pp 1)] [(0, .box (Version.enc a1)), (1, .box (Version.enc a2))] orcN ?_
  refine J_g 12 [] [(2, pp 0), (3, pp 1), (9, bv (a1.A != a2.A))] [(0, .box (Version.enc a1)), (1, .box (Version.enc a2))] orcN ?_
  refine J_if2 9 (fun h3 => ?_) (fun h3 => ?_)
  · refine J_g 52 [] [(4, bv false)] [] orcN ?_
    exact J_r1 rfl
  · refine J_g 28 [] [(2, pp 0), (3, pp 1), (14, bv (a1.B != a2.B))] [(0, .box (Version.enc a1)), (1, .box (Version.enc a2))] orcN ?_
    refine J_if2 14 (fun h4 => ?_) (fun h4 => ?_)
    · refine J_g 116 [] [(4, bv false)] [] orcN ?_
      exact J_r1 rfl
    · refine J_g 60 [] [(19, bv (a1.C != a2.C))] [] orcN ?_
      refine J_if2 19 (fun h5 => ?_) (fun h5 => ?_)
      · refine J_g 244 [] [(4, bv false)] [] orcN ?_
        exact J_r1 rfl
      · refine J_g 62 [] [(4, bv true)] [] orcN ?_
        exact J_r1 rfl

noncomputable def c143 : Code := (Tryz.f143.body).getD .skip

theorem laws_eqStringS_l1.ok (a1 : (List ByteArray)) (a2 : (List ByteArray)) (q : Wd) (kn : Unit → Option (D × List Ent)) (hk : ∀ v : Unit, J (q.g Tryz.prog 143 0 26) c143 (atI c143 15) (St.mk' [] []) (some v) kn) :
    ∀ s10 : Int, J (q.g Tryz.prog 143 0 26) c143 (atI c143 116) (St.mk' [(0, sl 1 eStr a1), (1, sl 1 eStr a2), (5, iv s10)] []) (laws_eqStringS_l1 a1 a2 s10) (Fl.go (fun r : Bool => some (bv r, [])) kn) := by
  refine J_lp (fun g ih s10 => ?_)
  unfold laws_eqStringS_l1b
  refine J_g 464 [] [(0, sl 1 eStr a1), (1, sl 1 eStr a2), (5, iv s10), (14, bv (decide (s10 < (a1.length : Int))))] [] orcN ?_
  refine J_if2 14 (fun h11 => ?_) (fun h11 => ?_)
  · refine J_bind (fun x12 h13 => ?_)
    refine J_bind (fun x14 h15 => ?_)
    refine J_g 1864 [] [(0, sl 1 eStr a1), (1, sl 1 eStr a2), (5, iv s10), (25, bv (!(seq x12 x14)))] [] (orcC 2 (x_ix (kk := .i64) 86 9 1 eStr (.tmp 17) (.tmp 18) h13) (orcC 6 (x_ix (kk := .i64) 86 9 1 eStr (.tmp 21) (.tmp 22) h15) orcN)) ?_
    refine J_if2 25 (fun h16 => ?_) (fun h16 => ?_)
    · refine J_g 7460 [] [(4, bv false)] [] orcN ?_
      exact J_r1 rfl
    · refine J_g 467 [] [(0, sl 1 eStr a1), (1, sl 1 eStr a2), (5, iv (w64 (s10 + 1)))] [] orcN ?_
      exact J_q (J_b (ih (w64 (s10 + 1)))) rfl
  · exact J_qw (hk ()) rfl

theorem laws_eqStringS.ok (a1 : (List ByteArray)) (a2 : (List ByteArray)) : Ok Tryz.prog 143 [sl 1 eStr a1, sl 1 eStr a2] [] ((laws_eqStringS a1 a2).map fun r => (bv r, [])) := by
  refine Ok_of3 c143 Tryz.f143 0 26 (fun q => ?_)
  unfold laws_eqStringS
  refine J_g 2 [] [(0, sl 1 eStr a1), (1, sl 1 eStr a2)] [] orcN ?_
  refine J_g 12 [] [(0, sl 1 eStr a1), (1, sl 1 eStr a2), (10, bv ((a1.length : Int) != (a2.length : Int)))] [] orcN ?_
  refine J_if2 10 (fun h3 => ?_) (fun h3 => ?_)
  · refine J_g 52 [] [(4, bv false)] [] orcN ?_
    exact J_r1 rfl
  · refine J_g 28 [] [(0, sl 1 eStr a1), (1, sl 1 eStr a2), (5, iv 0)] [] orcN ?_
    refine J_lqF (K0 := (fun r : Bool => some (bv r, []))) (fun _ => rfl) (laws_eqStringS_l1.ok a1 a2 q _ (fun v17 => J_j ?_) 0)
    refine J_g 30 [] [(4, bv true)] [] orcN ?_
    exact J_r1 rfl

noncomputable def c213 : Code := (Tryz.f213.body).getD .skip

theorem laws_eqTerm.ok (a1 : Term) (a2 : Term) : Ok Tryz.prog 213 [.ag (Term.enc a1), .ag (Term.enc a2)] [] ((laws_eqTerm a1 a2).map fun r => (bv r, [])) := by
  refine Ok_of3 c213 Tryz.f213 0 22 (fun q => ?_)
  unfold laws_eqTerm
  refine J_g 2 [(0, 0), (1, 1)] [(2, pp 0), (3, pp 1)] [(0, .box (Term.enc a1)), (1, .box (Term.enc a2))] orcN ?_
  refine J_g 12 [] [(2, pp 0), (3, pp 1), (9, bv (!(seq a1.Name a2.Name)))] [(0, .box (Term.enc a1)), (1, .box (Term.enc a2))] orcN ?_
  refine J_if2 9 (fun h3 => ?_) (fun h3 => ?_)
  · refine J_g 52 [] [(4, bv false)] [] orcN ?_
    exact J_r1 rfl
  · refine J_bind (fun x4 h5 => ?_)
    refine J_g 28 [] [(2, pp 0), (3, pp 1), (15, bv (!x4))] [(0, .box (Term.enc a1)), (1, .box (Term.enc a2))] (orcC 4 (x_c0 [(.tmp 11), (.tmp 13)] [99, 99] (laws_eqVersion.ok a1.Low a2.Low) h5) orcN) ?_
    refine J_if2 15 (fun h6 => ?_) (fun h6 => ?_)
    · refine J_g 116 [] [(4, bv false)] [] orcN ?_
      exact J_r1 rfl
    · refine J_bind (fun x7 h8 => ?_)
      refine J_g 60 [] [(21, bv (!x7))] [] (orcC 4 (x_c0 [(.tmp 17), (.tmp 19)] [99, 99] (laws_eqVersion.ok a1.High a2.High) h8) orcN) ?_
      refine J_if2 21 (fun h9 => ?_) (fun h9 => ?_)
      · refine J_g 244 [] [(4, bv false)] [] orcN ?_
        exact J_r1 rfl
      · refine J_g 62 [] [(4, bv true)] [] orcN ?_
        exact J_r1 rfl

noncomputable def c145 : Code := (Tryz.f145.body).getD .skip

theorem laws_eqTermS_l1.ok (a1 : (List Term)) (a2 : (List Term)) (q : Wd) (kn : Unit → Option (D × List Ent)) (hk : ∀ v : Unit, J (q.g Tryz.prog 145 0 27) c145 (atI c145 15) (St.mk' [] []) (some v) kn) :
    ∀ s12 : Int, J (q.g Tryz.prog 145 0 27) c145 (atI c145 116) (St.mk' [(0, sl 7 Term.enc a1), (1, sl 7 Term.enc a2), (5, iv s12)] []) (laws_eqTermS_l1 a1 a2 s12) (Fl.go (fun r : Bool => some (bv r, [])) kn) := by
  refine J_lp (fun g ih s12 => ?_)
  unfold laws_eqTermS_l1b
  refine J_g 464 [] [(0, sl 7 Term.enc a1), (1, sl 7 Term.enc a2), (5, iv s12), (14, bv (decide (s12 < (a1.length : Int))))] [] orcN ?_
  refine J_if2 14 (fun h13 => ?_) (fun h13 => ?_)
  · refine J_bind (fun x14 h15 => ?_)
    refine J_bind (fun x16 h17 => ?_)
    refine J_bind (fun x18 h19 => ?_)
    refine J_g 1864 [] [(0, sl 7 Term.enc a1), (1, sl 7 Term.enc a2), (5, iv s12), (26, bv (!x18))] [] (orcC 2 (x_ix (kk := .i64) 75 149 7 Term.enc (.tmp 17) (.tmp 18) h15) (orcC 6 (x_ix (kk := .i64) 75 149 7 Term.enc (.tmp 21) (.tmp 22) h17) (orcC 8 (x_c0 [(.tmp 20), (.tmp 24)] [149, 149] (laws_eqTerm.ok x14 x16) h19) orcN))) ?_
    refine J_if2 26 (fun h20 => ?_) (fun h20 => ?_)
    · refine J_g 7460 [] [(4, bv false)] [] orcN ?_
      exact J_r1 rfl
    · refine J_g 467 [] [(0, sl 7 Term.enc a1), (1, sl 7 Term.enc a2), (5, iv (w64 (s12 + 1)))] [] orcN ?_
      exact J_q (J_b (ih (w64 (s12 + 1)))) rfl
  · exact J_qw (hk ()) rfl

theorem laws_eqTermS.ok (a1 : (List Term)) (a2 : (List Term)) : Ok Tryz.prog 145 [sl 7 Term.enc a1, sl 7 Term.enc a2] [] ((laws_eqTermS a1 a2).map fun r => (bv r, [])) := by
  refine Ok_of3 c145 Tryz.f145 0 27 (fun q => ?_)
  unfold laws_eqTermS
  refine J_g 2 [] [(0, sl 7 Term.enc a1), (1, sl 7 Term.enc a2)] [] orcN ?_
  refine J_g 12 [] [(0, sl 7 Term.enc a1), (1, sl 7 Term.enc a2), (10, bv ((a1.length : Int) != (a2.length : Int)))] [] orcN ?_
  refine J_if2 10 (fun h3 => ?_) (fun h3 => ?_)
  · refine J_g 52 [] [(4, bv false)] [] orcN ?_
    exact J_r1 rfl
  · refine J_g 28 [] [(0, sl 7 Term.enc a1), (1, sl 7 Term.enc a2), (5, iv 0)] [] orcN ?_
    refine J_lqF (K0 := (fun r : Bool => some (bv r, []))) (fun _ => rfl) (laws_eqTermS_l1.ok a1 a2 q _ (fun v21 => J_j ?_) 0)
    refine J_g 30 [] [(4, bv true)] [] orcN ?_
    exact J_r1 rfl

noncomputable def c144 : Code := (Tryz.f144.body).getD .skip

theorem laws_eqTermSS_l1.ok (a1 : (List (List Term))) (a2 : (List (List Term))) (q : Wd) (kn : Unit → Option (D × List Ent)) (hk : ∀ v : Unit, J (q.g Tryz.prog 144 0 27) c144 (atI c144 15) (St.mk' [] []) (some v) kn) :
    ∀ s12 : Int, J (q.g Tryz.prog 144 0 27) c144 (atI c144 116) (St.mk' [(0, sl 1 (eSl false 7 Term.enc) a1), (1, sl 1 (eSl false 7 Term.enc) a2), (5, iv s12)] []) (laws_eqTermSS_l1 a1 a2 s12) (Fl.go (fun r : Bool => some (bv r, [])) kn) := by
  refine J_lp (fun g ih s12 => ?_)
  unfold laws_eqTermSS_l1b
  refine J_g 464 [] [(0, sl 1 (eSl false 7 Term.enc) a1), (1, sl 1 (eSl false 7 Term.enc) a2), (5, iv s12), (14, bv (decide (s12 < (a1.length : Int))))] [] orcN ?_
  refine J_if2 14 (fun h13 => ?_) (fun h13 => ?_)
  · refine J_bind (fun x14 h15 => ?_)
    refine J_bind (fun x16 h17 => ?_)
    refine J_bind (fun x18 h19 => ?_)
    refine J_g 1864 [] [(0, sl 1 (eSl false 7 Term.enc) a1), (1, sl 1 (eSl false 7 Term.enc) a2), (5, iv s12), (26, bv (!x18))] [] (orcC 2 (x_ix (kk := .i64) 100 75 1 (eSl false 7 Term.enc) (.tmp 17) (.tmp 18) h15) (orcC 6 (x_ix (kk := .i64) 100 75 1 (eSl false 7 Term.enc) (.tmp 21) (.tmp 22) h17) (orcC 8 (x_c0 [(.tmp 20), (.tmp 24)] [75, 75] (laws_eqTermS.ok x14 x16) h19) orcN))) ?_
    refine J_if2 26 (fun h20 => ?_) (fun h20 => ?_)
    · refine J_g 7460 [] [(4, bv false)] [] orcN ?_
      exact J_r1 rfl
    · refine J_g 467 [] [(0, sl 1 (eSl false 7 Term.enc) a1), (1, sl 1 (eSl false 7 Term.enc) a2), (5, iv (w64 (s12 + 1)))] [] orcN ?_
      exact J_q (J_b (ih (w64 (s12 + 1)))) rfl
  · exact J_qw (hk ()) rfl

theorem laws_eqTermSS.ok (a1 : (List (List Term))) (a2 : (List (List Term))) : Ok Tryz.prog 144 [sl 1 (eSl false 7 Term.enc) a1, sl 1 (eSl false 7 Term.enc) a2] [] ((laws_eqTermSS a1 a2).map fun r => (bv r, [])) := by
  refine Ok_of3 c144 Tryz.f144 0 27 (fun q => ?_)
  unfold laws_eqTermSS
  refine J_g 2 [] [(0, sl 1 (eSl false 7 Term.enc) a1), (1, sl 1 (eSl false 7 Term.enc) a2)] [] orcN ?_
  refine J_g 12 [] [(0, sl 1 (eSl false 7 Term.enc) a1), (1, sl 1 (eSl false 7 Term.enc) a2), (10, bv ((a1.length : Int) != (a2.length : Int)))] [] orcN ?_
  refine J_if2 10 (fun h3 => ?_) (fun h3 => ?_)
  · refine J_g 52 [] [(4, bv false)] [] orcN ?_
    exact J_r1 rfl
  · refine J_g 28 [] [(0, sl 1 (eSl false 7 Term.enc) a1), (1, sl 1 (eSl false 7 Term.enc) a2), (5, iv 0)] [] orcN ?_
    refine J_lqF (K0 := (fun r : Bool => some (bv r, []))) (fun _ => rfl) (laws_eqTermSS_l1.ok a1 a2 q _ (fun v21 => J_j ?_) 0)
    refine J_g 30 [] [(4, bv true)] [] orcN ?_
    exact J_r1 rfl

noncomputable def c69 : Code := (Tryz.f69.body).getD .skip

theorem laws_eqPack.ok (a1 : Pack) (a2 : Pack) : Ok Tryz.prog 69 [.ag (Pack.enc false a1), .ag (Pack.enc false a2)] [] ((laws_eqPack a1 a2).map fun r => (bv r, [])) := by
  refine Ok_of3 c69 Tryz.f69 0 39 (fun q => ?_)
  unfold laws_eqPack
  refine J_g 2 [(0, 0), (1, 1)] [(2, pp 0), (3, pp 1)] [(0, .box (Pack.enc false a1)), (1, .box (Pack.enc false a2))] orcN ?_
  refine J_g 12 [] [(2, pp 0), (3, pp 1), (9, bv (!(seq a1.Name a2.Name)))] [(0, .box (Pack.enc false a1)), (1, .box (Pack.enc false a2))] orcN ?_
  refine J_if2 9 (fun h3 => ?_) (fun h3 => ?_)
  · refine J_g 52 [] [(4, bv false)] [] orcN ?_
    exact J_r1 rfl
  · refine J_bind (fun x4 h5 => ?_)
    refine J_g 28 [] [(2, pp 0), (3, pp 1), (15, bv (!x4))] [(0, .box (Pack.enc false a1)), (1, .box (Pack.enc false a2))] (orcC 4 (x_c0 [(.tmp 11), (.tmp 13)] [99, 99] (laws_eqVersion.ok a1.Version a2.Version) h5) orcN) ?_
    refine J_if2 15 (fun h6 => ?_) (fun h6 => ?_)
    · refine J_g 116 [] [(4, bv false)] [] orcN ?_
      exact J_r1 rfl
    · refine J_g 60 [] [(2, pp 0), (3, pp 1), (20, bv (a1.Size != a2.Size))] [(0, .box (Pack.enc false a1)), (1, .box (Pack.enc false a2))] orcN ?_
      refine J_if2 20 (fun h7 => ?_) (fun h7 => ?_)
      · refine J_g 244 [] [(4, bv false)] [] orcN ?_
        exact J_r1 rfl
      · refine J_bind (fun x8 h9 => ?_)
        refine J_g 124 [] [(2, pp 0), (3, pp 1), (26, bv (!x8))] [(0, .box (Pack.enc false a1)), (1, .box (Pack.enc false a2))] (orcC 4 (x_c0 [(.tmp 22), (.tmp 24)] [86, 86] (laws_eqStringS.ok a1.Provides a2.Provides) h9) orcN) ?_
        refine J_if2 26 (fun h10 => ?_) (fun h10 => ?_)
        · refine J_g 500 [] [(4, bv false)] [] orcN ?_
          exact J_r1 rfl
        · refine J_bind (fun x11 h12 => ?_)
          refine J_g 252 [] [(2, pp 0), (3, pp 1), (32, bv (!x11))] [(0, .box (Pack.enc false a1)), (1, .box (Pack.enc false a2))] (orcC 4 (x_c0 [(.tmp 28), (.tmp 30)] [100, 100] (laws_eqTermSS.ok a1.Needs a2.Needs) h12) orcN) ?_
          refine J_if2 32 (fun h13 => ?_) (fun h13 => ?_)
          · refine J_g 1012 [] [(4, bv false)] [] orcN ?_
            exact J_r1 rfl
          · refine J_bind (fun x14 h15 => ?_)
            refine J_g 508 [] [(38, bv (!x14))] [] (orcC 4 (x_c0 [(.tmp 34), (.tmp 36)] [75, 75] (laws_eqTermS.ok a1.Bars a2.Bars) h15) orcN) ?_
            refine J_if2 38 (fun h16 => ?_) (fun h16 => ?_)
            · refine J_g 2036 [] [(4, bv false)] [] orcN ?_
              exact J_r1 rfl
            · refine J_g 510 [] [(4, bv true)] [] orcN ?_
              exact J_r1 rfl

noncomputable def c21 : Code := (Tryz.f21.body).getD .skip

theorem laws_eqPackS_l1.ok (a1 : (List Pack)) (a2 : (List Pack)) (q : Wd) (kn : Unit → Option (D × List Ent)) (hk : ∀ v : Unit, J (q.g Tryz.prog 21 0 27) c21 (atI c21 15) (St.mk' [] []) (some v) kn) :
    ∀ s12 : Int, J (q.g Tryz.prog 21 0 27) c21 (atI c21 116) (St.mk' [(0, sl 8 (Pack.enc false) a1), (1, sl 8 (Pack.enc false) a2), (5, iv s12)] []) (laws_eqPackS_l1 a1 a2 s12) (Fl.go (fun r : Bool => some (bv r, [])) kn) := by
  refine J_lp (fun g ih s12 => ?_)
  unfold laws_eqPackS_l1b
  refine J_g 464 [] [(0, sl 8 (Pack.enc false) a1), (1, sl 8 (Pack.enc false) a2), (5, iv s12), (14, bv (decide (s12 < (a1.length : Int))))] [] orcN ?_
  refine J_if2 14 (fun h13 => ?_) (fun h13 => ?_)
  · refine J_bind (fun x14 h15 => ?_)
    refine J_bind (fun x16 h17 => ?_)
    refine J_bind (fun x18 h19 => ?_)
    refine J_g 1864 [] [(0, sl 8 (Pack.enc false) a1), (1, sl 8 (Pack.enc false) a2), (5, iv s12), (26, bv (!x18))] [] (orcC 2 (x_ix (kk := .i64) 30 102 8 (Pack.enc false) (.tmp 17) (.tmp 18) h15) (orcC 6 (x_ix (kk := .i64) 30 102 8 (Pack.enc false) (.tmp 21) (.tmp 22) h17) (orcC 8 (x_c0 [(.tmp 20), (.tmp 24)] [102, 102] (laws_eqPack.ok x14 x16) h19) orcN))) ?_
    refine J_if2 26 (fun h20 => ?_) (fun h20 => ?_)
    · refine J_g 7460 [] [(4, bv false)] [] orcN ?_
      exact J_r1 rfl
    · refine J_g 467 [] [(0, sl 8 (Pack.enc false) a1), (1, sl 8 (Pack.enc false) a2), (5, iv (w64 (s12 + 1)))] [] orcN ?_
      exact J_q (J_b (ih (w64 (s12 + 1)))) rfl
  · exact J_qw (hk ()) rfl

theorem laws_eqPackS.ok (a1 : (List Pack)) (a2 : (List Pack)) : Ok Tryz.prog 21 [sl 8 (Pack.enc false) a1, sl 8 (Pack.enc false) a2] [] ((laws_eqPackS a1 a2).map fun r => (bv r, [])) := by
  refine Ok_of3 c21 Tryz.f21 0 27 (fun q => ?_)
  unfold laws_eqPackS
  refine J_g 2 [] [(0, sl 8 (Pack.enc false) a1), (1, sl 8 (Pack.enc false) a2)] [] orcN ?_
  refine J_g 12 [] [(0, sl 8 (Pack.enc false) a1), (1, sl 8 (Pack.enc false) a2), (10, bv ((a1.length : Int) != (a2.length : Int)))] [] orcN ?_
  refine J_if2 10 (fun h3 => ?_) (fun h3 => ?_)
  · refine J_g 52 [] [(4, bv false)] [] orcN ?_
    exact J_r1 rfl
  · refine J_g 28 [] [(0, sl 8 (Pack.enc false) a1), (1, sl 8 (Pack.enc false) a2), (5, iv 0)] [] orcN ?_
    refine J_lqF (K0 := (fun r : Bool => some (bv r, []))) (fun _ => rfl) (laws_eqPackS_l1.ok a1 a2 q _ (fun v21 => J_j ?_) 0)
    refine J_g 30 [] [(4, bv true)] [] orcN ?_
    exact J_r1 rfl

noncomputable def c214 : Code := (Tryz.f214.body).getD .skip

theorem laws_eqByteS_l1.ok (a1 : (List Int)) (a2 : (List Int)) (q : Wd) (kn : Unit → Option (D × List Ent)) (hk : ∀ v : Unit, J (q.g Tryz.prog 214 0 26) c214 (atI c214 15) (St.mk' [] []) (some v) kn) :
    ∀ s10 : Int, J (q.g Tryz.prog 214 0 26) c214 (atI c214 116) (St.mk' [(0, sl 1 eU8 a1), (1, sl 1 eU8 a2), (5, iv s10)] []) (laws_eqByteS_l1 a1 a2 s10) (Fl.go (fun r : Bool => some (bv r, [])) kn) := by
  refine J_lp (fun g ih s10 => ?_)
  unfold laws_eqByteS_l1b
  refine J_g 464 [] [(0, sl 1 eU8 a1), (1, sl 1 eU8 a2), (5, iv s10), (14, bv (decide (s10 < (a1.length : Int))))] [] orcN ?_
  refine J_if2 14 (fun h11 => ?_) (fun h11 => ?_)
  · refine J_bind (fun x12 h13 => ?_)
    refine J_bind (fun x14 h15 => ?_)
    refine J_g 1864 [] [(0, sl 1 eU8 a1), (1, sl 1 eU8 a2), (5, iv s10), (25, bv (x12 != x14))] [] (orcC 2 (x_ix (kk := .i64) 121 5 1 eU8 (.tmp 17) (.tmp 18) h13) (orcC 6 (x_ix (kk := .i64) 121 5 1 eU8 (.tmp 21) (.tmp 22) h15) orcN)) ?_
    refine J_if2 25 (fun h16 => ?_) (fun h16 => ?_)
    · refine J_g 7460 [] [(4, bv false)] [] orcN ?_
      exact J_r1 rfl
    · refine J_g 467 [] [(0, sl 1 eU8 a1), (1, sl 1 eU8 a2), (5, iv (w64 (s10 + 1)))] [] orcN ?_
      exact J_q (J_b (ih (w64 (s10 + 1)))) rfl
  · exact J_qw (hk ()) rfl

theorem laws_eqByteS.ok (a1 : (List Int)) (a2 : (List Int)) : Ok Tryz.prog 214 [sl 1 eU8 a1, sl 1 eU8 a2] [] ((laws_eqByteS a1 a2).map fun r => (bv r, [])) := by
  refine Ok_of3 c214 Tryz.f214 0 26 (fun q => ?_)
  unfold laws_eqByteS
  refine J_g 2 [] [(0, sl 1 eU8 a1), (1, sl 1 eU8 a2)] [] orcN ?_
  refine J_g 12 [] [(0, sl 1 eU8 a1), (1, sl 1 eU8 a2), (10, bv ((a1.length : Int) != (a2.length : Int)))] [] orcN ?_
  refine J_if2 10 (fun h3 => ?_) (fun h3 => ?_)
  · refine J_g 52 [] [(4, bv false)] [] orcN ?_
    exact J_r1 rfl
  · refine J_g 28 [] [(0, sl 1 eU8 a1), (1, sl 1 eU8 a2), (5, iv 0)] [] orcN ?_
    refine J_lqF (K0 := (fun r : Bool => some (bv r, []))) (fun _ => rfl) (laws_eqByteS_l1.ok a1 a2 q _ (fun v17 => J_j ?_) 0)
    refine J_g 30 [] [(4, bv true)] [] orcN ?_
    exact J_r1 rfl

noncomputable def c146 : Code := (Tryz.f146.body).getD .skip

theorem laws_eqFile.ok (a1 : File) (a2 : File) : Ok Tryz.prog 146 [.ag (File.enc false a1), .ag (File.enc false a2)] [] ((laws_eqFile a1 a2).map fun r => (bv r, [])) := by
  refine Ok_of3 c146 Tryz.f146 0 16 (fun q => ?_)
  unfold laws_eqFile
  refine J_g 2 [(0, 0), (1, 1)] [(2, pp 0), (3, pp 1)] [(0, .box (File.enc false a1)), (1, .box (File.enc false a2))] orcN ?_
  refine J_g 12 [] [(2, pp 0), (3, pp 1), (9, bv (!(seq a1.Path a2.Path)))] [(0, .box (File.enc false a1)), (1, .box (File.enc false a2))] orcN ?_
  refine J_if2 9 (fun h3 => ?_) (fun h3 => ?_)
  · refine J_g 52 [] [(4, bv false)] [] orcN ?_
    exact J_r1 rfl
  · refine J_bind (fun x4 h5 => ?_)
    refine J_g 28 [] [(15, bv (!x4))] [] (orcC 4 (x_c0 [(.tmp 11), (.tmp 13)] [121, 121] (laws_eqByteS.ok a1.Data a2.Data) h5) orcN) ?_
    refine J_if2 15 (fun h6 => ?_) (fun h6 => ?_)
    · refine J_g 116 [] [(4, bv false)] [] orcN ?_
      exact J_r1 rfl
    · refine J_g 30 [] [(4, bv true)] [] orcN ?_
      exact J_r1 rfl

noncomputable def c70 : Code := (Tryz.f70.body).getD .skip

theorem laws_eqFileS_l1.ok (a1 : (List File)) (a2 : (List File)) (q : Wd) (kn : Unit → Option (D × List Ent)) (hk : ∀ v : Unit, J (q.g Tryz.prog 70 0 27) c70 (atI c70 15) (St.mk' [] []) (some v) kn) :
    ∀ s12 : Int, J (q.g Tryz.prog 70 0 27) c70 (atI c70 116) (St.mk' [(0, sl 2 (File.enc false) a1), (1, sl 2 (File.enc false) a2), (5, iv s12)] []) (laws_eqFileS_l1 a1 a2 s12) (Fl.go (fun r : Bool => some (bv r, [])) kn) := by
  refine J_lp (fun g ih s12 => ?_)
  unfold laws_eqFileS_l1b
  refine J_g 464 [] [(0, sl 2 (File.enc false) a1), (1, sl 2 (File.enc false) a2), (5, iv s12), (14, bv (decide (s12 < (a1.length : Int))))] [] orcN ?_
  refine J_if2 14 (fun h13 => ?_) (fun h13 => ?_)
  · refine J_bind (fun x14 h15 => ?_)
    refine J_bind (fun x16 h17 => ?_)
    refine J_bind (fun x18 h19 => ?_)
    refine J_g 1864 [] [(0, sl 2 (File.enc false) a1), (1, sl 2 (File.enc false) a2), (5, iv s12), (26, bv (!x18))] [] (orcC 2 (x_ix (kk := .i64) 31 138 2 (File.enc false) (.tmp 17) (.tmp 18) h15) (orcC 6 (x_ix (kk := .i64) 31 138 2 (File.enc false) (.tmp 21) (.tmp 22) h17) (orcC 8 (x_c0 [(.tmp 20), (.tmp 24)] [138, 138] (laws_eqFile.ok x14 x16) h19) orcN))) ?_
    refine J_if2 26 (fun h20 => ?_) (fun h20 => ?_)
    · refine J_g 7460 [] [(4, bv false)] [] orcN ?_
      exact J_r1 rfl
    · refine J_g 467 [] [(0, sl 2 (File.enc false) a1), (1, sl 2 (File.enc false) a2), (5, iv (w64 (s12 + 1)))] [] orcN ?_
      exact J_q (J_b (ih (w64 (s12 + 1)))) rfl
  · exact J_qw (hk ()) rfl

theorem laws_eqFileS.ok (a1 : (List File)) (a2 : (List File)) : Ok Tryz.prog 70 [sl 2 (File.enc false) a1, sl 2 (File.enc false) a2] [] ((laws_eqFileS a1 a2).map fun r => (bv r, [])) := by
  refine Ok_of3 c70 Tryz.f70 0 27 (fun q => ?_)
  unfold laws_eqFileS
  refine J_g 2 [] [(0, sl 2 (File.enc false) a1), (1, sl 2 (File.enc false) a2)] [] orcN ?_
  refine J_g 12 [] [(0, sl 2 (File.enc false) a1), (1, sl 2 (File.enc false) a2), (10, bv ((a1.length : Int) != (a2.length : Int)))] [] orcN ?_
  refine J_if2 10 (fun h3 => ?_) (fun h3 => ?_)
  · refine J_g 52 [] [(4, bv false)] [] orcN ?_
    exact J_r1 rfl
  · refine J_g 28 [] [(0, sl 2 (File.enc false) a1), (1, sl 2 (File.enc false) a2), (5, iv 0)] [] orcN ?_
    refine J_lqF (K0 := (fun r : Bool => some (bv r, []))) (fun _ => rfl) (laws_eqFileS_l1.ok a1 a2 q _ (fun v21 => J_j ?_) 0)
    refine J_g 30 [] [(4, bv true)] [] orcN ?_
    exact J_r1 rfl

noncomputable def c22 : Code := (Tryz.f22.body).getD .skip

theorem laws_eqDisk.ok (a1 : Disk) (a2 : Disk) : Ok Tryz.prog 22 [.ag (Disk.enc false a1), .ag (Disk.enc false a2)] [] ((laws_eqDisk a1 a2).map fun r => (bv r, [])) := by
  refine Ok_of3 c22 Tryz.f22 0 31 (fun q => ?_)
  unfold laws_eqDisk
  refine J_g 2 [(0, 0), (1, 1)] [(2, pp 0), (3, pp 1)] [(0, .box (Disk.enc false a1)), (1, .box (Disk.enc false a2))] orcN ?_
  refine J_bind (fun x3 h4 => ?_)
  refine J_g 12 [] [(2, pp 0), (3, pp 1), (10, bv (!x3))] [(0, .box (Disk.enc false a1)), (1, .box (Disk.enc false a2))] (orcC 4 (x_c0 [(.tmp 6), (.tmp 8)] [31, 31] (laws_eqFileS.ok a1.Files a2.Files) h4) orcN) ?_
  refine J_if2 10 (fun h5 => ?_) (fun h5 => ?_)
  · refine J_g 52 [] [(4, bv false)] [] orcN ?_
    exact J_r1 rfl
  · refine J_g 28 [] [(2, pp 0), (3, pp 1), (15, bv (a1.Budget != a2.Budget))] [(0, .box (Disk.enc false a1)), (1, .box (Disk.enc false a2))] orcN ?_
    refine J_if2 15 (fun h6 => ?_) (fun h6 => ?_)
    · refine J_g 116 [] [(4, bv false)] [] orcN ?_
      exact J_r1 rfl
    · refine J_g 60 [] [(2, pp 0), (3, pp 1), (20, bv (a1.Writes != a2.Writes))] [(0, .box (Disk.enc false a1)), (1, .box (Disk.enc false a2))] orcN ?_
      refine J_if2 20 (fun h7 => ?_) (fun h7 => ?_)
      · refine J_g 244 [] [(4, bv false)] [] orcN ?_
        exact J_r1 rfl
      · refine J_g 124 [] [(2, pp 0), (3, pp 1), (25, bv (a1.Stop != a2.Stop))] [(0, .box (Disk.enc false a1)), (1, .box (Disk.enc false a2))] orcN ?_
        refine J_if2 25 (fun h8 => ?_) (fun h8 => ?_)
        · refine J_g 500 [] [(4, bv false)] [] orcN ?_
          exact J_r1 rfl
        · refine J_g 252 [] [(30, bv (!(a1.Down == a2.Down)))] [] orcN ?_
          refine J_if2 30 (fun h9 => ?_) (fun h9 => ?_)
          · refine J_g 1012 [] [(4, bv false)] [] orcN ?_
            exact J_r1 rfl
          · refine J_g 254 [] [(4, bv true)] [] orcN ?_
            exact J_r1 rfl

noncomputable def c12 : Code := (Tryz.f12.body).getD .skip

theorem laws_eqSystem.ok (a1 : System) (a2 : System) : Ok Tryz.prog 12 [.ag (System.enc false a1), .ag (System.enc false a2)] [] ((laws_eqSystem a1 a2).map fun r => (bv r, [])) := by
  refine Ok_of3 c12 Tryz.f12 0 17 (fun q => ?_)
  unfold laws_eqSystem
  refine J_g 2 [(0, 0), (1, 1)] [(2, pp 0), (3, pp 1)] [(0, .box (System.enc false a1)), (1, .box (System.enc false a2))] orcN ?_
  refine J_bind (fun x3 h4 => ?_)
  refine J_g 12 [] [(2, pp 0), (3, pp 1), (10, bv (!x3))] [(0, .box (System.enc false a1)), (1, .box (System.enc false a2))] (orcC 4 (x_c0 [(.tmp 6), (.tmp 8)] [30, 30] (laws_eqPackS.ok a1.Catalog a2.Catalog) h4) orcN) ?_
  refine J_if2 10 (fun h5 => ?_) (fun h5 => ?_)
  · refine J_g 52 [] [(4, bv false)] [] orcN ?_
    exact J_r1 rfl
  · refine J_bind (fun x6 h7 => ?_)
    refine J_g 28 [] [(16, bv (!x6))] [] (orcC 4 (x_c0 [(.tmp 12), (.tmp 14)] [33, 33] (laws_eqDisk.ok a1.Disk a2.Disk) h7) orcN) ?_
    refine J_if2 16 (fun h8 => ?_) (fun h8 => ?_)
    · refine J_g 116 [] [(4, bv false)] [] orcN ?_
      exact J_r1 rfl
    · refine J_g 30 [] [(4, bv true)] [] orcN ?_
      exact J_r1 rfl

end Go.Told

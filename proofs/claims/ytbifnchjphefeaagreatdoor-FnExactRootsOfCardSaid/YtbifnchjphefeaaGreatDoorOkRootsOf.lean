import Derived.Test.YtbifnchjphefeaaGreatDoorOkRootsOfx1
set_option linter.unusedVariables false
set_option maxRecDepth 4000
namespace Go.Told
open Go Go.Im Go.Proofs

noncomputable def c77 : Code := (Tryz.f77.body).getD .skip

theorem laws_heldTermS_l1.ok (a1 : (List Term)) (q : Wd) (kn : Int → Option (D × List Ent)) (hk : ∀ v : Int, J (q.g Tryz.prog 77 0 83) c77 (atI c77 7) (St.mk' [(1, iv v)] []) (some v) kn) :
    ∀ s27 : (Int × Int), J (q.g Tryz.prog 77 0 83) c77 (atI c77 52) (St.mk' [(0, sl 7 Term.enc a1), (1, iv s27.1), (5, iv s27.2)] []) (laws_heldTermS_l1 a1 s27) (Fl.go (fun r : Int => some (iv r, [])) kn) := by
  refine J_lp (fun g ih s27 => ?_)
  unfold laws_heldTermS_l1b
  refine J_g 208 [] [(0, sl 7 Term.enc a1), (1, iv s27.1), (5, iv s27.2), (9, bv (decide (s27.2 < (a1.length : Int))))] [] orcN ?_
  refine J_if2 9 (fun h28 => ?_) (fun h28 => ?_)
  · refine J_bind (fun x29 h30 => ?_)
    refine J_bind (fun x31 h32 => ?_)
    refine J_g 1680 [] [(0, sl 7 Term.enc a1), (1, iv s27.1), (5, iv s27.2), (19, bv (!(seq x29.Name x31)))] [] (orcC 2 (x_ix (kk := .i64) 31 89 7 Term.enc (.tmp 12) (.tmp 13) h30) (orcC 6 (x_c0 [(.tmp 17)] [3] (laws_markText.ok s27.1) h32) orcN)) ?_
    refine J_if2 19 (fun h33 => ?_) (fun h33 => ?_)
    · refine J_g 6724 [] [(4, iv (-1))] [] orcN ?_
      exact J_r1 rfl
    · refine J_g 1682 [] [(0, sl 7 Term.enc a1), (1, iv (w64 (s27.1 + 1))), (5, iv s27.2)] [] orcN ?_
      refine J_bind (fun x34 h35 => ?_)
      refine J_g 6732 [] [(0, sl 7 Term.enc a1), (1, iv (w64 (s27.1 + 1))), (5, iv s27.2), (29, bv (x34.Low.A != (w64 (s27.1 + 1))))] [] (orcC 2 (x_ix (kk := .i64) 31 89 7 Term.enc (.tmp 22) (.tmp 23) h35) orcN) ?_
      refine J_if2 29 (fun h36 => ?_) (fun h36 => ?_)
      · refine J_g 26932 [] [(4, iv (-1))] [] orcN ?_
        exact J_r1 rfl
      · refine J_g 6734 [] [(0, sl 7 Term.enc a1), (1, iv (w64 ((w64 (s27.1 + 1)) + 1))), (5, iv s27.2)] [] orcN ?_
        refine J_bind (fun x37 h38 => ?_)
        refine J_g 26940 [] [(0, sl 7 Term.enc a1), (1, iv (w64 ((w64 (s27.1 + 1)) + 1))), (5, iv s27.2), (39, bv (x37.Low.B != (w64 ((w64 (s27.1 + 1)) + 1))))] [] (orcC 2 (x_ix (kk := .i64) 31 89 7 Term.enc (.tmp 32) (.tmp 33) h38) orcN) ?_
        refine J_if2 39 (fun h39 => ?_) (fun h39 => ?_)
        · refine J_g 107764 [] [(4, iv (-1))] [] orcN ?_
          exact J_r1 rfl
        · refine J_g 26942 [] [(0, sl 7 Term.enc a1), (1, iv (w64 ((w64 ((w64 (s27.1 + 1)) + 1)) + 1))), (5, iv s27.2)] [] orcN ?_
          refine J_bind (fun x40 h41 => ?_)
          refine J_g 107772 [] [(0, sl 7 Term.enc a1), (1, iv (w64 ((w64 ((w64 (s27.1 + 1)) + 1)) + 1))), (5, iv s27.2), (49, bv (x40.Low.C != (w64 ((w64 ((w64 (s27.1 + 1)) + 1)) + 1))))] [] (orcC 2 (x_ix (kk := .i64) 31 89 7 Term.enc (.tmp 42) (.tmp 43) h41) orcN) ?_
          refine J_if2 49 (fun h42 => ?_) (fun h42 => ?_)
          · refine J_g 431092 [] [(4, iv (-1))] [] orcN ?_
            exact J_r1 rfl
          · refine J_g 107774 [] [(0, sl 7 Term.enc a1), (1, iv (w64 ((w64 ((w64 ((w64 (s27.1 + 1)) + 1)) + 1)) + 1))), (5, iv s27.2)] [] orcN ?_
            refine J_bind (fun x43 h44 => ?_)
            refine J_g 431100 [] [(0, sl 7 Term.enc a1), (1, iv (w64 ((w64 ((w64 ((w64 (s27.1 + 1)) + 1)) + 1)) + 1))), (5, iv s27.2), (59, bv (x43.High.A != (w64 ((w64 ((w64 ((w64 (s27.1 + 1)) + 1)) + 1)) + 1))))] [] (orcC 2 (x_ix (kk := .i64) 31 89 7 Term.enc (.tmp 52) (.tmp 53) h44) orcN) ?_
            refine J_if2 59 (fun h45 => ?_) (fun h45 => ?_)
            · refine J_g 1724404 [] [(4, iv (-1))] [] orcN ?_
              exact J_r1 rfl
            · refine J_g 431102 [] [(0, sl 7 Term.enc a1), (1, iv (w64 ((w64 ((w64 ((w64 ((w64 (s27.1 + 1)) + 1)) + 1)) + 1)) + 1))), (5, iv s27.2)] [] orcN ?_
              refine J_bind (fun x46 h47 => ?_)
              refine J_g 1724412 [] [(0, sl 7 Term.enc a1), (1, iv (w64 ((w64 ((w64 ((w64 ((w64 (s27.1 + 1)) + 1)) + 1)) + 1)) + 1))), (5, iv s27.2), (69, bv (x46.High.B != (w64 ((w64 ((w64 ((w64 ((w64 (s27.1 + 1)) + 1)) + 1)) + 1)) + 1))))] [] (orcC 2 (x_ix (kk := .i64) 31 89 7 Term.enc (.tmp 62) (.tmp 63) h47) orcN) ?_
              refine J_if2 69 (fun h48 => ?_) (fun h48 => ?_)
              · refine J_g 6897652 [] [(4, iv (-1))] [] orcN ?_
                exact J_r1 rfl
              · refine J_g 1724414 [] [(0, sl 7 Term.enc a1), (1, iv (w64 ((w64 ((w64 ((w64 ((w64 ((w64 (s27.1 + 1)) + 1)) + 1)) + 1)) + 1)) + 1))), (5, iv s27.2)] [] orcN ?_
                refine J_bind (fun x49 h50 => ?_)
                refine J_g 6897660 [] [(0, sl 7 Term.enc a1), (1, iv (w64 ((w64 ((w64 ((w64 ((w64 ((w64 (s27.1 + 1)) + 1)) + 1)) + 1)) + 1)) + 1))), (5, iv s27.2), (79, bv (x49.High.C != (w64 ((w64 ((w64 ((w64 ((w64 ((w64 (s27.1 + 1)) + 1)) + 1)) + 1)) + 1)) + 1))))] [] (orcC 2 (x_ix (kk := .i64) 31 89 7 Term.enc (.tmp 72) (.tmp 73) h50) orcN) ?_
                refine J_if2 79 (fun h51 => ?_) (fun h51 => ?_)
                · refine J_g 27590644 [] [(4, iv (-1))] [] orcN ?_
                  exact J_r1 rfl
                · refine J_g 3448831 [] [(0, sl 7 Term.enc a1), (1, iv (w64 ((w64 ((w64 ((w64 ((w64 ((w64 ((w64 (s27.1 + 1)) + 1)) + 1)) + 1)) + 1)) + 1)) + 1))), (5, iv s27.2)] [] orcN ?_
                  refine J_g 211 [] [(0, sl 7 Term.enc a1), (1, iv (w64 ((w64 ((w64 ((w64 ((w64 ((w64 ((w64 (s27.1 + 1)) + 1)) + 1)) + 1)) + 1)) + 1)) + 1))), (5, iv (w64 (s27.2 + 1)))] [] orcN ?_
                  exact J_q (J_b (ih (w64 ((w64 ((w64 ((w64 ((w64 ((w64 ((w64 (s27.1 + 1)) + 1)) + 1)) + 1)) + 1)) + 1)) + 1), w64 (s27.2 + 1)))) rfl
  · exact J_qw (hk s27.1) rfl

theorem laws_heldTermS.ok (a1 : (List Term)) (a2 : Int) : Ok Tryz.prog 77 [sl 7 Term.enc a1, iv a2] [] ((laws_heldTermS a1 a2).map fun r => (iv r, [])) := by
  refine Ok_of3 c77 Tryz.f77 0 83 (fun q => ?_)
  unfold laws_heldTermS
  refine J_g 2 [] [(0, sl 7 Term.enc a1), (1, iv a2)] [] orcN ?_
  refine J_g 12 [] [(0, sl 7 Term.enc a1), (1, iv a2), (5, iv 0)] [] orcN ?_
  refine J_lqF (K0 := (fun r : Int => some (iv r, []))) (fun _ => rfl) (laws_heldTermS_l1.ok a1 q _ (fun v52 => J_j ?_) (a2, 0))
  refine J_g 14 [] [(4, iv v52)] [] orcN ?_
  exact J_r1 rfl

noncomputable def c38 : Code := (Tryz.f38.body).getD .skip

theorem laws_heldAsksResult.ok (a1 : AsksResult) (a2 : Int) : Ok Tryz.prog 38 [.ag (AsksResult.enc false a1), iv a2] [] ((laws_heldAsksResult a1 a2).map fun r => (iv r, [])) := by
  refine Ok_of3 c38 Tryz.f38 0 12 (fun q => ?_)
  unfold laws_heldAsksResult
  refine J_g 2 [(0, 0)] [(1, iv a2), (2, pp 0)] [(0, .box (AsksResult.enc false a1))] orcN ?_
  refine J_bind (fun x3 h4 => ?_)
  refine J_g 6 [] [(1, iv x3)] [] (orcC 3 (x_c0 [(.tmp 6), (.tmp 7)] [31, 3] (laws_heldTermS.ok a1.Asks a2) h4) orcN) ?_
  refine J_g 28 [] [(1, iv x3), (10, bv (decide (x3 < 0)))] [] orcN ?_
  refine J_if2 10 (fun h5 => ?_) (fun h5 => ?_)
  · refine J_g 116 [] [(4, iv (-1))] [] orcN ?_
    exact J_r1 rfl
  · refine J_g 30 [] [(4, iv x3)] [] orcN ?_
    exact J_r1 rfl

noncomputable def c6 : Code := (Tryz.f6.body).getD .skip

theorem laws_FnExactRootsOf.ok (a1 : Disk) : Ok Tryz.prog 6 [.ag (Disk.enc false a1)] [] ((laws_FnExactRootsOf a1).map fun r => (bv r, [])) := by
  refine Ok_of3 c6 Tryz.f6 0 69 (fun q => ?_)
  unfold laws_FnExactRootsOf
  refine J_g 2 [(0, 0)] [(1, pp 0)] [(0, .box (Disk.enc false a1))] orcN ?_
  refine J_g 6 [] [(1, pp 0), (3, iv 1048576)] [(0, .box (Disk.enc false a1))] orcN ?_
  refine J_bind (fun x2 h3 => ?_)
  refine J_g 14 [] [(1, pp 0), (3, iv x2)] [(0, .box (Disk.enc false a1))] (orcC 2 (x_c0 [(.tmp 11), (.tmp 12)] [40, 3] (laws_szDisk.ok a1 1048576) h3) orcN) ?_
  refine J_g 60 [] [(1, pp 0), (15, bv (decide (x2 < 0)))] [(0, .box (Disk.enc false a1))] orcN ?_
  refine J_if2 15 (fun h4 => ?_) (fun h4 => ?_)
  · refine J_g 244 [] [(2, bv true)] [] orcN ?_
    exact J_r1 rfl
  · refine J_bind (fun x5 h6 => ?_)
    refine J_bind (fun x7 h8 => ?_)
    refine J_g 62 [(3, 3)] [(1, pp 0), (4, pp 3)] [(0, .box (Disk.enc false a1)), (2, rE 7 Term.enc x7.Asks), (3, .box [iv x7.Code, rr 2 x7.Asks])] (orcC 1 (x_c1 («as» := [.ag (Disk.enc false a1)]) [(.tmp 16)] [40] false [] [] (.cons (.same rfl) (.nil)) (laws_toDisk.ok a1) h6 (.ag (.cons (.own 1) (.cons (.same rfl rfl) (.cons (.same rfl rfl) (.cons (.same rfl rfl) (.cons (.same rfl rfl) (.nil)))))))) (orcC 2 (x_c1 («as» := [.ag [rr 1 x5.Files, iv x5.Budget, iv x5.Writes, iv x5.Stop, bv x5.Down]]) [(.tmp 17)] [46] true [(1, rE 2 (File.enc true) x5.Files)] [] (.cons (.ag (.cons (am_b (.head _) (File.ro true) rfl) (.cons (.same rfl) (.cons (.same rfl) (.cons (.same rfl) (.cons (.same rfl) (.nil))))))) (.nil)) (spec_RootsOf.ok x5) h8 (.ag (.cons (.same rfl rfl) (.cons (.own 2) (.nil)))) (hbor := fun _ => ⟨rfl, (flat_ag (AsksResult.fl _))⟩)) orcN)) ?_
    refine J_bind (fun x9 h10 => ?_)
    refine J_g 126 [(2, 5)] [(1, pp 0), (4, pp 3), (5, pp 5)] [(0, .box (Disk.enc false a1)), (2, rE 7 Term.enc x7.Asks), (3, .box [iv x7.Code, rr 2 x7.Asks]), (4, rE 2 (File.enc true) x9.Files), (5, .box [rr 4 x9.Files, iv x9.Budget, iv x9.Writes, iv x9.Stop, bv x9.Down])] (orcC 1 (x_c1 («as» := [.ag (Disk.enc false a1)]) [(.tmp 19)] [40] false [] [] (.cons (.same rfl) (.nil)) (laws_toDisk.ok a1) h10 (.ag (.cons (.own 4) (.cons (.same rfl rfl) (.cons (.same rfl rfl) (.cons (.same rfl rfl) (.cons (.same rfl rfl) (.nil)))))))) orcN) ?_
    refine J_bind (fun x11 h12 => ?_)
    refine J_g 254 [(2, 7)] [(1, pp 0), (4, pp 3), (5, pp 5), (6, pp 7)] [(0, .box (Disk.enc false a1)), (2, rE 7 Term.enc x7.Asks), (3, .box [iv x7.Code, rr 2 x7.Asks]), (4, rE 2 (File.enc true) x9.Files), (5, .box [rr 4 x9.Files, iv x9.Budget, iv x9.Writes, iv x9.Stop, bv x9.Down]), (6, rE 7 Term.enc x11.Asks), (7, .box [iv x11.Code, rr 6 x11.Asks])] (orcC 1 (x_c1 («as» := [.ag [rr 4 x9.Files, iv x9.Budget, iv x9.Writes, iv x9.Stop, bv x9.Down]]) [(.tmp 21)] [46] true [(4, rE 2 (File.enc true) x9.Files)] [] (.cons (.ag (.cons (am_b (.head _) (File.ro true) rfl) (.cons (.same rfl) (.cons (.same rfl) (.cons (.same rfl) (.cons (.same rfl) (.nil))))))) (.nil)) (impl_RootsOf.ok x9) h12 (.ag (.cons (.same rfl rfl) (.cons (.own 6) (.nil)))) (hbor := fun _ => ⟨rfl, (flat_ag (AsksResult.fl _))⟩)) orcN) ?_
    refine J_bind (fun x13 h14 => ?_)
    refine J_g 1020 [] [(1, pp 0), (4, pp 3), (5, pp 5), (6, pp 7), (26, bv (!x13))] [(0, .box (Disk.enc false a1)), (2, rE 7 Term.enc x7.Asks), (3, .box [iv x7.Code, rr 2 x7.Asks]), (4, rE 2 (File.enc true) x9.Files), (5, .box [rr 4 x9.Files, iv x9.Budget, iv x9.Writes, iv x9.Stop, bv x9.Down]), (6, rE 7 Term.enc x11.Asks), (7, .box [iv x11.Code, rr 6 x11.Asks])] (orcC 2 (x_c1 («as» := [.ag [iv x11.Code, rr 6 x11.Asks], .ag [iv x7.Code, rr 2 x7.Asks]]) [(.tmp 23), (.tmp 24)] [61, 61] true [(6, rE 7 Term.enc x11.Asks), (2, rE 7 Term.enc x7.Asks)] [] (.cons (.ag (.cons (.same rfl) (.cons (am_b (.head _) (fun _ => rfl) rfl) (.nil)))) (.cons (.ag (.cons (.same rfl) (.cons (am_b (.tail _ (.head _)) (fun _ => rfl) rfl) (.nil)))) (.nil))) (laws_eqAsksResult.ok x11 x7) h14 (.same rfl rfl) (hbor := fun _ => ⟨rfl, flat_sc⟩)) orcN) ?_
    refine J_if2 26 (fun h15 => ?_) (fun h15 => ?_)
    · refine J_g 4084 [] [(2, bv false)] [] orcN ?_
      exact J_r1 rfl
    · refine J_bind (fun x16 h17 => ?_)
      refine J_bind (fun x18 h19 => ?_)
      refine J_g 2044 [] [(1, pp 0), (4, pp 3), (5, pp 5), (6, pp 7), (31, bv (!x18))] [(0, .box (Disk.enc false a1)), (2, rE 7 Term.enc x7.Asks), (3, .box [iv x7.Code, rr 2 x7.Asks]), (4, rE 2 (File.enc true) x9.Files), (5, .box [rr 4 x9.Files, iv x9.Budget, iv x9.Writes, iv x9.Stop, bv x9.Down]), (6, rE 7 Term.enc x11.Asks), (7, .box [iv x11.Code, rr 6 x11.Asks])] (orcC 2 (x_c1 («as» := [.ag (Disk.enc false a1)]) [(.tmp 28)] [40] false [] [] (.cons (.same rfl) (.nil)) (laws_toDisk.ok a1) h17 (.ag (.cons (.own 8) (.cons (.same rfl rfl) (.cons (.same rfl rfl) (.cons (.same rfl rfl) (.cons (.same rfl rfl) (.nil)))))))) (orcC 3 (x_c1 («as» := [.ag [rr 4 x9.Files, iv x9.Budget, iv x9.Writes, iv x9.Stop, bv x9.Down], .ag [rr 8 x16.Files, iv x16.Budget, iv x16.Writes, iv x16.Stop, bv x16.Down]]) [(.tmp 27), (.tmp 29)] [46, 46] true [(4, rE 2 (File.enc true) x9.Files), (8, rE 2 (File.enc true) x16.Files)] [] (.cons (.ag (.cons (am_b (.head _) (File.ro true) rfl) (.cons (.same rfl) (.cons (.same rfl) (.cons (.same rfl) (.cons (.same rfl) (.nil))))))) (.cons (.ag (.cons (am_b (.tail _ (.head _)) (File.ro true) rfl) (.cons (.same rfl) (.cons (.same rfl) (.cons (.same rfl) (.cons (.same rfl) (.nil))))))) (.nil))) (laws_eqDisk.ok x9 x16) h19 (.same rfl rfl) (hbor := fun _ => ⟨rfl, flat_sc⟩)) orcN)) ?_
      refine J_if2 31 (fun h20 => ?_) (fun h20 => ?_)
      · refine J_g 8180 [] [(2, bv false)] [] orcN ?_
        exact J_r1 rfl
      · refine J_g 2046 [] [(1, pp 0), (4, pp 3), (5, pp 5), (6, pp 7), (7, iv 1)] [(0, .box (Disk.enc false a1)), (2, rE 7 Term.enc x7.Asks), (3, .box [iv x7.Code, rr 2 x7.Asks]), (4, rE 2 (File.enc true) x9.Files), (5, .box [rr 4 x9.Files, iv x9.Budget, iv x9.Writes, iv x9.Stop, bv x9.Down]), (6, rE 7 Term.enc x11.Asks), (7, .box [iv x11.Code, rr 6 x11.Asks])] orcN ?_
        refine J_bind (fun x21 h22 => ?_)
        refine J_g 4094 [] [(1, pp 0), (4, pp 3), (6, pp 7), (7, iv x21.1)] [(0, .box (Disk.enc false a1)), (2, rE 7 Term.enc x7.Asks), (3, .box [iv x7.Code, rr 2 x7.Asks]), (6, rE 7 Term.enc x11.Asks), (7, .box [iv x11.Code, rr 6 x11.Asks])] (orcC 2 (x_c1 («as» := [.ag [rr 4 x9.Files, iv x9.Budget, iv x9.Writes, iv x9.Stop, bv x9.Down], iv 1]) [(.tmp 32), (.tmp 33)] [46, 3] false [(4, rE 2 (File.enc true) x9.Files)] [4] (.cons (.ag (.cons (.rf rfl) (.cons (.same rfl) (.cons (.same rfl) (.cons (.same rfl) (.cons (.same rfl) (.nil))))))) (.cons (.same rfl) (.nil))) (laws_markDiskg.ok x9 1) h22 (.same rfl rfl)) orcN) ?_
        refine J_join (atI c6 16381) (fun v26 : Bool => St.mk' [(1, pp 0), (4, pp 3), (6, pp 7), (42, bv v26)] [(0, .box (Disk.enc false a1)), (2, rE 7 Term.enc x7.Asks), (3, .box [iv x7.Code, rr 2 x7.Asks]), (6, rE 7 Term.enc x11.Asks), (7, .box [iv x11.Code, rr 6 x11.Asks])]) (fun v26 => ?_) (fun jv26 => ?_)
        · refine J_if2 42 (fun h27 => ?_) (fun h27 => ?_)
          · refine J_g 65524 [] [(2, bv false)] [] orcN ?_
            exact J_r1 rfl
          · refine J_g 16382 [] [(1, pp 0), (4, pp 3), (6, pp 7), (8, iv 1)] [(0, .box (Disk.enc false a1)), (2, rE 7 Term.enc x7.Asks), (3, .box [iv x7.Code, rr 2 x7.Asks]), (6, rE 7 Term.enc x11.Asks), (7, .box [iv x11.Code, rr 6 x11.Asks])] orcN ?_
            refine J_bind (fun x28 h29 => ?_)
            refine J_g 32766 [] [(1, pp 0), (4, pp 3), (6, pp 7), (8, iv x28.1)] [(0, .box (Disk.enc false a1)), (2, rE 7 Term.enc x7.Asks), (3, .box [iv x7.Code, rr 2 x7.Asks]), (6, rE 7 Term.enc x28.2), (7, .box [iv x11.Code, rr 6 x11.Asks])] (orcC 2 (x_c1 («as» := [.ag [iv x11.Code, rr 6 x11.Asks], iv 1]) [(.tmp 43), (.tmp 44)] [61, 3] false [(6, rE 7 Term.enc x11.Asks)] [6] (.cons (.ag (.cons (.same rfl) (.cons (.rf rfl) (.nil)))) (.cons (.same rfl) (.nil))) (laws_markAsksResultg.ok x11 1) h29 (.same rfl rfl)) orcN) ?_
            refine J_bind (fun u30 h31 => ?_)
            refine J_st (σ' := St.mk' [(1, pp 0), (4, pp 3), (6, pp 7), (8, iv x28.1)] [(0, .box (Disk.enc false a1)), (2, rE 7 Term.enc x7.Asks), (3, .box [iv x7.Code, rr 2 x7.Asks]), (6, rE 7 Term.enc x28.2), (7, .box [iv x11.Code, rr 6 x28.2])]) (by simp only [rr, same_len h31]) ?_
            refine J_g 65534 [] [(1, pp 0), (4, pp 3), (6, pp 7), (8, iv x28.1), (9, iv 1)] [(0, .box (Disk.enc false a1)), (2, rE 7 Term.enc x7.Asks), (3, .box [iv x7.Code, rr 2 x7.Asks]), (6, rE 7 Term.enc x28.2), (7, .box [iv x11.Code, rr 6 x28.2])] orcN ?_
            refine J_bind (fun x32 h33 => ?_)
            refine J_g 131070 [] [(1, pp 0), (4, pp 3), (6, pp 7), (8, iv x28.1), (9, iv x32)] [(0, .box (Disk.enc false a1)), (2, rE 7 Term.enc x7.Asks), (3, .box [iv x7.Code, rr 2 x7.Asks]), (6, rE 7 Term.enc x28.2), (7, .box [iv x11.Code, rr 6 x28.2])] (orcC 2 (x_c1 («as» := [.ag [iv x11.Code, rr 6 x28.2], iv 1]) [(.tmp 46), (.tmp 47)] [61, 3] true [(6, rE 7 Term.enc x28.2)] [] (.cons (.ag (.cons (.same rfl) (.cons (am_b (.head _) (fun _ => rfl) rfl) (.nil)))) (.cons (.same rfl) (.nil))) (laws_heldAsksResult.ok ({ Code := x11.Code, Asks := x28.2 } : AsksResult) 1) h33 (.same rfl rfl) (hbor := fun _ => ⟨rfl, flat_sc⟩)) orcN) ?_
            refine J_g 524284 [] [(1, pp 0), (4, pp 3), (6, pp 7), (8, iv x28.1), (9, iv x32), (50, bv (decide (x32 < 0)))] [(0, .box (Disk.enc false a1)), (2, rE 7 Term.enc x7.Asks), (3, .box [iv x7.Code, rr 2 x7.Asks]), (6, rE 7 Term.enc x28.2), (7, .box [iv x11.Code, rr 6 x28.2])] orcN ?_
            refine J_if2 50 (fun h34 => ?_) (fun h34 => ?_)
            · refine J_g 2097140 [] [(2, bv false)] [] orcN ?_
              exact J_r1 rfl
            · refine J_g 1048572 [] [(1, pp 0), (4, pp 3), (6, pp 7), (8, iv x28.1), (53, bv (x32 != x28.1))] [(0, .box (Disk.enc false a1)), (2, rE 7 Term.enc x7.Asks), (3, .box [iv x7.Code, rr 2 x7.Asks]), (6, rE 7 Term.enc x28.2), (7, .box [iv x11.Code, rr 6 x28.2])] orcN ?_
              refine J_if2 53 (fun h35 => ?_) (fun h35 => ?_)
              · refine J_g 4194292 [] [(2, bv false)] [] orcN ?_
                exact J_r1 rfl
              · refine J_bind (fun x36 h37 => ?_)
                refine J_bind (fun x38 h39 => ?_)
                refine J_g 1048574 [(3, 10)] [(4, pp 3), (6, pp 7), (8, iv x28.1), (10, pp 10)] [(2, rE 7 Term.enc x7.Asks), (3, .box [iv x7.Code, rr 2 x7.Asks]), (6, rE 7 Term.enc x28.2), (7, .box [iv x11.Code, rr 6 x28.2]), (9, rE 7 Term.enc x38.Asks), (10, .box [iv x38.Code, rr 9 x38.Asks])] (orcC 1 (x_c1 («as» := [.ag (Disk.enc false a1)]) [(.tmp 54)] [40] false [] [] (.cons (.same rfl) (.nil)) (laws_toDisk.ok a1) h37 (.ag (.cons (.own 8) (.cons (.same rfl rfl) (.cons (.same rfl rfl) (.cons (.same rfl rfl) (.cons (.same rfl rfl) (.nil)))))))) (orcC 2 (x_c1 («as» := [.ag [rr 8 x36.Files, iv x36.Budget, iv x36.Writes, iv x36.Stop, bv x36.Down]]) [(.tmp 55)] [46] true [(8, rE 2 (File.enc true) x36.Files)] [] (.cons (.ag (.cons (am_b (.head _) (File.ro true) rfl) (.cons (.same rfl) (.cons (.same rfl) (.cons (.same rfl) (.cons (.same rfl) (.nil))))))) (.nil)) (impl_RootsOf.ok x36) h39 (.ag (.cons (.same rfl rfl) (.cons (.own 9) (.nil)))) (hbor := fun _ => ⟨rfl, (flat_ag (AsksResult.fl _))⟩)) orcN)) ?_
                refine J_bind (fun x40 h41 => ?_)
                refine J_g 4194300 [] [(6, pp 7), (8, iv x28.1), (60, bv (!x40))] [(6, rE 7 Term.enc x28.2), (7, .box [iv x11.Code, rr 6 x28.2])] (orcC 2 (x_c1 («as» := [.ag [iv x38.Code, rr 9 x38.Asks], .ag [iv x7.Code, rr 2 x7.Asks]]) [(.tmp 57), (.tmp 58)] [61, 61] true [(9, rE 7 Term.enc x38.Asks), (2, rE 7 Term.enc x7.Asks)] [] (.cons (.ag (.cons (.same rfl) (.cons (am_b (.head _) (fun _ => rfl) rfl) (.nil)))) (.cons (.ag (.cons (.same rfl) (.cons (am_b (.tail _ (.head _)) (fun _ => rfl) rfl) (.nil)))) (.nil))) (laws_eqAsksResult.ok x38 x7) h41 (.same rfl rfl) (hbor := fun _ => ⟨rfl, flat_sc⟩)) orcN) ?_
                refine J_if2 60 (fun h42 => ?_) (fun h42 => ?_)
                · refine J_g 16777204 [] [(2, bv false)] [] orcN ?_
                  exact J_r1 rfl
                · refine J_g 4194302 [] [(6, pp 7), (8, iv x28.1), (9, iv 1)] [(6, rE 7 Term.enc x28.2), (7, .box [iv x11.Code, rr 6 x28.2])] orcN ?_
                  refine J_bind (fun x43 h44 => ?_)
                  refine J_g 8388606 [] [(8, iv x28.1), (9, iv x43)] [] (orcC 2 (x_c1 («as» := [.ag [iv x11.Code, rr 6 x28.2], iv 1]) [(.tmp 61), (.tmp 62)] [61, 3] true [(6, rE 7 Term.enc x28.2)] [] (.cons (.ag (.cons (.same rfl) (.cons (am_b (.head _) (fun _ => rfl) rfl) (.nil)))) (.cons (.same rfl) (.nil))) (laws_heldAsksResult.ok ({ Code := x11.Code, Asks := x28.2 } : AsksResult) 1) h44 (.same rfl rfl) (hbor := fun _ => ⟨rfl, flat_sc⟩)) orcN) ?_
                  refine J_g 33554428 [] [(8, iv x28.1), (9, iv x43), (65, bv (decide (x43 < 0)))] [] orcN ?_
                  refine J_if2 65 (fun h45 => ?_) (fun h45 => ?_)
                  · refine J_g 134217716 [] [(2, bv false)] [] orcN ?_
                    exact J_r1 rfl
                  · refine J_g 67108860 [] [(68, bv (x43 != x28.1))] [] orcN ?_
                    refine J_if2 68 (fun h46 => ?_) (fun h46 => ?_)
                    · refine J_g 268435444 [] [(2, bv false)] [] orcN ?_
                      exact J_r1 rfl
                    · refine J_g 67108862 [] [(2, bv true)] [] orcN ?_
                      exact J_r1 rfl
        · refine J_ite (fun h23 => ?_) (fun h23 => ?_)
          · refine J_g 16380 [] [(1, pp 0), (4, pp 3), (6, pp 7), (42, bv true)] [(0, .box (Disk.enc false a1)), (2, rE 7 Term.enc x7.Asks), (3, .box [iv x7.Code, rr 2 x7.Asks]), (6, rE 7 Term.enc x11.Asks), (7, .box [iv x11.Code, rr 6 x11.Asks])] (orcL 2 [(36, bv (decide (x21.1 < 0)))] [] h23 orcN) ?_
            exact J_qw (J_j (jv26 true)) rfl
          · refine J_bind (fun x24 h25 => ?_)
            refine J_g 16380 [] [(1, pp 0), (4, pp 3), (6, pp 7), (42, bv (!x24))] [(0, .box (Disk.enc false a1)), (2, rE 7 Term.enc x7.Asks), (3, .box [iv x7.Code, rr 2 x7.Asks]), (6, rE 7 Term.enc x11.Asks), (7, .box [iv x11.Code, rr 6 x11.Asks])] (orcL 2 [(36, bv (decide (x21.1 < 0)))] [] h23 (orcH 5 2 37 false (x_c1 («as» := [.ag [iv x11.Code, rr 6 x11.Asks], .ag [iv x7.Code, rr 2 x7.Asks]]) [(.tmp 38), (.tmp 39)] [61, 61] true [(6, rE 7 Term.enc x11.Asks), (2, rE 7 Term.enc x7.Asks)] [] (.cons (.ag (.cons (.same rfl) (.cons (am_b (.head _) (fun _ => rfl) rfl) (.nil)))) (.cons (.ag (.cons (.same rfl) (.cons (am_b (.tail _ (.head _)) (fun _ => rfl) rfl) (.nil)))) (.nil))) (laws_eqAsksResult.ok x11 x7) h25 (.same rfl rfl) (hbor := fun _ => ⟨rfl, flat_sc⟩)) orcN)) ?_
            exact J_qw (J_j (jv26 (!x24))) rfl

end Go.Told

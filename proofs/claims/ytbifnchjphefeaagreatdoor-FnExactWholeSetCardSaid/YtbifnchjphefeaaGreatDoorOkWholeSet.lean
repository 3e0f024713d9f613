import Derived.Test.YtbifnchjphefeaaGreatDoorOkWholeSetx1
set_option linter.unusedVariables false
set_option maxRecDepth 4000
namespace Go.Told
open Go Go.Im Go.Proofs

noncomputable def c57 : Code := (Tryz.f57.body).getD .skip

theorem laws_eqPack.ok (a1 : Pack) (a2 : Pack) : Ok Tryz.prog 57 [.ag (Pack.enc false a1), .ag (Pack.enc false a2)] [] ((laws_eqPack a1 a2).map fun r => (bv r, [])) := by
  refine Ok_of3 c57 Tryz.f57 0 39 (fun q => ?_)
  unfold laws_eqPack
  refine J_g 2 [(0, 0), (1, 1)] [(2, pp 0), (3, pp 1)] [(0, .box (Pack.enc false a1)), (1, .box (Pack.enc false a2))] orcN ?_
  refine J_g 12 [] [(2, pp 0), (3, pp 1), (9, bv (!(seq a1.Name a2.Name)))] [(0, .box (Pack.enc false a1)), (1, .box (Pack.enc false a2))] orcN ?_
  refine J_if2 9 (fun h3 => ?_) (fun h3 => ?_)
  · refine J_g 52 [] [(4, bv false)] [] orcN ?_
    exact J_r1 rfl
  · refine J_bind (fun x4 h5 => ?_)
    refine J_g 28 [] [(2, pp 0), (3, pp 1), (15, bv (!x4))] [(0, .box (Pack.enc false a1)), (1, .box (Pack.enc false a2))] (orcC 4 (x_c0 [(.tmp 11), (.tmp 13)] [83, 83] (laws_eqVersion.ok a1.Version a2.Version) h5) orcN) ?_
    refine J_if2 15 (fun h6 => ?_) (fun h6 => ?_)
    · refine J_g 116 [] [(4, bv false)] [] orcN ?_
      exact J_r1 rfl
    · refine J_g 60 [] [(2, pp 0), (3, pp 1), (20, bv (a1.Size != a2.Size))] [(0, .box (Pack.enc false a1)), (1, .box (Pack.enc false a2))] orcN ?_
      refine J_if2 20 (fun h7 => ?_) (fun h7 => ?_)
      · refine J_g 244 [] [(4, bv false)] [] orcN ?_
        exact J_r1 rfl
      · refine J_bind (fun x8 h9 => ?_)
        refine J_g 124 [] [(2, pp 0), (3, pp 1), (26, bv (!x8))] [(0, .box (Pack.enc false a1)), (1, .box (Pack.enc false a2))] (orcC 4 (x_c0 [(.tmp 22), (.tmp 24)] [73, 73] (laws_eqStringS.ok a1.Provides a2.Provides) h9) orcN) ?_
        refine J_if2 26 (fun h10 => ?_) (fun h10 => ?_)
        · refine J_g 500 [] [(4, bv false)] [] orcN ?_
          exact J_r1 rfl
        · refine J_bind (fun x11 h12 => ?_)
          refine J_g 252 [] [(2, pp 0), (3, pp 1), (32, bv (!x11))] [(0, .box (Pack.enc false a1)), (1, .box (Pack.enc false a2))] (orcC 4 (x_c0 [(.tmp 28), (.tmp 30)] [84, 84] (laws_eqTermSS.ok a1.Needs a2.Needs) h12) orcN) ?_
          refine J_if2 32 (fun h13 => ?_) (fun h13 => ?_)
          · refine J_g 1012 [] [(4, bv false)] [] orcN ?_
            exact J_r1 rfl
          · refine J_bind (fun x14 h15 => ?_)
            refine J_g 508 [] [(38, bv (!x14))] [] (orcC 4 (x_c0 [(.tmp 34), (.tmp 36)] [31, 31] (laws_eqTermS.ok a1.Bars a2.Bars) h15) orcN) ?_
            refine J_if2 38 (fun h16 => ?_) (fun h16 => ?_)
            · refine J_g 2036 [] [(4, bv false)] [] orcN ?_
              exact J_r1 rfl
            · refine J_g 510 [] [(4, bv true)] [] orcN ?_
              exact J_r1 rfl

noncomputable def c16 : Code := (Tryz.f16.body).getD .skip

theorem laws_eqPackS_l1.ok (a1 : (List Pack)) (a2 : (List Pack)) (q : Wd) (kn : Unit → Option (D × List Ent)) (hk : ∀ v : Unit, J (q.g Tryz.prog 16 0 27) c16 (atI c16 15) (St.mk' [] []) (some v) kn) :
    ∀ s12 : Int, J (q.g Tryz.prog 16 0 27) c16 (atI c16 116) (St.mk' [(0, sl 8 (Pack.enc false) a1), (1, sl 8 (Pack.enc false) a2), (5, iv s12)] []) (laws_eqPackS_l1 a1 a2 s12) (Fl.go (fun r : Bool => some (bv r, [])) kn) := by
  refine J_lp (fun g ih s12 => ?_)
  unfold laws_eqPackS_l1b
  refine J_g 464 [] [(0, sl 8 (Pack.enc false) a1), (1, sl 8 (Pack.enc false) a2), (5, iv s12), (14, bv (decide (s12 < (a1.length : Int))))] [] orcN ?_
  refine J_if2 14 (fun h13 => ?_) (fun h13 => ?_)
  · refine J_bind (fun x14 h15 => ?_)
    refine J_bind (fun x16 h17 => ?_)
    refine J_bind (fun x18 h19 => ?_)
    refine J_g 1864 [] [(0, sl 8 (Pack.enc false) a1), (1, sl 8 (Pack.enc false) a2), (5, iv s12), (26, bv (!x18))] [] (orcC 2 (x_ix (kk := .i64) 29 86 8 (Pack.enc false) (.tmp 17) (.tmp 18) h15) (orcC 6 (x_ix (kk := .i64) 29 86 8 (Pack.enc false) (.tmp 21) (.tmp 22) h17) (orcC 8 (x_c0 [(.tmp 20), (.tmp 24)] [86, 86] (laws_eqPack.ok x14 x16) h19) orcN))) ?_
    refine J_if2 26 (fun h20 => ?_) (fun h20 => ?_)
    · refine J_g 7460 [] [(4, bv false)] [] orcN ?_
      exact J_r1 rfl
    · refine J_g 467 [] [(0, sl 8 (Pack.enc false) a1), (1, sl 8 (Pack.enc false) a2), (5, iv (w64 (s12 + 1)))] [] orcN ?_
      exact J_q (J_b (ih (w64 (s12 + 1)))) rfl
  · exact J_qw (hk ()) rfl

theorem laws_eqPackS.ok (a1 : (List Pack)) (a2 : (List Pack)) : Ok Tryz.prog 16 [sl 8 (Pack.enc false) a1, sl 8 (Pack.enc false) a2] [] ((laws_eqPackS a1 a2).map fun r => (bv r, [])) := by
  refine Ok_of3 c16 Tryz.f16 0 27 (fun q => ?_)
  unfold laws_eqPackS
  refine J_g 2 [] [(0, sl 8 (Pack.enc false) a1), (1, sl 8 (Pack.enc false) a2)] [] orcN ?_
  refine J_g 12 [] [(0, sl 8 (Pack.enc false) a1), (1, sl 8 (Pack.enc false) a2), (10, bv ((a1.length : Int) != (a2.length : Int)))] [] orcN ?_
  refine J_if2 10 (fun h3 => ?_) (fun h3 => ?_)
  · refine J_g 52 [] [(4, bv false)] [] orcN ?_
    exact J_r1 rfl
  · refine J_g 28 [] [(0, sl 8 (Pack.enc false) a1), (1, sl 8 (Pack.enc false) a2), (5, iv 0)] [] orcN ?_
    refine J_lqF (K0 := (fun r : Bool => some (bv r, []))) (fun _ => rfl) (laws_eqPackS_l1.ok a1 a2 q _ (fun v21 => J_j ?_) 0)
    refine J_g 30 [] [(4, bv true)] [] orcN ?_
    exact J_r1 rfl

noncomputable def c154 : Code := (Tryz.f154.body).getD .skip

theorem laws_eqByteS_l1.ok (a1 : (List Int)) (a2 : (List Int)) (q : Wd) (kn : Unit → Option (D × List Ent)) (hk : ∀ v : Unit, J (q.g Tryz.prog 154 0 26) c154 (atI c154 15) (St.mk' [] []) (some v) kn) :
    ∀ s10 : Int, J (q.g Tryz.prog 154 0 26) c154 (atI c154 116) (St.mk' [(0, sl 1 eU8 a1), (1, sl 1 eU8 a2), (5, iv s10)] []) (laws_eqByteS_l1 a1 a2 s10) (Fl.go (fun r : Bool => some (bv r, [])) kn) := by
  refine J_lp (fun g ih s10 => ?_)
  unfold laws_eqByteS_l1b
  refine J_g 464 [] [(0, sl 1 eU8 a1), (1, sl 1 eU8 a2), (5, iv s10), (14, bv (decide (s10 < (a1.length : Int))))] [] orcN ?_
  refine J_if2 14 (fun h11 => ?_) (fun h11 => ?_)
  · refine J_bind (fun x12 h13 => ?_)
    refine J_bind (fun x14 h15 => ?_)
    refine J_g 1864 [] [(0, sl 1 eU8 a1), (1, sl 1 eU8 a2), (5, iv s10), (25, bv (x12 != x14))] [] (orcC 2 (x_ix (kk := .i64) 119 5 1 eU8 (.tmp 17) (.tmp 18) h13) (orcC 6 (x_ix (kk := .i64) 119 5 1 eU8 (.tmp 21) (.tmp 22) h15) orcN)) ?_
    refine J_if2 25 (fun h16 => ?_) (fun h16 => ?_)
    · refine J_g 7460 [] [(4, bv false)] [] orcN ?_
      exact J_r1 rfl
    · refine J_g 467 [] [(0, sl 1 eU8 a1), (1, sl 1 eU8 a2), (5, iv (w64 (s10 + 1)))] [] orcN ?_
      exact J_q (J_b (ih (w64 (s10 + 1)))) rfl
  · exact J_qw (hk ()) rfl

theorem laws_eqByteS.ok (a1 : (List Int)) (a2 : (List Int)) : Ok Tryz.prog 154 [sl 1 eU8 a1, sl 1 eU8 a2] [] ((laws_eqByteS a1 a2).map fun r => (bv r, [])) := by
  refine Ok_of3 c154 Tryz.f154 0 26 (fun q => ?_)
  unfold laws_eqByteS
  refine J_g 2 [] [(0, sl 1 eU8 a1), (1, sl 1 eU8 a2)] [] orcN ?_
  refine J_g 12 [] [(0, sl 1 eU8 a1), (1, sl 1 eU8 a2), (10, bv ((a1.length : Int) != (a2.length : Int)))] [] orcN ?_
  refine J_if2 10 (fun h3 => ?_) (fun h3 => ?_)
  · refine J_g 52 [] [(4, bv false)] [] orcN ?_
    exact J_r1 rfl
  · refine J_g 28 [] [(0, sl 1 eU8 a1), (1, sl 1 eU8 a2), (5, iv 0)] [] orcN ?_
    refine J_lqF (K0 := (fun r : Bool => some (bv r, []))) (fun _ => rfl) (laws_eqByteS_l1.ok a1 a2 q _ (fun v17 => J_j ?_) 0)
    refine J_g 30 [] [(4, bv true)] [] orcN ?_
    exact J_r1 rfl

noncomputable def c106 : Code := (Tryz.f106.body).getD .skip

theorem laws_eqFile.ok (a1 : File) (a2 : File) : Ok Tryz.prog 106 [.ag (File.enc false a1), .ag (File.enc false a2)] [] ((laws_eqFile a1 a2).map fun r => (bv r, [])) := by
  refine Ok_of3 c106 Tryz.f106 0 16 (fun q => ?_)
  unfold laws_eqFile
  refine J_g 2 [(0, 0), (1, 1)] [(2, pp 0), (3, pp 1)] [(0, .box (File.enc false a1)), (1, .box (File.enc false a2))] orcN ?_
  refine J_g 12 [] [(2, pp 0), (3, pp 1), (9, bv (!(seq a1.Path a2.Path)))] [(0, .box (File.enc false a1)), (1, .box (File.enc false a2))] orcN ?_
  refine J_if2 9 (fun h3 => ?_) (fun h3 => ?_)
  · refine J_g 52 [] [(4, bv false)] [] orcN ?_
    exact J_r1 rfl
  · refine J_bind (fun x4 h5 => ?_)
    refine J_g 28 [] [(15, bv (!x4))] [] (orcC 4 (x_c0 [(.tmp 11), (.tmp 13)] [119, 119] (laws_eqByteS.ok a1.Data a2.Data) h5) orcN) ?_
    refine J_if2 15 (fun h6 => ?_) (fun h6 => ?_)
    · refine J_g 116 [] [(4, bv false)] [] orcN ?_
      exact J_r1 rfl
    · refine J_g 30 [] [(4, bv true)] [] orcN ?_
      exact J_r1 rfl

noncomputable def c61 : Code := (Tryz.f61.body).getD .skip

theorem laws_eqFileS_l1.ok (a1 : (List File)) (a2 : (List File)) (q : Wd) (kn : Unit → Option (D × List Ent)) (hk : ∀ v : Unit, J (q.g Tryz.prog 61 0 27) c61 (atI c61 15) (St.mk' [] []) (some v) kn) :
    ∀ s12 : Int, J (q.g Tryz.prog 61 0 27) c61 (atI c61 116) (St.mk' [(0, sl 2 (File.enc false) a1), (1, sl 2 (File.enc false) a2), (5, iv s12)] []) (laws_eqFileS_l1 a1 a2 s12) (Fl.go (fun r : Bool => some (bv r, [])) kn) := by
  refine J_lp (fun g ih s12 => ?_)
  unfold laws_eqFileS_l1b
  refine J_g 464 [] [(0, sl 2 (File.enc false) a1), (1, sl 2 (File.enc false) a2), (5, iv s12), (14, bv (decide (s12 < (a1.length : Int))))] [] orcN ?_
  refine J_if2 14 (fun h13 => ?_) (fun h13 => ?_)
  · refine J_bind (fun x14 h15 => ?_)
    refine J_bind (fun x16 h17 => ?_)
    refine J_bind (fun x18 h19 => ?_)
    refine J_g 1864 [] [(0, sl 2 (File.enc false) a1), (1, sl 2 (File.enc false) a2), (5, iv s12), (26, bv (!x18))] [] (orcC 2 (x_ix (kk := .i64) 44 121 2 (File.enc false) (.tmp 17) (.tmp 18) h15) (orcC 6 (x_ix (kk := .i64) 44 121 2 (File.enc false) (.tmp 21) (.tmp 22) h17) (orcC 8 (x_c0 [(.tmp 20), (.tmp 24)] [121, 121] (laws_eqFile.ok x14 x16) h19) orcN))) ?_
    refine J_if2 26 (fun h20 => ?_) (fun h20 => ?_)
    · refine J_g 7460 [] [(4, bv false)] [] orcN ?_
      exact J_r1 rfl
    · refine J_g 467 [] [(0, sl 2 (File.enc false) a1), (1, sl 2 (File.enc false) a2), (5, iv (w64 (s12 + 1)))] [] orcN ?_
      exact J_q (J_b (ih (w64 (s12 + 1)))) rfl
  · exact J_qw (hk ()) rfl

theorem laws_eqFileS.ok (a1 : (List File)) (a2 : (List File)) : Ok Tryz.prog 61 [sl 2 (File.enc false) a1, sl 2 (File.enc false) a2] [] ((laws_eqFileS a1 a2).map fun r => (bv r, [])) := by
  refine Ok_of3 c61 Tryz.f61 0 27 (fun q => ?_)
  unfold laws_eqFileS
  refine J_g 2 [] [(0, sl 2 (File.enc false) a1), (1, sl 2 (File.enc false) a2)] [] orcN ?_
  refine J_g 12 [] [(0, sl 2 (File.enc false) a1), (1, sl 2 (File.enc false) a2), (10, bv ((a1.length : Int) != (a2.length : Int)))] [] orcN ?_
  refine J_if2 10 (fun h3 => ?_) (fun h3 => ?_)
  · refine J_g 52 [] [(4, bv false)] [] orcN ?_
    exact J_r1 rfl
  · refine J_g 28 [] [(0, sl 2 (File.enc false) a1), (1, sl 2 (File.enc false) a2), (5, iv 0)] [] orcN ?_
    refine J_lqF (K0 := (fun r : Bool => some (bv r, []))) (fun _ => rfl) (laws_eqFileS_l1.ok a1 a2 q _ (fun v21 => J_j ?_) 0)
    refine J_g 30 [] [(4, bv true)] [] orcN ?_
    exact J_r1 rfl

noncomputable def c24 : Code := (Tryz.f24.body).getD .skip

theorem laws_eqDisk.ok (a1 : Disk) (a2 : Disk) : Ok Tryz.prog 24 [.ag (Disk.enc false a1), .ag (Disk.enc false a2)] [] ((laws_eqDisk a1 a2).map fun r => (bv r, [])) := by
  refine Ok_of3 c24 Tryz.f24 0 31 (fun q => ?_)
  unfold laws_eqDisk
  refine J_g 2 [(0, 0), (1, 1)] [(2, pp 0), (3, pp 1)] [(0, .box (Disk.enc false a1)), (1, .box (Disk.enc false a2))] orcN ?_
  refine J_bind (fun x3 h4 => ?_)
  refine J_g 12 [] [(2, pp 0), (3, pp 1), (10, bv (!x3))] [(0, .box (Disk.enc false a1)), (1, .box (Disk.enc false a2))] (orcC 4 (x_c0 [(.tmp 6), (.tmp 8)] [44, 44] (laws_eqFileS.ok a1.Files a2.Files) h4) orcN) ?_
  refine J_if2 10 (fun h5 => ?_) (fun h5 => ?_)
  · refine J_g 52 [] [(4, bv false)] [] orcN ?_
    exact J_r1 rfl
  · refine J_g 28 [] [(2, pp 0), (3, pp 1), (15, bv (a1.Budget != a2.Budget))] [(0, .box (Disk.enc false a1)), (1, .box (Disk.enc false a2))] orcN ?_
    refine J_if2 15 (fun h6 => ?_) (fun h6 => ?_)
    · refine J_g 116 [] [(4, bv false)] [] orcN ?_
      exact J_r1 rfl
    · refine J_g 60 [] [(2, pp 0), (3, pp 1), (20, bv (a1.Writes != a2.Writes))] [(0, .box (Disk.enc false a1)), (1, .box (Disk.enc false a2))] orcN ?_
      refine J_if2 20 (fun h7 => ?_) (fun h7 => ?_)
      · refine J_g 244 [] [(4, bv false)] [] orcN ?_
        exact J_r1 rfl
      · refine J_g 124 [] [(2, pp 0), (3, pp 1), (25, bv (a1.Stop != a2.Stop))] [(0, .box (Disk.enc false a1)), (1, .box (Disk.enc false a2))] orcN ?_
        refine J_if2 25 (fun h8 => ?_) (fun h8 => ?_)
        · refine J_g 500 [] [(4, bv false)] [] orcN ?_
          exact J_r1 rfl
        · refine J_g 252 [] [(30, bv (!(a1.Down == a2.Down)))] [] orcN ?_
          refine J_if2 30 (fun h9 => ?_) (fun h9 => ?_)
          · refine J_g 1012 [] [(4, bv false)] [] orcN ?_
            exact J_r1 rfl
          · refine J_g 254 [] [(4, bv true)] [] orcN ?_
            exact J_r1 rfl

noncomputable def c25 : Code := (Tryz.f25.body).getD .skip

theorem laws_eqInt64S_l1.ok (a1 : (List Int)) (a2 : (List Int)) (q : Wd) (kn : Unit → Option (D × List Ent)) (hk : ∀ v : Unit, J (q.g Tryz.prog 25 0 26) c25 (atI c25 15) (St.mk' [] []) (some v) kn) :
    ∀ s10 : Int, J (q.g Tryz.prog 25 0 26) c25 (atI c25 116) (St.mk' [(0, sl 1 eI64 a1), (1, sl 1 eI64 a2), (5, iv s10)] []) (laws_eqInt64S_l1 a1 a2 s10) (Fl.go (fun r : Bool => some (bv r, [])) kn) := by
  refine J_lp (fun g ih s10 => ?_)
  unfold laws_eqInt64S_l1b
  refine J_g 464 [] [(0, sl 1 eI64 a1), (1, sl 1 eI64 a2), (5, iv s10), (14, bv (decide (s10 < (a1.length : Int))))] [] orcN ?_
  refine J_if2 14 (fun h11 => ?_) (fun h11 => ?_)
  · refine J_bind (fun x12 h13 => ?_)
    refine J_bind (fun x14 h15 => ?_)
    refine J_g 1864 [] [(0, sl 1 eI64 a1), (1, sl 1 eI64 a2), (5, iv s10), (25, bv (x12 != x14))] [] (orcC 2 (x_ix (kk := .i64) 41 2 1 eI64 (.tmp 17) (.tmp 18) h13) (orcC 6 (x_ix (kk := .i64) 41 2 1 eI64 (.tmp 21) (.tmp 22) h15) orcN)) ?_
    refine J_if2 25 (fun h16 => ?_) (fun h16 => ?_)
    · refine J_g 7460 [] [(4, bv false)] [] orcN ?_
      exact J_r1 rfl
    · refine J_g 467 [] [(0, sl 1 eI64 a1), (1, sl 1 eI64 a2), (5, iv (w64 (s10 + 1)))] [] orcN ?_
      exact J_q (J_b (ih (w64 (s10 + 1)))) rfl
  · exact J_qw (hk ()) rfl

theorem laws_eqInt64S.ok (a1 : (List Int)) (a2 : (List Int)) : Ok Tryz.prog 25 [sl 1 eI64 a1, sl 1 eI64 a2] [] ((laws_eqInt64S a1 a2).map fun r => (bv r, [])) := by
  refine Ok_of3 c25 Tryz.f25 0 26 (fun q => ?_)
  unfold laws_eqInt64S
  refine J_g 2 [] [(0, sl 1 eI64 a1), (1, sl 1 eI64 a2)] [] orcN ?_
  refine J_g 12 [] [(0, sl 1 eI64 a1), (1, sl 1 eI64 a2), (10, bv ((a1.length : Int) != (a2.length : Int)))] [] orcN ?_
  refine J_if2 10 (fun h3 => ?_) (fun h3 => ?_)
  · refine J_g 52 [] [(4, bv false)] [] orcN ?_
    exact J_r1 rfl
  · refine J_g 28 [] [(0, sl 1 eI64 a1), (1, sl 1 eI64 a2), (5, iv 0)] [] orcN ?_
    refine J_lqF (K0 := (fun r : Bool => some (bv r, []))) (fun _ => rfl) (laws_eqInt64S_l1.ok a1 a2 q _ (fun v17 => J_j ?_) 0)
    refine J_g 30 [] [(4, bv true)] [] orcN ?_
    exact J_r1 rfl

noncomputable def c4 : Code := (Tryz.f4.body).getD .skip

theorem laws_FnExactWholeSet.ok (a1 : (List Pack)) (a2 : Disk) (a3 : (List Int)) : Ok Tryz.prog 4 [sl 8 (Pack.enc false) a1, .ag (Disk.enc false a2), sl 1 eI64 a3] [] ((laws_FnExactWholeSet a1 a2 a3).map fun r => (bv r, [])) := by
  refine Ok_of3 c4 Tryz.f4 0 61 (fun q => ?_)
  unfold laws_FnExactWholeSet
  refine J_g 2 [(0, 0)] [(0, sl 8 (Pack.enc false) a1), (2, sl 1 eI64 a3), (4, pp 0)] [(0, .box (Disk.enc false a2))] orcN ?_
  refine J_g 12 [] [(0, sl 8 (Pack.enc false) a1), (2, sl 1 eI64 a3), (4, pp 0), (15, bv (decide ((a3.length : Int) > 1048576)))] [(0, .box (Disk.enc false a2))] orcN ?_
  refine J_if2 15 (fun h4 => ?_) (fun h4 => ?_)
  · refine J_g 52 [] [(6, bv true)] [] orcN ?_
    exact J_r1 rfl
  · refine J_g 14 [] [(0, sl 8 (Pack.enc false) a1), (2, sl 1 eI64 a3), (4, pp 0), (7, iv 1048576)] [(0, .box (Disk.enc false a2))] orcN ?_
    refine J_bind (fun x5 h6 => ?_)
    refine J_g 30 [] [(0, sl 8 (Pack.enc false) a1), (2, sl 1 eI64 a3), (4, pp 0), (7, iv x5)] [(0, .box (Disk.enc false a2))] (orcC 2 (x_c0 [(.tmp 16), (.tmp 17)] [22, 3] (laws_szPackS.ok a1 1048576) h6) orcN) ?_
    refine J_g 124 [] [(0, sl 8 (Pack.enc false) a1), (2, sl 1 eI64 a3), (4, pp 0), (7, iv x5), (20, bv (decide (x5 < 0)))] [(0, .box (Disk.enc false a2))] orcN ?_
    refine J_if2 20 (fun h7 => ?_) (fun h7 => ?_)
    · refine J_g 500 [] [(6, bv true)] [] orcN ?_
      exact J_r1 rfl
    · refine J_bind (fun x8 h9 => ?_)
      refine J_g 126 [] [(0, sl 8 (Pack.enc false) a1), (2, sl 1 eI64 a3), (4, pp 0), (7, iv x8)] [(0, .box (Disk.enc false a2))] (orcC 2 (x_c0 [(.tmp 21), (.tmp 22)] [40, 3] (laws_szDisk.ok a2 x5) h9) orcN) ?_
      refine J_g 508 [] [(0, sl 8 (Pack.enc false) a1), (2, sl 1 eI64 a3), (4, pp 0), (25, bv (decide (x8 < 0)))] [(0, .box (Disk.enc false a2))] orcN ?_
      refine J_if2 25 (fun h10 => ?_) (fun h10 => ?_)
      · refine J_g 2036 [] [(6, bv true)] [] orcN ?_
        exact J_r1 rfl
      · refine J_bind (fun x11 h12 => ?_)
        refine J_bind (fun x13 h14 => ?_)
        refine J_bind (fun x15 h16 => ?_)
        refine J_bind (fun x17 h18 => ?_)
        refine J_g 510 [] [(0, sl 8 (Pack.enc false) a1), (2, sl 1 eI64 a3), (4, pp 0), (8, bv x17)] [(0, .box (Disk.enc false a2))] (orcC 1 (x_c1 («as» := [sl 8 (Pack.enc false) a1]) [(.tmp 26)] [22] false [] [] (.cons (.same rfl) (.nil)) (laws_toPackS.ok a1) h12 (.own 1)) (orcC 3 (x_c1 («as» := [.ag (Disk.enc false a2)]) [(.tmp 28)] [40] false [] [] (.cons (.same rfl) (.nil)) (laws_toDisk.ok a2) h14 (.ag (.cons (.own 2) (.cons (.same rfl rfl) (.cons (.same rfl rfl) (.cons (.same rfl rfl) (.cons (.same rfl rfl) (.nil)))))))) (orcC 5 (x_c1 («as» := [sl 1 eI64 a3]) [(.tmp 30)] [41] false [] [] (.cons (.same rfl) (.nil)) (laws_toInt64S.ok a3) h16 (.own 3)) (orcC 6 (x_c1 («as» := [rr 1 x11, .ag [rr 2 x13.Files, iv x13.Budget, iv x13.Writes, iv x13.Stop, bv x13.Down], rr 3 x15]) [(.tmp 27), (.tmp 29), (.tmp 31)] [29, 46, 41] true [(1, rE 8 (Pack.enc true) x11), (2, rE 2 (File.enc true) x13.Files), (3, rE 1 eI64 x15)] [] (.cons (am_b (.head _) (Pack.ro true) rfl) (.cons (.ag (.cons (am_b (.tail _ (.head _)) (File.ro true) rfl) (.cons (.same rfl) (.cons (.same rfl) (.cons (.same rfl) (.cons (.same rfl) (.nil))))))) (.cons (am_b (.tail _ (.tail _ (.head _))) (fun _ => rfl) rfl) (.nil)))) (spec_WholeSet.ok x11 x13 x15) h18 (.same rfl rfl) (hbor := fun _ => ⟨rfl, flat_sc⟩)) orcN)))) ?_
        refine J_bind (fun x19 h20 => ?_)
        refine J_g 1022 [] [(0, sl 8 (Pack.enc false) a1), (2, sl 1 eI64 a3), (4, pp 0), (8, bv x17), (9, rr 1 x19)] [(0, .box (Disk.enc false a2)), (1, rE 8 (Pack.enc true) x19)] (orcC 1 (x_c1 («as» := [sl 8 (Pack.enc false) a1]) [(.tmp 33)] [22] false [] [] (.cons (.same rfl) (.nil)) (laws_toPackS.ok a1) h20 (.own 1)) orcN) ?_
        refine J_bind (fun x21 h22 => ?_)
        refine J_g 2046 [(2, 3)] [(0, sl 8 (Pack.enc false) a1), (2, sl 1 eI64 a3), (4, pp 0), (8, bv x17), (9, rr 1 x19), (10, pp 3)] [(0, .box (Disk.enc false a2)), (1, rE 8 (Pack.enc true) x19), (2, rE 2 (File.enc true) x21.Files), (3, .box [rr 2 x21.Files, iv x21.Budget, iv x21.Writes, iv x21.Stop, bv x21.Down])] (orcC 1 (x_c1 («as» := [.ag (Disk.enc false a2)]) [(.tmp 35)] [40] false [] [] (.cons (.same rfl) (.nil)) (laws_toDisk.ok a2) h22 (.ag (.cons (.own 2) (.cons (.same rfl rfl) (.cons (.same rfl rfl) (.cons (.same rfl rfl) (.cons (.same rfl rfl) (.nil)))))))) orcN) ?_
        refine J_bind (fun x23 h24 => ?_)
        refine J_g 4094 [] [(0, sl 8 (Pack.enc false) a1), (2, sl 1 eI64 a3), (4, pp 0), (8, bv x17), (9, rr 1 x19), (10, pp 3), (11, rr 4 x23)] [(0, .box (Disk.enc false a2)), (1, rE 8 (Pack.enc true) x19), (2, rE 2 (File.enc true) x21.Files), (3, .box [rr 2 x21.Files, iv x21.Budget, iv x21.Writes, iv x21.Stop, bv x21.Down]), (4, rE 1 eI64 x23)] (orcC 1 (x_c1 («as» := [sl 1 eI64 a3]) [(.tmp 37)] [41] false [] [] (.cons (.same rfl) (.nil)) (laws_toInt64S.ok a3) h24 (.own 4)) orcN) ?_
        refine J_bind (fun x25 h26 => ?_)
        refine J_g 8190 [] [(0, sl 8 (Pack.enc false) a1), (2, sl 1 eI64 a3), (4, pp 0), (8, bv x17), (9, rr 1 x19), (10, pp 3), (11, rr 4 x23), (12, bv x25)] [(0, .box (Disk.enc false a2)), (1, rE 8 (Pack.enc true) x19), (2, rE 2 (File.enc true) x21.Files), (3, .box [rr 2 x21.Files, iv x21.Budget, iv x21.Writes, iv x21.Stop, bv x21.Down]), (4, rE 1 eI64 x23)] (orcC 3 (x_c1 («as» := [rr 1 x19, .ag [rr 2 x21.Files, iv x21.Budget, iv x21.Writes, iv x21.Stop, bv x21.Down], rr 4 x23]) [(.tmp 39), (.tmp 40), (.tmp 41)] [29, 46, 41] true [(1, rE 8 (Pack.enc true) x19), (2, rE 2 (File.enc true) x21.Files), (4, rE 1 eI64 x23)] [] (.cons (am_b (.head _) (Pack.ro true) rfl) (.cons (.ag (.cons (am_b (.tail _ (.head _)) (File.ro true) rfl) (.cons (.same rfl) (.cons (.same rfl) (.cons (.same rfl) (.cons (.same rfl) (.nil))))))) (.cons (am_b (.tail _ (.tail _ (.head _))) (fun _ => rfl) rfl) (.nil)))) (impl_WholeSet.ok x19 x21 x23) h26 (.same rfl rfl) (hbor := fun _ => ⟨rfl, flat_sc⟩)) orcN) ?_
        refine J_g 32764 [] [(0, sl 8 (Pack.enc false) a1), (2, sl 1 eI64 a3), (4, pp 0), (9, rr 1 x19), (10, pp 3), (11, rr 4 x23), (45, bv (!(x25 == x17)))] [(0, .box (Disk.enc false a2)), (1, rE 8 (Pack.enc true) x19), (2, rE 2 (File.enc true) x21.Files), (3, .box [rr 2 x21.Files, iv x21.Budget, iv x21.Writes, iv x21.Stop, bv x21.Down]), (4, rE 1 eI64 x23)] orcN ?_
        refine J_if2 45 (fun h27 => ?_) (fun h27 => ?_)
        · refine J_g 131060 [] [(6, bv false)] [] orcN ?_
          exact J_r1 rfl
        · refine J_bind (fun x28 h29 => ?_)
          refine J_bind (fun x30 h31 => ?_)
          refine J_g 65532 [] [(2, sl 1 eI64 a3), (4, pp 0), (10, pp 3), (11, rr 4 x23), (50, bv (!x30))] [(0, .box (Disk.enc false a2)), (2, rE 2 (File.enc true) x21.Files), (3, .box [rr 2 x21.Files, iv x21.Budget, iv x21.Writes, iv x21.Stop, bv x21.Down]), (4, rE 1 eI64 x23)] (orcC 2 (x_c1 («as» := [sl 8 (Pack.enc false) a1]) [(.tmp 47)] [22] false [] [] (.cons (.same rfl) (.nil)) (laws_toPackS.ok a1) h29 (.own 5)) (orcC 3 (x_c1 («as» := [rr 1 x19, rr 5 x28]) [(.tmp 46), (.tmp 48)] [29, 29] true [(1, rE 8 (Pack.enc true) x19), (5, rE 8 (Pack.enc true) x28)] [] (.cons (am_b (.head _) (Pack.ro true) rfl) (.cons (am_b (.tail _ (.head _)) (Pack.ro true) rfl) (.nil))) (laws_eqPackS.ok x19 x28) h31 (.same rfl rfl) (hbor := fun _ => ⟨rfl, flat_sc⟩)) orcN)) ?_
          refine J_if2 50 (fun h32 => ?_) (fun h32 => ?_)
          · refine J_g 262132 [] [(6, bv false)] [] orcN ?_
            exact J_r1 rfl
          · refine J_bind (fun x33 h34 => ?_)
            refine J_bind (fun x35 h36 => ?_)
            refine J_g 131068 [] [(2, sl 1 eI64 a3), (11, rr 4 x23), (55, bv (!x35))] [(4, rE 1 eI64 x23)] (orcC 2 (x_c1 («as» := [.ag (Disk.enc false a2)]) [(.tmp 52)] [40] false [] [] (.cons (.same rfl) (.nil)) (laws_toDisk.ok a2) h34 (.ag (.cons (.own 5) (.cons (.same rfl rfl) (.cons (.same rfl rfl) (.cons (.same rfl rfl) (.cons (.same rfl rfl) (.nil)))))))) (orcC 3 (x_c1 («as» := [.ag [rr 2 x21.Files, iv x21.Budget, iv x21.Writes, iv x21.Stop, bv x21.Down], .ag [rr 5 x33.Files, iv x33.Budget, iv x33.Writes, iv x33.Stop, bv x33.Down]]) [(.tmp 51), (.tmp 53)] [46, 46] true [(2, rE 2 (File.enc true) x21.Files), (5, rE 2 (File.enc true) x33.Files)] [] (.cons (.ag (.cons (am_b (.head _) (File.ro true) rfl) (.cons (.same rfl) (.cons (.same rfl) (.cons (.same rfl) (.cons (.same rfl) (.nil))))))) (.cons (.ag (.cons (am_b (.tail _ (.head _)) (File.ro true) rfl) (.cons (.same rfl) (.cons (.same rfl) (.cons (.same rfl) (.cons (.same rfl) (.nil))))))) (.nil))) (laws_eqDisk.ok x21 x33) h36 (.same rfl rfl) (hbor := fun _ => ⟨rfl, flat_sc⟩)) orcN)) ?_
            refine J_if2 55 (fun h37 => ?_) (fun h37 => ?_)
            · refine J_g 524276 [] [(6, bv false)] [] orcN ?_
              exact J_r1 rfl
            · refine J_bind (fun x38 h39 => ?_)
              refine J_bind (fun x40 h41 => ?_)
              refine J_g 262140 [] [(60, bv (!x40))] [] (orcC 2 (x_c1 («as» := [sl 1 eI64 a3]) [(.tmp 57)] [41] false [] [] (.cons (.same rfl) (.nil)) (laws_toInt64S.ok a3) h39 (.own 5)) (orcC 3 (x_c1 («as» := [rr 4 x23, rr 5 x38]) [(.tmp 56), (.tmp 58)] [41, 41] true [(4, rE 1 eI64 x23), (5, rE 1 eI64 x38)] [] (.cons (am_b (.head _) (fun _ => rfl) rfl) (.cons (am_b (.tail _ (.head _)) (fun _ => rfl) rfl) (.nil))) (laws_eqInt64S.ok x23 x38) h41 (.same rfl rfl) (hbor := fun _ => ⟨rfl, flat_sc⟩)) orcN)) ?_
              refine J_if2 60 (fun h42 => ?_) (fun h42 => ?_)
              · refine J_g 1048564 [] [(6, bv false)] [] orcN ?_
                exact J_r1 rfl
              · refine J_g 262142 [] [(6, bv true)] [] orcN ?_
                exact J_r1 rfl

end Go.Told

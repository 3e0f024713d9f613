import Derived.Test.YtedpgkmkdhlcaaaToldReadFile
import Derived.Test.YtedpgkmkdhlcaaaShelf
import Derived.Test.YtedpgkmkdhlcaaaProg
set_option linter.unusedVariables false
set_option maxRecDepth 4000
namespace Go.Told
open Go Go.Im Go.Proofs

noncomputable def c125 : Code := (Try.f125.body).getD .skip

theorem laws_szByteS.ok (a1 : (List Int)) (a2 : Int) : Ok Try.prog 125 [sl 1 eU8 a1, iv a2] [] ((laws_szByteS a1 a2).map fun r => (iv r, [])) := by
  refine Ok_of3 c125 Try.f125 0 12 (fun q => ?_)
  unfold laws_szByteS
  refine J_g 2 [] [(0, sl 1 eU8 a1), (1, iv a2)] [] orcN ?_
  refine J_g 6 [] [(1, iv (w64 (a2 - (a1.length : Int))))] [] orcN ?_
  refine J_g 28 [] [(1, iv (w64 (a2 - (a1.length : Int)))), (10, bv (decide ((w64 (a2 - (a1.length : Int))) < 0)))] [] orcN ?_
  refine J_if2 10 (fun h3 => ?_) (fun h3 => ?_)
  · refine J_g 116 [] [(4, iv (-1))] [] orcN ?_
    exact J_r1 rfl
  · refine J_g 30 [] [(4, iv (w64 (a2 - (a1.length : Int))))] [] orcN ?_
    exact J_r1 rfl

noncomputable def c105 : Code := (Try.f105.body).getD .skip

theorem laws_szFile.ok (a1 : File) (a2 : Int) : Ok Try.prog 105 [.ag (File.enc false a1), iv a2] [] ((laws_szFile a1 a2).map fun r => (iv r, [])) := by
  refine Ok_of3 c105 Try.f105 0 19 (fun q => ?_)
  unfold laws_szFile
  refine J_g 2 [(0, 0)] [(1, iv a2), (2, pp 0)] [(0, .box (File.enc false a1))] orcN ?_
  refine J_g 6 [] [(1, iv (w64 (a2 - (a1.Path.size : Int)))), (2, pp 0)] [(0, .box (File.enc false a1))] orcN ?_
  refine J_g 28 [] [(1, iv (w64 (a2 - (a1.Path.size : Int)))), (2, pp 0), (11, bv (decide ((w64 (a2 - (a1.Path.size : Int))) < 0)))] [(0, .box (File.enc false a1))] orcN ?_
  refine J_if2 11 (fun h3 => ?_) (fun h3 => ?_)
  · refine J_g 116 [] [(4, iv (-1))] [] orcN ?_
    exact J_r1 rfl
  · refine J_bind (fun x4 h5 => ?_)
    refine J_g 30 [] [(1, iv x4)] [] (orcC 3 (x_c0 [(.tmp 13), (.tmp 14)] [68, 3] (laws_szByteS.ok a1.Data (w64 (a2 - (a1.Path.size : Int)))) h5) orcN) ?_
    refine J_g 124 [] [(1, iv x4), (17, bv (decide (x4 < 0)))] [] orcN ?_
    refine J_if2 17 (fun h6 => ?_) (fun h6 => ?_)
    · refine J_g 500 [] [(4, iv (-1))] [] orcN ?_
      exact J_r1 rfl
    · refine J_g 126 [] [(4, iv x4)] [] orcN ?_
      exact J_r1 rfl

noncomputable def c68 : Code := (Try.f68.body).getD .skip

theorem laws_szFileS_l1.ok (a1 : (List File)) (q : Wd) (kn : Int → Option (D × List Ent)) (hk : ∀ v : Int, J (q.g Try.prog 68 0 27) c68 (atI c68 31) (St.mk' [(1, iv v)] []) (some v) kn) :
    ∀ s10 : (Int × Int), J (q.g Try.prog 68 0 27) c68 (atI c68 244) (St.mk' [(0, sl 2 (File.enc false) a1), (1, iv s10.1), (5, iv s10.2)] []) (laws_szFileS_l1 a1 s10) (Fl.go (fun r : Int => some (iv r, [])) kn) := by
  refine J_lp (fun g ih s10 => ?_)
  unfold laws_szFileS_l1b
  refine J_g 976 [] [(0, sl 2 (File.enc false) a1), (1, iv s10.1), (5, iv s10.2), (15, bv (decide (s10.2 < (a1.length : Int))))] [] orcN ?_
  refine J_if2 15 (fun h11 => ?_) (fun h11 => ?_)
  · refine J_bind (fun x12 h13 => ?_)
    refine J_bind (fun x14 h15 => ?_)
    refine J_g 3912 [] [(0, sl 2 (File.enc false) a1), (1, iv x14), (5, iv s10.2)] [] (orcC 2 (x_ix (kk := .i64) 50 125 2 (File.enc false) (.tmp 18) (.tmp 19) h13) (orcC 5 (x_c0 [(.tmp 21), (.tmp 22)] [125, 3] (laws_szFile.ok x12 s10.1) h15) orcN)) ?_
    refine J_g 7826 [] [(0, sl 2 (File.enc false) a1), (1, iv x14), (5, iv s10.2), (25, bv (decide (x14 < 0)))] [] orcN ?_
    refine J_if2 25 (fun h16 => ?_) (fun h16 => ?_)
    · refine J_g 31308 [] [(4, iv (-1))] [] orcN ?_
      exact J_r1 rfl
    · refine J_g 979 [] [(0, sl 2 (File.enc false) a1), (1, iv x14), (5, iv (w64 (s10.2 + 1)))] [] orcN ?_
      exact J_q (J_b (ih (x14, w64 (s10.2 + 1)))) rfl
  · exact J_qw (hk s10.1) rfl

theorem laws_szFileS.ok (a1 : (List File)) (a2 : Int) : Ok Try.prog 68 [sl 2 (File.enc false) a1, iv a2] [] ((laws_szFileS a1 a2).map fun r => (iv r, [])) := by
  refine Ok_of3 c68 Try.f68 0 27 (fun q => ?_)
  unfold laws_szFileS
  refine J_g 2 [] [(0, sl 2 (File.enc false) a1), (1, iv a2)] [] orcN ?_
  refine J_g 6 [] [(0, sl 2 (File.enc false) a1), (1, iv (w64 (a2 - (a1.length : Int))))] [] orcN ?_
  refine J_g 28 [] [(0, sl 2 (File.enc false) a1), (1, iv (w64 (a2 - (a1.length : Int)))), (11, bv (decide ((w64 (a2 - (a1.length : Int))) < 0)))] [] orcN ?_
  refine J_if2 11 (fun h3 => ?_) (fun h3 => ?_)
  · refine J_g 116 [] [(4, iv (-1))] [] orcN ?_
    exact J_r1 rfl
  · refine J_g 60 [] [(0, sl 2 (File.enc false) a1), (1, iv (w64 (a2 - (a1.length : Int)))), (5, iv 0)] [] orcN ?_
    refine J_lqF (K0 := (fun r : Int => some (iv r, []))) (fun _ => rfl) (laws_szFileS_l1.ok a1 q _ (fun v17 => J_j ?_) (w64 (a2 - (a1.length : Int)), 0))
    refine J_g 62 [] [(4, iv v17)] [] orcN ?_
    exact J_r1 rfl

noncomputable def c29 : Code := (Try.f29.body).getD .skip

theorem laws_szDisk.ok (a1 : Disk) (a2 : Int) : Ok Try.prog 29 [.ag (Disk.enc false a1), iv a2] [] ((laws_szDisk a1 a2).map fun r => (iv r, [])) := by
  refine Ok_of3 c29 Try.f29 0 12 (fun q => ?_)
  unfold laws_szDisk
  refine J_g 2 [(0, 0)] [(1, iv a2), (2, pp 0)] [(0, .box (Disk.enc false a1))] orcN ?_
  refine J_bind (fun x3 h4 => ?_)
  refine J_g 6 [] [(1, iv x3)] [] (orcC 3 (x_c0 [(.tmp 6), (.tmp 7)] [50, 3] (laws_szFileS.ok a1.Files a2) h4) orcN) ?_
  refine J_g 28 [] [(1, iv x3), (10, bv (decide (x3 < 0)))] [] orcN ?_
  refine J_if2 10 (fun h5 => ?_) (fun h5 => ?_)
  · refine J_g 116 [] [(4, iv (-1))] [] orcN ?_
    exact J_r1 rfl
  · refine J_g 30 [] [(4, iv x3)] [] orcN ?_
    exact J_r1 rfl

noncomputable def c55 : Code := (Try.f55.body).getD .skip

theorem laws_toByteS_l1.ok (a1 : (List Int)) (q : Wd) (kn : (List Int) → Option (D × List Ent)) (hk : ∀ v : (List Int), J (q.g Try.prog 55 0 22) c55 (atI c55 15) (St.mk' [(3, rr 0 v)] [(0, rE 1 eU8 v)]) (some v) kn) :
    ∀ s9 : ((List Int) × Int), J (q.g Try.prog 55 0 22) c55 (atI c55 116) (St.mk' [(0, sl 1 eU8 a1), (3, rr 0 s9.1), (4, iv s9.2)] [(0, rE 1 eU8 s9.1)]) (laws_toByteS_l1 a1 s9) kn := by
  refine J_lp (fun g ih s9 => ?_)
  unfold laws_toByteS_l1b
  refine J_g 464 [] [(0, sl 1 eU8 a1), (3, rr 0 s9.1), (4, iv s9.2), (11, bv (decide (s9.2 < (a1.length : Int))))] [(0, rE 1 eU8 s9.1)] orcN ?_
  refine J_if2 11 (fun h10 => ?_) (fun h10 => ?_)
  · refine J_bind (fun x11 h12 => ?_)
    refine J_bind (fun x13 h14 => ?_)
    refine J_g 932 [] [(0, sl 1 eU8 a1), (3, rr 0 s9.1), (4, iv s9.2)] [(0, rE 1 eU8 (s9.1.set s9.2.toNat x11))] (orcC 4 (x_ix (kk := .i64) 68 5 1 eU8 (.tmp 16) (.tmp 17) h12) (orcC 6 (x_ixr (kk := .i64) 68 5 1 0 eU8 (.tmp 14) (.tmp 15) h14) (orcD 7 (x_st (b := x11) 5 1 0 0 eU8 (uv x11) (.tmp 20) (.tmp 19) h14 rfl) orcN))) ?_
    refine J_st (σ' := St.mk' [(0, sl 1 eU8 a1), (3, rr 0 (s9.1.set s9.2.toNat x11)), (4, iv s9.2)] [(0, rE 1 eU8 (s9.1.set s9.2.toNat x11))]) (by simp only [rr, List.length_set]) ?_
    refine J_g 467 [] [(0, sl 1 eU8 a1), (3, rr 0 (s9.1.set s9.2.toNat x11)), (4, iv (w64 (s9.2 + 1)))] [(0, rE 1 eU8 (s9.1.set s9.2.toNat x11))] orcN ?_
    exact J_q (J_b (ih (s9.1.set s9.2.toNat x11, w64 (s9.2 + 1)))) rfl
  · exact J_qw (hk s9.1) rfl

theorem laws_toByteS.ok (a1 : (List Int)) : Ok Try.prog 55 [sl 1 eU8 a1] [] ((laws_toByteS a1).map fun r => (so 1 eU8 r, [])) := by
  refine Ok_of3 c55 Try.f55 0 22 (fun q => ?_)
  unfold laws_toByteS
  refine J_g 2 [] [(0, sl 1 eU8 a1)] [] orcN ?_
  refine J_bind (fun x2 h3 => ?_)
  refine J_g 6 [] [(0, sl 1 eU8 a1), (3, rr 0 x2)] [(0, rE 1 eU8 x2)] (orcC 2 (x_mk 68 5 1 1 0 eU8 0 (.tmp 6) h3 (.keep rfl (.nil))) orcN) ?_
  refine J_g 28 [] [(0, sl 1 eU8 a1), (3, rr 0 x2), (4, iv 0)] [(0, rE 1 eU8 x2)] orcN ?_
  refine J_lq (laws_toByteS_l1.ok a1 q _ (fun v15 => J_j ?_) (x2, 0))
  refine J_g 30 [] [(2, rr 0 v15)] [(0, rE 1 eU8 v15)] orcN ?_
  exact J_rm (ds := [rr 0 v15]) (ds' := [so 1 eU8 v15]) (.cons (.cell (.move (.head _) (List.length_map _) (by decide) (.nil))) (.nil) (by decide)) rfl

noncomputable def c108 : Code := (Try.f108.body).getD .skip

theorem laws_toFile.ok (a1 : File) : Ok Try.prog 108 [.ag (File.enc false a1)] [] ((laws_toFile a1).map fun r => (.ag [sv r.Path, so 1 eU8 r.Data], [])) := by
  refine Ok_of3 c108 Try.f108 0 12 (fun q => ?_)
  unfold laws_toFile
  refine J_g 2 [(0, 0), (1, 1)] [(1, pp 0), (2, pp 1)] [(0, .box (File.enc false a1)), (1, .box [sv ByteArray.empty, nv])] orcN ?_
  refine J_g 6 [(0, 2)] [(1, pp 0), (2, pp 1), (3, pp 2)] [(0, .box (File.enc false a1)), (1, .box [sv ByteArray.empty, nv]), (2, .box [sv ByteArray.empty, nv])] orcN ?_
  refine J_g 14 [] [(1, pp 0), (2, pp 1), (3, pp 2)] [(0, .box (File.enc false a1)), (1, .box [sv ByteArray.empty, nv]), (2, .box [sv a1.Path, nv])] orcN ?_
  refine J_bind (fun x2 h3 => ?_)
  refine J_g 30 [] [(2, pp 1), (3, pp 2)] [(1, .box [sv ByteArray.empty, nv]), (2, .box [sv a1.Path, rr 3 x2]), (3, rE 1 eU8 x2)] (orcC 2 (x_c1 («as» := [sl 1 eU8 a1.Data]) [(.tmp 8)] [68] false [] [] (.cons (.same rfl) (.nil)) (laws_toByteS.ok a1.Data) h3 (.own 3)) orcN) ?_
  refine J_g 62 [] [(2, pp 1)] [(1, .box [sv a1.Path, rr 3 x2]), (3, rE 1 eU8 x2)] orcN ?_
  exact J_rm (ds := [.ag [sv a1.Path, rr 3 x2]]) (ds' := [.ag [sv a1.Path, so 1 eU8 x2]]) (.cons (.ag (.keep rfl (.move (.tail _ (.head _)) (List.length_map _) (by decide) (.nil)))) (.nil) (by decide)) rfl

noncomputable def c71 : Code := (Try.f71.body).getD .skip

theorem laws_toFileS_l1.ok (a1 : (List File)) (q : Wd) (kn : (List File) → Option (D × List Ent)) (hk : ∀ v : (List File), J (q.g Try.prog 71 0 23) c71 (atI c71 15) (St.mk' [(3, rr 0 v)] [(0, rE 2 (File.enc true) v)]) (some v) kn) :
    ∀ s11 : ((List File) × Int), J (q.g Try.prog 71 0 23) c71 (atI c71 116) (St.mk' [(0, sl 2 (File.enc false) a1), (3, rr 0 s11.1), (4, iv s11.2)] [(0, rE 2 (File.enc true) s11.1)]) (laws_toFileS_l1 a1 s11) kn := by
  refine J_lp (fun g ih s11 => ?_)
  unfold laws_toFileS_l1b
  refine J_g 464 [] [(0, sl 2 (File.enc false) a1), (3, rr 0 s11.1), (4, iv s11.2), (11, bv (decide (s11.2 < (a1.length : Int))))] [(0, rE 2 (File.enc true) s11.1)] orcN ?_
  refine J_if2 11 (fun h12 => ?_) (fun h12 => ?_)
  · refine J_bind (fun x13 h14 => ?_)
    refine J_bind (fun x15 h16 => ?_)
    refine J_bind (fun x17 h18 => ?_)
    refine J_g 932 [] [(0, sl 2 (File.enc false) a1), (3, rr 0 s11.1), (4, iv s11.2)] [(0, rE 2 (File.enc true) (s11.1.set s11.2.toNat x15))] (orcC 4 (x_ix (kk := .i64) 50 125 2 (File.enc false) (.tmp 16) (.tmp 17) h14) (orcC 6 (x_c1 («as» := [.ag (File.enc false x13)]) [(.tmp 19)] [125] false [] [] (.cons (.same rfl) (.nil)) (laws_toFile.ok x13) h16 (.ag (.cons (.same rfl rfl) (.cons (.own 1) (.nil))))) (orcC 7 (x_ixr (kk := .i64) 22 70 2 0 (File.enc true) (.tmp 14) (.tmp 15) h18) (orcD 8 (x_stm (b := x15) (es' := [sv x15.Path, so 1 eU8 x15.Data]) (ts := [1]) 70 2 0 0 (File.enc true) (.ag [sv x15.Path, rr 1 x15.Data]) (.tmp 21) (.tmp 20) [(1, rE 1 eU8 x15.Data)] h18 (.keep rfl (.move (.head _) (List.length_map _) (by decide) (.nil))) rfl) orcN)))) ?_
    refine J_st (σ' := St.mk' [(0, sl 2 (File.enc false) a1), (3, rr 0 (s11.1.set s11.2.toNat x15)), (4, iv s11.2)] [(0, rE 2 (File.enc true) (s11.1.set s11.2.toNat x15))]) (by simp only [rr, List.length_set]) ?_
    refine J_g 467 [] [(0, sl 2 (File.enc false) a1), (3, rr 0 (s11.1.set s11.2.toNat x15)), (4, iv (w64 (s11.2 + 1)))] [(0, rE 2 (File.enc true) (s11.1.set s11.2.toNat x15))] orcN ?_
    exact J_q (J_b (ih (s11.1.set s11.2.toNat x15, w64 (s11.2 + 1)))) rfl
  · exact J_qw (hk s11.1) rfl

theorem laws_toFileS.ok (a1 : (List File)) : Ok Try.prog 71 [sl 2 (File.enc false) a1] [] ((laws_toFileS a1).map fun r => (so 2 (File.enc true) r, [])) := by
  refine Ok_of3 c71 Try.f71 0 23 (fun q => ?_)
  unfold laws_toFileS
  refine J_g 2 [] [(0, sl 2 (File.enc false) a1)] [] orcN ?_
  refine J_bind (fun x2 h3 => ?_)
  refine J_g 6 [] [(0, sl 2 (File.enc false) a1), (3, rr 0 x2)] [(0, rE 2 (File.enc true) x2)] (orcC 2 (x_mk 22 70 2 40 0 (File.enc true) ({ Path := ByteArray.empty, Data := ([] : List Int) } : File) (.tmp 6) h3 (.keep rfl (.nilsl true 1 (.nil)))) orcN) ?_
  refine J_g 28 [] [(0, sl 2 (File.enc false) a1), (3, rr 0 x2), (4, iv 0)] [(0, rE 2 (File.enc true) x2)] orcN ?_
  refine J_lq (laws_toFileS_l1.ok a1 q _ (fun v19 => J_j ?_) (x2, 0))
  refine J_g 30 [] [(2, rr 0 v19)] [(0, rE 2 (File.enc true) v19)] orcN ?_
  exact J_rm (ds := [rr 0 v19]) (ds' := [so 2 (File.enc true) v19]) (.cons (.cell (.move (.head _) (List.length_map _) (by decide) (.nil))) (.nil) (by decide)) rfl

noncomputable def c31 : Code := (Try.f31.body).getD .skip

theorem laws_toDisk.ok (a1 : Disk) : Ok Try.prog 31 [.ag (Disk.enc false a1)] [] ((laws_toDisk a1).map fun r => (.ag (Disk.enc true r), [])) := by
  refine Ok_of3 c31 Try.f31 0 21 (fun q => ?_)
  unfold laws_toDisk
  refine J_g 2 [(0, 0), (1, 1)] [(1, pp 0), (2, pp 1)] [(0, .box (Disk.enc false a1)), (1, .box [nv, iv 0, iv 0, iv 0, bv false])] orcN ?_
  refine J_g 6 [(0, 2)] [(1, pp 0), (2, pp 1), (3, pp 2)] [(0, .box (Disk.enc false a1)), (1, .box [nv, iv 0, iv 0, iv 0, bv false]), (2, .box [nv, iv 0, iv 0, iv 0, bv false])] orcN ?_
  refine J_bind (fun x2 h3 => ?_)
  refine J_g 14 [] [(1, pp 0), (2, pp 1), (3, pp 2)] [(0, .box (Disk.enc false a1)), (1, .box [nv, iv 0, iv 0, iv 0, bv false]), (2, .box [rr 3 x2, iv 0, iv 0, iv 0, bv false]), (3, rE 2 (File.enc true) x2)] (orcC 2 (x_c1 («as» := [sl 2 (File.enc false) a1.Files]) [(.tmp 5)] [50] false [] [] (.cons (.same rfl) (.nil)) (laws_toFileS.ok a1.Files) h3 (.own 3)) orcN) ?_
  refine J_g 30 [] [(1, pp 0), (2, pp 1), (3, pp 2)] [(0, .box (Disk.enc false a1)), (1, .box [nv, iv 0, iv 0, iv 0, bv false]), (2, .box [rr 3 x2, iv a1.Budget, iv 0, iv 0, bv false]), (3, rE 2 (File.enc true) x2)] orcN ?_
  refine J_g 62 [] [(1, pp 0), (2, pp 1), (3, pp 2)] [(0, .box (Disk.enc false a1)), (1, .box [nv, iv 0, iv 0, iv 0, bv false]), (2, .box [rr 3 x2, iv a1.Budget, iv a1.Writes, iv 0, bv false]), (3, rE 2 (File.enc true) x2)] orcN ?_
  refine J_g 126 [] [(1, pp 0), (2, pp 1), (3, pp 2)] [(0, .box (Disk.enc false a1)), (1, .box [nv, iv 0, iv 0, iv 0, bv false]), (2, .box [rr 3 x2, iv a1.Budget, iv a1.Writes, iv a1.Stop, bv false]), (3, rE 2 (File.enc true) x2)] orcN ?_
  refine J_g 254 [] [(2, pp 1), (3, pp 2)] [(1, .box [nv, iv 0, iv 0, iv 0, bv false]), (2, .box [rr 3 x2, iv a1.Budget, iv a1.Writes, iv a1.Stop, bv a1.Down]), (3, rE 2 (File.enc true) x2)] orcN ?_
  refine J_g 510 [] [(2, pp 1)] [(1, .box [rr 3 x2, iv a1.Budget, iv a1.Writes, iv a1.Stop, bv a1.Down]), (3, rE 2 (File.enc true) x2)] orcN ?_
  exact J_rm (ds := [.ag [rr 3 x2, iv a1.Budget, iv a1.Writes, iv a1.Stop, bv a1.Down]]) (ds' := [.ag [so 2 (File.enc true) x2, iv a1.Budget, iv a1.Writes, iv a1.Stop, bv a1.Down]]) (.cons (.ag (.move (.tail _ (.head _)) (List.length_map _) (by decide) (.keep rfl (.keep rfl (.keep rfl (.keep rfl (.nil))))))) (.nil) (by decide)) rfl

noncomputable def c59 : Code := (Try.f59.body).getD .skip

theorem spec_l1In.ok (a1 : Int) (a2 : Int) (a3 : Int) : Ok Try.prog 59 [iv a1, iv a2, iv a3] [] ((spec_l1In a1 a2 a3).map fun r => (bv r, [])) := by
  refine Ok_of3 c59 Try.f59 0 15 (fun q => ?_)
  unfold spec_l1In
  refine J_g 2 [] [(0, iv a1), (1, iv a2), (2, iv a3)] [] orcN ?_
  refine J_ite (fun h4 => ?_) (fun h4 => ?_)
  · refine J_g 6 [] [(6, bv (decide (a1 ≤ a3)))] [] (orcL 3 [(9, bv (decide (a1 ≥ a2)))] [] h4 orcN) ?_
    exact J_r1 rfl
  · refine J_g 6 [] [(6, bv false)] [] (orcL 3 [(9, bv (decide (a1 ≥ a2)))] [] h4 orcN) ?_
    exact J_r1 rfl

noncomputable def c136 : Code := (Try.f136.body).getD .skip

theorem spec_l1Letter.ok (a1 : Int) : Ok Try.prog 136 [uv a1] [] ((spec_l1Letter a1).map fun r => (bv r, [])) := by
  refine Ok_of3 c136 Try.f136 0 9 (fun q => ?_)
  unfold spec_l1Letter
  refine J_g 2 [] [(0, uv a1)] [] orcN ?_
  refine J_ite (fun h2 => ?_) (fun h2 => ?_)
  · refine J_g 6 [] [(2, bv (decide (a1 ≤ 122)))] [] (orcL 2 [(4, bv (decide (a1 ≥ 97)))] [] h2 orcN) ?_
    exact J_r1 rfl
  · refine J_g 6 [] [(2, bv false)] [] (orcL 2 [(4, bv (decide (a1 ≥ 97)))] [] h2 orcN) ?_
    exact J_r1 rfl

noncomputable def c131 : Code := (Try.f131.body).getD .skip

theorem spec_l1Digit.ok (a1 : Int) : Ok Try.prog 131 [uv a1] [] ((spec_l1Digit a1).map fun r => (bv r, [])) := by
  refine Ok_of3 c131 Try.f131 0 9 (fun q => ?_)
  unfold spec_l1Digit
  refine J_g 2 [] [(0, uv a1)] [] orcN ?_
  refine J_ite (fun h2 => ?_) (fun h2 => ?_)
  · refine J_g 6 [] [(2, bv (decide (a1 ≤ 57)))] [] (orcL 2 [(4, bv (decide (a1 ≥ 48)))] [] h2 orcN) ?_
    exact J_r1 rfl
  · refine J_g 6 [] [(2, bv false)] [] (orcL 2 [(4, bv (decide (a1 ≥ 48)))] [] h2 orcN) ?_
    exact J_r1 rfl

noncomputable def c133 : Code := (Try.f133.body).getD .skip

theorem spec_l1Name.ok (a1 : Int) : Ok Try.prog 133 [uv a1] [] ((spec_l1Name a1).map fun r => (bv r, [])) := by
  refine Ok_of3 c133 Try.f133 0 13 (fun q => ?_)
  unfold spec_l1Name
  refine J_g 2 [] [(0, uv a1)] [] orcN ?_
  refine J_bind (fun x2 h3 => ?_)
  refine J_ite (fun h4 => ?_) (fun h4 => ?_)
  · refine J_g 6 [] [(2, bv true)] [] (orcC 1 (x_c0 [(.tmp 3)] [5] (spec_l1Letter.ok a1) h3) (orcL 2 [(4, bv x2)] [] h4 orcN)) ?_
    exact J_r1 rfl
  · refine J_bind (fun x5 h6 => ?_)
    refine J_ite (fun h7 => ?_) (fun h7 => ?_)
    · refine J_g 6 [] [(2, bv true)] [] (orcC 1 (x_c0 [(.tmp 3)] [5] (spec_l1Letter.ok a1) h3) (orcL 2 [(4, bv x2)] [] h4 (orcH 4 2 5 false (x_c0 [(.tmp 6)] [5] (spec_l1Digit.ok a1) h6) (orcL 6 [(8, bv x5)] [] h7 orcN)))) ?_
      exact J_r1 rfl
    · refine J_g 6 [] [(2, bv (a1 == 95))] [] (orcC 1 (x_c0 [(.tmp 3)] [5] (spec_l1Letter.ok a1) h3) (orcL 2 [(4, bv x2)] [] h4 (orcH 4 2 5 false (x_c0 [(.tmp 6)] [5] (spec_l1Digit.ok a1) h6) (orcL 6 [(8, bv x5)] [] h7 orcN)))) ?_
      exact J_r1 rfl

noncomputable def c122 : Code := (Try.f122.body).getD .skip

theorem spec_l7Byte.ok (a1 : Int) : Ok Try.prog 122 [uv a1] [] ((spec_l7Byte a1).map fun r => (bv r, [])) := by
  refine Ok_of3 c122 Try.f122 0 17 (fun q => ?_)
  unfold spec_l7Byte
  refine J_g 2 [] [(0, uv a1)] [] orcN ?_
  refine J_bind (fun x2 h3 => ?_)
  refine J_ite (fun h4 => ?_) (fun h4 => ?_)
  · refine J_g 6 [] [(2, bv true)] [] (orcC 1 (x_c0 [(.tmp 3)] [5] (spec_l1Name.ok a1) h3) (orcL 2 [(4, bv x2)] [] h4 orcN)) ?_
    exact J_r1 rfl
  · refine J_ite (fun h5 => ?_) (fun h5 => ?_)
    · refine J_g 6 [] [(2, bv true)] [] (orcC 1 (x_c0 [(.tmp 3)] [5] (spec_l1Name.ok a1) h3) (orcL 2 [(4, bv x2)] [] h4 (orcL 6 [(8, bv (a1 == 46))] [] h5 orcN))) ?_
      exact J_r1 rfl
    · refine J_ite (fun h6 => ?_) (fun h6 => ?_)
      · refine J_g 6 [] [(2, bv true)] [] (orcC 1 (x_c0 [(.tmp 3)] [5] (spec_l1Name.ok a1) h3) (orcL 2 [(4, bv x2)] [] h4 (orcL 6 [(8, bv (a1 == 46))] [] h5 (orcL 10 [(12, bv (a1 == 45))] [] h6 orcN)))) ?_
        exact J_r1 rfl
      · refine J_g 6 [] [(2, bv (a1 == 47))] [] (orcC 1 (x_c0 [(.tmp 3)] [5] (spec_l1Name.ok a1) h3) (orcL 2 [(4, bv x2)] [] h4 (orcL 6 [(8, bv (a1 == 46))] [] h5 (orcL 10 [(12, bv (a1 == 45))] [] h6 orcN)))) ?_
        exact J_r1 rfl

noncomputable def c97 : Code := (Try.f97.body).getD .skip

theorem spec_PathFault_l1.ok (a1 : ByteArray) (q : Wd) (kn : Unit → Option (D × List Ent)) (hk : ∀ v : Unit, J (q.g Try.prog 97 0 23) c97 (atI c97 15) (St.mk' [] []) (some v) kn) :
    ∀ s11 : Int, J (q.g Try.prog 97 0 23) c97 (atI c97 116) (St.mk' [(0, sv a1), (3, iv s11)] []) (spec_PathFault_l1 a1 s11) (Fl.go (fun r : Int => some (iv r, [])) kn) := by
  refine J_lp (fun g ih s11 => ?_)
  unfold spec_PathFault_l1b
  refine J_g 464 [] [(0, sv a1), (3, iv s11), (15, bv (decide (s11 < (a1.size : Int))))] [] orcN ?_
  refine J_if2 15 (fun h12 => ?_) (fun h12 => ?_)
  · refine J_bind (fun x13 h14 => ?_)
    refine J_bind (fun x15 h16 => ?_)
    refine J_g 1864 [] [(0, sv a1), (3, iv s11), (22, bv (!x15))] [] (orcC 2 (x_bi (kk := .i64) 9 (.tmp 18) (.tmp 19) h14) (orcC 3 (x_c0 [(.tmp 20)] [5] (spec_l7Byte.ok x13) h16) orcN)) ?_
    refine J_if2 22 (fun h17 => ?_) (fun h17 => ?_)
    · refine J_g 7460 [] [(2, iv 5)] [] orcN ?_
      exact J_r1 rfl
    · refine J_g 467 [] [(0, sv a1), (3, iv (w64 (s11 + 1)))] [] orcN ?_
      exact J_q (J_b (ih (w64 (s11 + 1)))) rfl
  · exact J_qw (hk ()) rfl

theorem spec_PathFault.ok (a1 : ByteArray) : Ok Try.prog 97 [sv a1] [] ((spec_PathFault a1).map fun r => (iv r, [])) := by
  refine Ok_of3 c97 Try.f97 0 23 (fun q => ?_)
  unfold spec_PathFault
  refine J_g 2 [] [(0, sv a1)] [] orcN ?_
  refine J_join (atI c97 13) (fun v3 : Bool => St.mk' [(0, sv a1), (11, bv v3)] []) (fun v3 => ?_) (fun jv3 => ?_)
  · refine J_if2 11 (fun h4 => ?_) (fun h4 => ?_)
    · refine J_g 52 [] [(2, iv 5)] [] orcN ?_
      exact J_r1 rfl
    · refine J_g 28 [] [(0, sv a1), (3, iv 0)] [] orcN ?_
      refine J_lqF (K0 := (fun r : Int => some (iv r, []))) (fun _ => rfl) (spec_PathFault_l1.ok a1 q _ (fun v18 => J_j ?_) 0)
      refine J_g 30 [] [(2, iv 0)] [] orcN ?_
      exact J_r1 rfl
  · refine J_ite (fun h2 => ?_) (fun h2 => ?_)
    · refine J_g 12 [] [(0, sv a1), (11, bv true)] [] (orcL 3 [(6, bv (decide ((a1.size : Int) < 1)))] [] h2 orcN) ?_
      exact J_qw (J_j (jv3 true)) rfl
    · refine J_g 12 [] [(0, sv a1), (11, bv (decide ((a1.size : Int) > 40)))] [] (orcL 3 [(6, bv (decide ((a1.size : Int) < 1)))] [] h2 orcN) ?_
      exact J_qw (J_j (jv3 (decide ((a1.size : Int) > 40)))) rfl

noncomputable def c106 : Code := (Try.f106.body).getD .skip

theorem spec_l7Total_l1.ok (a1 : Disk) (q : Wd) (kn : Int → Option (D × List Ent)) (hk : ∀ v : Int, J (q.g Try.prog 106 1 26) c106 (atI c106 15) (St.mk' [(3, iv v)] [(0, .box (Disk.enc false a1))]) (some v) kn) :
    ∀ s5 : (Int × Int), J (q.g Try.prog 106 1 26) c106 (atI c106 116) (St.mk' [(0, pp 0), (3, iv s5.1), (4, iv s5.2)] [(0, .box (Disk.enc false a1))]) (spec_l7Total_l1 a1 s5) kn := by
  refine J_lp (fun g ih s5 => ?_)
  unfold spec_l7Total_l1b
  refine J_g 464 [] [(0, pp 0), (3, iv s5.1), (4, iv s5.2), (11, bv (decide (s5.2 < (a1.Files.length : Int))))] [(0, .box (Disk.enc false a1))] orcN ?_
  refine J_if2 11 (fun h6 => ?_) (fun h6 => ?_)
  · refine J_bind (fun x7 h8 => ?_)
    refine J_g 932 [] [(0, pp 0), (3, iv (w64 (s5.1 + (x7.Data.length : Int)))), (4, iv s5.2)] [(0, .box (Disk.enc false a1))] (orcC 6 (x_ix (kk := .i64) 22 70 2 (File.enc false) (.tmp 18) (.tmp 19) h8) orcN) ?_
    refine J_g 467 [] [(0, pp 0), (3, iv (w64 (s5.1 + (x7.Data.length : Int)))), (4, iv (w64 (s5.2 + 1)))] [(0, .box (Disk.enc false a1))] orcN ?_
    exact J_q (J_b (ih (w64 (s5.1 + (x7.Data.length : Int)), w64 (s5.2 + 1)))) rfl
  · exact J_qw (hk s5.1) rfl

theorem spec_l7Total.ok (a1 : Disk) : Ok Try.prog 106 [pp 0] [.box (Disk.enc false a1)] ((spec_l7Total a1).map fun r => (iv r, [.box (Disk.enc false a1)])) := by
  refine Ok_of3 c106 Try.f106 1 26 (fun q => ?_)
  unfold spec_l7Total
  refine J_g 2 [] [(0, pp 0)] [(0, .box (Disk.enc false a1))] orcN ?_
  refine J_g 6 [] [(0, pp 0), (3, iv 0)] [(0, .box (Disk.enc false a1))] orcN ?_
  refine J_g 28 [] [(0, pp 0), (3, iv 0), (4, iv 0)] [(0, .box (Disk.enc false a1))] orcN ?_
  refine J_lq (spec_l7Total_l1.ok a1 q _ (fun v9 => J_j ?_) (0, 0))
  refine J_g 30 [] [(2, iv v9)] [(0, .box (Disk.enc false a1))] orcN ?_
  exact J_r1 rfl

noncomputable def c69 : Code := (Try.f69.body).getD .skip

theorem spec_DiskFault_l1.ok (a1 : Disk) (q : Wd) (kn : Unit → Option (D × List Ent)) (hk : ∀ v : Unit, J (q.g Try.prog 69 0 72) c69 (atI c69 31) (St.mk' [(1, pp 0)] [(0, .box (Disk.enc false a1))]) (some v) kn) :
    ∀ s29 : Int, J (q.g Try.prog 69 0 72) c69 (atI c69 244) (St.mk' [(1, pp 0), (3, iv s29)] [(0, .box (Disk.enc false a1))]) (spec_DiskFault_l1 a1 s29) (Fl.go (fun r : Int => some (iv r, [])) kn) := by
  refine J_lp (fun g ih s29 => ?_)
  unfold spec_DiskFault_l1b
  refine J_g 976 [] [(1, pp 0), (3, iv s29), (29, bv (decide (s29 < (a1.Files.length : Int))))] [(0, .box (Disk.enc false a1))] orcN ?_
  refine J_if2 29 (fun h30 => ?_) (fun h30 => ?_)
  · refine J_bind (fun x31 h32 => ?_)
    refine J_bind (fun x33 h34 => ?_)
    refine J_g 7824 [] [(1, pp 0), (3, iv s29), (4, iv x33)] [(0, .box (Disk.enc false a1))] (orcC 3 (x_ix (kk := .i64) 22 70 2 (File.enc false) (.tmp 33) (.tmp 34) h32) (orcC 6 (x_c0 [(.tmp 37)] [9] (spec_PathFault.ok x31.Path) h34) orcN)) ?_
    refine J_g 15650 [] [(1, pp 0), (3, iv s29), (4, iv x33), (40, bv (x33 != 0))] [(0, .box (Disk.enc false a1))] orcN ?_
    refine J_if2 40 (fun h35 => ?_) (fun h35 => ?_)
    · refine J_g 62604 [] [(2, iv x33)] [] orcN ?_
      exact J_r1 rfl
    · refine J_join (atI c69 15653) (fun v41 : Bool => St.mk' [(1, pp 0), (3, iv s29), (59, bv v41)] [(0, .box (Disk.enc false a1))]) (fun v41 => ?_) (fun jv41 => ?_)
      · refine J_if2 59 (fun h42 => ?_) (fun h42 => ?_)
        · refine J_g 62612 [] [(2, iv 1)] [] orcN ?_
          exact J_r1 rfl
        · refine J_bind (fun x43 h44 => ?_)
          refine J_g 15654 [] [(1, pp 0), (3, iv s29), (67, bv (decide ((x43.Data.length : Int) > 4000)))] [(0, .box (Disk.enc false a1))] (orcC 3 (x_ix (kk := .i64) 22 70 2 (File.enc false) (.tmp 61) (.tmp 62) h44) orcN) ?_
          refine J_if2 67 (fun h45 => ?_) (fun h45 => ?_)
          · refine J_g 62620 [] [(2, iv 2)] [] orcN ?_
            exact J_r1 rfl
          · refine J_g 979 [] [(1, pp 0), (3, iv (w64 (s29 + 1)))] [(0, .box (Disk.enc false a1))] orcN ?_
            exact J_q (J_b (ih (w64 (s29 + 1)))) rfl
      · refine J_ite (fun h36 => ?_) (fun h36 => ?_)
        · refine J_bind (fun x37 h38 => ?_)
          refine J_bind (fun x39 h40 => ?_)
          refine J_g 15652 [] [(1, pp 0), (3, iv s29), (59, bv (slt x37.Path x39.Path || seq x37.Path x39.Path))] [(0, .box (Disk.enc false a1))] (orcL 2 [(43, bv (decide (s29 > 0)))] [] h36 (orcH 6 2 44 true (x_ix (kk := .i64) 22 70 2 (File.enc false) (.tmp 46) (.tmp 47) h38) (orcH 13 2 44 true (x_ix (kk := .i64) 22 70 2 (File.enc false) (.tmp 52) (.tmp 54) h40) orcN))) ?_
          exact J_qw (J_j (jv41 (slt x37.Path x39.Path || seq x37.Path x39.Path))) rfl
        · refine J_g 15652 [] [(1, pp 0), (3, iv s29), (59, bv false)] [(0, .box (Disk.enc false a1))] (orcL 2 [(43, bv (decide (s29 > 0)))] [] h36 orcN) ?_
          exact J_qw (J_j (jv41 false)) rfl
  · exact J_qw (hk ()) rfl

theorem spec_DiskFault.ok (a1 : Disk) : Ok Try.prog 69 [.ag (Disk.enc false a1)] [] ((spec_DiskFault a1).map fun r => (iv r, [])) := by
  refine Ok_of3 c69 Try.f69 0 72 (fun q => ?_)
  unfold spec_DiskFault
  refine J_g 2 [(0, 0)] [(1, pp 0)] [(0, .box (Disk.enc false a1))] orcN ?_
  refine J_bind (fun x2 h3 => ?_)
  refine J_join (atI c69 13) (fun v10 : Bool => St.mk' [(1, pp 0), (20, bv v10)] [(0, .box (Disk.enc false a1))]) (fun v10 => ?_) (fun jv10 => ?_)
  · refine J_if2 20 (fun h11 => ?_) (fun h11 => ?_)
    · refine J_g 52 [] [(2, iv 3)] [] orcN ?_
      exact J_r1 rfl
    · refine J_g 28 [] [(1, pp 0), (24, bv (decide ((a1.Files.length : Int) > 120)))] [(0, .box (Disk.enc false a1))] orcN ?_
      refine J_if2 24 (fun h12 => ?_) (fun h12 => ?_)
      · refine J_g 116 [] [(2, iv 2)] [] orcN ?_
        exact J_r1 rfl
      · refine J_g 60 [] [(1, pp 0), (3, iv 0)] [(0, .box (Disk.enc false a1))] orcN ?_
        refine J_lqF (K0 := (fun r : Int => some (iv r, []))) (fun _ => rfl) (spec_DiskFault_l1.ok a1 q _ (fun v46 => J_j ?_) 0)
        refine J_bind (fun x47 h48 => ?_)
        refine J_g 124 [] [(71, bv (decide (x47 > a1.Budget)))] [] (orcC 0 (x_ro [(0, .box (Disk.enc false a1))] [] (x_c1 («as» := [pp 0]) [(.tmp 1)] [98] false [(0, .box (Disk.enc false a1))] [0] (.cons (.pt rfl) (.nil)) (spec_l7Total.ok a1) h48 (.same rfl rfl))) orcN) ?_
        refine J_if2 71 (fun h49 => ?_) (fun h49 => ?_)
        · refine J_g 500 [] [(2, iv 8)] [] orcN ?_
          exact J_r1 rfl
        · refine J_g 126 [] [(2, iv 0)] [] orcN ?_
          exact J_r1 rfl
  · refine J_ite (fun h4 => ?_) (fun h4 => ?_)
    · refine J_g 12 [] [(1, pp 0), (20, bv true)] [(0, .box (Disk.enc false a1))] (orcC 2 (x_c0 [(.tmp 6), (.const (.int .i64 0)), (.const (.int .i64 20000))] [2, 2, 2] (spec_l1In.ok a1.Budget 0 20000) h3) (orcL 4 [(8, bv (!x2))] [] h4 orcN)) ?_
      exact J_qw (J_j (jv10 true)) rfl
    · refine J_bind (fun x5 h6 => ?_)
      refine J_ite (fun h7 => ?_) (fun h7 => ?_)
      · refine J_g 12 [] [(1, pp 0), (20, bv true)] [(0, .box (Disk.enc false a1))] (orcC 2 (x_c0 [(.tmp 6), (.const (.int .i64 0)), (.const (.int .i64 20000))] [2, 2, 2] (spec_l1In.ok a1.Budget 0 20000) h3) (orcL 4 [(8, bv (!x2))] [] h4 (orcH 7 4 9 false (x_c0 [(.tmp 11), (.const (.int .i64 0)), (.const (.int .i64 1000000000))] [2, 2, 2] (spec_l1In.ok a1.Writes 0 1000000000) h6) (orcL 10 [(14, bv (!x5))] [] h7 orcN)))) ?_
        exact J_qw (J_j (jv10 true)) rfl
      · refine J_bind (fun x8 h9 => ?_)
        refine J_g 12 [] [(1, pp 0), (20, bv (!x8))] [(0, .box (Disk.enc false a1))] (orcC 2 (x_c0 [(.tmp 6), (.const (.int .i64 0)), (.const (.int .i64 20000))] [2, 2, 2] (spec_l1In.ok a1.Budget 0 20000) h3) (orcL 4 [(8, bv (!x2))] [] h4 (orcH 7 4 9 false (x_c0 [(.tmp 11), (.const (.int .i64 0)), (.const (.int .i64 1000000000))] [2, 2, 2] (spec_l1In.ok a1.Writes 0 1000000000) h6) (orcL 10 [(14, bv (!x5))] [] h7 (orcH 13 10 15 false (x_c0 [(.tmp 17), (.const (.int .i64 (-1))), (.const (.int .i64 1000000000))] [2, 2, 2] (spec_l1In.ok a1.Stop (-1) 1000000000) h9) orcN))))) ?_
        exact J_qw (J_j (jv10 (!x8))) rfl

noncomputable def c81 : Code := (Try.f81.body).getD .skip

theorem spec_l7Find_l1.ok (a1 : Disk) (a2 : ByteArray) (q : Wd) (kn : Unit → Option (D × List Ent)) (hk : ∀ v : Unit, J (q.g Try.prog 81 1 26) c81 (atI c81 7) (St.mk' [] [(0, .box (Disk.enc false a1))]) (some v) kn) :
    ∀ s7 : Int, J (q.g Try.prog 81 1 26) c81 (atI c81 52) (St.mk' [(0, pp 0), (1, sv a2), (5, iv s7)] [(0, .box (Disk.enc false a1))]) (spec_l7Find_l1 a1 a2 s7) (Fl.go (fun r : Int => some (iv r, [.box (Disk.enc false a1)])) kn) := by
  refine J_lp (fun g ih s7 => ?_)
  unfold spec_l7Find_l1b
  refine J_g 208 [] [(0, pp 0), (1, sv a2), (5, iv s7), (12, bv (decide (s7 < (a1.Files.length : Int))))] [(0, .box (Disk.enc false a1))] orcN ?_
  refine J_if2 12 (fun h8 => ?_) (fun h8 => ?_)
  · refine J_bind (fun x9 h10 => ?_)
    refine J_g 840 [] [(0, pp 0), (1, sv a2), (5, iv s7), (24, bv (seq x9.Path a2))] [(0, .box (Disk.enc false a1))] (orcC 5 (x_ix (kk := .i64) 22 70 2 (File.enc false) (.tmp 18) (.tmp 19) h10) orcN) ?_
    refine J_if2 24 (fun h11 => ?_) (fun h11 => ?_)
    · refine J_g 3364 [] [(4, iv s7)] [(0, .box (Disk.enc false a1))] orcN ?_
      exact J_r1 rfl
    · refine J_g 211 [] [(0, pp 0), (1, sv a2), (5, iv (w64 (s7 + 1)))] [(0, .box (Disk.enc false a1))] orcN ?_
      exact J_q (J_b (ih (w64 (s7 + 1)))) rfl
  · exact J_qw (hk ()) rfl

theorem spec_l7Find.ok (a1 : Disk) (a2 : ByteArray) : Ok Try.prog 81 [pp 0, sv a2] [.box (Disk.enc false a1)] ((spec_l7Find a1 a2).map fun r => (iv r, [.box (Disk.enc false a1)])) := by
  refine Ok_of3 c81 Try.f81 1 26 (fun q => ?_)
  unfold spec_l7Find
  refine J_g 2 [] [(0, pp 0), (1, sv a2)] [(0, .box (Disk.enc false a1))] orcN ?_
  refine J_g 12 [] [(0, pp 0), (1, sv a2), (5, iv 0)] [(0, .box (Disk.enc false a1))] orcN ?_
  refine J_lqF (K0 := (fun r : Int => some (iv r, [.box (Disk.enc false a1)]))) (fun _ => rfl) (spec_l7Find_l1.ok a1 a2 q _ (fun v12 => J_j ?_) 0)
  refine J_g 14 [] [(4, iv (-1))] [(0, .box (Disk.enc false a1))] orcN ?_
  exact J_r1 rfl

noncomputable def c42 : Code := (Try.f42.body).getD .skip

theorem spec_ReadFile.ok (a1 : Disk) (a2 : ByteArray) : Ok Try.prog 42 [.ag (Disk.enc false a1), sv a2] [] ((spec_ReadFile a1 a2).map fun r => (.ag [iv r.Code, sv r.File.Path, so 1 eU8 r.File.Data], [])) := by
  refine Ok_of3 c42 Try.f42 0 32 (fun q => ?_)
  unfold spec_ReadFile
  refine J_g 2 [(0, 0), (1, 1)] [(1, sv a2), (2, pp 0), (4, pp 1)] [(0, .box (Disk.enc false a1)), (1, .box [iv 0, sv ByteArray.empty, nv])] orcN ?_
  refine J_bind (fun x3 h4 => ?_)
  refine J_g 12 [] [(1, sv a2), (2, pp 0), (4, pp 1), (5, iv x3)] [(0, .box (Disk.enc false a1)), (1, .box [iv 0, sv ByteArray.empty, nv])] (orcC 1 (x_c0 [(.tmp 7)] [24] (spec_DiskFault.ok a1) h4) orcN) ?_
  refine J_g 26 [] [(1, sv a2), (2, pp 0), (4, pp 1), (5, iv x3), (10, bv (x3 != 0))] [(0, .box (Disk.enc false a1)), (1, .box [iv 0, sv ByteArray.empty, nv])] orcN ?_
  refine J_if2 10 (fun h5 => ?_) (fun h5 => ?_)
  · refine J_g 108 [] [(4, pp 1)] [(1, .box [iv x3, sv ByteArray.empty, nv])] orcN ?_
    exact J_rm (ds := [.ag [iv x3, sv ByteArray.empty, nv]]) (ds' := [.ag [iv x3, sv ByteArray.empty, so 1 eU8 ([] : List Int)]]) (.cons (.ag (.keep rfl (.keep rfl (.nilsl true 1 (.nil))))) (.nil) (by decide)) rfl
  · refine J_g 28 [] [(1, sv a2), (2, pp 0), (4, pp 1), (14, bv a1.Down)] [(0, .box (Disk.enc false a1)), (1, .box [iv 0, sv ByteArray.empty, nv])] orcN ?_
    refine J_if2 14 (fun h6 => ?_) (fun h6 => ?_)
    · refine J_g 116 [] [(4, pp 1)] [(1, .box [iv 9, sv ByteArray.empty, nv])] orcN ?_
      exact J_rm (ds := [.ag [iv 9, sv ByteArray.empty, nv]]) (ds' := [.ag [iv 9, sv ByteArray.empty, so 1 eU8 ([] : List Int)]]) (.cons (.ag (.keep rfl (.keep rfl (.nilsl true 1 (.nil))))) (.nil) (by decide)) rfl
    · refine J_bind (fun x7 h8 => ?_)
      refine J_g 30 [] [(1, sv a2), (2, pp 0), (4, pp 1), (6, iv x7)] [(0, .box (Disk.enc false a1)), (1, .box [iv 0, sv ByteArray.empty, nv])] (orcC 1 (x_ro [(0, .box (Disk.enc false a1))] [] (x_c1 («as» := [pp 0, sv a2]) [(.tmp 2), (.tmp 16)] [98, 9] false [(0, .box (Disk.enc false a1))] [0] (.cons (.pt rfl) (.cons (.same rfl) (.nil))) (spec_l7Find.ok a1 a2) h8 (.same rfl rfl))) orcN) ?_
      refine J_g 124 [] [(1, sv a2), (2, pp 0), (4, pp 1), (6, iv x7), (19, bv (decide (x7 < 0)))] [(0, .box (Disk.enc false a1)), (1, .box [iv 0, sv ByteArray.empty, nv])] orcN ?_
      refine J_if2 19 (fun h9 => ?_) (fun h9 => ?_)
      · refine J_g 500 [] [(4, pp 1)] [(1, .box [iv 4, sv ByteArray.empty, nv])] orcN ?_
        exact J_rm (ds := [.ag [iv 4, sv ByteArray.empty, nv]]) (ds' := [.ag [iv 4, sv ByteArray.empty, so 1 eU8 ([] : List Int)]]) (.cons (.ag (.keep rfl (.keep rfl (.nilsl true 1 (.nil))))) (.nil) (by decide)) rfl
      · refine J_bind (fun x10 h11 => ?_)
        refine J_bind (fun x12 h13 => ?_)
        refine J_g 126 [] [(4, pp 1)] [(1, .box [iv 0, sv a2, rr 3 x12]), (3, rE 1 eU8 x12)] (orcC 1 (x_bp 68 5 1 2 eU8 ([] : List Int) [] [] []) (orcC 5 (x_ix (kk := .i64) 22 70 2 (File.enc false) (.tmp 24) (.tmp 25) h11) (orcC 8 (x_aps 68 68 5 5 1 1 3 2 eU8 (.tmp 22) (.tmp 28) h13) orcN))) ?_
        exact J_rm (ds := [.ag [iv 0, sv a2, rr 3 x12]]) (ds' := [.ag [iv 0, sv a2, so 1 eU8 x12]]) (.cons (.ag (.keep rfl (.keep rfl (.move (.tail _ (.head _)) (List.length_map _) (by decide) (.nil))))) (.nil) (by decide)) rfl

noncomputable def c60 : Code := (Try.f60.body).getD .skip

theorem impl_within.ok (a1 : Int) (a2 : Int) (a3 : Int) : Ok Try.prog 60 [iv a1, iv a2, iv a3] [] ((impl_within a1 a2 a3).map fun r => (bv r, [])) := by
  refine Ok_of3 c60 Try.f60 0 15 (fun q => ?_)
  unfold impl_within
  refine J_g 2 [] [(0, iv a1), (1, iv a2), (2, iv a3)] [] orcN ?_
  refine J_ite (fun h4 => ?_) (fun h4 => ?_)
  · refine J_g 6 [] [(6, bv (decide (a1 ≤ a3)))] [] (orcL 3 [(9, bv (decide (a2 ≤ a1)))] [] h4 orcN) ?_
    exact J_r1 rfl
  · refine J_g 6 [] [(6, bv false)] [] (orcL 3 [(9, bv (decide (a2 ≤ a1)))] [] h4 orcN) ?_
    exact J_r1 rfl

noncomputable def c126 : Code := (Try.f126.body).getD .skip

theorem impl_isNameByte.ok (a1 : Int) : Ok Try.prog 126 [uv a1] [] ((impl_isNameByte a1).map fun r => (bv r, [])) := by
  refine Ok_of3 c126 Try.f126 0 21 (fun q => ?_)
  unfold impl_isNameByte
  refine J_g 2 [] [(0, uv a1)] [] orcN ?_
  refine J_ite (fun h2 => ?_) (fun h2 => ?_)
  · refine J_ite (fun h3 => ?_) (fun h3 => ?_)
    · refine J_g 6 [] [(2, bv true)] [] (orcL 2 [(4, bv (decide (a1 ≥ 97)))] [] h2 (orcL 6 [(8, bv (decide (a1 ≤ 122)))] [] h3 (orcV 9 (orcU (i := 9) (g := 6) (t := 9) (b := false) (v := (.bool true)) (.inl rfl) (by kernel_rfl) (by kernel_rfl)) (orcV 10 (orcU (i := 10) (g := 9) (t := 12) (b := true) (v := undef) (.inr rfl) (by kernel_rfl) (by kernel_rfl)) (orcV 11 (orcU (i := 11) (g := 9) (t := 12) (b := true) (v := undef) (.inr rfl) (by kernel_rfl) (by kernel_rfl)) orcN))))) ?_
      exact J_r1 rfl
    · refine J_ite (fun h4 => ?_) (fun h4 => ?_)
      · refine J_ite (fun h5 => ?_) (fun h5 => ?_)
        · refine J_g 6 [] [(2, bv true)] [] (orcL 2 [(4, bv (decide (a1 ≥ 97)))] [] h2 (orcL 6 [(8, bv (decide (a1 ≤ 122)))] [] h3 (orcLG 9 6 9 false [(11, bv (decide (a1 ≥ 48)))] [] h4 (orcL 14 [(16, bv (decide (a1 ≤ 57)))] [] h5 orcN)))) ?_
          exact J_r1 rfl
        · refine J_g 6 [] [(2, bv (a1 == 95))] [] (orcL 2 [(4, bv (decide (a1 ≥ 97)))] [] h2 (orcL 6 [(8, bv (decide (a1 ≤ 122)))] [] h3 (orcLG 9 6 9 false [(11, bv (decide (a1 ≥ 48)))] [] h4 (orcL 14 [(16, bv (decide (a1 ≤ 57)))] [] h5 orcN)))) ?_
          exact J_r1 rfl
      · refine J_g 6 [] [(2, bv (a1 == 95))] [] (orcL 2 [(4, bv (decide (a1 ≥ 97)))] [] h2 (orcL 6 [(8, bv (decide (a1 ≤ 122)))] [] h3 (orcLG 9 6 9 false [(11, bv (decide (a1 ≥ 48)))] [] h4 orcN))) ?_
        exact J_r1 rfl
  · refine J_ite (fun h6 => ?_) (fun h6 => ?_)
    · refine J_ite (fun h7 => ?_) (fun h7 => ?_)
      · refine J_g 6 [] [(2, bv true)] [] (orcL 2 [(4, bv (decide (a1 ≥ 97)))] [] h2 (orcLG 9 6 9 false [(11, bv (decide (a1 ≥ 48)))] [] h6 (orcL 14 [(16, bv (decide (a1 ≤ 57)))] [] h7 orcN))) ?_
        exact J_r1 rfl
      · refine J_g 6 [] [(2, bv (a1 == 95))] [] (orcL 2 [(4, bv (decide (a1 ≥ 97)))] [] h2 (orcLG 9 6 9 false [(11, bv (decide (a1 ≥ 48)))] [] h6 (orcL 14 [(16, bv (decide (a1 ≤ 57)))] [] h7 orcN))) ?_
        exact J_r1 rfl
    · refine J_g 6 [] [(2, bv (a1 == 95))] [] (orcL 2 [(4, bv (decide (a1 ≥ 97)))] [] h2 (orcLG 9 6 9 false [(11, bv (decide (a1 ≥ 48)))] [] h6 orcN)) ?_
      exact J_r1 rfl

noncomputable def c109 : Code := (Try.f109.body).getD .skip

theorem impl_PathFault_l1.ok (a1 : ByteArray) (q : Wd) (kn : Unit → Option (D × List Ent)) (hk : ∀ v : Unit, J (q.g Try.prog 109 0 37) c109 (atI c109 15) (St.mk' [] []) (some v) kn) :
    ∀ s15 : Int, J (q.g Try.prog 109 0 37) c109 (atI c109 116) (St.mk' [(0, sv a1), (14, iv (a1.size : Int)), (15, iv s15)] []) (impl_PathFault_l1 a1 s15) (Fl.go (fun r : Int => some (iv r, [])) kn) := by
  refine J_lp (fun g ih s15 => ?_)
  unfold impl_PathFault_l1b
  refine J_g 232 [] [(0, sv a1), (14, iv (a1.size : Int)), (15, iv s15), (16, bv (decide (s15 < (a1.size : Int))))] [] orcN ?_
  refine J_if2 16 (fun h16 => ?_) (fun h16 => ?_)
  · refine J_g 3736 [] [(0, sv a1), (3, iv s15), (14, iv (a1.size : Int)), (15, iv s15)] [] orcN ?_
    refine J_bind (fun x17 h18 => ?_)
    refine J_g 7474 [] [(0, sv a1), (4, uv x17), (14, iv (a1.size : Int)), (15, iv s15)] [] (orcC 2 (x_bi (kk := .i64) 9 (.tmp 18) (.tmp 19) h18) orcN) ?_
    refine J_bind (fun x19 h20 => ?_)
    refine J_join (atI c109 14951) (fun v24 : Bool => St.mk' [(0, sv a1), (14, iv (a1.size : Int)), (15, iv s15), (35, bv v24)] []) (fun v24 => ?_) (fun jv24 => ?_)
    · refine J_if2 35 (fun h25 => ?_) (fun h25 => ?_)
      · refine J_g 59804 [] [(2, iv 5)] [] orcN ?_
        exact J_r1 rfl
      · refine J_g 935 [] [(0, sv a1), (14, iv (a1.size : Int)), (15, iv (w64 (s15 + 1)))] [] orcN ?_
        exact J_q (J_b (ih (w64 (s15 + 1)))) rfl
    · refine J_ite (fun h21 => ?_) (fun h21 => ?_)
      · refine J_ite (fun h22 => ?_) (fun h22 => ?_)
        · refine J_ite (fun h23 => ?_) (fun h23 => ?_)
          · refine J_g 14950 [] [(0, sv a1), (14, iv (a1.size : Int)), (15, iv s15), (35, bv (x17 != 47))] [] (orcC 1 (x_c0 [(.tmp 21)] [5] (impl_isNameByte.ok x17) h20) (orcL 3 [(23, bv (!x19))] [] h21 (orcL 7 [(27, bv (x17 != 46))] [] h22 (orcL 11 [(31, bv (x17 != 45))] [] h23 orcN)))) ?_
            exact J_qw (J_j (jv24 (x17 != 47))) rfl
          · refine J_g 14950 [] [(0, sv a1), (14, iv (a1.size : Int)), (15, iv s15), (35, bv false)] [] (orcC 1 (x_c0 [(.tmp 21)] [5] (impl_isNameByte.ok x17) h20) (orcL 3 [(23, bv (!x19))] [] h21 (orcL 7 [(27, bv (x17 != 46))] [] h22 (orcL 11 [(31, bv (x17 != 45))] [] h23 orcN)))) ?_
            exact J_qw (J_j (jv24 false)) rfl
        · refine J_g 14950 [] [(0, sv a1), (14, iv (a1.size : Int)), (15, iv s15), (35, bv false)] [] (orcC 1 (x_c0 [(.tmp 21)] [5] (impl_isNameByte.ok x17) h20) (orcL 3 [(23, bv (!x19))] [] h21 (orcL 7 [(27, bv (x17 != 46))] [] h22 orcN))) ?_
          exact J_qw (J_j (jv24 false)) rfl
      · refine J_g 14950 [] [(0, sv a1), (14, iv (a1.size : Int)), (15, iv s15), (35, bv false)] [] (orcC 1 (x_c0 [(.tmp 21)] [5] (impl_isNameByte.ok x17) h20) (orcL 3 [(23, bv (!x19))] [] h21 orcN)) ?_
        exact J_qw (J_j (jv24 false)) rfl
  · exact J_qw (hk ()) rfl

theorem impl_PathFault.ok (a1 : ByteArray) : Ok Try.prog 109 [sv a1] [] ((impl_PathFault a1).map fun r => (iv r, [])) := by
  refine Ok_of3 c109 Try.f109 0 37 (fun q => ?_)
  unfold impl_PathFault
  refine J_g 2 [] [(0, sv a1)] [] orcN ?_
  refine J_join (atI c109 13) (fun v3 : Bool => St.mk' [(0, sv a1), (12, bv v3)] []) (fun v3 => ?_) (fun jv3 => ?_)
  · refine J_if2 12 (fun h4 => ?_) (fun h4 => ?_)
    · refine J_g 52 [] [(2, iv 5)] [] orcN ?_
      exact J_r1 rfl
    · refine J_g 28 [] [(0, sv a1), (14, iv (a1.size : Int)), (15, iv 0)] [] orcN ?_
      refine J_lqF (K0 := (fun r : Int => some (iv r, []))) (fun _ => rfl) (impl_PathFault_l1.ok a1 q _ (fun v26 => J_j ?_) 0)
      refine J_g 30 [] [(2, iv 0)] [] orcN ?_
      exact J_r1 rfl
  · refine J_ite (fun h2 => ?_) (fun h2 => ?_)
    · refine J_g 12 [] [(0, sv a1), (12, bv true)] [] (orcL 3 [(7, bv (decide ((a1.size : Int) < 1)))] [] h2 orcN) ?_
      exact J_qw (J_j (jv3 true)) rfl
    · refine J_g 12 [] [(0, sv a1), (12, bv (decide ((a1.size : Int) > 40)))] [] (orcL 3 [(7, bv (decide ((a1.size : Int) < 1)))] [] h2 orcN) ?_
      exact J_qw (J_j (jv3 (decide ((a1.size : Int) > 40)))) rfl

noncomputable def c110 : Code := (Try.f110.body).getD .skip

theorem impl_Disk_total_l1.ok (a1 : Disk) (q : Wd) (kn : Int → Option (D × List Ent)) (hk : ∀ v : Int, J (q.g Try.prog 110 0 20) c110 (atI c110 15) (St.mk' [(3, iv v)] []) (some v) kn) :
    ∀ s5 : (Int × Int), J (q.g Try.prog 110 0 20) c110 (atI c110 116) (St.mk' [(3, iv s5.1), (7, sl 2 (File.enc false) a1.Files), (8, iv (a1.Files.length : Int)), (9, iv s5.2)] []) (impl_Disk_total_l1 a1 s5) kn := by
  refine J_lp (fun g ih s5 => ?_)
  unfold impl_Disk_total_l1b
  refine J_g 232 [] [(3, iv s5.1), (7, sl 2 (File.enc false) a1.Files), (8, iv (a1.Files.length : Int)), (9, iv s5.2), (10, bv (decide (s5.2 < (a1.Files.length : Int))))] [] orcN ?_
  refine J_if2 10 (fun h6 => ?_) (fun h6 => ?_)
  · refine J_bind (fun x7 h8 => ?_)
    refine J_g 3736 [(2, 0)] [(3, iv s5.1), (5, pp 0), (7, sl 2 (File.enc false) a1.Files), (8, iv (a1.Files.length : Int)), (9, iv s5.2)] [(0, .box (File.enc false x7))] (orcC 0 (x_ix (kk := .i64) 22 70 2 (File.enc false) (.tmp 7) (.tmp 9) h8) orcN) ?_
    refine J_g 3737 [] [(3, iv (w64 (s5.1 + (x7.Data.length : Int)))), (7, sl 2 (File.enc false) a1.Files), (8, iv (a1.Files.length : Int)), (9, iv s5.2)] [] orcN ?_
    refine J_g 935 [] [(3, iv (w64 (s5.1 + (x7.Data.length : Int)))), (7, sl 2 (File.enc false) a1.Files), (8, iv (a1.Files.length : Int)), (9, iv (w64 (s5.2 + 1)))] [] orcN ?_
    exact J_q (J_b (ih (w64 (s5.1 + (x7.Data.length : Int)), w64 (s5.2 + 1)))) rfl
  · exact J_qw (hk s5.1) rfl

theorem impl_Disk_total.ok (a1 : Disk) : Ok Try.prog 110 [.ag (Disk.enc false a1)] [] ((impl_Disk_total a1).map fun r => (iv r, [])) := by
  refine Ok_of3 c110 Try.f110 0 20 (fun q => ?_)
  unfold impl_Disk_total
  refine J_g 2 [(0, 0)] [(1, pp 0)] [(0, .box (Disk.enc false a1))] orcN ?_
  refine J_g 6 [] [(1, pp 0), (3, iv 0)] [(0, .box (Disk.enc false a1))] orcN ?_
  refine J_g 28 [] [(3, iv 0), (7, sl 2 (File.enc false) a1.Files), (8, iv (a1.Files.length : Int)), (9, iv 0)] [] orcN ?_
  refine J_lq (impl_Disk_total_l1.ok a1 q _ (fun v9 => J_j ?_) (0, 0))
  refine J_g 30 [] [(2, iv v9)] [] orcN ?_
  exact J_r1 rfl

noncomputable def c72 : Code := (Try.f72.body).getD .skip

theorem impl_DiskFault_l1.ok (a1 : Disk) (q : Wd) (kn : Unit → Option (D × List Ent)) (hk : ∀ v : Unit, J (q.g Try.prog 72 0 68) c72 (atI c72 15) (St.mk' [(1, pp 0)] [(0, .box (Disk.enc false a1))]) (some v) kn) :
    ∀ s25 : Int, J (q.g Try.prog 72 0 68) c72 (atI c72 116) (St.mk' [(1, pp 0), (29, sl 2 (File.enc false) a1.Files), (30, iv (a1.Files.length : Int)), (31, iv s25)] [(0, .box (Disk.enc false a1))]) (impl_DiskFault_l1 a1 s25) (Fl.go (fun r : Int => some (iv r, [])) kn) := by
  refine J_lp (fun g ih s25 => ?_)
  unfold impl_DiskFault_l1b
  refine J_g 232 [] [(1, pp 0), (29, sl 2 (File.enc false) a1.Files), (30, iv (a1.Files.length : Int)), (31, iv s25), (32, bv (decide (s25 < (a1.Files.length : Int))))] [(0, .box (Disk.enc false a1))] orcN ?_
  refine J_if2 32 (fun h26 => ?_) (fun h26 => ?_)
  · refine J_bind (fun x27 h28 => ?_)
    refine J_g 3736 [(3, 1)] [(1, pp 0), (3, iv s25), (4, pp 1), (29, sl 2 (File.enc false) a1.Files), (30, iv (a1.Files.length : Int)), (31, iv s25)] [(0, .box (Disk.enc false a1)), (1, .box (File.enc false x27))] (orcC 1 (x_ix (kk := .i64) 22 70 2 (File.enc false) (.tmp 29) (.tmp 31) h28) orcN) ?_
    refine J_bind (fun x29 h30 => ?_)
    refine J_g 14948 [] [(1, pp 0), (3, iv s25), (4, pp 1), (5, iv x29), (29, sl 2 (File.enc false) a1.Files), (30, iv (a1.Files.length : Int)), (31, iv s25)] [(0, .box (Disk.enc false a1)), (1, .box (File.enc false x27))] (orcC 2 (x_c0 [(.tmp 37)] [9] (impl_PathFault.ok x27.Path) h30) orcN) ?_
    refine J_g 29898 [] [(1, pp 0), (3, iv s25), (4, pp 1), (5, iv x29), (29, sl 2 (File.enc false) a1.Files), (30, iv (a1.Files.length : Int)), (31, iv s25), (40, bv (x29 != 0))] [(0, .box (Disk.enc false a1)), (1, .box (File.enc false x27))] orcN ?_
    refine J_if2 40 (fun h31 => ?_) (fun h31 => ?_)
    · refine J_g 119596 [] [(2, iv x29)] [] orcN ?_
      exact J_r1 rfl
    · refine J_join (atI c72 29901) (fun v35 : Bool => St.mk' [(1, pp 0), (4, pp 1), (29, sl 2 (File.enc false) a1.Files), (30, iv (a1.Files.length : Int)), (31, iv s25), (42, bv v35)] [(0, .box (Disk.enc false a1)), (1, .box (File.enc false x27))]) (fun v35 => ?_) (fun jv35 => ?_)
      · refine J_if2 42 (fun h36 => ?_) (fun h36 => ?_)
        · refine J_g 119604 [] [(2, iv 1)] [] orcN ?_
          exact J_r1 rfl
        · refine J_g 119606 [] [(1, pp 0), (29, sl 2 (File.enc false) a1.Files), (30, iv (a1.Files.length : Int)), (31, iv s25), (57, bv (decide ((x27.Data.length : Int) > 4000)))] [(0, .box (Disk.enc false a1))] orcN ?_
          refine J_if2 57 (fun h37 => ?_) (fun h37 => ?_)
          · refine J_g 478428 [] [(2, iv 2)] [] orcN ?_
            exact J_r1 rfl
          · refine J_g 935 [] [(1, pp 0), (29, sl 2 (File.enc false) a1.Files), (30, iv (a1.Files.length : Int)), (31, iv (w64 (s25 + 1)))] [(0, .box (Disk.enc false a1))] orcN ?_
            exact J_q (J_b (ih (w64 (s25 + 1)))) rfl
      · refine J_ite (fun h32 => ?_) (fun h32 => ?_)
        · refine J_bind (fun x33 h34 => ?_)
          refine J_g 29900 [] [(1, pp 0), (4, pp 1), (29, sl 2 (File.enc false) a1.Files), (30, iv (a1.Files.length : Int)), (31, iv s25), (42, bv (slt x27.Path x33.Path || seq x27.Path x33.Path))] [(0, .box (Disk.enc false a1)), (1, .box (File.enc false x27))] (orcL 2 [(44, bv (decide (s25 > 0)))] [] h32 (orcH 9 2 45 true (x_ix (kk := .i64) 22 70 2 (File.enc false) (.tmp 49) (.tmp 51) h34) orcN)) ?_
          exact J_qw (J_j (jv35 (slt x27.Path x33.Path || seq x27.Path x33.Path))) rfl
        · refine J_g 29900 [] [(1, pp 0), (4, pp 1), (29, sl 2 (File.enc false) a1.Files), (30, iv (a1.Files.length : Int)), (31, iv s25), (42, bv false)] [(0, .box (Disk.enc false a1)), (1, .box (File.enc false x27))] (orcL 2 [(44, bv (decide (s25 > 0)))] [] h32 orcN) ?_
          exact J_qw (J_j (jv35 false)) rfl
  · exact J_qw (hk ()) rfl

theorem impl_DiskFault.ok (a1 : Disk) : Ok Try.prog 72 [.ag (Disk.enc false a1)] [] ((impl_DiskFault a1).map fun r => (iv r, [])) := by
  refine Ok_of3 c72 Try.f72 0 68 (fun q => ?_)
  unfold impl_DiskFault
  refine J_g 2 [(0, 0)] [(1, pp 0)] [(0, .box (Disk.enc false a1))] orcN ?_
  refine J_bind (fun x2 h3 => ?_)
  refine J_join (atI c72 25) (fun v10 : Bool => St.mk' [(1, pp 0), (6, bv v10)] [(0, .box (Disk.enc false a1))]) (fun v10 => ?_) (fun jv10 => ?_)
  · refine J_if2 6 (fun h11 => ?_) (fun h11 => ?_)
    · refine J_g 100 [] [(2, iv 3)] [] orcN ?_
      exact J_r1 rfl
    · refine J_g 102 [] [(1, pp 0), (23, bv (decide ((a1.Files.length : Int) > 120)))] [(0, .box (Disk.enc false a1))] orcN ?_
      refine J_if2 23 (fun h12 => ?_) (fun h12 => ?_)
      · refine J_g 412 [] [(2, iv 2)] [] orcN ?_
        exact J_r1 rfl
      · refine J_g 28 [] [(1, pp 0), (29, sl 2 (File.enc false) a1.Files), (30, iv (a1.Files.length : Int)), (31, iv 0)] [(0, .box (Disk.enc false a1))] orcN ?_
        refine J_lqF (K0 := (fun r : Int => some (iv r, []))) (fun _ => rfl) (impl_DiskFault_l1.ok a1 q _ (fun v38 => J_j ?_) 0)
        refine J_bind (fun x39 h40 => ?_)
        refine J_g 60 [] [(67, bv (decide (x39 > a1.Budget)))] [] (orcC 1 (x_c0 [(.tmp 63)] [24] (impl_Disk_total.ok a1) h40) orcN) ?_
        refine J_if2 67 (fun h41 => ?_) (fun h41 => ?_)
        · refine J_g 244 [] [(2, iv 8)] [] orcN ?_
          exact J_r1 rfl
        · refine J_g 62 [] [(2, iv 0)] [] orcN ?_
          exact J_r1 rfl
  · refine J_ite (fun h4 => ?_) (fun h4 => ?_)
    · refine J_g 24 [] [(1, pp 0), (6, bv true)] [(0, .box (Disk.enc false a1))] (orcC 2 (x_c0 [(.tmp 8), (.const (.int .i64 0)), (.const (.int .i64 20000))] [2, 2, 2] (impl_within.ok a1.Budget 0 20000) h3) (orcL 4 [(10, bv (!x2))] [] h4 orcN)) ?_
      exact J_qw (J_j (jv10 true)) rfl
    · refine J_bind (fun x5 h6 => ?_)
      refine J_ite (fun h7 => ?_) (fun h7 => ?_)
      · refine J_g 24 [] [(1, pp 0), (6, bv true)] [(0, .box (Disk.enc false a1))] (orcC 2 (x_c0 [(.tmp 8), (.const (.int .i64 0)), (.const (.int .i64 20000))] [2, 2, 2] (impl_within.ok a1.Budget 0 20000) h3) (orcL 4 [(10, bv (!x2))] [] h4 (orcH 7 4 11 false (x_c0 [(.tmp 13), (.const (.int .i64 0)), (.const (.int .i64 1000000000))] [2, 2, 2] (impl_within.ok a1.Writes 0 1000000000) h6) (orcL 10 [(16, bv (!x5))] [] h7 orcN)))) ?_
        exact J_qw (J_j (jv10 true)) rfl
      · refine J_bind (fun x8 h9 => ?_)
        refine J_g 24 [] [(1, pp 0), (6, bv (!x8))] [(0, .box (Disk.enc false a1))] (orcC 2 (x_c0 [(.tmp 8), (.const (.int .i64 0)), (.const (.int .i64 20000))] [2, 2, 2] (impl_within.ok a1.Budget 0 20000) h3) (orcL 4 [(10, bv (!x2))] [] h4 (orcH 7 4 11 false (x_c0 [(.tmp 13), (.const (.int .i64 0)), (.const (.int .i64 1000000000))] [2, 2, 2] (impl_within.ok a1.Writes 0 1000000000) h6) (orcL 10 [(16, bv (!x5))] [] h7 (orcH 13 10 17 false (x_c0 [(.tmp 19), (.const (.int .i64 (-1))), (.const (.int .i64 1000000000))] [2, 2, 2] (impl_within.ok a1.Stop (-1) 1000000000) h9) orcN))))) ?_
        exact J_qw (J_j (jv10 (!x8))) rfl

theorem bytealg_CompareString.ok (a1 a2 : ByteArray) : Ok Try.prog 135 [sv a1, sv a2] [] ((bytealg_CompareString a1 a2).map fun r => (iv r, [])) :=
  Ok_sc (vs := [.string a1, .string a2]) (fun w => Try.bytealg_CompareString a1 a2 w)

noncomputable def c130 : Code := (Try.f130.body).getD .skip

theorem strings_Compare.ok (a1 : ByteArray) (a2 : ByteArray) : Ok Try.prog 130 [sv a1, sv a2] [] ((strings_Compare a1 a2).map fun r => (iv r, [])) := by
  refine Ok_of3 c130 Try.f130 0 8 (fun q => ?_)
  unfold strings_Compare
  refine J_g 2 [] [(0, sv a1), (1, sv a2)] [] orcN ?_
  refine J_bind (fun x3 h4 => ?_)
  refine J_g 6 [] [(4, iv x3)] [] (orcC 2 (x_c0 [(.tmp 5), (.tmp 6)] [9, 9] (bytealg_CompareString.ok a1 a2) h4) orcN) ?_
  exact J_r1 rfl

noncomputable def c129 : Code := (Try.f129.body).getD .skip

theorem impl_Disk_place_1.ok (a1 : File) (a2 : ByteArray) : Ok Try.prog 129 [.ag (File.enc false a1), sv a2] [] ((impl_Disk_place_1 a1 a2).map fun r => (iv r, [])) := by
  refine Ok_of3 c129 Try.f129 0 9 (fun q => ?_)
  unfold impl_Disk_place_1
  refine J_g 2 [(0, 0)] [(1, sv a2), (2, pp 0)] [(0, .box (File.enc false a1))] orcN ?_
  refine J_bind (fun x3 h4 => ?_)
  refine J_g 6 [] [(4, iv x3)] [] (orcC 3 (x_c0 [(.tmp 6), (.tmp 7)] [9, 9] (strings_Compare.ok a1.Path a2) h4) orcN) ?_
  exact J_r1 rfl

noncomputable def c128 : Code := (Try.f128.body).getD .skip

theorem slices_BinarySearchFunc_LimplFile_impl_Disk_place_1_l1.ok (a1 : (List File)) (a2 : ByteArray) (q : Wd) (kn : Int → Option (D × List Ent)) (hk : ∀ v : Int, J (q.g Try.prog 128 0 49) c128 (atI c128 31) (St.mk' [(0, sl 2 (File.enc false) a1), (1, sv a2), (2, .fn 129 []), (8, iv (a1.length : Int)), (9, iv v)] []) (some v) kn) :
    ∀ s9 : (Int × Int), J (q.g Try.prog 128 0 49) c128 (atI c128 120) (St.mk' [(0, sl 2 (File.enc false) a1), (1, sv a2), (2, .fn 129 []), (8, iv (a1.length : Int)), (9, iv s9.1), (10, iv s9.2)] []) (slices_BinarySearchFunc_LimplFile_impl_Disk_place_1_l1 a1 a2 s9) kn := by
  refine J_lp (fun g ih s9 => ?_)
  unfold slices_BinarySearchFunc_LimplFile_impl_Disk_place_1_l1b
  refine J_g 480 [] [(0, sl 2 (File.enc false) a1), (1, sv a2), (2, .fn 129 []), (8, iv (a1.length : Int)), (9, iv s9.1), (10, iv s9.2), (17, bv (decide (s9.1 < s9.2)))] [] orcN ?_
  refine J_if2 17 (fun h10 => ?_) (fun h10 => ?_)
  · refine J_g 964 [] [(0, sl 2 (File.enc false) a1), (1, sv a2), (2, .fn 129 []), (8, iv (a1.length : Int)), (9, iv s9.1), (10, iv s9.2), (11, iv (w64 ((IntKind.u64.wrap (w64 (s9.1 + s9.2))).fdiv (2 ^ (min (1 : Int).toNat 64)))))] [] orcN ?_
    refine J_bind (fun x11 h12 => ?_)
    refine J_bind (fun x13 h14 => ?_)
    refine J_g 1930 [] [(0, sl 2 (File.enc false) a1), (1, sv a2), (2, .fn 129 []), (8, iv (a1.length : Int)), (9, iv s9.1), (10, iv s9.2), (11, iv (w64 ((IntKind.u64.wrap (w64 (s9.1 + s9.2))).fdiv (2 ^ (min (1 : Int).toNat 64))))), (31, bv (decide (x13 < 0)))] [] (orcC 3 (x_ix (kk := .i64) 22 70 2 (File.enc false) (.tmp 25) (.tmp 26) h12) (orcC 6 (x_c0v («as» := [.ag (File.enc false x11), sv a2]) (caps := []) 24 [(.tmp 28), (.tmp 29)] [70, 9] (impl_Disk_place_1.ok x11 a2) h14) orcN)) ?_
    refine J_if2 31 (fun h15 => ?_) (fun h15 => ?_)
    · refine J_g 3862 [] [(0, sl 2 (File.enc false) a1), (1, sv a2), (2, .fn 129 []), (8, iv (a1.length : Int)), (9, iv (w64 ((w64 ((IntKind.u64.wrap (w64 (s9.1 + s9.2))).fdiv (2 ^ (min (1 : Int).toNat 64)))) + 1))), (10, iv s9.2)] [] orcN ?_
      exact J_q (J_b (ih (w64 ((w64 ((IntKind.u64.wrap (w64 (s9.1 + s9.2))).fdiv (2 ^ (min (1 : Int).toNat 64)))) + 1), s9.2))) rfl
    · refine J_g 3863 [] [(0, sl 2 (File.enc false) a1), (1, sv a2), (2, .fn 129 []), (8, iv (a1.length : Int)), (9, iv s9.1), (10, iv (w64 ((IntKind.u64.wrap (w64 (s9.1 + s9.2))).fdiv (2 ^ (min (1 : Int).toNat 64)))))] [] orcN ?_
      exact J_q (J_b (ih (s9.1, w64 ((IntKind.u64.wrap (w64 (s9.1 + s9.2))).fdiv (2 ^ (min (1 : Int).toNat 64)))))) rfl
  · exact J_qw (hk s9.1) rfl

theorem slices_BinarySearchFunc_LimplFile_impl_Disk_place_1.ok (a1 : (List File)) (a2 : ByteArray) : Ok Try.prog 128 [sl 2 (File.enc false) a1, sv a2, .fn 129 []] [] ((slices_BinarySearchFunc_LimplFile_impl_Disk_place_1 a1 a2).map fun r => (.tu [iv r.1, bv r.2], [])) := by
  refine Ok_of3 c128 Try.f128 0 49 (fun q => ?_)
  unfold slices_BinarySearchFunc_LimplFile_impl_Disk_place_1
  refine J_g 2 [] [(0, sl 2 (File.enc false) a1), (1, sv a2), (2, .fn 129 [])] [] orcN ?_
  refine J_g 6 [] [(0, sl 2 (File.enc false) a1), (1, sv a2), (2, .fn 129 []), (8, iv (a1.length : Int))] [] orcN ?_
  refine J_g 14 [] [(0, sl 2 (File.enc false) a1), (1, sv a2), (2, .fn 129 []), (8, iv (a1.length : Int)), (9, iv 0), (10, iv (a1.length : Int))] [] orcN ?_
  refine J_lq (slices_BinarySearchFunc_LimplFile_impl_Disk_place_1_l1.ok a1 a2 q _ (fun v16 => J_j ?_) (0, (a1.length : Int)))
  refine J_ite (fun h17 => ?_) (fun h17 => ?_)
  · refine J_bind (fun x18 h19 => ?_)
    refine J_bind (fun x20 h21 => ?_)
    refine J_g 62 [] [(6, iv v16), (7, bv (x20 == 0))] [] (orcL 4 [(38, bv (decide (v16 < (a1.length : Int))))] [] h17 (orcH 8 4 39 true (x_ix (kk := .i64) 22 70 2 (File.enc false) (.tmp 41) (.tmp 42) h19) (orcH 11 4 39 true (x_c0v («as» := [.ag (File.enc false x18), sv a2]) (caps := []) 40 [(.tmp 44), (.tmp 45)] [70, 9] (impl_Disk_place_1.ok x18 a2) h21) orcN))) ?_
    exact J_rT rfl
  · refine J_g 62 [] [(6, iv v16), (7, bv false)] [] (orcL 4 [(38, bv (decide (v16 < (a1.length : Int))))] [] h17 orcN) ?_
    exact J_rT rfl

noncomputable def c112 : Code := (Try.f112.body).getD .skip

theorem impl_Disk_place.ok (a1 : Disk) (a2 : ByteArray) : Ok Try.prog 112 [.ag (Disk.enc false a1), sv a2] [] ((impl_Disk_place a1 a2).map fun r => (.tu [iv r.1, bv r.2], [])) := by
  refine Ok_of3 c112 Try.f112 0 12 (fun q => ?_)
  unfold impl_Disk_place
  refine J_g 2 [(0, 0)] [(1, sv a2), (2, pp 0)] [(0, .box (Disk.enc false a1))] orcN ?_
  refine J_bind (fun x3 h4 => ?_)
  refine J_g 6 [] [(4, iv x3.1), (5, bv x3.2)] [] (orcC 3 (x_c1 («as» := [sl 2 (File.enc false) a1.Files, sv a2, .fn 129 []]) [(.tmp 7), (.tmp 8), (.func 129)] [22, 9, 142] false [] [] (.cons (.same rfl) (.cons (.same rfl) (.cons (.fn (.nil)) (.nil)))) (slices_BinarySearchFunc_LimplFile_impl_Disk_place_1.ok a1.Files a2) h4 (.tu (.cons (.same rfl rfl) (.cons (.same rfl rfl) (.nil))))) orcN) ?_
  exact J_rT rfl

noncomputable def c82 : Code := (Try.f82.body).getD .skip

theorem impl_Disk_data.ok (a1 : Disk) (a2 : ByteArray) : Ok Try.prog 82 [.ag (Disk.enc false a1), sv a2] [] ((impl_Disk_data a1 a2).map fun r => (.tu [sl 1 eU8 r.1, bv r.2], [])) := by
  refine Ok_of3 c82 Try.f82 0 22 (fun q => ?_)
  unfold impl_Disk_data
  refine J_g 2 [(0, 0)] [(1, sv a2), (2, pp 0)] [(0, .box (Disk.enc false a1))] orcN ?_
  refine J_bind (fun x3 h4 => ?_)
  refine J_g 6 [] [(2, pp 0), (6, iv x3.1), (7, bv x3.2)] [(0, .box (Disk.enc false a1))] (orcC 2 (x_c0 [(.tmp 9), (.tmp 10)] [24, 9] (impl_Disk_place.ok a1 a2) h4) orcN) ?_
  refine J_g 28 [] [(2, pp 0), (6, iv x3.1), (15, bv (!x3.2))] [(0, .box (Disk.enc false a1))] orcN ?_
  refine J_if2 15 (fun h5 => ?_) (fun h5 => ?_)
  · refine J_g 116 [] [(4, nv), (5, bv false)] [] orcN ?_
    exact J_rm (ds := [nv, bv false]) (ds' := [sl 1 eU8 ([] : List Int), bv false]) (.cons (.cell (.nilsl false 1 (.nil))) (.cons (.cell (.keep rfl (.nil))) (.nil) (by decide)) (by decide)) rfl
  · refine J_bind (fun x6 h7 => ?_)
    refine J_g 30 [] [(4, sl 1 eU8 x6.Data), (5, bv true)] [] (orcC 3 (x_ix (kk := .i64) 22 70 2 (File.enc false) (.tmp 17) (.tmp 18) h7) orcN) ?_
    exact J_rT rfl

noncomputable def c83 : Code := (Try.f83.body).getD .skip

theorem slices_Clone_Lbyte.ok (a1 : (List Int)) : Ok Try.prog 83 [sl 1 eU8 a1] [] ((slices_Clone_Lbyte a1).map fun r => (so 1 eU8 r, [])) := by
  refine Ok_of3 c83 Try.f83 0 8 (fun q => ?_)
  unfold slices_Clone_Lbyte
  refine J_g 2 [] [(0, sl 1 eU8 a1)] [] orcN ?_
  refine J_g 12 [] [(0, sl 1 eU8 a1), (4, .nb a1.length)] [] (orcC 1 (x_nileq (xs := a1) 68 5 68 1 eU8 (.tmp 3)) orcN) ?_
  refine J_nb 4 rfl (fun h2 => ?_) ?_
  · obtain rfl : a1 = [] := List.eq_nil_of_length_eq_zero h2
    refine J_told (e' := some ([] : List Int)) (by kernel_rfl) ?_
    refine J_g 52 [] [(2, nv)] [] orcN ?_
    exact J_rm (ds := [nv]) (ds' := [so 1 eU8 ([] : List Int)]) (.cons (.cell (.nilsl true 1 (.nil))) (.nil) (by decide)) rfl
  · refine J_bind (fun x3 h4 => ?_)
    refine J_g 14 [] [(2, rr 1 x3)] [(1, rE 1 eU8 x3)] (orcC 0 (x_bp 68 5 1 0 eU8 ([] : List Int) [] [] []) (orcC 2 (x_aps 68 68 5 5 1 1 1 0 eU8 (.tmp 5) (.tmp 6) h4) orcN)) ?_
    exact J_rm (ds := [rr 1 x3]) (ds' := [so 1 eU8 x3]) (.cons (.cell (.move (.head _) (List.length_map _) (by decide) (.nil))) (.nil) (by decide)) rfl

noncomputable def c43 : Code := (Try.f43.body).getD .skip

theorem impl_ReadFile.ok (a1 : Disk) (a2 : ByteArray) : Ok Try.prog 43 [.ag (Disk.enc false a1), sv a2] [] ((impl_ReadFile a1 a2).map fun r => (.ag [iv r.Code, sv r.File.Path, so 1 eU8 r.File.Data], [])) := by
  refine Ok_of3 c43 Try.f43 0 37 (fun q => ?_)
  unfold impl_ReadFile
  refine J_g 2 [(0, 0), (1, 1)] [(1, sv a2), (2, pp 0), (4, pp 1)] [(0, .box (Disk.enc false a1)), (1, .box [iv 0, sv ByteArray.empty, nv])] orcN ?_
  refine J_bind (fun x3 h4 => ?_)
  refine J_g 6 [] [(1, sv a2), (2, pp 0), (4, pp 1), (5, iv x3)] [(0, .box (Disk.enc false a1)), (1, .box [iv 0, sv ByteArray.empty, nv])] (orcC 1 (x_c0 [(.tmp 8)] [24] (impl_DiskFault.ok a1) h4) orcN) ?_
  refine J_join (atI c43 29) (fun v6 : Bool => St.mk' [(1, sv a2), (2, pp 0), (4, pp 1), (5, iv x3), (15, bv v6)] [(0, .box (Disk.enc false a1)), (1, .box [iv 0, sv ByteArray.empty, nv])]) (fun v6 => ?_) (fun jv6 => ?_)
  · refine J_join (atI c43 15) (fun v8 : Int => St.mk' [(1, sv a2), (2, pp 0), (4, pp 1), (5, iv v8)] [(0, .box (Disk.enc false a1)), (1, .box [iv 0, sv ByteArray.empty, nv])]) (fun v8 => ?_) (fun jv8 => ?_)
    · refine J_bind (fun x9 h10 => ?_)
      refine J_g 30 [] [(1, sv a2), (4, pp 1), (5, iv v8), (6, sl 1 eU8 x9.1), (7, bv x9.2)] [(1, .box [iv 0, sv ByteArray.empty, nv])] (orcC 2 (x_c0 [(.tmp 17), (.tmp 18)] [24, 9] (impl_Disk_data.ok a1 a2) h10) orcN) ?_
      refine J_join (atI c43 125) (fun v12 : Bool => St.mk' [(1, sv a2), (4, pp 1), (5, iv v8), (6, sl 1 eU8 x9.1), (27, bv v12)] [(1, .box [iv 0, sv ByteArray.empty, nv])]) (fun v12 => ?_) (fun jv12 => ?_)
      · refine J_join (atI c43 63) (fun v14 : Int => St.mk' [(1, sv a2), (4, pp 1), (5, iv v14), (6, sl 1 eU8 x9.1)] [(1, .box [iv 0, sv ByteArray.empty, nv])]) (fun v14 => ?_) (fun jv14 => ?_)
        · refine J_g 252 [] [(1, sv a2), (4, pp 1), (5, iv v14), (6, sl 1 eU8 x9.1), (29, bv (v14 != 0))] [(1, .box [iv 0, sv ByteArray.empty, nv])] orcN ?_
          refine J_if2 29 (fun h15 => ?_) (fun h15 => ?_)
          · refine J_g 1012 [] [(4, pp 1)] [(1, .box [iv v14, sv ByteArray.empty, nv])] orcN ?_
            exact J_rm (ds := [.ag [iv v14, sv ByteArray.empty, nv]]) (ds' := [.ag [iv v14, sv ByteArray.empty, so 1 eU8 ([] : List Int)]]) (.cons (.ag (.keep rfl (.keep rfl (.nilsl true 1 (.nil))))) (.nil) (by decide)) rfl
          · refine J_bind (fun x16 h17 => ?_)
            refine J_g 254 [] [(4, pp 1)] [(1, .box [iv 0, sv a2, rr 2 x16]), (2, rE 1 eU8 x16)] (orcC 2 (x_c1 («as» := [sl 1 eU8 x9.1]) [(.tmp 33)] [68] false [] [] (.cons (.same rfl) (.nil)) (slices_Clone_Lbyte.ok x9.1) h17 (.own 2)) orcN) ?_
            exact J_rm (ds := [.ag [iv 0, sv a2, rr 2 x16]]) (ds' := [.ag [iv 0, sv a2, so 1 eU8 x16]]) (.cons (.ag (.keep rfl (.keep rfl (.move (.tail _ (.head _)) (List.length_map _) (by decide) (.nil))))) (.nil) (by decide)) rfl
        · refine J_if2 27 (fun h13 => ?_) (fun h13 => ?_)
          · refine J_g 250 [] [(1, sv a2), (4, pp 1), (5, iv 4), (6, sl 1 eU8 x9.1)] [(1, .box [iv 0, sv ByteArray.empty, nv])] orcN ?_
            exact J_qw (J_j (jv14 4)) rfl
          · exact J_qw (J_j (jv14 v8)) rfl
      · refine J_ite (fun h11 => ?_) (fun h11 => ?_)
        · refine J_g 124 [] [(1, sv a2), (4, pp 1), (5, iv v8), (6, sl 1 eU8 x9.1), (27, bv (!x9.2))] [(1, .box [iv 0, sv ByteArray.empty, nv])] (orcL 2 [(23, bv (v8 == 0))] [] h11 orcN) ?_
          exact J_qw (J_j (jv12 (!x9.2))) rfl
        · refine J_g 124 [] [(1, sv a2), (4, pp 1), (5, iv v8), (6, sl 1 eU8 x9.1), (27, bv false)] [(1, .box [iv 0, sv ByteArray.empty, nv])] (orcL 2 [(23, bv (v8 == 0))] [] h11 orcN) ?_
          exact J_qw (J_j (jv12 false)) rfl
    · refine J_if2 15 (fun h7 => ?_) (fun h7 => ?_)
      · refine J_g 58 [] [(1, sv a2), (2, pp 0), (4, pp 1), (5, iv 9)] [(0, .box (Disk.enc false a1)), (1, .box [iv 0, sv ByteArray.empty, nv])] orcN ?_
        exact J_qw (J_j (jv8 9)) rfl
      · exact J_qw (J_j (jv8 x3)) rfl
  · refine J_ite (fun h5 => ?_) (fun h5 => ?_)
    · refine J_g 28 [] [(1, sv a2), (2, pp 0), (4, pp 1), (5, iv x3), (15, bv a1.Down)] [(0, .box (Disk.enc false a1)), (1, .box [iv 0, sv ByteArray.empty, nv])] (orcL 2 [(11, bv (x3 == 0))] [] h5 orcN) ?_
      exact J_qw (J_j (jv6 a1.Down)) rfl
    · refine J_g 28 [] [(1, sv a2), (2, pp 0), (4, pp 1), (5, iv x3), (15, bv false)] [(0, .box (Disk.enc false a1)), (1, .box [iv 0, sv ByteArray.empty, nv])] (orcL 2 [(11, bv (x3 == 0))] [] h5 orcN) ?_
      exact J_qw (J_j (jv6 false)) rfl

noncomputable def c57 : Code := (Try.f57.body).getD .skip

theorem laws_eqByteS_l1.ok (a1 : (List Int)) (a2 : (List Int)) (q : Wd) (kn : Unit → Option (D × List Ent)) (hk : ∀ v : Unit, J (q.g Try.prog 57 0 26) c57 (atI c57 15) (St.mk' [] []) (some v) kn) :
    ∀ s10 : Int, J (q.g Try.prog 57 0 26) c57 (atI c57 116) (St.mk' [(0, sl 1 eU8 a1), (1, sl 1 eU8 a2), (5, iv s10)] []) (laws_eqByteS_l1 a1 a2 s10) (Fl.go (fun r : Bool => some (bv r, [])) kn) := by
  refine J_lp (fun g ih s10 => ?_)
  unfold laws_eqByteS_l1b
  refine J_g 464 [] [(0, sl 1 eU8 a1), (1, sl 1 eU8 a2), (5, iv s10), (14, bv (decide (s10 < (a1.length : Int))))] [] orcN ?_
  refine J_if2 14 (fun h11 => ?_) (fun h11 => ?_)
  · refine J_bind (fun x12 h13 => ?_)
    refine J_bind (fun x14 h15 => ?_)
    refine J_g 1864 [] [(0, sl 1 eU8 a1), (1, sl 1 eU8 a2), (5, iv s10), (25, bv (x12 != x14))] [] (orcC 2 (x_ix (kk := .i64) 68 5 1 eU8 (.tmp 17) (.tmp 18) h13) (orcC 6 (x_ix (kk := .i64) 68 5 1 eU8 (.tmp 21) (.tmp 22) h15) orcN)) ?_
    refine J_if2 25 (fun h16 => ?_) (fun h16 => ?_)
    · refine J_g 7460 [] [(4, bv false)] [] orcN ?_
      exact J_r1 rfl
    · refine J_g 467 [] [(0, sl 1 eU8 a1), (1, sl 1 eU8 a2), (5, iv (w64 (s10 + 1)))] [] orcN ?_
      exact J_q (J_b (ih (w64 (s10 + 1)))) rfl
  · exact J_qw (hk ()) rfl

theorem laws_eqByteS.ok (a1 : (List Int)) (a2 : (List Int)) : Ok Try.prog 57 [sl 1 eU8 a1, sl 1 eU8 a2] [] ((laws_eqByteS a1 a2).map fun r => (bv r, [])) := by
  refine Ok_of3 c57 Try.f57 0 26 (fun q => ?_)
  unfold laws_eqByteS
  refine J_g 2 [] [(0, sl 1 eU8 a1), (1, sl 1 eU8 a2)] [] orcN ?_
  refine J_g 12 [] [(0, sl 1 eU8 a1), (1, sl 1 eU8 a2), (10, bv ((a1.length : Int) != (a2.length : Int)))] [] orcN ?_
  refine J_if2 10 (fun h3 => ?_) (fun h3 => ?_)
  · refine J_g 52 [] [(4, bv false)] [] orcN ?_
    exact J_r1 rfl
  · refine J_g 28 [] [(0, sl 1 eU8 a1), (1, sl 1 eU8 a2), (5, iv 0)] [] orcN ?_
    refine J_lqF (K0 := (fun r : Bool => some (bv r, []))) (fun _ => rfl) (laws_eqByteS_l1.ok a1 a2 q _ (fun v17 => J_j ?_) 0)
    refine J_g 30 [] [(4, bv true)] [] orcN ?_
    exact J_r1 rfl

noncomputable def c84 : Code := (Try.f84.body).getD .skip

theorem laws_eqFile.ok (a1 : File) (a2 : File) : Ok Try.prog 84 [.ag (File.enc false a1), .ag (File.enc false a2)] [] ((laws_eqFile a1 a2).map fun r => (bv r, [])) := by
  refine Ok_of3 c84 Try.f84 0 16 (fun q => ?_)
  unfold laws_eqFile
  refine J_g 2 [(0, 0), (1, 1)] [(2, pp 0), (3, pp 1)] [(0, .box (File.enc false a1)), (1, .box (File.enc false a2))] orcN ?_
  refine J_g 12 [] [(2, pp 0), (3, pp 1), (9, bv (!(seq a1.Path a2.Path)))] [(0, .box (File.enc false a1)), (1, .box (File.enc false a2))] orcN ?_
  refine J_if2 9 (fun h3 => ?_) (fun h3 => ?_)
  · refine J_g 52 [] [(4, bv false)] [] orcN ?_
    exact J_r1 rfl
  · refine J_bind (fun x4 h5 => ?_)
    refine J_g 28 [] [(15, bv (!x4))] [] (orcC 4 (x_c0 [(.tmp 11), (.tmp 13)] [68, 68] (laws_eqByteS.ok a1.Data a2.Data) h5) orcN) ?_
    refine J_if2 15 (fun h6 => ?_) (fun h6 => ?_)
    · refine J_g 116 [] [(4, bv false)] [] orcN ?_
      exact J_r1 rfl
    · refine J_g 30 [] [(4, bv true)] [] orcN ?_
      exact J_r1 rfl

noncomputable def c44 : Code := (Try.f44.body).getD .skip

theorem laws_eqFileResult.ok (a1 : FileResult) (a2 : FileResult) : Ok Try.prog 44 [.ag (FileResult.enc false a1), .ag (FileResult.enc false a2)] [] ((laws_eqFileResult a1 a2).map fun r => (bv r, [])) := by
  refine Ok_of3 c44 Try.f44 0 16 (fun q => ?_)
  unfold laws_eqFileResult
  refine J_g 2 [(0, 0), (1, 1)] [(2, pp 0), (3, pp 1)] [(0, .box (FileResult.enc false a1)), (1, .box (FileResult.enc false a2))] orcN ?_
  refine J_g 12 [] [(2, pp 0), (3, pp 1), (9, bv (a1.Code != a2.Code))] [(0, .box (FileResult.enc false a1)), (1, .box (FileResult.enc false a2))] orcN ?_
  refine J_if2 9 (fun h3 => ?_) (fun h3 => ?_)
  · refine J_g 52 [] [(4, bv false)] [] orcN ?_
    exact J_r1 rfl
  · refine J_bind (fun x4 h5 => ?_)
    refine J_g 28 [] [(15, bv (!x4))] [] (orcC 4 (x_c0 [(.tmp 11), (.tmp 13)] [70, 70] (laws_eqFile.ok a1.File a2.File) h5) orcN) ?_
    refine J_if2 15 (fun h6 => ?_) (fun h6 => ?_)
    · refine J_g 116 [] [(4, bv false)] [] orcN ?_
      exact J_r1 rfl
    · refine J_g 30 [] [(4, bv true)] [] orcN ?_
      exact J_r1 rfl

noncomputable def c75 : Code := (Try.f75.body).getD .skip

theorem laws_eqFileS_l1.ok (a1 : (List File)) (a2 : (List File)) (q : Wd) (kn : Unit → Option (D × List Ent)) (hk : ∀ v : Unit, J (q.g Try.prog 75 0 27) c75 (atI c75 15) (St.mk' [] []) (some v) kn) :
    ∀ s12 : Int, J (q.g Try.prog 75 0 27) c75 (atI c75 116) (St.mk' [(0, sl 2 (File.enc false) a1), (1, sl 2 (File.enc false) a2), (5, iv s12)] []) (laws_eqFileS_l1 a1 a2 s12) (Fl.go (fun r : Bool => some (bv r, [])) kn) := by
  refine J_lp (fun g ih s12 => ?_)
  unfold laws_eqFileS_l1b
  refine J_g 464 [] [(0, sl 2 (File.enc false) a1), (1, sl 2 (File.enc false) a2), (5, iv s12), (14, bv (decide (s12 < (a1.length : Int))))] [] orcN ?_
  refine J_if2 14 (fun h13 => ?_) (fun h13 => ?_)
  · refine J_bind (fun x14 h15 => ?_)
    refine J_bind (fun x16 h17 => ?_)
    refine J_bind (fun x18 h19 => ?_)
    refine J_g 1864 [] [(0, sl 2 (File.enc false) a1), (1, sl 2 (File.enc false) a2), (5, iv s12), (26, bv (!x18))] [] (orcC 2 (x_ix (kk := .i64) 22 70 2 (File.enc false) (.tmp 17) (.tmp 18) h15) (orcC 6 (x_ix (kk := .i64) 22 70 2 (File.enc false) (.tmp 21) (.tmp 22) h17) (orcC 8 (x_c0 [(.tmp 20), (.tmp 24)] [70, 70] (laws_eqFile.ok x14 x16) h19) orcN))) ?_
    refine J_if2 26 (fun h20 => ?_) (fun h20 => ?_)
    · refine J_g 7460 [] [(4, bv false)] [] orcN ?_
      exact J_r1 rfl
    · refine J_g 467 [] [(0, sl 2 (File.enc false) a1), (1, sl 2 (File.enc false) a2), (5, iv (w64 (s12 + 1)))] [] orcN ?_
      exact J_q (J_b (ih (w64 (s12 + 1)))) rfl
  · exact J_qw (hk ()) rfl

theorem laws_eqFileS.ok (a1 : (List File)) (a2 : (List File)) : Ok Try.prog 75 [sl 2 (File.enc false) a1, sl 2 (File.enc false) a2] [] ((laws_eqFileS a1 a2).map fun r => (bv r, [])) := by
  refine Ok_of3 c75 Try.f75 0 27 (fun q => ?_)
  unfold laws_eqFileS
  refine J_g 2 [] [(0, sl 2 (File.enc false) a1), (1, sl 2 (File.enc false) a2)] [] orcN ?_
  refine J_g 12 [] [(0, sl 2 (File.enc false) a1), (1, sl 2 (File.enc false) a2), (10, bv ((a1.length : Int) != (a2.length : Int)))] [] orcN ?_
  refine J_if2 10 (fun h3 => ?_) (fun h3 => ?_)
  · refine J_g 52 [] [(4, bv false)] [] orcN ?_
    exact J_r1 rfl
  · refine J_g 28 [] [(0, sl 2 (File.enc false) a1), (1, sl 2 (File.enc false) a2), (5, iv 0)] [] orcN ?_
    refine J_lqF (K0 := (fun r : Bool => some (bv r, []))) (fun _ => rfl) (laws_eqFileS_l1.ok a1 a2 q _ (fun v21 => J_j ?_) 0)
    refine J_g 30 [] [(4, bv true)] [] orcN ?_
    exact J_r1 rfl

noncomputable def c34 : Code := (Try.f34.body).getD .skip

theorem laws_eqDisk.ok (a1 : Disk) (a2 : Disk) : Ok Try.prog 34 [.ag (Disk.enc false a1), .ag (Disk.enc false a2)] [] ((laws_eqDisk a1 a2).map fun r => (bv r, [])) := by
  refine Ok_of3 c34 Try.f34 0 31 (fun q => ?_)
  unfold laws_eqDisk
  refine J_g 2 [(0, 0), (1, 1)] [(2, pp 0), (3, pp 1)] [(0, .box (Disk.enc false a1)), (1, .box (Disk.enc false a2))] orcN ?_
  refine J_bind (fun x3 h4 => ?_)
  refine J_g 12 [] [(2, pp 0), (3, pp 1), (10, bv (!x3))] [(0, .box (Disk.enc false a1)), (1, .box (Disk.enc false a2))] (orcC 4 (x_c0 [(.tmp 6), (.tmp 8)] [22, 22] (laws_eqFileS.ok a1.Files a2.Files) h4) orcN) ?_
  refine J_if2 10 (fun h5 => ?_) (fun h5 => ?_)
  · refine J_g 52 [] [(4, bv false)] [] orcN ?_
    exact J_r1 rfl
  · refine J_g 28 [] [(2, pp 0), (3, pp 1), (15, bv (a1.Budget != a2.Budget))] [(0, .box (Disk.enc false a1)), (1, .box (Disk.enc false a2))] orcN ?_
    refine J_if2 15 (fun h6 => ?_) (fun h6 => ?_)
    · refine J_g 116 [] [(4, bv false)] [] orcN ?_
      exact J_r1 rfl
    · refine J_g 60 [] [(2, pp 0), (3, pp 1), (20, bv (a1.Writes != a2.Writes))] [(0, .box (Disk.enc false a1)), (1, .box (Disk.enc false a2))] orcN ?_
      refine J_if2 20 (fun h7 => ?_) (fun h7 => ?_)
      · refine J_g 244 [] [(4, bv false)] [] orcN ?_
        exact J_r1 rfl
      · refine J_g 124 [] [(2, pp 0), (3, pp 1), (25, bv (a1.Stop != a2.Stop))] [(0, .box (Disk.enc false a1)), (1, .box (Disk.enc false a2))] orcN ?_
        refine J_if2 25 (fun h8 => ?_) (fun h8 => ?_)
        · refine J_g 500 [] [(4, bv false)] [] orcN ?_
          exact J_r1 rfl
        · refine J_g 252 [] [(30, bv (!(a1.Down == a2.Down)))] [] orcN ?_
          refine J_if2 30 (fun h9 => ?_) (fun h9 => ?_)
          · refine J_g 1012 [] [(4, bv false)] [] orcN ?_
            exact J_r1 rfl
          · refine J_g 254 [] [(4, bv true)] [] orcN ?_
            exact J_r1 rfl

noncomputable def c64 : Code := (Try.f64.body).getD .skip

theorem laws_markText_l1.ok  (q : Wd) (kn : ByteArray → Option (D × List Ent)) (hk : ∀ v : ByteArray, J (q.g Try.prog 64 0 20) c64 (atI c64 31) (St.mk' [(3, sv v)] []) (some v) kn) :
    ∀ s6 : (Int × ByteArray), J (q.g Try.prog 64 0 20) c64 (atI c64 120) (St.mk' [(0, iv s6.1), (3, sv s6.2)] []) (laws_markText_l1 s6) kn := by
  refine J_lp (fun g ih s6 => ?_)
  unfold laws_markText_l1b
  refine J_g 480 [] [(0, iv s6.1), (3, sv s6.2), (7, bv (decide (s6.1 > 0)))] [] orcN ?_
  refine J_if2 7 (fun h7 => ?_) (fun h7 => ?_)
  · refine J_bind (fun x8 h9 => ?_)
    refine J_g 964 [] [(0, iv s6.1), (3, sv x8)] [] (orcC 4 (x_bp 68 5 1 0 eU8 [IntKind.u8.wrap (w64 (48 + (s6.1.tmod 10)))] [0] [(.tmp 11)] [uv (IntKind.u8.wrap (w64 (48 + (s6.1.tmod 10))))]) (orcC 5 (x_b2sr (xs := [IntKind.u8.wrap (w64 (48 + (s6.1.tmod 10)))]) 68 9 5 0 (.tmp 12)) (orcC 7 (x_cat 9 9 (.tmp 13) (.tmp 14) h9) orcN))) ?_
    refine J_g 965 [] [(0, iv (w64 (s6.1.tdiv 10))), (3, sv x8)] [] orcN ?_
    exact J_q (J_b (ih (w64 (s6.1.tdiv 10), x8))) rfl
  · exact J_qw (hk s6.2) rfl

theorem laws_markText.ok (a1 : Int) : Ok Try.prog 64 [iv a1] [] ((laws_markText a1).map fun r => (sv r, [])) := by
  refine Ok_of3 c64 Try.f64 0 20 (fun q => ?_)
  unfold laws_markText
  refine J_g 2 [] [(0, iv a1)] [] orcN ?_
  refine J_g 12 [] [(0, iv a1), (5, bv (decide (a1 ≤ 0)))] [] orcN ?_
  refine J_if2 5 (fun h2 => ?_) (fun h2 => ?_)
  · refine J_g 52 [] [(2, sv (bs [109, 48]))] [] orcN ?_
    exact J_r1 rfl
  · refine J_g 14 [] [(0, iv a1), (3, sv (bs []))] [] orcN ?_
    refine J_lq (laws_markText_l1.ok q _ (fun v10 => J_j ?_) (a1, bs []))
    refine J_bind (fun x11 h12 => ?_)
    refine J_g 62 [] [(2, sv x11)] [] (orcC 1 (x_cat 9 9 (.const (.string (bs [109]))) (.tmp 18) h12) orcN) ?_
    exact J_r1 rfl

noncomputable def c58 : Code := (Try.f58.body).getD .skip

theorem laws_markByteSr_l1.ok  (q : Wd) (kn : ((List Int) × Int) → Option (D × List Ent)) (hk : ∀ v : ((List Int) × Int), J (q.g Try.prog 58 1 20) c58 (atI c58 7) (St.mk' [(1, iv v.2)] [(0, rE 1 eU8 v.1)]) (some v) kn) :
    ∀ s6 : ((List Int) × Int × Int), J (q.g Try.prog 58 1 20) c58 (atI c58 52) (St.mk' [(0, rr 0 s6.1), (1, iv s6.2.1), (5, iv s6.2.2)] [(0, rE 1 eU8 s6.1)]) (laws_markByteSr_l1 s6) kn := by
  refine J_lp (fun g ih s6 => ?_)
  unfold laws_markByteSr_l1b
  refine J_g 208 [] [(0, rr 0 s6.1), (1, iv s6.2.1), (5, iv s6.2.2), (9, bv (decide (s6.2.2 < (s6.1.length : Int))))] [(0, rE 1 eU8 s6.1)] orcN ?_
  refine J_if2 9 (fun h7 => ?_) (fun h7 => ?_)
  · refine J_bind (fun x8 h9 => ?_)
    refine J_g 840 [] [(0, rr 0 s6.1), (1, iv s6.2.1), (5, iv s6.2.2)] [(0, rE 1 eU8 (s6.1.set s6.2.2.toNat (IntKind.u8.wrap (s6.2.1))))] (orcC 4 (x_ixr (kk := .i64) 68 5 1 0 eU8 (.tmp 12) (.tmp 13) h9) (orcD 5 (x_st (b := IntKind.u8.wrap (s6.2.1)) 5 1 0 0 eU8 (uv (IntKind.u8.wrap (s6.2.1))) (.tmp 16) (.tmp 15) h9 rfl) orcN)) ?_
    refine J_st (σ' := St.mk' [(0, rr 0 (s6.1.set s6.2.2.toNat (IntKind.u8.wrap (s6.2.1)))), (1, iv s6.2.1), (5, iv s6.2.2)] [(0, rE 1 eU8 (s6.1.set s6.2.2.toNat (IntKind.u8.wrap (s6.2.1))))]) (by simp only [rr, List.length_set]) ?_
    refine J_g 841 [] [(0, rr 0 (s6.1.set s6.2.2.toNat (IntKind.u8.wrap (s6.2.1)))), (1, iv (w64 (s6.2.1 + 1))), (5, iv s6.2.2)] [(0, rE 1 eU8 (s6.1.set s6.2.2.toNat (IntKind.u8.wrap (s6.2.1))))] orcN ?_
    refine J_g 211 [] [(0, rr 0 (s6.1.set s6.2.2.toNat (IntKind.u8.wrap (s6.2.1)))), (1, iv (w64 (s6.2.1 + 1))), (5, iv (w64 (s6.2.2 + 1)))] [(0, rE 1 eU8 (s6.1.set s6.2.2.toNat (IntKind.u8.wrap (s6.2.1))))] orcN ?_
    exact J_q (J_b (ih (s6.1.set s6.2.2.toNat (IntKind.u8.wrap (s6.2.1)), w64 (s6.2.1 + 1), w64 (s6.2.2 + 1)))) rfl
  · exact J_qw (hk (s6.1, s6.2.1)) rfl

theorem laws_markByteSr.ok (a1 : (List Int)) (a2 : Int) : Ok Try.prog 58 [rr 0 a1, iv a2] [rE 1 eU8 a1] ((laws_markByteSr a1 a2).map fun r => (iv r.1, [rE 1 eU8 r.2])) := by
  refine Ok_of3 c58 Try.f58 1 20 (fun q => ?_)
  unfold laws_markByteSr
  refine J_g 2 [] [(0, rr 0 a1), (1, iv a2)] [(0, rE 1 eU8 a1)] orcN ?_
  refine J_g 12 [] [(0, rr 0 a1), (1, iv a2), (5, iv 0)] [(0, rE 1 eU8 a1)] orcN ?_
  refine J_lq (laws_markByteSr_l1.ok q _ (fun v10 => J_j ?_) (a1, a2, 0))
  refine J_g 14 [] [(4, iv v10.2)] [(0, rE 1 eU8 v10.1)] orcN ?_
  exact J_r1 rfl

noncomputable def c76 : Code := (Try.f76.body).getD .skip

theorem laws_markFileSr_l1.ok  (q : Wd) (kn : ((List File) × Int) → Option (D × List Ent)) (hk : ∀ v : ((List File) × Int), J (q.g Try.prog 76 1 28) c76 (atI c76 7) (St.mk' [(1, iv v.2)] [(0, rE 2 (File.enc true) v.1)]) (some v) kn) :
    ∀ s14 : ((List File) × Int × Int), J (q.g Try.prog 76 1 28) c76 (atI c76 52) (St.mk' [(0, rr 0 s14.1), (1, iv s14.2.1), (5, iv s14.2.2)] [(0, rE 2 (File.enc true) s14.1)]) (laws_markFileSr_l1 s14) kn := by
  refine J_lp (fun g ih s14 => ?_)
  unfold laws_markFileSr_l1b
  refine J_g 208 [] [(0, rr 0 s14.1), (1, iv s14.2.1), (5, iv s14.2.2), (9, bv (decide (s14.2.2 < (s14.1.length : Int))))] [(0, rE 2 (File.enc true) s14.1)] orcN ?_
  refine J_if2 9 (fun h15 => ?_) (fun h15 => ?_)
  · refine J_bind (fun x16 h17 => ?_)
    refine J_bind (fun x18 h19 => ?_)
    refine J_g 840 [] [(0, rr 0 s14.1), (1, iv s14.2.1), (5, iv s14.2.2)] [(0, rE 2 (File.enc true) (s14.1.set s14.2.2.toNat ({ Path := x16, Data := x18.Data } : File)))] (orcC 3 (x_c0 [(.tmp 14)] [3] (laws_markText.ok s14.2.1) h17) (orcC 4 (x_ixr (kk := .i64) 22 70 2 0 (File.enc true) (.tmp 12) (.tmp 13) h19) (orcD 6 (x_st (b := ({ Path := x16, Data := x18.Data } : File)) 9 2 0 0 (File.enc true) (sv x16) (.tmp 17) (.tmp 15) h19 rfl) orcN))) ?_
    refine J_st (σ' := St.mk' [(0, rr 0 (s14.1.set s14.2.2.toNat ({ Path := x16, Data := x18.Data } : File))), (1, iv s14.2.1), (5, iv s14.2.2)] [(0, rE 2 (File.enc true) (s14.1.set s14.2.2.toNat ({ Path := x16, Data := x18.Data } : File)))]) (by simp only [rr, List.length_set]) ?_
    refine J_g 1682 [] [(0, rr 0 (s14.1.set s14.2.2.toNat ({ Path := x16, Data := x18.Data } : File))), (1, iv (w64 (s14.2.1 + 1))), (5, iv s14.2.2)] [(0, rE 2 (File.enc true) (s14.1.set s14.2.2.toNat ({ Path := x16, Data := x18.Data } : File)))] orcN ?_
    refine J_bind (fun x20 h21 => ?_)
    refine J_lendT (ix := s14.2.2) (enc := (File.enc true)) 0 1 1 h21 rfl rfl (by kernel_rfl) ?_
    refine J_wk [(0, rr 0 (s14.1.set s14.2.2.toNat ({ Path := x16, Data := x18.Data } : File))), (1, iv (w64 (s14.2.1 + 1))), (5, iv s14.2.2)] [(0, .lent 2 ((s14.1.set s14.2.2.toNat ({ Path := x16, Data := x18.Data } : File)).map (File.enc true)) s14.2.2.toNat 1 1 x20.Data.length), (1, rE 1 eU8 x20.Data)] (by kernel_rfl) ?_
    refine J_bind (fun x22 h23 => ?_)
    refine J_g 1683 [] [(0, rr 0 (s14.1.set s14.2.2.toNat ({ Path := x16, Data := x18.Data } : File))), (1, iv x22.1), (5, iv s14.2.2)] [(0, .lent 2 ((s14.1.set s14.2.2.toNat ({ Path := x16, Data := x18.Data } : File)).map (File.enc true)) s14.2.2.toNat 1 1 x20.Data.length), (1, rE 1 eU8 x22.2)] (orcC 2 (x_ixl (kk := .i64) 22 70 2 0 (File.enc true) (.tmp 20) (.tmp 21) s14.2.2.toNat 1 1 x20.Data.length h21) (orcC 4 (x_ldl 68 0 (.tmp 23) 2 (File.enc true) (s14.1.set s14.2.2.toNat ({ Path := x16, Data := x18.Data } : File)) s14.2.2.toNat 1 1 x20.Data.length) (orcC 6 (x_c1 («as» := [rr 1 x20.Data, iv (w64 (s14.2.1 + 1))]) [(.tmp 24), (.tmp 25)] [68, 3] false [(1, rE 1 eU8 x20.Data)] [1] (.cons (.rf rfl) (.cons (.same rfl) (.nil))) (laws_markByteSr.ok x20.Data (w64 (s14.2.1 + 1))) h23 (.same rfl rfl)) orcN))) ?_
    refine J_bind (fun u24 h25 => ?_)
    refine J_backT (ix := s14.2.2) (enc := (File.enc true)) (b := ({ Path := x20.Path, Data := x22.2 } : File)) 0 1 1 h21 rfl rfl rfl rfl (same_len h25) (Nat.le_of_ble_eq_true rfl) ((List.length_map _).trans (same_len h25)) ?_
    refine J_wk [(0, rr 0 (s14.1.set s14.2.2.toNat ({ Path := x16, Data := x18.Data } : File))), (1, iv x22.1), (5, iv s14.2.2)] [(0, rE 2 (File.enc true) ((s14.1.set s14.2.2.toNat ({ Path := x16, Data := x18.Data } : File)).set s14.2.2.toNat ({ Path := x20.Path, Data := x22.2 } : File)))] (by kernel_rfl) ?_
    refine J_st (σ' := St.mk' [(0, rr 0 ((s14.1.set s14.2.2.toNat ({ Path := x16, Data := x18.Data } : File)).set s14.2.2.toNat ({ Path := x20.Path, Data := x22.2 } : File))), (1, iv x22.1), (5, iv s14.2.2)] [(0, rE 2 (File.enc true) ((s14.1.set s14.2.2.toNat ({ Path := x16, Data := x18.Data } : File)).set s14.2.2.toNat ({ Path := x20.Path, Data := x22.2 } : File)))]) (by simp only [rr, List.length_set]) ?_
    refine J_g 211 [] [(0, rr 0 ((s14.1.set s14.2.2.toNat ({ Path := x16, Data := x18.Data } : File)).set s14.2.2.toNat ({ Path := x20.Path, Data := x22.2 } : File))), (1, iv x22.1), (5, iv (w64 (s14.2.2 + 1)))] [(0, rE 2 (File.enc true) ((s14.1.set s14.2.2.toNat ({ Path := x16, Data := x18.Data } : File)).set s14.2.2.toNat ({ Path := x20.Path, Data := x22.2 } : File)))] orcN ?_
    exact J_q (J_b (ih ((s14.1.set s14.2.2.toNat ({ Path := x16, Data := x18.Data } : File)).set s14.2.2.toNat ({ Path := x20.Path, Data := x22.2 } : File), x22.1, w64 (s14.2.2 + 1)))) rfl
  · exact J_qw (hk (s14.1, s14.2.1)) rfl

theorem laws_markFileSr.ok (a1 : (List File)) (a2 : Int) : Ok Try.prog 76 [rr 0 a1, iv a2] [rE 2 (File.enc true) a1] ((laws_markFileSr a1 a2).map fun r => (iv r.1, [rE 2 (File.enc true) r.2])) := by
  refine Ok_of3 c76 Try.f76 1 28 (fun q => ?_)
  unfold laws_markFileSr
  refine J_g 2 [] [(0, rr 0 a1), (1, iv a2)] [(0, rE 2 (File.enc true) a1)] orcN ?_
  refine J_g 12 [] [(0, rr 0 a1), (1, iv a2), (5, iv 0)] [(0, rE 2 (File.enc true) a1)] orcN ?_
  refine J_lq (laws_markFileSr_l1.ok q _ (fun v26 => J_j ?_) (a1, a2, 0))
  refine J_g 14 [] [(4, iv v26.2)] [(0, rE 2 (File.enc true) v26.1)] orcN ?_
  exact J_r1 rfl

noncomputable def c35 : Code := (Try.f35.body).getD .skip

theorem laws_markDiskg.ok (a1 : Disk) (a2 : Int) : Ok Try.prog 35 [.ag [rr 0 a1.Files, iv a1.Budget, iv a1.Writes, iv a1.Stop, bv a1.Down], iv a2] [rE 2 (File.enc true) a1.Files] ((laws_markDiskg a1 a2).map fun r => (iv r.1, [rE 2 (File.enc true) r.2])) := by
  refine Ok_of3 c35 Try.f35 1 10 (fun q => ?_)
  unfold laws_markDiskg
  refine J_g 2 [(0, 1)] [(1, iv a2), (2, pp 1)] [(0, rE 2 (File.enc true) a1.Files), (1, .box [rr 0 a1.Files, iv a1.Budget, iv a1.Writes, iv a1.Stop, bv a1.Down])] orcN ?_
  refine J_bind (fun x3 h4 => ?_)
  refine J_g 6 [] [(1, iv x3.1)] [(0, rE 2 (File.enc true) x3.2)] (orcC 3 (x_c1 («as» := [rr 0 a1.Files, iv a2]) [(.tmp 6), (.tmp 7)] [22, 3] false [(0, rE 2 (File.enc true) a1.Files)] [0] (.cons (.rf rfl) (.cons (.same rfl) (.nil))) (laws_markFileSr.ok a1.Files a2) h4 (.same rfl rfl)) orcN) ?_
  refine J_bind (fun u5 h6 => ?_)
  refine J_g 14 [] [(4, iv x3.1)] [(0, rE 2 (File.enc true) x3.2)] orcN ?_
  exact J_r1 rfl

noncomputable def c85 : Code := (Try.f85.body).getD .skip

theorem laws_markFileg.ok (a1 : File) (a2 : Int) : Ok Try.prog 85 [.ag [sv a1.Path, rr 0 a1.Data], iv a2] [rE 1 eU8 a1.Data] ((laws_markFileg a1 a2).map fun r => (iv r.1, [rE 1 eU8 r.2])) := by
  refine Ok_of3 c85 Try.f85 1 10 (fun q => ?_)
  unfold laws_markFileg
  refine J_g 2 [(0, 1)] [(1, iv a2), (2, pp 1)] [(0, rE 1 eU8 a1.Data), (1, .box [sv a1.Path, rr 0 a1.Data])] orcN ?_
  refine J_bind (fun x3 h4 => ?_)
  refine J_g 6 [] [(1, iv x3.1)] [(0, rE 1 eU8 x3.2)] (orcC 3 (x_c1 («as» := [rr 0 a1.Data, iv a2]) [(.tmp 6), (.tmp 7)] [68, 3] false [(0, rE 1 eU8 a1.Data)] [0] (.cons (.rf rfl) (.cons (.same rfl) (.nil))) (laws_markByteSr.ok a1.Data a2) h4 (.same rfl rfl)) orcN) ?_
  refine J_bind (fun u5 h6 => ?_)
  refine J_g 14 [] [(4, iv x3.1)] [(0, rE 1 eU8 x3.2)] orcN ?_
  exact J_r1 rfl

noncomputable def c45 : Code := (Try.f45.body).getD .skip

theorem laws_markFileResultg.ok (a1 : FileResult) (a2 : Int) : Ok Try.prog 45 [.ag [iv a1.Code, sv a1.File.Path, rr 0 a1.File.Data], iv a2] [rE 1 eU8 a1.File.Data] ((laws_markFileResultg a1 a2).map fun r => (iv r.1, [rE 1 eU8 r.2])) := by
  refine Ok_of3 c45 Try.f45 1 10 (fun q => ?_)
  unfold laws_markFileResultg
  refine J_g 2 [(0, 1)] [(1, iv a2), (2, pp 1)] [(0, rE 1 eU8 a1.File.Data), (1, .box [iv a1.Code, sv a1.File.Path, rr 0 a1.File.Data])] orcN ?_
  refine J_bind (fun x3 h4 => ?_)
  refine J_g 6 [] [(1, iv x3.1)] [(0, rE 1 eU8 x3.2)] (orcC 3 (x_c1 («as» := [.ag [sv a1.File.Path, rr 0 a1.File.Data], iv a2]) [(.tmp 6), (.tmp 7)] [70, 3] false [(0, rE 1 eU8 a1.File.Data)] [0] (.cons (.ag (.cons (.same rfl) (.cons (.rf rfl) (.nil)))) (.cons (.same rfl) (.nil))) (laws_markFileg.ok a1.File a2) h4 (.same rfl rfl)) orcN) ?_
  refine J_bind (fun u5 h6 => ?_)
  refine J_g 14 [] [(4, iv x3.1)] [(0, rE 1 eU8 x3.2)] orcN ?_
  exact J_r1 rfl

noncomputable def c113 : Code := (Try.f113.body).getD .skip

theorem laws_heldByteS_l1.ok (a1 : (List Int)) (q : Wd) (kn : Int → Option (D × List Ent)) (hk : ∀ v : Int, J (q.g Try.prog 113 0 22) c113 (atI c113 7) (St.mk' [(1, iv v)] []) (some v) kn) :
    ∀ s7 : (Int × Int), J (q.g Try.prog 113 0 22) c113 (atI c113 52) (St.mk' [(0, sl 1 eU8 a1), (1, iv s7.1), (5, iv s7.2)] []) (laws_heldByteS_l1 a1 s7) (Fl.go (fun r : Int => some (iv r, [])) kn) := by
  refine J_lp (fun g ih s7 => ?_)
  unfold laws_heldByteS_l1b
  refine J_g 208 [] [(0, sl 1 eU8 a1), (1, iv s7.1), (5, iv s7.2), (9, bv (decide (s7.2 < (a1.length : Int))))] [] orcN ?_
  refine J_if2 9 (fun h8 => ?_) (fun h8 => ?_)
  · refine J_bind (fun x9 h10 => ?_)
    refine J_g 1680 [] [(0, sl 1 eU8 a1), (1, iv s7.1), (5, iv s7.2), (18, bv (x9 != (IntKind.u8.wrap (s7.1))))] [] (orcC 2 (x_ix (kk := .i64) 68 5 1 eU8 (.tmp 12) (.tmp 13) h10) orcN) ?_
    refine J_if2 18 (fun h11 => ?_) (fun h11 => ?_)
    · refine J_g 6724 [] [(4, iv (-1))] [] orcN ?_
      exact J_r1 rfl
    · refine J_g 841 [] [(0, sl 1 eU8 a1), (1, iv (w64 (s7.1 + 1))), (5, iv s7.2)] [] orcN ?_
      refine J_g 211 [] [(0, sl 1 eU8 a1), (1, iv (w64 (s7.1 + 1))), (5, iv (w64 (s7.2 + 1)))] [] orcN ?_
      exact J_q (J_b (ih (w64 (s7.1 + 1), w64 (s7.2 + 1)))) rfl
  · exact J_qw (hk s7.1) rfl

theorem laws_heldByteS.ok (a1 : (List Int)) (a2 : Int) : Ok Try.prog 113 [sl 1 eU8 a1, iv a2] [] ((laws_heldByteS a1 a2).map fun r => (iv r, [])) := by
  refine Ok_of3 c113 Try.f113 0 22 (fun q => ?_)
  unfold laws_heldByteS
  refine J_g 2 [] [(0, sl 1 eU8 a1), (1, iv a2)] [] orcN ?_
  refine J_g 12 [] [(0, sl 1 eU8 a1), (1, iv a2), (5, iv 0)] [] orcN ?_
  refine J_lqF (K0 := (fun r : Int => some (iv r, []))) (fun _ => rfl) (laws_heldByteS_l1.ok a1 q _ (fun v12 => J_j ?_) (a2, 0))
  refine J_g 14 [] [(4, iv v12)] [] orcN ?_
  exact J_r1 rfl

noncomputable def c86 : Code := (Try.f86.body).getD .skip

theorem laws_heldFile.ok (a1 : File) (a2 : Int) : Ok Try.prog 86 [.ag (File.enc false a1), iv a2] [] ((laws_heldFile a1 a2).map fun r => (iv r, [])) := by
  refine Ok_of3 c86 Try.f86 0 12 (fun q => ?_)
  unfold laws_heldFile
  refine J_g 2 [(0, 0)] [(1, iv a2), (2, pp 0)] [(0, .box (File.enc false a1))] orcN ?_
  refine J_bind (fun x3 h4 => ?_)
  refine J_g 6 [] [(1, iv x3)] [] (orcC 3 (x_c0 [(.tmp 6), (.tmp 7)] [68, 3] (laws_heldByteS.ok a1.Data a2) h4) orcN) ?_
  refine J_g 28 [] [(1, iv x3), (10, bv (decide (x3 < 0)))] [] orcN ?_
  refine J_if2 10 (fun h5 => ?_) (fun h5 => ?_)
  · refine J_g 116 [] [(4, iv (-1))] [] orcN ?_
    exact J_r1 rfl
  · refine J_g 30 [] [(4, iv x3)] [] orcN ?_
    exact J_r1 rfl

noncomputable def c46 : Code := (Try.f46.body).getD .skip

theorem laws_heldFileResult.ok (a1 : FileResult) (a2 : Int) : Ok Try.prog 46 [.ag (FileResult.enc false a1), iv a2] [] ((laws_heldFileResult a1 a2).map fun r => (iv r, [])) := by
  refine Ok_of3 c46 Try.f46 0 12 (fun q => ?_)
  unfold laws_heldFileResult
  refine J_g 2 [(0, 0)] [(1, iv a2), (2, pp 0)] [(0, .box (FileResult.enc false a1))] orcN ?_
  refine J_bind (fun x3 h4 => ?_)
  refine J_g 6 [] [(1, iv x3)] [] (orcC 3 (x_c0 [(.tmp 6), (.tmp 7)] [70, 3] (laws_heldFile.ok a1.File a2) h4) orcN) ?_
  refine J_g 28 [] [(1, iv x3), (10, bv (decide (x3 < 0)))] [] orcN ?_
  refine J_if2 10 (fun h5 => ?_) (fun h5 => ?_)
  · refine J_g 116 [] [(4, iv (-1))] [] orcN ?_
    exact J_r1 rfl
  · refine J_g 30 [] [(4, iv x3)] [] orcN ?_
    exact J_r1 rfl

noncomputable def c9 : Code := (Try.f9.body).getD .skip

theorem laws_FnExactReadFile.ok (a1 : Disk) (a2 : ByteArray) : Ok Try.prog 9 [.ag (Disk.enc false a1), sv a2] [] ((laws_FnExactReadFile a1 a2).map fun r => (bv r, [])) := by
  refine Ok_of3 c9 Try.f9 0 77 (fun q => ?_)
  unfold laws_FnExactReadFile
  refine J_g 2 [(0, 0)] [(1, sv a2), (2, pp 0)] [(0, .box (Disk.enc false a1))] orcN ?_
  refine J_g 12 [] [(1, sv a2), (2, pp 0), (15, bv (decide ((a2.size : Int) > 1048576)))] [(0, .box (Disk.enc false a1))] orcN ?_
  refine J_if2 15 (fun h3 => ?_) (fun h3 => ?_)
  · refine J_g 52 [] [(4, bv true)] [] orcN ?_
    exact J_r1 rfl
  · refine J_g 14 [] [(1, sv a2), (2, pp 0), (5, iv 1048576)] [(0, .box (Disk.enc false a1))] orcN ?_
    refine J_bind (fun x4 h5 => ?_)
    refine J_g 30 [] [(1, sv a2), (2, pp 0), (5, iv x4)] [(0, .box (Disk.enc false a1))] (orcC 2 (x_c0 [(.tmp 16), (.tmp 17)] [52, 3] (laws_szDisk.ok a1 1048576) h5) orcN) ?_
    refine J_g 124 [] [(1, sv a2), (2, pp 0), (20, bv (decide (x4 < 0)))] [(0, .box (Disk.enc false a1))] orcN ?_
    refine J_if2 20 (fun h6 => ?_) (fun h6 => ?_)
    · refine J_g 500 [] [(4, bv true)] [] orcN ?_
      exact J_r1 rfl
    · refine J_bind (fun x7 h8 => ?_)
      refine J_bind (fun x9 h10 => ?_)
      refine J_g 126 [(4, 3)] [(1, sv a2), (2, pp 0), (6, pp 3)] [(0, .box (Disk.enc false a1)), (2, rE 1 eU8 x9.File.Data), (3, .box [iv x9.Code, sv x9.File.Path, rr 2 x9.File.Data])] (orcC 1 (x_c1 («as» := [.ag (Disk.enc false a1)]) [(.tmp 21)] [52] false [] [] (.cons (.same rfl) (.nil)) (laws_toDisk.ok a1) h8 (.ag (.cons (.own 1) (.cons (.same rfl rfl) (.cons (.same rfl rfl) (.cons (.same rfl rfl) (.cons (.same rfl rfl) (.nil)))))))) (orcC 3 (x_c1 («as» := [.ag [rr 1 x7.Files, iv x7.Budget, iv x7.Writes, iv x7.Stop, bv x7.Down], sv a2]) [(.tmp 22), (.tmp 23)] [24, 9] true [(1, rE 2 (File.enc true) x7.Files)] [] (.cons (.ag (.cons (am_b (.head _) (File.ro true) rfl) (.cons (.same rfl) (.cons (.same rfl) (.cons (.same rfl) (.cons (.same rfl) (.nil))))))) (.cons (.same rfl) (.nil))) (spec_ReadFile.ok x7 a2) h10 (.ag (.cons (.same rfl rfl) (.cons (.same rfl rfl) (.cons (.own 2) (.nil))))) (hbor := fun _ => ⟨rfl, (flat_ag (FileResult.fl _))⟩)) orcN)) ?_
      refine J_bind (fun x11 h12 => ?_)
      refine J_g 254 [(2, 5)] [(1, sv a2), (2, pp 0), (6, pp 3), (7, pp 5)] [(0, .box (Disk.enc false a1)), (2, rE 1 eU8 x9.File.Data), (3, .box [iv x9.Code, sv x9.File.Path, rr 2 x9.File.Data]), (4, rE 2 (File.enc true) x11.Files), (5, .box [rr 4 x11.Files, iv x11.Budget, iv x11.Writes, iv x11.Stop, bv x11.Down])] (orcC 1 (x_c1 («as» := [.ag (Disk.enc false a1)]) [(.tmp 25)] [52] false [] [] (.cons (.same rfl) (.nil)) (laws_toDisk.ok a1) h12 (.ag (.cons (.own 4) (.cons (.same rfl rfl) (.cons (.same rfl rfl) (.cons (.same rfl rfl) (.cons (.same rfl rfl) (.nil)))))))) orcN) ?_
      refine J_bind (fun x13 h14 => ?_)
      refine J_g 510 [(3, 7)] [(1, sv a2), (2, pp 0), (6, pp 3), (7, pp 5), (8, pp 7)] [(0, .box (Disk.enc false a1)), (2, rE 1 eU8 x9.File.Data), (3, .box [iv x9.Code, sv x9.File.Path, rr 2 x9.File.Data]), (4, rE 2 (File.enc true) x11.Files), (5, .box [rr 4 x11.Files, iv x11.Budget, iv x11.Writes, iv x11.Stop, bv x11.Down]), (6, rE 1 eU8 x13.File.Data), (7, .box [iv x13.Code, sv x13.File.Path, rr 6 x13.File.Data])] (orcC 2 (x_c1 («as» := [.ag [rr 4 x11.Files, iv x11.Budget, iv x11.Writes, iv x11.Stop, bv x11.Down], sv a2]) [(.tmp 27), (.tmp 28)] [24, 9] true [(4, rE 2 (File.enc true) x11.Files)] [] (.cons (.ag (.cons (am_b (.head _) (File.ro true) rfl) (.cons (.same rfl) (.cons (.same rfl) (.cons (.same rfl) (.cons (.same rfl) (.nil))))))) (.cons (.same rfl) (.nil))) (impl_ReadFile.ok x11 a2) h14 (.ag (.cons (.same rfl rfl) (.cons (.same rfl rfl) (.cons (.own 6) (.nil))))) (hbor := fun _ => ⟨rfl, (flat_ag (FileResult.fl _))⟩)) orcN) ?_
      refine J_bind (fun x15 h16 => ?_)
      refine J_g 2044 [] [(1, sv a2), (2, pp 0), (6, pp 3), (7, pp 5), (8, pp 7), (33, bv (!x15))] [(0, .box (Disk.enc false a1)), (2, rE 1 eU8 x9.File.Data), (3, .box [iv x9.Code, sv x9.File.Path, rr 2 x9.File.Data]), (4, rE 2 (File.enc true) x11.Files), (5, .box [rr 4 x11.Files, iv x11.Budget, iv x11.Writes, iv x11.Stop, bv x11.Down]), (6, rE 1 eU8 x13.File.Data), (7, .box [iv x13.Code, sv x13.File.Path, rr 6 x13.File.Data])] (orcC 2 (x_c1 («as» := [.ag [iv x13.Code, sv x13.File.Path, rr 6 x13.File.Data], .ag [iv x9.Code, sv x9.File.Path, rr 2 x9.File.Data]]) [(.tmp 30), (.tmp 31)] [72, 72] true [(6, rE 1 eU8 x13.File.Data), (2, rE 1 eU8 x9.File.Data)] [] (.cons (.ag (.cons (.same rfl) (.cons (.same rfl) (.cons (am_b (.head _) (fun _ => rfl) rfl) (.nil))))) (.cons (.ag (.cons (.same rfl) (.cons (.same rfl) (.cons (am_b (.tail _ (.head _)) (fun _ => rfl) rfl) (.nil))))) (.nil))) (laws_eqFileResult.ok x13 x9) h16 (.same rfl rfl) (hbor := fun _ => ⟨rfl, flat_sc⟩)) orcN) ?_
      refine J_if2 33 (fun h17 => ?_) (fun h17 => ?_)
      · refine J_g 8180 [] [(4, bv false)] [] orcN ?_
        exact J_r1 rfl
      · refine J_bind (fun x18 h19 => ?_)
        refine J_bind (fun x20 h21 => ?_)
        refine J_g 4092 [] [(1, sv a2), (2, pp 0), (6, pp 3), (7, pp 5), (8, pp 7), (38, bv (!x20))] [(0, .box (Disk.enc false a1)), (2, rE 1 eU8 x9.File.Data), (3, .box [iv x9.Code, sv x9.File.Path, rr 2 x9.File.Data]), (4, rE 2 (File.enc true) x11.Files), (5, .box [rr 4 x11.Files, iv x11.Budget, iv x11.Writes, iv x11.Stop, bv x11.Down]), (6, rE 1 eU8 x13.File.Data), (7, .box [iv x13.Code, sv x13.File.Path, rr 6 x13.File.Data])] (orcC 2 (x_c1 («as» := [.ag (Disk.enc false a1)]) [(.tmp 35)] [52] false [] [] (.cons (.same rfl) (.nil)) (laws_toDisk.ok a1) h19 (.ag (.cons (.own 8) (.cons (.same rfl rfl) (.cons (.same rfl rfl) (.cons (.same rfl rfl) (.cons (.same rfl rfl) (.nil)))))))) (orcC 3 (x_c1 («as» := [.ag [rr 4 x11.Files, iv x11.Budget, iv x11.Writes, iv x11.Stop, bv x11.Down], .ag [rr 8 x18.Files, iv x18.Budget, iv x18.Writes, iv x18.Stop, bv x18.Down]]) [(.tmp 34), (.tmp 36)] [24, 24] true [(4, rE 2 (File.enc true) x11.Files), (8, rE 2 (File.enc true) x18.Files)] [] (.cons (.ag (.cons (am_b (.head _) (File.ro true) rfl) (.cons (.same rfl) (.cons (.same rfl) (.cons (.same rfl) (.cons (.same rfl) (.nil))))))) (.cons (.ag (.cons (am_b (.tail _ (.head _)) (File.ro true) rfl) (.cons (.same rfl) (.cons (.same rfl) (.cons (.same rfl) (.cons (.same rfl) (.nil))))))) (.nil))) (laws_eqDisk.ok x11 x18) h21 (.same rfl rfl) (hbor := fun _ => ⟨rfl, flat_sc⟩)) orcN)) ?_
        refine J_if2 38 (fun h22 => ?_) (fun h22 => ?_)
        · refine J_g 16372 [] [(4, bv false)] [] orcN ?_
          exact J_r1 rfl
        · refine J_g 4094 [] [(1, sv a2), (2, pp 0), (6, pp 3), (7, pp 5), (8, pp 7), (9, iv 1)] [(0, .box (Disk.enc false a1)), (2, rE 1 eU8 x9.File.Data), (3, .box [iv x9.Code, sv x9.File.Path, rr 2 x9.File.Data]), (4, rE 2 (File.enc true) x11.Files), (5, .box [rr 4 x11.Files, iv x11.Budget, iv x11.Writes, iv x11.Stop, bv x11.Down]), (6, rE 1 eU8 x13.File.Data), (7, .box [iv x13.Code, sv x13.File.Path, rr 6 x13.File.Data])] orcN ?_
          refine J_bind (fun x23 h24 => ?_)
          refine J_g 8190 [] [(1, sv a2), (2, pp 0), (6, pp 3), (8, pp 7), (9, iv x23.1)] [(0, .box (Disk.enc false a1)), (2, rE 1 eU8 x9.File.Data), (3, .box [iv x9.Code, sv x9.File.Path, rr 2 x9.File.Data]), (6, rE 1 eU8 x13.File.Data), (7, .box [iv x13.Code, sv x13.File.Path, rr 6 x13.File.Data])] (orcC 2 (x_c1 («as» := [.ag [rr 4 x11.Files, iv x11.Budget, iv x11.Writes, iv x11.Stop, bv x11.Down], iv 1]) [(.tmp 39), (.tmp 40)] [24, 3] false [(4, rE 2 (File.enc true) x11.Files)] [4] (.cons (.ag (.cons (.rf rfl) (.cons (.same rfl) (.cons (.same rfl) (.cons (.same rfl) (.cons (.same rfl) (.nil))))))) (.cons (.same rfl) (.nil))) (laws_markDiskg.ok x11 1) h24 (.same rfl rfl)) orcN) ?_
          refine J_join (atI c9 32765) (fun v28 : Bool => St.mk' [(1, sv a2), (2, pp 0), (6, pp 3), (8, pp 7), (49, bv v28)] [(0, .box (Disk.enc false a1)), (2, rE 1 eU8 x9.File.Data), (3, .box [iv x9.Code, sv x9.File.Path, rr 2 x9.File.Data]), (6, rE 1 eU8 x13.File.Data), (7, .box [iv x13.Code, sv x13.File.Path, rr 6 x13.File.Data])]) (fun v28 => ?_) (fun jv28 => ?_)
          · refine J_if2 49 (fun h29 => ?_) (fun h29 => ?_)
            · refine J_g 131060 [] [(4, bv false)] [] orcN ?_
              exact J_r1 rfl
            · refine J_g 32766 [] [(1, sv a2), (2, pp 0), (6, pp 3), (8, pp 7), (10, iv 1)] [(0, .box (Disk.enc false a1)), (2, rE 1 eU8 x9.File.Data), (3, .box [iv x9.Code, sv x9.File.Path, rr 2 x9.File.Data]), (6, rE 1 eU8 x13.File.Data), (7, .box [iv x13.Code, sv x13.File.Path, rr 6 x13.File.Data])] orcN ?_
              refine J_bind (fun x30 h31 => ?_)
              refine J_g 65534 [] [(1, sv a2), (2, pp 0), (6, pp 3), (8, pp 7), (10, iv x30.1)] [(0, .box (Disk.enc false a1)), (2, rE 1 eU8 x9.File.Data), (3, .box [iv x9.Code, sv x9.File.Path, rr 2 x9.File.Data]), (6, rE 1 eU8 x30.2), (7, .box [iv x13.Code, sv x13.File.Path, rr 6 x13.File.Data])] (orcC 2 (x_c1 («as» := [.ag [iv x13.Code, sv x13.File.Path, rr 6 x13.File.Data], iv 1]) [(.tmp 50), (.tmp 51)] [72, 3] false [(6, rE 1 eU8 x13.File.Data)] [6] (.cons (.ag (.cons (.same rfl) (.cons (.same rfl) (.cons (.rf rfl) (.nil))))) (.cons (.same rfl) (.nil))) (laws_markFileResultg.ok x13 1) h31 (.same rfl rfl)) orcN) ?_
              refine J_bind (fun u32 h33 => ?_)
              refine J_st (σ' := St.mk' [(1, sv a2), (2, pp 0), (6, pp 3), (8, pp 7), (10, iv x30.1)] [(0, .box (Disk.enc false a1)), (2, rE 1 eU8 x9.File.Data), (3, .box [iv x9.Code, sv x9.File.Path, rr 2 x9.File.Data]), (6, rE 1 eU8 x30.2), (7, .box [iv x13.Code, sv x13.File.Path, rr 6 x30.2])]) (by simp only [rr, same_len h33]) ?_
              refine J_g 131070 [] [(1, sv a2), (2, pp 0), (6, pp 3), (8, pp 7), (10, iv x30.1), (11, iv 1)] [(0, .box (Disk.enc false a1)), (2, rE 1 eU8 x9.File.Data), (3, .box [iv x9.Code, sv x9.File.Path, rr 2 x9.File.Data]), (6, rE 1 eU8 x30.2), (7, .box [iv x13.Code, sv x13.File.Path, rr 6 x30.2])] orcN ?_
              refine J_bind (fun x34 h35 => ?_)
              refine J_g 262142 [] [(1, sv a2), (2, pp 0), (6, pp 3), (8, pp 7), (10, iv x30.1), (11, iv x34)] [(0, .box (Disk.enc false a1)), (2, rE 1 eU8 x9.File.Data), (3, .box [iv x9.Code, sv x9.File.Path, rr 2 x9.File.Data]), (6, rE 1 eU8 x30.2), (7, .box [iv x13.Code, sv x13.File.Path, rr 6 x30.2])] (orcC 2 (x_c1 («as» := [.ag [iv x13.Code, sv x13.File.Path, rr 6 x30.2], iv 1]) [(.tmp 53), (.tmp 54)] [72, 3] true [(6, rE 1 eU8 x30.2)] [] (.cons (.ag (.cons (.same rfl) (.cons (.same rfl) (.cons (am_b (.head _) (fun _ => rfl) rfl) (.nil))))) (.cons (.same rfl) (.nil))) (laws_heldFileResult.ok ({ Code := x13.Code, File := ({ Path := x13.File.Path, Data := x30.2 } : File) } : FileResult) 1) h35 (.same rfl rfl) (hbor := fun _ => ⟨rfl, flat_sc⟩)) orcN) ?_
              refine J_g 1048572 [] [(1, sv a2), (2, pp 0), (6, pp 3), (8, pp 7), (10, iv x30.1), (11, iv x34), (57, bv (decide (x34 < 0)))] [(0, .box (Disk.enc false a1)), (2, rE 1 eU8 x9.File.Data), (3, .box [iv x9.Code, sv x9.File.Path, rr 2 x9.File.Data]), (6, rE 1 eU8 x30.2), (7, .box [iv x13.Code, sv x13.File.Path, rr 6 x30.2])] orcN ?_
              refine J_if2 57 (fun h36 => ?_) (fun h36 => ?_)
              · refine J_g 4194292 [] [(4, bv false)] [] orcN ?_
                exact J_r1 rfl
              · refine J_g 2097148 [] [(1, sv a2), (2, pp 0), (6, pp 3), (8, pp 7), (10, iv x30.1), (60, bv (x34 != x30.1))] [(0, .box (Disk.enc false a1)), (2, rE 1 eU8 x9.File.Data), (3, .box [iv x9.Code, sv x9.File.Path, rr 2 x9.File.Data]), (6, rE 1 eU8 x30.2), (7, .box [iv x13.Code, sv x13.File.Path, rr 6 x30.2])] orcN ?_
                refine J_if2 60 (fun h37 => ?_) (fun h37 => ?_)
                · refine J_g 8388596 [] [(4, bv false)] [] orcN ?_
                  exact J_r1 rfl
                · refine J_bind (fun x38 h39 => ?_)
                  refine J_bind (fun x40 h41 => ?_)
                  refine J_g 2097150 [(4, 10)] [(6, pp 3), (8, pp 7), (10, iv x30.1), (12, pp 10)] [(2, rE 1 eU8 x9.File.Data), (3, .box [iv x9.Code, sv x9.File.Path, rr 2 x9.File.Data]), (6, rE 1 eU8 x30.2), (7, .box [iv x13.Code, sv x13.File.Path, rr 6 x30.2]), (9, rE 1 eU8 x40.File.Data), (10, .box [iv x40.Code, sv x40.File.Path, rr 9 x40.File.Data])] (orcC 1 (x_c1 («as» := [.ag (Disk.enc false a1)]) [(.tmp 61)] [52] false [] [] (.cons (.same rfl) (.nil)) (laws_toDisk.ok a1) h39 (.ag (.cons (.own 8) (.cons (.same rfl rfl) (.cons (.same rfl rfl) (.cons (.same rfl rfl) (.cons (.same rfl rfl) (.nil)))))))) (orcC 3 (x_c1 («as» := [.ag [rr 8 x38.Files, iv x38.Budget, iv x38.Writes, iv x38.Stop, bv x38.Down], sv a2]) [(.tmp 62), (.tmp 63)] [24, 9] true [(8, rE 2 (File.enc true) x38.Files)] [] (.cons (.ag (.cons (am_b (.head _) (File.ro true) rfl) (.cons (.same rfl) (.cons (.same rfl) (.cons (.same rfl) (.cons (.same rfl) (.nil))))))) (.cons (.same rfl) (.nil))) (impl_ReadFile.ok x38 a2) h41 (.ag (.cons (.same rfl rfl) (.cons (.same rfl rfl) (.cons (.own 9) (.nil))))) (hbor := fun _ => ⟨rfl, (flat_ag (FileResult.fl _))⟩)) orcN)) ?_
                  refine J_bind (fun x42 h43 => ?_)
                  refine J_g 8388604 [] [(8, pp 7), (10, iv x30.1), (68, bv (!x42))] [(6, rE 1 eU8 x30.2), (7, .box [iv x13.Code, sv x13.File.Path, rr 6 x30.2])] (orcC 2 (x_c1 («as» := [.ag [iv x40.Code, sv x40.File.Path, rr 9 x40.File.Data], .ag [iv x9.Code, sv x9.File.Path, rr 2 x9.File.Data]]) [(.tmp 65), (.tmp 66)] [72, 72] true [(9, rE 1 eU8 x40.File.Data), (2, rE 1 eU8 x9.File.Data)] [] (.cons (.ag (.cons (.same rfl) (.cons (.same rfl) (.cons (am_b (.head _) (fun _ => rfl) rfl) (.nil))))) (.cons (.ag (.cons (.same rfl) (.cons (.same rfl) (.cons (am_b (.tail _ (.head _)) (fun _ => rfl) rfl) (.nil))))) (.nil))) (laws_eqFileResult.ok x40 x9) h43 (.same rfl rfl) (hbor := fun _ => ⟨rfl, flat_sc⟩)) orcN) ?_
                  refine J_if2 68 (fun h44 => ?_) (fun h44 => ?_)
                  · refine J_g 33554420 [] [(4, bv false)] [] orcN ?_
                    exact J_r1 rfl
                  · refine J_g 8388606 [] [(8, pp 7), (10, iv x30.1), (11, iv 1)] [(6, rE 1 eU8 x30.2), (7, .box [iv x13.Code, sv x13.File.Path, rr 6 x30.2])] orcN ?_
                    refine J_bind (fun x45 h46 => ?_)
                    refine J_g 16777214 [] [(10, iv x30.1), (11, iv x45)] [] (orcC 2 (x_c1 («as» := [.ag [iv x13.Code, sv x13.File.Path, rr 6 x30.2], iv 1]) [(.tmp 69), (.tmp 70)] [72, 3] true [(6, rE 1 eU8 x30.2)] [] (.cons (.ag (.cons (.same rfl) (.cons (.same rfl) (.cons (am_b (.head _) (fun _ => rfl) rfl) (.nil))))) (.cons (.same rfl) (.nil))) (laws_heldFileResult.ok ({ Code := x13.Code, File := ({ Path := x13.File.Path, Data := x30.2 } : File) } : FileResult) 1) h46 (.same rfl rfl) (hbor := fun _ => ⟨rfl, flat_sc⟩)) orcN) ?_
                    refine J_g 67108860 [] [(10, iv x30.1), (11, iv x45), (73, bv (decide (x45 < 0)))] [] orcN ?_
                    refine J_if2 73 (fun h47 => ?_) (fun h47 => ?_)
                    · refine J_g 268435444 [] [(4, bv false)] [] orcN ?_
                      exact J_r1 rfl
                    · refine J_g 134217724 [] [(76, bv (x45 != x30.1))] [] orcN ?_
                      refine J_if2 76 (fun h48 => ?_) (fun h48 => ?_)
                      · refine J_g 536870900 [] [(4, bv false)] [] orcN ?_
                        exact J_r1 rfl
                      · refine J_g 134217726 [] [(4, bv true)] [] orcN ?_
                        exact J_r1 rfl
          · refine J_ite (fun h25 => ?_) (fun h25 => ?_)
            · refine J_g 32764 [] [(1, sv a2), (2, pp 0), (6, pp 3), (8, pp 7), (49, bv true)] [(0, .box (Disk.enc false a1)), (2, rE 1 eU8 x9.File.Data), (3, .box [iv x9.Code, sv x9.File.Path, rr 2 x9.File.Data]), (6, rE 1 eU8 x13.File.Data), (7, .box [iv x13.Code, sv x13.File.Path, rr 6 x13.File.Data])] (orcL 2 [(43, bv (decide (x23.1 < 0)))] [] h25 orcN) ?_
              exact J_qw (J_j (jv28 true)) rfl
            · refine J_bind (fun x26 h27 => ?_)
              refine J_g 32764 [] [(1, sv a2), (2, pp 0), (6, pp 3), (8, pp 7), (49, bv (!x26))] [(0, .box (Disk.enc false a1)), (2, rE 1 eU8 x9.File.Data), (3, .box [iv x9.Code, sv x9.File.Path, rr 2 x9.File.Data]), (6, rE 1 eU8 x13.File.Data), (7, .box [iv x13.Code, sv x13.File.Path, rr 6 x13.File.Data])] (orcL 2 [(43, bv (decide (x23.1 < 0)))] [] h25 (orcH 5 2 44 false (x_c1 («as» := [.ag [iv x13.Code, sv x13.File.Path, rr 6 x13.File.Data], .ag [iv x9.Code, sv x9.File.Path, rr 2 x9.File.Data]]) [(.tmp 45), (.tmp 46)] [72, 72] true [(6, rE 1 eU8 x13.File.Data), (2, rE 1 eU8 x9.File.Data)] [] (.cons (.ag (.cons (.same rfl) (.cons (.same rfl) (.cons (am_b (.head _) (fun _ => rfl) rfl) (.nil))))) (.cons (.ag (.cons (.same rfl) (.cons (.same rfl) (.cons (am_b (.tail _ (.head _)) (fun _ => rfl) rfl) (.nil))))) (.nil))) (laws_eqFileResult.ok x13 x9) h27 (.same rfl rfl) (hbor := fun _ => ⟨rfl, flat_sc⟩)) orcN)) ?_
              exact J_qw (J_j (jv28 (!x26))) rfl

end Go.Told

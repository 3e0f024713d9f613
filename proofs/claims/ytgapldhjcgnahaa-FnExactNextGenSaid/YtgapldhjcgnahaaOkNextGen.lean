import Derived.Test.YtgapldhjcgnahaaToldNextGen
import Derived.Test.YtgapldhjcgnahaaProg
set_option linter.unusedVariables false
set_option maxRecDepth 4000
namespace Go.Told
open Go Go.Im Go.Proofs

noncomputable def c42 : Code := (Try.f42.body).getD .skip

theorem laws_szByteS.ok (a1 : (List Int)) (a2 : Int) : Ok Try.prog 42 [sl 1 eU8 a1, iv a2] [] ((laws_szByteS a1 a2).map fun r => (iv r, [])) := by
  refine Ok_of3 c42 Try.f42 0 12 (fun q => ?_)
  unfold laws_szByteS
  refine J_g 2 [] [(0, sl 1 eU8 a1), (1, iv a2)] [] orcN ?_
  refine J_g 6 [] [(1, iv (w64 (a2 - (a1.length : Int))))] [] orcN ?_
  refine J_g 28 [] [(1, iv (w64 (a2 - (a1.length : Int)))), (10, bv (decide ((w64 (a2 - (a1.length : Int))) < 0)))] [] orcN ?_
  refine J_if2 10 (fun h3 => ?_) (fun h3 => ?_)
  · refine J_g 116 [] [(4, iv (-1))] [] orcN ?_
    exact J_r1 rfl
  · refine J_g 30 [] [(4, iv (w64 (a2 - (a1.length : Int))))] [] orcN ?_
    exact J_r1 rfl

noncomputable def c27 : Code := (Try.f27.body).getD .skip

theorem laws_szFile.ok (a1 : File) (a2 : Int) : Ok Try.prog 27 [.ag (File.enc false a1), iv a2] [] ((laws_szFile a1 a2).map fun r => (iv r, [])) := by
  refine Ok_of3 c27 Try.f27 0 19 (fun q => ?_)
  unfold laws_szFile
  refine J_g 2 [(0, 0)] [(1, iv a2), (2, pp 0)] [(0, .box (File.enc false a1))] orcN ?_
  refine J_g 6 [] [(1, iv (w64 (a2 - (a1.Path.size : Int)))), (2, pp 0)] [(0, .box (File.enc false a1))] orcN ?_
  refine J_g 28 [] [(1, iv (w64 (a2 - (a1.Path.size : Int)))), (2, pp 0), (11, bv (decide ((w64 (a2 - (a1.Path.size : Int))) < 0)))] [(0, .box (File.enc false a1))] orcN ?_
  refine J_if2 11 (fun h3 => ?_) (fun h3 => ?_)
  · refine J_g 116 [] [(4, iv (-1))] [] orcN ?_
    exact J_r1 rfl
  · refine J_bind (fun x4 h5 => ?_)
    refine J_g 30 [] [(1, iv x4)] [] (orcC 3 (x_c0 [(.tmp 13), (.tmp 14)] [46, 3] (laws_szByteS.ok a1.Data (w64 (a2 - (a1.Path.size : Int)))) h5) orcN) ?_
    refine J_g 124 [] [(1, iv x4), (17, bv (decide (x4 < 0)))] [] orcN ?_
    refine J_if2 17 (fun h6 => ?_) (fun h6 => ?_)
    · refine J_g 500 [] [(4, iv (-1))] [] orcN ?_
      exact J_r1 rfl
    · refine J_g 126 [] [(4, iv x4)] [] orcN ?_
      exact J_r1 rfl

noncomputable def c16 : Code := (Try.f16.body).getD .skip

theorem laws_szFileS_l1.ok (a1 : (List File)) (q : Wd) (kn : Int → Option (D × List Ent)) (hk : ∀ v : Int, J (q.g Try.prog 16 0 27) c16 (atI c16 31) (St.mk' [(1, iv v)] []) (some v) kn) :
    ∀ s10 : (Int × Int), J (q.g Try.prog 16 0 27) c16 (atI c16 244) (St.mk' [(0, sl 2 (File.enc false) a1), (1, iv s10.1), (5, iv s10.2)] []) (laws_szFileS_l1 a1 s10) (Fl.go (fun r : Int => some (iv r, [])) kn) := by
  refine J_lp (fun g ih s10 => ?_)
  unfold laws_szFileS_l1b
  refine J_g 976 [] [(0, sl 2 (File.enc false) a1), (1, iv s10.1), (5, iv s10.2), (15, bv (decide (s10.2 < (a1.length : Int))))] [] orcN ?_
  refine J_if2 15 (fun h11 => ?_) (fun h11 => ?_)
  · refine J_bind (fun x12 h13 => ?_)
    refine J_bind (fun x14 h15 => ?_)
    refine J_g 3912 [] [(0, sl 2 (File.enc false) a1), (1, iv x14), (5, iv s10.2)] [] (orcC 2 (x_ix (kk := .i64) 22 48 2 (File.enc false) (.tmp 18) (.tmp 19) h13) (orcC 5 (x_c0 [(.tmp 21), (.tmp 22)] [48, 3] (laws_szFile.ok x12 s10.1) h15) orcN)) ?_
    refine J_g 7826 [] [(0, sl 2 (File.enc false) a1), (1, iv x14), (5, iv s10.2), (25, bv (decide (x14 < 0)))] [] orcN ?_
    refine J_if2 25 (fun h16 => ?_) (fun h16 => ?_)
    · refine J_g 31308 [] [(4, iv (-1))] [] orcN ?_
      exact J_r1 rfl
    · refine J_g 979 [] [(0, sl 2 (File.enc false) a1), (1, iv x14), (5, iv (w64 (s10.2 + 1)))] [] orcN ?_
      exact J_q (J_b (ih (x14, w64 (s10.2 + 1)))) rfl
  · exact J_qw (hk s10.1) rfl

theorem laws_szFileS.ok (a1 : (List File)) (a2 : Int) : Ok Try.prog 16 [sl 2 (File.enc false) a1, iv a2] [] ((laws_szFileS a1 a2).map fun r => (iv r, [])) := by
  refine Ok_of3 c16 Try.f16 0 27 (fun q => ?_)
  unfold laws_szFileS
  refine J_g 2 [] [(0, sl 2 (File.enc false) a1), (1, iv a2)] [] orcN ?_
  refine J_g 6 [] [(0, sl 2 (File.enc false) a1), (1, iv (w64 (a2 - (a1.length : Int))))] [] orcN ?_
  refine J_g 28 [] [(0, sl 2 (File.enc false) a1), (1, iv (w64 (a2 - (a1.length : Int)))), (11, bv (decide ((w64 (a2 - (a1.length : Int))) < 0)))] [] orcN ?_
  refine J_if2 11 (fun h3 => ?_) (fun h3 => ?_)
  · refine J_g 116 [] [(4, iv (-1))] [] orcN ?_
    exact J_r1 rfl
  · refine J_g 60 [] [(0, sl 2 (File.enc false) a1), (1, iv (w64 (a2 - (a1.length : Int)))), (5, iv 0)] [] orcN ?_
    refine J_lqF (K0 := (fun r : Int => some (iv r, []))) (fun _ => rfl) (laws_szFileS_l1.ok a1 q _ (fun v17 => J_j ?_) (w64 (a2 - (a1.length : Int)), 0))
    refine J_g 62 [] [(4, iv v17)] [] orcN ?_
    exact J_r1 rfl

noncomputable def c6 : Code := (Try.f6.body).getD .skip

theorem laws_szDisk.ok (a1 : Disk) (a2 : Int) : Ok Try.prog 6 [.ag (Disk.enc false a1), iv a2] [] ((laws_szDisk a1 a2).map fun r => (iv r, [])) := by
  refine Ok_of3 c6 Try.f6 0 12 (fun q => ?_)
  unfold laws_szDisk
  refine J_g 2 [(0, 0)] [(1, iv a2), (2, pp 0)] [(0, .box (Disk.enc false a1))] orcN ?_
  refine J_bind (fun x3 h4 => ?_)
  refine J_g 6 [] [(1, iv x3)] [] (orcC 3 (x_c0 [(.tmp 6), (.tmp 7)] [22, 3] (laws_szFileS.ok a1.Files a2) h4) orcN) ?_
  refine J_g 28 [] [(1, iv x3), (10, bv (decide (x3 < 0)))] [] orcN ?_
  refine J_if2 10 (fun h5 => ?_) (fun h5 => ?_)
  · refine J_g 116 [] [(4, iv (-1))] [] orcN ?_
    exact J_r1 rfl
  · refine J_g 30 [] [(4, iv x3)] [] orcN ?_
    exact J_r1 rfl

noncomputable def c44 : Code := (Try.f44.body).getD .skip

theorem laws_toByteS_l1.ok (a1 : (List Int)) (q : Wd) (kn : (List Int) → Option (D × List Ent)) (hk : ∀ v : (List Int), J (q.g Try.prog 44 0 22) c44 (atI c44 15) (St.mk' [(3, rr 0 v)] [(0, rE 1 eU8 v)]) (some v) kn) :
    ∀ s9 : ((List Int) × Int), J (q.g Try.prog 44 0 22) c44 (atI c44 116) (St.mk' [(0, sl 1 eU8 a1), (3, rr 0 s9.1), (4, iv s9.2)] [(0, rE 1 eU8 s9.1)]) (laws_toByteS_l1 a1 s9) kn := by
  refine J_lp (fun g ih s9 => ?_)
  unfold laws_toByteS_l1b
  refine J_g 464 [] [(0, sl 1 eU8 a1), (3, rr 0 s9.1), (4, iv s9.2), (11, bv (decide (s9.2 < (a1.length : Int))))] [(0, rE 1 eU8 s9.1)] orcN ?_
  refine J_if2 11 (fun h10 => ?_) (fun h10 => ?_)
  · refine J_bind (fun x11 h12 => ?_)
    refine J_bind (fun x13 h14 => ?_)
    refine J_g 932 [] [(0, sl 1 eU8 a1), (3, rr 0 s9.1), (4, iv s9.2)] [(0, rE 1 eU8 (s9.1.set s9.2.toNat x11))] (orcC 4 (x_ix (kk := .i64) 46 5 1 eU8 (.tmp 16) (.tmp 17) h12) (orcC 6 (x_ixr (kk := .i64) 46 5 1 0 eU8 (.tmp 14) (.tmp 15) h14) (orcD 7 (x_st (b := x11) 5 1 0 0 eU8 (uv x11) (.tmp 20) (.tmp 19) h14 rfl) orcN))) ?_
    refine J_st (σ' := St.mk' [(0, sl 1 eU8 a1), (3, rr 0 (s9.1.set s9.2.toNat x11)), (4, iv s9.2)] [(0, rE 1 eU8 (s9.1.set s9.2.toNat x11))]) (by simp only [rr, List.length_set]) ?_
    refine J_g 467 [] [(0, sl 1 eU8 a1), (3, rr 0 (s9.1.set s9.2.toNat x11)), (4, iv (w64 (s9.2 + 1)))] [(0, rE 1 eU8 (s9.1.set s9.2.toNat x11))] orcN ?_
    exact J_q (J_b (ih (s9.1.set s9.2.toNat x11, w64 (s9.2 + 1)))) rfl
  · exact J_qw (hk s9.1) rfl

theorem laws_toByteS.ok (a1 : (List Int)) : Ok Try.prog 44 [sl 1 eU8 a1] [] ((laws_toByteS a1).map fun r => (so 1 eU8 r, [])) := by
  refine Ok_of3 c44 Try.f44 0 22 (fun q => ?_)
  unfold laws_toByteS
  refine J_g 2 [] [(0, sl 1 eU8 a1)] [] orcN ?_
  refine J_bind (fun x2 h3 => ?_)
  refine J_g 6 [] [(0, sl 1 eU8 a1), (3, rr 0 x2)] [(0, rE 1 eU8 x2)] (orcC 2 (x_mk 46 5 1 1 0 eU8 0 (.tmp 6) h3 (.keep rfl (.nil))) orcN) ?_
  refine J_g 28 [] [(0, sl 1 eU8 a1), (3, rr 0 x2), (4, iv 0)] [(0, rE 1 eU8 x2)] orcN ?_
  refine J_lq (laws_toByteS_l1.ok a1 q _ (fun v15 => J_j ?_) (x2, 0))
  refine J_g 30 [] [(2, rr 0 v15)] [(0, rE 1 eU8 v15)] orcN ?_
  exact J_rm (ds := [rr 0 v15]) (ds' := [so 1 eU8 v15]) (.cons (.cell (.move (.head _) (List.length_map _) (by decide) (.nil))) (.nil) (by decide)) rfl

noncomputable def c30 : Code := (Try.f30.body).getD .skip

theorem laws_toFile.ok (a1 : File) : Ok Try.prog 30 [.ag (File.enc false a1)] [] ((laws_toFile a1).map fun r => (.ag [sv r.Path, so 1 eU8 r.Data], [])) := by
  refine Ok_of3 c30 Try.f30 0 12 (fun q => ?_)
  unfold laws_toFile
  refine J_g 2 [(0, 0), (1, 1)] [(1, pp 0), (2, pp 1)] [(0, .box (File.enc false a1)), (1, .box [sv ByteArray.empty, nv])] orcN ?_
  refine J_g 6 [(0, 2)] [(1, pp 0), (2, pp 1), (3, pp 2)] [(0, .box (File.enc false a1)), (1, .box [sv ByteArray.empty, nv]), (2, .box [sv ByteArray.empty, nv])] orcN ?_
  refine J_g 14 [] [(1, pp 0), (2, pp 1), (3, pp 2)] [(0, .box (File.enc false a1)), (1, .box [sv ByteArray.empty, nv]), (2, .box [sv a1.Path, nv])] orcN ?_
  refine J_bind (fun x2 h3 => ?_)
  refine J_g 30 [] [(2, pp 1), (3, pp 2)] [(1, .box [sv ByteArray.empty, nv]), (2, .box [sv a1.Path, rr 3 x2]), (3, rE 1 eU8 x2)] (orcC 2 (x_c1 («as» := [sl 1 eU8 a1.Data]) [(.tmp 8)] [46] false [] [] (.cons (.same rfl) (.nil)) (laws_toByteS.ok a1.Data) h3 (.own 3)) orcN) ?_
  refine J_g 62 [] [(2, pp 1)] [(1, .box [sv a1.Path, rr 3 x2]), (3, rE 1 eU8 x2)] orcN ?_
  exact J_rm (ds := [.ag [sv a1.Path, rr 3 x2]]) (ds' := [.ag [sv a1.Path, so 1 eU8 x2]]) (.cons (.ag (.keep rfl (.move (.tail _ (.head _)) (List.length_map _) (by decide) (.nil)))) (.nil) (by decide)) rfl

noncomputable def c19 : Code := (Try.f19.body).getD .skip

theorem laws_toFileS_l1.ok (a1 : (List File)) (q : Wd) (kn : (List File) → Option (D × List Ent)) (hk : ∀ v : (List File), J (q.g Try.prog 19 0 23) c19 (atI c19 15) (St.mk' [(3, rr 0 v)] [(0, rE 2 (File.enc true) v)]) (some v) kn) :
    ∀ s11 : ((List File) × Int), J (q.g Try.prog 19 0 23) c19 (atI c19 116) (St.mk' [(0, sl 2 (File.enc false) a1), (3, rr 0 s11.1), (4, iv s11.2)] [(0, rE 2 (File.enc true) s11.1)]) (laws_toFileS_l1 a1 s11) kn := by
  refine J_lp (fun g ih s11 => ?_)
  unfold laws_toFileS_l1b
  refine J_g 464 [] [(0, sl 2 (File.enc false) a1), (3, rr 0 s11.1), (4, iv s11.2), (11, bv (decide (s11.2 < (a1.length : Int))))] [(0, rE 2 (File.enc true) s11.1)] orcN ?_
  refine J_if2 11 (fun h12 => ?_) (fun h12 => ?_)
  · refine J_bind (fun x13 h14 => ?_)
    refine J_bind (fun x15 h16 => ?_)
    refine J_bind (fun x17 h18 => ?_)
    refine J_g 932 [] [(0, sl 2 (File.enc false) a1), (3, rr 0 s11.1), (4, iv s11.2)] [(0, rE 2 (File.enc true) (s11.1.set s11.2.toNat x15))] (orcC 4 (x_ix (kk := .i64) 22 48 2 (File.enc false) (.tmp 16) (.tmp 17) h14) (orcC 6 (x_c1 («as» := [.ag (File.enc false x13)]) [(.tmp 19)] [48] false [] [] (.cons (.same rfl) (.nil)) (laws_toFile.ok x13) h16 (.ag (.cons (.same rfl rfl) (.cons (.own 1) (.nil))))) (orcC 7 (x_ixr (kk := .i64) 29 51 2 0 (File.enc true) (.tmp 14) (.tmp 15) h18) (orcD 8 (x_stm (b := x15) (es' := [sv x15.Path, so 1 eU8 x15.Data]) (ts := [1]) 51 2 0 0 (File.enc true) (.ag [sv x15.Path, rr 1 x15.Data]) (.tmp 21) (.tmp 20) [(1, rE 1 eU8 x15.Data)] h18 (.keep rfl (.move (.head _) (List.length_map _) (by decide) (.nil))) rfl) orcN)))) ?_
    refine J_st (σ' := St.mk' [(0, sl 2 (File.enc false) a1), (3, rr 0 (s11.1.set s11.2.toNat x15)), (4, iv s11.2)] [(0, rE 2 (File.enc true) (s11.1.set s11.2.toNat x15))]) (by simp only [rr, List.length_set]) ?_
    refine J_g 467 [] [(0, sl 2 (File.enc false) a1), (3, rr 0 (s11.1.set s11.2.toNat x15)), (4, iv (w64 (s11.2 + 1)))] [(0, rE 2 (File.enc true) (s11.1.set s11.2.toNat x15))] orcN ?_
    exact J_q (J_b (ih (s11.1.set s11.2.toNat x15, w64 (s11.2 + 1)))) rfl
  · exact J_qw (hk s11.1) rfl

theorem laws_toFileS.ok (a1 : (List File)) : Ok Try.prog 19 [sl 2 (File.enc false) a1] [] ((laws_toFileS a1).map fun r => (so 2 (File.enc true) r, [])) := by
  refine Ok_of3 c19 Try.f19 0 23 (fun q => ?_)
  unfold laws_toFileS
  refine J_g 2 [] [(0, sl 2 (File.enc false) a1)] [] orcN ?_
  refine J_bind (fun x2 h3 => ?_)
  refine J_g 6 [] [(0, sl 2 (File.enc false) a1), (3, rr 0 x2)] [(0, rE 2 (File.enc true) x2)] (orcC 2 (x_mk 29 51 2 40 0 (File.enc true) ({ Path := ByteArray.empty, Data := ([] : List Int) } : File) (.tmp 6) h3 (.keep rfl (.nilsl true 1 (.nil)))) orcN) ?_
  refine J_g 28 [] [(0, sl 2 (File.enc false) a1), (3, rr 0 x2), (4, iv 0)] [(0, rE 2 (File.enc true) x2)] orcN ?_
  refine J_lq (laws_toFileS_l1.ok a1 q _ (fun v19 => J_j ?_) (x2, 0))
  refine J_g 30 [] [(2, rr 0 v19)] [(0, rE 2 (File.enc true) v19)] orcN ?_
  exact J_rm (ds := [rr 0 v19]) (ds' := [so 2 (File.enc true) v19]) (.cons (.cell (.move (.head _) (List.length_map _) (by decide) (.nil))) (.nil) (by decide)) rfl

noncomputable def c8 : Code := (Try.f8.body).getD .skip

theorem laws_toDisk.ok (a1 : Disk) : Ok Try.prog 8 [.ag (Disk.enc false a1)] [] ((laws_toDisk a1).map fun r => (.ag (Disk.enc true r), [])) := by
  refine Ok_of3 c8 Try.f8 0 21 (fun q => ?_)
  unfold laws_toDisk
  refine J_g 2 [(0, 0), (1, 1)] [(1, pp 0), (2, pp 1)] [(0, .box (Disk.enc false a1)), (1, .box [nv, iv 0, iv 0, iv 0, bv false])] orcN ?_
  refine J_g 6 [(0, 2)] [(1, pp 0), (2, pp 1), (3, pp 2)] [(0, .box (Disk.enc false a1)), (1, .box [nv, iv 0, iv 0, iv 0, bv false]), (2, .box [nv, iv 0, iv 0, iv 0, bv false])] orcN ?_
  refine J_bind (fun x2 h3 => ?_)
  refine J_g 14 [] [(1, pp 0), (2, pp 1), (3, pp 2)] [(0, .box (Disk.enc false a1)), (1, .box [nv, iv 0, iv 0, iv 0, bv false]), (2, .box [rr 3 x2, iv 0, iv 0, iv 0, bv false]), (3, rE 2 (File.enc true) x2)] (orcC 2 (x_c1 («as» := [sl 2 (File.enc false) a1.Files]) [(.tmp 5)] [22] false [] [] (.cons (.same rfl) (.nil)) (laws_toFileS.ok a1.Files) h3 (.own 3)) orcN) ?_
  refine J_g 30 [] [(1, pp 0), (2, pp 1), (3, pp 2)] [(0, .box (Disk.enc false a1)), (1, .box [nv, iv 0, iv 0, iv 0, bv false]), (2, .box [rr 3 x2, iv a1.Budget, iv 0, iv 0, bv false]), (3, rE 2 (File.enc true) x2)] orcN ?_
  refine J_g 62 [] [(1, pp 0), (2, pp 1), (3, pp 2)] [(0, .box (Disk.enc false a1)), (1, .box [nv, iv 0, iv 0, iv 0, bv false]), (2, .box [rr 3 x2, iv a1.Budget, iv a1.Writes, iv 0, bv false]), (3, rE 2 (File.enc true) x2)] orcN ?_
  refine J_g 126 [] [(1, pp 0), (2, pp 1), (3, pp 2)] [(0, .box (Disk.enc false a1)), (1, .box [nv, iv 0, iv 0, iv 0, bv false]), (2, .box [rr 3 x2, iv a1.Budget, iv a1.Writes, iv a1.Stop, bv false]), (3, rE 2 (File.enc true) x2)] orcN ?_
  refine J_g 254 [] [(2, pp 1), (3, pp 2)] [(1, .box [nv, iv 0, iv 0, iv 0, bv false]), (2, .box [rr 3 x2, iv a1.Budget, iv a1.Writes, iv a1.Stop, bv a1.Down]), (3, rE 2 (File.enc true) x2)] orcN ?_
  refine J_g 510 [] [(2, pp 1)] [(1, .box [rr 3 x2, iv a1.Budget, iv a1.Writes, iv a1.Stop, bv a1.Down]), (3, rE 2 (File.enc true) x2)] orcN ?_
  exact J_rm (ds := [.ag [rr 3 x2, iv a1.Budget, iv a1.Writes, iv a1.Stop, bv a1.Down]]) (ds' := [.ag [so 2 (File.enc true) x2, iv a1.Budget, iv a1.Writes, iv a1.Stop, bv a1.Down]]) (.cons (.ag (.move (.tail _ (.head _)) (List.length_map _) (by decide) (.keep rfl (.keep rfl (.keep rfl (.keep rfl (.nil))))))) (.nil) (by decide)) rfl

noncomputable def c28 : Code := (Try.f28.body).getD .skip

theorem spec_l1In.ok (a1 : Int) (a2 : Int) (a3 : Int) : Ok Try.prog 28 [iv a1, iv a2, iv a3] [] ((spec_l1In a1 a2 a3).map fun r => (bv r, [])) := by
  refine Ok_of3 c28 Try.f28 0 15 (fun q => ?_)
  unfold spec_l1In
  refine J_g 2 [] [(0, iv a1), (1, iv a2), (2, iv a3)] [] orcN ?_
  refine J_ite (fun h4 => ?_) (fun h4 => ?_)
  · refine J_g 6 [] [(6, bv (decide (a1 ≤ a3)))] [] (orcL 3 [(9, bv (decide (a1 ≥ a2)))] [] h4 orcN) ?_
    exact J_r1 rfl
  · refine J_g 6 [] [(6, bv false)] [] (orcL 3 [(9, bv (decide (a1 ≥ a2)))] [] h4 orcN) ?_
    exact J_r1 rfl

noncomputable def c60 : Code := (Try.f60.body).getD .skip

theorem spec_l1Letter.ok (a1 : Int) : Ok Try.prog 60 [uv a1] [] ((spec_l1Letter a1).map fun r => (bv r, [])) := by
  refine Ok_of3 c60 Try.f60 0 9 (fun q => ?_)
  unfold spec_l1Letter
  refine J_g 2 [] [(0, uv a1)] [] orcN ?_
  refine J_ite (fun h2 => ?_) (fun h2 => ?_)
  · refine J_g 6 [] [(2, bv (decide (a1 ≤ 122)))] [] (orcL 2 [(4, bv (decide (a1 ≥ 97)))] [] h2 orcN) ?_
    exact J_r1 rfl
  · refine J_g 6 [] [(2, bv false)] [] (orcL 2 [(4, bv (decide (a1 ≥ 97)))] [] h2 orcN) ?_
    exact J_r1 rfl

noncomputable def c47 : Code := (Try.f47.body).getD .skip

theorem spec_l1Digit.ok (a1 : Int) : Ok Try.prog 47 [uv a1] [] ((spec_l1Digit a1).map fun r => (bv r, [])) := by
  refine Ok_of3 c47 Try.f47 0 9 (fun q => ?_)
  unfold spec_l1Digit
  refine J_g 2 [] [(0, uv a1)] [] orcN ?_
  refine J_ite (fun h2 => ?_) (fun h2 => ?_)
  · refine J_g 6 [] [(2, bv (decide (a1 ≤ 57)))] [] (orcL 2 [(4, bv (decide (a1 ≥ 48)))] [] h2 orcN) ?_
    exact J_r1 rfl
  · refine J_g 6 [] [(2, bv false)] [] (orcL 2 [(4, bv (decide (a1 ≥ 48)))] [] h2 orcN) ?_
    exact J_r1 rfl

noncomputable def c53 : Code := (Try.f53.body).getD .skip

theorem spec_l1Name.ok (a1 : Int) : Ok Try.prog 53 [uv a1] [] ((spec_l1Name a1).map fun r => (bv r, [])) := by
  refine Ok_of3 c53 Try.f53 0 13 (fun q => ?_)
  unfold spec_l1Name
  refine J_g 2 [] [(0, uv a1)] [] orcN ?_
  refine J_bind (fun x2 h3 => ?_)
  refine J_ite (fun h4 => ?_) (fun h4 => ?_)
  · refine J_g 6 [] [(2, bv true)] [] (orcC 1 (x_c0 [(.tmp 3)] [5] (spec_l1Letter.ok a1) h3) (orcL 2 [(4, bv x2)] [] h4 orcN)) ?_
    exact J_r1 rfl
  · refine J_bind (fun x5 h6 => ?_)
    refine J_ite (fun h7 => ?_) (fun h7 => ?_)
    · refine J_g 6 [] [(2, bv true)] [] (orcC 1 (x_c0 [(.tmp 3)] [5] (spec_l1Letter.ok a1) h3) (orcL 2 [(4, bv x2)] [] h4 (orcH 4 2 5 false (x_c0 [(.tmp 6)] [5] (spec_l1Digit.ok a1) h6) (orcL 6 [(8, bv x5)] [] h7 orcN)))) ?_
      exact J_r1 rfl
    · refine J_g 6 [] [(2, bv (a1 == 95))] [] (orcC 1 (x_c0 [(.tmp 3)] [5] (spec_l1Letter.ok a1) h3) (orcL 2 [(4, bv x2)] [] h4 (orcH 4 2 5 false (x_c0 [(.tmp 6)] [5] (spec_l1Digit.ok a1) h6) (orcL 6 [(8, bv x5)] [] h7 orcN)))) ?_
      exact J_r1 rfl

noncomputable def c43 : Code := (Try.f43.body).getD .skip

theorem spec_l7Byte.ok (a1 : Int) : Ok Try.prog 43 [uv a1] [] ((spec_l7Byte a1).map fun r => (bv r, [])) := by
  refine Ok_of3 c43 Try.f43 0 17 (fun q => ?_)
  unfold spec_l7Byte
  refine J_g 2 [] [(0, uv a1)] [] orcN ?_
  refine J_bind (fun x2 h3 => ?_)
  refine J_ite (fun h4 => ?_) (fun h4 => ?_)
  · refine J_g 6 [] [(2, bv true)] [] (orcC 1 (x_c0 [(.tmp 3)] [5] (spec_l1Name.ok a1) h3) (orcL 2 [(4, bv x2)] [] h4 orcN)) ?_
    exact J_r1 rfl
  · refine J_ite (fun h5 => ?_) (fun h5 => ?_)
    · refine J_g 6 [] [(2, bv true)] [] (orcC 1 (x_c0 [(.tmp 3)] [5] (spec_l1Name.ok a1) h3) (orcL 2 [(4, bv x2)] [] h4 (orcL 6 [(8, bv (a1 == 46))] [] h5 orcN))) ?_
      exact J_r1 rfl
    · refine J_ite (fun h6 => ?_) (fun h6 => ?_)
      · refine J_g 6 [] [(2, bv true)] [] (orcC 1 (x_c0 [(.tmp 3)] [5] (spec_l1Name.ok a1) h3) (orcL 2 [(4, bv x2)] [] h4 (orcL 6 [(8, bv (a1 == 46))] [] h5 (orcL 10 [(12, bv (a1 == 45))] [] h6 orcN)))) ?_
        exact J_r1 rfl
      · refine J_g 6 [] [(2, bv (a1 == 47))] [] (orcC 1 (x_c0 [(.tmp 3)] [5] (spec_l1Name.ok a1) h3) (orcL 2 [(4, bv x2)] [] h4 (orcL 6 [(8, bv (a1 == 46))] [] h5 (orcL 10 [(12, bv (a1 == 45))] [] h6 orcN)))) ?_
        exact J_r1 rfl

noncomputable def c29 : Code := (Try.f29.body).getD .skip

theorem spec_PathFault_l1.ok (a1 : ByteArray) (q : Wd) (kn : Unit → Option (D × List Ent)) (hk : ∀ v : Unit, J (q.g Try.prog 29 0 23) c29 (atI c29 15) (St.mk' [] []) (some v) kn) :
    ∀ s11 : Int, J (q.g Try.prog 29 0 23) c29 (atI c29 116) (St.mk' [(0, sv a1), (3, iv s11)] []) (spec_PathFault_l1 a1 s11) (Fl.go (fun r : Int => some (iv r, [])) kn) := by
  refine J_lp (fun g ih s11 => ?_)
  unfold spec_PathFault_l1b
  refine J_g 464 [] [(0, sv a1), (3, iv s11), (15, bv (decide (s11 < (a1.size : Int))))] [] orcN ?_
  refine J_if2 15 (fun h12 => ?_) (fun h12 => ?_)
  · refine J_bind (fun x13 h14 => ?_)
    refine J_bind (fun x15 h16 => ?_)
    refine J_g 1864 [] [(0, sv a1), (3, iv s11), (22, bv (!x15))] [] (orcC 2 (x_bi (kk := .i64) 9 (.tmp 18) (.tmp 19) h14) (orcC 3 (x_c0 [(.tmp 20)] [5] (spec_l7Byte.ok x13) h16) orcN)) ?_
    refine J_if2 22 (fun h17 => ?_) (fun h17 => ?_)
    · refine J_g 7460 [] [(2, iv 5)] [] orcN ?_
      exact J_r1 rfl
    · refine J_g 467 [] [(0, sv a1), (3, iv (w64 (s11 + 1)))] [] orcN ?_
      exact J_q (J_b (ih (w64 (s11 + 1)))) rfl
  · exact J_qw (hk ()) rfl

theorem spec_PathFault.ok (a1 : ByteArray) : Ok Try.prog 29 [sv a1] [] ((spec_PathFault a1).map fun r => (iv r, [])) := by
  refine Ok_of3 c29 Try.f29 0 23 (fun q => ?_)
  unfold spec_PathFault
  refine J_g 2 [] [(0, sv a1)] [] orcN ?_
  refine J_join (atI c29 13) (fun v3 : Bool => St.mk' [(0, sv a1), (11, bv v3)] []) (fun v3 => ?_) (fun jv3 => ?_)
  · refine J_if2 11 (fun h4 => ?_) (fun h4 => ?_)
    · refine J_g 52 [] [(2, iv 5)] [] orcN ?_
      exact J_r1 rfl
    · refine J_g 28 [] [(0, sv a1), (3, iv 0)] [] orcN ?_
      refine J_lqF (K0 := (fun r : Int => some (iv r, []))) (fun _ => rfl) (spec_PathFault_l1.ok a1 q _ (fun v18 => J_j ?_) 0)
      refine J_g 30 [] [(2, iv 0)] [] orcN ?_
      exact J_r1 rfl
  · refine J_ite (fun h2 => ?_) (fun h2 => ?_)
    · refine J_g 12 [] [(0, sv a1), (11, bv true)] [] (orcL 3 [(6, bv (decide ((a1.size : Int) < 1)))] [] h2 orcN) ?_
      exact J_qw (J_j (jv3 true)) rfl
    · refine J_g 12 [] [(0, sv a1), (11, bv (decide ((a1.size : Int) > 40)))] [] (orcL 3 [(6, bv (decide ((a1.size : Int) < 1)))] [] h2 orcN) ?_
      exact J_qw (J_j (jv3 (decide ((a1.size : Int) > 40)))) rfl

noncomputable def c18 : Code := (Try.f18.body).getD .skip

theorem spec_l7Total_l1.ok (a1 : Disk) (q : Wd) (kn : Int → Option (D × List Ent)) (hk : ∀ v : Int, J (q.g Try.prog 18 1 26) c18 (atI c18 15) (St.mk' [(3, iv v)] [(0, .box (Disk.enc false a1))]) (some v) kn) :
    ∀ s5 : (Int × Int), J (q.g Try.prog 18 1 26) c18 (atI c18 116) (St.mk' [(0, pp 0), (3, iv s5.1), (4, iv s5.2)] [(0, .box (Disk.enc false a1))]) (spec_l7Total_l1 a1 s5) kn := by
  refine J_lp (fun g ih s5 => ?_)
  unfold spec_l7Total_l1b
  refine J_g 464 [] [(0, pp 0), (3, iv s5.1), (4, iv s5.2), (11, bv (decide (s5.2 < (a1.Files.length : Int))))] [(0, .box (Disk.enc false a1))] orcN ?_
  refine J_if2 11 (fun h6 => ?_) (fun h6 => ?_)
  · refine J_bind (fun x7 h8 => ?_)
    refine J_g 932 [] [(0, pp 0), (3, iv (w64 (s5.1 + (x7.Data.length : Int)))), (4, iv s5.2)] [(0, .box (Disk.enc false a1))] (orcC 6 (x_ix (kk := .i64) 29 51 2 (File.enc false) (.tmp 18) (.tmp 19) h8) orcN) ?_
    refine J_g 467 [] [(0, pp 0), (3, iv (w64 (s5.1 + (x7.Data.length : Int)))), (4, iv (w64 (s5.2 + 1)))] [(0, .box (Disk.enc false a1))] orcN ?_
    exact J_q (J_b (ih (w64 (s5.1 + (x7.Data.length : Int)), w64 (s5.2 + 1)))) rfl
  · exact J_qw (hk s5.1) rfl

theorem spec_l7Total.ok (a1 : Disk) : Ok Try.prog 18 [pp 0] [.box (Disk.enc false a1)] ((spec_l7Total a1).map fun r => (iv r, [.box (Disk.enc false a1)])) := by
  refine Ok_of3 c18 Try.f18 1 26 (fun q => ?_)
  unfold spec_l7Total
  refine J_g 2 [] [(0, pp 0)] [(0, .box (Disk.enc false a1))] orcN ?_
  refine J_g 6 [] [(0, pp 0), (3, iv 0)] [(0, .box (Disk.enc false a1))] orcN ?_
  refine J_g 28 [] [(0, pp 0), (3, iv 0), (4, iv 0)] [(0, .box (Disk.enc false a1))] orcN ?_
  refine J_lq (spec_l7Total_l1.ok a1 q _ (fun v9 => J_j ?_) (0, 0))
  refine J_g 30 [] [(2, iv v9)] [(0, .box (Disk.enc false a1))] orcN ?_
  exact J_r1 rfl

noncomputable def c17 : Code := (Try.f17.body).getD .skip

theorem spec_DiskFault_l1.ok (a1 : Disk) (q : Wd) (kn : Unit → Option (D × List Ent)) (hk : ∀ v : Unit, J (q.g Try.prog 17 0 72) c17 (atI c17 31) (St.mk' [(1, pp 0)] [(0, .box (Disk.enc false a1))]) (some v) kn) :
    ∀ s29 : Int, J (q.g Try.prog 17 0 72) c17 (atI c17 244) (St.mk' [(1, pp 0), (3, iv s29)] [(0, .box (Disk.enc false a1))]) (spec_DiskFault_l1 a1 s29) (Fl.go (fun r : Int => some (iv r, [])) kn) := by
  refine J_lp (fun g ih s29 => ?_)
  unfold spec_DiskFault_l1b
  refine J_g 976 [] [(1, pp 0), (3, iv s29), (29, bv (decide (s29 < (a1.Files.length : Int))))] [(0, .box (Disk.enc false a1))] orcN ?_
  refine J_if2 29 (fun h30 => ?_) (fun h30 => ?_)
  · refine J_bind (fun x31 h32 => ?_)
    refine J_bind (fun x33 h34 => ?_)
    refine J_g 7824 [] [(1, pp 0), (3, iv s29), (4, iv x33)] [(0, .box (Disk.enc false a1))] (orcC 3 (x_ix (kk := .i64) 29 51 2 (File.enc false) (.tmp 33) (.tmp 34) h32) (orcC 6 (x_c0 [(.tmp 37)] [9] (spec_PathFault.ok x31.Path) h34) orcN)) ?_
    refine J_g 15650 [] [(1, pp 0), (3, iv s29), (4, iv x33), (40, bv (x33 != 0))] [(0, .box (Disk.enc false a1))] orcN ?_
    refine J_if2 40 (fun h35 => ?_) (fun h35 => ?_)
    · refine J_g 62604 [] [(2, iv x33)] [] orcN ?_
      exact J_r1 rfl
    · refine J_join (atI c17 15653) (fun v41 : Bool => St.mk' [(1, pp 0), (3, iv s29), (59, bv v41)] [(0, .box (Disk.enc false a1))]) (fun v41 => ?_) (fun jv41 => ?_)
      · refine J_if2 59 (fun h42 => ?_) (fun h42 => ?_)
        · refine J_g 62612 [] [(2, iv 1)] [] orcN ?_
          exact J_r1 rfl
        · refine J_bind (fun x43 h44 => ?_)
          refine J_g 15654 [] [(1, pp 0), (3, iv s29), (67, bv (decide ((x43.Data.length : Int) > 4000)))] [(0, .box (Disk.enc false a1))] (orcC 3 (x_ix (kk := .i64) 29 51 2 (File.enc false) (.tmp 61) (.tmp 62) h44) orcN) ?_
          refine J_if2 67 (fun h45 => ?_) (fun h45 => ?_)
          · refine J_g 62620 [] [(2, iv 2)] [] orcN ?_
            exact J_r1 rfl
          · refine J_g 979 [] [(1, pp 0), (3, iv (w64 (s29 + 1)))] [(0, .box (Disk.enc false a1))] orcN ?_
            exact J_q (J_b (ih (w64 (s29 + 1)))) rfl
      · refine J_ite (fun h36 => ?_) (fun h36 => ?_)
        · refine J_bind (fun x37 h38 => ?_)
          refine J_bind (fun x39 h40 => ?_)
          refine J_g 15652 [] [(1, pp 0), (3, iv s29), (59, bv (slt x37.Path x39.Path || seq x37.Path x39.Path))] [(0, .box (Disk.enc false a1))] (orcL 2 [(43, bv (decide (s29 > 0)))] [] h36 (orcH 6 2 44 true (x_ix (kk := .i64) 29 51 2 (File.enc false) (.tmp 46) (.tmp 47) h38) (orcH 13 2 44 true (x_ix (kk := .i64) 29 51 2 (File.enc false) (.tmp 52) (.tmp 54) h40) orcN))) ?_
          exact J_qw (J_j (jv41 (slt x37.Path x39.Path || seq x37.Path x39.Path))) rfl
        · refine J_g 15652 [] [(1, pp 0), (3, iv s29), (59, bv false)] [(0, .box (Disk.enc false a1))] (orcL 2 [(43, bv (decide (s29 > 0)))] [] h36 orcN) ?_
          exact J_qw (J_j (jv41 false)) rfl
  · exact J_qw (hk ()) rfl

theorem spec_DiskFault.ok (a1 : Disk) : Ok Try.prog 17 [.ag (Disk.enc false a1)] [] ((spec_DiskFault a1).map fun r => (iv r, [])) := by
  refine Ok_of3 c17 Try.f17 0 72 (fun q => ?_)
  unfold spec_DiskFault
  refine J_g 2 [(0, 0)] [(1, pp 0)] [(0, .box (Disk.enc false a1))] orcN ?_
  refine J_bind (fun x2 h3 => ?_)
  refine J_join (atI c17 13) (fun v10 : Bool => St.mk' [(1, pp 0), (20, bv v10)] [(0, .box (Disk.enc false a1))]) (fun v10 => ?_) (fun jv10 => ?_)
  · refine J_if2 20 (fun h11 => ?_) (fun h11 => ?_)
    · refine J_g 52 [] [(2, iv 3)] [] orcN ?_
      exact J_r1 rfl
    · refine J_g 28 [] [(1, pp 0), (24, bv (decide ((a1.Files.length : Int) > 120)))] [(0, .box (Disk.enc false a1))] orcN ?_
      refine J_if2 24 (fun h12 => ?_) (fun h12 => ?_)
      · refine J_g 116 [] [(2, iv 2)] [] orcN ?_
        exact J_r1 rfl
      · refine J_g 60 [] [(1, pp 0), (3, iv 0)] [(0, .box (Disk.enc false a1))] orcN ?_
        refine J_lqF (K0 := (fun r : Int => some (iv r, []))) (fun _ => rfl) (spec_DiskFault_l1.ok a1 q _ (fun v46 => J_j ?_) 0)
        refine J_bind (fun x47 h48 => ?_)
        refine J_g 124 [] [(71, bv (decide (x47 > a1.Budget)))] [] (orcC 0 (x_ro [(0, .box (Disk.enc false a1))] [] (x_c1 («as» := [pp 0]) [(.tmp 1)] [39] false [(0, .box (Disk.enc false a1))] [0] (.cons (.pt rfl) (.nil)) (spec_l7Total.ok a1) h48 (.same rfl rfl))) orcN) ?_
        refine J_if2 71 (fun h49 => ?_) (fun h49 => ?_)
        · refine J_g 500 [] [(2, iv 8)] [] orcN ?_
          exact J_r1 rfl
        · refine J_g 126 [] [(2, iv 0)] [] orcN ?_
          exact J_r1 rfl
  · refine J_ite (fun h4 => ?_) (fun h4 => ?_)
    · refine J_g 12 [] [(1, pp 0), (20, bv true)] [(0, .box (Disk.enc false a1))] (orcC 2 (x_c0 [(.tmp 6), (.const (.int .i64 0)), (.const (.int .i64 20000))] [2, 2, 2] (spec_l1In.ok a1.Budget 0 20000) h3) (orcL 4 [(8, bv (!x2))] [] h4 orcN)) ?_
      exact J_qw (J_j (jv10 true)) rfl
    · refine J_bind (fun x5 h6 => ?_)
      refine J_ite (fun h7 => ?_) (fun h7 => ?_)
      · refine J_g 12 [] [(1, pp 0), (20, bv true)] [(0, .box (Disk.enc false a1))] (orcC 2 (x_c0 [(.tmp 6), (.const (.int .i64 0)), (.const (.int .i64 20000))] [2, 2, 2] (spec_l1In.ok a1.Budget 0 20000) h3) (orcL 4 [(8, bv (!x2))] [] h4 (orcH 7 4 9 false (x_c0 [(.tmp 11), (.const (.int .i64 0)), (.const (.int .i64 1000000000))] [2, 2, 2] (spec_l1In.ok a1.Writes 0 1000000000) h6) (orcL 10 [(14, bv (!x5))] [] h7 orcN)))) ?_
        exact J_qw (J_j (jv10 true)) rfl
      · refine J_bind (fun x8 h9 => ?_)
        refine J_g 12 [] [(1, pp 0), (20, bv (!x8))] [(0, .box (Disk.enc false a1))] (orcC 2 (x_c0 [(.tmp 6), (.const (.int .i64 0)), (.const (.int .i64 20000))] [2, 2, 2] (spec_l1In.ok a1.Budget 0 20000) h3) (orcL 4 [(8, bv (!x2))] [] h4 (orcH 7 4 9 false (x_c0 [(.tmp 11), (.const (.int .i64 0)), (.const (.int .i64 1000000000))] [2, 2, 2] (spec_l1In.ok a1.Writes 0 1000000000) h6) (orcL 10 [(14, bv (!x5))] [] h7 (orcH 13 10 15 false (x_c0 [(.tmp 17), (.const (.int .i64 (-1))), (.const (.int .i64 1000000000))] [2, 2, 2] (spec_l1In.ok a1.Stop (-1) 1000000000) h9) orcN))))) ?_
        exact J_qw (J_j (jv10 (!x8))) rfl

noncomputable def c54 : Code := (Try.f54.body).getD .skip

theorem spec_l7Begins.ok (a1 : ByteArray) (a2 : ByteArray) : Ok Try.prog 54 [sv a1, sv a2] [] ((spec_l7Begins a1 a2).map fun r => (bv r, [])) := by
  refine Ok_of3 c54 Try.f54 0 18 (fun q => ?_)
  unfold spec_l7Begins
  refine J_g 2 [] [(0, sv a1), (1, sv a2)] [] orcN ?_
  refine J_ite (fun h3 => ?_) (fun h3 => ?_)
  · refine J_bind (fun x4 h5 => ?_)
    refine J_g 6 [] [(4, bv (seq x4 a2))] [] (orcL 5 [(9, bv (decide ((a1.size : Int) ≥ (a2.size : Int))))] [] h3 (orcH 9 5 10 true (x_ss 9 (.tmp 11) none (some (.tmp 13)) h5) orcN)) ?_
    exact J_r1 rfl
  · refine J_g 6 [] [(4, bv false)] [] (orcL 5 [(9, bv (decide ((a1.size : Int) ≥ (a2.size : Int))))] [] h3 orcN) ?_
    exact J_r1 rfl

noncomputable def c48 : Code := (Try.f48.body).getD .skip

theorem spec_l7Paths_l1.ok (a1 : Disk) (a2 : ByteArray) (q : Wd) (kn : (List ByteArray) → Option (D × List Ent)) (hk : ∀ v : (List ByteArray), J (q.g Try.prog 48 1 39) c48 (atI c48 15) (St.mk' [(5, rr 1 v)] [(0, .box (Disk.enc false a1)), (1, rE 1 eStr v)]) (some v) kn) :
    ∀ s14 : ((List ByteArray) × Int), J (q.g Try.prog 48 1 39) c48 (atI c48 116) (St.mk' [(0, pp 0), (1, sv a2), (5, rr 1 s14.1), (6, iv s14.2)] [(0, .box (Disk.enc false a1)), (1, rE 1 eStr s14.1)]) (spec_l7Paths_l1 a1 a2 s14) kn := by
  refine J_lp (fun g ih s14 => ?_)
  unfold spec_l7Paths_l1b
  refine J_g 464 [] [(0, pp 0), (1, sv a2), (5, rr 1 s14.1), (6, iv s14.2), (14, bv (decide (s14.2 < (a1.Files.length : Int))))] [(0, .box (Disk.enc false a1)), (1, rE 1 eStr s14.1)] orcN ?_
  refine J_if2 14 (fun h15 => ?_) (fun h15 => ?_)
  · refine J_bind (fun x16 h17 => ?_)
    refine J_bind (fun x18 h19 => ?_)
    refine J_g 1864 [] [(0, pp 0), (1, sv a2), (5, rr 1 s14.1), (6, iv s14.2), (26, bv x18)] [(0, .box (Disk.enc false a1)), (1, rE 1 eStr s14.1)] (orcC 5 (x_ix (kk := .i64) 29 51 2 (File.enc false) (.tmp 20) (.tmp 21) h17) (orcC 9 (x_c0 [(.tmp 24), (.tmp 25)] [9, 9] (spec_l7Begins.ok x16.Path a2) h19) orcN)) ?_
    refine J_join (aft c48 932) (fun v25 : (List ByteArray) => St.mk' [(0, pp 0), (1, sv a2), (5, rr 3 v25), (6, iv s14.2)] [(0, .box (Disk.enc false a1)), (3, rE 1 eStr v25)]) (fun v25 => ?_) (fun jv25 => ?_)
    · refine J_g 467 [] [(0, pp 0), (1, sv a2), (5, rr 3 v25), (6, iv (w64 (s14.2 + 1)))] [(0, .box (Disk.enc false a1)), (3, rE 1 eStr v25)] orcN ?_
      refine J_ren 3 1 (Nat.le_of_ble_eq_true rfl) (Nat.le_of_ble_eq_true rfl) ?_
      exact J_q (J_b (ih (v25, w64 (s14.2 + 1)))) rfl
    · refine J_if2 26 (fun h20 => ?_) (fun h20 => ?_)
      · refine J_bind (fun x21 h22 => ?_)
        refine J_bind (fun x23 h24 => ?_)
        refine J_g 3730 [] [(0, pp 0), (1, sv a2), (5, rr 3 x23), (6, iv s14.2)] [(0, .box (Disk.enc false a1)), (3, rE 1 eStr x23)] (orcC 6 (x_ix (kk := .i64) 29 51 2 (File.enc false) (.tmp 31) (.tmp 32) h22) (orcC 9 (x_bp 68 9 1 2 eStr [x21.Path] [0] [(.tmp 35)] [sv x21.Path]) (orcC 10 (x_ap 68 68 9 9 1 16 3 1 2 eStr (.tmp 27) (.tmp 36) h24) orcN))) ?_
        exact J_qw (J_j (jv25 x23)) rfl
      · refine J_ren 1 3 (Nat.le_of_ble_eq_true rfl) (Nat.le_of_ble_eq_true rfl) ?_
        exact J_qw (J_j (jv25 s14.1)) rfl
  · exact J_qw (hk s14.1) rfl

theorem spec_l7Paths.ok (a1 : Disk) (a2 : ByteArray) : Ok Try.prog 48 [pp 0, sv a2] [.box (Disk.enc false a1)] ((spec_l7Paths a1 a2).map fun r => (so 1 eStr r, [.box (Disk.enc false a1)])) := by
  refine Ok_of3 c48 Try.f48 1 39 (fun q => ?_)
  unfold spec_l7Paths
  refine J_g 2 [] [(0, pp 0), (1, sv a2)] [(0, .box (Disk.enc false a1))] orcN ?_
  refine J_g 6 [] [(0, pp 0), (1, sv a2), (5, rr 1 ([] : List ByteArray))] [(0, .box (Disk.enc false a1)), (1, rE 1 eStr ([] : List ByteArray))] (orcC 0 (x_bp 68 9 1 1 eStr ([] : List ByteArray) [] [] []) orcN) ?_
  refine J_g 28 [] [(0, pp 0), (1, sv a2), (5, rr 1 ([] : List ByteArray)), (6, iv 0)] [(0, .box (Disk.enc false a1)), (1, rE 1 eStr ([] : List ByteArray))] orcN ?_
  refine J_lq (spec_l7Paths_l1.ok a1 a2 q _ (fun v26 => J_j ?_) (([] : List ByteArray), 0))
  refine J_g 30 [] [(4, rr 1 v26)] [(0, .box (Disk.enc false a1)), (1, rE 1 eStr v26)] orcN ?_
  exact J_rm (ds := [rr 1 v26]) (ds' := [so 1 eStr v26]) (.cons (.cell (.move (.tail _ (.head _)) (List.length_map _) (by decide) (.nil))) (.nil) (by decide)) rfl

noncomputable def c35 : Code := (Try.f35.body).getD .skip

theorem spec_l1Number_l1.ok (a1 : ByteArray) (q : Wd) (kn : Int → Option (D × List Ent)) (hk : ∀ v : Int, J (q.g Try.prog 35 0 37) c35 (atI c35 31) (St.mk' [(6, iv v)] []) (some v) kn) :
    ∀ s14 : (Int × Int), J (q.g Try.prog 35 0 37) c35 (atI c35 244) (St.mk' [(0, sv a1), (6, iv s14.1), (7, iv s14.2)] []) (spec_l1Number_l1 a1 s14) (Fl.go (fun r : (Int × Bool) => some (.tu [iv r.1, bv r.2], [])) kn) := by
  refine J_lp (fun g ih s14 => ?_)
  unfold spec_l1Number_l1b
  refine J_g 976 [] [(0, sv a1), (6, iv s14.1), (7, iv s14.2), (20, bv (decide (s14.2 < (a1.size : Int))))] [] orcN ?_
  refine J_if2 20 (fun h15 => ?_) (fun h15 => ?_)
  · refine J_bind (fun x16 h17 => ?_)
    refine J_bind (fun x18 h19 => ?_)
    refine J_g 7824 [] [(0, sv a1), (6, iv s14.1), (7, iv s14.2), (27, bv (!x18))] [] (orcC 2 (x_bi (kk := .i64) 9 (.tmp 23) (.tmp 24) h17) (orcC 3 (x_c0 [(.tmp 25)] [5] (spec_l1Digit.ok x16) h19) orcN)) ?_
    refine J_if2 27 (fun h20 => ?_) (fun h20 => ?_)
    · refine J_g 31300 [] [(4, iv 0), (5, bv false)] [] orcN ?_
      exact J_rT rfl
    · refine J_bind (fun x21 h22 => ?_)
      refine J_g 3913 [] [(0, sv a1), (6, iv (w64 ((w64 (s14.1 * 10)) + (w64 (IntKind.u8.wrap (x21 - 48)))))), (7, iv s14.2)] [] (orcC 4 (x_bi (kk := .i64) 9 (.tmp 30) (.tmp 31) h22) orcN) ?_
      refine J_g 979 [] [(0, sv a1), (6, iv (w64 ((w64 (s14.1 * 10)) + (w64 (IntKind.u8.wrap (x21 - 48)))))), (7, iv (w64 (s14.2 + 1)))] [] orcN ?_
      exact J_q (J_b (ih (w64 ((w64 (s14.1 * 10)) + (w64 (IntKind.u8.wrap (x21 - 48)))), w64 (s14.2 + 1)))) rfl
  · exact J_qw (hk s14.1) rfl

theorem spec_l1Number.ok (a1 : ByteArray) (a2 : Int) : Ok Try.prog 35 [sv a1, iv a2] [] ((spec_l1Number a1 a2).map fun r => (.tu [iv r.1, bv r.2], [])) := by
  refine Ok_of3 c35 Try.f35 0 37 (fun q => ?_)
  unfold spec_l1Number
  refine J_g 2 [] [(0, sv a1), (1, iv a2)] [] orcN ?_
  refine J_join (atI c35 13) (fun v4 : Bool => St.mk' [(0, sv a1), (16, bv v4)] []) (fun v4 => ?_) (fun jv4 => ?_)
  · refine J_if2 16 (fun h5 => ?_) (fun h5 => ?_)
    · refine J_g 52 [] [(4, iv 0), (5, bv false)] [] orcN ?_
      exact J_rT rfl
    · refine J_g 14 [] [(0, sv a1), (6, iv 0)] [] orcN ?_
      refine J_g 60 [] [(0, sv a1), (6, iv 0), (7, iv 0)] [] orcN ?_
      refine J_lqF (K0 := (fun r : (Int × Bool) => some (.tu [iv r.1, bv r.2], []))) (fun _ => rfl) (spec_l1Number_l1.ok a1 q _ (fun v23 => J_j ?_) (0, 0))
      refine J_g 62 [] [(4, iv v23), (5, bv true)] [] orcN ?_
      exact J_rT rfl
  · refine J_ite (fun h3 => ?_) (fun h3 => ?_)
    · refine J_g 12 [] [(0, sv a1), (16, bv true)] [] (orcL 3 [(10, bv (decide ((a1.size : Int) < 1)))] [] h3 orcN) ?_
      exact J_qw (J_j (jv4 true)) rfl
    · refine J_g 12 [] [(0, sv a1), (16, bv (decide ((a1.size : Int) > a2)))] [] (orcL 3 [(10, bv (decide ((a1.size : Int) < 1)))] [] h3 orcN) ?_
      exact J_qw (J_j (jv4 (decide ((a1.size : Int) > a2)))) rfl

noncomputable def c55 : Code := (Try.f55.body).getD .skip

theorem spec_l1Decimal.ok (a1 : Int) : Ok Try.prog 55 [iv a1] [] ((spec_l1Decimal a1).map fun r => (sv r, [])) := by
  have key : ∀ (n : Nat) (a1 : Int), Ok Try.prog 55 [iv a1] [] ((recF spec_l1Decimal_r n a1).map fun r => (sv r, [])) := by
    intro n
    induction n with
    | zero => intro a1; exact Ok_none
    | succ n ih =>
      intro a1
      refine Ok_of3 c55 Try.f55 0 20 (fun q => ?_)
      unfold recF spec_l1Decimal_r
      refine J_g 2 [] [(0, iv a1)] [] orcN ?_
      refine J_g 12 [] [(0, iv a1), (4, bv (decide (a1 < 10)))] [] orcN ?_
      refine J_if2 4 (fun h2 => ?_) (fun h2 => ?_)
      · refine J_g 52 [] [(2, sv (b2s [IntKind.u8.wrap (w64 (48 + a1))]))] [] (orcC 3 (x_bp 46 5 1 0 eU8 [IntKind.u8.wrap (w64 (48 + a1))] [0] [(.tmp 7)] [uv (IntKind.u8.wrap (w64 (48 + a1)))]) (orcC 4 (x_b2sr (xs := [IntKind.u8.wrap (w64 (48 + a1))]) 46 9 5 0 (.tmp 8)) orcN)) ?_
        exact J_r1 rfl
      · refine J_bind (fun x3 h4 => ?_)
        refine J_bind (fun x5 h6 => ?_)
        refine J_g 14 [] [(2, sv x5)] [] (orcC 2 (x_c0 [(.tmp 11)] [2] (ih (w64 (a1.tdiv 10))) h4) (orcC 7 (x_bp 46 5 1 0 eU8 [IntKind.u8.wrap (w64 (48 + (a1.tmod 10)))] [0] [(.tmp 16)] [uv (IntKind.u8.wrap (w64 (48 + (a1.tmod 10))))]) (orcC 8 (x_b2sr (xs := [IntKind.u8.wrap (w64 (48 + (a1.tmod 10)))]) 46 9 5 0 (.tmp 17)) (orcC 9 (x_cat 9 9 (.tmp 12) (.tmp 18) h6) orcN)))) ?_
        exact J_r1 rfl
  exact key 64 a1

noncomputable def c49 : Code := (Try.f49.body).getD .skip

theorem spec_GenPath.ok (a1 : Int) : Ok Try.prog 49 [iv a1] [] ((spec_GenPath a1).map fun r => (sv r, [])) := by
  refine Ok_of3 c49 Try.f49 0 11 (fun q => ?_)
  unfold spec_GenPath
  refine J_g 2 [] [(0, iv a1)] [] orcN ?_
  refine J_bind (fun x2 h3 => ?_)
  refine J_g 12 [] [(0, iv a1), (5, bv (!x2))] [] (orcC 1 (x_c0 [(.tmp 3), (.const (.int .i64 1)), (.const (.int .i64 999999))] [2, 2, 2] (spec_l1In.ok a1 1 999999) h3) orcN) ?_
  refine J_if2 5 (fun h4 => ?_) (fun h4 => ?_)
  · refine J_g 52 [] [(2, sv (bs []))] [] orcN ?_
    exact J_r1 rfl
  · refine J_bind (fun x5 h6 => ?_)
    refine J_bind (fun x7 h8 => ?_)
    refine J_bind (fun x9 h10 => ?_)
    refine J_g 14 [] [(2, sv x9)] [] (orcC 2 (x_c0 [(.tmp 7)] [2] (spec_l1Decimal.ok (w64 (1000000 + a1))) h6) (orcC 3 (x_ss 9 (.tmp 8) (some (.const (.int .i64 1))) none h8) (orcC 4 (x_cat 9 9 (.const (.string (bs [103, 101, 110, 47]))) (.tmp 9) h10) orcN))) ?_
    exact J_r1 rfl

noncomputable def c37 : Code := (Try.f37.body).getD .skip

theorem spec_l8Gens_l1.ok (a1 : Disk) (x2 : (List ByteArray)) (q : Wd) (kn : (List Int) → Option (D × List Ent)) (hk : ∀ v : (List Int), J (q.g Try.prog 37 1 41) c37 (atI c37 31) (St.mk' [(3, rr 1 v)] [(0, .box (Disk.enc false a1)), (1, rE 1 eI64 v)]) (some v) kn) :
    ∀ s21 : ((List Int) × Int), J (q.g Try.prog 37 1 41) c37 (atI c37 244) (St.mk' [(3, rr 1 s21.1), (4, rr 2 x2), (5, iv s21.2)] [(0, .box (Disk.enc false a1)), (1, rE 1 eI64 s21.1), (2, rE 1 eStr x2)]) (spec_l8Gens_l1 a1 x2 s21) kn := by
  refine J_lp (fun g ih s21 => ?_)
  unfold spec_l8Gens_l1b
  refine J_g 976 [] [(3, rr 1 s21.1), (4, rr 2 x2), (5, iv s21.2), (14, bv (decide (s21.2 < (x2.length : Int))))] [(0, .box (Disk.enc false a1)), (1, rE 1 eI64 s21.1), (2, rE 1 eStr x2)] orcN ?_
  refine J_if2 14 (fun h22 => ?_) (fun h22 => ?_)
  · refine J_bind (fun x23 h24 => ?_)
    refine J_bind (fun x25 h26 => ?_)
    refine J_bind (fun x27 h28 => ?_)
    refine J_g 3912 [] [(3, rr 1 s21.1), (4, rr 2 x2), (5, iv s21.2), (6, iv x27.1), (7, bv x27.2)] [(0, .box (Disk.enc false a1)), (1, rE 1 eI64 s21.1), (2, rE 1 eStr x2)] (orcC 2 (x_ixr (kk := .i64) 68 9 1 2 eStr (.tmp 18) (.tmp 19) h24) (orcC 3 (x_ldr (d := sv x23) 9 1 2 0 eStr (.tmp 20) h24 (by kernel_rfl)) (orcC 4 (x_ss 9 (.tmp 21) (some (.const (.int .i64 4))) none h26) (orcC 5 (x_c0 [(.tmp 22), (.const (.int .i64 6))] [9, 3] (spec_l1Number.ok x25 6) h28) orcN)))) ?_
    refine J_join (atI c37 7827) (fun v34 : Bool => St.mk' [(3, rr 1 s21.1), (4, rr 2 x2), (5, iv s21.2), (6, iv x27.1), (35, bv v34)] [(0, .box (Disk.enc false a1)), (1, rE 1 eI64 s21.1), (2, rE 1 eStr x2)]) (fun v34 => ?_) (fun jv34 => ?_)
    · refine J_join (aft c37 1956) (fun v38 : (List Int) => St.mk' [(3, rr 4 v38), (4, rr 2 x2), (5, iv s21.2)] [(0, .box (Disk.enc false a1)), (2, rE 1 eStr x2), (4, rE 1 eI64 v38)]) (fun v38 => ?_) (fun jv38 => ?_)
      · refine J_g 979 [] [(3, rr 4 v38), (4, rr 2 x2), (5, iv (w64 (s21.2 + 1)))] [(0, .box (Disk.enc false a1)), (2, rE 1 eStr x2), (4, rE 1 eI64 v38)] orcN ?_
        refine J_ren 4 1 (Nat.le_of_ble_eq_true rfl) (Nat.le_of_ble_eq_true rfl) ?_
        exact J_q (J_b (ih (v38, w64 (s21.2 + 1)))) rfl
      · refine J_if2 35 (fun h35 => ?_) (fun h35 => ?_)
        · refine J_bind (fun x36 h37 => ?_)
          refine J_g 15654 [] [(3, rr 4 x36), (4, rr 2 x2), (5, iv s21.2)] [(0, .box (Disk.enc false a1)), (2, rE 1 eStr x2), (4, rE 1 eI64 x36)] (orcC 2 (x_bp 58 2 1 3 eI64 [x27.1] [0] [(.tmp 37)] [iv x27.1]) (orcC 3 (x_ap 58 58 2 2 1 8 4 1 3 eI64 (.tmp 36) (.tmp 38) h37) orcN)) ?_
          exact J_qw (J_j (jv38 x36)) rfl
        · refine J_ren 1 4 (Nat.le_of_ble_eq_true rfl) (Nat.le_of_ble_eq_true rfl) ?_
          exact J_qw (J_j (jv38 s21.1)) rfl
    · refine J_ite (fun h29 => ?_) (fun h29 => ?_)
      · refine J_bind (fun x30 h31 => ?_)
        refine J_bind (fun x32 h33 => ?_)
        refine J_g 7826 [] [(3, rr 1 s21.1), (4, rr 2 x2), (5, iv s21.2), (6, iv x27.1), (35, bv (seq x30 x32))] [(0, .box (Disk.enc false a1)), (1, rE 1 eI64 s21.1), (2, rE 1 eStr x2)] (orcL 1 [(26, bv x27.2)] [] h29 (orcH 3 1 27 true (x_c0 [(.tmp 28)] [2] (spec_GenPath.ok x27.1) h31) (orcH 6 1 27 true (x_ixr (kk := .i64) 68 9 1 2 eStr (.tmp 30) (.tmp 31) h33) (orcH 7 1 27 true (x_ldr (d := sv x32) 9 1 2 0 eStr (.tmp 32) h33 (by kernel_rfl)) orcN)))) ?_
        exact J_qw (J_j (jv34 (seq x30 x32))) rfl
      · refine J_g 7826 [] [(3, rr 1 s21.1), (4, rr 2 x2), (5, iv s21.2), (6, iv x27.1), (35, bv false)] [(0, .box (Disk.enc false a1)), (1, rE 1 eI64 s21.1), (2, rE 1 eStr x2)] (orcL 1 [(26, bv x27.2)] [] h29 orcN) ?_
        exact J_qw (J_j (jv34 false)) rfl
  · exact J_qw (hk s21.1) rfl

theorem spec_l8Gens.ok (a1 : Disk) : Ok Try.prog 37 [pp 0] [.box (Disk.enc false a1)] ((spec_l8Gens a1).map fun r => (so 1 eI64 r, [.box (Disk.enc false a1)])) := by
  refine Ok_of3 c37 Try.f37 1 41 (fun q => ?_)
  unfold spec_l8Gens
  refine J_g 2 [] [(0, pp 0)] [(0, .box (Disk.enc false a1))] orcN ?_
  refine J_g 6 [] [(0, pp 0), (3, rr 1 ([] : List Int))] [(0, .box (Disk.enc false a1)), (1, rE 1 eI64 ([] : List Int))] (orcC 0 (x_bp 58 2 1 1 eI64 ([] : List Int) [] [] []) orcN) ?_
  refine J_bind (fun x2 h3 => ?_)
  refine J_g 14 [] [(3, rr 1 ([] : List Int)), (4, rr 2 x2)] [(0, .box (Disk.enc false a1)), (1, rE 1 eI64 ([] : List Int)), (2, rE 1 eStr x2)] (orcC 1 (x_ro [(0, .box (Disk.enc false a1))] [(2, rE 1 eStr x2)] (x_c1 («as» := [pp 0, sv (bs [103, 101, 110, 47])]) [(.tmp 9), (.const (.string (bs [103, 101, 110, 47])))] [39, 9] false [(0, .box (Disk.enc false a1))] [0] (.cons (.pt rfl) (.cons (.same rfl) (.nil))) (spec_l7Paths.ok a1 (bs [103, 101, 110, 47])) h3 (.own 2))) orcN) ?_
  refine J_g 60 [] [(3, rr 1 ([] : List Int)), (4, rr 2 x2), (5, iv 0)] [(0, .box (Disk.enc false a1)), (1, rE 1 eI64 ([] : List Int)), (2, rE 1 eStr x2)] orcN ?_
  refine J_lq (spec_l8Gens_l1.ok a1 x2 q _ (fun v39 => J_j ?_) (([] : List Int), 0))
  refine J_g 62 [] [(2, rr 1 v39)] [(0, .box (Disk.enc false a1)), (1, rE 1 eI64 v39)] orcN ?_
  exact J_rm (ds := [rr 1 v39]) (ds' := [so 1 eI64 v39]) (.cons (.cell (.move (.tail _ (.head _)) (List.length_map _) (by decide) (.nil))) (.nil) (by decide)) rfl

noncomputable def c25 : Code := (Try.f25.body).getD .skip

theorem spec_l8Next.ok (a1 : Disk) : Ok Try.prog 25 [pp 0] [.box (Disk.enc false a1)] ((spec_l8Next a1).map fun r => (iv r, [.box (Disk.enc false a1)])) := by
  refine Ok_of3 c25 Try.f25 1 16 (fun q => ?_)
  unfold spec_l8Next
  refine J_g 2 [] [(0, pp 0)] [(0, .box (Disk.enc false a1))] orcN ?_
  refine J_bind (fun x2 h3 => ?_)
  refine J_g 6 [] [(3, rr 1 x2)] [(0, .box (Disk.enc false a1)), (1, rE 1 eI64 x2)] (orcC 1 (x_ro [(0, .box (Disk.enc false a1))] [(1, rE 1 eI64 x2)] (x_c1 («as» := [pp 0]) [(.tmp 4)] [39] false [(0, .box (Disk.enc false a1))] [0] (.cons (.pt rfl) (.nil)) (spec_l8Gens.ok a1) h3 (.own 1))) orcN) ?_
  refine J_g 28 [] [(3, rr 1 x2), (8, bv ((x2.length : Int) == 0))] [(0, .box (Disk.enc false a1)), (1, rE 1 eI64 x2)] orcN ?_
  refine J_if2 8 (fun h4 => ?_) (fun h4 => ?_)
  · refine J_g 116 [] [(2, iv 1)] [(0, .box (Disk.enc false a1))] orcN ?_
    exact J_r1 rfl
  · refine J_bind (fun x5 h6 => ?_)
    refine J_g 30 [] [(2, iv (w64 (x5 + 1)))] [(0, .box (Disk.enc false a1))] (orcC 4 (x_ixr (kk := .i64) 58 2 1 1 eI64 (.tmp 9) (.tmp 12) h6) (orcC 5 (x_ldr (d := iv x5) 2 1 1 0 eI64 (.tmp 13) h6 (by kernel_rfl)) orcN)) ?_
    exact J_r1 rfl

noncomputable def c14 : Code := (Try.f14.body).getD .skip

theorem spec_NextGen.ok (a1 : Disk) : Ok Try.prog 14 [.ag (Disk.enc false a1)] [] ((spec_NextGen a1).map fun r => (.ag (IntResult.enc r), [])) := by
  refine Ok_of3 c14 Try.f14 0 17 (fun q => ?_)
  unfold spec_NextGen
  refine J_g 2 [(0, 0), (1, 1)] [(1, pp 0), (2, pp 1)] [(0, .box (Disk.enc false a1)), (1, .box [iv 0, iv 0])] orcN ?_
  refine J_bind (fun x2 h3 => ?_)
  refine J_g 12 [] [(1, pp 0), (2, pp 1), (3, iv x2)] [(0, .box (Disk.enc false a1)), (1, .box [iv 0, iv 0])] (orcC 1 (x_c0 [(.tmp 5)] [31] (spec_DiskFault.ok a1) h3) orcN) ?_
  refine J_g 26 [] [(1, pp 0), (2, pp 1), (3, iv x2), (8, bv (x2 != 0))] [(0, .box (Disk.enc false a1)), (1, .box [iv 0, iv 0])] orcN ?_
  refine J_if2 8 (fun h4 => ?_) (fun h4 => ?_)
  · refine J_g 108 [] [(2, pp 1)] [(1, .box [iv x2, iv 0])] orcN ?_
    exact J_r1 rfl
  · refine J_bind (fun x5 h6 => ?_)
    refine J_g 14 [] [(2, pp 1), (4, iv x5)] [(1, .box [iv 0, iv 0])] (orcC 0 (x_ro [(0, .box (Disk.enc false a1))] [] (x_c1 («as» := [pp 0]) [(.tmp 1)] [39] false [(0, .box (Disk.enc false a1))] [0] (.cons (.pt rfl) (.nil)) (spec_l8Next.ok a1) h6 (.same rfl rfl))) orcN) ?_
    refine J_g 60 [] [(2, pp 1), (4, iv x5), (13, bv (decide (x5 > 999999)))] [(1, .box [iv 0, iv 0])] orcN ?_
    refine J_if2 13 (fun h7 => ?_) (fun h7 => ?_)
    · refine J_g 244 [] [(2, pp 1)] [(1, .box [iv 2, iv 0])] orcN ?_
      exact J_r1 rfl
    · refine J_g 62 [] [(2, pp 1)] [(1, .box [iv 0, iv x5])] orcN ?_
      exact J_r1 rfl

noncomputable def c31 : Code := (Try.f31.body).getD .skip

theorem impl_within.ok (a1 : Int) (a2 : Int) (a3 : Int) : Ok Try.prog 31 [iv a1, iv a2, iv a3] [] ((impl_within a1 a2 a3).map fun r => (bv r, [])) := by
  refine Ok_of3 c31 Try.f31 0 15 (fun q => ?_)
  unfold impl_within
  refine J_g 2 [] [(0, iv a1), (1, iv a2), (2, iv a3)] [] orcN ?_
  refine J_ite (fun h4 => ?_) (fun h4 => ?_)
  · refine J_g 6 [] [(6, bv (decide (a1 ≤ a3)))] [] (orcL 3 [(9, bv (decide (a2 ≤ a1)))] [] h4 orcN) ?_
    exact J_r1 rfl
  · refine J_g 6 [] [(6, bv false)] [] (orcL 3 [(9, bv (decide (a2 ≤ a1)))] [] h4 orcN) ?_
    exact J_r1 rfl

noncomputable def c45 : Code := (Try.f45.body).getD .skip

theorem impl_isNameByte.ok (a1 : Int) : Ok Try.prog 45 [uv a1] [] ((impl_isNameByte a1).map fun r => (bv r, [])) := by
  refine Ok_of3 c45 Try.f45 0 21 (fun q => ?_)
  unfold impl_isNameByte
  refine J_g 2 [] [(0, uv a1)] [] orcN ?_
  refine J_ite (fun h2 => ?_) (fun h2 => ?_)
  · refine J_ite (fun h3 => ?_) (fun h3 => ?_)
    · refine J_g 6 [] [(2, bv true)] [] (orcL 2 [(4, bv (decide (a1 ≥ 97)))] [] h2 (orcL 6 [(8, bv (decide (a1 ≤ 122)))] [] h3 (orcV 9 (orcU (i := 9) (g := 6) (t := 9) (b := false) (v := (.bool true)) (.inl rfl) (by kernel_rfl) (by kernel_rfl)) (orcV 10 (orcU (i := 10) (g := 9) (t := 12) (b := true) (v := undef) (.inr rfl) (by kernel_rfl) (by kernel_rfl)) (orcV 11 (orcU (i := 11) (g := 9) (t := 12) (b := true) (v := undef) (.inr rfl) (by kernel_rfl) (by kernel_rfl)) orcN))))) ?_
      exact J_r1 rfl
    · refine J_ite (fun h4 => ?_) (fun h4 => ?_)
      · refine J_ite (fun h5 => ?_) (fun h5 => ?_)
        · refine J_g 6 [] [(2, bv true)] [] (orcL 2 [(4, bv (decide (a1 ≥ 97)))] [] h2 (orcL 6 [(8, bv (decide (a1 ≤ 122)))] [] h3 (orcLG 9 6 9 false [(11, bv (decide (a1 ≥ 48)))] [] h4 (orcL 14 [(16, bv (decide (a1 ≤ 57)))] [] h5 orcN)))) ?_
          exact J_r1 rfl
        · refine J_g 6 [] [(2, bv (a1 == 95))] [] (orcL 2 [(4, bv (decide (a1 ≥ 97)))] [] h2 (orcL 6 [(8, bv (decide (a1 ≤ 122)))] [] h3 (orcLG 9 6 9 false [(11, bv (decide (a1 ≥ 48)))] [] h4 (orcL 14 [(16, bv (decide (a1 ≤ 57)))] [] h5 orcN)))) ?_
          exact J_r1 rfl
      · refine J_g 6 [] [(2, bv (a1 == 95))] [] (orcL 2 [(4, bv (decide (a1 ≥ 97)))] [] h2 (orcL 6 [(8, bv (decide (a1 ≤ 122)))] [] h3 (orcLG 9 6 9 false [(11, bv (decide (a1 ≥ 48)))] [] h4 orcN))) ?_
        exact J_r1 rfl
  · refine J_ite (fun h6 => ?_) (fun h6 => ?_)
    · refine J_ite (fun h7 => ?_) (fun h7 => ?_)
      · refine J_g 6 [] [(2, bv true)] [] (orcL 2 [(4, bv (decide (a1 ≥ 97)))] [] h2 (orcLG 9 6 9 false [(11, bv (decide (a1 ≥ 48)))] [] h6 (orcL 14 [(16, bv (decide (a1 ≤ 57)))] [] h7 orcN))) ?_
        exact J_r1 rfl
      · refine J_g 6 [] [(2, bv (a1 == 95))] [] (orcL 2 [(4, bv (decide (a1 ≥ 97)))] [] h2 (orcLG 9 6 9 false [(11, bv (decide (a1 ≥ 48)))] [] h6 (orcL 14 [(16, bv (decide (a1 ≤ 57)))] [] h7 orcN))) ?_
        exact J_r1 rfl
    · refine J_g 6 [] [(2, bv (a1 == 95))] [] (orcL 2 [(4, bv (decide (a1 ≥ 97)))] [] h2 (orcLG 9 6 9 false [(11, bv (decide (a1 ≥ 48)))] [] h6 orcN)) ?_
      exact J_r1 rfl

noncomputable def c32 : Code := (Try.f32.body).getD .skip

theorem impl_PathFault_l1.ok (a1 : ByteArray) (q : Wd) (kn : Unit → Option (D × List Ent)) (hk : ∀ v : Unit, J (q.g Try.prog 32 0 37) c32 (atI c32 15) (St.mk' [] []) (some v) kn) :
    ∀ s15 : Int, J (q.g Try.prog 32 0 37) c32 (atI c32 116) (St.mk' [(0, sv a1), (14, iv (a1.size : Int)), (15, iv s15)] []) (impl_PathFault_l1 a1 s15) (Fl.go (fun r : Int => some (iv r, [])) kn) := by
  refine J_lp (fun g ih s15 => ?_)
  unfold impl_PathFault_l1b
  refine J_g 232 [] [(0, sv a1), (14, iv (a1.size : Int)), (15, iv s15), (16, bv (decide (s15 < (a1.size : Int))))] [] orcN ?_
  refine J_if2 16 (fun h16 => ?_) (fun h16 => ?_)
  · refine J_g 3736 [] [(0, sv a1), (3, iv s15), (14, iv (a1.size : Int)), (15, iv s15)] [] orcN ?_
    refine J_bind (fun x17 h18 => ?_)
    refine J_g 7474 [] [(0, sv a1), (4, uv x17), (14, iv (a1.size : Int)), (15, iv s15)] [] (orcC 2 (x_bi (kk := .i64) 9 (.tmp 18) (.tmp 19) h18) orcN) ?_
    refine J_bind (fun x19 h20 => ?_)
    refine J_join (atI c32 14951) (fun v24 : Bool => St.mk' [(0, sv a1), (14, iv (a1.size : Int)), (15, iv s15), (35, bv v24)] []) (fun v24 => ?_) (fun jv24 => ?_)
    · refine J_if2 35 (fun h25 => ?_) (fun h25 => ?_)
      · refine J_g 59804 [] [(2, iv 5)] [] orcN ?_
        exact J_r1 rfl
      · refine J_g 935 [] [(0, sv a1), (14, iv (a1.size : Int)), (15, iv (w64 (s15 + 1)))] [] orcN ?_
        exact J_q (J_b (ih (w64 (s15 + 1)))) rfl
    · refine J_ite (fun h21 => ?_) (fun h21 => ?_)
      · refine J_ite (fun h22 => ?_) (fun h22 => ?_)
        · refine J_ite (fun h23 => ?_) (fun h23 => ?_)
          · refine J_g 14950 [] [(0, sv a1), (14, iv (a1.size : Int)), (15, iv s15), (35, bv (x17 != 47))] [] (orcC 1 (x_c0 [(.tmp 21)] [5] (impl_isNameByte.ok x17) h20) (orcL 3 [(23, bv (!x19))] [] h21 (orcL 7 [(27, bv (x17 != 46))] [] h22 (orcL 11 [(31, bv (x17 != 45))] [] h23 orcN)))) ?_
            exact J_qw (J_j (jv24 (x17 != 47))) rfl
          · refine J_g 14950 [] [(0, sv a1), (14, iv (a1.size : Int)), (15, iv s15), (35, bv false)] [] (orcC 1 (x_c0 [(.tmp 21)] [5] (impl_isNameByte.ok x17) h20) (orcL 3 [(23, bv (!x19))] [] h21 (orcL 7 [(27, bv (x17 != 46))] [] h22 (orcL 11 [(31, bv (x17 != 45))] [] h23 orcN)))) ?_
            exact J_qw (J_j (jv24 false)) rfl
        · refine J_g 14950 [] [(0, sv a1), (14, iv (a1.size : Int)), (15, iv s15), (35, bv false)] [] (orcC 1 (x_c0 [(.tmp 21)] [5] (impl_isNameByte.ok x17) h20) (orcL 3 [(23, bv (!x19))] [] h21 (orcL 7 [(27, bv (x17 != 46))] [] h22 orcN))) ?_
          exact J_qw (J_j (jv24 false)) rfl
      · refine J_g 14950 [] [(0, sv a1), (14, iv (a1.size : Int)), (15, iv s15), (35, bv false)] [] (orcC 1 (x_c0 [(.tmp 21)] [5] (impl_isNameByte.ok x17) h20) (orcL 3 [(23, bv (!x19))] [] h21 orcN)) ?_
        exact J_qw (J_j (jv24 false)) rfl
  · exact J_qw (hk ()) rfl

theorem impl_PathFault.ok (a1 : ByteArray) : Ok Try.prog 32 [sv a1] [] ((impl_PathFault a1).map fun r => (iv r, [])) := by
  refine Ok_of3 c32 Try.f32 0 37 (fun q => ?_)
  unfold impl_PathFault
  refine J_g 2 [] [(0, sv a1)] [] orcN ?_
  refine J_join (atI c32 13) (fun v3 : Bool => St.mk' [(0, sv a1), (12, bv v3)] []) (fun v3 => ?_) (fun jv3 => ?_)
  · refine J_if2 12 (fun h4 => ?_) (fun h4 => ?_)
    · refine J_g 52 [] [(2, iv 5)] [] orcN ?_
      exact J_r1 rfl
    · refine J_g 28 [] [(0, sv a1), (14, iv (a1.size : Int)), (15, iv 0)] [] orcN ?_
      refine J_lqF (K0 := (fun r : Int => some (iv r, []))) (fun _ => rfl) (impl_PathFault_l1.ok a1 q _ (fun v26 => J_j ?_) 0)
      refine J_g 30 [] [(2, iv 0)] [] orcN ?_
      exact J_r1 rfl
  · refine J_ite (fun h2 => ?_) (fun h2 => ?_)
    · refine J_g 12 [] [(0, sv a1), (12, bv true)] [] (orcL 3 [(7, bv (decide ((a1.size : Int) < 1)))] [] h2 orcN) ?_
      exact J_qw (J_j (jv3 true)) rfl
    · refine J_g 12 [] [(0, sv a1), (12, bv (decide ((a1.size : Int) > 40)))] [] (orcL 3 [(7, bv (decide ((a1.size : Int) < 1)))] [] h2 orcN) ?_
      exact J_qw (J_j (jv3 (decide ((a1.size : Int) > 40)))) rfl

noncomputable def c21 : Code := (Try.f21.body).getD .skip

theorem impl_Disk_total_l1.ok (a1 : Disk) (q : Wd) (kn : Int → Option (D × List Ent)) (hk : ∀ v : Int, J (q.g Try.prog 21 0 20) c21 (atI c21 15) (St.mk' [(3, iv v)] []) (some v) kn) :
    ∀ s5 : (Int × Int), J (q.g Try.prog 21 0 20) c21 (atI c21 116) (St.mk' [(3, iv s5.1), (7, sl 2 (File.enc false) a1.Files), (8, iv (a1.Files.length : Int)), (9, iv s5.2)] []) (impl_Disk_total_l1 a1 s5) kn := by
  refine J_lp (fun g ih s5 => ?_)
  unfold impl_Disk_total_l1b
  refine J_g 232 [] [(3, iv s5.1), (7, sl 2 (File.enc false) a1.Files), (8, iv (a1.Files.length : Int)), (9, iv s5.2), (10, bv (decide (s5.2 < (a1.Files.length : Int))))] [] orcN ?_
  refine J_if2 10 (fun h6 => ?_) (fun h6 => ?_)
  · refine J_bind (fun x7 h8 => ?_)
    refine J_g 3736 [(2, 0)] [(3, iv s5.1), (5, pp 0), (7, sl 2 (File.enc false) a1.Files), (8, iv (a1.Files.length : Int)), (9, iv s5.2)] [(0, .box (File.enc false x7))] (orcC 0 (x_ix (kk := .i64) 29 51 2 (File.enc false) (.tmp 7) (.tmp 9) h8) orcN) ?_
    refine J_g 3737 [] [(3, iv (w64 (s5.1 + (x7.Data.length : Int)))), (7, sl 2 (File.enc false) a1.Files), (8, iv (a1.Files.length : Int)), (9, iv s5.2)] [] orcN ?_
    refine J_g 935 [] [(3, iv (w64 (s5.1 + (x7.Data.length : Int)))), (7, sl 2 (File.enc false) a1.Files), (8, iv (a1.Files.length : Int)), (9, iv (w64 (s5.2 + 1)))] [] orcN ?_
    exact J_q (J_b (ih (w64 (s5.1 + (x7.Data.length : Int)), w64 (s5.2 + 1)))) rfl
  · exact J_qw (hk s5.1) rfl

theorem impl_Disk_total.ok (a1 : Disk) : Ok Try.prog 21 [.ag (Disk.enc false a1)] [] ((impl_Disk_total a1).map fun r => (iv r, [])) := by
  refine Ok_of3 c21 Try.f21 0 20 (fun q => ?_)
  unfold impl_Disk_total
  refine J_g 2 [(0, 0)] [(1, pp 0)] [(0, .box (Disk.enc false a1))] orcN ?_
  refine J_g 6 [] [(1, pp 0), (3, iv 0)] [(0, .box (Disk.enc false a1))] orcN ?_
  refine J_g 28 [] [(3, iv 0), (7, sl 2 (File.enc false) a1.Files), (8, iv (a1.Files.length : Int)), (9, iv 0)] [] orcN ?_
  refine J_lq (impl_Disk_total_l1.ok a1 q _ (fun v9 => J_j ?_) (0, 0))
  refine J_g 30 [] [(2, iv v9)] [] orcN ?_
  exact J_r1 rfl

noncomputable def c20 : Code := (Try.f20.body).getD .skip

theorem impl_DiskFault_l1.ok (a1 : Disk) (q : Wd) (kn : Unit → Option (D × List Ent)) (hk : ∀ v : Unit, J (q.g Try.prog 20 0 68) c20 (atI c20 15) (St.mk' [(1, pp 0)] [(0, .box (Disk.enc false a1))]) (some v) kn) :
    ∀ s25 : Int, J (q.g Try.prog 20 0 68) c20 (atI c20 116) (St.mk' [(1, pp 0), (29, sl 2 (File.enc false) a1.Files), (30, iv (a1.Files.length : Int)), (31, iv s25)] [(0, .box (Disk.enc false a1))]) (impl_DiskFault_l1 a1 s25) (Fl.go (fun r : Int => some (iv r, [])) kn) := by
  refine J_lp (fun g ih s25 => ?_)
  unfold impl_DiskFault_l1b
  refine J_g 232 [] [(1, pp 0), (29, sl 2 (File.enc false) a1.Files), (30, iv (a1.Files.length : Int)), (31, iv s25), (32, bv (decide (s25 < (a1.Files.length : Int))))] [(0, .box (Disk.enc false a1))] orcN ?_
  refine J_if2 32 (fun h26 => ?_) (fun h26 => ?_)
  · refine J_bind (fun x27 h28 => ?_)
    refine J_g 3736 [(3, 1)] [(1, pp 0), (3, iv s25), (4, pp 1), (29, sl 2 (File.enc false) a1.Files), (30, iv (a1.Files.length : Int)), (31, iv s25)] [(0, .box (Disk.enc false a1)), (1, .box (File.enc false x27))] (orcC 1 (x_ix (kk := .i64) 29 51 2 (File.enc false) (.tmp 29) (.tmp 31) h28) orcN) ?_
    refine J_bind (fun x29 h30 => ?_)
    refine J_g 14948 [] [(1, pp 0), (3, iv s25), (4, pp 1), (5, iv x29), (29, sl 2 (File.enc false) a1.Files), (30, iv (a1.Files.length : Int)), (31, iv s25)] [(0, .box (Disk.enc false a1)), (1, .box (File.enc false x27))] (orcC 2 (x_c0 [(.tmp 37)] [9] (impl_PathFault.ok x27.Path) h30) orcN) ?_
    refine J_g 29898 [] [(1, pp 0), (3, iv s25), (4, pp 1), (5, iv x29), (29, sl 2 (File.enc false) a1.Files), (30, iv (a1.Files.length : Int)), (31, iv s25), (40, bv (x29 != 0))] [(0, .box (Disk.enc false a1)), (1, .box (File.enc false x27))] orcN ?_
    refine J_if2 40 (fun h31 => ?_) (fun h31 => ?_)
    · refine J_g 119596 [] [(2, iv x29)] [] orcN ?_
      exact J_r1 rfl
    · refine J_join (atI c20 29901) (fun v35 : Bool => St.mk' [(1, pp 0), (4, pp 1), (29, sl 2 (File.enc false) a1.Files), (30, iv (a1.Files.length : Int)), (31, iv s25), (42, bv v35)] [(0, .box (Disk.enc false a1)), (1, .box (File.enc false x27))]) (fun v35 => ?_) (fun jv35 => ?_)
      · refine J_if2 42 (fun h36 => ?_) (fun h36 => ?_)
        · refine J_g 119604 [] [(2, iv 1)] [] orcN ?_
          exact J_r1 rfl
        · refine J_g 119606 [] [(1, pp 0), (29, sl 2 (File.enc false) a1.Files), (30, iv (a1.Files.length : Int)), (31, iv s25), (57, bv (decide ((x27.Data.length : Int) > 4000)))] [(0, .box (Disk.enc false a1))] orcN ?_
          refine J_if2 57 (fun h37 => ?_) (fun h37 => ?_)
          · refine J_g 478428 [] [(2, iv 2)] [] orcN ?_
            exact J_r1 rfl
          · refine J_g 935 [] [(1, pp 0), (29, sl 2 (File.enc false) a1.Files), (30, iv (a1.Files.length : Int)), (31, iv (w64 (s25 + 1)))] [(0, .box (Disk.enc false a1))] orcN ?_
            exact J_q (J_b (ih (w64 (s25 + 1)))) rfl
      · refine J_ite (fun h32 => ?_) (fun h32 => ?_)
        · refine J_bind (fun x33 h34 => ?_)
          refine J_g 29900 [] [(1, pp 0), (4, pp 1), (29, sl 2 (File.enc false) a1.Files), (30, iv (a1.Files.length : Int)), (31, iv s25), (42, bv (slt x27.Path x33.Path || seq x27.Path x33.Path))] [(0, .box (Disk.enc false a1)), (1, .box (File.enc false x27))] (orcL 2 [(44, bv (decide (s25 > 0)))] [] h32 (orcH 9 2 45 true (x_ix (kk := .i64) 29 51 2 (File.enc false) (.tmp 49) (.tmp 51) h34) orcN)) ?_
          exact J_qw (J_j (jv35 (slt x27.Path x33.Path || seq x27.Path x33.Path))) rfl
        · refine J_g 29900 [] [(1, pp 0), (4, pp 1), (29, sl 2 (File.enc false) a1.Files), (30, iv (a1.Files.length : Int)), (31, iv s25), (42, bv false)] [(0, .box (Disk.enc false a1)), (1, .box (File.enc false x27))] (orcL 2 [(44, bv (decide (s25 > 0)))] [] h32 orcN) ?_
          exact J_qw (J_j (jv35 false)) rfl
  · exact J_qw (hk ()) rfl

theorem impl_DiskFault.ok (a1 : Disk) : Ok Try.prog 20 [.ag (Disk.enc false a1)] [] ((impl_DiskFault a1).map fun r => (iv r, [])) := by
  refine Ok_of3 c20 Try.f20 0 68 (fun q => ?_)
  unfold impl_DiskFault
  refine J_g 2 [(0, 0)] [(1, pp 0)] [(0, .box (Disk.enc false a1))] orcN ?_
  refine J_bind (fun x2 h3 => ?_)
  refine J_join (atI c20 25) (fun v10 : Bool => St.mk' [(1, pp 0), (6, bv v10)] [(0, .box (Disk.enc false a1))]) (fun v10 => ?_) (fun jv10 => ?_)
  · refine J_if2 6 (fun h11 => ?_) (fun h11 => ?_)
    · refine J_g 100 [] [(2, iv 3)] [] orcN ?_
      exact J_r1 rfl
    · refine J_g 102 [] [(1, pp 0), (23, bv (decide ((a1.Files.length : Int) > 120)))] [(0, .box (Disk.enc false a1))] orcN ?_
      refine J_if2 23 (fun h12 => ?_) (fun h12 => ?_)
      · refine J_g 412 [] [(2, iv 2)] [] orcN ?_
        exact J_r1 rfl
      · refine J_g 28 [] [(1, pp 0), (29, sl 2 (File.enc false) a1.Files), (30, iv (a1.Files.length : Int)), (31, iv 0)] [(0, .box (Disk.enc false a1))] orcN ?_
        refine J_lqF (K0 := (fun r : Int => some (iv r, []))) (fun _ => rfl) (impl_DiskFault_l1.ok a1 q _ (fun v38 => J_j ?_) 0)
        refine J_bind (fun x39 h40 => ?_)
        refine J_g 60 [] [(67, bv (decide (x39 > a1.Budget)))] [] (orcC 1 (x_c0 [(.tmp 63)] [31] (impl_Disk_total.ok a1) h40) orcN) ?_
        refine J_if2 67 (fun h41 => ?_) (fun h41 => ?_)
        · refine J_g 244 [] [(2, iv 8)] [] orcN ?_
          exact J_r1 rfl
        · refine J_g 62 [] [(2, iv 0)] [] orcN ?_
          exact J_r1 rfl
  · refine J_ite (fun h4 => ?_) (fun h4 => ?_)
    · refine J_g 24 [] [(1, pp 0), (6, bv true)] [(0, .box (Disk.enc false a1))] (orcC 2 (x_c0 [(.tmp 8), (.const (.int .i64 0)), (.const (.int .i64 20000))] [2, 2, 2] (impl_within.ok a1.Budget 0 20000) h3) (orcL 4 [(10, bv (!x2))] [] h4 orcN)) ?_
      exact J_qw (J_j (jv10 true)) rfl
    · refine J_bind (fun x5 h6 => ?_)
      refine J_ite (fun h7 => ?_) (fun h7 => ?_)
      · refine J_g 24 [] [(1, pp 0), (6, bv true)] [(0, .box (Disk.enc false a1))] (orcC 2 (x_c0 [(.tmp 8), (.const (.int .i64 0)), (.const (.int .i64 20000))] [2, 2, 2] (impl_within.ok a1.Budget 0 20000) h3) (orcL 4 [(10, bv (!x2))] [] h4 (orcH 7 4 11 false (x_c0 [(.tmp 13), (.const (.int .i64 0)), (.const (.int .i64 1000000000))] [2, 2, 2] (impl_within.ok a1.Writes 0 1000000000) h6) (orcL 10 [(16, bv (!x5))] [] h7 orcN)))) ?_
        exact J_qw (J_j (jv10 true)) rfl
      · refine J_bind (fun x8 h9 => ?_)
        refine J_g 24 [] [(1, pp 0), (6, bv (!x8))] [(0, .box (Disk.enc false a1))] (orcC 2 (x_c0 [(.tmp 8), (.const (.int .i64 0)), (.const (.int .i64 20000))] [2, 2, 2] (impl_within.ok a1.Budget 0 20000) h3) (orcL 4 [(10, bv (!x2))] [] h4 (orcH 7 4 11 false (x_c0 [(.tmp 13), (.const (.int .i64 0)), (.const (.int .i64 1000000000))] [2, 2, 2] (impl_within.ok a1.Writes 0 1000000000) h6) (orcL 10 [(16, bv (!x5))] [] h7 (orcH 13 10 17 false (x_c0 [(.tmp 19), (.const (.int .i64 (-1))), (.const (.int .i64 1000000000))] [2, 2, 2] (impl_within.ok a1.Stop (-1) 1000000000) h9) orcN))))) ?_
        exact J_qw (J_j (jv10 (!x8))) rfl

noncomputable def c62 : Code := (Try.f62.body).getD .skip

theorem internal_stringslite_HasPrefix.ok (a1 : ByteArray) (a2 : ByteArray) : Ok Try.prog 62 [sv a1, sv a2] [] ((internal_stringslite_HasPrefix a1 a2).map fun r => (bv r, [])) := by
  refine Ok_of3 c62 Try.f62 0 18 (fun q => ?_)
  unfold internal_stringslite_HasPrefix
  refine J_g 2 [] [(0, sv a1), (1, sv a2)] [] orcN ?_
  refine J_ite (fun h3 => ?_) (fun h3 => ?_)
  · refine J_bind (fun x4 h5 => ?_)
    refine J_g 6 [] [(4, bv (seq x4 a2))] [] (orcL 5 [(9, bv (decide ((a1.size : Int) ≥ (a2.size : Int))))] [] h3 (orcH 9 5 10 true (x_ss 9 (.tmp 11) none (some (.tmp 13)) h5) orcN)) ?_
    exact J_r1 rfl
  · refine J_g 6 [] [(4, bv false)] [] (orcL 5 [(9, bv (decide ((a1.size : Int) ≥ (a2.size : Int))))] [] h3 orcN) ?_
    exact J_r1 rfl

noncomputable def c59 : Code := (Try.f59.body).getD .skip

theorem strings_HasPrefix.ok (a1 : ByteArray) (a2 : ByteArray) : Ok Try.prog 59 [sv a1, sv a2] [] ((strings_HasPrefix a1 a2).map fun r => (bv r, [])) := by
  refine Ok_of3 c59 Try.f59 0 8 (fun q => ?_)
  unfold strings_HasPrefix
  refine J_g 2 [] [(0, sv a1), (1, sv a2)] [] orcN ?_
  refine J_bind (fun x3 h4 => ?_)
  refine J_g 6 [] [(4, bv x3)] [] (orcC 2 (x_c0 [(.tmp 5), (.tmp 6)] [9, 9] (internal_stringslite_HasPrefix.ok a1 a2) h4) orcN) ?_
  exact J_r1 rfl

noncomputable def c52 : Code := (Try.f52.body).getD .skip

theorem impl_Disk_paths_l1.ok (a1 : Disk) (a2 : ByteArray) (q : Wd) (kn : (List ByteArray) → Option (D × List Ent)) (hk : ∀ v : (List ByteArray), J (q.g Try.prog 52 0 27) c52 (atI c52 15) (St.mk' [(5, rr 1 v)] [(1, rE 1 eStr v)]) (some v) kn) :
    ∀ s12 : ((List ByteArray) × Int), J (q.g Try.prog 52 0 27) c52 (atI c52 116) (St.mk' [(1, sv a2), (5, rr 1 s12.1), (10, sl 2 (File.enc false) a1.Files), (11, iv (a1.Files.length : Int)), (12, iv s12.2)] [(1, rE 1 eStr s12.1)]) (impl_Disk_paths_l1 a1 a2 s12) kn := by
  refine J_lp (fun g ih s12 => ?_)
  unfold impl_Disk_paths_l1b
  refine J_g 232 [] [(1, sv a2), (5, rr 1 s12.1), (10, sl 2 (File.enc false) a1.Files), (11, iv (a1.Files.length : Int)), (12, iv s12.2), (13, bv (decide (s12.2 < (a1.Files.length : Int))))] [(1, rE 1 eStr s12.1)] orcN ?_
  refine J_if2 13 (fun h13 => ?_) (fun h13 => ?_)
  · refine J_bind (fun x14 h15 => ?_)
    refine J_g 3736 [(2, 2)] [(1, sv a2), (5, rr 1 s12.1), (7, pp 2), (10, sl 2 (File.enc false) a1.Files), (11, iv (a1.Files.length : Int)), (12, iv s12.2)] [(1, rE 1 eStr s12.1), (2, .box (File.enc false x14))] (orcC 0 (x_ix (kk := .i64) 29 51 2 (File.enc false) (.tmp 10) (.tmp 12) h15) orcN) ?_
    refine J_bind (fun x16 h17 => ?_)
    refine J_g 7474 [] [(1, sv a2), (5, rr 1 s12.1), (7, pp 2), (10, sl 2 (File.enc false) a1.Files), (11, iv (a1.Files.length : Int)), (12, iv s12.2), (19, bv x16)] [(1, rE 1 eStr s12.1), (2, .box (File.enc false x14))] (orcC 3 (x_c0 [(.tmp 17), (.tmp 18)] [9, 9] (strings_HasPrefix.ok x14.Path a2) h17) orcN) ?_
    refine J_join (aft c52 1868) (fun v21 : (List ByteArray) => St.mk' [(1, sv a2), (5, rr 4 v21), (10, sl 2 (File.enc false) a1.Files), (11, iv (a1.Files.length : Int)), (12, iv s12.2)] [(4, rE 1 eStr v21)]) (fun v21 => ?_) (fun jv21 => ?_)
    · refine J_g 935 [] [(1, sv a2), (5, rr 4 v21), (10, sl 2 (File.enc false) a1.Files), (11, iv (a1.Files.length : Int)), (12, iv (w64 (s12.2 + 1)))] [(4, rE 1 eStr v21)] orcN ?_
      refine J_ren 4 1 (Nat.le_of_ble_eq_true rfl) (Nat.le_of_ble_eq_true rfl) ?_
      exact J_q (J_b (ih (v21, w64 (s12.2 + 1)))) rfl
    · refine J_if2 19 (fun h18 => ?_) (fun h18 => ?_)
      · refine J_bind (fun x19 h20 => ?_)
        refine J_g 14950 [] [(1, sv a2), (5, rr 4 x19), (10, sl 2 (File.enc false) a1.Files), (11, iv (a1.Files.length : Int)), (12, iv s12.2)] [(4, rE 1 eStr x19)] (orcC 3 (x_bp 68 9 1 3 eStr [x14.Path] [0] [(.tmp 22)] [sv x14.Path]) (orcC 4 (x_ap 68 68 9 9 1 16 4 1 3 eStr (.tmp 20) (.tmp 23) h20) orcN)) ?_
        exact J_qw (J_j (jv21 x19)) rfl
      · refine J_ren 1 4 (Nat.le_of_ble_eq_true rfl) (Nat.le_of_ble_eq_true rfl) ?_
        exact J_qw (J_j (jv21 s12.1)) rfl
  · exact J_qw (hk s12.1) rfl

theorem impl_Disk_paths.ok (a1 : Disk) (a2 : ByteArray) : Ok Try.prog 52 [.ag (Disk.enc false a1), sv a2] [] ((impl_Disk_paths a1 a2).map fun r => (so 1 eStr r, [])) := by
  refine Ok_of3 c52 Try.f52 0 27 (fun q => ?_)
  unfold impl_Disk_paths
  refine J_g 2 [(0, 0)] [(1, sv a2), (2, pp 0)] [(0, .box (Disk.enc false a1))] orcN ?_
  refine J_g 6 [] [(1, sv a2), (2, pp 0), (5, rr 1 ([] : List ByteArray))] [(0, .box (Disk.enc false a1)), (1, rE 1 eStr ([] : List ByteArray))] (orcC 0 (x_bp 68 9 1 1 eStr ([] : List ByteArray) [] [] []) orcN) ?_
  refine J_g 28 [] [(1, sv a2), (5, rr 1 ([] : List ByteArray)), (10, sl 2 (File.enc false) a1.Files), (11, iv (a1.Files.length : Int)), (12, iv 0)] [(1, rE 1 eStr ([] : List ByteArray))] orcN ?_
  refine J_lq (impl_Disk_paths_l1.ok a1 a2 q _ (fun v22 => J_j ?_) (([] : List ByteArray), 0))
  refine J_g 30 [] [(4, rr 1 v22)] [(1, rE 1 eStr v22)] orcN ?_
  exact J_rm (ds := [rr 1 v22]) (ds' := [so 1 eStr v22]) (.cons (.cell (.move (.head _) (List.length_map _) (by decide) (.nil))) (.nil) (by decide)) rfl

noncomputable def c39 : Code := (Try.f39.body).getD .skip

theorem impl_number_l1.ok (a1 : ByteArray) (q : Wd) (kn : Int → Option (D × List Ent)) (hk : ∀ v : Int, J (q.g Try.prog 39 0 40) c39 (atI c39 31) (St.mk' [(5, iv v)] []) (some v) kn) :
    ∀ s16 : (Int × Int), J (q.g Try.prog 39 0 40) c39 (atI c39 244) (St.mk' [(0, sv a1), (5, iv s16.1), (16, iv (a1.size : Int)), (17, iv s16.2)] []) (impl_number_l1 a1 s16) (Fl.go (fun r : Int => some (iv r, [])) kn) := by
  refine J_lp (fun g ih s16 => ?_)
  unfold impl_number_l1b
  refine J_g 488 [] [(0, sv a1), (5, iv s16.1), (16, iv (a1.size : Int)), (17, iv s16.2), (18, bv (decide (s16.2 < (a1.size : Int))))] [] orcN ?_
  refine J_if2 18 (fun h17 => ?_) (fun h17 => ?_)
  · refine J_g 7832 [] [(0, sv a1), (5, iv s16.1), (6, iv s16.2), (16, iv (a1.size : Int)), (17, iv s16.2)] [] orcN ?_
    refine J_bind (fun x18 h19 => ?_)
    refine J_join (atI c39 31333) (fun v23 : Bool => St.mk' [(0, sv a1), (5, iv s16.1), (6, iv s16.2), (16, iv (a1.size : Int)), (17, iv s16.2), (29, bv v23)] []) (fun v23 => ?_) (fun jv23 => ?_)
    · refine J_if2 29 (fun h24 => ?_) (fun h24 => ?_)
      · refine J_g 125332 [] [(4, iv (-1))] [] orcN ?_
        exact J_r1 rfl
      · refine J_bind (fun x25 h26 => ?_)
        refine J_g 15667 [] [(0, sv a1), (5, iv (w64 ((w64 (10 * s16.1)) + (w64 (IntKind.u8.wrap (x25 - 48)))))), (16, iv (a1.size : Int)), (17, iv s16.2)] [] (orcC 4 (x_bi (kk := .i64) 9 (.tmp 32) (.tmp 33) h26) orcN) ?_
        refine J_g 1959 [] [(0, sv a1), (5, iv (w64 ((w64 (10 * s16.1)) + (w64 (IntKind.u8.wrap (x25 - 48)))))), (16, iv (a1.size : Int)), (17, iv (w64 (s16.2 + 1)))] [] orcN ?_
        exact J_q (J_b (ih (w64 ((w64 (10 * s16.1)) + (w64 (IntKind.u8.wrap (x25 - 48)))), w64 (s16.2 + 1)))) rfl
    · refine J_ite (fun h20 => ?_) (fun h20 => ?_)
      · refine J_g 31332 [] [(0, sv a1), (5, iv s16.1), (6, iv s16.2), (16, iv (a1.size : Int)), (17, iv s16.2), (29, bv true)] [] (orcC 2 (x_bi (kk := .i64) 9 (.tmp 20) (.tmp 21) h19) (orcL 4 [(23, bv (decide (x18 < 48)))] [] h20 orcN)) ?_
        exact J_qw (J_j (jv23 true)) rfl
      · refine J_bind (fun x21 h22 => ?_)
        refine J_g 31332 [] [(0, sv a1), (5, iv s16.1), (6, iv s16.2), (16, iv (a1.size : Int)), (17, iv s16.2), (29, bv (decide (x21 > 57)))] [] (orcC 2 (x_bi (kk := .i64) 9 (.tmp 20) (.tmp 21) h19) (orcL 4 [(23, bv (decide (x18 < 48)))] [] h20 (orcH 7 4 24 false (x_bi (kk := .i64) 9 (.tmp 25) (.tmp 26) h22) orcN))) ?_
        exact J_qw (J_j (jv23 (decide (x21 > 57)))) rfl
  · exact J_qw (hk s16.1) rfl

theorem impl_number.ok (a1 : ByteArray) (a2 : Int) : Ok Try.prog 39 [sv a1, iv a2] [] ((impl_number a1 a2).map fun r => (iv r, [])) := by
  refine Ok_of3 c39 Try.f39 0 40 (fun q => ?_)
  unfold impl_number
  refine J_g 2 [] [(0, sv a1), (1, iv a2)] [] orcN ?_
  refine J_join (atI c39 13) (fun v4 : Bool => St.mk' [(0, sv a1), (14, bv v4)] []) (fun v4 => ?_) (fun jv4 => ?_)
  · refine J_if2 14 (fun h5 => ?_) (fun h5 => ?_)
    · refine J_g 52 [] [(4, iv (-1))] [] orcN ?_
      exact J_r1 rfl
    · refine J_g 14 [] [(0, sv a1), (5, iv 0)] [] orcN ?_
      refine J_g 60 [] [(0, sv a1), (5, iv 0), (16, iv (a1.size : Int)), (17, iv 0)] [] orcN ?_
      refine J_lqF (K0 := (fun r : Int => some (iv r, []))) (fun _ => rfl) (impl_number_l1.ok a1 q _ (fun v27 => J_j ?_) (0, 0))
      refine J_g 62 [] [(4, iv v27)] [] orcN ?_
      exact J_r1 rfl
  · refine J_ite (fun h3 => ?_) (fun h3 => ?_)
    · refine J_g 12 [] [(0, sv a1), (14, bv true)] [] (orcL 2 [(8, bv (seq a1 (bs [])))] [] h3 orcN) ?_
      exact J_qw (J_j (jv4 true)) rfl
    · refine J_g 12 [] [(0, sv a1), (14, bv (decide ((a1.size : Int) > a2)))] [] (orcL 2 [(8, bv (seq a1 (bs [])))] [] h3 orcN) ?_
      exact J_qw (J_j (jv4 (decide ((a1.size : Int) > a2)))) rfl

noncomputable def c41 : Code := (Try.f41.body).getD .skip

theorem impl_Disk_gens_l1.ok (x2 : (List ByteArray)) (q : Wd) (kn : (List Int) → Option (D × List Ent)) (hk : ∀ v : (List Int), J (q.g Try.prog 41 0 31) c41 (atI c41 15) (St.mk' [(3, rr 1 v)] [(1, rE 1 eI64 v)]) (some v) kn) :
    ∀ s17 : ((List Int) × Int), J (q.g Try.prog 41 0 31) c41 (atI c41 116) (St.mk' [(3, rr 1 s17.1), (9, rr 2 x2), (10, iv (x2.length : Int)), (11, iv s17.2)] [(1, rE 1 eI64 s17.1), (2, rE 1 eStr x2)]) (impl_Disk_gens_l1 x2 s17) kn := by
  refine J_lp (fun g ih s17 => ?_)
  unfold impl_Disk_gens_l1b
  refine J_g 232 [] [(3, rr 1 s17.1), (9, rr 2 x2), (10, iv (x2.length : Int)), (11, iv s17.2), (12, bv (decide (s17.2 < (x2.length : Int))))] [(1, rE 1 eI64 s17.1), (2, rE 1 eStr x2)] orcN ?_
  refine J_if2 12 (fun h18 => ?_) (fun h18 => ?_)
  · refine J_bind (fun x19 h20 => ?_)
    refine J_g 3736 [] [(3, rr 1 s17.1), (5, sv x19), (9, rr 2 x2), (10, iv (x2.length : Int)), (11, iv s17.2)] [(1, rE 1 eI64 s17.1), (2, rE 1 eStr x2)] (orcC 0 (x_ixr (kk := .i64) 68 9 1 2 eStr (.tmp 9) (.tmp 11) h20) (orcC 1 (x_ldr (d := sv x19) 9 1 2 0 eStr (.tmp 13) h20 (by kernel_rfl)) orcN)) ?_
    refine J_bind (fun x21 h22 => ?_)
    refine J_bind (fun x23 h24 => ?_)
    refine J_g 7474 [] [(3, rr 1 s17.1), (5, sv x19), (6, iv x23), (9, rr 2 x2), (10, iv (x2.length : Int)), (11, iv s17.2)] [(1, rE 1 eI64 s17.1), (2, rE 1 eStr x2)] (orcC 1 (x_ss 9 (.tmp 15) (some (.const (.int .i64 4))) none h22) (orcC 2 (x_c0 [(.tmp 16), (.const (.int .i64 6))] [9, 3] (impl_number.ok x21 6) h24) orcN)) ?_
    refine J_join (atI c41 14951) (fun v26 : Bool => St.mk' [(3, rr 1 s17.1), (6, iv x23), (9, rr 2 x2), (10, iv (x2.length : Int)), (11, iv s17.2), (24, bv v26)] [(1, rE 1 eI64 s17.1), (2, rE 1 eStr x2)]) (fun v26 => ?_) (fun jv26 => ?_)
    · refine J_join (aft c41 1868) (fun v30 : (List Int) => St.mk' [(3, rr 4 v30), (9, rr 2 x2), (10, iv (x2.length : Int)), (11, iv s17.2)] [(2, rE 1 eStr x2), (4, rE 1 eI64 v30)]) (fun v30 => ?_) (fun jv30 => ?_)
      · refine J_g 935 [] [(3, rr 4 v30), (9, rr 2 x2), (10, iv (x2.length : Int)), (11, iv (w64 (s17.2 + 1)))] [(2, rE 1 eStr x2), (4, rE 1 eI64 v30)] orcN ?_
        refine J_ren 4 1 (Nat.le_of_ble_eq_true rfl) (Nat.le_of_ble_eq_true rfl) ?_
        exact J_q (J_b (ih (v30, w64 (s17.2 + 1)))) rfl
      · refine J_if2 24 (fun h27 => ?_) (fun h27 => ?_)
        · refine J_bind (fun x28 h29 => ?_)
          refine J_g 29902 [] [(3, rr 4 x28), (9, rr 2 x2), (10, iv (x2.length : Int)), (11, iv s17.2)] [(2, rE 1 eStr x2), (4, rE 1 eI64 x28)] (orcC 2 (x_bp 58 2 1 3 eI64 [x23] [0] [(.tmp 26)] [iv x23]) (orcC 3 (x_ap 58 58 2 2 1 8 4 1 3 eI64 (.tmp 25) (.tmp 27) h29) orcN)) ?_
          exact J_qw (J_j (jv30 x28)) rfl
        · refine J_ren 1 4 (Nat.le_of_ble_eq_true rfl) (Nat.le_of_ble_eq_true rfl) ?_
          exact J_qw (J_j (jv30 s17.1)) rfl
    · refine J_ite (fun h25 => ?_) (fun h25 => ?_)
      · refine J_g 14950 [] [(3, rr 1 s17.1), (6, iv x23), (9, rr 2 x2), (10, iv (x2.length : Int)), (11, iv s17.2), (24, bv ((x19.size : Int) == 10))] [(1, rE 1 eI64 s17.1), (2, rE 1 eStr x2)] (orcL 2 [(19, bv (decide (x23 ≥ 1)))] [] h25 orcN) ?_
        exact J_qw (J_j (jv26 ((x19.size : Int) == 10))) rfl
      · refine J_g 14950 [] [(3, rr 1 s17.1), (6, iv x23), (9, rr 2 x2), (10, iv (x2.length : Int)), (11, iv s17.2), (24, bv false)] [(1, rE 1 eI64 s17.1), (2, rE 1 eStr x2)] (orcL 2 [(19, bv (decide (x23 ≥ 1)))] [] h25 orcN) ?_
        exact J_qw (J_j (jv26 false)) rfl
  · exact J_qw (hk s17.1) rfl

theorem impl_Disk_gens.ok (a1 : Disk) : Ok Try.prog 41 [.ag (Disk.enc false a1)] [] ((impl_Disk_gens a1).map fun r => (so 1 eI64 r, [])) := by
  refine Ok_of3 c41 Try.f41 0 31 (fun q => ?_)
  unfold impl_Disk_gens
  refine J_g 2 [(0, 0)] [(1, pp 0)] [(0, .box (Disk.enc false a1))] orcN ?_
  refine J_g 6 [] [(1, pp 0), (3, rr 1 ([] : List Int))] [(0, .box (Disk.enc false a1)), (1, rE 1 eI64 ([] : List Int))] (orcC 0 (x_bp 58 2 1 1 eI64 ([] : List Int) [] [] []) orcN) ?_
  refine J_bind (fun x2 h3 => ?_)
  refine J_g 28 [] [(3, rr 1 ([] : List Int)), (9, rr 2 x2), (10, iv (x2.length : Int)), (11, iv 0)] [(1, rE 1 eI64 ([] : List Int)), (2, rE 1 eStr x2)] (orcC 1 (x_c1 («as» := [.ag (Disk.enc false a1), sv (bs [103, 101, 110, 47])]) [(.tmp 8), (.const (.string (bs [103, 101, 110, 47])))] [31, 9] false [] [] (.cons (.same rfl) (.cons (.same rfl) (.nil))) (impl_Disk_paths.ok a1 (bs [103, 101, 110, 47])) h3 (.own 2)) orcN) ?_
  refine J_lq (impl_Disk_gens_l1.ok x2 q _ (fun v31 => J_j ?_) (([] : List Int), 0))
  refine J_g 30 [] [(2, rr 1 v31)] [(1, rE 1 eI64 v31)] orcN ?_
  exact J_rm (ds := [rr 1 v31]) (ds' := [so 1 eI64 v31]) (.cons (.cell (.move (.head _) (List.length_map _) (by decide) (.nil))) (.nil) (by decide)) rfl

noncomputable def c26 : Code := (Try.f26.body).getD .skip

theorem impl_Disk_next_l1.ok (x2 : (List Int)) (q : Wd) (kn : Int → Option (D × List Ent)) (hk : ∀ v : Int, J (q.g Try.prog 26 0 19) c26 (atI c26 15) (St.mk' [(3, iv v)] []) (some v) kn) :
    ∀ s7 : (Int × Int), J (q.g Try.prog 26 0 19) c26 (atI c26 116) (St.mk' [(3, iv s7.1), (7, rr 1 x2), (8, iv (x2.length : Int)), (9, iv s7.2)] [(1, rE 1 eI64 x2)]) (impl_Disk_next_l1 x2 s7) kn := by
  refine J_lp (fun g ih s7 => ?_)
  unfold impl_Disk_next_l1b
  refine J_g 232 [] [(3, iv s7.1), (7, rr 1 x2), (8, iv (x2.length : Int)), (9, iv s7.2), (10, bv (decide (s7.2 < (x2.length : Int))))] [(1, rE 1 eI64 x2)] orcN ?_
  refine J_if2 10 (fun h8 => ?_) (fun h8 => ?_)
  · refine J_bind (fun x9 h10 => ?_)
    refine J_g 3736 [] [(3, iv s7.1), (5, iv x9), (7, rr 1 x2), (8, iv (x2.length : Int)), (9, iv s7.2)] [(1, rE 1 eI64 x2)] (orcC 0 (x_ixr (kk := .i64) 58 2 1 1 eI64 (.tmp 7) (.tmp 9) h10) (orcC 1 (x_ldr (d := iv x9) 2 1 1 0 eI64 (.tmp 11) h10 (by kernel_rfl)) orcN)) ?_
    refine J_g 3737 [] [(3, iv (if (w64 (x9 + 1)) > s7.1 then (w64 (x9 + 1)) else s7.1)), (7, rr 1 x2), (8, iv (x2.length : Int)), (9, iv s7.2)] [(1, rE 1 eI64 x2)] orcN ?_
    refine J_g 935 [] [(3, iv (if (w64 (x9 + 1)) > s7.1 then (w64 (x9 + 1)) else s7.1)), (7, rr 1 x2), (8, iv (x2.length : Int)), (9, iv (w64 (s7.2 + 1)))] [(1, rE 1 eI64 x2)] orcN ?_
    exact J_q (J_b (ih ((if (w64 (x9 + 1)) > s7.1 then (w64 (x9 + 1)) else s7.1), w64 (s7.2 + 1)))) rfl
  · exact J_qw (hk s7.1) rfl

theorem impl_Disk_next.ok (a1 : Disk) : Ok Try.prog 26 [.ag (Disk.enc false a1)] [] ((impl_Disk_next a1).map fun r => (iv r, [])) := by
  refine Ok_of3 c26 Try.f26 0 19 (fun q => ?_)
  unfold impl_Disk_next
  refine J_g 2 [(0, 0)] [(1, pp 0)] [(0, .box (Disk.enc false a1))] orcN ?_
  refine J_g 6 [] [(1, pp 0), (3, iv 1)] [(0, .box (Disk.enc false a1))] orcN ?_
  refine J_bind (fun x2 h3 => ?_)
  refine J_g 28 [] [(3, iv 1), (7, rr 1 x2), (8, iv (x2.length : Int)), (9, iv 0)] [(1, rE 1 eI64 x2)] (orcC 1 (x_c1 («as» := [.ag (Disk.enc false a1)]) [(.tmp 6)] [31] false [] [] (.cons (.same rfl) (.nil)) (impl_Disk_gens.ok a1) h3 (.own 1)) orcN) ?_
  refine J_lq (impl_Disk_next_l1.ok x2 q _ (fun v11 => J_j ?_) (1, 0))
  refine J_g 30 [] [(2, iv v11)] [] orcN ?_
  exact J_r1 rfl

noncomputable def c15 : Code := (Try.f15.body).getD .skip

theorem impl_NextGen.ok (a1 : Disk) : Ok Try.prog 15 [.ag (Disk.enc false a1)] [] ((impl_NextGen a1).map fun r => (.ag (IntResult.enc r), [])) := by
  refine Ok_of3 c15 Try.f15 0 20 (fun q => ?_)
  unfold impl_NextGen
  refine J_g 2 [(0, 0), (1, 1)] [(1, pp 0), (2, pp 1)] [(0, .box (Disk.enc false a1)), (1, .box [iv 0, iv 0])] orcN ?_
  refine J_bind (fun x2 h3 => ?_)
  refine J_g 6 [] [(1, pp 0), (2, pp 1), (3, iv x2)] [(0, .box (Disk.enc false a1)), (1, .box [iv 0, iv 0])] (orcC 1 (x_c0 [(.tmp 4)] [31] (impl_DiskFault.ok a1) h3) orcN) ?_
  refine J_join (atI c15 29) (fun v7 : Bool => St.mk' [(1, pp 0), (2, pp 1), (3, iv x2), (12, bv v7)] [(0, .box (Disk.enc false a1)), (1, .box [iv 0, iv 0])]) (fun v7 => ?_) (fun jv7 => ?_)
  · refine J_join (atI c15 15) (fun v9 : Int => St.mk' [(1, pp 0), (2, pp 1), (3, iv v9)] [(0, .box (Disk.enc false a1)), (1, .box [iv 0, iv 0])]) (fun v9 => ?_) (fun jv9 => ?_)
    · refine J_g 60 [] [(1, pp 0), (2, pp 1), (3, iv v9), (14, bv (v9 != 0))] [(0, .box (Disk.enc false a1)), (1, .box [iv 0, iv 0])] orcN ?_
      refine J_if2 14 (fun h10 => ?_) (fun h10 => ?_)
      · refine J_g 244 [] [(2, pp 1)] [(1, .box [iv v9, iv 0])] orcN ?_
        exact J_r1 rfl
      · refine J_bind (fun x11 h12 => ?_)
        refine J_g 62 [] [(2, pp 1)] [(1, .box [iv 0, iv x11])] (orcC 1 (x_c0 [(.tmp 17)] [31] (impl_Disk_next.ok a1) h12) orcN) ?_
        exact J_r1 rfl
    · refine J_if2 12 (fun h8 => ?_) (fun h8 => ?_)
      · refine J_g 58 [] [(1, pp 0), (2, pp 1), (3, iv 2)] [(0, .box (Disk.enc false a1)), (1, .box [iv 0, iv 0])] orcN ?_
        exact J_qw (J_j (jv9 2)) rfl
      · exact J_qw (J_j (jv9 x2)) rfl
  · refine J_ite (fun h4 => ?_) (fun h4 => ?_)
    · refine J_bind (fun x5 h6 => ?_)
      refine J_g 28 [] [(1, pp 0), (2, pp 1), (3, iv x2), (12, bv (decide (x5 > 999999)))] [(0, .box (Disk.enc false a1)), (1, .box [iv 0, iv 0])] (orcL 2 [(7, bv (x2 == 0))] [] h4 (orcH 4 2 8 true (x_c0 [(.tmp 9)] [31] (impl_Disk_next.ok a1) h6) orcN)) ?_
      exact J_qw (J_j (jv7 (decide (x5 > 999999)))) rfl
    · refine J_g 28 [] [(1, pp 0), (2, pp 1), (3, iv x2), (12, bv false)] [(0, .box (Disk.enc false a1)), (1, .box [iv 0, iv 0])] (orcL 2 [(7, bv (x2 == 0))] [] h4 orcN) ?_
      exact J_qw (J_j (jv7 false)) rfl

noncomputable def c10 : Code := (Try.f10.body).getD .skip

theorem laws_eqIntResult.ok (a1 : IntResult) (a2 : IntResult) : Ok Try.prog 10 [.ag (IntResult.enc a1), .ag (IntResult.enc a2)] [] ((laws_eqIntResult a1 a2).map fun r => (bv r, [])) := by
  refine Ok_of3 c10 Try.f10 0 15 (fun q => ?_)
  unfold laws_eqIntResult
  refine J_g 2 [(0, 0), (1, 1)] [(2, pp 0), (3, pp 1)] [(0, .box (IntResult.enc a1)), (1, .box (IntResult.enc a2))] orcN ?_
  refine J_g 12 [] [(2, pp 0), (3, pp 1), (9, bv (a1.Code != a2.Code))] [(0, .box (IntResult.enc a1)), (1, .box (IntResult.enc a2))] orcN ?_
  refine J_if2 9 (fun h3 => ?_) (fun h3 => ?_)
  · refine J_g 52 [] [(4, bv false)] [] orcN ?_
    exact J_r1 rfl
  · refine J_g 28 [] [(14, bv (a1.Value != a2.Value))] [] orcN ?_
    refine J_if2 14 (fun h4 => ?_) (fun h4 => ?_)
    · refine J_g 116 [] [(4, bv false)] [] orcN ?_
      exact J_r1 rfl
    · refine J_g 30 [] [(4, bv true)] [] orcN ?_
      exact J_r1 rfl

noncomputable def c46 : Code := (Try.f46.body).getD .skip

theorem laws_eqByteS_l1.ok (a1 : (List Int)) (a2 : (List Int)) (q : Wd) (kn : Unit → Option (D × List Ent)) (hk : ∀ v : Unit, J (q.g Try.prog 46 0 26) c46 (atI c46 15) (St.mk' [] []) (some v) kn) :
    ∀ s10 : Int, J (q.g Try.prog 46 0 26) c46 (atI c46 116) (St.mk' [(0, sl 1 eU8 a1), (1, sl 1 eU8 a2), (5, iv s10)] []) (laws_eqByteS_l1 a1 a2 s10) (Fl.go (fun r : Bool => some (bv r, [])) kn) := by
  refine J_lp (fun g ih s10 => ?_)
  unfold laws_eqByteS_l1b
  refine J_g 464 [] [(0, sl 1 eU8 a1), (1, sl 1 eU8 a2), (5, iv s10), (14, bv (decide (s10 < (a1.length : Int))))] [] orcN ?_
  refine J_if2 14 (fun h11 => ?_) (fun h11 => ?_)
  · refine J_bind (fun x12 h13 => ?_)
    refine J_bind (fun x14 h15 => ?_)
    refine J_g 1864 [] [(0, sl 1 eU8 a1), (1, sl 1 eU8 a2), (5, iv s10), (25, bv (x12 != x14))] [] (orcC 2 (x_ix (kk := .i64) 46 5 1 eU8 (.tmp 17) (.tmp 18) h13) (orcC 6 (x_ix (kk := .i64) 46 5 1 eU8 (.tmp 21) (.tmp 22) h15) orcN)) ?_
    refine J_if2 25 (fun h16 => ?_) (fun h16 => ?_)
    · refine J_g 7460 [] [(4, bv false)] [] orcN ?_
      exact J_r1 rfl
    · refine J_g 467 [] [(0, sl 1 eU8 a1), (1, sl 1 eU8 a2), (5, iv (w64 (s10 + 1)))] [] orcN ?_
      exact J_q (J_b (ih (w64 (s10 + 1)))) rfl
  · exact J_qw (hk ()) rfl

theorem laws_eqByteS.ok (a1 : (List Int)) (a2 : (List Int)) : Ok Try.prog 46 [sl 1 eU8 a1, sl 1 eU8 a2] [] ((laws_eqByteS a1 a2).map fun r => (bv r, [])) := by
  refine Ok_of3 c46 Try.f46 0 26 (fun q => ?_)
  unfold laws_eqByteS
  refine J_g 2 [] [(0, sl 1 eU8 a1), (1, sl 1 eU8 a2)] [] orcN ?_
  refine J_g 12 [] [(0, sl 1 eU8 a1), (1, sl 1 eU8 a2), (10, bv ((a1.length : Int) != (a2.length : Int)))] [] orcN ?_
  refine J_if2 10 (fun h3 => ?_) (fun h3 => ?_)
  · refine J_g 52 [] [(4, bv false)] [] orcN ?_
    exact J_r1 rfl
  · refine J_g 28 [] [(0, sl 1 eU8 a1), (1, sl 1 eU8 a2), (5, iv 0)] [] orcN ?_
    refine J_lqF (K0 := (fun r : Bool => some (bv r, []))) (fun _ => rfl) (laws_eqByteS_l1.ok a1 a2 q _ (fun v17 => J_j ?_) 0)
    refine J_g 30 [] [(4, bv true)] [] orcN ?_
    exact J_r1 rfl

noncomputable def c33 : Code := (Try.f33.body).getD .skip

theorem laws_eqFile.ok (a1 : File) (a2 : File) : Ok Try.prog 33 [.ag (File.enc false a1), .ag (File.enc false a2)] [] ((laws_eqFile a1 a2).map fun r => (bv r, [])) := by
  refine Ok_of3 c33 Try.f33 0 16 (fun q => ?_)
  unfold laws_eqFile
  refine J_g 2 [(0, 0), (1, 1)] [(2, pp 0), (3, pp 1)] [(0, .box (File.enc false a1)), (1, .box (File.enc false a2))] orcN ?_
  refine J_g 12 [] [(2, pp 0), (3, pp 1), (9, bv (!(seq a1.Path a2.Path)))] [(0, .box (File.enc false a1)), (1, .box (File.enc false a2))] orcN ?_
  refine J_if2 9 (fun h3 => ?_) (fun h3 => ?_)
  · refine J_g 52 [] [(4, bv false)] [] orcN ?_
    exact J_r1 rfl
  · refine J_bind (fun x4 h5 => ?_)
    refine J_g 28 [] [(15, bv (!x4))] [] (orcC 4 (x_c0 [(.tmp 11), (.tmp 13)] [46, 46] (laws_eqByteS.ok a1.Data a2.Data) h5) orcN) ?_
    refine J_if2 15 (fun h6 => ?_) (fun h6 => ?_)
    · refine J_g 116 [] [(4, bv false)] [] orcN ?_
      exact J_r1 rfl
    · refine J_g 30 [] [(4, bv true)] [] orcN ?_
      exact J_r1 rfl

noncomputable def c22 : Code := (Try.f22.body).getD .skip

theorem laws_eqFileS_l1.ok (a1 : (List File)) (a2 : (List File)) (q : Wd) (kn : Unit → Option (D × List Ent)) (hk : ∀ v : Unit, J (q.g Try.prog 22 0 27) c22 (atI c22 15) (St.mk' [] []) (some v) kn) :
    ∀ s12 : Int, J (q.g Try.prog 22 0 27) c22 (atI c22 116) (St.mk' [(0, sl 2 (File.enc false) a1), (1, sl 2 (File.enc false) a2), (5, iv s12)] []) (laws_eqFileS_l1 a1 a2 s12) (Fl.go (fun r : Bool => some (bv r, [])) kn) := by
  refine J_lp (fun g ih s12 => ?_)
  unfold laws_eqFileS_l1b
  refine J_g 464 [] [(0, sl 2 (File.enc false) a1), (1, sl 2 (File.enc false) a2), (5, iv s12), (14, bv (decide (s12 < (a1.length : Int))))] [] orcN ?_
  refine J_if2 14 (fun h13 => ?_) (fun h13 => ?_)
  · refine J_bind (fun x14 h15 => ?_)
    refine J_bind (fun x16 h17 => ?_)
    refine J_bind (fun x18 h19 => ?_)
    refine J_g 1864 [] [(0, sl 2 (File.enc false) a1), (1, sl 2 (File.enc false) a2), (5, iv s12), (26, bv (!x18))] [] (orcC 2 (x_ix (kk := .i64) 29 51 2 (File.enc false) (.tmp 17) (.tmp 18) h15) (orcC 6 (x_ix (kk := .i64) 29 51 2 (File.enc false) (.tmp 21) (.tmp 22) h17) (orcC 8 (x_c0 [(.tmp 20), (.tmp 24)] [51, 51] (laws_eqFile.ok x14 x16) h19) orcN))) ?_
    refine J_if2 26 (fun h20 => ?_) (fun h20 => ?_)
    · refine J_g 7460 [] [(4, bv false)] [] orcN ?_
      exact J_r1 rfl
    · refine J_g 467 [] [(0, sl 2 (File.enc false) a1), (1, sl 2 (File.enc false) a2), (5, iv (w64 (s12 + 1)))] [] orcN ?_
      exact J_q (J_b (ih (w64 (s12 + 1)))) rfl
  · exact J_qw (hk ()) rfl

theorem laws_eqFileS.ok (a1 : (List File)) (a2 : (List File)) : Ok Try.prog 22 [sl 2 (File.enc false) a1, sl 2 (File.enc false) a2] [] ((laws_eqFileS a1 a2).map fun r => (bv r, [])) := by
  refine Ok_of3 c22 Try.f22 0 27 (fun q => ?_)
  unfold laws_eqFileS
  refine J_g 2 [] [(0, sl 2 (File.enc false) a1), (1, sl 2 (File.enc false) a2)] [] orcN ?_
  refine J_g 12 [] [(0, sl 2 (File.enc false) a1), (1, sl 2 (File.enc false) a2), (10, bv ((a1.length : Int) != (a2.length : Int)))] [] orcN ?_
  refine J_if2 10 (fun h3 => ?_) (fun h3 => ?_)
  · refine J_g 52 [] [(4, bv false)] [] orcN ?_
    exact J_r1 rfl
  · refine J_g 28 [] [(0, sl 2 (File.enc false) a1), (1, sl 2 (File.enc false) a2), (5, iv 0)] [] orcN ?_
    refine J_lqF (K0 := (fun r : Bool => some (bv r, []))) (fun _ => rfl) (laws_eqFileS_l1.ok a1 a2 q _ (fun v21 => J_j ?_) 0)
    refine J_g 30 [] [(4, bv true)] [] orcN ?_
    exact J_r1 rfl

noncomputable def c11 : Code := (Try.f11.body).getD .skip

theorem laws_eqDisk.ok (a1 : Disk) (a2 : Disk) : Ok Try.prog 11 [.ag (Disk.enc false a1), .ag (Disk.enc false a2)] [] ((laws_eqDisk a1 a2).map fun r => (bv r, [])) := by
  refine Ok_of3 c11 Try.f11 0 31 (fun q => ?_)
  unfold laws_eqDisk
  refine J_g 2 [(0, 0), (1, 1)] [(2, pp 0), (3, pp 1)] [(0, .box (Disk.enc false a1)), (1, .box (Disk.enc false a2))] orcN ?_
  refine J_bind (fun x3 h4 => ?_)
  refine J_g 12 [] [(2, pp 0), (3, pp 1), (10, bv (!x3))] [(0, .box (Disk.enc false a1)), (1, .box (Disk.enc false a2))] (orcC 4 (x_c0 [(.tmp 6), (.tmp 8)] [29, 29] (laws_eqFileS.ok a1.Files a2.Files) h4) orcN) ?_
  refine J_if2 10 (fun h5 => ?_) (fun h5 => ?_)
  · refine J_g 52 [] [(4, bv false)] [] orcN ?_
    exact J_r1 rfl
  · refine J_g 28 [] [(2, pp 0), (3, pp 1), (15, bv (a1.Budget != a2.Budget))] [(0, .box (Disk.enc false a1)), (1, .box (Disk.enc false a2))] orcN ?_
    refine J_if2 15 (fun h6 => ?_) (fun h6 => ?_)
    · refine J_g 116 [] [(4, bv false)] [] orcN ?_
      exact J_r1 rfl
    · refine J_g 60 [] [(2, pp 0), (3, pp 1), (20, bv (a1.Writes != a2.Writes))] [(0, .box (Disk.enc false a1)), (1, .box (Disk.enc false a2))] orcN ?_
      refine J_if2 20 (fun h7 => ?_) (fun h7 => ?_)
      · refine J_g 244 [] [(4, bv false)] [] orcN ?_
        exact J_r1 rfl
      · refine J_g 124 [] [(2, pp 0), (3, pp 1), (25, bv (a1.Stop != a2.Stop))] [(0, .box (Disk.enc false a1)), (1, .box (Disk.enc false a2))] orcN ?_
        refine J_if2 25 (fun h8 => ?_) (fun h8 => ?_)
        · refine J_g 500 [] [(4, bv false)] [] orcN ?_
          exact J_r1 rfl
        · refine J_g 252 [] [(30, bv (!(a1.Down == a2.Down)))] [] orcN ?_
          refine J_if2 30 (fun h9 => ?_) (fun h9 => ?_)
          · refine J_g 1012 [] [(4, bv false)] [] orcN ?_
            exact J_r1 rfl
          · refine J_g 254 [] [(4, bv true)] [] orcN ?_
            exact J_r1 rfl

noncomputable def c5 : Code := (Try.f5.body).getD .skip

theorem laws_FnExactNextGen.ok (a1 : Disk) : Ok Try.prog 5 [.ag (Disk.enc false a1)] [] ((laws_FnExactNextGen a1).map fun r => (bv r, [])) := by
  refine Ok_of3 c5 Try.f5 0 28 (fun q => ?_)
  unfold laws_FnExactNextGen
  refine J_g 2 [(0, 0)] [(1, pp 0)] [(0, .box (Disk.enc false a1))] orcN ?_
  refine J_g 6 [] [(1, pp 0), (3, iv 1048576)] [(0, .box (Disk.enc false a1))] orcN ?_
  refine J_bind (fun x2 h3 => ?_)
  refine J_g 14 [] [(1, pp 0), (3, iv x2)] [(0, .box (Disk.enc false a1))] (orcC 2 (x_c0 [(.tmp 7), (.tmp 8)] [24, 3] (laws_szDisk.ok a1 1048576) h3) orcN) ?_
  refine J_g 60 [] [(1, pp 0), (11, bv (decide (x2 < 0)))] [(0, .box (Disk.enc false a1))] orcN ?_
  refine J_if2 11 (fun h4 => ?_) (fun h4 => ?_)
  · refine J_g 244 [] [(2, bv true)] [] orcN ?_
    exact J_r1 rfl
  · refine J_bind (fun x5 h6 => ?_)
    refine J_bind (fun x7 h8 => ?_)
    refine J_g 62 [(3, 2)] [(1, pp 0), (4, pp 2)] [(0, .box (Disk.enc false a1)), (2, .box (IntResult.enc x7))] (orcC 1 (x_c1 («as» := [.ag (Disk.enc false a1)]) [(.tmp 12)] [24] false [] [] (.cons (.same rfl) (.nil)) (laws_toDisk.ok a1) h6 (.ag (.cons (.own 1) (.cons (.same rfl rfl) (.cons (.same rfl rfl) (.cons (.same rfl rfl) (.cons (.same rfl rfl) (.nil)))))))) (orcC 2 (x_c1 («as» := [.ag [rr 1 x5.Files, iv x5.Budget, iv x5.Writes, iv x5.Stop, bv x5.Down]]) [(.tmp 13)] [31] true [(1, rE 2 (File.enc true) x5.Files)] [] (.cons (.ag (.cons (am_b (.head _) (File.ro true) rfl) (.cons (.same rfl) (.cons (.same rfl) (.cons (.same rfl) (.cons (.same rfl) (.nil))))))) (.nil)) (spec_NextGen.ok x5) h8 (.ag (.cons (.same rfl rfl) (.cons (.same rfl rfl) (.nil)))) (hbor := fun _ => ⟨rfl, (flat_ag (IntResult.fl _))⟩)) orcN)) ?_
    refine J_bind (fun x9 h10 => ?_)
    refine J_g 126 [(2, 4)] [(1, pp 0), (4, pp 2), (5, pp 4)] [(0, .box (Disk.enc false a1)), (2, .box (IntResult.enc x7)), (3, rE 2 (File.enc true) x9.Files), (4, .box [rr 3 x9.Files, iv x9.Budget, iv x9.Writes, iv x9.Stop, bv x9.Down])] (orcC 1 (x_c1 («as» := [.ag (Disk.enc false a1)]) [(.tmp 15)] [24] false [] [] (.cons (.same rfl) (.nil)) (laws_toDisk.ok a1) h10 (.ag (.cons (.own 3) (.cons (.same rfl rfl) (.cons (.same rfl rfl) (.cons (.same rfl rfl) (.cons (.same rfl rfl) (.nil)))))))) orcN) ?_
    refine J_bind (fun x11 h12 => ?_)
    refine J_g 254 [(2, 5)] [(1, pp 0), (4, pp 2), (5, pp 4), (6, pp 5)] [(0, .box (Disk.enc false a1)), (2, .box (IntResult.enc x7)), (3, rE 2 (File.enc true) x9.Files), (4, .box [rr 3 x9.Files, iv x9.Budget, iv x9.Writes, iv x9.Stop, bv x9.Down]), (5, .box (IntResult.enc x11))] (orcC 1 (x_c1 («as» := [.ag [rr 3 x9.Files, iv x9.Budget, iv x9.Writes, iv x9.Stop, bv x9.Down]]) [(.tmp 17)] [31] true [(3, rE 2 (File.enc true) x9.Files)] [] (.cons (.ag (.cons (am_b (.head _) (File.ro true) rfl) (.cons (.same rfl) (.cons (.same rfl) (.cons (.same rfl) (.cons (.same rfl) (.nil))))))) (.nil)) (impl_NextGen.ok x9) h12 (.ag (.cons (.same rfl rfl) (.cons (.same rfl rfl) (.nil)))) (hbor := fun _ => ⟨rfl, (flat_ag (IntResult.fl _))⟩)) orcN) ?_
    refine J_bind (fun x13 h14 => ?_)
    refine J_g 1020 [] [(1, pp 0), (5, pp 4), (22, bv (!x13))] [(0, .box (Disk.enc false a1)), (3, rE 2 (File.enc true) x9.Files), (4, .box [rr 3 x9.Files, iv x9.Budget, iv x9.Writes, iv x9.Stop, bv x9.Down])] (orcC 2 (x_c0 [(.tmp 19), (.tmp 20)] [27, 27] (laws_eqIntResult.ok x11 x7) h14) orcN) ?_
    refine J_if2 22 (fun h15 => ?_) (fun h15 => ?_)
    · refine J_g 4084 [] [(2, bv false)] [] orcN ?_
      exact J_r1 rfl
    · refine J_bind (fun x16 h17 => ?_)
      refine J_bind (fun x18 h19 => ?_)
      refine J_g 2044 [] [(27, bv (!x18))] [] (orcC 2 (x_c1 («as» := [.ag (Disk.enc false a1)]) [(.tmp 24)] [24] false [] [] (.cons (.same rfl) (.nil)) (laws_toDisk.ok a1) h17 (.ag (.cons (.own 5) (.cons (.same rfl rfl) (.cons (.same rfl rfl) (.cons (.same rfl rfl) (.cons (.same rfl rfl) (.nil)))))))) (orcC 3 (x_c1 («as» := [.ag [rr 3 x9.Files, iv x9.Budget, iv x9.Writes, iv x9.Stop, bv x9.Down], .ag [rr 5 x16.Files, iv x16.Budget, iv x16.Writes, iv x16.Stop, bv x16.Down]]) [(.tmp 23), (.tmp 25)] [31, 31] true [(3, rE 2 (File.enc true) x9.Files), (5, rE 2 (File.enc true) x16.Files)] [] (.cons (.ag (.cons (am_b (.head _) (File.ro true) rfl) (.cons (.same rfl) (.cons (.same rfl) (.cons (.same rfl) (.cons (.same rfl) (.nil))))))) (.cons (.ag (.cons (am_b (.tail _ (.head _)) (File.ro true) rfl) (.cons (.same rfl) (.cons (.same rfl) (.cons (.same rfl) (.cons (.same rfl) (.nil))))))) (.nil))) (laws_eqDisk.ok x9 x16) h19 (.same rfl rfl) (hbor := fun _ => ⟨rfl, flat_sc⟩)) orcN)) ?_
      refine J_if2 27 (fun h20 => ?_) (fun h20 => ?_)
      · refine J_g 8180 [] [(2, bv false)] [] orcN ?_
        exact J_r1 rfl
      · refine J_g 2046 [] [(2, bv true)] [] orcN ?_
        exact J_r1 rfl

end Go.Told

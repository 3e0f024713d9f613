import Derived.Test.YtbifnchjphefeaaGreatDoorToldRootsOf
import Derived.Test.YtbifnchjphefeaaGreatDoorShelf
import Derived.Test.YtbifnchjphefeaaGreatDoorProg
set_option linter.unusedVariables false
set_option maxRecDepth 4000
namespace Go.Told
open Go Go.Im Go.Proofs

noncomputable def c152 : Code := (Tryz.f152.body).getD .skip

theorem laws_szByteS.ok (a1 : (List Int)) (a2 : Int) : Ok Tryz.prog 152 [sl 1 eU8 a1, iv a2] [] ((laws_szByteS a1 a2).map fun r => (iv r, [])) := by
  refine Ok_of3 c152 Tryz.f152 0 12 (fun q => ?_)
  unfold laws_szByteS
  refine J_g 2 [] [(0, sl 1 eU8 a1), (1, iv a2)] [] orcN ?_
  refine J_g 6 [] [(1, iv (w64 (a2 - (a1.length : Int))))] [] orcN ?_
  refine J_g 28 [] [(1, iv (w64 (a2 - (a1.length : Int)))), (10, bv (decide ((w64 (a2 - (a1.length : Int))) < 0)))] [] orcN ?_
  refine J_if2 10 (fun h3 => ?_) (fun h3 => ?_)
  · refine J_g 116 [] [(4, iv (-1))] [] orcN ?_
    exact J_r1 rfl
  · refine J_g 30 [] [(4, iv (w64 (a2 - (a1.length : Int))))] [] orcN ?_
    exact J_r1 rfl

noncomputable def c104 : Code := (Tryz.f104.body).getD .skip

theorem laws_szFile.ok (a1 : File) (a2 : Int) : Ok Tryz.prog 104 [.ag (File.enc false a1), iv a2] [] ((laws_szFile a1 a2).map fun r => (iv r, [])) := by
  refine Ok_of3 c104 Tryz.f104 0 19 (fun q => ?_)
  unfold laws_szFile
  refine J_g 2 [(0, 0)] [(1, iv a2), (2, pp 0)] [(0, .box (File.enc false a1))] orcN ?_
  refine J_g 6 [] [(1, iv (w64 (a2 - (a1.Path.size : Int)))), (2, pp 0)] [(0, .box (File.enc false a1))] orcN ?_
  refine J_g 28 [] [(1, iv (w64 (a2 - (a1.Path.size : Int)))), (2, pp 0), (11, bv (decide ((w64 (a2 - (a1.Path.size : Int))) < 0)))] [(0, .box (File.enc false a1))] orcN ?_
  refine J_if2 11 (fun h3 => ?_) (fun h3 => ?_)
  · refine J_g 116 [] [(4, iv (-1))] [] orcN ?_
    exact J_r1 rfl
  · refine J_bind (fun x4 h5 => ?_)
    refine J_g 30 [] [(1, iv x4)] [] (orcC 3 (x_c0 [(.tmp 13), (.tmp 14)] [119, 3] (laws_szByteS.ok a1.Data (w64 (a2 - (a1.Path.size : Int)))) h5) orcN) ?_
    refine J_g 124 [] [(1, iv x4), (17, bv (decide (x4 < 0)))] [] orcN ?_
    refine J_if2 17 (fun h6 => ?_) (fun h6 => ?_)
    · refine J_g 500 [] [(4, iv (-1))] [] orcN ?_
      exact J_r1 rfl
    · refine J_g 126 [] [(4, iv x4)] [] orcN ?_
      exact J_r1 rfl

noncomputable def c59 : Code := (Tryz.f59.body).getD .skip

theorem laws_szFileS_l1.ok (a1 : (List File)) (q : Wd) (kn : Int → Option (D × List Ent)) (hk : ∀ v : Int, J (q.g Tryz.prog 59 0 27) c59 (atI c59 31) (St.mk' [(1, iv v)] []) (some v) kn) :
    ∀ s10 : (Int × Int), J (q.g Tryz.prog 59 0 27) c59 (atI c59 244) (St.mk' [(0, sl 2 (File.enc false) a1), (1, iv s10.1), (5, iv s10.2)] []) (laws_szFileS_l1 a1 s10) (Fl.go (fun r : Int => some (iv r, [])) kn) := by
  refine J_lp (fun g ih s10 => ?_)
  unfold laws_szFileS_l1b
  refine J_g 976 [] [(0, sl 2 (File.enc false) a1), (1, iv s10.1), (5, iv s10.2), (15, bv (decide (s10.2 < (a1.length : Int))))] [] orcN ?_
  refine J_if2 15 (fun h11 => ?_) (fun h11 => ?_)
  · refine J_bind (fun x12 h13 => ?_)
    refine J_bind (fun x14 h15 => ?_)
    refine J_g 3912 [] [(0, sl 2 (File.enc false) a1), (1, iv x14), (5, iv s10.2)] [] (orcC 2 (x_ix (kk := .i64) 38 139 2 (File.enc false) (.tmp 18) (.tmp 19) h13) (orcC 5 (x_c0 [(.tmp 21), (.tmp 22)] [139, 3] (laws_szFile.ok x12 s10.1) h15) orcN)) ?_
    refine J_g 7826 [] [(0, sl 2 (File.enc false) a1), (1, iv x14), (5, iv s10.2), (25, bv (decide (x14 < 0)))] [] orcN ?_
    refine J_if2 25 (fun h16 => ?_) (fun h16 => ?_)
    · refine J_g 31308 [] [(4, iv (-1))] [] orcN ?_
      exact J_r1 rfl
    · refine J_g 979 [] [(0, sl 2 (File.enc false) a1), (1, iv x14), (5, iv (w64 (s10.2 + 1)))] [] orcN ?_
      exact J_q (J_b (ih (x14, w64 (s10.2 + 1)))) rfl
  · exact J_qw (hk s10.1) rfl

theorem laws_szFileS.ok (a1 : (List File)) (a2 : Int) : Ok Tryz.prog 59 [sl 2 (File.enc false) a1, iv a2] [] ((laws_szFileS a1 a2).map fun r => (iv r, [])) := by
  refine Ok_of3 c59 Tryz.f59 0 27 (fun q => ?_)
  unfold laws_szFileS
  refine J_g 2 [] [(0, sl 2 (File.enc false) a1), (1, iv a2)] [] orcN ?_
  refine J_g 6 [] [(0, sl 2 (File.enc false) a1), (1, iv (w64 (a2 - (a1.length : Int))))] [] orcN ?_
  refine J_g 28 [] [(0, sl 2 (File.enc false) a1), (1, iv (w64 (a2 - (a1.length : Int)))), (11, bv (decide ((w64 (a2 - (a1.length : Int))) < 0)))] [] orcN ?_
  refine J_if2 11 (fun h3 => ?_) (fun h3 => ?_)
  · refine J_g 116 [] [(4, iv (-1))] [] orcN ?_
    exact J_r1 rfl
  · refine J_g 60 [] [(0, sl 2 (File.enc false) a1), (1, iv (w64 (a2 - (a1.length : Int)))), (5, iv 0)] [] orcN ?_
    refine J_lqF (K0 := (fun r : Int => some (iv r, []))) (fun _ => rfl) (laws_szFileS_l1.ok a1 q _ (fun v17 => J_j ?_) (w64 (a2 - (a1.length : Int)), 0))
    refine J_g 62 [] [(4, iv v17)] [] orcN ?_
    exact J_r1 rfl

noncomputable def c19 : Code := (Tryz.f19.body).getD .skip

theorem laws_szDisk.ok (a1 : Disk) (a2 : Int) : Ok Tryz.prog 19 [.ag (Disk.enc false a1), iv a2] [] ((laws_szDisk a1 a2).map fun r => (iv r, [])) := by
  refine Ok_of3 c19 Tryz.f19 0 12 (fun q => ?_)
  unfold laws_szDisk
  refine J_g 2 [(0, 0)] [(1, iv a2), (2, pp 0)] [(0, .box (Disk.enc false a1))] orcN ?_
  refine J_bind (fun x3 h4 => ?_)
  refine J_g 6 [] [(1, iv x3)] [] (orcC 3 (x_c0 [(.tmp 6), (.tmp 7)] [38, 3] (laws_szFileS.ok a1.Files a2) h4) orcN) ?_
  refine J_g 28 [] [(1, iv x3), (10, bv (decide (x3 < 0)))] [] orcN ?_
  refine J_if2 10 (fun h5 => ?_) (fun h5 => ?_)
  · refine J_g 116 [] [(4, iv (-1))] [] orcN ?_
    exact J_r1 rfl
  · refine J_g 30 [] [(4, iv x3)] [] orcN ?_
    exact J_r1 rfl

noncomputable def c153 : Code := (Tryz.f153.body).getD .skip

theorem laws_toByteS_l1.ok (a1 : (List Int)) (q : Wd) (kn : (List Int) → Option (D × List Ent)) (hk : ∀ v : (List Int), J (q.g Tryz.prog 153 0 22) c153 (atI c153 15) (St.mk' [(3, rr 0 v)] [(0, rE 1 eU8 v)]) (some v) kn) :
    ∀ s9 : ((List Int) × Int), J (q.g Tryz.prog 153 0 22) c153 (atI c153 116) (St.mk' [(0, sl 1 eU8 a1), (3, rr 0 s9.1), (4, iv s9.2)] [(0, rE 1 eU8 s9.1)]) (laws_toByteS_l1 a1 s9) kn := by
  refine J_lp (fun g ih s9 => ?_)
  unfold laws_toByteS_l1b
  refine J_g 464 [] [(0, sl 1 eU8 a1), (3, rr 0 s9.1), (4, iv s9.2), (11, bv (decide (s9.2 < (a1.length : Int))))] [(0, rE 1 eU8 s9.1)] orcN ?_
  refine J_if2 11 (fun h10 => ?_) (fun h10 => ?_)
  · refine J_bind (fun x11 h12 => ?_)
    refine J_bind (fun x13 h14 => ?_)
    refine J_g 932 [] [(0, sl 1 eU8 a1), (3, rr 0 s9.1), (4, iv s9.2)] [(0, rE 1 eU8 (s9.1.set s9.2.toNat x11))] (orcC 4 (x_ix (kk := .i64) 119 5 1 eU8 (.tmp 16) (.tmp 17) h12) (orcC 6 (x_ixr (kk := .i64) 119 5 1 0 eU8 (.tmp 14) (.tmp 15) h14) (orcD 7 (x_st (b := x11) 5 1 0 0 eU8 (uv x11) (.tmp 20) (.tmp 19) h14 rfl) orcN))) ?_
    refine J_st (σ' := St.mk' [(0, sl 1 eU8 a1), (3, rr 0 (s9.1.set s9.2.toNat x11)), (4, iv s9.2)] [(0, rE 1 eU8 (s9.1.set s9.2.toNat x11))]) (by simp only [rr, List.length_set]) ?_
    refine J_g 467 [] [(0, sl 1 eU8 a1), (3, rr 0 (s9.1.set s9.2.toNat x11)), (4, iv (w64 (s9.2 + 1)))] [(0, rE 1 eU8 (s9.1.set s9.2.toNat x11))] orcN ?_
    exact J_q (J_b (ih (s9.1.set s9.2.toNat x11, w64 (s9.2 + 1)))) rfl
  · exact J_qw (hk s9.1) rfl

theorem laws_toByteS.ok (a1 : (List Int)) : Ok Tryz.prog 153 [sl 1 eU8 a1] [] ((laws_toByteS a1).map fun r => (so 1 eU8 r, [])) := by
  refine Ok_of3 c153 Tryz.f153 0 22 (fun q => ?_)
  unfold laws_toByteS
  refine J_g 2 [] [(0, sl 1 eU8 a1)] [] orcN ?_
  refine J_bind (fun x2 h3 => ?_)
  refine J_g 6 [] [(0, sl 1 eU8 a1), (3, rr 0 x2)] [(0, rE 1 eU8 x2)] (orcC 2 (x_mk 119 5 1 1 0 eU8 0 (.tmp 6) h3 (.keep rfl (.nil))) orcN) ?_
  refine J_g 28 [] [(0, sl 1 eU8 a1), (3, rr 0 x2), (4, iv 0)] [(0, rE 1 eU8 x2)] orcN ?_
  refine J_lq (laws_toByteS_l1.ok a1 q _ (fun v15 => J_j ?_) (x2, 0))
  refine J_g 30 [] [(2, rr 0 v15)] [(0, rE 1 eU8 v15)] orcN ?_
  exact J_rm (ds := [rr 0 v15]) (ds' := [so 1 eU8 v15]) (.cons (.cell (.move (.head _) (List.length_map _) (by decide) (.nil))) (.nil) (by decide)) rfl

noncomputable def c105 : Code := (Tryz.f105.body).getD .skip

theorem laws_toFile.ok (a1 : File) : Ok Tryz.prog 105 [.ag (File.enc false a1)] [] ((laws_toFile a1).map fun r => (.ag [sv r.Path, so 1 eU8 r.Data], [])) := by
  refine Ok_of3 c105 Tryz.f105 0 12 (fun q => ?_)
  unfold laws_toFile
  refine J_g 2 [(0, 0), (1, 1)] [(1, pp 0), (2, pp 1)] [(0, .box (File.enc false a1)), (1, .box [sv ByteArray.empty, nv])] orcN ?_
  refine J_g 6 [(0, 2)] [(1, pp 0), (2, pp 1), (3, pp 2)] [(0, .box (File.enc false a1)), (1, .box [sv ByteArray.empty, nv]), (2, .box [sv ByteArray.empty, nv])] orcN ?_
  refine J_g 14 [] [(1, pp 0), (2, pp 1), (3, pp 2)] [(0, .box (File.enc false a1)), (1, .box [sv ByteArray.empty, nv]), (2, .box [sv a1.Path, nv])] orcN ?_
  refine J_bind (fun x2 h3 => ?_)
  refine J_g 30 [] [(2, pp 1), (3, pp 2)] [(1, .box [sv ByteArray.empty, nv]), (2, .box [sv a1.Path, rr 3 x2]), (3, rE 1 eU8 x2)] (orcC 2 (x_c1 («as» := [sl 1 eU8 a1.Data]) [(.tmp 8)] [119] false [] [] (.cons (.same rfl) (.nil)) (laws_toByteS.ok a1.Data) h3 (.own 3)) orcN) ?_
  refine J_g 62 [] [(2, pp 1)] [(1, .box [sv a1.Path, rr 3 x2]), (3, rE 1 eU8 x2)] orcN ?_
  exact J_rm (ds := [.ag [sv a1.Path, rr 3 x2]]) (ds' := [.ag [sv a1.Path, so 1 eU8 x2]]) (.cons (.ag (.keep rfl (.move (.tail _ (.head _)) (List.length_map _) (by decide) (.nil)))) (.nil) (by decide)) rfl

noncomputable def c60 : Code := (Tryz.f60.body).getD .skip

theorem laws_toFileS_l1.ok (a1 : (List File)) (q : Wd) (kn : (List File) → Option (D × List Ent)) (hk : ∀ v : (List File), J (q.g Tryz.prog 60 0 23) c60 (atI c60 15) (St.mk' [(3, rr 0 v)] [(0, rE 2 (File.enc true) v)]) (some v) kn) :
    ∀ s11 : ((List File) × Int), J (q.g Tryz.prog 60 0 23) c60 (atI c60 116) (St.mk' [(0, sl 2 (File.enc false) a1), (3, rr 0 s11.1), (4, iv s11.2)] [(0, rE 2 (File.enc true) s11.1)]) (laws_toFileS_l1 a1 s11) kn := by
  refine J_lp (fun g ih s11 => ?_)
  unfold laws_toFileS_l1b
  refine J_g 464 [] [(0, sl 2 (File.enc false) a1), (3, rr 0 s11.1), (4, iv s11.2), (11, bv (decide (s11.2 < (a1.length : Int))))] [(0, rE 2 (File.enc true) s11.1)] orcN ?_
  refine J_if2 11 (fun h12 => ?_) (fun h12 => ?_)
  · refine J_bind (fun x13 h14 => ?_)
    refine J_bind (fun x15 h16 => ?_)
    refine J_bind (fun x17 h18 => ?_)
    refine J_g 932 [] [(0, sl 2 (File.enc false) a1), (3, rr 0 s11.1), (4, iv s11.2)] [(0, rE 2 (File.enc true) (s11.1.set s11.2.toNat x15))] (orcC 4 (x_ix (kk := .i64) 38 139 2 (File.enc false) (.tmp 16) (.tmp 17) h14) (orcC 6 (x_c1 («as» := [.ag (File.enc false x13)]) [(.tmp 19)] [139] false [] [] (.cons (.same rfl) (.nil)) (laws_toFile.ok x13) h16 (.ag (.cons (.same rfl rfl) (.cons (.own 1) (.nil))))) (orcC 7 (x_ixr (kk := .i64) 44 121 2 0 (File.enc true) (.tmp 14) (.tmp 15) h18) (orcD 8 (x_stm (b := x15) (es' := [sv x15.Path, so 1 eU8 x15.Data]) (ts := [1]) 121 2 0 0 (File.enc true) (.ag [sv x15.Path, rr 1 x15.Data]) (.tmp 21) (.tmp 20) [(1, rE 1 eU8 x15.Data)] h18 (.keep rfl (.move (.head _) (List.length_map _) (by decide) (.nil))) rfl) orcN)))) ?_
    refine J_st (σ' := St.mk' [(0, sl 2 (File.enc false) a1), (3, rr 0 (s11.1.set s11.2.toNat x15)), (4, iv s11.2)] [(0, rE 2 (File.enc true) (s11.1.set s11.2.toNat x15))]) (by simp only [rr, List.length_set]) ?_
    refine J_g 467 [] [(0, sl 2 (File.enc false) a1), (3, rr 0 (s11.1.set s11.2.toNat x15)), (4, iv (w64 (s11.2 + 1)))] [(0, rE 2 (File.enc true) (s11.1.set s11.2.toNat x15))] orcN ?_
    exact J_q (J_b (ih (s11.1.set s11.2.toNat x15, w64 (s11.2 + 1)))) rfl
  · exact J_qw (hk s11.1) rfl

theorem laws_toFileS.ok (a1 : (List File)) : Ok Tryz.prog 60 [sl 2 (File.enc false) a1] [] ((laws_toFileS a1).map fun r => (so 2 (File.enc true) r, [])) := by
  refine Ok_of3 c60 Tryz.f60 0 23 (fun q => ?_)
  unfold laws_toFileS
  refine J_g 2 [] [(0, sl 2 (File.enc false) a1)] [] orcN ?_
  refine J_bind (fun x2 h3 => ?_)
  refine J_g 6 [] [(0, sl 2 (File.enc false) a1), (3, rr 0 x2)] [(0, rE 2 (File.enc true) x2)] (orcC 2 (x_mk 44 121 2 40 0 (File.enc true) ({ Path := ByteArray.empty, Data := ([] : List Int) } : File) (.tmp 6) h3 (.keep rfl (.nilsl true 1 (.nil)))) orcN) ?_
  refine J_g 28 [] [(0, sl 2 (File.enc false) a1), (3, rr 0 x2), (4, iv 0)] [(0, rE 2 (File.enc true) x2)] orcN ?_
  refine J_lq (laws_toFileS_l1.ok a1 q _ (fun v19 => J_j ?_) (x2, 0))
  refine J_g 30 [] [(2, rr 0 v19)] [(0, rE 2 (File.enc true) v19)] orcN ?_
  exact J_rm (ds := [rr 0 v19]) (ds' := [so 2 (File.enc true) v19]) (.cons (.cell (.move (.head _) (List.length_map _) (by decide) (.nil))) (.nil) (by decide)) rfl

noncomputable def c21 : Code := (Tryz.f21.body).getD .skip

theorem laws_toDisk.ok (a1 : Disk) : Ok Tryz.prog 21 [.ag (Disk.enc false a1)] [] ((laws_toDisk a1).map fun r => (.ag (Disk.enc true r), [])) := by
  refine Ok_of3 c21 Tryz.f21 0 21 (fun q => ?_)
  unfold laws_toDisk
  refine J_g 2 [(0, 0), (1, 1)] [(1, pp 0), (2, pp 1)] [(0, .box (Disk.enc false a1)), (1, .box [nv, iv 0, iv 0, iv 0, bv false])] orcN ?_
  refine J_g 6 [(0, 2)] [(1, pp 0), (2, pp 1), (3, pp 2)] [(0, .box (Disk.enc false a1)), (1, .box [nv, iv 0, iv 0, iv 0, bv false]), (2, .box [nv, iv 0, iv 0, iv 0, bv false])] orcN ?_
  refine J_bind (fun x2 h3 => ?_)
  refine J_g 14 [] [(1, pp 0), (2, pp 1), (3, pp 2)] [(0, .box (Disk.enc false a1)), (1, .box [nv, iv 0, iv 0, iv 0, bv false]), (2, .box [rr 3 x2, iv 0, iv 0, iv 0, bv false]), (3, rE 2 (File.enc true) x2)] (orcC 2 (x_c1 («as» := [sl 2 (File.enc false) a1.Files]) [(.tmp 5)] [38] false [] [] (.cons (.same rfl) (.nil)) (laws_toFileS.ok a1.Files) h3 (.own 3)) orcN) ?_
  refine J_g 30 [] [(1, pp 0), (2, pp 1), (3, pp 2)] [(0, .box (Disk.enc false a1)), (1, .box [nv, iv 0, iv 0, iv 0, bv false]), (2, .box [rr 3 x2, iv a1.Budget, iv 0, iv 0, bv false]), (3, rE 2 (File.enc true) x2)] orcN ?_
  refine J_g 62 [] [(1, pp 0), (2, pp 1), (3, pp 2)] [(0, .box (Disk.enc false a1)), (1, .box [nv, iv 0, iv 0, iv 0, bv false]), (2, .box [rr 3 x2, iv a1.Budget, iv a1.Writes, iv 0, bv false]), (3, rE 2 (File.enc true) x2)] orcN ?_
  refine J_g 126 [] [(1, pp 0), (2, pp 1), (3, pp 2)] [(0, .box (Disk.enc false a1)), (1, .box [nv, iv 0, iv 0, iv 0, bv false]), (2, .box [rr 3 x2, iv a1.Budget, iv a1.Writes, iv a1.Stop, bv false]), (3, rE 2 (File.enc true) x2)] orcN ?_
  refine J_g 254 [] [(2, pp 1), (3, pp 2)] [(1, .box [nv, iv 0, iv 0, iv 0, bv false]), (2, .box [rr 3 x2, iv a1.Budget, iv a1.Writes, iv a1.Stop, bv a1.Down]), (3, rE 2 (File.enc true) x2)] orcN ?_
  refine J_g 510 [] [(2, pp 1)] [(1, .box [rr 3 x2, iv a1.Budget, iv a1.Writes, iv a1.Stop, bv a1.Down]), (3, rE 2 (File.enc true) x2)] orcN ?_
  exact J_rm (ds := [.ag [rr 3 x2, iv a1.Budget, iv a1.Writes, iv a1.Stop, bv a1.Down]]) (ds' := [.ag [so 2 (File.enc true) x2, iv a1.Budget, iv a1.Writes, iv a1.Stop, bv a1.Down]]) (.cons (.ag (.move (.tail _ (.head _)) (List.length_map _) (by decide) (.keep rfl (.keep rfl (.keep rfl (.keep rfl (.nil))))))) (.nil) (by decide)) rfl

noncomputable def c88 : Code := (Tryz.f88.body).getD .skip

theorem spec_l1In.ok (a1 : Int) (a2 : Int) (a3 : Int) : Ok Tryz.prog 88 [iv a1, iv a2, iv a3] [] ((spec_l1In a1 a2 a3).map fun r => (bv r, [])) := by
  refine Ok_of3 c88 Tryz.f88 0 15 (fun q => ?_)
  unfold spec_l1In
  refine J_g 2 [] [(0, iv a1), (1, iv a2), (2, iv a3)] [] orcN ?_
  refine J_ite (fun h4 => ?_) (fun h4 => ?_)
  · refine J_g 6 [] [(6, bv (decide (a1 ≤ a3)))] [] (orcL 3 [(9, bv (decide (a1 ≥ a2)))] [] h4 orcN) ?_
    exact J_r1 rfl
  · refine J_g 6 [] [(6, bv false)] [] (orcL 3 [(9, bv (decide (a1 ≥ a2)))] [] h4 orcN) ?_
    exact J_r1 rfl

noncomputable def c178 : Code := (Tryz.f178.body).getD .skip

theorem spec_l1Letter.ok (a1 : Int) : Ok Tryz.prog 178 [uv a1] [] ((spec_l1Letter a1).map fun r => (bv r, [])) := by
  refine Ok_of3 c178 Tryz.f178 0 9 (fun q => ?_)
  unfold spec_l1Letter
  refine J_g 2 [] [(0, uv a1)] [] orcN ?_
  refine J_ite (fun h2 => ?_) (fun h2 => ?_)
  · refine J_g 6 [] [(2, bv (decide (a1 ≤ 122)))] [] (orcL 2 [(4, bv (decide (a1 ≥ 97)))] [] h2 orcN) ?_
    exact J_r1 rfl
  · refine J_g 6 [] [(2, bv false)] [] (orcL 2 [(4, bv (decide (a1 ≥ 97)))] [] h2 orcN) ?_
    exact J_r1 rfl

noncomputable def c198 : Code := (Tryz.f198.body).getD .skip

theorem spec_l1Digit.ok (a1 : Int) : Ok Tryz.prog 198 [uv a1] [] ((spec_l1Digit a1).map fun r => (bv r, [])) := by
  refine Ok_of3 c198 Tryz.f198 0 9 (fun q => ?_)
  unfold spec_l1Digit
  refine J_g 2 [] [(0, uv a1)] [] orcN ?_
  refine J_ite (fun h2 => ?_) (fun h2 => ?_)
  · refine J_g 6 [] [(2, bv (decide (a1 ≤ 57)))] [] (orcL 2 [(4, bv (decide (a1 ≥ 48)))] [] h2 orcN) ?_
    exact J_r1 rfl
  · refine J_g 6 [] [(2, bv false)] [] (orcL 2 [(4, bv (decide (a1 ≥ 48)))] [] h2 orcN) ?_
    exact J_r1 rfl

noncomputable def c179 : Code := (Tryz.f179.body).getD .skip

theorem spec_l1Name.ok (a1 : Int) : Ok Tryz.prog 179 [uv a1] [] ((spec_l1Name a1).map fun r => (bv r, [])) := by
  refine Ok_of3 c179 Tryz.f179 0 13 (fun q => ?_)
  unfold spec_l1Name
  refine J_g 2 [] [(0, uv a1)] [] orcN ?_
  refine J_bind (fun x2 h3 => ?_)
  refine J_ite (fun h4 => ?_) (fun h4 => ?_)
  · refine J_g 6 [] [(2, bv true)] [] (orcC 1 (x_c0 [(.tmp 3)] [5] (spec_l1Letter.ok a1) h3) (orcL 2 [(4, bv x2)] [] h4 orcN)) ?_
    exact J_r1 rfl
  · refine J_bind (fun x5 h6 => ?_)
    refine J_ite (fun h7 => ?_) (fun h7 => ?_)
    · refine J_g 6 [] [(2, bv true)] [] (orcC 1 (x_c0 [(.tmp 3)] [5] (spec_l1Letter.ok a1) h3) (orcL 2 [(4, bv x2)] [] h4 (orcH 4 2 5 false (x_c0 [(.tmp 6)] [5] (spec_l1Digit.ok a1) h6) (orcL 6 [(8, bv x5)] [] h7 orcN)))) ?_
      exact J_r1 rfl
    · refine J_g 6 [] [(2, bv (a1 == 95))] [] (orcC 1 (x_c0 [(.tmp 3)] [5] (spec_l1Letter.ok a1) h3) (orcL 2 [(4, bv x2)] [] h4 (orcH 4 2 5 false (x_c0 [(.tmp 6)] [5] (spec_l1Digit.ok a1) h6) (orcL 6 [(8, bv x5)] [] h7 orcN)))) ?_
      exact J_r1 rfl

noncomputable def c159 : Code := (Tryz.f159.body).getD .skip

theorem spec_l7Byte.ok (a1 : Int) : Ok Tryz.prog 159 [uv a1] [] ((spec_l7Byte a1).map fun r => (bv r, [])) := by
  refine Ok_of3 c159 Tryz.f159 0 17 (fun q => ?_)
  unfold spec_l7Byte
  refine J_g 2 [] [(0, uv a1)] [] orcN ?_
  refine J_bind (fun x2 h3 => ?_)
  refine J_ite (fun h4 => ?_) (fun h4 => ?_)
  · refine J_g 6 [] [(2, bv true)] [] (orcC 1 (x_c0 [(.tmp 3)] [5] (spec_l1Name.ok a1) h3) (orcL 2 [(4, bv x2)] [] h4 orcN)) ?_
    exact J_r1 rfl
  · refine J_ite (fun h5 => ?_) (fun h5 => ?_)
    · refine J_g 6 [] [(2, bv true)] [] (orcC 1 (x_c0 [(.tmp 3)] [5] (spec_l1Name.ok a1) h3) (orcL 2 [(4, bv x2)] [] h4 (orcL 6 [(8, bv (a1 == 46))] [] h5 orcN))) ?_
      exact J_r1 rfl
    · refine J_ite (fun h6 => ?_) (fun h6 => ?_)
      · refine J_g 6 [] [(2, bv true)] [] (orcC 1 (x_c0 [(.tmp 3)] [5] (spec_l1Name.ok a1) h3) (orcL 2 [(4, bv x2)] [] h4 (orcL 6 [(8, bv (a1 == 46))] [] h5 (orcL 10 [(12, bv (a1 == 45))] [] h6 orcN)))) ?_
        exact J_r1 rfl
      · refine J_g 6 [] [(2, bv (a1 == 47))] [] (orcC 1 (x_c0 [(.tmp 3)] [5] (spec_l1Name.ok a1) h3) (orcL 2 [(4, bv x2)] [] h4 (orcL 6 [(8, bv (a1 == 46))] [] h5 (orcL 10 [(12, bv (a1 == 45))] [] h6 orcN)))) ?_
        exact J_r1 rfl

noncomputable def c118 : Code := (Tryz.f118.body).getD .skip

theorem spec_PathFault_l1.ok (a1 : ByteArray) (q : Wd) (kn : Unit → Option (D × List Ent)) (hk : ∀ v : Unit, J (q.g Tryz.prog 118 0 23) c118 (atI c118 15) (St.mk' [] []) (some v) kn) :
    ∀ s11 : Int, J (q.g Tryz.prog 118 0 23) c118 (atI c118 116) (St.mk' [(0, sv a1), (3, iv s11)] []) (spec_PathFault_l1 a1 s11) (Fl.go (fun r : Int => some (iv r, [])) kn) := by
  refine J_lp (fun g ih s11 => ?_)
  unfold spec_PathFault_l1b
  refine J_g 464 [] [(0, sv a1), (3, iv s11), (15, bv (decide (s11 < (a1.size : Int))))] [] orcN ?_
  refine J_if2 15 (fun h12 => ?_) (fun h12 => ?_)
  · refine J_bind (fun x13 h14 => ?_)
    refine J_bind (fun x15 h16 => ?_)
    refine J_g 1864 [] [(0, sv a1), (3, iv s11), (22, bv (!x15))] [] (orcC 2 (x_bi (kk := .i64) 9 (.tmp 18) (.tmp 19) h14) (orcC 3 (x_c0 [(.tmp 20)] [5] (spec_l7Byte.ok x13) h16) orcN)) ?_
    refine J_if2 22 (fun h17 => ?_) (fun h17 => ?_)
    · refine J_g 7460 [] [(2, iv 5)] [] orcN ?_
      exact J_r1 rfl
    · refine J_g 467 [] [(0, sv a1), (3, iv (w64 (s11 + 1)))] [] orcN ?_
      exact J_q (J_b (ih (w64 (s11 + 1)))) rfl
  · exact J_qw (hk ()) rfl

theorem spec_PathFault.ok (a1 : ByteArray) : Ok Tryz.prog 118 [sv a1] [] ((spec_PathFault a1).map fun r => (iv r, [])) := by
  refine Ok_of3 c118 Tryz.f118 0 23 (fun q => ?_)
  unfold spec_PathFault
  refine J_g 2 [] [(0, sv a1)] [] orcN ?_
  refine J_join (atI c118 13) (fun v3 : Bool => St.mk' [(0, sv a1), (11, bv v3)] []) (fun v3 => ?_) (fun jv3 => ?_)
  · refine J_if2 11 (fun h4 => ?_) (fun h4 => ?_)
    · refine J_g 52 [] [(2, iv 5)] [] orcN ?_
      exact J_r1 rfl
    · refine J_g 28 [] [(0, sv a1), (3, iv 0)] [] orcN ?_
      refine J_lqF (K0 := (fun r : Int => some (iv r, []))) (fun _ => rfl) (spec_PathFault_l1.ok a1 q _ (fun v18 => J_j ?_) 0)
      refine J_g 30 [] [(2, iv 0)] [] orcN ?_
      exact J_r1 rfl
  · refine J_ite (fun h2 => ?_) (fun h2 => ?_)
    · refine J_g 12 [] [(0, sv a1), (11, bv true)] [] (orcL 3 [(6, bv (decide ((a1.size : Int) < 1)))] [] h2 orcN) ?_
      exact J_qw (J_j (jv3 true)) rfl
    · refine J_g 12 [] [(0, sv a1), (11, bv (decide ((a1.size : Int) > 40)))] [] (orcL 3 [(6, bv (decide ((a1.size : Int) < 1)))] [] h2 orcN) ?_
      exact J_qw (J_j (jv3 (decide ((a1.size : Int) > 40)))) rfl

noncomputable def c119 : Code := (Tryz.f119.body).getD .skip

theorem spec_l7Total_l1.ok (a1 : Disk) (q : Wd) (kn : Int → Option (D × List Ent)) (hk : ∀ v : Int, J (q.g Tryz.prog 119 1 26) c119 (atI c119 15) (St.mk' [(3, iv v)] [(0, .box (Disk.enc false a1))]) (some v) kn) :
    ∀ s5 : (Int × Int), J (q.g Tryz.prog 119 1 26) c119 (atI c119 116) (St.mk' [(0, pp 0), (3, iv s5.1), (4, iv s5.2)] [(0, .box (Disk.enc false a1))]) (spec_l7Total_l1 a1 s5) kn := by
  refine J_lp (fun g ih s5 => ?_)
  unfold spec_l7Total_l1b
  refine J_g 464 [] [(0, pp 0), (3, iv s5.1), (4, iv s5.2), (11, bv (decide (s5.2 < (a1.Files.length : Int))))] [(0, .box (Disk.enc false a1))] orcN ?_
  refine J_if2 11 (fun h6 => ?_) (fun h6 => ?_)
  · refine J_bind (fun x7 h8 => ?_)
    refine J_g 932 [] [(0, pp 0), (3, iv (w64 (s5.1 + (x7.Data.length : Int)))), (4, iv s5.2)] [(0, .box (Disk.enc false a1))] (orcC 6 (x_ix (kk := .i64) 44 121 2 (File.enc false) (.tmp 18) (.tmp 19) h8) orcN) ?_
    refine J_g 467 [] [(0, pp 0), (3, iv (w64 (s5.1 + (x7.Data.length : Int)))), (4, iv (w64 (s5.2 + 1)))] [(0, .box (Disk.enc false a1))] orcN ?_
    exact J_q (J_b (ih (w64 (s5.1 + (x7.Data.length : Int)), w64 (s5.2 + 1)))) rfl
  · exact J_qw (hk s5.1) rfl

theorem spec_l7Total.ok (a1 : Disk) : Ok Tryz.prog 119 [pp 0] [.box (Disk.enc false a1)] ((spec_l7Total a1).map fun r => (iv r, [.box (Disk.enc false a1)])) := by
  refine Ok_of3 c119 Tryz.f119 1 26 (fun q => ?_)
  unfold spec_l7Total
  refine J_g 2 [] [(0, pp 0)] [(0, .box (Disk.enc false a1))] orcN ?_
  refine J_g 6 [] [(0, pp 0), (3, iv 0)] [(0, .box (Disk.enc false a1))] orcN ?_
  refine J_g 28 [] [(0, pp 0), (3, iv 0), (4, iv 0)] [(0, .box (Disk.enc false a1))] orcN ?_
  refine J_lq (spec_l7Total_l1.ok a1 q _ (fun v9 => J_j ?_) (0, 0))
  refine J_g 30 [] [(2, iv v9)] [(0, .box (Disk.enc false a1))] orcN ?_
  exact J_r1 rfl

noncomputable def c73 : Code := (Tryz.f73.body).getD .skip

theorem spec_DiskFault_l1.ok (a1 : Disk) (q : Wd) (kn : Unit → Option (D × List Ent)) (hk : ∀ v : Unit, J (q.g Tryz.prog 73 0 72) c73 (atI c73 31) (St.mk' [(1, pp 0)] [(0, .box (Disk.enc false a1))]) (some v) kn) :
    ∀ s29 : Int, J (q.g Tryz.prog 73 0 72) c73 (atI c73 244) (St.mk' [(1, pp 0), (3, iv s29)] [(0, .box (Disk.enc false a1))]) (spec_DiskFault_l1 a1 s29) (Fl.go (fun r : Int => some (iv r, [])) kn) := by
  refine J_lp (fun g ih s29 => ?_)
  unfold spec_DiskFault_l1b
  refine J_g 976 [] [(1, pp 0), (3, iv s29), (29, bv (decide (s29 < (a1.Files.length : Int))))] [(0, .box (Disk.enc false a1))] orcN ?_
  refine J_if2 29 (fun h30 => ?_) (fun h30 => ?_)
  · refine J_bind (fun x31 h32 => ?_)
    refine J_bind (fun x33 h34 => ?_)
    refine J_g 7824 [] [(1, pp 0), (3, iv s29), (4, iv x33)] [(0, .box (Disk.enc false a1))] (orcC 3 (x_ix (kk := .i64) 44 121 2 (File.enc false) (.tmp 33) (.tmp 34) h32) (orcC 6 (x_c0 [(.tmp 37)] [9] (spec_PathFault.ok x31.Path) h34) orcN)) ?_
    refine J_g 15650 [] [(1, pp 0), (3, iv s29), (4, iv x33), (40, bv (x33 != 0))] [(0, .box (Disk.enc false a1))] orcN ?_
    refine J_if2 40 (fun h35 => ?_) (fun h35 => ?_)
    · refine J_g 62604 [] [(2, iv x33)] [] orcN ?_
      exact J_r1 rfl
    · refine J_join (atI c73 15653) (fun v41 : Bool => St.mk' [(1, pp 0), (3, iv s29), (59, bv v41)] [(0, .box (Disk.enc false a1))]) (fun v41 => ?_) (fun jv41 => ?_)
      · refine J_if2 59 (fun h42 => ?_) (fun h42 => ?_)
        · refine J_g 62612 [] [(2, iv 1)] [] orcN ?_
          exact J_r1 rfl
        · refine J_bind (fun x43 h44 => ?_)
          refine J_g 15654 [] [(1, pp 0), (3, iv s29), (67, bv (decide ((x43.Data.length : Int) > 4000)))] [(0, .box (Disk.enc false a1))] (orcC 3 (x_ix (kk := .i64) 44 121 2 (File.enc false) (.tmp 61) (.tmp 62) h44) orcN) ?_
          refine J_if2 67 (fun h45 => ?_) (fun h45 => ?_)
          · refine J_g 62620 [] [(2, iv 2)] [] orcN ?_
            exact J_r1 rfl
          · refine J_g 979 [] [(1, pp 0), (3, iv (w64 (s29 + 1)))] [(0, .box (Disk.enc false a1))] orcN ?_
            exact J_q (J_b (ih (w64 (s29 + 1)))) rfl
      · refine J_ite (fun h36 => ?_) (fun h36 => ?_)
        · refine J_bind (fun x37 h38 => ?_)
          refine J_bind (fun x39 h40 => ?_)
          refine J_g 15652 [] [(1, pp 0), (3, iv s29), (59, bv (slt x37.Path x39.Path || seq x37.Path x39.Path))] [(0, .box (Disk.enc false a1))] (orcL 2 [(43, bv (decide (s29 > 0)))] [] h36 (orcH 6 2 44 true (x_ix (kk := .i64) 44 121 2 (File.enc false) (.tmp 46) (.tmp 47) h38) (orcH 13 2 44 true (x_ix (kk := .i64) 44 121 2 (File.enc false) (.tmp 52) (.tmp 54) h40) orcN))) ?_
          exact J_qw (J_j (jv41 (slt x37.Path x39.Path || seq x37.Path x39.Path))) rfl
        · refine J_g 15652 [] [(1, pp 0), (3, iv s29), (59, bv false)] [(0, .box (Disk.enc false a1))] (orcL 2 [(43, bv (decide (s29 > 0)))] [] h36 orcN) ?_
          exact J_qw (J_j (jv41 false)) rfl
  · exact J_qw (hk ()) rfl

theorem spec_DiskFault.ok (a1 : Disk) : Ok Tryz.prog 73 [.ag (Disk.enc false a1)] [] ((spec_DiskFault a1).map fun r => (iv r, [])) := by
  refine Ok_of3 c73 Tryz.f73 0 72 (fun q => ?_)
  unfold spec_DiskFault
  refine J_g 2 [(0, 0)] [(1, pp 0)] [(0, .box (Disk.enc false a1))] orcN ?_
  refine J_bind (fun x2 h3 => ?_)
  refine J_join (atI c73 13) (fun v10 : Bool => St.mk' [(1, pp 0), (20, bv v10)] [(0, .box (Disk.enc false a1))]) (fun v10 => ?_) (fun jv10 => ?_)
  · refine J_if2 20 (fun h11 => ?_) (fun h11 => ?_)
    · refine J_g 52 [] [(2, iv 3)] [] orcN ?_
      exact J_r1 rfl
    · refine J_g 28 [] [(1, pp 0), (24, bv (decide ((a1.Files.length : Int) > 120)))] [(0, .box (Disk.enc false a1))] orcN ?_
      refine J_if2 24 (fun h12 => ?_) (fun h12 => ?_)
      · refine J_g 116 [] [(2, iv 2)] [] orcN ?_
        exact J_r1 rfl
      · refine J_g 60 [] [(1, pp 0), (3, iv 0)] [(0, .box (Disk.enc false a1))] orcN ?_
        refine J_lqF (K0 := (fun r : Int => some (iv r, []))) (fun _ => rfl) (spec_DiskFault_l1.ok a1 q _ (fun v46 => J_j ?_) 0)
        refine J_bind (fun x47 h48 => ?_)
        refine J_g 124 [] [(71, bv (decide (x47 > a1.Budget)))] [] (orcC 0 (x_ro [(0, .box (Disk.enc false a1))] [] (x_c1 («as» := [pp 0]) [(.tmp 1)] [101] false [(0, .box (Disk.enc false a1))] [0] (.cons (.pt rfl) (.nil)) (spec_l7Total.ok a1) h48 (.same rfl rfl))) orcN) ?_
        refine J_if2 71 (fun h49 => ?_) (fun h49 => ?_)
        · refine J_g 500 [] [(2, iv 8)] [] orcN ?_
          exact J_r1 rfl
        · refine J_g 126 [] [(2, iv 0)] [] orcN ?_
          exact J_r1 rfl
  · refine J_ite (fun h4 => ?_) (fun h4 => ?_)
    · refine J_g 12 [] [(1, pp 0), (20, bv true)] [(0, .box (Disk.enc false a1))] (orcC 2 (x_c0 [(.tmp 6), (.const (.int .i64 0)), (.const (.int .i64 20000))] [2, 2, 2] (spec_l1In.ok a1.Budget 0 20000) h3) (orcL 4 [(8, bv (!x2))] [] h4 orcN)) ?_
      exact J_qw (J_j (jv10 true)) rfl
    · refine J_bind (fun x5 h6 => ?_)
      refine J_ite (fun h7 => ?_) (fun h7 => ?_)
      · refine J_g 12 [] [(1, pp 0), (20, bv true)] [(0, .box (Disk.enc false a1))] (orcC 2 (x_c0 [(.tmp 6), (.const (.int .i64 0)), (.const (.int .i64 20000))] [2, 2, 2] (spec_l1In.ok a1.Budget 0 20000) h3) (orcL 4 [(8, bv (!x2))] [] h4 (orcH 7 4 9 false (x_c0 [(.tmp 11), (.const (.int .i64 0)), (.const (.int .i64 1000000000))] [2, 2, 2] (spec_l1In.ok a1.Writes 0 1000000000) h6) (orcL 10 [(14, bv (!x5))] [] h7 orcN)))) ?_
        exact J_qw (J_j (jv10 true)) rfl
      · refine J_bind (fun x8 h9 => ?_)
        refine J_g 12 [] [(1, pp 0), (20, bv (!x8))] [(0, .box (Disk.enc false a1))] (orcC 2 (x_c0 [(.tmp 6), (.const (.int .i64 0)), (.const (.int .i64 20000))] [2, 2, 2] (spec_l1In.ok a1.Budget 0 20000) h3) (orcL 4 [(8, bv (!x2))] [] h4 (orcH 7 4 9 false (x_c0 [(.tmp 11), (.const (.int .i64 0)), (.const (.int .i64 1000000000))] [2, 2, 2] (spec_l1In.ok a1.Writes 0 1000000000) h6) (orcL 10 [(14, bv (!x5))] [] h7 (orcH 13 10 15 false (x_c0 [(.tmp 17), (.const (.int .i64 (-1))), (.const (.int .i64 1000000000))] [2, 2, 2] (spec_l1In.ok a1.Stop (-1) 1000000000) h9) orcN))))) ?_
        exact J_qw (J_j (jv10 (!x8))) rfl

noncomputable def c107 : Code := (Tryz.f107.body).getD .skip

theorem spec_l7Find_l1.ok (a1 : Disk) (a2 : ByteArray) (q : Wd) (kn : Unit → Option (D × List Ent)) (hk : ∀ v : Unit, J (q.g Tryz.prog 107 1 26) c107 (atI c107 7) (St.mk' [] [(0, .box (Disk.enc false a1))]) (some v) kn) :
    ∀ s7 : Int, J (q.g Tryz.prog 107 1 26) c107 (atI c107 52) (St.mk' [(0, pp 0), (1, sv a2), (5, iv s7)] [(0, .box (Disk.enc false a1))]) (spec_l7Find_l1 a1 a2 s7) (Fl.go (fun r : Int => some (iv r, [.box (Disk.enc false a1)])) kn) := by
  refine J_lp (fun g ih s7 => ?_)
  unfold spec_l7Find_l1b
  refine J_g 208 [] [(0, pp 0), (1, sv a2), (5, iv s7), (12, bv (decide (s7 < (a1.Files.length : Int))))] [(0, .box (Disk.enc false a1))] orcN ?_
  refine J_if2 12 (fun h8 => ?_) (fun h8 => ?_)
  · refine J_bind (fun x9 h10 => ?_)
    refine J_g 840 [] [(0, pp 0), (1, sv a2), (5, iv s7), (24, bv (seq x9.Path a2))] [(0, .box (Disk.enc false a1))] (orcC 5 (x_ix (kk := .i64) 44 121 2 (File.enc false) (.tmp 18) (.tmp 19) h10) orcN) ?_
    refine J_if2 24 (fun h11 => ?_) (fun h11 => ?_)
    · refine J_g 3364 [] [(4, iv s7)] [(0, .box (Disk.enc false a1))] orcN ?_
      exact J_r1 rfl
    · refine J_g 211 [] [(0, pp 0), (1, sv a2), (5, iv (w64 (s7 + 1)))] [(0, .box (Disk.enc false a1))] orcN ?_
      exact J_q (J_b (ih (w64 (s7 + 1)))) rfl
  · exact J_qw (hk ()) rfl

theorem spec_l7Find.ok (a1 : Disk) (a2 : ByteArray) : Ok Tryz.prog 107 [pp 0, sv a2] [.box (Disk.enc false a1)] ((spec_l7Find a1 a2).map fun r => (iv r, [.box (Disk.enc false a1)])) := by
  refine Ok_of3 c107 Tryz.f107 1 26 (fun q => ?_)
  unfold spec_l7Find
  refine J_g 2 [] [(0, pp 0), (1, sv a2)] [(0, .box (Disk.enc false a1))] orcN ?_
  refine J_g 12 [] [(0, pp 0), (1, sv a2), (5, iv 0)] [(0, .box (Disk.enc false a1))] orcN ?_
  refine J_lqF (K0 := (fun r : Int => some (iv r, [.box (Disk.enc false a1)]))) (fun _ => rfl) (spec_l7Find_l1.ok a1 a2 q _ (fun v12 => J_j ?_) 0)
  refine J_g 14 [] [(4, iv (-1))] [(0, .box (Disk.enc false a1))] orcN ?_
  exact J_r1 rfl

noncomputable def c190 : Code := (Tryz.f190.body).getD .skip

theorem spec_l1Parts_l1.ok (a1 : ByteArray) (a2 : Int) (q : Wd) (kn : (List ByteArray) → Option (D × List Ent)) (hk : ∀ v : (List ByteArray), J (q.g Tryz.prog 190 0 36) c190 (atI c190 31) (St.mk' [(5, rr 0 v)] [(0, rE 1 eStr v)]) (some v) kn) :
    ∀ s14 : ((List ByteArray) × Int × Int), J (q.g Tryz.prog 190 0 36) c190 (atI c190 244) (St.mk' [(0, sv a1), (1, uv a2), (5, rr 0 s14.1), (6, iv s14.2.1), (7, iv s14.2.2)] [(0, rE 1 eStr s14.1)]) (spec_l1Parts_l1 a1 a2 s14) kn := by
  refine J_lp (fun g ih s14 => ?_)
  unfold spec_l1Parts_l1b
  refine J_g 976 [] [(0, sv a1), (1, uv a2), (5, rr 0 s14.1), (6, iv s14.2.1), (7, iv s14.2.2), (12, bv (decide (s14.2.2 ≤ (a1.size : Int))))] [(0, rE 1 eStr s14.1)] orcN ?_
  refine J_if2 12 (fun h15 => ?_) (fun h15 => ?_)
  · refine J_join (atI c190 3913) (fun v19 : Bool => St.mk' [(0, sv a1), (1, uv a2), (5, rr 0 s14.1), (6, iv s14.2.1), (7, iv s14.2.2), (25, bv v19)] [(0, rE 1 eStr s14.1)]) (fun v19 => ?_) (fun jv19 => ?_)
    · refine J_join (aft c190 1956) (fun v25 : ((List ByteArray) × Int) => St.mk' [(0, sv a1), (1, uv a2), (5, rr 2 v25.1), (6, iv v25.2), (7, iv s14.2.2)] [(2, rE 1 eStr v25.1)]) (fun v25 => ?_) (fun jv25 => ?_)
      · refine J_g 979 [] [(0, sv a1), (1, uv a2), (5, rr 2 v25.1), (6, iv v25.2), (7, iv (w64 (s14.2.2 + 1)))] [(2, rE 1 eStr v25.1)] orcN ?_
        refine J_ren 2 0 (Nat.le_of_ble_eq_true rfl) (Nat.le_of_ble_eq_true rfl) ?_
        exact J_q (J_b (ih (v25.1, v25.2, w64 (s14.2.2 + 1)))) rfl
      · refine J_if2 25 (fun h20 => ?_) (fun h20 => ?_)
        · refine J_bind (fun x21 h22 => ?_)
          refine J_bind (fun x23 h24 => ?_)
          refine J_g 15652 [] [(0, sv a1), (1, uv a2), (5, rr 2 x23), (7, iv s14.2.2)] [(2, rE 1 eStr x23)] (orcC 4 (x_ss 9 (.tmp 27) (some (.tmp 28)) (some (.tmp 29)) h22) (orcC 5 (x_bp 73 9 1 1 eStr [x21] [0] [(.tmp 30)] [sv x21]) (orcC 6 (x_ap 73 73 9 9 1 16 2 0 1 eStr (.tmp 26) (.tmp 31) h24) orcN))) ?_
          refine J_g 15653 [] [(0, sv a1), (1, uv a2), (5, rr 2 x23), (6, iv (w64 (s14.2.2 + 1))), (7, iv s14.2.2)] [(2, rE 1 eStr x23)] orcN ?_
          exact J_qw (J_j (jv25 (x23, w64 (s14.2.2 + 1)))) rfl
        · refine J_ren 0 2 (Nat.le_of_ble_eq_true rfl) (Nat.le_of_ble_eq_true rfl) ?_
          exact J_qw (J_j (jv25 (s14.1, s14.2.1))) rfl
    · refine J_ite (fun h16 => ?_) (fun h16 => ?_)
      · refine J_g 3912 [] [(0, sv a1), (1, uv a2), (5, rr 0 s14.1), (6, iv s14.2.1), (7, iv s14.2.2), (25, bv true)] [(0, rE 1 eStr s14.1)] (orcL 4 [(18, bv (s14.2.2 == (a1.size : Int)))] [] h16 orcN) ?_
        exact J_qw (J_j (jv19 true)) rfl
      · refine J_bind (fun x17 h18 => ?_)
        refine J_g 3912 [] [(0, sv a1), (1, uv a2), (5, rr 0 s14.1), (6, iv s14.2.1), (7, iv s14.2.2), (25, bv (x17 == a2))] [(0, rE 1 eStr s14.1)] (orcL 4 [(18, bv (s14.2.2 == (a1.size : Int)))] [] h16 (orcH 7 4 19 false (x_bi (kk := .i64) 9 (.tmp 20) (.tmp 21) h18) orcN)) ?_
        exact J_qw (J_j (jv19 (x17 == a2))) rfl
  · exact J_qw (hk s14.1) rfl

theorem spec_l1Parts.ok (a1 : ByteArray) (a2 : Int) : Ok Tryz.prog 190 [sv a1, uv a2] [] ((spec_l1Parts a1 a2).map fun r => (so 1 eStr r, [])) := by
  refine Ok_of3 c190 Tryz.f190 0 36 (fun q => ?_)
  unfold spec_l1Parts
  refine J_g 2 [] [(0, sv a1), (1, uv a2)] [] orcN ?_
  refine J_g 6 [] [(0, sv a1), (1, uv a2), (5, rr 0 ([] : List ByteArray))] [(0, rE 1 eStr ([] : List ByteArray))] (orcC 0 (x_bp 73 9 1 0 eStr ([] : List ByteArray) [] [] []) orcN) ?_
  refine J_g 14 [] [(0, sv a1), (1, uv a2), (5, rr 0 ([] : List ByteArray)), (6, iv 0)] [(0, rE 1 eStr ([] : List ByteArray))] orcN ?_
  refine J_g 60 [] [(0, sv a1), (1, uv a2), (5, rr 0 ([] : List ByteArray)), (6, iv 0), (7, iv 0)] [(0, rE 1 eStr ([] : List ByteArray))] orcN ?_
  refine J_lq (spec_l1Parts_l1.ok a1 a2 q _ (fun v26 => J_j ?_) (([] : List ByteArray), 0, 0))
  refine J_g 62 [] [(4, rr 0 v26)] [(0, rE 1 eStr v26)] orcN ?_
  exact J_rm (ds := [rr 0 v26]) (ds' := [so 1 eStr v26]) (.cons (.cell (.move (.head _) (List.length_map _) (by decide) (.nil))) (.nil) (by decide)) rfl

noncomputable def c160 : Code := (Tryz.f160.body).getD .skip

theorem spec_l2Lines.ok (a1 : ByteArray) : Ok Tryz.prog 160 [sv a1] [] ((spec_l2Lines a1).map fun r => (so 1 eStr r, [])) := by
  refine Ok_of3 c160 Tryz.f160 0 19 (fun q => ?_)
  unfold spec_l2Lines
  refine J_g 2 [] [(0, sv a1)] [] orcN ?_
  refine J_bind (fun x2 h3 => ?_)
  refine J_g 6 [] [(3, rr 0 x2)] [(0, rE 1 eStr x2)] (orcC 1 (x_c1 («as» := [sv a1, uv 10]) [(.tmp 4), (.const (.int .u8 10))] [9, 5] false [] [] (.cons (.same rfl) (.cons (.same rfl) (.nil))) (spec_l1Parts.ok a1 10) h3 (.own 0)) orcN) ?_
  refine J_bind (fun x4 h5 => ?_)
  refine J_g 28 [] [(3, rr 0 x2), (12, bv (seq x4 (bs [])))] [(0, rE 1 eStr x2)] (orcC 4 (x_ixr (kk := .i64) 73 9 1 0 eStr (.tmp 6) (.tmp 9) h5) (orcC 5 (x_ldr (d := sv x4) 9 1 0 0 eStr (.tmp 10) h5 (by kernel_rfl)) orcN)) ?_
  refine J_join (atI c160 15) (fun v9 : (List ByteArray) => St.mk' [(3, rr 1 v9)] [(1, rE 1 eStr v9)]) (fun v9 => ?_) (fun jv9 => ?_)
  · refine J_g 30 [] [(2, rr 1 v9)] [(1, rE 1 eStr v9)] orcN ?_
    exact J_rm (ds := [rr 1 v9]) (ds' := [so 1 eStr v9]) (.cons (.cell (.move (.head _) (List.length_map _) (by decide) (.nil))) (.nil) (by decide)) rfl
  · refine J_if2 12 (fun h6 => ?_) (fun h6 => ?_)
    · refine J_bind (fun x7 h8 => ?_)
      refine J_g 58 [] [(3, rr 1 x7)] [(1, rE 1 eStr x7)] (orcC 4 (x_cut 73 9 1 0 1 eStr (.tmp 13) none (some (.tmp 16)) h8) orcN) ?_
      exact J_qw (J_j (jv9 x7)) rfl
    · refine J_ren 0 1 (Nat.le_of_ble_eq_true rfl) (Nat.le_of_ble_eq_true rfl) ?_
      exact J_qw (J_j (jv9 x2)) rfl

noncomputable def c137 : Code := (Tryz.f137.body).getD .skip

theorem spec_l1Top.ok  : Ok Tryz.prog 137 [] [] ((spec_l1Top).map fun r => (.ag (Version.enc r), [])) := by
  refine Ok_of3 c137 Tryz.f137 0 2 (fun q => ?_)
  unfold spec_l1Top
  refine J_g 2 [(0, 0)] [(0, pp 0)] [(0, .box [iv 0, iv 0, iv 0])] orcN ?_
  refine J_g 6 [] [(0, pp 0)] [(0, .box [iv 1000, iv 0, iv 0])] orcN ?_
  exact J_r1 rfl

noncomputable def c191 : Code := (Tryz.f191.body).getD .skip

theorem spec_AnyTerm.ok (a1 : ByteArray) : Ok Tryz.prog 191 [sv a1] [] ((spec_AnyTerm a1).map fun r => (.ag (Term.enc r), [])) := by
  refine Ok_of3 c191 Tryz.f191 0 6 (fun q => ?_)
  unfold spec_AnyTerm
  refine J_g 2 [(0, 0)] [(0, sv a1), (2, pp 0)] [(0, .box [sv ByteArray.empty, iv 0, iv 0, iv 0, iv 0, iv 0, iv 0])] orcN ?_
  refine J_bind (fun x2 h3 => ?_)
  refine J_g 6 [] [(2, pp 0)] [(0, .box [sv a1, iv 0, iv 0, iv 0, iv x2.A, iv x2.B, iv x2.C])] (orcC 1 (x_c0 [] [] (spec_l1Top.ok) h3) orcN) ?_
  exact J_r1 rfl

noncomputable def c133 : Code := (Tryz.f133.body).getD .skip

theorem spec_NameFault_l1.ok (a1 : ByteArray) (q : Wd) (kn : Unit → Option (D × List Ent)) (hk : ∀ v : Unit, J (q.g Tryz.prog 133 0 29) c133 (atI c133 15) (St.mk' [] []) (some v) kn) :
    ∀ s16 : Int, J (q.g Tryz.prog 133 0 29) c133 (atI c133 116) (St.mk' [(0, sv a1), (3, iv s16)] []) (spec_NameFault_l1 a1 s16) (Fl.go (fun r : Int => some (iv r, [])) kn) := by
  refine J_lp (fun g ih s16 => ?_)
  unfold spec_NameFault_l1b
  refine J_g 464 [] [(0, sv a1), (3, iv s16), (21, bv (decide (s16 < (a1.size : Int))))] [] orcN ?_
  refine J_if2 21 (fun h17 => ?_) (fun h17 => ?_)
  · refine J_bind (fun x18 h19 => ?_)
    refine J_bind (fun x20 h21 => ?_)
    refine J_g 1864 [] [(0, sv a1), (3, iv s16), (28, bv (!x20))] [] (orcC 2 (x_bi (kk := .i64) 9 (.tmp 24) (.tmp 25) h19) (orcC 3 (x_c0 [(.tmp 26)] [5] (spec_l1Name.ok x18) h21) orcN)) ?_
    refine J_if2 28 (fun h22 => ?_) (fun h22 => ?_)
    · refine J_g 7460 [] [(2, iv 5)] [] orcN ?_
      exact J_r1 rfl
    · refine J_g 467 [] [(0, sv a1), (3, iv (w64 (s16 + 1)))] [] orcN ?_
      exact J_q (J_b (ih (w64 (s16 + 1)))) rfl
  · exact J_qw (hk ()) rfl

theorem spec_NameFault.ok (a1 : ByteArray) : Ok Tryz.prog 133 [sv a1] [] ((spec_NameFault a1).map fun r => (iv r, [])) := by
  refine Ok_of3 c133 Tryz.f133 0 29 (fun q => ?_)
  unfold spec_NameFault
  refine J_g 2 [] [(0, sv a1)] [] orcN ?_
  refine J_join (atI c133 13) (fun v8 : Bool => St.mk' [(0, sv a1), (17, bv v8)] []) (fun v8 => ?_) (fun jv8 => ?_)
  · refine J_if2 17 (fun h9 => ?_) (fun h9 => ?_)
    · refine J_g 52 [] [(2, iv 5)] [] orcN ?_
      exact J_r1 rfl
    · refine J_g 28 [] [(0, sv a1), (3, iv 0)] [] orcN ?_
      refine J_lqF (K0 := (fun r : Int => some (iv r, []))) (fun _ => rfl) (spec_NameFault_l1.ok a1 q _ (fun v23 => J_j ?_) 0)
      refine J_g 30 [] [(2, iv 0)] [] orcN ?_
      exact J_r1 rfl
  · refine J_ite (fun h2 => ?_) (fun h2 => ?_)
    · refine J_g 12 [] [(0, sv a1), (17, bv true)] [] (orcL 3 [(6, bv (decide ((a1.size : Int) < 1)))] [] h2 orcN) ?_
      exact J_qw (J_j (jv8 true)) rfl
    · refine J_ite (fun h3 => ?_) (fun h3 => ?_)
      · refine J_g 12 [] [(0, sv a1), (17, bv true)] [] (orcL 3 [(6, bv (decide ((a1.size : Int) < 1)))] [] h2 (orcL 8 [(11, bv (decide ((a1.size : Int) > 12)))] [] h3 orcN)) ?_
        exact J_qw (J_j (jv8 true)) rfl
      · refine J_bind (fun x4 h5 => ?_)
        refine J_bind (fun x6 h7 => ?_)
        refine J_g 12 [] [(0, sv a1), (17, bv (!x6))] [] (orcL 3 [(6, bv (decide ((a1.size : Int) < 1)))] [] h2 (orcL 8 [(11, bv (decide ((a1.size : Int) > 12)))] [] h3 (orcH 10 8 12 false (x_bi (kk := .i64) 9 (.tmp 13) (.const (.int .i64 0)) h5) (orcH 11 8 12 false (x_c0 [(.tmp 14)] [5] (spec_l1Letter.ok x4) h7) orcN)))) ?_
        exact J_qw (J_j (jv8 (!x6))) rfl

noncomputable def c172 : Code := (Tryz.f172.body).getD .skip

theorem spec_l1Number_l1.ok (a1 : ByteArray) (q : Wd) (kn : Int → Option (D × List Ent)) (hk : ∀ v : Int, J (q.g Tryz.prog 172 0 37) c172 (atI c172 31) (St.mk' [(6, iv v)] []) (some v) kn) :
    ∀ s14 : (Int × Int), J (q.g Tryz.prog 172 0 37) c172 (atI c172 244) (St.mk' [(0, sv a1), (6, iv s14.1), (7, iv s14.2)] []) (spec_l1Number_l1 a1 s14) (Fl.go (fun r : (Int × Bool) => some (.tu [iv r.1, bv r.2], [])) kn) := by
  refine J_lp (fun g ih s14 => ?_)
  unfold spec_l1Number_l1b
  refine J_g 976 [] [(0, sv a1), (6, iv s14.1), (7, iv s14.2), (20, bv (decide (s14.2 < (a1.size : Int))))] [] orcN ?_
  refine J_if2 20 (fun h15 => ?_) (fun h15 => ?_)
  · refine J_bind (fun x16 h17 => ?_)
    refine J_bind (fun x18 h19 => ?_)
    refine J_g 7824 [] [(0, sv a1), (6, iv s14.1), (7, iv s14.2), (27, bv (!x18))] [] (orcC 2 (x_bi (kk := .i64) 9 (.tmp 23) (.tmp 24) h17) (orcC 3 (x_c0 [(.tmp 25)] [5] (spec_l1Digit.ok x16) h19) orcN)) ?_
    refine J_if2 27 (fun h20 => ?_) (fun h20 => ?_)
    · refine J_g 31300 [] [(4, iv 0), (5, bv false)] [] orcN ?_
      exact J_rT rfl
    · refine J_bind (fun x21 h22 => ?_)
      refine J_g 3913 [] [(0, sv a1), (6, iv (w64 ((w64 (s14.1 * 10)) + (w64 (IntKind.u8.wrap (x21 - 48)))))), (7, iv s14.2)] [] (orcC 4 (x_bi (kk := .i64) 9 (.tmp 30) (.tmp 31) h22) orcN) ?_
      refine J_g 979 [] [(0, sv a1), (6, iv (w64 ((w64 (s14.1 * 10)) + (w64 (IntKind.u8.wrap (x21 - 48)))))), (7, iv (w64 (s14.2 + 1)))] [] orcN ?_
      exact J_q (J_b (ih (w64 ((w64 (s14.1 * 10)) + (w64 (IntKind.u8.wrap (x21 - 48)))), w64 (s14.2 + 1)))) rfl
  · exact J_qw (hk s14.1) rfl

theorem spec_l1Number.ok (a1 : ByteArray) (a2 : Int) : Ok Tryz.prog 172 [sv a1, iv a2] [] ((spec_l1Number a1 a2).map fun r => (.tu [iv r.1, bv r.2], [])) := by
  refine Ok_of3 c172 Tryz.f172 0 37 (fun q => ?_)
  unfold spec_l1Number
  refine J_g 2 [] [(0, sv a1), (1, iv a2)] [] orcN ?_
  refine J_join (atI c172 13) (fun v4 : Bool => St.mk' [(0, sv a1), (16, bv v4)] []) (fun v4 => ?_) (fun jv4 => ?_)
  · refine J_if2 16 (fun h5 => ?_) (fun h5 => ?_)
    · refine J_g 52 [] [(4, iv 0), (5, bv false)] [] orcN ?_
      exact J_rT rfl
    · refine J_g 14 [] [(0, sv a1), (6, iv 0)] [] orcN ?_
      refine J_g 60 [] [(0, sv a1), (6, iv 0), (7, iv 0)] [] orcN ?_
      refine J_lqF (K0 := (fun r : (Int × Bool) => some (.tu [iv r.1, bv r.2], []))) (fun _ => rfl) (spec_l1Number_l1.ok a1 q _ (fun v23 => J_j ?_) (0, 0))
      refine J_g 62 [] [(4, iv v23), (5, bv true)] [] orcN ?_
      exact J_rT rfl
  · refine J_ite (fun h3 => ?_) (fun h3 => ?_)
    · refine J_g 12 [] [(0, sv a1), (16, bv true)] [] (orcL 3 [(10, bv (decide ((a1.size : Int) < 1)))] [] h3 orcN) ?_
      exact J_qw (J_j (jv4 true)) rfl
    · refine J_g 12 [] [(0, sv a1), (16, bv (decide ((a1.size : Int) > a2)))] [] (orcL 3 [(10, bv (decide ((a1.size : Int) < 1)))] [] h3 orcN) ?_
      exact J_qw (J_j (jv4 (decide ((a1.size : Int) > a2)))) rfl

noncomputable def c192 : Code := (Tryz.f192.body).getD .skip

theorem spec_ParseVersion_l1.ok (x2 : (List ByteArray)) (q : Wd) (kn : (List Int) → Option (D × List Ent)) (hk : ∀ v : (List Int), J (q.g Tryz.prog 192 0 47) c192 (atI c192 63) (St.mk' [(2, pp 0), (4, rr 2 v)] [(0, .box [iv 0, iv 0, iv 0, iv 0]), (2, rE 1 eI64 v)]) (some v) kn) :
    ∀ s13 : ((List Int) × Int), J (q.g Tryz.prog 192 0 47) c192 (atI c192 500) (St.mk' [(2, pp 0), (3, rr 1 x2), (4, rr 2 s13.1), (5, iv s13.2)] [(0, .box [iv 0, iv 0, iv 0, iv 0]), (1, rE 1 eStr x2), (2, rE 1 eI64 s13.1)]) (spec_ParseVersion_l1 x2 s13) (Fl.go (fun r : VersionResult => some (.ag (VersionResult.enc r), [])) kn) := by
  refine J_lp (fun g ih s13 => ?_)
  unfold spec_ParseVersion_l1b
  refine J_g 2000 [] [(2, pp 0), (3, rr 1 x2), (4, rr 2 s13.1), (5, iv s13.2), (18, bv (decide (s13.2 < (x2.length : Int))))] [(0, .box [iv 0, iv 0, iv 0, iv 0]), (1, rE 1 eStr x2), (2, rE 1 eI64 s13.1)] orcN ?_
  refine J_if2 18 (fun h14 => ?_) (fun h14 => ?_)
  · refine J_bind (fun x15 h16 => ?_)
    refine J_bind (fun x17 h18 => ?_)
    refine J_g 8008 [] [(2, pp 0), (3, rr 1 x2), (4, rr 2 s13.1), (5, iv s13.2), (6, iv x17.1), (7, bv x17.2)] [(0, .box [iv 0, iv 0, iv 0, iv 0]), (1, rE 1 eStr x2), (2, rE 1 eI64 s13.1)] (orcC 2 (x_ixr (kk := .i64) 73 9 1 1 eStr (.tmp 22) (.tmp 23) h16) (orcC 3 (x_ldr (d := sv x15) 9 1 1 0 eStr (.tmp 24) h16 (by kernel_rfl)) (orcC 4 (x_c0 [(.tmp 25), (.const (.int .i64 3))] [9, 3] (spec_l1Number.ok x15 3) h18) orcN))) ?_
    refine J_g 32036 [] [(2, pp 0), (3, rr 1 x2), (4, rr 2 s13.1), (5, iv s13.2), (6, iv x17.1), (30, bv (!x17.2))] [(0, .box [iv 0, iv 0, iv 0, iv 0]), (1, rE 1 eStr x2), (2, rE 1 eI64 s13.1)] orcN ?_
    refine J_if2 30 (fun h19 => ?_) (fun h19 => ?_)
    · refine J_g 128148 [] [(2, pp 0)] [(0, .box [iv 5, iv 0, iv 0, iv 0])] orcN ?_
      exact J_r1 rfl
    · refine J_bind (fun x20 h21 => ?_)
      refine J_g 16019 [] [(2, pp 0), (3, rr 1 x2), (4, rr 2 s13.1), (5, iv s13.2)] [(0, .box [iv 0, iv 0, iv 0, iv 0]), (1, rE 1 eStr x2), (2, rE 1 eI64 (s13.1.set s13.2.toNat x17.1))] (orcC 3 (x_ixr (kk := .i64) 41 2 1 2 eI64 (.tmp 32) (.tmp 33) h21) (orcD 4 (x_st (b := x17.1) 2 1 2 0 eI64 (iv x17.1) (.tmp 35) (.tmp 34) h21 rfl) orcN)) ?_
      refine J_st (σ' := St.mk' [(2, pp 0), (3, rr 1 x2), (4, rr 2 (s13.1.set s13.2.toNat x17.1)), (5, iv s13.2)] [(0, .box [iv 0, iv 0, iv 0, iv 0]), (1, rE 1 eStr x2), (2, rE 1 eI64 (s13.1.set s13.2.toNat x17.1))]) (by simp only [rr, List.length_set]) ?_
      refine J_g 2003 [] [(2, pp 0), (3, rr 1 x2), (4, rr 2 (s13.1.set s13.2.toNat x17.1)), (5, iv (w64 (s13.2 + 1)))] [(0, .box [iv 0, iv 0, iv 0, iv 0]), (1, rE 1 eStr x2), (2, rE 1 eI64 (s13.1.set s13.2.toNat x17.1))] orcN ?_
      exact J_q (J_b (ih (s13.1.set s13.2.toNat x17.1, w64 (s13.2 + 1)))) rfl
  · exact J_qw (hk s13.1) rfl

theorem spec_ParseVersion.ok (a1 : ByteArray) : Ok Tryz.prog 192 [sv a1] [] ((spec_ParseVersion a1).map fun r => (.ag (VersionResult.enc r), [])) := by
  refine Ok_of3 c192 Tryz.f192 0 47 (fun q => ?_)
  unfold spec_ParseVersion
  refine J_g 2 [(0, 0)] [(0, sv a1), (2, pp 0)] [(0, .box [iv 0, iv 0, iv 0, iv 0])] orcN ?_
  refine J_bind (fun x2 h3 => ?_)
  refine J_g 6 [] [(2, pp 0), (3, rr 1 x2)] [(0, .box [iv 0, iv 0, iv 0, iv 0]), (1, rE 1 eStr x2)] (orcC 1 (x_c1 («as» := [sv a1, uv 46]) [(.tmp 8), (.const (.int .u8 46))] [9, 5] false [] [] (.cons (.same rfl) (.cons (.same rfl) (.nil))) (spec_l1Parts.ok a1 46) h3 (.own 1)) orcN) ?_
  refine J_g 28 [] [(2, pp 0), (3, rr 1 x2), (12, bv (decide ((x2.length : Int) > 3)))] [(0, .box [iv 0, iv 0, iv 0, iv 0]), (1, rE 1 eStr x2)] orcN ?_
  refine J_if2 12 (fun h4 => ?_) (fun h4 => ?_)
  · refine J_g 116 [] [(2, pp 0)] [(0, .box [iv 5, iv 0, iv 0, iv 0])] orcN ?_
    exact J_r1 rfl
  · refine J_g 30 [] [(2, pp 0), (3, rr 1 x2), (4, rr 2 [0, 0, 0])] [(0, .box [iv 0, iv 0, iv 0, iv 0]), (1, rE 1 eStr x2), (2, rE 1 eI64 [0, 0, 0])] (orcC 0 (x_bp 41 2 1 2 eI64 [0, 0, 0] [0, 1, 2] [(.const (.int .i64 0)), (.const (.int .i64 0)), (.const (.int .i64 0))] [iv 0, iv 0, iv 0]) orcN) ?_
    refine J_g 124 [] [(2, pp 0), (3, rr 1 x2), (4, rr 2 [0, 0, 0]), (5, iv 0)] [(0, .box [iv 0, iv 0, iv 0, iv 0]), (1, rE 1 eStr x2), (2, rE 1 eI64 [0, 0, 0])] orcN ?_
    refine J_lqF (K0 := (fun r : VersionResult => some (.ag (VersionResult.enc r), []))) (fun _ => rfl) (spec_ParseVersion_l1.ok x2 q _ (fun v22 => J_j ?_) ([0, 0, 0], 0))
    refine J_bind (fun x23 h24 => ?_)
    refine J_bind (fun x25 h26 => ?_)
    refine J_bind (fun x27 h28 => ?_)
    refine J_g 126 [] [(2, pp 0)] [(0, .box [iv 0, iv x23, iv x25, iv x27])] (orcC 1 (x_ixr (kk := .i64) 41 2 1 2 eI64 (.tmp 36) (.const (.int .i64 0)) h24) (orcC 2 (x_ldr (d := iv x23) 2 1 2 0 eI64 (.tmp 37) h24 (by kernel_rfl)) (orcC 4 (x_ixr (kk := .i64) 41 2 1 2 eI64 (.tmp 39) (.const (.int .i64 1)) h26) (orcC 5 (x_ldr (d := iv x25) 2 1 2 0 eI64 (.tmp 40) h26 (by kernel_rfl)) (orcC 7 (x_ixr (kk := .i64) 41 2 1 2 eI64 (.tmp 42) (.const (.int .i64 2)) h28) (orcC 8 (x_ldr (d := iv x27) 2 1 2 0 eI64 (.tmp 43) h28 (by kernel_rfl)) orcN)))))) ?_
    exact J_r1 rfl

noncomputable def c134 : Code := (Tryz.f134.body).getD .skip

theorem spec_VersionFault.ok (a1 : Version) : Ok Tryz.prog 134 [.ag (Version.enc a1)] [] ((spec_VersionFault a1).map fun r => (iv r, [])) := by
  refine Ok_of3 c134 Tryz.f134 0 19 (fun q => ?_)
  unfold spec_VersionFault
  refine J_g 2 [(0, 0)] [(1, pp 0)] [(0, .box (Version.enc a1))] orcN ?_
  refine J_bind (fun x2 h3 => ?_)
  refine J_join (atI c134 13) (fun v10 : Bool => St.mk' [(18, bv v10)] []) (fun v10 => ?_) (fun jv10 => ?_)
  · refine J_if2 18 (fun h11 => ?_) (fun h11 => ?_)
    · refine J_g 52 [] [(2, iv 3)] [] orcN ?_
      exact J_r1 rfl
    · refine J_g 14 [] [(2, iv 0)] [] orcN ?_
      exact J_r1 rfl
  · refine J_ite (fun h4 => ?_) (fun h4 => ?_)
    · refine J_g 12 [] [(18, bv true)] [] (orcC 2 (x_c0 [(.tmp 4), (.const (.int .i64 0)), (.const (.int .i64 999))] [2, 2, 2] (spec_l1In.ok a1.A 0 999) h3) (orcL 4 [(6, bv (!x2))] [] h4 orcN)) ?_
      exact J_qw (J_j (jv10 true)) rfl
    · refine J_bind (fun x5 h6 => ?_)
      refine J_ite (fun h7 => ?_) (fun h7 => ?_)
      · refine J_g 12 [] [(18, bv true)] [] (orcC 2 (x_c0 [(.tmp 4), (.const (.int .i64 0)), (.const (.int .i64 999))] [2, 2, 2] (spec_l1In.ok a1.A 0 999) h3) (orcL 4 [(6, bv (!x2))] [] h4 (orcH 7 4 7 false (x_c0 [(.tmp 9), (.const (.int .i64 0)), (.const (.int .i64 999))] [2, 2, 2] (spec_l1In.ok a1.B 0 999) h6) (orcL 10 [(12, bv (!x5))] [] h7 orcN)))) ?_
        exact J_qw (J_j (jv10 true)) rfl
      · refine J_bind (fun x8 h9 => ?_)
        refine J_g 12 [] [(18, bv (!x8))] [] (orcC 2 (x_c0 [(.tmp 4), (.const (.int .i64 0)), (.const (.int .i64 999))] [2, 2, 2] (spec_l1In.ok a1.A 0 999) h3) (orcL 4 [(6, bv (!x2))] [] h4 (orcH 7 4 7 false (x_c0 [(.tmp 9), (.const (.int .i64 0)), (.const (.int .i64 999))] [2, 2, 2] (spec_l1In.ok a1.B 0 999) h6) (orcL 10 [(12, bv (!x5))] [] h7 (orcH 13 10 13 false (x_c0 [(.tmp 15), (.const (.int .i64 0)), (.const (.int .i64 999))] [2, 2, 2] (spec_l1In.ok a1.C 0 999) h9) orcN))))) ?_
        exact J_qw (J_j (jv10 (!x8))) rfl

noncomputable def c180 : Code := (Tryz.f180.body).getD .skip

theorem spec_l1Sign.ok (a1 : Int) (a2 : Int) : Ok Tryz.prog 180 [iv a1, iv a2] [] ((spec_l1Sign a1 a2).map fun r => (iv r, [])) := by
  refine Ok_of3 c180 Tryz.f180 0 11 (fun q => ?_)
  unfold spec_l1Sign
  refine J_g 2 [] [(0, iv a1), (1, iv a2)] [] orcN ?_
  refine J_g 12 [] [(0, iv a1), (1, iv a2), (7, bv (decide (a1 < a2)))] [] orcN ?_
  refine J_if2 7 (fun h3 => ?_) (fun h3 => ?_)
  · refine J_g 52 [] [(4, iv (-1))] [] orcN ?_
    exact J_r1 rfl
  · refine J_g 28 [] [(10, bv (decide (a1 > a2)))] [] orcN ?_
    refine J_if2 10 (fun h4 => ?_) (fun h4 => ?_)
    · refine J_g 116 [] [(4, iv 1)] [] orcN ?_
      exact J_r1 rfl
    · refine J_g 30 [] [(4, iv 0)] [] orcN ?_
      exact J_r1 rfl

noncomputable def c136 : Code := (Tryz.f136.body).getD .skip

theorem spec_CompareVersions.ok (a1 : Version) (a2 : Version) : Ok Tryz.prog 136 [.ag (Version.enc a1), .ag (Version.enc a2)] [] ((spec_CompareVersions a1 a2).map fun r => (iv r, [])) := by
  refine Ok_of3 c136 Tryz.f136 0 28 (fun q => ?_)
  unfold spec_CompareVersions
  refine J_g 2 [(0, 0), (1, 1)] [(2, pp 0), (3, pp 1)] [(0, .box (Version.enc a1)), (1, .box (Version.enc a2))] orcN ?_
  refine J_bind (fun x3 h4 => ?_)
  refine J_g 12 [] [(2, pp 0), (3, pp 1), (5, iv x3)] [(0, .box (Version.enc a1)), (1, .box (Version.enc a2))] (orcC 4 (x_c0 [(.tmp 8), (.tmp 10)] [2, 2] (spec_l1Sign.ok a1.A a2.A) h4) orcN) ?_
  refine J_g 26 [] [(2, pp 0), (3, pp 1), (5, iv x3), (13, bv (x3 != 0))] [(0, .box (Version.enc a1)), (1, .box (Version.enc a2))] orcN ?_
  refine J_if2 13 (fun h5 => ?_) (fun h5 => ?_)
  · refine J_g 108 [] [(4, iv x3)] [] orcN ?_
    exact J_r1 rfl
  · refine J_bind (fun x6 h7 => ?_)
    refine J_g 28 [] [(2, pp 0), (3, pp 1), (6, iv x6)] [(0, .box (Version.enc a1)), (1, .box (Version.enc a2))] (orcC 4 (x_c0 [(.tmp 16), (.tmp 18)] [2, 2] (spec_l1Sign.ok a1.B a2.B) h7) orcN) ?_
    refine J_g 58 [] [(2, pp 0), (3, pp 1), (6, iv x6), (21, bv (x6 != 0))] [(0, .box (Version.enc a1)), (1, .box (Version.enc a2))] orcN ?_
    refine J_if2 21 (fun h8 => ?_) (fun h8 => ?_)
    · refine J_g 236 [] [(4, iv x6)] [] orcN ?_
      exact J_r1 rfl
    · refine J_bind (fun x9 h10 => ?_)
      refine J_g 30 [] [(4, iv x9)] [] (orcC 4 (x_c0 [(.tmp 24), (.tmp 26)] [2, 2] (spec_l1Sign.ok a1.C a2.C) h10) orcN) ?_
      exact J_r1 rfl

noncomputable def c87 : Code := (Tryz.f87.body).getD .skip

theorem spec_TermFault.ok (a1 : Term) : Ok Tryz.prog 87 [.ag (Term.enc a1)] [] ((spec_TermFault a1).map fun r => (iv r, [])) := by
  refine Ok_of3 c87 Tryz.f87 0 33 (fun q => ?_)
  unfold spec_TermFault
  refine J_g 2 [(0, 0)] [(1, pp 0)] [(0, .box (Term.enc a1))] orcN ?_
  refine J_bind (fun x2 h3 => ?_)
  refine J_g 12 [] [(1, pp 0), (3, iv x2)] [(0, .box (Term.enc a1))] (orcC 2 (x_c0 [(.tmp 6)] [9] (spec_NameFault.ok a1.Name) h3) orcN) ?_
  refine J_g 26 [] [(1, pp 0), (3, iv x2), (9, bv (x2 != 0))] [(0, .box (Term.enc a1))] orcN ?_
  refine J_if2 9 (fun h4 => ?_) (fun h4 => ?_)
  · refine J_g 108 [] [(2, iv x2)] [] orcN ?_
    exact J_r1 rfl
  · refine J_bind (fun x5 h6 => ?_)
    refine J_g 28 [] [(1, pp 0), (4, iv x5)] [(0, .box (Term.enc a1))] (orcC 2 (x_c0 [(.tmp 12)] [83] (spec_VersionFault.ok a1.Low) h6) orcN) ?_
    refine J_g 58 [] [(1, pp 0), (4, iv x5), (15, bv (x5 != 0))] [(0, .box (Term.enc a1))] orcN ?_
    refine J_if2 15 (fun h7 => ?_) (fun h7 => ?_)
    · refine J_g 236 [] [(2, iv x5)] [] orcN ?_
      exact J_r1 rfl
    · refine J_bind (fun x8 h9 => ?_)
      refine J_join (atI c87 61) (fun v13 : Bool => St.mk' [(1, pp 0), (26, bv v13)] [(0, .box (Term.enc a1))]) (fun v13 => ?_) (fun jv13 => ?_)
      · refine J_if2 26 (fun h14 => ?_) (fun h14 => ?_)
        · refine J_g 244 [] [(2, iv 3)] [] orcN ?_
          exact J_r1 rfl
        · refine J_bind (fun x15 h16 => ?_)
          refine J_g 124 [] [(32, bv (decide (x15 ≥ 0)))] [] (orcC 4 (x_c0 [(.tmp 28), (.tmp 30)] [83, 83] (spec_CompareVersions.ok a1.Low a1.High) h16) orcN) ?_
          refine J_if2 32 (fun h17 => ?_) (fun h17 => ?_)
          · refine J_g 500 [] [(2, iv 1)] [] orcN ?_
            exact J_r1 rfl
          · refine J_g 126 [] [(2, iv 0)] [] orcN ?_
            exact J_r1 rfl
      · refine J_ite (fun h10 => ?_) (fun h10 => ?_)
        · refine J_bind (fun x11 h12 => ?_)
          refine J_g 60 [] [(1, pp 0), (26, bv (x11 != 0))] [(0, .box (Term.enc a1))] (orcC 2 (x_c0 [] [] (spec_l1Top.ok) h9) (orcC 3 (x_seq (b := .neq) (r := (a1.High.A == x8.A && (a1.High.B == x8.B && (a1.High.C == x8.C && true)))) 83 83 (.tmp 18) (.tmp 19) [.int .i64 a1.High.A, .int .i64 a1.High.B, .int .i64 a1.High.C] [.int .i64 x8.A, .int .i64 x8.B, .int .i64 x8.C] (.inr ⟨rfl, rfl⟩)) (orcL 4 [(20, bv (!(a1.High.A == x8.A && (a1.High.B == x8.B && (a1.High.C == x8.C && true)))))] [] h10 (orcH 7 4 21 true (x_c0 [(.tmp 23)] [83] (spec_VersionFault.ok a1.High) h12) orcN)))) ?_
          exact J_qw (J_j (jv13 (x11 != 0))) rfl
        · refine J_g 60 [] [(1, pp 0), (26, bv false)] [(0, .box (Term.enc a1))] (orcC 2 (x_c0 [] [] (spec_l1Top.ok) h9) (orcC 3 (x_seq (b := .neq) (r := (a1.High.A == x8.A && (a1.High.B == x8.B && (a1.High.C == x8.C && true)))) 83 83 (.tmp 18) (.tmp 19) [.int .i64 a1.High.A, .int .i64 a1.High.B, .int .i64 a1.High.C] [.int .i64 x8.A, .int .i64 x8.B, .int .i64 x8.C] (.inr ⟨rfl, rfl⟩)) (orcL 4 [(20, bv (!(a1.High.A == x8.A && (a1.High.B == x8.B && (a1.High.C == x8.C && true)))))] [] h10 orcN))) ?_
          exact J_qw (J_j (jv13 false)) rfl

noncomputable def c161 : Code := (Tryz.f161.body).getD .skip

theorem spec_ParseTerm_l2.ok (x20 : Term) (x25 : ByteArray) (q : Wd) (kn : Int → Option (D × List Ent)) (hk : ∀ v : Int, J (q.g Tryz.prog 161 0 97) c161 (atI c161 1023) (St.mk' [(2, pp 0), (4, pp 1), (5, sv x25), (7, iv v)] [(0, .box [iv 0, sv ByteArray.empty, iv 0, iv 0, iv 0, iv 0, iv 0, iv 0]), (1, .box (Term.enc x20))]) (some v) kn) :
    ∀ s32 : Int, J (q.g Tryz.prog 161 0 97) c161 (atI c161 4088) (St.mk' [(2, pp 0), (4, pp 1), (5, sv x25), (7, iv s32)] [(0, .box [iv 0, sv ByteArray.empty, iv 0, iv 0, iv 0, iv 0, iv 0, iv 0]), (1, .box (Term.enc x20))]) (spec_ParseTerm_l2 x20 x25 s32) kn := by
  refine J_lp (fun g ih s32 => ?_)
  unfold spec_ParseTerm_l2b
  refine J_join (atI c161 16353) (fun v36 : Bool => St.mk' [(2, pp 0), (4, pp 1), (5, sv x25), (7, iv s32), (45, bv v36)] [(0, .box [iv 0, sv ByteArray.empty, iv 0, iv 0, iv 0, iv 0, iv 0, iv 0]), (1, .box (Term.enc x20))]) (fun v36 => ?_) (fun jv36 => ?_)
  · refine J_if2 45 (fun h37 => ?_) (fun h37 => ?_)
    · refine J_g 16354 [] [(2, pp 0), (4, pp 1), (5, sv x25), (7, iv (w64 (s32 + 1)))] [(0, .box [iv 0, sv ByteArray.empty, iv 0, iv 0, iv 0, iv 0, iv 0, iv 0]), (1, .box (Term.enc x20))] orcN ?_
      exact J_q (J_b (ih (w64 (s32 + 1)))) rfl
    · exact J_qw (hk s32) rfl
  · refine J_ite (fun h33 => ?_) (fun h33 => ?_)
    · refine J_bind (fun x34 h35 => ?_)
      refine J_g 16352 [] [(2, pp 0), (4, pp 1), (5, sv x25), (7, iv s32), (45, bv (x34 != 60))] [(0, .box [iv 0, sv ByteArray.empty, iv 0, iv 0, iv 0, iv 0, iv 0, iv 0]), (1, .box (Term.enc x20))] (orcL 4 [(39, bv (decide (s32 < (x25.size : Int))))] [] h33 (orcH 7 4 40 true (x_bi (kk := .i64) 9 (.tmp 41) (.tmp 42) h35) orcN)) ?_
      exact J_qw (J_j (jv36 (x34 != 60))) rfl
    · refine J_g 16352 [] [(2, pp 0), (4, pp 1), (5, sv x25), (7, iv s32), (45, bv false)] [(0, .box [iv 0, sv ByteArray.empty, iv 0, iv 0, iv 0, iv 0, iv 0, iv 0]), (1, .box (Term.enc x20))] (orcL 4 [(39, bv (decide (s32 < (x25.size : Int))))] [] h33 orcN) ?_
      exact J_qw (J_j (jv36 false)) rfl

theorem spec_ParseTerm_l1.ok (a1 : ByteArray) (q : Wd) (kn : Int → Option (D × List Ent)) (hk : ∀ v : Int, J (q.g Tryz.prog 161 0 97) c161 (atI c161 15) (St.mk' [(0, sv a1), (2, pp 0), (3, iv v)] [(0, .box [iv 0, sv ByteArray.empty, iv 0, iv 0, iv 0, iv 0, iv 0, iv 0])]) (some v) kn) :
    ∀ s9 : Int, J (q.g Tryz.prog 161 0 97) c161 (atI c161 56) (St.mk' [(0, sv a1), (2, pp 0), (3, iv s9)] [(0, .box [iv 0, sv ByteArray.empty, iv 0, iv 0, iv 0, iv 0, iv 0, iv 0])]) (spec_ParseTerm_l1 a1 s9) kn := by
  refine J_lp (fun g ih s9 => ?_)
  unfold spec_ParseTerm_l1b
  refine J_join (atI c161 225) (fun v15 : Bool => St.mk' [(0, sv a1), (2, pp 0), (3, iv s9), (21, bv v15)] [(0, .box [iv 0, sv ByteArray.empty, iv 0, iv 0, iv 0, iv 0, iv 0, iv 0])]) (fun v15 => ?_) (fun jv15 => ?_)
  · refine J_if2 21 (fun h16 => ?_) (fun h16 => ?_)
    · refine J_g 226 [] [(0, sv a1), (2, pp 0), (3, iv (w64 (s9 + 1)))] [(0, .box [iv 0, sv ByteArray.empty, iv 0, iv 0, iv 0, iv 0, iv 0, iv 0])] orcN ?_
      exact J_q (J_b (ih (w64 (s9 + 1)))) rfl
    · exact J_qw (hk s9) rfl
  · refine J_ite (fun h10 => ?_) (fun h10 => ?_)
    · refine J_bind (fun x11 h12 => ?_)
      refine J_bind (fun x13 h14 => ?_)
      refine J_g 224 [] [(0, sv a1), (2, pp 0), (3, iv s9), (21, bv x13)] [(0, .box [iv 0, sv ByteArray.empty, iv 0, iv 0, iv 0, iv 0, iv 0, iv 0])] (orcL 4 [(15, bv (decide (s9 < (a1.size : Int))))] [] h10 (orcH 7 4 16 true (x_bi (kk := .i64) 9 (.tmp 17) (.tmp 18) h12) (orcH 8 4 16 true (x_c0 [(.tmp 19)] [5] (spec_l1Name.ok x11) h14) orcN))) ?_
      exact J_qw (J_j (jv15 x13)) rfl
    · refine J_g 224 [] [(0, sv a1), (2, pp 0), (3, iv s9), (21, bv false)] [(0, .box [iv 0, sv ByteArray.empty, iv 0, iv 0, iv 0, iv 0, iv 0, iv 0])] (orcL 4 [(15, bv (decide (s9 < (a1.size : Int))))] [] h10 orcN) ?_
      exact J_qw (J_j (jv15 false)) rfl

theorem spec_ParseTerm.ok (a1 : ByteArray) : Ok Tryz.prog 161 [sv a1] [] ((spec_ParseTerm a1).map fun r => (.ag (TermResult.enc r), [])) := by
  refine Ok_of3 c161 Tryz.f161 0 97 (fun q => ?_)
  unfold spec_ParseTerm
  refine J_g 2 [(0, 0)] [(0, sv a1), (2, pp 0)] [(0, .box [iv 0, sv ByteArray.empty, iv 0, iv 0, iv 0, iv 0, iv 0, iv 0])] orcN ?_
  refine J_g 6 [] [(0, sv a1), (2, pp 0), (3, iv 0)] [(0, .box [iv 0, sv ByteArray.empty, iv 0, iv 0, iv 0, iv 0, iv 0, iv 0])] orcN ?_
  refine J_lq (spec_ParseTerm_l1.ok a1 q _ (fun v17 => J_j ?_) 0)
  refine J_bind (fun x18 h19 => ?_)
  refine J_bind (fun x20 h21 => ?_)
  refine J_g 30 [(4, 1)] [(0, sv a1), (2, pp 0), (3, iv v17), (4, pp 1)] [(0, .box [iv 0, sv ByteArray.empty, iv 0, iv 0, iv 0, iv 0, iv 0, iv 0]), (1, .box (Term.enc x20))] (orcC 2 (x_ss 9 (.tmp 24) none (some (.tmp 25)) h19) (orcC 3 (x_c0 [(.tmp 26)] [9] (spec_AnyTerm.ok x18) h21) orcN)) ?_
  refine J_bind (fun x22 h23 => ?_)
  refine J_g 124 [] [(0, sv a1), (2, pp 0), (3, iv v17), (4, pp 1), (31, bv (x22 != 0))] [(0, .box [iv 0, sv ByteArray.empty, iv 0, iv 0, iv 0, iv 0, iv 0, iv 0]), (1, .box (Term.enc x20))] (orcC 2 (x_c0 [(.tmp 29)] [9] (spec_NameFault.ok x20.Name) h23) orcN) ?_
  refine J_if2 31 (fun h24 => ?_) (fun h24 => ?_)
  · refine J_g 500 [] [(2, pp 0)] [(0, .box [iv 5, sv ByteArray.empty, iv 0, iv 0, iv 0, iv 0, iv 0, iv 0])] orcN ?_
    exact J_r1 rfl
  · refine J_bind (fun x25 h26 => ?_)
    refine J_g 126 [] [(2, pp 0), (4, pp 1), (5, sv x25)] [(0, .box [iv 0, sv ByteArray.empty, iv 0, iv 0, iv 0, iv 0, iv 0, iv 0]), (1, .box (Term.enc x20))] (orcC 2 (x_ss 9 (.tmp 33) (some (.tmp 34)) none h26) orcN) ?_
    refine J_g 254 [] [(2, pp 0), (4, pp 1), (5, sv x25)] [(0, .box [iv 0, sv ByteArray.empty, iv 0, iv 0, iv 0, iv 0, iv 0, iv 0]), (1, .box (Term.enc x20))] orcN ?_
    refine J_g 510 [] [(2, pp 0), (4, pp 1), (5, sv x25), (7, iv 0)] [(0, .box [iv 0, sv ByteArray.empty, iv 0, iv 0, iv 0, iv 0, iv 0, iv 0]), (1, .box (Term.enc x20))] orcN ?_
    refine J_lq (spec_ParseTerm_l2.ok x20 x25 q _ (fun v38 => J_j ?_) 0)
    refine J_g 4092 [] [(2, pp 0), (4, pp 1), (5, sv x25), (7, iv v38), (51, bv (decide (v38 < (x25.size : Int))))] [(0, .box [iv 0, sv ByteArray.empty, iv 0, iv 0, iv 0, iv 0, iv 0, iv 0]), (1, .box (Term.enc x20))] orcN ?_
    refine J_joinF (atI c161 2047) (fun v45 : (Int × Int × Int) => St.mk' [(2, pp 0), (4, pp 1), (5, sv x25), (7, iv v38)] [(0, .box [iv 0, sv ByteArray.empty, iv 0, iv 0, iv 0, iv 0, iv 0, iv 0]), (1, .box [sv x20.Name, iv x20.Low.A, iv x20.Low.B, iv x20.Low.C, iv v45.1, iv v45.2.1, iv v45.2.2])]) (fun v45 => ?_) (fun jv45 => ?_)
    · refine J_bind (fun x46 h47 => ?_)
      refine J_g 4094 [] [(2, pp 0), (4, pp 1), (9, sv x46)] [(0, .box [iv 0, sv ByteArray.empty, iv 0, iv 0, iv 0, iv 0, iv 0, iv 0]), (1, .box [sv x20.Name, iv x20.Low.A, iv x20.Low.B, iv x20.Low.C, iv v45.1, iv v45.2.1, iv v45.2.2])] (orcC 2 (x_ss 9 (.tmp 65) none (some (.tmp 66)) h47) orcN) ?_
      refine J_g 16380 [] [(2, pp 0), (4, pp 1), (9, sv x46), (69, bv (!(seq x46 (bs []))))] [(0, .box [iv 0, sv ByteArray.empty, iv 0, iv 0, iv 0, iv 0, iv 0, iv 0]), (1, .box [sv x20.Name, iv x20.Low.A, iv x20.Low.B, iv x20.Low.C, iv v45.1, iv v45.2.1, iv v45.2.2])] orcN ?_
      refine J_joinF (atI c161 8191) (fun v59 : (Int × Int × Int) => St.mk' [(2, pp 0), (4, pp 1)] [(0, .box [iv 0, sv ByteArray.empty, iv 0, iv 0, iv 0, iv 0, iv 0, iv 0]), (1, .box [sv x20.Name, iv v59.1, iv v59.2.1, iv v59.2.2, iv v45.1, iv v45.2.1, iv v45.2.2])]) (fun v59 => ?_) (fun jv59 => ?_)
      · refine J_bind (fun x60 h61 => ?_)
        refine J_g 32764 [] [(2, pp 0), (4, pp 1), (11, iv x60)] [(0, .box [iv 0, sv ByteArray.empty, iv 0, iv 0, iv 0, iv 0, iv 0, iv 0]), (1, .box [sv x20.Name, iv v59.1, iv v59.2.1, iv v59.2.2, iv v45.1, iv v45.2.1, iv v45.2.2])] (orcC 1 (x_c0 [(.tmp 89)] [89] (spec_TermFault.ok ({ Name := x20.Name, Low := ({ A := v59.1, B := v59.2.1, C := v59.2.2 } : Version), High := ({ A := v45.1, B := v45.2.1, C := v45.2.2 } : Version) } : Term)) h61) orcN) ?_
        refine J_g 65530 [] [(2, pp 0), (4, pp 1), (11, iv x60), (92, bv (x60 != 0))] [(0, .box [iv 0, sv ByteArray.empty, iv 0, iv 0, iv 0, iv 0, iv 0, iv 0]), (1, .box [sv x20.Name, iv v59.1, iv v59.2.1, iv v59.2.2, iv v45.1, iv v45.2.1, iv v45.2.2])] orcN ?_
        refine J_if2 92 (fun h62 => ?_) (fun h62 => ?_)
        · refine J_g 262124 [] [(2, pp 0)] [(0, .box [iv x60, sv ByteArray.empty, iv 0, iv 0, iv 0, iv 0, iv 0, iv 0])] orcN ?_
          exact J_r1 rfl
        · refine J_g 32766 [] [(2, pp 0)] [(0, .box [iv 0, sv x20.Name, iv v59.1, iv v59.2.1, iv v59.2.2, iv v45.1, iv v45.2.1, iv v45.2.2])] orcN ?_
          exact J_r1 rfl
      · refine J_if2 69 (fun h48 => ?_) (fun h48 => ?_)
        · refine J_join (atI c161 131049) (fun v52 : Bool => St.mk' [(2, pp 0), (4, pp 1), (9, sv x46), (77, bv v52)] [(0, .box [iv 0, sv ByteArray.empty, iv 0, iv 0, iv 0, iv 0, iv 0, iv 0]), (1, .box [sv x20.Name, iv x20.Low.A, iv x20.Low.B, iv x20.Low.C, iv v45.1, iv v45.2.1, iv v45.2.2])]) (fun v52 => ?_) (fun jv52 => ?_)
          · refine J_if2 77 (fun h53 => ?_) (fun h53 => ?_)
            · refine J_g 524196 [] [(2, pp 0)] [(0, .box [iv 5, sv ByteArray.empty, iv 0, iv 0, iv 0, iv 0, iv 0, iv 0])] orcN ?_
              exact J_r1 rfl
            · refine J_bind (fun x54 h55 => ?_)
              refine J_bind (fun x56 h57 => ?_)
              refine J_g 131050 [(3, 2)] [(2, pp 0), (4, pp 1), (10, pp 2)] [(0, .box [iv 0, sv ByteArray.empty, iv 0, iv 0, iv 0, iv 0, iv 0, iv 0]), (1, .box [sv x20.Name, iv x20.Low.A, iv x20.Low.B, iv x20.Low.C, iv v45.1, iv v45.2.1, iv v45.2.2]), (2, .box (VersionResult.enc x56))] (orcC 1 (x_ss 9 (.tmp 79) (some (.const (.int .i64 2))) none h55) (orcC 2 (x_c0 [(.tmp 80)] [9] (spec_ParseVersion.ok x54) h57) orcN)) ?_
              refine J_g 524204 [] [(2, pp 0), (4, pp 1), (10, pp 2), (84, bv (x56.Code != 0))] [(0, .box [iv 0, sv ByteArray.empty, iv 0, iv 0, iv 0, iv 0, iv 0, iv 0]), (1, .box [sv x20.Name, iv x20.Low.A, iv x20.Low.B, iv x20.Low.C, iv v45.1, iv v45.2.1, iv v45.2.2]), (2, .box (VersionResult.enc x56))] orcN ?_
              refine J_if2 84 (fun h58 => ?_) (fun h58 => ?_)
              · refine J_g 2096820 [] [(2, pp 0)] [(0, .box [iv 5, sv ByteArray.empty, iv 0, iv 0, iv 0, iv 0, iv 0, iv 0])] orcN ?_
                exact J_r1 rfl
              · refine J_g 262103 [] [(2, pp 0), (4, pp 1)] [(0, .box [iv 0, sv ByteArray.empty, iv 0, iv 0, iv 0, iv 0, iv 0, iv 0]), (1, .box [sv x20.Name, iv x56.Version.A, iv x56.Version.B, iv x56.Version.C, iv v45.1, iv v45.2.1, iv v45.2.2])] orcN ?_
                exact J_qw (J_j (jv59 (x56.Version.A, x56.Version.B, x56.Version.C))) rfl
          · refine J_ite (fun h49 => ?_) (fun h49 => ?_)
            · refine J_g 131048 [] [(2, pp 0), (4, pp 1), (9, sv x46), (77, bv true)] [(0, .box [iv 0, sv ByteArray.empty, iv 0, iv 0, iv 0, iv 0, iv 0, iv 0]), (1, .box [sv x20.Name, iv x20.Low.A, iv x20.Low.B, iv x20.Low.C, iv v45.1, iv v45.2.1, iv v45.2.2])] (orcL 3 [(72, bv (decide ((x46.size : Int) < 2)))] [] h49 orcN) ?_
              exact J_qw (J_j (jv52 true)) rfl
            · refine J_bind (fun x50 h51 => ?_)
              refine J_g 131048 [] [(2, pp 0), (4, pp 1), (9, sv x46), (77, bv (!(seq x50 (bs [62, 61]))))] [(0, .box [iv 0, sv ByteArray.empty, iv 0, iv 0, iv 0, iv 0, iv 0, iv 0]), (1, .box [sv x20.Name, iv x20.Low.A, iv x20.Low.B, iv x20.Low.C, iv v45.1, iv v45.2.1, iv v45.2.2])] (orcL 3 [(72, bv (decide ((x46.size : Int) < 2)))] [] h49 (orcH 5 3 73 false (x_ss 9 (.tmp 74) none (some (.const (.int .i64 2))) h51) orcN)) ?_
              exact J_qw (J_j (jv52 (!(seq x50 (bs [62, 61]))))) rfl
        · exact J_qw (J_j (jv59 (x20.Low.A, x20.Low.B, x20.Low.C))) rfl
    · refine J_if2 51 (fun h39 => ?_) (fun h39 => ?_)
      · refine J_bind (fun x40 h41 => ?_)
        refine J_g 16372 [] [(2, pp 0), (4, pp 1), (5, sv x25), (6, sv x40), (7, iv v38)] [(0, .box [iv 0, sv ByteArray.empty, iv 0, iv 0, iv 0, iv 0, iv 0, iv 0]), (1, .box (Term.enc x20))] (orcC 3 (x_ss 9 (.tmp 52) (some (.tmp 54)) none h41) orcN) ?_
        refine J_bind (fun x42 h43 => ?_)
        refine J_g 32746 [(2, 2)] [(2, pp 0), (4, pp 1), (5, sv x25), (7, iv v38), (8, pp 2)] [(0, .box [iv 0, sv ByteArray.empty, iv 0, iv 0, iv 0, iv 0, iv 0, iv 0]), (1, .box (Term.enc x20)), (2, .box (VersionResult.enc x42))] (orcC 1 (x_c0 [(.tmp 56)] [9] (spec_ParseVersion.ok x40) h43) orcN) ?_
        refine J_g 130988 [] [(2, pp 0), (4, pp 1), (5, sv x25), (7, iv v38), (8, pp 2), (60, bv (x42.Code != 0))] [(0, .box [iv 0, sv ByteArray.empty, iv 0, iv 0, iv 0, iv 0, iv 0, iv 0]), (1, .box (Term.enc x20)), (2, .box (VersionResult.enc x42))] orcN ?_
        refine J_if2 60 (fun h44 => ?_) (fun h44 => ?_)
        · refine J_g 523956 [] [(2, pp 0)] [(0, .box [iv 5, sv ByteArray.empty, iv 0, iv 0, iv 0, iv 0, iv 0, iv 0])] orcN ?_
          exact J_r1 rfl
        · refine J_g 65495 [] [(2, pp 0), (4, pp 1), (5, sv x25), (7, iv v38)] [(0, .box [iv 0, sv ByteArray.empty, iv 0, iv 0, iv 0, iv 0, iv 0, iv 0]), (1, .box [sv x20.Name, iv x20.Low.A, iv x20.Low.B, iv x20.Low.C, iv x42.Version.A, iv x42.Version.B, iv x42.Version.C])] orcN ?_
          exact J_qw (J_j (jv45 (x42.Version.A, x42.Version.B, x42.Version.C))) rfl
      · exact J_qw (J_j (jv45 (x20.High.A, x20.High.B, x20.High.C))) rfl

noncomputable def c129 : Code := (Tryz.f129.body).getD .skip

theorem spec_l1Decimal.ok (a1 : Int) : Ok Tryz.prog 129 [iv a1] [] ((spec_l1Decimal a1).map fun r => (sv r, [])) := by
  have key : ∀ (n : Nat) (a1 : Int), Ok Tryz.prog 129 [iv a1] [] ((recF spec_l1Decimal_r n a1).map fun r => (sv r, [])) := by
    intro n
    induction n with
    | zero => intro a1; exact Ok_none
    | succ n ih =>
      intro a1
      refine Ok_of3 c129 Tryz.f129 0 20 (fun q => ?_)
      unfold recF spec_l1Decimal_r
      refine J_g 2 [] [(0, iv a1)] [] orcN ?_
      refine J_g 12 [] [(0, iv a1), (4, bv (decide (a1 < 10)))] [] orcN ?_
      refine J_if2 4 (fun h2 => ?_) (fun h2 => ?_)
      · refine J_g 52 [] [(2, sv (b2s [IntKind.u8.wrap (w64 (48 + a1))]))] [] (orcC 3 (x_bp 119 5 1 0 eU8 [IntKind.u8.wrap (w64 (48 + a1))] [0] [(.tmp 7)] [uv (IntKind.u8.wrap (w64 (48 + a1)))]) (orcC 4 (x_b2sr (xs := [IntKind.u8.wrap (w64 (48 + a1))]) 119 9 5 0 (.tmp 8)) orcN)) ?_
        exact J_r1 rfl
      · refine J_bind (fun x3 h4 => ?_)
        refine J_bind (fun x5 h6 => ?_)
        refine J_g 14 [] [(2, sv x5)] [] (orcC 2 (x_c0 [(.tmp 11)] [2] (ih (w64 (a1.tdiv 10))) h4) (orcC 7 (x_bp 119 5 1 0 eU8 [IntKind.u8.wrap (w64 (48 + (a1.tmod 10)))] [0] [(.tmp 16)] [uv (IntKind.u8.wrap (w64 (48 + (a1.tmod 10))))]) (orcC 8 (x_b2sr (xs := [IntKind.u8.wrap (w64 (48 + (a1.tmod 10)))]) 119 9 5 0 (.tmp 17)) (orcC 9 (x_cat 9 9 (.tmp 12) (.tmp 18) h6) orcN)))) ?_
        exact J_r1 rfl
  exact key 64 a1

noncomputable def c138 : Code := (Tryz.f138.body).getD .skip

theorem spec_FormatVersion.ok (a1 : Version) : Ok Tryz.prog 138 [.ag (Version.enc a1)] [] ((spec_FormatVersion a1).map fun r => (sv r, [])) := by
  refine Ok_of3 c138 Tryz.f138 0 19 (fun q => ?_)
  unfold spec_FormatVersion
  refine J_g 2 [(0, 0)] [(1, pp 0)] [(0, .box (Version.enc a1))] orcN ?_
  refine J_bind (fun x2 h3 => ?_)
  refine J_g 12 [] [(1, pp 0), (5, bv (x2 != 0))] [(0, .box (Version.enc a1))] (orcC 1 (x_c0 [(.tmp 3)] [83] (spec_VersionFault.ok a1) h3) orcN) ?_
  refine J_if2 5 (fun h4 => ?_) (fun h4 => ?_)
  · refine J_g 52 [] [(2, sv (bs []))] [] orcN ?_
    exact J_r1 rfl
  · refine J_bind (fun x5 h6 => ?_)
    refine J_bind (fun x7 h8 => ?_)
    refine J_bind (fun x9 h10 => ?_)
    refine J_bind (fun x11 h12 => ?_)
    refine J_bind (fun x13 h14 => ?_)
    refine J_bind (fun x15 h16 => ?_)
    refine J_bind (fun x17 h18 => ?_)
    refine J_g 14 [] [(2, sv x17)] [] (orcC 2 (x_c0 [(.tmp 7)] [2] (spec_l1Decimal.ok a1.A) h6) (orcC 3 (x_cat 9 9 (.tmp 8) (.const (.string (bs [46]))) h8) (orcC 6 (x_c0 [(.tmp 11)] [2] (spec_l1Decimal.ok a1.B) h10) (orcC 7 (x_cat 9 9 (.tmp 9) (.tmp 12) h12) (orcC 8 (x_cat 9 9 (.tmp 13) (.const (.string (bs [46]))) h14) (orcC 11 (x_c0 [(.tmp 16)] [2] (spec_l1Decimal.ok a1.C) h16) (orcC 12 (x_cat 9 9 (.tmp 14) (.tmp 17) h18) orcN))))))) ?_
    exact J_r1 rfl

noncomputable def c89 : Code := (Tryz.f89.body).getD .skip

theorem spec_FormatTerm.ok (a1 : Term) : Ok Tryz.prog 89 [.ag (Term.enc a1)] [] ((spec_FormatTerm a1).map fun r => (sv r, [])) := by
  refine Ok_of3 c89 Tryz.f89 0 31 (fun q => ?_)
  unfold spec_FormatTerm
  refine J_g 2 [(0, 0)] [(1, pp 0)] [(0, .box (Term.enc a1))] orcN ?_
  refine J_bind (fun x2 h3 => ?_)
  refine J_g 12 [] [(1, pp 0), (6, bv (x2 != 0))] [(0, .box (Term.enc a1))] (orcC 1 (x_c0 [(.tmp 4)] [89] (spec_TermFault.ok a1) h3) orcN) ?_
  refine J_if2 6 (fun h4 => ?_) (fun h4 => ?_)
  · refine J_g 52 [] [(2, sv (bs []))] [] orcN ?_
    exact J_r1 rfl
  · refine J_g 14 [] [(1, pp 0), (3, sv a1.Name)] [(0, .box (Term.enc a1))] orcN ?_
    refine J_bind (fun x5 h6 => ?_)
    refine J_g 60 [] [(1, pp 0), (3, sv a1.Name), (13, bv (x5 != 0))] [(0, .box (Term.enc a1))] (orcC 3 (x_c0 [(.tmp 10), (.tmp 11)] [83, 83] (spec_CompareVersions.ok a1.Low ({ A := 0, B := 0, C := 0 } : Version)) h6) orcN) ?_
    refine J_join (atI c89 31) (fun v14 : ByteArray => St.mk' [(1, pp 0), (3, sv v14)] [(0, .box (Term.enc a1))]) (fun v14 => ?_) (fun jv14 => ?_)
    · refine J_bind (fun x15 h16 => ?_)
      refine J_g 124 [] [(1, pp 0), (3, sv v14), (23, bv (!(a1.High.A == x15.A && (a1.High.B == x15.B && (a1.High.C == x15.C && true)))))] [(0, .box (Term.enc a1))] (orcC 2 (x_c0 [] [] (spec_l1Top.ok) h16) (orcC 3 (x_seq (b := .neq) (r := (a1.High.A == x15.A && (a1.High.B == x15.B && (a1.High.C == x15.C && true)))) 83 83 (.tmp 21) (.tmp 22) [.int .i64 a1.High.A, .int .i64 a1.High.B, .int .i64 a1.High.C] [.int .i64 x15.A, .int .i64 x15.B, .int .i64 x15.C] (.inr ⟨rfl, rfl⟩)) orcN)) ?_
      refine J_join (atI c89 63) (fun v24 : ByteArray => St.mk' [(3, sv v24)] []) (fun v24 => ?_) (fun jv24 => ?_)
      · refine J_g 126 [] [(2, sv v24)] [] orcN ?_
        exact J_r1 rfl
      · refine J_if2 23 (fun h17 => ?_) (fun h17 => ?_)
        · refine J_bind (fun x18 h19 => ?_)
          refine J_bind (fun x20 h21 => ?_)
          refine J_bind (fun x22 h23 => ?_)
          refine J_g 250 [] [(3, sv x22)] [] (orcC 1 (x_cat 9 9 (.tmp 24) (.const (.string (bs [60]))) h19) (orcC 4 (x_c0 [(.tmp 27)] [83] (spec_FormatVersion.ok a1.High) h21) (orcC 5 (x_cat 9 9 (.tmp 25) (.tmp 28) h23) orcN))) ?_
          exact J_qw (J_j (jv24 x22)) rfl
        · exact J_qw (J_j (jv24 v14)) rfl
    · refine J_if2 13 (fun h7 => ?_) (fun h7 => ?_)
      · refine J_bind (fun x8 h9 => ?_)
        refine J_bind (fun x10 h11 => ?_)
        refine J_bind (fun x12 h13 => ?_)
        refine J_g 122 [] [(1, pp 0), (3, sv x12)] [(0, .box (Term.enc a1))] (orcC 1 (x_cat 9 9 (.tmp 14) (.const (.string (bs [62, 61]))) h9) (orcC 4 (x_c0 [(.tmp 17)] [83] (spec_FormatVersion.ok a1.Low) h11) (orcC 5 (x_cat 9 9 (.tmp 15) (.tmp 18) h13) orcN))) ?_
        exact J_qw (J_j (jv14 x12)) rfl
      · exact J_qw (J_j (jv14 a1.Name)) rfl

noncomputable def c162 : Code := (Tryz.f162.body).getD .skip

theorem spec_l8Text_l1.ok (a1 : (List Term)) (q : Wd) (kn : ByteArray → Option (D × List Ent)) (hk : ∀ v : ByteArray, J (q.g Tryz.prog 162 0 20) c162 (atI c162 15) (St.mk' [(3, sv v)] []) (some v) kn) :
    ∀ s11 : (ByteArray × Int), J (q.g Tryz.prog 162 0 20) c162 (atI c162 116) (St.mk' [(0, sl 7 Term.enc a1), (3, sv s11.1), (4, iv s11.2)] []) (spec_l8Text_l1 a1 s11) kn := by
  refine J_lp (fun g ih s11 => ?_)
  unfold spec_l8Text_l1b
  refine J_g 464 [] [(0, sl 7 Term.enc a1), (3, sv s11.1), (4, iv s11.2), (8, bv (decide (s11.2 < (a1.length : Int))))] [] orcN ?_
  refine J_if2 8 (fun h12 => ?_) (fun h12 => ?_)
  · refine J_bind (fun x13 h14 => ?_)
    refine J_bind (fun x15 h16 => ?_)
    refine J_bind (fun x17 h18 => ?_)
    refine J_bind (fun x19 h20 => ?_)
    refine J_g 932 [] [(0, sl 7 Term.enc a1), (3, sv x19), (4, iv s11.2)] [] (orcC 3 (x_ix (kk := .i64) 31 89 7 Term.enc (.tmp 12) (.tmp 13) h14) (orcC 5 (x_c0 [(.tmp 15)] [89] (spec_FormatTerm.ok x13) h16) (orcC 6 (x_cat 9 9 (.tmp 11) (.tmp 16) h18) (orcC 7 (x_cat 9 9 (.tmp 17) (.const (.string (bs [10]))) h20) orcN)))) ?_
    refine J_g 467 [] [(0, sl 7 Term.enc a1), (3, sv x19), (4, iv (w64 (s11.2 + 1)))] [] orcN ?_
    exact J_q (J_b (ih (x19, w64 (s11.2 + 1)))) rfl
  · exact J_qw (hk s11.1) rfl

theorem spec_l8Text.ok (a1 : (List Term)) : Ok Tryz.prog 162 [sl 7 Term.enc a1] [] ((spec_l8Text a1).map fun r => (sv r, [])) := by
  refine Ok_of3 c162 Tryz.f162 0 20 (fun q => ?_)
  unfold spec_l8Text
  refine J_g 2 [] [(0, sl 7 Term.enc a1)] [] orcN ?_
  refine J_g 6 [] [(0, sl 7 Term.enc a1), (3, sv (bs []))] [] orcN ?_
  refine J_g 28 [] [(0, sl 7 Term.enc a1), (3, sv (bs [])), (4, iv 0)] [] orcN ?_
  refine J_lq (spec_l8Text_l1.ok a1 q _ (fun v21 => J_j ?_) (bs [], 0))
  refine J_g 30 [] [(2, sv v21)] [] orcN ?_
  exact J_r1 rfl

noncomputable def c120 : Code := (Tryz.f120.body).getD .skip

theorem spec_l8Roots_l1.ok (a1 : ByteArray) (x2 : (List ByteArray)) (s22 : ((List Term) × Int)) (x26 : TermResult) (q : Wd) (kn : Unit → Option (D × List Ent)) (hk : ∀ v : Unit, J (q.g Tryz.prog 120 0 58) c120 (atI c120 15655) (St.mk' [(0, sv a1), (4, rr 0 x2), (5, rr 1 s22.1), (6, iv s22.2), (7, pp 2)] [(0, rE 1 eStr x2), (1, rE 7 Term.enc s22.1), (2, .box (TermResult.enc x26))]) (some v) kn) :
    ∀ s33 : Int, J (q.g Tryz.prog 120 0 58) c120 (atI c120 125236) (St.mk' [(0, sv a1), (4, rr 0 x2), (5, rr 1 s22.1), (6, iv s22.2), (7, pp 2), (8, iv s33)] [(0, rE 1 eStr x2), (1, rE 7 Term.enc s22.1), (2, .box (TermResult.enc x26))]) (spec_l8Roots_l1 a1 x2 s22 x26 s33) (Fl.go (fun r : ((List Term) × Bool) => some (.tu [so 7 Term.enc r.1, bv r.2], [])) kn) := by
  refine J_lp (fun g ih s33 => ?_)
  unfold spec_l8Roots_l1b
  refine J_g 500944 [] [(0, sv a1), (4, rr 0 x2), (5, rr 1 s22.1), (6, iv s22.2), (7, pp 2), (8, iv s33), (30, bv (decide (s33 < (s22.1.length : Int))))] [(0, rE 1 eStr x2), (1, rE 7 Term.enc s22.1), (2, .box (TermResult.enc x26))] orcN ?_
  refine J_if2 30 (fun h34 => ?_) (fun h34 => ?_)
  · refine J_bind (fun x35 h36 => ?_)
    refine J_g 2003784 [] [(0, sv a1), (4, rr 0 x2), (5, rr 1 s22.1), (6, iv s22.2), (7, pp 2), (8, iv s33), (41, bv (seq x35.Name x26.Term.Name))] [(0, rE 1 eStr x2), (1, rE 7 Term.enc s22.1), (2, .box (TermResult.enc x26))] (orcC 2 (x_ixr (kk := .i64) 31 89 7 1 Term.enc (.tmp 33) (.tmp 34) h36) (orcC 4 (x_ldr (d := sv x35.Name) 9 7 1 0 Term.enc (.tmp 36) h36 (by kernel_rfl)) orcN)) ?_
    refine J_if2 41 (fun h37 => ?_) (fun h37 => ?_)
    · refine J_g 8015140 [] [(2, rr 1 s22.1), (3, bv false)] [(1, rE 7 Term.enc s22.1)] orcN ?_
      exact J_rm (ds := [rr 1 s22.1, bv false]) (ds' := [so 7 Term.enc s22.1, bv false]) (.cons (.cell (.move (.head _) (List.length_map _) (by decide) (.nil))) (.cons (.cell (.keep rfl (.nil))) (.nil) (by decide)) (by decide)) rfl
    · refine J_g 500947 [] [(0, sv a1), (4, rr 0 x2), (5, rr 1 s22.1), (6, iv s22.2), (7, pp 2), (8, iv (w64 (s33 + 1)))] [(0, rE 1 eStr x2), (1, rE 7 Term.enc s22.1), (2, .box (TermResult.enc x26))] orcN ?_
      exact J_q (J_b (ih (w64 (s33 + 1)))) rfl
  · exact J_qw (hk ()) rfl

theorem spec_l8Roots_l2.ok (a1 : ByteArray) (x2 : (List ByteArray)) (q : Wd) (kn : (List Term) → Option (D × List Ent)) (hk : ∀ v : (List Term), J (q.g Tryz.prog 120 0 58) c120 (atI c120 31) (St.mk' [(0, sv a1), (5, rr 1 v)] [(1, rE 7 Term.enc v)]) (some v) kn) :
    ∀ s22 : ((List Term) × Int), J (q.g Tryz.prog 120 0 58) c120 (atI c120 244) (St.mk' [(0, sv a1), (4, rr 0 x2), (5, rr 1 s22.1), (6, iv s22.2)] [(0, rE 1 eStr x2), (1, rE 7 Term.enc s22.1)]) (spec_l8Roots_l2 a1 x2 s22) (Fl.go (fun r : ((List Term) × Bool) => some (.tu [so 7 Term.enc r.1, bv r.2], [])) kn) := by
  refine J_lp (fun g ih s22 => ?_)
  unfold spec_l8Roots_l2b
  refine J_g 976 [] [(0, sv a1), (4, rr 0 x2), (5, rr 1 s22.1), (6, iv s22.2), (15, bv (decide (s22.2 < (x2.length : Int))))] [(0, rE 1 eStr x2), (1, rE 7 Term.enc s22.1)] orcN ?_
  refine J_if2 15 (fun h23 => ?_) (fun h23 => ?_)
  · refine J_bind (fun x24 h25 => ?_)
    refine J_bind (fun x26 h27 => ?_)
    refine J_g 3912 [(5, 2)] [(0, sv a1), (4, rr 0 x2), (5, rr 1 s22.1), (6, iv s22.2), (7, pp 2)] [(0, rE 1 eStr x2), (1, rE 7 Term.enc s22.1), (2, .box (TermResult.enc x26))] (orcC 2 (x_ixr (kk := .i64) 73 9 1 0 eStr (.tmp 18) (.tmp 19) h25) (orcC 3 (x_ldr (d := sv x24) 9 1 0 0 eStr (.tmp 20) h25 (by kernel_rfl)) (orcC 4 (x_c0 [(.tmp 21)] [9] (spec_ParseTerm.ok x24) h27) orcN))) ?_
    refine J_g 15652 [] [(0, sv a1), (4, rr 0 x2), (5, rr 1 s22.1), (6, iv s22.2), (7, pp 2), (25, bv (x26.Code != 0))] [(0, rE 1 eStr x2), (1, rE 7 Term.enc s22.1), (2, .box (TermResult.enc x26))] orcN ?_
    refine J_if2 25 (fun h28 => ?_) (fun h28 => ?_)
    · refine J_g 62612 [] [(2, rr 1 s22.1), (3, bv false)] [(1, rE 7 Term.enc s22.1)] orcN ?_
      exact J_rm (ds := [rr 1 s22.1, bv false]) (ds' := [so 7 Term.enc s22.1, bv false]) (.cons (.cell (.move (.head _) (List.length_map _) (by decide) (.nil))) (.cons (.cell (.keep rfl (.nil))) (.nil) (by decide)) (by decide)) rfl
    · refine J_g 31308 [] [(0, sv a1), (4, rr 0 x2), (5, rr 1 s22.1), (6, iv s22.2), (7, pp 2), (8, iv 0)] [(0, rE 1 eStr x2), (1, rE 7 Term.enc s22.1), (2, .box (TermResult.enc x26))] orcN ?_
      refine J_lqF (K0 := (fun r : ((List Term) × Bool) => some (.tu [so 7 Term.enc r.1, bv r.2], []))) (fun _ => rfl) (spec_l8Roots_l1.ok a1 x2 s22 x26 q _ (fun v38 => J_j ?_) 0)
      refine J_bind (fun x39 h40 => ?_)
      refine J_g 15655 [] [(0, sv a1), (4, rr 0 x2), (5, rr 4 x39), (6, iv s22.2)] [(0, rE 1 eStr x2), (4, rE 7 Term.enc x39)] (orcC 3 (x_bp 31 89 7 3 Term.enc [x26.Term] [0] [(.tmp 45)] [.ag (Term.enc x26.Term)]) (orcC 4 (x_ap 31 31 89 89 7 64 4 1 3 Term.enc (.tmp 43) (.tmp 46) h40) orcN)) ?_
      refine J_g 979 [] [(0, sv a1), (4, rr 0 x2), (5, rr 4 x39), (6, iv (w64 (s22.2 + 1)))] [(0, rE 1 eStr x2), (4, rE 7 Term.enc x39)] orcN ?_
      refine J_ren 4 1 (Nat.le_of_ble_eq_true rfl) (Nat.le_of_ble_eq_true rfl) ?_
      exact J_q (J_b (ih (x39, w64 (s22.2 + 1)))) rfl
  · exact J_qw (hk s22.1) rfl

theorem spec_l8Roots.ok (a1 : ByteArray) : Ok Tryz.prog 120 [sv a1] [] ((spec_l8Roots a1).map fun r => (.tu [so 7 Term.enc r.1, bv r.2], [])) := by
  refine Ok_of3 c120 Tryz.f120 0 58 (fun q => ?_)
  unfold spec_l8Roots
  refine J_g 2 [] [(0, sv a1)] [] orcN ?_
  refine J_bind (fun x2 h3 => ?_)
  refine J_g 6 [] [(0, sv a1), (4, rr 0 x2)] [(0, rE 1 eStr x2)] (orcC 1 (x_c1 («as» := [sv a1]) [(.tmp 9)] [9] false [] [] (.cons (.same rfl) (.nil)) (spec_l2Lines.ok a1) h3 (.own 0)) orcN) ?_
  refine J_g 14 [] [(0, sv a1), (4, rr 0 x2), (5, rr 1 ([] : List Term))] [(0, rE 1 eStr x2), (1, rE 7 Term.enc ([] : List Term))] (orcC 0 (x_bp 31 89 7 1 Term.enc ([] : List Term) [] [] []) orcN) ?_
  refine J_g 60 [] [(0, sv a1), (4, rr 0 x2), (5, rr 1 ([] : List Term)), (6, iv 0)] [(0, rE 1 eStr x2), (1, rE 7 Term.enc ([] : List Term))] orcN ?_
  refine J_lqF (K0 := (fun r : ((List Term) × Bool) => some (.tu [so 7 Term.enc r.1, bv r.2], []))) (fun _ => rfl) (spec_l8Roots_l2.ok a1 x2 q _ (fun v41 => J_j ?_) (([] : List Term), 0))
  refine J_ite (fun h42 => ?_) (fun h42 => ?_)
  · refine J_bind (fun x43 h44 => ?_)
    refine J_g 62 [] [(2, rr 1 v41), (3, bv (seq x43 a1))] [(1, rE 7 Term.enc v41)] (orcL 4 [(51, bv (decide ((v41.length : Int) ≤ 8)))] [] h42 (orcH 6 4 52 true (x_c1 («as» := [rr 1 v41]) [(.tmp 53)] [31] true [(1, rE 7 Term.enc v41)] [] (.cons (am_b (.head _) (fun _ => rfl) rfl) (.nil)) (spec_l8Text.ok v41) h44 (.same rfl rfl) (hbor := fun _ => ⟨rfl, flat_sc⟩)) orcN)) ?_
    exact J_rm (ds := [rr 1 v41, bv (seq x43 a1)]) (ds' := [so 7 Term.enc v41, bv (seq x43 a1)]) (.cons (.cell (.move (.head _) (List.length_map _) (by decide) (.nil))) (.cons (.cell (.keep rfl (.nil))) (.nil) (by decide)) (by decide)) rfl
  · refine J_g 62 [] [(2, rr 1 v41), (3, bv false)] [(1, rE 7 Term.enc v41)] (orcL 4 [(51, bv (decide ((v41.length : Int) ≤ 8)))] [] h42 orcN) ?_
    exact J_rm (ds := [rr 1 v41, bv false]) (ds' := [so 7 Term.enc v41, bv false]) (.cons (.cell (.move (.head _) (List.length_map _) (by decide) (.nil))) (.cons (.cell (.keep rfl (.nil))) (.nil) (by decide)) (by decide)) rfl

noncomputable def c74 : Code := (Tryz.f74.body).getD .skip

theorem spec_l8Asks.ok (a1 : Disk) : Ok Tryz.prog 74 [pp 0] [.box (Disk.enc false a1)] ((spec_l8Asks a1).map fun r => (.tu [so 7 Term.enc r.1, bv r.2], [.box (Disk.enc false a1)])) := by
  refine Ok_of3 c74 Tryz.f74 1 21 (fun q => ?_)
  unfold spec_l8Asks
  refine J_g 2 [] [(0, pp 0)] [(0, .box (Disk.enc false a1))] orcN ?_
  refine J_bind (fun x2 h3 => ?_)
  refine J_g 6 [] [(0, pp 0), (4, iv x2)] [(0, .box (Disk.enc false a1))] (orcC 1 (x_ro [(0, .box (Disk.enc false a1))] [] (x_c1 («as» := [pp 0, sv (bs [114, 111, 111, 116, 115])]) [(.tmp 5), (.const (.string (bs [114, 111, 111, 116, 115])))] [101, 9] false [(0, .box (Disk.enc false a1))] [0] (.cons (.pt rfl) (.cons (.same rfl) (.nil))) (spec_l7Find.ok a1 (bs [114, 111, 111, 116, 115])) h3 (.same rfl rfl))) orcN) ?_
  refine J_g 28 [] [(0, pp 0), (4, iv x2), (8, bv (decide (x2 < 0)))] [(0, .box (Disk.enc false a1))] orcN ?_
  refine J_if2 8 (fun h4 => ?_) (fun h4 => ?_)
  · refine J_g 116 [] [(2, nv), (3, bv true)] [(0, .box (Disk.enc false a1))] orcN ?_
    exact J_rm (ds := [nv, bv true]) (ds' := [so 7 Term.enc ([] : List Term), bv true]) (.cons (.cell (.nilsl true 7 (.nil))) (.cons (.cell (.keep rfl (.nil))) (.nil) (by decide)) (by decide)) rfl
  · refine J_bind (fun x5 h6 => ?_)
    refine J_bind (fun x7 h8 => ?_)
    refine J_g 30 [] [(2, rr 1 x7.1), (3, bv x7.2)] [(0, .box (Disk.enc false a1)), (1, rE 7 Term.enc x7.1)] (orcC 5 (x_ix (kk := .i64) 44 121 2 (File.enc false) (.tmp 12) (.tmp 13) h6) (orcC 8 (x_b2s (xs := x5.Data) 119 9 5 (.tmp 16)) (orcC 9 (x_c1 («as» := [sv (b2s x5.Data)]) [(.tmp 17)] [9] false [] [] (.cons (.same rfl) (.nil)) (spec_l8Roots.ok (b2s x5.Data)) h8 (.tu (.cons (.own 1) (.cons (.same rfl rfl) (.nil))))) orcN))) ?_
    exact J_rm (ds := [rr 1 x7.1, bv x7.2]) (ds' := [so 7 Term.enc x7.1, bv x7.2]) (.cons (.cell (.move (.tail _ (.head _)) (List.length_map _) (by decide) (.nil))) (.cons (.cell (.keep rfl (.nil))) (.nil) (by decide)) (by decide)) rfl

noncomputable def c34 : Code := (Tryz.f34.body).getD .skip

theorem spec_RootsOf.ok (a1 : Disk) : Ok Tryz.prog 34 [.ag (Disk.enc false a1)] [] ((spec_RootsOf a1).map fun r => (.ag [iv r.Code, so 7 Term.enc r.Asks], [])) := by
  refine Ok_of3 c34 Tryz.f34 0 21 (fun q => ?_)
  unfold spec_RootsOf
  refine J_g 2 [(0, 0), (1, 1)] [(1, pp 0), (2, pp 1)] [(0, .box (Disk.enc false a1)), (1, .box [iv 0, nv])] orcN ?_
  refine J_bind (fun x2 h3 => ?_)
  refine J_g 12 [] [(1, pp 0), (2, pp 1), (3, iv x2)] [(0, .box (Disk.enc false a1)), (1, .box [iv 0, nv])] (orcC 1 (x_c0 [(.tmp 6)] [46] (spec_DiskFault.ok a1) h3) orcN) ?_
  refine J_g 26 [] [(1, pp 0), (2, pp 1), (3, iv x2), (9, bv (x2 != 0))] [(0, .box (Disk.enc false a1)), (1, .box [iv 0, nv])] orcN ?_
  refine J_if2 9 (fun h4 => ?_) (fun h4 => ?_)
  · refine J_g 108 [] [(2, pp 1)] [(1, .box [iv x2, nv])] orcN ?_
    exact J_rm (ds := [.ag [iv x2, nv]]) (ds' := [.ag [iv x2, so 7 Term.enc ([] : List Term)]]) (.cons (.ag (.keep rfl (.nilsl true 7 (.nil)))) (.nil) (by decide)) rfl
  · refine J_bind (fun x5 h6 => ?_)
    refine J_g 14 [] [(2, pp 1), (4, rr 2 x5.1), (5, bv x5.2)] [(1, .box [iv 0, nv]), (2, rE 7 Term.enc x5.1)] (orcC 0 (x_ro [(0, .box (Disk.enc false a1))] [(2, rE 7 Term.enc x5.1)] (x_c1 («as» := [pp 0]) [(.tmp 1)] [101] false [(0, .box (Disk.enc false a1))] [0] (.cons (.pt rfl) (.nil)) (spec_l8Asks.ok a1) h6 (.tu (.cons (.own 2) (.cons (.same rfl rfl) (.nil)))))) orcN) ?_
    refine J_g 60 [] [(2, pp 1), (4, rr 2 x5.1), (17, bv (!x5.2))] [(1, .box [iv 0, nv]), (2, rE 7 Term.enc x5.1)] orcN ?_
    refine J_if2 17 (fun h7 => ?_) (fun h7 => ?_)
    · refine J_g 244 [] [(2, pp 1)] [(1, .box [iv 5, nv])] orcN ?_
      exact J_rm (ds := [.ag [iv 5, nv]]) (ds' := [.ag [iv 5, so 7 Term.enc ([] : List Term)]]) (.cons (.ag (.keep rfl (.nilsl true 7 (.nil)))) (.nil) (by decide)) rfl
    · refine J_g 62 [] [(2, pp 1)] [(1, .box [iv 0, rr 2 x5.1]), (2, rE 7 Term.enc x5.1)] orcN ?_
      exact J_rm (ds := [.ag [iv 0, rr 2 x5.1]]) (ds' := [.ag [iv 0, so 7 Term.enc x5.1]]) (.cons (.ag (.keep rfl (.move (.tail _ (.head _)) (List.length_map _) (by decide) (.nil)))) (.nil) (by decide)) rfl

noncomputable def c121 : Code := (Tryz.f121.body).getD .skip

theorem impl_within.ok (a1 : Int) (a2 : Int) (a3 : Int) : Ok Tryz.prog 121 [iv a1, iv a2, iv a3] [] ((impl_within a1 a2 a3).map fun r => (bv r, [])) := by
  refine Ok_of3 c121 Tryz.f121 0 15 (fun q => ?_)
  unfold impl_within
  refine J_g 2 [] [(0, iv a1), (1, iv a2), (2, iv a3)] [] orcN ?_
  refine J_ite (fun h4 => ?_) (fun h4 => ?_)
  · refine J_g 6 [] [(6, bv (decide (a1 ≤ a3)))] [] (orcL 3 [(9, bv (decide (a2 ≤ a1)))] [] h4 orcN) ?_
    exact J_r1 rfl
  · refine J_g 6 [] [(6, bv false)] [] (orcL 3 [(9, bv (decide (a2 ≤ a1)))] [] h4 orcN) ?_
    exact J_r1 rfl

noncomputable def c163 : Code := (Tryz.f163.body).getD .skip

theorem impl_isNameByte.ok (a1 : Int) : Ok Tryz.prog 163 [uv a1] [] ((impl_isNameByte a1).map fun r => (bv r, [])) := by
  refine Ok_of3 c163 Tryz.f163 0 21 (fun q => ?_)
  unfold impl_isNameByte
  refine J_g 2 [] [(0, uv a1)] [] orcN ?_
  refine J_ite (fun h2 => ?_) (fun h2 => ?_)
  · refine J_ite (fun h3 => ?_) (fun h3 => ?_)
    · refine J_g 6 [] [(2, bv true)] [] (orcL 2 [(4, bv (decide (a1 ≥ 97)))] [] h2 (orcL 6 [(8, bv (decide (a1 ≤ 122)))] [] h3 (orcV 9 (orcU (i := 9) (g := 6) (t := 9) (b := false) (v := (.bool true)) (.inl rfl) (by kernel_rfl) (by kernel_rfl)) (orcV 10 (orcU (i := 10) (g := 9) (t := 12) (b := true) (v := undef) (.inr rfl) (by kernel_rfl) (by kernel_rfl)) (orcV 11 (orcU (i := 11) (g := 9) (t := 12) (b := true) (v := undef) (.inr rfl) (by kernel_rfl) (by kernel_rfl)) orcN))))) ?_
      exact J_r1 rfl
    · refine J_ite (fun h4 => ?_) (fun h4 => ?_)
      · refine J_ite (fun h5 => ?_) (fun h5 => ?_)
        · refine J_g 6 [] [(2, bv true)] [] (orcL 2 [(4, bv (decide (a1 ≥ 97)))] [] h2 (orcL 6 [(8, bv (decide (a1 ≤ 122)))] [] h3 (orcLG 9 6 9 false [(11, bv (decide (a1 ≥ 48)))] [] h4 (orcL 14 [(16, bv (decide (a1 ≤ 57)))] [] h5 orcN)))) ?_
          exact J_r1 rfl
        · refine J_g 6 [] [(2, bv (a1 == 95))] [] (orcL 2 [(4, bv (decide (a1 ≥ 97)))] [] h2 (orcL 6 [(8, bv (decide (a1 ≤ 122)))] [] h3 (orcLG 9 6 9 false [(11, bv (decide (a1 ≥ 48)))] [] h4 (orcL 14 [(16, bv (decide (a1 ≤ 57)))] [] h5 orcN)))) ?_
          exact J_r1 rfl
      · refine J_g 6 [] [(2, bv (a1 == 95))] [] (orcL 2 [(4, bv (decide (a1 ≥ 97)))] [] h2 (orcL 6 [(8, bv (decide (a1 ≤ 122)))] [] h3 (orcLG 9 6 9 false [(11, bv (decide (a1 ≥ 48)))] [] h4 orcN))) ?_
        exact J_r1 rfl
  · refine J_ite (fun h6 => ?_) (fun h6 => ?_)
    · refine J_ite (fun h7 => ?_) (fun h7 => ?_)
      · refine J_g 6 [] [(2, bv true)] [] (orcL 2 [(4, bv (decide (a1 ≥ 97)))] [] h2 (orcLG 9 6 9 false [(11, bv (decide (a1 ≥ 48)))] [] h6 (orcL 14 [(16, bv (decide (a1 ≤ 57)))] [] h7 orcN))) ?_
        exact J_r1 rfl
      · refine J_g 6 [] [(2, bv (a1 == 95))] [] (orcL 2 [(4, bv (decide (a1 ≥ 97)))] [] h2 (orcLG 9 6 9 false [(11, bv (decide (a1 ≥ 48)))] [] h6 (orcL 14 [(16, bv (decide (a1 ≤ 57)))] [] h7 orcN))) ?_
        exact J_r1 rfl
    · refine J_g 6 [] [(2, bv (a1 == 95))] [] (orcL 2 [(4, bv (decide (a1 ≥ 97)))] [] h2 (orcLG 9 6 9 false [(11, bv (decide (a1 ≥ 48)))] [] h6 orcN)) ?_
      exact J_r1 rfl

noncomputable def c122 : Code := (Tryz.f122.body).getD .skip

theorem impl_PathFault_l1.ok (a1 : ByteArray) (q : Wd) (kn : Unit → Option (D × List Ent)) (hk : ∀ v : Unit, J (q.g Tryz.prog 122 0 37) c122 (atI c122 15) (St.mk' [] []) (some v) kn) :
    ∀ s15 : Int, J (q.g Tryz.prog 122 0 37) c122 (atI c122 116) (St.mk' [(0, sv a1), (14, iv (a1.size : Int)), (15, iv s15)] []) (impl_PathFault_l1 a1 s15) (Fl.go (fun r : Int => some (iv r, [])) kn) := by
  refine J_lp (fun g ih s15 => ?_)
  unfold impl_PathFault_l1b
  refine J_g 232 [] [(0, sv a1), (14, iv (a1.size : Int)), (15, iv s15), (16, bv (decide (s15 < (a1.size : Int))))] [] orcN ?_
  refine J_if2 16 (fun h16 => ?_) (fun h16 => ?_)
  · refine J_g 3736 [] [(0, sv a1), (3, iv s15), (14, iv (a1.size : Int)), (15, iv s15)] [] orcN ?_
    refine J_bind (fun x17 h18 => ?_)
    refine J_g 7474 [] [(0, sv a1), (4, uv x17), (14, iv (a1.size : Int)), (15, iv s15)] [] (orcC 2 (x_bi (kk := .i64) 9 (.tmp 18) (.tmp 19) h18) orcN) ?_
    refine J_bind (fun x19 h20 => ?_)
    refine J_join (atI c122 14951) (fun v24 : Bool => St.mk' [(0, sv a1), (14, iv (a1.size : Int)), (15, iv s15), (35, bv v24)] []) (fun v24 => ?_) (fun jv24 => ?_)
    · refine J_if2 35 (fun h25 => ?_) (fun h25 => ?_)
      · refine J_g 59804 [] [(2, iv 5)] [] orcN ?_
        exact J_r1 rfl
      · refine J_g 935 [] [(0, sv a1), (14, iv (a1.size : Int)), (15, iv (w64 (s15 + 1)))] [] orcN ?_
        exact J_q (J_b (ih (w64 (s15 + 1)))) rfl
    · refine J_ite (fun h21 => ?_) (fun h21 => ?_)
      · refine J_ite (fun h22 => ?_) (fun h22 => ?_)
        · refine J_ite (fun h23 => ?_) (fun h23 => ?_)
          · refine J_g 14950 [] [(0, sv a1), (14, iv (a1.size : Int)), (15, iv s15), (35, bv (x17 != 47))] [] (orcC 1 (x_c0 [(.tmp 21)] [5] (impl_isNameByte.ok x17) h20) (orcL 3 [(23, bv (!x19))] [] h21 (orcL 7 [(27, bv (x17 != 46))] [] h22 (orcL 11 [(31, bv (x17 != 45))] [] h23 orcN)))) ?_
            exact J_qw (J_j (jv24 (x17 != 47))) rfl
          · refine J_g 14950 [] [(0, sv a1), (14, iv (a1.size : Int)), (15, iv s15), (35, bv false)] [] (orcC 1 (x_c0 [(.tmp 21)] [5] (impl_isNameByte.ok x17) h20) (orcL 3 [(23, bv (!x19))] [] h21 (orcL 7 [(27, bv (x17 != 46))] [] h22 (orcL 11 [(31, bv (x17 != 45))] [] h23 orcN)))) ?_
            exact J_qw (J_j (jv24 false)) rfl
        · refine J_g 14950 [] [(0, sv a1), (14, iv (a1.size : Int)), (15, iv s15), (35, bv false)] [] (orcC 1 (x_c0 [(.tmp 21)] [5] (impl_isNameByte.ok x17) h20) (orcL 3 [(23, bv (!x19))] [] h21 (orcL 7 [(27, bv (x17 != 46))] [] h22 orcN))) ?_
          exact J_qw (J_j (jv24 false)) rfl
      · refine J_g 14950 [] [(0, sv a1), (14, iv (a1.size : Int)), (15, iv s15), (35, bv false)] [] (orcC 1 (x_c0 [(.tmp 21)] [5] (impl_isNameByte.ok x17) h20) (orcL 3 [(23, bv (!x19))] [] h21 orcN)) ?_
        exact J_qw (J_j (jv24 false)) rfl
  · exact J_qw (hk ()) rfl

theorem impl_PathFault.ok (a1 : ByteArray) : Ok Tryz.prog 122 [sv a1] [] ((impl_PathFault a1).map fun r => (iv r, [])) := by
  refine Ok_of3 c122 Tryz.f122 0 37 (fun q => ?_)
  unfold impl_PathFault
  refine J_g 2 [] [(0, sv a1)] [] orcN ?_
  refine J_join (atI c122 13) (fun v3 : Bool => St.mk' [(0, sv a1), (12, bv v3)] []) (fun v3 => ?_) (fun jv3 => ?_)
  · refine J_if2 12 (fun h4 => ?_) (fun h4 => ?_)
    · refine J_g 52 [] [(2, iv 5)] [] orcN ?_
      exact J_r1 rfl
    · refine J_g 28 [] [(0, sv a1), (14, iv (a1.size : Int)), (15, iv 0)] [] orcN ?_
      refine J_lqF (K0 := (fun r : Int => some (iv r, []))) (fun _ => rfl) (impl_PathFault_l1.ok a1 q _ (fun v26 => J_j ?_) 0)
      refine J_g 30 [] [(2, iv 0)] [] orcN ?_
      exact J_r1 rfl
  · refine J_ite (fun h2 => ?_) (fun h2 => ?_)
    · refine J_g 12 [] [(0, sv a1), (12, bv true)] [] (orcL 3 [(7, bv (decide ((a1.size : Int) < 1)))] [] h2 orcN) ?_
      exact J_qw (J_j (jv3 true)) rfl
    · refine J_g 12 [] [(0, sv a1), (12, bv (decide ((a1.size : Int) > 40)))] [] (orcL 3 [(7, bv (decide ((a1.size : Int) < 1)))] [] h2 orcN) ?_
      exact J_qw (J_j (jv3 (decide ((a1.size : Int) > 40)))) rfl

noncomputable def c123 : Code := (Tryz.f123.body).getD .skip

theorem impl_Disk_total_l1.ok (a1 : Disk) (q : Wd) (kn : Int → Option (D × List Ent)) (hk : ∀ v : Int, J (q.g Tryz.prog 123 0 20) c123 (atI c123 15) (St.mk' [(3, iv v)] []) (some v) kn) :
    ∀ s5 : (Int × Int), J (q.g Tryz.prog 123 0 20) c123 (atI c123 116) (St.mk' [(3, iv s5.1), (7, sl 2 (File.enc false) a1.Files), (8, iv (a1.Files.length : Int)), (9, iv s5.2)] []) (impl_Disk_total_l1 a1 s5) kn := by
  refine J_lp (fun g ih s5 => ?_)
  unfold impl_Disk_total_l1b
  refine J_g 232 [] [(3, iv s5.1), (7, sl 2 (File.enc false) a1.Files), (8, iv (a1.Files.length : Int)), (9, iv s5.2), (10, bv (decide (s5.2 < (a1.Files.length : Int))))] [] orcN ?_
  refine J_if2 10 (fun h6 => ?_) (fun h6 => ?_)
  · refine J_bind (fun x7 h8 => ?_)
    refine J_g 3736 [(2, 0)] [(3, iv s5.1), (5, pp 0), (7, sl 2 (File.enc false) a1.Files), (8, iv (a1.Files.length : Int)), (9, iv s5.2)] [(0, .box (File.enc false x7))] (orcC 0 (x_ix (kk := .i64) 44 121 2 (File.enc false) (.tmp 7) (.tmp 9) h8) orcN) ?_
    refine J_g 3737 [] [(3, iv (w64 (s5.1 + (x7.Data.length : Int)))), (7, sl 2 (File.enc false) a1.Files), (8, iv (a1.Files.length : Int)), (9, iv s5.2)] [] orcN ?_
    refine J_g 935 [] [(3, iv (w64 (s5.1 + (x7.Data.length : Int)))), (7, sl 2 (File.enc false) a1.Files), (8, iv (a1.Files.length : Int)), (9, iv (w64 (s5.2 + 1)))] [] orcN ?_
    exact J_q (J_b (ih (w64 (s5.1 + (x7.Data.length : Int)), w64 (s5.2 + 1)))) rfl
  · exact J_qw (hk s5.1) rfl

theorem impl_Disk_total.ok (a1 : Disk) : Ok Tryz.prog 123 [.ag (Disk.enc false a1)] [] ((impl_Disk_total a1).map fun r => (iv r, [])) := by
  refine Ok_of3 c123 Tryz.f123 0 20 (fun q => ?_)
  unfold impl_Disk_total
  refine J_g 2 [(0, 0)] [(1, pp 0)] [(0, .box (Disk.enc false a1))] orcN ?_
  refine J_g 6 [] [(1, pp 0), (3, iv 0)] [(0, .box (Disk.enc false a1))] orcN ?_
  refine J_g 28 [] [(3, iv 0), (7, sl 2 (File.enc false) a1.Files), (8, iv (a1.Files.length : Int)), (9, iv 0)] [] orcN ?_
  refine J_lq (impl_Disk_total_l1.ok a1 q _ (fun v9 => J_j ?_) (0, 0))
  refine J_g 30 [] [(2, iv v9)] [] orcN ?_
  exact J_r1 rfl

noncomputable def c75 : Code := (Tryz.f75.body).getD .skip

theorem impl_DiskFault_l1.ok (a1 : Disk) (q : Wd) (kn : Unit → Option (D × List Ent)) (hk : ∀ v : Unit, J (q.g Tryz.prog 75 0 68) c75 (atI c75 15) (St.mk' [(1, pp 0)] [(0, .box (Disk.enc false a1))]) (some v) kn) :
    ∀ s25 : Int, J (q.g Tryz.prog 75 0 68) c75 (atI c75 116) (St.mk' [(1, pp 0), (29, sl 2 (File.enc false) a1.Files), (30, iv (a1.Files.length : Int)), (31, iv s25)] [(0, .box (Disk.enc false a1))]) (impl_DiskFault_l1 a1 s25) (Fl.go (fun r : Int => some (iv r, [])) kn) := by
  refine J_lp (fun g ih s25 => ?_)
  unfold impl_DiskFault_l1b
  refine J_g 232 [] [(1, pp 0), (29, sl 2 (File.enc false) a1.Files), (30, iv (a1.Files.length : Int)), (31, iv s25), (32, bv (decide (s25 < (a1.Files.length : Int))))] [(0, .box (Disk.enc false a1))] orcN ?_
  refine J_if2 32 (fun h26 => ?_) (fun h26 => ?_)
  · refine J_bind (fun x27 h28 => ?_)
    refine J_g 3736 [(3, 1)] [(1, pp 0), (3, iv s25), (4, pp 1), (29, sl 2 (File.enc false) a1.Files), (30, iv (a1.Files.length : Int)), (31, iv s25)] [(0, .box (Disk.enc false a1)), (1, .box (File.enc false x27))] (orcC 1 (x_ix (kk := .i64) 44 121 2 (File.enc false) (.tmp 29) (.tmp 31) h28) orcN) ?_
    refine J_bind (fun x29 h30 => ?_)
    refine J_g 14948 [] [(1, pp 0), (3, iv s25), (4, pp 1), (5, iv x29), (29, sl 2 (File.enc false) a1.Files), (30, iv (a1.Files.length : Int)), (31, iv s25)] [(0, .box (Disk.enc false a1)), (1, .box (File.enc false x27))] (orcC 2 (x_c0 [(.tmp 37)] [9] (impl_PathFault.ok x27.Path) h30) orcN) ?_
    refine J_g 29898 [] [(1, pp 0), (3, iv s25), (4, pp 1), (5, iv x29), (29, sl 2 (File.enc false) a1.Files), (30, iv (a1.Files.length : Int)), (31, iv s25), (40, bv (x29 != 0))] [(0, .box (Disk.enc false a1)), (1, .box (File.enc false x27))] orcN ?_
    refine J_if2 40 (fun h31 => ?_) (fun h31 => ?_)
    · refine J_g 119596 [] [(2, iv x29)] [] orcN ?_
      exact J_r1 rfl
    · refine J_join (atI c75 29901) (fun v35 : Bool => St.mk' [(1, pp 0), (4, pp 1), (29, sl 2 (File.enc false) a1.Files), (30, iv (a1.Files.length : Int)), (31, iv s25), (42, bv v35)] [(0, .box (Disk.enc false a1)), (1, .box (File.enc false x27))]) (fun v35 => ?_) (fun jv35 => ?_)
      · refine J_if2 42 (fun h36 => ?_) (fun h36 => ?_)
        · refine J_g 119604 [] [(2, iv 1)] [] orcN ?_
          exact J_r1 rfl
        · refine J_g 119606 [] [(1, pp 0), (29, sl 2 (File.enc false) a1.Files), (30, iv (a1.Files.length : Int)), (31, iv s25), (57, bv (decide ((x27.Data.length : Int) > 4000)))] [(0, .box (Disk.enc false a1))] orcN ?_
          refine J_if2 57 (fun h37 => ?_) (fun h37 => ?_)
          · refine J_g 478428 [] [(2, iv 2)] [] orcN ?_
            exact J_r1 rfl
          · refine J_g 935 [] [(1, pp 0), (29, sl 2 (File.enc false) a1.Files), (30, iv (a1.Files.length : Int)), (31, iv (w64 (s25 + 1)))] [(0, .box (Disk.enc false a1))] orcN ?_
            exact J_q (J_b (ih (w64 (s25 + 1)))) rfl
      · refine J_ite (fun h32 => ?_) (fun h32 => ?_)
        · refine J_bind (fun x33 h34 => ?_)
          refine J_g 29900 [] [(1, pp 0), (4, pp 1), (29, sl 2 (File.enc false) a1.Files), (30, iv (a1.Files.length : Int)), (31, iv s25), (42, bv (slt x27.Path x33.Path || seq x27.Path x33.Path))] [(0, .box (Disk.enc false a1)), (1, .box (File.enc false x27))] (orcL 2 [(44, bv (decide (s25 > 0)))] [] h32 (orcH 9 2 45 true (x_ix (kk := .i64) 44 121 2 (File.enc false) (.tmp 49) (.tmp 51) h34) orcN)) ?_
          exact J_qw (J_j (jv35 (slt x27.Path x33.Path || seq x27.Path x33.Path))) rfl
        · refine J_g 29900 [] [(1, pp 0), (4, pp 1), (29, sl 2 (File.enc false) a1.Files), (30, iv (a1.Files.length : Int)), (31, iv s25), (42, bv false)] [(0, .box (Disk.enc false a1)), (1, .box (File.enc false x27))] (orcL 2 [(44, bv (decide (s25 > 0)))] [] h32 orcN) ?_
          exact J_qw (J_j (jv35 false)) rfl
  · exact J_qw (hk ()) rfl

theorem impl_DiskFault.ok (a1 : Disk) : Ok Tryz.prog 75 [.ag (Disk.enc false a1)] [] ((impl_DiskFault a1).map fun r => (iv r, [])) := by
  refine Ok_of3 c75 Tryz.f75 0 68 (fun q => ?_)
  unfold impl_DiskFault
  refine J_g 2 [(0, 0)] [(1, pp 0)] [(0, .box (Disk.enc false a1))] orcN ?_
  refine J_bind (fun x2 h3 => ?_)
  refine J_join (atI c75 25) (fun v10 : Bool => St.mk' [(1, pp 0), (6, bv v10)] [(0, .box (Disk.enc false a1))]) (fun v10 => ?_) (fun jv10 => ?_)
  · refine J_if2 6 (fun h11 => ?_) (fun h11 => ?_)
    · refine J_g 100 [] [(2, iv 3)] [] orcN ?_
      exact J_r1 rfl
    · refine J_g 102 [] [(1, pp 0), (23, bv (decide ((a1.Files.length : Int) > 120)))] [(0, .box (Disk.enc false a1))] orcN ?_
      refine J_if2 23 (fun h12 => ?_) (fun h12 => ?_)
      · refine J_g 412 [] [(2, iv 2)] [] orcN ?_
        exact J_r1 rfl
      · refine J_g 28 [] [(1, pp 0), (29, sl 2 (File.enc false) a1.Files), (30, iv (a1.Files.length : Int)), (31, iv 0)] [(0, .box (Disk.enc false a1))] orcN ?_
        refine J_lqF (K0 := (fun r : Int => some (iv r, []))) (fun _ => rfl) (impl_DiskFault_l1.ok a1 q _ (fun v38 => J_j ?_) 0)
        refine J_bind (fun x39 h40 => ?_)
        refine J_g 60 [] [(67, bv (decide (x39 > a1.Budget)))] [] (orcC 1 (x_c0 [(.tmp 63)] [46] (impl_Disk_total.ok a1) h40) orcN) ?_
        refine J_if2 67 (fun h41 => ?_) (fun h41 => ?_)
        · refine J_g 244 [] [(2, iv 8)] [] orcN ?_
          exact J_r1 rfl
        · refine J_g 62 [] [(2, iv 0)] [] orcN ?_
          exact J_r1 rfl
  · refine J_ite (fun h4 => ?_) (fun h4 => ?_)
    · refine J_g 24 [] [(1, pp 0), (6, bv true)] [(0, .box (Disk.enc false a1))] (orcC 2 (x_c0 [(.tmp 8), (.const (.int .i64 0)), (.const (.int .i64 20000))] [2, 2, 2] (impl_within.ok a1.Budget 0 20000) h3) (orcL 4 [(10, bv (!x2))] [] h4 orcN)) ?_
      exact J_qw (J_j (jv10 true)) rfl
    · refine J_bind (fun x5 h6 => ?_)
      refine J_ite (fun h7 => ?_) (fun h7 => ?_)
      · refine J_g 24 [] [(1, pp 0), (6, bv true)] [(0, .box (Disk.enc false a1))] (orcC 2 (x_c0 [(.tmp 8), (.const (.int .i64 0)), (.const (.int .i64 20000))] [2, 2, 2] (impl_within.ok a1.Budget 0 20000) h3) (orcL 4 [(10, bv (!x2))] [] h4 (orcH 7 4 11 false (x_c0 [(.tmp 13), (.const (.int .i64 0)), (.const (.int .i64 1000000000))] [2, 2, 2] (impl_within.ok a1.Writes 0 1000000000) h6) (orcL 10 [(16, bv (!x5))] [] h7 orcN)))) ?_
        exact J_qw (J_j (jv10 true)) rfl
      · refine J_bind (fun x8 h9 => ?_)
        refine J_g 24 [] [(1, pp 0), (6, bv (!x8))] [(0, .box (Disk.enc false a1))] (orcC 2 (x_c0 [(.tmp 8), (.const (.int .i64 0)), (.const (.int .i64 20000))] [2, 2, 2] (impl_within.ok a1.Budget 0 20000) h3) (orcL 4 [(10, bv (!x2))] [] h4 (orcH 7 4 11 false (x_c0 [(.tmp 13), (.const (.int .i64 0)), (.const (.int .i64 1000000000))] [2, 2, 2] (impl_within.ok a1.Writes 0 1000000000) h6) (orcL 10 [(16, bv (!x5))] [] h7 (orcH 13 10 17 false (x_c0 [(.tmp 19), (.const (.int .i64 (-1))), (.const (.int .i64 1000000000))] [2, 2, 2] (impl_within.ok a1.Stop (-1) 1000000000) h9) orcN))))) ?_
        exact J_qw (J_j (jv10 (!x8))) rfl

theorem bytealg_CompareString.ok (a1 a2 : ByteArray) : Ok Tryz.prog 207 [sv a1, sv a2] [] ((bytealg_CompareString a1 a2).map fun r => (iv r, [])) :=
  Ok_sc (vs := [.string a1, .string a2]) (fun w => Tryz.bytealg_CompareString a1 a2 w)

noncomputable def c189 : Code := (Tryz.f189.body).getD .skip

theorem strings_Compare.ok (a1 : ByteArray) (a2 : ByteArray) : Ok Tryz.prog 189 [sv a1, sv a2] [] ((strings_Compare a1 a2).map fun r => (iv r, [])) := by
  refine Ok_of3 c189 Tryz.f189 0 8 (fun q => ?_)
  unfold strings_Compare
  refine J_g 2 [] [(0, sv a1), (1, sv a2)] [] orcN ?_
  refine J_bind (fun x3 h4 => ?_)
  refine J_g 6 [] [(4, iv x3)] [] (orcC 2 (x_c0 [(.tmp 5), (.tmp 6)] [9, 9] (bytealg_CompareString.ok a1 a2) h4) orcN) ?_
  exact J_r1 rfl

noncomputable def c188 : Code := (Tryz.f188.body).getD .skip

theorem impl_Disk_place_1.ok (a1 : File) (a2 : ByteArray) : Ok Tryz.prog 188 [.ag (File.enc false a1), sv a2] [] ((impl_Disk_place_1 a1 a2).map fun r => (iv r, [])) := by
  refine Ok_of3 c188 Tryz.f188 0 9 (fun q => ?_)
  unfold impl_Disk_place_1
  refine J_g 2 [(0, 0)] [(1, sv a2), (2, pp 0)] [(0, .box (File.enc false a1))] orcN ?_
  refine J_bind (fun x3 h4 => ?_)
  refine J_g 6 [] [(4, iv x3)] [] (orcC 3 (x_c0 [(.tmp 6), (.tmp 7)] [9, 9] (strings_Compare.ok a1.Path a2) h4) orcN) ?_
  exact J_r1 rfl

noncomputable def c187 : Code := (Tryz.f187.body).getD .skip

theorem slices_BinarySearchFunc_LimplFile_impl_Disk_place_1_l1.ok (a1 : (List File)) (a2 : ByteArray) (q : Wd) (kn : Int → Option (D × List Ent)) (hk : ∀ v : Int, J (q.g Tryz.prog 187 0 49) c187 (atI c187 31) (St.mk' [(0, sl 2 (File.enc false) a1), (1, sv a2), (2, .fn 188 []), (8, iv (a1.length : Int)), (9, iv v)] []) (some v) kn) :
    ∀ s9 : (Int × Int), J (q.g Tryz.prog 187 0 49) c187 (atI c187 120) (St.mk' [(0, sl 2 (File.enc false) a1), (1, sv a2), (2, .fn 188 []), (8, iv (a1.length : Int)), (9, iv s9.1), (10, iv s9.2)] []) (slices_BinarySearchFunc_LimplFile_impl_Disk_place_1_l1 a1 a2 s9) kn := by
  refine J_lp (fun g ih s9 => ?_)
  unfold slices_BinarySearchFunc_LimplFile_impl_Disk_place_1_l1b
  refine J_g 480 [] [(0, sl 2 (File.enc false) a1), (1, sv a2), (2, .fn 188 []), (8, iv (a1.length : Int)), (9, iv s9.1), (10, iv s9.2), (17, bv (decide (s9.1 < s9.2)))] [] orcN ?_
  refine J_if2 17 (fun h10 => ?_) (fun h10 => ?_)
  · refine J_g 964 [] [(0, sl 2 (File.enc false) a1), (1, sv a2), (2, .fn 188 []), (8, iv (a1.length : Int)), (9, iv s9.1), (10, iv s9.2), (11, iv (w64 ((IntKind.u64.wrap (w64 (s9.1 + s9.2))).fdiv (2 ^ (min (1 : Int).toNat 64)))))] [] orcN ?_
    refine J_bind (fun x11 h12 => ?_)
    refine J_bind (fun x13 h14 => ?_)
    refine J_g 1930 [] [(0, sl 2 (File.enc false) a1), (1, sv a2), (2, .fn 188 []), (8, iv (a1.length : Int)), (9, iv s9.1), (10, iv s9.2), (11, iv (w64 ((IntKind.u64.wrap (w64 (s9.1 + s9.2))).fdiv (2 ^ (min (1 : Int).toNat 64))))), (31, bv (decide (x13 < 0)))] [] (orcC 3 (x_ix (kk := .i64) 44 121 2 (File.enc false) (.tmp 25) (.tmp 26) h12) (orcC 6 (x_c0v («as» := [.ag (File.enc false x11), sv a2]) (caps := []) 24 [(.tmp 28), (.tmp 29)] [121, 9] (impl_Disk_place_1.ok x11 a2) h14) orcN)) ?_
    refine J_if2 31 (fun h15 => ?_) (fun h15 => ?_)
    · refine J_g 3862 [] [(0, sl 2 (File.enc false) a1), (1, sv a2), (2, .fn 188 []), (8, iv (a1.length : Int)), (9, iv (w64 ((w64 ((IntKind.u64.wrap (w64 (s9.1 + s9.2))).fdiv (2 ^ (min (1 : Int).toNat 64)))) + 1))), (10, iv s9.2)] [] orcN ?_
      exact J_q (J_b (ih (w64 ((w64 ((IntKind.u64.wrap (w64 (s9.1 + s9.2))).fdiv (2 ^ (min (1 : Int).toNat 64)))) + 1), s9.2))) rfl
    · refine J_g 3863 [] [(0, sl 2 (File.enc false) a1), (1, sv a2), (2, .fn 188 []), (8, iv (a1.length : Int)), (9, iv s9.1), (10, iv (w64 ((IntKind.u64.wrap (w64 (s9.1 + s9.2))).fdiv (2 ^ (min (1 : Int).toNat 64)))))] [] orcN ?_
      exact J_q (J_b (ih (s9.1, w64 ((IntKind.u64.wrap (w64 (s9.1 + s9.2))).fdiv (2 ^ (min (1 : Int).toNat 64)))))) rfl
  · exact J_qw (hk s9.1) rfl

theorem slices_BinarySearchFunc_LimplFile_impl_Disk_place_1.ok (a1 : (List File)) (a2 : ByteArray) : Ok Tryz.prog 187 [sl 2 (File.enc false) a1, sv a2, .fn 188 []] [] ((slices_BinarySearchFunc_LimplFile_impl_Disk_place_1 a1 a2).map fun r => (.tu [iv r.1, bv r.2], [])) := by
  refine Ok_of3 c187 Tryz.f187 0 49 (fun q => ?_)
  unfold slices_BinarySearchFunc_LimplFile_impl_Disk_place_1
  refine J_g 2 [] [(0, sl 2 (File.enc false) a1), (1, sv a2), (2, .fn 188 [])] [] orcN ?_
  refine J_g 6 [] [(0, sl 2 (File.enc false) a1), (1, sv a2), (2, .fn 188 []), (8, iv (a1.length : Int))] [] orcN ?_
  refine J_g 14 [] [(0, sl 2 (File.enc false) a1), (1, sv a2), (2, .fn 188 []), (8, iv (a1.length : Int)), (9, iv 0), (10, iv (a1.length : Int))] [] orcN ?_
  refine J_lq (slices_BinarySearchFunc_LimplFile_impl_Disk_place_1_l1.ok a1 a2 q _ (fun v16 => J_j ?_) (0, (a1.length : Int)))
  refine J_ite (fun h17 => ?_) (fun h17 => ?_)
  · refine J_bind (fun x18 h19 => ?_)
    refine J_bind (fun x20 h21 => ?_)
    refine J_g 62 [] [(6, iv v16), (7, bv (x20 == 0))] [] (orcL 4 [(38, bv (decide (v16 < (a1.length : Int))))] [] h17 (orcH 8 4 39 true (x_ix (kk := .i64) 44 121 2 (File.enc false) (.tmp 41) (.tmp 42) h19) (orcH 11 4 39 true (x_c0v («as» := [.ag (File.enc false x18), sv a2]) (caps := []) 40 [(.tmp 44), (.tmp 45)] [121, 9] (impl_Disk_place_1.ok x18 a2) h21) orcN))) ?_
    exact J_rT rfl
  · refine J_g 62 [] [(6, iv v16), (7, bv false)] [] (orcL 4 [(38, bv (decide (v16 < (a1.length : Int))))] [] h17 orcN) ?_
    exact J_rT rfl

noncomputable def c158 : Code := (Tryz.f158.body).getD .skip

theorem impl_Disk_place.ok (a1 : Disk) (a2 : ByteArray) : Ok Tryz.prog 158 [.ag (Disk.enc false a1), sv a2] [] ((impl_Disk_place a1 a2).map fun r => (.tu [iv r.1, bv r.2], [])) := by
  refine Ok_of3 c158 Tryz.f158 0 12 (fun q => ?_)
  unfold impl_Disk_place
  refine J_g 2 [(0, 0)] [(1, sv a2), (2, pp 0)] [(0, .box (Disk.enc false a1))] orcN ?_
  refine J_bind (fun x3 h4 => ?_)
  refine J_g 6 [] [(4, iv x3.1), (5, bv x3.2)] [] (orcC 3 (x_c1 («as» := [sl 2 (File.enc false) a1.Files, sv a2, .fn 188 []]) [(.tmp 7), (.tmp 8), (.func 188)] [44, 9, 204] false [] [] (.cons (.same rfl) (.cons (.same rfl) (.cons (.fn (.nil)) (.nil)))) (slices_BinarySearchFunc_LimplFile_impl_Disk_place_1.ok a1.Files a2) h4 (.tu (.cons (.same rfl rfl) (.cons (.same rfl rfl) (.nil))))) orcN) ?_
  exact J_rT rfl

noncomputable def c113 : Code := (Tryz.f113.body).getD .skip

theorem impl_Disk_data.ok (a1 : Disk) (a2 : ByteArray) : Ok Tryz.prog 113 [.ag (Disk.enc false a1), sv a2] [] ((impl_Disk_data a1 a2).map fun r => (.tu [sl 1 eU8 r.1, bv r.2], [])) := by
  refine Ok_of3 c113 Tryz.f113 0 22 (fun q => ?_)
  unfold impl_Disk_data
  refine J_g 2 [(0, 0)] [(1, sv a2), (2, pp 0)] [(0, .box (Disk.enc false a1))] orcN ?_
  refine J_bind (fun x3 h4 => ?_)
  refine J_g 6 [] [(2, pp 0), (6, iv x3.1), (7, bv x3.2)] [(0, .box (Disk.enc false a1))] (orcC 2 (x_c0 [(.tmp 9), (.tmp 10)] [46, 9] (impl_Disk_place.ok a1 a2) h4) orcN) ?_
  refine J_g 28 [] [(2, pp 0), (6, iv x3.1), (15, bv (!x3.2))] [(0, .box (Disk.enc false a1))] orcN ?_
  refine J_if2 15 (fun h5 => ?_) (fun h5 => ?_)
  · refine J_g 116 [] [(4, nv), (5, bv false)] [] orcN ?_
    exact J_rm (ds := [nv, bv false]) (ds' := [sl 1 eU8 ([] : List Int), bv false]) (.cons (.cell (.nilsl false 1 (.nil))) (.cons (.cell (.keep rfl (.nil))) (.nil) (by decide)) (by decide)) rfl
  · refine J_bind (fun x6 h7 => ?_)
    refine J_g 30 [] [(4, sl 1 eU8 x6.Data), (5, bv true)] [] (orcC 3 (x_ix (kk := .i64) 44 121 2 (File.enc false) (.tmp 17) (.tmp 18) h7) orcN) ?_
    exact J_rT rfl

theorem strings_Split.ok (a1 a2 : ByteArray) : Ok Tryz.prog 164 [sv a1, sv a2] [] ((strings_Split a1 a2).map fun r => (so 1 eStr r, [])) := by
  unfold strings_Split
  split
  · rename_i h
    refine Ok_split (t := 9) (fun w hG => ?_)
    obtain ⟨m, hm⟩ := maxLen_of (g := 0) hG (by kernel_rfl)
    rw [Lib.splitB_all a2 h.2 0 _ a1 rfl]
    exact Tryz.strings_Split a1 a2 m w h.1 hm h.2
  · exact fun _ h => by cases h

noncomputable def c124 : Code := (Tryz.f124.body).getD .skip

theorem impl_linesOf.ok (a1 : ByteArray) : Ok Tryz.prog 124 [sv a1] [] ((impl_linesOf a1).map fun r => (so 1 eStr r, [])) := by
  refine Ok_of3 c124 Tryz.f124 0 19 (fun q => ?_)
  unfold impl_linesOf
  refine J_g 2 [] [(0, sv a1)] [] orcN ?_
  refine J_bind (fun x2 h3 => ?_)
  refine J_g 6 [] [(3, rr 0 x2)] [(0, rE 1 eStr x2)] (orcC 1 (x_c1 («as» := [sv a1, sv (bs [10])]) [(.tmp 4), (.const (.string (bs [10])))] [9, 9] false [] [] (.cons (.same rfl) (.cons (.same rfl) (.nil))) (strings_Split.ok a1 (bs [10])) h3 (.own 0)) orcN) ?_
  refine J_bind (fun x4 h5 => ?_)
  refine J_g 28 [] [(3, rr 0 x2), (12, bv (seq x4 (bs [])))] [(0, rE 1 eStr x2)] (orcC 4 (x_ixr (kk := .i64) 73 9 1 0 eStr (.tmp 6) (.tmp 9) h5) (orcC 5 (x_ldr (d := sv x4) 9 1 0 0 eStr (.tmp 10) h5 (by kernel_rfl)) orcN)) ?_
  refine J_join (atI c124 15) (fun v9 : (List ByteArray) => St.mk' [(3, rr 1 v9)] [(1, rE 1 eStr v9)]) (fun v9 => ?_) (fun jv9 => ?_)
  · refine J_g 30 [] [(2, rr 1 v9)] [(1, rE 1 eStr v9)] orcN ?_
    exact J_rm (ds := [rr 1 v9]) (ds' := [so 1 eStr v9]) (.cons (.cell (.move (.head _) (List.length_map _) (by decide) (.nil))) (.nil) (by decide)) rfl
  · refine J_if2 12 (fun h6 => ?_) (fun h6 => ?_)
    · refine J_bind (fun x7 h8 => ?_)
      refine J_g 58 [] [(3, rr 1 x7)] [(1, rE 1 eStr x7)] (orcC 4 (x_cut 73 9 1 0 1 eStr (.tmp 13) none (some (.tmp 16)) h8) orcN) ?_
      exact J_qw (J_j (jv9 x7)) rfl
    · refine J_ren 0 1 (Nat.le_of_ble_eq_true rfl) (Nat.le_of_ble_eq_true rfl) ?_
      exact J_qw (J_j (jv9 x2)) rfl

noncomputable def c146 : Code := (Tryz.f146.body).getD .skip

theorem impl_top.ok  : Ok Tryz.prog 146 [] [] ((impl_top).map fun r => (.ag (Version.enc r), [])) := by
  refine Ok_of3 c146 Tryz.f146 0 2 (fun q => ?_)
  unfold impl_top
  refine J_g 2 [(0, 0)] [(0, pp 0)] [(0, .box [iv 0, iv 0, iv 0])] orcN ?_
  refine J_g 6 [] [(0, pp 0)] [(0, .box [iv 1000, iv 0, iv 0])] orcN ?_
  exact J_r1 rfl

noncomputable def c165 : Code := (Tryz.f165.body).getD .skip

theorem impl_AnyTerm.ok (a1 : ByteArray) : Ok Tryz.prog 165 [sv a1] [] ((impl_AnyTerm a1).map fun r => (.ag (Term.enc r), [])) := by
  refine Ok_of3 c165 Tryz.f165 0 6 (fun q => ?_)
  unfold impl_AnyTerm
  refine J_g 2 [(0, 0)] [(0, sv a1), (2, pp 0)] [(0, .box [sv ByteArray.empty, iv 0, iv 0, iv 0, iv 0, iv 0, iv 0])] orcN ?_
  refine J_bind (fun x2 h3 => ?_)
  refine J_g 6 [] [(2, pp 0)] [(0, .box [sv a1, iv 0, iv 0, iv 0, iv x2.A, iv x2.B, iv x2.C])] (orcC 1 (x_c0 [] [] (impl_top.ok) h3) orcN) ?_
  exact J_r1 rfl

noncomputable def c139 : Code := (Tryz.f139.body).getD .skip

theorem impl_NameFault_l1.ok (a1 : ByteArray) (q : Wd) (kn : Unit → Option (D × List Ent)) (hk : ∀ v : Unit, J (q.g Tryz.prog 139 0 33) c139 (atI c139 15) (St.mk' [] []) (some v) kn) :
    ∀ s17 : Int, J (q.g Tryz.prog 139 0 33) c139 (atI c139 116) (St.mk' [(0, sv a1), (23, iv (a1.size : Int)), (24, iv s17)] []) (impl_NameFault_l1 a1 s17) (Fl.go (fun r : Int => some (iv r, [])) kn) := by
  refine J_lp (fun g ih s17 => ?_)
  unfold impl_NameFault_l1b
  refine J_g 232 [] [(0, sv a1), (23, iv (a1.size : Int)), (24, iv s17), (25, bv (decide (s17 < (a1.size : Int))))] [] orcN ?_
  refine J_if2 25 (fun h18 => ?_) (fun h18 => ?_)
  · refine J_g 3736 [] [(0, sv a1), (3, iv s17), (23, iv (a1.size : Int)), (24, iv s17)] [] orcN ?_
    refine J_bind (fun x19 h20 => ?_)
    refine J_bind (fun x21 h22 => ?_)
    refine J_g 7474 [] [(0, sv a1), (23, iv (a1.size : Int)), (24, iv s17), (31, bv (!x21))] [] (orcC 2 (x_bi (kk := .i64) 9 (.tmp 27) (.tmp 28) h20) (orcC 3 (x_c0 [(.tmp 29)] [5] (impl_isNameByte.ok x19) h22) orcN)) ?_
    refine J_if2 31 (fun h23 => ?_) (fun h23 => ?_)
    · refine J_g 29900 [] [(2, iv 5)] [] orcN ?_
      exact J_r1 rfl
    · refine J_g 935 [] [(0, sv a1), (23, iv (a1.size : Int)), (24, iv (w64 (s17 + 1)))] [] orcN ?_
      exact J_q (J_b (ih (w64 (s17 + 1)))) rfl
  · exact J_qw (hk ()) rfl

theorem impl_NameFault.ok (a1 : ByteArray) : Ok Tryz.prog 139 [sv a1] [] ((impl_NameFault a1).map fun r => (iv r, [])) := by
  refine Ok_of3 c139 Tryz.f139 0 33 (fun q => ?_)
  unfold impl_NameFault
  refine J_g 2 [] [(0, sv a1)] [] orcN ?_
  refine J_join (atI c139 13) (fun v9 : Bool => St.mk' [(0, sv a1), (21, bv v9)] []) (fun v9 => ?_) (fun jv9 => ?_)
  · refine J_if2 21 (fun h10 => ?_) (fun h10 => ?_)
    · refine J_g 52 [] [(2, iv 5)] [] orcN ?_
      exact J_r1 rfl
    · refine J_g 28 [] [(0, sv a1), (23, iv (a1.size : Int)), (24, iv 0)] [] orcN ?_
      refine J_lqF (K0 := (fun r : Int => some (iv r, []))) (fun _ => rfl) (impl_NameFault_l1.ok a1 q _ (fun v24 => J_j ?_) 0)
      refine J_g 30 [] [(2, iv 0)] [] orcN ?_
      exact J_r1 rfl
  · refine J_ite (fun h2 => ?_) (fun h2 => ?_)
    · refine J_g 12 [] [(0, sv a1), (21, bv true)] [] (orcL 3 [(6, bv (decide ((a1.size : Int) < 1)))] [] h2 orcN) ?_
      exact J_qw (J_j (jv9 true)) rfl
    · refine J_ite (fun h3 => ?_) (fun h3 => ?_)
      · refine J_g 12 [] [(0, sv a1), (21, bv true)] [] (orcL 3 [(6, bv (decide ((a1.size : Int) < 1)))] [] h2 (orcL 8 [(11, bv (decide ((a1.size : Int) > 12)))] [] h3 orcN)) ?_
        exact J_qw (J_j (jv9 true)) rfl
      · refine J_bind (fun x4 h5 => ?_)
        refine J_ite (fun h6 => ?_) (fun h6 => ?_)
        · refine J_g 12 [] [(0, sv a1), (21, bv true)] [] (orcL 3 [(6, bv (decide ((a1.size : Int) < 1)))] [] h2 (orcL 8 [(11, bv (decide ((a1.size : Int) > 12)))] [] h3 (orcH 10 8 12 false (x_bi (kk := .i64) 9 (.tmp 13) (.const (.int .i64 0)) h5) (orcL 13 [(16, bv (decide (x4 < 97)))] [] h6 orcN)))) ?_
          exact J_qw (J_j (jv9 true)) rfl
        · refine J_bind (fun x7 h8 => ?_)
          refine J_g 12 [] [(0, sv a1), (21, bv (decide (x7 > 122)))] [] (orcL 3 [(6, bv (decide ((a1.size : Int) < 1)))] [] h2 (orcL 8 [(11, bv (decide ((a1.size : Int) > 12)))] [] h3 (orcH 10 8 12 false (x_bi (kk := .i64) 9 (.tmp 13) (.const (.int .i64 0)) h5) (orcL 13 [(16, bv (decide (x4 < 97)))] [] h6 (orcH 15 13 17 false (x_bi (kk := .i64) 9 (.tmp 18) (.const (.int .i64 0)) h8) orcN))))) ?_
          exact J_qw (J_j (jv9 (decide (x7 > 122)))) rfl

noncomputable def c211 : Code := (Tryz.f211.body).getD .skip

theorem internal_stringslite_HasPrefix.ok (a1 : ByteArray) (a2 : ByteArray) : Ok Tryz.prog 211 [sv a1, sv a2] [] ((internal_stringslite_HasPrefix a1 a2).map fun r => (bv r, [])) := by
  refine Ok_of3 c211 Tryz.f211 0 18 (fun q => ?_)
  unfold internal_stringslite_HasPrefix
  refine J_g 2 [] [(0, sv a1), (1, sv a2)] [] orcN ?_
  refine J_ite (fun h3 => ?_) (fun h3 => ?_)
  · refine J_bind (fun x4 h5 => ?_)
    refine J_g 6 [] [(4, bv (seq x4 a2))] [] (orcL 5 [(9, bv (decide ((a1.size : Int) ≥ (a2.size : Int))))] [] h3 (orcH 9 5 10 true (x_ss 9 (.tmp 11) none (some (.tmp 13)) h5) orcN)) ?_
    exact J_r1 rfl
  · refine J_g 6 [] [(4, bv false)] [] (orcL 5 [(9, bv (decide ((a1.size : Int) ≥ (a2.size : Int))))] [] h3 orcN) ?_
    exact J_r1 rfl

noncomputable def c194 : Code := (Tryz.f194.body).getD .skip

theorem internal_stringslite_CutPrefix.ok (a1 : ByteArray) (a2 : ByteArray) : Ok Tryz.prog 194 [sv a1, sv a2] [] ((internal_stringslite_CutPrefix a1 a2).map fun r => (.tu [sv r.1, bv r.2], [])) := by
  refine Ok_of3 c194 Tryz.f194 0 15 (fun q => ?_)
  unfold internal_stringslite_CutPrefix
  refine J_g 2 [] [(0, sv a1), (1, sv a2)] [] orcN ?_
  refine J_bind (fun x3 h4 => ?_)
  refine J_g 12 [] [(0, sv a1), (1, sv a2), (9, bv (!x3))] [] (orcC 2 (x_c0 [(.tmp 6), (.tmp 7)] [9, 9] (internal_stringslite_HasPrefix.ok a1 a2) h4) orcN) ?_
  refine J_if2 9 (fun h5 => ?_) (fun h5 => ?_)
  · refine J_g 52 [] [(4, sv a1), (5, bv false)] [] orcN ?_
    exact J_rT rfl
  · refine J_bind (fun x6 h7 => ?_)
    refine J_g 14 [] [(4, sv x6), (5, bv true)] [] (orcC 3 (x_ss 9 (.tmp 11) (some (.tmp 13)) none h7) orcN) ?_
    exact J_rT rfl

noncomputable def c166 : Code := (Tryz.f166.body).getD .skip

theorem strings_CutPrefix.ok (a1 : ByteArray) (a2 : ByteArray) : Ok Tryz.prog 166 [sv a1, sv a2] [] ((strings_CutPrefix a1 a2).map fun r => (.tu [sv r.1, bv r.2], [])) := by
  refine Ok_of3 c166 Tryz.f166 0 11 (fun q => ?_)
  unfold strings_CutPrefix
  refine J_g 2 [] [(0, sv a1), (1, sv a2)] [] orcN ?_
  refine J_bind (fun x3 h4 => ?_)
  refine J_g 6 [] [(4, sv x3.1), (5, bv x3.2)] [] (orcC 2 (x_c0 [(.tmp 6), (.tmp 7)] [9, 9] (internal_stringslite_CutPrefix.ok a1 a2) h4) orcN) ?_
  exact J_rT rfl

theorem strings_IndexByte.ok (a1 : ByteArray) (a2 : Int) : Ok Tryz.prog 167 [sv a1, uv a2] [] ((strings_IndexByte a1 a2).map fun r => (iv r, [])) :=
  Ok_sc (vs := [.string a1, .int .u8 a2]) (fun w => Tryz.strings_IndexByte a1 a2 w)

noncomputable def c175 : Code := (Tryz.f175.body).getD .skip

theorem impl_number_l1.ok (a1 : ByteArray) (q : Wd) (kn : Int → Option (D × List Ent)) (hk : ∀ v : Int, J (q.g Tryz.prog 175 0 40) c175 (atI c175 31) (St.mk' [(5, iv v)] []) (some v) kn) :
    ∀ s16 : (Int × Int), J (q.g Tryz.prog 175 0 40) c175 (atI c175 244) (St.mk' [(0, sv a1), (5, iv s16.1), (16, iv (a1.size : Int)), (17, iv s16.2)] []) (impl_number_l1 a1 s16) (Fl.go (fun r : Int => some (iv r, [])) kn) := by
  refine J_lp (fun g ih s16 => ?_)
  unfold impl_number_l1b
  refine J_g 488 [] [(0, sv a1), (5, iv s16.1), (16, iv (a1.size : Int)), (17, iv s16.2), (18, bv (decide (s16.2 < (a1.size : Int))))] [] orcN ?_
  refine J_if2 18 (fun h17 => ?_) (fun h17 => ?_)
  · refine J_g 7832 [] [(0, sv a1), (5, iv s16.1), (6, iv s16.2), (16, iv (a1.size : Int)), (17, iv s16.2)] [] orcN ?_
    refine J_bind (fun x18 h19 => ?_)
    refine J_join (atI c175 31333) (fun v23 : Bool => St.mk' [(0, sv a1), (5, iv s16.1), (6, iv s16.2), (16, iv (a1.size : Int)), (17, iv s16.2), (29, bv v23)] []) (fun v23 => ?_) (fun jv23 => ?_)
    · refine J_if2 29 (fun h24 => ?_) (fun h24 => ?_)
      · refine J_g 125332 [] [(4, iv (-1))] [] orcN ?_
        exact J_r1 rfl
      · refine J_bind (fun x25 h26 => ?_)
        refine J_g 15667 [] [(0, sv a1), (5, iv (w64 ((w64 (10 * s16.1)) + (w64 (IntKind.u8.wrap (x25 - 48)))))), (16, iv (a1.size : Int)), (17, iv s16.2)] [] (orcC 4 (x_bi (kk := .i64) 9 (.tmp 32) (.tmp 33) h26) orcN) ?_
        refine J_g 1959 [] [(0, sv a1), (5, iv (w64 ((w64 (10 * s16.1)) + (w64 (IntKind.u8.wrap (x25 - 48)))))), (16, iv (a1.size : Int)), (17, iv (w64 (s16.2 + 1)))] [] orcN ?_
        exact J_q (J_b (ih (w64 ((w64 (10 * s16.1)) + (w64 (IntKind.u8.wrap (x25 - 48)))), w64 (s16.2 + 1)))) rfl
    · refine J_ite (fun h20 => ?_) (fun h20 => ?_)
      · refine J_g 31332 [] [(0, sv a1), (5, iv s16.1), (6, iv s16.2), (16, iv (a1.size : Int)), (17, iv s16.2), (29, bv true)] [] (orcC 2 (x_bi (kk := .i64) 9 (.tmp 20) (.tmp 21) h19) (orcL 4 [(23, bv (decide (x18 < 48)))] [] h20 orcN)) ?_
        exact J_qw (J_j (jv23 true)) rfl
      · refine J_bind (fun x21 h22 => ?_)
        refine J_g 31332 [] [(0, sv a1), (5, iv s16.1), (6, iv s16.2), (16, iv (a1.size : Int)), (17, iv s16.2), (29, bv (decide (x21 > 57)))] [] (orcC 2 (x_bi (kk := .i64) 9 (.tmp 20) (.tmp 21) h19) (orcL 4 [(23, bv (decide (x18 < 48)))] [] h20 (orcH 7 4 24 false (x_bi (kk := .i64) 9 (.tmp 25) (.tmp 26) h22) orcN))) ?_
        exact J_qw (J_j (jv23 (decide (x21 > 57)))) rfl
  · exact J_qw (hk s16.1) rfl

theorem impl_number.ok (a1 : ByteArray) (a2 : Int) : Ok Tryz.prog 175 [sv a1, iv a2] [] ((impl_number a1 a2).map fun r => (iv r, [])) := by
  refine Ok_of3 c175 Tryz.f175 0 40 (fun q => ?_)
  unfold impl_number
  refine J_g 2 [] [(0, sv a1), (1, iv a2)] [] orcN ?_
  refine J_join (atI c175 13) (fun v4 : Bool => St.mk' [(0, sv a1), (14, bv v4)] []) (fun v4 => ?_) (fun jv4 => ?_)
  · refine J_if2 14 (fun h5 => ?_) (fun h5 => ?_)
    · refine J_g 52 [] [(4, iv (-1))] [] orcN ?_
      exact J_r1 rfl
    · refine J_g 14 [] [(0, sv a1), (5, iv 0)] [] orcN ?_
      refine J_g 60 [] [(0, sv a1), (5, iv 0), (16, iv (a1.size : Int)), (17, iv 0)] [] orcN ?_
      refine J_lqF (K0 := (fun r : Int => some (iv r, []))) (fun _ => rfl) (impl_number_l1.ok a1 q _ (fun v27 => J_j ?_) (0, 0))
      refine J_g 62 [] [(4, iv v27)] [] orcN ?_
      exact J_r1 rfl
  · refine J_ite (fun h3 => ?_) (fun h3 => ?_)
    · refine J_g 12 [] [(0, sv a1), (14, bv true)] [] (orcL 2 [(8, bv (seq a1 (bs [])))] [] h3 orcN) ?_
      exact J_qw (J_j (jv4 true)) rfl
    · refine J_g 12 [] [(0, sv a1), (14, bv (decide ((a1.size : Int) > a2)))] [] (orcL 2 [(8, bv (seq a1 (bs [])))] [] h3 orcN) ?_
      exact J_qw (J_j (jv4 (decide ((a1.size : Int) > a2)))) rfl

noncomputable def c168 : Code := (Tryz.f168.body).getD .skip

theorem impl_ParseVersion_l1.ok (x2 : (List ByteArray)) (q : Wd) (kn : (List Int) → Option (D × List Ent)) (hk : ∀ v : (List Int), J (q.g Tryz.prog 168 0 39) c168 (atI c168 63) (St.mk' [(2, pp 0), (4, pp 2)] [(0, .box [iv 0, iv 0, iv 0, iv 0]), (2, rE 1 eI64 v)]) (some v) kn) :
    ∀ s15 : ((List Int) × Int), J (q.g Tryz.prog 168 0 39) c168 (atI c168 500) (St.mk' [(2, pp 0), (4, pp 2), (14, rr 1 x2), (15, iv (x2.length : Int)), (16, iv s15.2)] [(0, .box [iv 0, iv 0, iv 0, iv 0]), (1, rE 1 eStr x2), (2, rE 1 eI64 s15.1)]) (impl_ParseVersion_l1 x2 s15) (Fl.go (fun r : VersionResult => some (.ag (VersionResult.enc r), [])) kn) := by
  refine J_lp (fun g ih s15 => ?_)
  unfold impl_ParseVersion_l1b
  refine J_g 1000 [] [(2, pp 0), (4, pp 2), (14, rr 1 x2), (15, iv (x2.length : Int)), (16, iv s15.2), (17, bv (decide (s15.2 < (x2.length : Int))))] [(0, .box [iv 0, iv 0, iv 0, iv 0]), (1, rE 1 eStr x2), (2, rE 1 eI64 s15.1)] orcN ?_
  refine J_if2 17 (fun h16 => ?_) (fun h16 => ?_)
  · refine J_bind (fun x17 h18 => ?_)
    refine J_g 16024 [] [(2, pp 0), (4, pp 2), (5, iv s15.2), (6, sv x17), (14, rr 1 x2), (15, iv (x2.length : Int)), (16, iv s15.2)] [(0, .box [iv 0, iv 0, iv 0, iv 0]), (1, rE 1 eStr x2), (2, rE 1 eI64 s15.1)] (orcC 1 (x_ixr (kk := .i64) 73 9 1 1 eStr (.tmp 14) (.tmp 16) h18) (orcC 2 (x_ldr (d := sv x17) 9 1 1 0 eStr (.tmp 19) h18 (by kernel_rfl)) orcN)) ?_
    refine J_bind (fun x19 h20 => ?_)
    refine J_bind (fun x21 h22 => ?_)
    refine J_g 32050 [] [(2, pp 0), (4, pp 2), (5, iv s15.2), (14, rr 1 x2), (15, iv (x2.length : Int)), (16, iv s15.2)] [(0, .box [iv 0, iv 0, iv 0, iv 0]), (1, rE 1 eStr x2), (2, rE 1 eI64 (s15.1.set s15.2.toNat x19))] (orcC 2 (x_c0 [(.tmp 22), (.const (.int .i64 3))] [9, 3] (impl_number.ok x17 3) h20) (orcC 3 (x_ixa (kk := .i64) 207 2 1 2 eI64 (.tmp 4) (.tmp 21) 3 h22) (orcD 4 (x_st (b := x19) 2 1 2 0 eI64 (iv x19) (.tmp 24) (.tmp 23) (idxa_idx h22) rfl) orcN))) ?_
    refine J_bind (fun x23 h24 => ?_)
    refine J_g 64102 [] [(2, pp 0), (4, pp 2), (14, rr 1 x2), (15, iv (x2.length : Int)), (16, iv s15.2), (28, bv (decide (x23 < 0)))] [(0, .box [iv 0, iv 0, iv 0, iv 0]), (1, rE 1 eStr x2), (2, rE 1 eI64 (s15.1.set s15.2.toNat x19))] (orcC 1 (x_ixa (kk := .i64) 207 2 1 2 eI64 (.tmp 4) (.tmp 25) 3 h24) (orcC 2 (x_ldr (d := iv x23) 2 1 2 0 eI64 (.tmp 26) (idxa_idx h24) (by kernel_rfl)) orcN)) ?_
    refine J_if2 28 (fun h25 => ?_) (fun h25 => ?_)
    · refine J_g 256412 [] [(2, pp 0)] [(0, .box [iv 5, iv 0, iv 0, iv 0])] orcN ?_
      exact J_r1 rfl
    · refine J_g 4007 [] [(2, pp 0), (4, pp 2), (14, rr 1 x2), (15, iv (x2.length : Int)), (16, iv (w64 (s15.2 + 1)))] [(0, .box [iv 0, iv 0, iv 0, iv 0]), (1, rE 1 eStr x2), (2, rE 1 eI64 (s15.1.set s15.2.toNat x19))] orcN ?_
      exact J_q (J_b (ih (s15.1.set s15.2.toNat x19, w64 (s15.2 + 1)))) rfl
  · exact J_qw (hk s15.1) rfl

theorem impl_ParseVersion.ok (a1 : ByteArray) : Ok Tryz.prog 168 [sv a1] [] ((impl_ParseVersion a1).map fun r => (.ag (VersionResult.enc r), [])) := by
  refine Ok_of3 c168 Tryz.f168 0 39 (fun q => ?_)
  unfold impl_ParseVersion
  refine J_g 2 [(0, 0)] [(0, sv a1), (2, pp 0)] [(0, .box [iv 0, iv 0, iv 0, iv 0])] orcN ?_
  refine J_bind (fun x2 h3 => ?_)
  refine J_g 6 [] [(2, pp 0), (3, rr 1 x2)] [(0, .box [iv 0, iv 0, iv 0, iv 0]), (1, rE 1 eStr x2)] (orcC 1 (x_c1 («as» := [sv a1, sv (bs [46])]) [(.tmp 7), (.const (.string (bs [46])))] [9, 9] false [] [] (.cons (.same rfl) (.cons (.same rfl) (.nil))) (strings_Split.ok a1 (bs [46])) h3 (.own 1)) orcN) ?_
  refine J_g 14 [(1, 2)] [(2, pp 0), (3, rr 1 x2), (4, pp 2)] [(0, .box [iv 0, iv 0, iv 0, iv 0]), (1, rE 1 eStr x2), (2, .box [iv 0, iv 0, iv 0])] (orcC 0 (x_build0 207 [.int .i64 0, .int .i64 0, .int .i64 0]) orcN) ?_
  refine J_wk [(2, pp 0), (3, rr 1 x2), (4, pp 2)] [(2, .box [iv 0, iv 0, iv 0]), (0, .box [iv 0, iv 0, iv 0, iv 0]), (1, rE 1 eStr x2)] (by kernel_rfl) ?_
  refine J_boxrow 2 (z := 1) (xs := ([0, 0, 0] : (List Int)).map eI64) (by kernel_rfl) (by kernel_rfl) (by kernel_rfl) (by kernel_rfl) rfl ?_
  refine J_wk [(2, pp 0), (3, rr 1 x2), (4, pp 2)] [(0, .box [iv 0, iv 0, iv 0, iv 0]), (1, rE 1 eStr x2), (2, rE 1 eI64 ([0, 0, 0] : (List Int)))] (by kernel_rfl) ?_
  refine J_g 60 [] [(2, pp 0), (3, rr 1 x2), (4, pp 2), (12, bv (decide ((x2.length : Int) > 3)))] [(0, .box [iv 0, iv 0, iv 0, iv 0]), (1, rE 1 eStr x2), (2, rE 1 eI64 ([0, 0, 0] : (List Int)))] orcN ?_
  refine J_if2 12 (fun h4 => ?_) (fun h4 => ?_)
  · refine J_g 244 [] [(2, pp 0)] [(0, .box [iv 5, iv 0, iv 0, iv 0])] orcN ?_
    exact J_r1 rfl
  · refine J_g 124 [] [(2, pp 0), (4, pp 2), (14, rr 1 x2), (15, iv (x2.length : Int)), (16, iv 0)] [(0, .box [iv 0, iv 0, iv 0, iv 0]), (1, rE 1 eStr x2), (2, rE 1 eI64 ([0, 0, 0] : (List Int)))] orcN ?_
    refine J_lqF (K0 := (fun r : VersionResult => some (.ag (VersionResult.enc r), []))) (fun _ => rfl) (impl_ParseVersion_l1.ok x2 q _ (fun v26 => J_j ?_) (([0, 0, 0] : (List Int)), 0))
    refine J_bind (fun x27 h28 => ?_)
    refine J_bind (fun x29 h30 => ?_)
    refine J_bind (fun x31 h32 => ?_)
    refine J_g 126 [] [(2, pp 0)] [(0, .box [iv 0, iv x27, iv x29, iv x31])] (orcC 0 (x_ixa (kk := .i64) 207 2 1 2 eI64 (.tmp 4) (.const (.int .i64 0)) 3 h28) (orcC 1 (x_ldr (d := iv x27) 2 1 2 0 eI64 (.tmp 31) (idxa_idx h28) (by kernel_rfl)) (orcC 2 (x_ixa (kk := .i64) 207 2 1 2 eI64 (.tmp 4) (.const (.int .i64 1)) 3 h30) (orcC 3 (x_ldr (d := iv x29) 2 1 2 0 eI64 (.tmp 33) (idxa_idx h30) (by kernel_rfl)) (orcC 4 (x_ixa (kk := .i64) 207 2 1 2 eI64 (.tmp 4) (.const (.int .i64 2)) 3 h32) (orcC 5 (x_ldr (d := iv x31) 2 1 2 0 eI64 (.tmp 35) (idxa_idx h32) (by kernel_rfl)) orcN)))))) ?_
    exact J_r1 rfl

noncomputable def c140 : Code := (Tryz.f140.body).getD .skip

theorem impl_VersionFault.ok (a1 : Version) : Ok Tryz.prog 140 [.ag (Version.enc a1)] [] ((impl_VersionFault a1).map fun r => (iv r, [])) := by
  refine Ok_of3 c140 Tryz.f140 0 19 (fun q => ?_)
  unfold impl_VersionFault
  refine J_g 2 [(0, 0)] [(1, pp 0)] [(0, .box (Version.enc a1))] orcN ?_
  refine J_bind (fun x2 h3 => ?_)
  refine J_join (atI c140 13) (fun v10 : Bool => St.mk' [(18, bv v10)] []) (fun v10 => ?_) (fun jv10 => ?_)
  · refine J_if2 18 (fun h11 => ?_) (fun h11 => ?_)
    · refine J_g 52 [] [(2, iv 3)] [] orcN ?_
      exact J_r1 rfl
    · refine J_g 14 [] [(2, iv 0)] [] orcN ?_
      exact J_r1 rfl
  · refine J_ite (fun h4 => ?_) (fun h4 => ?_)
    · refine J_g 12 [] [(18, bv true)] [] (orcC 2 (x_c0 [(.tmp 4), (.const (.int .i64 0)), (.const (.int .i64 999))] [2, 2, 2] (impl_within.ok a1.A 0 999) h3) (orcL 4 [(6, bv (!x2))] [] h4 orcN)) ?_
      exact J_qw (J_j (jv10 true)) rfl
    · refine J_bind (fun x5 h6 => ?_)
      refine J_ite (fun h7 => ?_) (fun h7 => ?_)
      · refine J_g 12 [] [(18, bv true)] [] (orcC 2 (x_c0 [(.tmp 4), (.const (.int .i64 0)), (.const (.int .i64 999))] [2, 2, 2] (impl_within.ok a1.A 0 999) h3) (orcL 4 [(6, bv (!x2))] [] h4 (orcH 7 4 7 false (x_c0 [(.tmp 9), (.const (.int .i64 0)), (.const (.int .i64 999))] [2, 2, 2] (impl_within.ok a1.B 0 999) h6) (orcL 10 [(12, bv (!x5))] [] h7 orcN)))) ?_
        exact J_qw (J_j (jv10 true)) rfl
      · refine J_bind (fun x8 h9 => ?_)
        refine J_g 12 [] [(18, bv (!x8))] [] (orcC 2 (x_c0 [(.tmp 4), (.const (.int .i64 0)), (.const (.int .i64 999))] [2, 2, 2] (impl_within.ok a1.A 0 999) h3) (orcL 4 [(6, bv (!x2))] [] h4 (orcH 7 4 7 false (x_c0 [(.tmp 9), (.const (.int .i64 0)), (.const (.int .i64 999))] [2, 2, 2] (impl_within.ok a1.B 0 999) h6) (orcL 10 [(12, bv (!x5))] [] h7 (orcH 13 10 13 false (x_c0 [(.tmp 15), (.const (.int .i64 0)), (.const (.int .i64 999))] [2, 2, 2] (impl_within.ok a1.C 0 999) h9) orcN))))) ?_
        exact J_qw (J_j (jv10 (!x8))) rfl

noncomputable def c206 : Code := (Tryz.f206.body).getD .skip

theorem cmp_isNaN_int64.ok (a1 : Int) : Ok Tryz.prog 206 [iv a1] [] ((cmp_isNaN_int64 a1).map fun r => (bv r, [])) := by
  refine Ok_of3 c206 Tryz.f206 0 6 (fun q => ?_)
  unfold cmp_isNaN_int64
  refine J_g 2 [] [(0, iv a1)] [] orcN ?_
  refine J_g 6 [] [(2, bv (a1 != a1))] [] orcN ?_
  exact J_r1 rfl

noncomputable def c184 : Code := (Tryz.f184.body).getD .skip

theorem cmp_Compare_int64.ok (a1 : Int) (a2 : Int) : Ok Tryz.prog 184 [iv a1, iv a2] [] ((cmp_Compare_int64 a1 a2).map fun r => (iv r, [])) := by
  refine Ok_of3 c184 Tryz.f184 0 20 (fun q => ?_)
  unfold cmp_Compare_int64
  refine J_g 2 [] [(0, iv a1), (1, iv a2)] [] orcN ?_
  refine J_bind (fun x3 h4 => ?_)
  refine J_g 6 [] [(0, iv a1), (1, iv a2), (5, bv x3)] [] (orcC 1 (x_c0 [(.tmp 7)] [2] (cmp_isNaN_int64.ok a1) h4) orcN) ?_
  refine J_bind (fun x5 h6 => ?_)
  refine J_g 14 [] [(0, iv a1), (1, iv a2), (5, bv x3), (6, bv x5)] [] (orcC 1 (x_c0 [(.tmp 9)] [2] (cmp_isNaN_int64.ok a2) h6) orcN) ?_
  refine J_g 60 [] [(0, iv a1), (1, iv a2), (6, bv x5), (11, bv x3)] [] orcN ?_
  refine J_if2 11 (fun h7 => ?_) (fun h7 => ?_)
  · refine J_g 488 [] [(12, bv x5)] [] orcN ?_
    refine J_if2 12 (fun h8 => ?_) (fun h8 => ?_)
    · refine J_g 1956 [] [(4, iv 0)] [] orcN ?_
      exact J_r1 rfl
    · refine J_g 490 [] [(4, iv (-1))] [] orcN ?_
      exact J_r1 rfl
  · refine J_g 124 [] [(0, iv a1), (1, iv a2), (13, bv x5)] [] orcN ?_
    refine J_if2 13 (fun h9 => ?_) (fun h9 => ?_)
    · refine J_g 500 [] [(4, iv 1)] [] orcN ?_
      exact J_r1 rfl
    · refine J_g 252 [] [(0, iv a1), (1, iv a2), (16, bv (decide (a1 < a2)))] [] orcN ?_
      refine J_if2 16 (fun h10 => ?_) (fun h10 => ?_)
      · refine J_g 1012 [] [(4, iv (-1))] [] orcN ?_
        exact J_r1 rfl
      · refine J_g 508 [] [(19, bv (decide (a1 > a2)))] [] orcN ?_
        refine J_if2 19 (fun h11 => ?_) (fun h11 => ?_)
        · refine J_g 2036 [] [(4, iv 1)] [] orcN ?_
          exact J_r1 rfl
        · refine J_g 510 [] [(4, iv 0)] [] orcN ?_
          exact J_r1 rfl

noncomputable def c183 : Code := (Tryz.f183.body).getD .skip

theorem cmp_Or_int_l1.ok (a1 : (List Int)) (q : Wd) (kn : Unit → Option (D × List Ent)) (hk : ∀ v : Unit, J (q.g Tryz.prog 183 0 18) c183 (atI c183 15) (St.mk' [(3, iv 0)] []) (some v) kn) :
    ∀ s6 : Int, J (q.g Tryz.prog 183 0 18) c183 (atI c183 116) (St.mk' [(3, iv 0), (6, sl 1 eI64 a1), (7, iv (a1.length : Int)), (8, iv s6)] []) (cmp_Or_int_l1 a1 s6) (Fl.go (fun r : Int => some (iv r, [])) kn) := by
  refine J_lp (fun g ih s6 => ?_)
  unfold cmp_Or_int_l1b
  refine J_g 232 [] [(3, iv 0), (6, sl 1 eI64 a1), (7, iv (a1.length : Int)), (8, iv s6), (9, bv (decide (s6 < (a1.length : Int))))] [] orcN ?_
  refine J_if2 9 (fun h7 => ?_) (fun h7 => ?_)
  · refine J_bind (fun x8 h9 => ?_)
    refine J_g 3736 [] [(3, iv 0), (5, iv x8), (6, sl 1 eI64 a1), (7, iv (a1.length : Int)), (8, iv s6)] [] (orcC 0 (x_ix (kk := .i64) 222 3 1 eI64 (.tmp 6) (.tmp 8) h9) orcN) ?_
    refine J_g 7474 [] [(3, iv 0), (5, iv x8), (6, sl 1 eI64 a1), (7, iv (a1.length : Int)), (8, iv s6), (14, bv (x8 != 0))] [] orcN ?_
    refine J_if2 14 (fun h10 => ?_) (fun h10 => ?_)
    · refine J_g 29900 [] [(2, iv x8)] [] orcN ?_
      exact J_r1 rfl
    · refine J_g 935 [] [(3, iv 0), (6, sl 1 eI64 a1), (7, iv (a1.length : Int)), (8, iv (w64 (s6 + 1)))] [] orcN ?_
      exact J_q (J_b (ih (w64 (s6 + 1)))) rfl
  · exact J_qw (hk ()) rfl

theorem cmp_Or_int.ok (a1 : (List Int)) : Ok Tryz.prog 183 [sl 1 eI64 a1] [] ((cmp_Or_int a1).map fun r => (iv r, [])) := by
  refine Ok_of3 c183 Tryz.f183 0 18 (fun q => ?_)
  unfold cmp_Or_int
  refine J_g 2 [] [(0, sl 1 eI64 a1)] [] orcN ?_
  refine J_g 6 [] [(0, sl 1 eI64 a1), (3, iv 0)] [] orcN ?_
  refine J_g 28 [] [(3, iv 0), (6, sl 1 eI64 a1), (7, iv (a1.length : Int)), (8, iv 0)] [] orcN ?_
  refine J_lqF (K0 := (fun r : Int => some (iv r, []))) (fun _ => rfl) (cmp_Or_int_l1.ok a1 q _ (fun v11 => J_j ?_) 0)
  refine J_g 30 [] [(2, iv 0)] [] orcN ?_
  exact J_r1 rfl

noncomputable def c147 : Code := (Tryz.f147.body).getD .skip

theorem impl_compare.ok (a1 : Version) (a2 : Version) : Ok Tryz.prog 147 [.ag (Version.enc a1), .ag (Version.enc a2)] [] ((impl_compare a1 a2).map fun r => (iv r, [])) := by
  refine Ok_of3 c147 Tryz.f147 0 22 (fun q => ?_)
  unfold impl_compare
  refine J_g 2 [(0, 0), (1, 1)] [(2, pp 0), (3, pp 1)] [(0, .box (Version.enc a1)), (1, .box (Version.enc a2))] orcN ?_
  refine J_bind (fun x3 h4 => ?_)
  refine J_bind (fun x5 h6 => ?_)
  refine J_bind (fun x7 h8 => ?_)
  refine J_bind (fun x9 h10 => ?_)
  refine J_g 6 [] [(4, iv x9)] [] (orcC 4 (x_c0 [(.tmp 6), (.tmp 8)] [2, 2] (cmp_Compare_int64.ok a1.A a2.A) h4) (orcC 9 (x_c0 [(.tmp 11), (.tmp 13)] [2, 2] (cmp_Compare_int64.ok a1.B a2.B) h6) (orcC 14 (x_c0 [(.tmp 16), (.tmp 18)] [2, 2] (cmp_Compare_int64.ok a1.C a2.C) h8) (orcC 15 (x_bp 222 3 1 2 eI64 [x3, x5, x7] [0, 1, 2] [(.tmp 9), (.tmp 14), (.tmp 19)] [iv x3, iv x5, iv x7]) (orcC 16 (x_c1 («as» := [rr 2 [x3, x5, x7]]) [(.tmp 20)] [222] true [(2, rE 1 eI64 [x3, x5, x7])] [] (.cons (am_b (.head _) (fun _ => rfl) rfl) (.nil)) (cmp_Or_int.ok [x3, x5, x7]) h10 (.same rfl rfl) (hbor := fun _ => ⟨rfl, flat_sc⟩)) orcN))))) ?_
  exact J_r1 rfl

noncomputable def c96 : Code := (Tryz.f96.body).getD .skip

theorem impl_TermFault.ok (a1 : Term) : Ok Tryz.prog 96 [.ag (Term.enc a1)] [] ((impl_TermFault a1).map fun r => (iv r, [])) := by
  refine Ok_of3 c96 Tryz.f96 0 35 (fun q => ?_)
  unfold impl_TermFault
  refine J_g 2 [(0, 0)] [(1, pp 0)] [(0, .box (Term.enc a1))] orcN ?_
  refine J_bind (fun x2 h3 => ?_)
  refine J_g 12 [] [(1, pp 0), (3, iv x2)] [(0, .box (Term.enc a1))] (orcC 2 (x_c0 [(.tmp 6)] [9] (impl_NameFault.ok a1.Name) h3) orcN) ?_
  refine J_g 26 [] [(1, pp 0), (3, iv x2), (9, bv (x2 != 0))] [(0, .box (Term.enc a1))] orcN ?_
  refine J_if2 9 (fun h4 => ?_) (fun h4 => ?_)
  · refine J_g 108 [] [(2, iv x2)] [] orcN ?_
    exact J_r1 rfl
  · refine J_bind (fun x5 h6 => ?_)
    refine J_g 28 [] [(1, pp 0), (4, iv x5)] [(0, .box (Term.enc a1))] (orcC 2 (x_c0 [(.tmp 12)] [83] (impl_VersionFault.ok a1.Low) h6) orcN) ?_
    refine J_g 58 [] [(1, pp 0), (4, iv x5), (15, bv (x5 != 0))] [(0, .box (Term.enc a1))] orcN ?_
    refine J_if2 15 (fun h7 => ?_) (fun h7 => ?_)
    · refine J_g 236 [] [(2, iv x5)] [] orcN ?_
      exact J_r1 rfl
    · refine J_bind (fun x8 h9 => ?_)
      refine J_join (atI c96 121) (fun v13 : Bool => St.mk' [(1, pp 0), (17, bv v13)] [(0, .box (Term.enc a1))]) (fun v13 => ?_) (fun jv13 => ?_)
      · refine J_if2 17 (fun h14 => ?_) (fun h14 => ?_)
        · refine J_g 484 [] [(2, iv 3)] [] orcN ?_
          exact J_r1 rfl
        · refine J_bind (fun x15 h16 => ?_)
          refine J_g 486 [] [(28, bv (decide (x15 ≥ 0)))] [] (orcC 4 (x_c0 [(.tmp 30), (.tmp 32)] [83, 83] (impl_compare.ok a1.Low a1.High) h16) orcN) ?_
          refine J_if2 28 (fun h17 => ?_) (fun h17 => ?_)
          · refine J_g 1948 [] [(2, iv 1)] [] orcN ?_
            exact J_r1 rfl
          · refine J_g 62 [] [(2, iv 0)] [] orcN ?_
            exact J_r1 rfl
      · refine J_ite (fun h10 => ?_) (fun h10 => ?_)
        · refine J_bind (fun x11 h12 => ?_)
          refine J_g 120 [] [(1, pp 0), (17, bv (x11 != 0))] [(0, .box (Term.enc a1))] (orcC 2 (x_c0 [] [] (impl_top.ok) h9) (orcC 3 (x_seq (b := .neq) (r := (a1.High.A == x8.A && (a1.High.B == x8.B && (a1.High.C == x8.C && true)))) 83 83 (.tmp 19) (.tmp 20) [.int .i64 a1.High.A, .int .i64 a1.High.B, .int .i64 a1.High.C] [.int .i64 x8.A, .int .i64 x8.B, .int .i64 x8.C] (.inr ⟨rfl, rfl⟩)) (orcL 4 [(21, bv (!(a1.High.A == x8.A && (a1.High.B == x8.B && (a1.High.C == x8.C && true)))))] [] h10 (orcH 7 4 22 true (x_c0 [(.tmp 24)] [83] (impl_VersionFault.ok a1.High) h12) orcN)))) ?_
          exact J_qw (J_j (jv13 (x11 != 0))) rfl
        · refine J_g 120 [] [(1, pp 0), (17, bv false)] [(0, .box (Term.enc a1))] (orcC 2 (x_c0 [] [] (impl_top.ok) h9) (orcC 3 (x_seq (b := .neq) (r := (a1.High.A == x8.A && (a1.High.B == x8.B && (a1.High.C == x8.C && true)))) 83 83 (.tmp 19) (.tmp 20) [.int .i64 a1.High.A, .int .i64 a1.High.B, .int .i64 a1.High.C] [.int .i64 x8.A, .int .i64 x8.B, .int .i64 x8.C] (.inr ⟨rfl, rfl⟩)) (orcL 4 [(21, bv (!(a1.High.A == x8.A && (a1.High.B == x8.B && (a1.High.C == x8.C && true)))))] [] h10 orcN))) ?_
          exact J_qw (J_j (jv13 false)) rfl

noncomputable def c125 : Code := (Tryz.f125.body).getD .skip

theorem impl_ParseTerm_l1.ok (a1 : ByteArray) (q : Wd) (kn : Int → Option (D × List Ent)) (hk : ∀ v : Int, J (q.g Tryz.prog 125 0 90) c125 (atI c125 15) (St.mk' [(0, sv a1), (2, pp 0), (3, iv v)] [(0, .box [iv 0, sv ByteArray.empty, iv 0, iv 0, iv 0, iv 0, iv 0, iv 0])]) (some v) kn) :
    ∀ s9 : Int, J (q.g Tryz.prog 125 0 90) c125 (atI c125 56) (St.mk' [(0, sv a1), (2, pp 0), (3, iv s9)] [(0, .box [iv 0, sv ByteArray.empty, iv 0, iv 0, iv 0, iv 0, iv 0, iv 0])]) (impl_ParseTerm_l1 a1 s9) kn := by
  refine J_lp (fun g ih s9 => ?_)
  unfold impl_ParseTerm_l1b
  refine J_join (atI c125 225) (fun v15 : Bool => St.mk' [(0, sv a1), (2, pp 0), (3, iv s9), (23, bv v15)] [(0, .box [iv 0, sv ByteArray.empty, iv 0, iv 0, iv 0, iv 0, iv 0, iv 0])]) (fun v15 => ?_) (fun jv15 => ?_)
  · refine J_if2 23 (fun h16 => ?_) (fun h16 => ?_)
    · refine J_g 226 [] [(0, sv a1), (2, pp 0), (3, iv (w64 (s9 + 1)))] [(0, .box [iv 0, sv ByteArray.empty, iv 0, iv 0, iv 0, iv 0, iv 0, iv 0])] orcN ?_
      exact J_q (J_b (ih (w64 (s9 + 1)))) rfl
    · exact J_qw (hk s9) rfl
  · refine J_ite (fun h10 => ?_) (fun h10 => ?_)
    · refine J_bind (fun x11 h12 => ?_)
      refine J_bind (fun x13 h14 => ?_)
      refine J_g 224 [] [(0, sv a1), (2, pp 0), (3, iv s9), (23, bv x13)] [(0, .box [iv 0, sv ByteArray.empty, iv 0, iv 0, iv 0, iv 0, iv 0, iv 0])] (orcL 4 [(17, bv (decide (s9 < (a1.size : Int))))] [] h10 (orcH 7 4 18 true (x_bi (kk := .i64) 9 (.tmp 19) (.tmp 20) h12) (orcH 8 4 18 true (x_c0 [(.tmp 21)] [5] (impl_isNameByte.ok x11) h14) orcN))) ?_
      exact J_qw (J_j (jv15 x13)) rfl
    · refine J_g 224 [] [(0, sv a1), (2, pp 0), (3, iv s9), (23, bv false)] [(0, .box [iv 0, sv ByteArray.empty, iv 0, iv 0, iv 0, iv 0, iv 0, iv 0])] (orcL 4 [(17, bv (decide (s9 < (a1.size : Int))))] [] h10 orcN) ?_
      exact J_qw (J_j (jv15 false)) rfl

theorem impl_ParseTerm.ok (a1 : ByteArray) : Ok Tryz.prog 125 [sv a1] [] ((impl_ParseTerm a1).map fun r => (.ag (TermResult.enc r), [])) := by
  refine Ok_of3 c125 Tryz.f125 0 90 (fun q => ?_)
  unfold impl_ParseTerm
  refine J_g 2 [(0, 0)] [(0, sv a1), (2, pp 0)] [(0, .box [iv 0, sv ByteArray.empty, iv 0, iv 0, iv 0, iv 0, iv 0, iv 0])] orcN ?_
  refine J_g 6 [] [(0, sv a1), (2, pp 0), (3, iv 0)] [(0, .box [iv 0, sv ByteArray.empty, iv 0, iv 0, iv 0, iv 0, iv 0, iv 0])] orcN ?_
  refine J_lq (impl_ParseTerm_l1.ok a1 q _ (fun v17 => J_j ?_) 0)
  refine J_bind (fun x18 h19 => ?_)
  refine J_bind (fun x20 h21 => ?_)
  refine J_g 30 [(4, 1)] [(0, sv a1), (2, pp 0), (3, iv v17), (4, pp 1)] [(0, .box [iv 0, sv ByteArray.empty, iv 0, iv 0, iv 0, iv 0, iv 0, iv 0]), (1, .box (Term.enc x20))] (orcC 2 (x_ss 9 (.tmp 26) none (some (.tmp 27)) h19) (orcC 3 (x_c0 [(.tmp 28)] [9] (impl_AnyTerm.ok x18) h21) orcN)) ?_
  refine J_bind (fun x22 h23 => ?_)
  refine J_g 62 [] [(2, pp 0), (4, pp 1), (5, sv x22)] [(0, .box [iv 0, sv ByteArray.empty, iv 0, iv 0, iv 0, iv 0, iv 0, iv 0]), (1, .box (Term.enc x20))] (orcC 2 (x_ss 9 (.tmp 30) (some (.tmp 31)) none h23) orcN) ?_
  refine J_bind (fun x24 h25 => ?_)
  refine J_g 252 [] [(2, pp 0), (4, pp 1), (5, sv x22), (36, bv (x24 != 0))] [(0, .box [iv 0, sv ByteArray.empty, iv 0, iv 0, iv 0, iv 0, iv 0, iv 0]), (1, .box (Term.enc x20))] (orcC 2 (x_c0 [(.tmp 34)] [9] (impl_NameFault.ok x20.Name) h25) orcN) ?_
  refine J_if2 36 (fun h26 => ?_) (fun h26 => ?_)
  · refine J_g 1012 [] [(2, pp 0)] [(0, .box [iv 5, sv ByteArray.empty, iv 0, iv 0, iv 0, iv 0, iv 0, iv 0])] orcN ?_
    exact J_r1 rfl
  · refine J_bind (fun x27 h28 => ?_)
    refine J_g 508 [] [(2, pp 0), (4, pp 1), (5, sv x22), (6, sv x27.1), (7, bv x27.2)] [(0, .box [iv 0, sv ByteArray.empty, iv 0, iv 0, iv 0, iv 0, iv 0, iv 0]), (1, .box (Term.enc x20))] (orcC 1 (x_c0 [(.tmp 39), (.const (.string (bs [62, 61])))] [9, 9] (strings_CutPrefix.ok x22 (bs [62, 61])) h28) orcN) ?_
    refine J_g 1018 [] [(2, pp 0), (4, pp 1), (5, sv x22), (6, sv x27.1), (43, bv x27.2)] [(0, .box [iv 0, sv ByteArray.empty, iv 0, iv 0, iv 0, iv 0, iv 0, iv 0]), (1, .box (Term.enc x20))] orcN ?_
    refine J_joinF (atI c125 255) (fun v41 : (Int × Int × Int × ByteArray) => St.mk' [(2, pp 0), (4, pp 1), (5, sv v41.2.2.2)] [(0, .box [iv 0, sv ByteArray.empty, iv 0, iv 0, iv 0, iv 0, iv 0, iv 0]), (1, .box [sv x20.Name, iv v41.1, iv v41.2.1, iv v41.2.2.1, iv x20.High.A, iv x20.High.B, iv x20.High.C])]) (fun v41 => ?_) (fun jv41 => ?_)
    · refine J_bind (fun x42 h43 => ?_)
      refine J_g 1020 [] [(2, pp 0), (4, pp 1), (5, sv v41.2.2.2), (10, sv x42.1), (11, bv x42.2)] [(0, .box [iv 0, sv ByteArray.empty, iv 0, iv 0, iv 0, iv 0, iv 0, iv 0]), (1, .box [sv x20.Name, iv v41.1, iv v41.2.1, iv v41.2.2.1, iv x20.High.A, iv x20.High.B, iv x20.High.C])] (orcC 1 (x_c0 [(.tmp 65), (.const (.string (bs [60])))] [9, 9] (strings_CutPrefix.ok v41.2.2.2 (bs [60])) h43) orcN) ?_
      refine J_g 2042 [] [(2, pp 0), (4, pp 1), (5, sv v41.2.2.2), (10, sv x42.1), (69, bv x42.2)] [(0, .box [iv 0, sv ByteArray.empty, iv 0, iv 0, iv 0, iv 0, iv 0, iv 0]), (1, .box [sv x20.Name, iv v41.1, iv v41.2.1, iv v41.2.2.1, iv x20.High.A, iv x20.High.B, iv x20.High.C])] orcN ?_
      refine J_joinF (atI c125 511) (fun v48 : (Int × Int × Int × ByteArray) => St.mk' [(2, pp 0), (4, pp 1), (5, sv v48.2.2.2)] [(0, .box [iv 0, sv ByteArray.empty, iv 0, iv 0, iv 0, iv 0, iv 0, iv 0]), (1, .box [sv x20.Name, iv v41.1, iv v41.2.1, iv v41.2.2.1, iv v48.1, iv v48.2.1, iv v48.2.2.1])]) (fun v48 => ?_) (fun jv48 => ?_)
      · refine J_g 2044 [] [(2, pp 0), (4, pp 1), (80, bv (!(seq v48.2.2.2 (bs []))))] [(0, .box [iv 0, sv ByteArray.empty, iv 0, iv 0, iv 0, iv 0, iv 0, iv 0]), (1, .box [sv x20.Name, iv v41.1, iv v41.2.1, iv v41.2.2.1, iv v48.1, iv v48.2.1, iv v48.2.2.1])] orcN ?_
        refine J_if2 80 (fun h49 => ?_) (fun h49 => ?_)
        · refine J_g 8180 [] [(2, pp 0)] [(0, .box [iv 5, sv ByteArray.empty, iv 0, iv 0, iv 0, iv 0, iv 0, iv 0])] orcN ?_
          exact J_r1 rfl
        · refine J_bind (fun x50 h51 => ?_)
          refine J_g 4092 [] [(2, pp 0), (4, pp 1), (13, iv x50)] [(0, .box [iv 0, sv ByteArray.empty, iv 0, iv 0, iv 0, iv 0, iv 0, iv 0]), (1, .box [sv x20.Name, iv v41.1, iv v41.2.1, iv v41.2.2.1, iv v48.1, iv v48.2.1, iv v48.2.2.1])] (orcC 1 (x_c0 [(.tmp 82)] [89] (impl_TermFault.ok ({ Name := x20.Name, Low := ({ A := v41.1, B := v41.2.1, C := v41.2.2.1 } : Version), High := ({ A := v48.1, B := v48.2.1, C := v48.2.2.1 } : Version) } : Term)) h51) orcN) ?_
          refine J_g 8186 [] [(2, pp 0), (4, pp 1), (13, iv x50), (85, bv (x50 != 0))] [(0, .box [iv 0, sv ByteArray.empty, iv 0, iv 0, iv 0, iv 0, iv 0, iv 0]), (1, .box [sv x20.Name, iv v41.1, iv v41.2.1, iv v41.2.2.1, iv v48.1, iv v48.2.1, iv v48.2.2.1])] orcN ?_
          refine J_if2 85 (fun h52 => ?_) (fun h52 => ?_)
          · refine J_g 32748 [] [(2, pp 0)] [(0, .box [iv x50, sv ByteArray.empty, iv 0, iv 0, iv 0, iv 0, iv 0, iv 0])] orcN ?_
            exact J_r1 rfl
          · refine J_g 4094 [] [(2, pp 0)] [(0, .box [iv 0, sv x20.Name, iv v41.1, iv v41.2.1, iv v41.2.2.1, iv v48.1, iv v48.2.1, iv v48.2.2.1])] orcN ?_
            exact J_r1 rfl
      · refine J_if2 69 (fun h44 => ?_) (fun h44 => ?_)
        · refine J_bind (fun x45 h46 => ?_)
          refine J_g 8172 [(2, 2)] [(2, pp 0), (4, pp 1), (12, pp 2)] [(0, .box [iv 0, sv ByteArray.empty, iv 0, iv 0, iv 0, iv 0, iv 0, iv 0]), (1, .box [sv x20.Name, iv v41.1, iv v41.2.1, iv v41.2.2.1, iv x20.High.A, iv x20.High.B, iv x20.High.C]), (2, .box (VersionResult.enc x45))] (orcC 1 (x_c0 [(.tmp 70)] [9] (impl_ParseVersion.ok x42.1) h46) orcN) ?_
          refine J_g 32692 [] [(2, pp 0), (4, pp 1), (12, pp 2), (74, bv (x45.Code != 0))] [(0, .box [iv 0, sv ByteArray.empty, iv 0, iv 0, iv 0, iv 0, iv 0, iv 0]), (1, .box [sv x20.Name, iv v41.1, iv v41.2.1, iv v41.2.2.1, iv x20.High.A, iv x20.High.B, iv x20.High.C]), (2, .box (VersionResult.enc x45))] orcN ?_
          refine J_if2 74 (fun h47 => ?_) (fun h47 => ?_)
          · refine J_g 130772 [] [(2, pp 0)] [(0, .box [iv 5, sv ByteArray.empty, iv 0, iv 0, iv 0, iv 0, iv 0, iv 0])] orcN ?_
            exact J_r1 rfl
          · refine J_g 16347 [] [(2, pp 0), (4, pp 1), (5, sv (bs []))] [(0, .box [iv 0, sv ByteArray.empty, iv 0, iv 0, iv 0, iv 0, iv 0, iv 0]), (1, .box [sv x20.Name, iv v41.1, iv v41.2.1, iv v41.2.2.1, iv x45.Version.A, iv x45.Version.B, iv x45.Version.C])] orcN ?_
            exact J_qw (J_j (jv48 (x45.Version.A, x45.Version.B, x45.Version.C, bs []))) rfl
        · exact J_qw (J_j (jv48 (x20.High.A, x20.High.B, x20.High.C, v41.2.2.2))) rfl
    · refine J_if2 43 (fun h29 => ?_) (fun h29 => ?_)
      · refine J_bind (fun x30 h31 => ?_)
        refine J_g 4076 [] [(2, pp 0), (4, pp 1), (6, sv x27.1), (8, iv x30)] [(0, .box [iv 0, sv ByteArray.empty, iv 0, iv 0, iv 0, iv 0, iv 0, iv 0]), (1, .box (Term.enc x20))] (orcC 1 (x_c0 [(.tmp 44), (.const (.int .u8 60))] [9, 5] (strings_IndexByte.ok x27.1 60) h31) orcN) ?_
        refine J_g 16308 [] [(2, pp 0), (4, pp 1), (6, sv x27.1), (8, iv x30), (47, bv (decide (x30 < 0)))] [(0, .box [iv 0, sv ByteArray.empty, iv 0, iv 0, iv 0, iv 0, iv 0, iv 0]), (1, .box (Term.enc x20))] orcN ?_
        refine J_join (atI c125 8155) (fun v33 : Int => St.mk' [(2, pp 0), (4, pp 1), (6, sv x27.1), (8, iv v33)] [(0, .box [iv 0, sv ByteArray.empty, iv 0, iv 0, iv 0, iv 0, iv 0, iv 0]), (1, .box (Term.enc x20))]) (fun v33 => ?_) (fun jv33 => ?_)
        · refine J_bind (fun x34 h35 => ?_)
          refine J_bind (fun x36 h37 => ?_)
          refine J_g 16310 [(4, 2)] [(2, pp 0), (4, pp 1), (6, sv x27.1), (8, iv v33), (9, pp 2)] [(0, .box [iv 0, sv ByteArray.empty, iv 0, iv 0, iv 0, iv 0, iv 0, iv 0]), (1, .box (Term.enc x20)), (2, .box (VersionResult.enc x36))] (orcC 2 (x_ss 9 (.tmp 50) none (some (.tmp 51)) h35) (orcC 3 (x_c0 [(.tmp 52)] [9] (impl_ParseVersion.ok x34) h37) orcN)) ?_
          refine J_g 65244 [] [(2, pp 0), (4, pp 1), (6, sv x27.1), (8, iv v33), (9, pp 2), (56, bv (x36.Code != 0))] [(0, .box [iv 0, sv ByteArray.empty, iv 0, iv 0, iv 0, iv 0, iv 0, iv 0]), (1, .box (Term.enc x20)), (2, .box (VersionResult.enc x36))] orcN ?_
          refine J_if2 56 (fun h38 => ?_) (fun h38 => ?_)
          · refine J_g 260980 [] [(2, pp 0)] [(0, .box [iv 5, sv ByteArray.empty, iv 0, iv 0, iv 0, iv 0, iv 0, iv 0])] orcN ?_
            exact J_r1 rfl
          · refine J_bind (fun x39 h40 => ?_)
            refine J_g 32623 [] [(2, pp 0), (4, pp 1), (5, sv x39)] [(0, .box [iv 0, sv ByteArray.empty, iv 0, iv 0, iv 0, iv 0, iv 0, iv 0]), (1, .box [sv x20.Name, iv x36.Version.A, iv x36.Version.B, iv x36.Version.C, iv x20.High.A, iv x20.High.B, iv x20.High.C])] (orcC 4 (x_ss 9 (.tmp 60) (some (.tmp 61)) none h40) orcN) ?_
            exact J_qw (J_j (jv41 (x36.Version.A, x36.Version.B, x36.Version.C, x39))) rfl
        · refine J_if2 47 (fun h32 => ?_) (fun h32 => ?_)
          · refine J_g 32618 [] [(2, pp 0), (4, pp 1), (6, sv x27.1), (8, iv (x27.1.size : Int))] [(0, .box [iv 0, sv ByteArray.empty, iv 0, iv 0, iv 0, iv 0, iv 0, iv 0]), (1, .box (Term.enc x20))] orcN ?_
            exact J_qw (J_j (jv33 (x27.1.size : Int))) rfl
          · exact J_qw (J_j (jv33 x30)) rfl
      · exact J_qw (J_j (jv41 (x20.Low.A, x20.Low.B, x20.Low.C, x22))) rfl

noncomputable def c52 : Code := (Tryz.f52.body).getD .skip

theorem impl_termsFault_l1.ok (a1 : (List Term)) (q : Wd) (kn : Unit → Option (D × List Ent)) (hk : ∀ v : Unit, J (q.g Tryz.prog 52 0 18) c52 (atI c52 7) (St.mk' [] []) (some v) kn) :
    ∀ s8 : Int, J (q.g Tryz.prog 52 0 18) c52 (atI c52 52) (St.mk' [(6, sl 7 Term.enc a1), (7, iv (a1.length : Int)), (8, iv s8)] []) (impl_termsFault_l1 a1 s8) (Fl.go (fun r : Int => some (iv r, [])) kn) := by
  refine J_lp (fun g ih s8 => ?_)
  unfold impl_termsFault_l1b
  refine J_g 104 [] [(6, sl 7 Term.enc a1), (7, iv (a1.length : Int)), (8, iv s8), (9, bv (decide (s8 < (a1.length : Int))))] [] orcN ?_
  refine J_if2 9 (fun h9 => ?_) (fun h9 => ?_)
  · refine J_bind (fun x10 h11 => ?_)
    refine J_g 1688 [(2, 0)] [(4, pp 0), (6, sl 7 Term.enc a1), (7, iv (a1.length : Int)), (8, iv s8)] [(0, .box (Term.enc x10))] (orcC 0 (x_ix (kk := .i64) 31 89 7 Term.enc (.tmp 6) (.tmp 8) h11) orcN) ?_
    refine J_bind (fun x12 h13 => ?_)
    refine J_g 3378 [] [(5, iv x12), (6, sl 7 Term.enc a1), (7, iv (a1.length : Int)), (8, iv s8)] [] (orcC 1 (x_c0 [(.tmp 12)] [89] (impl_TermFault.ok x10) h13) orcN) ?_
    refine J_g 6758 [] [(5, iv x12), (6, sl 7 Term.enc a1), (7, iv (a1.length : Int)), (8, iv s8), (15, bv (x12 != 0))] [] orcN ?_
    refine J_if2 15 (fun h14 => ?_) (fun h14 => ?_)
    · refine J_g 27036 [] [(2, iv x12)] [] orcN ?_
      exact J_r1 rfl
    · refine J_g 423 [] [(6, sl 7 Term.enc a1), (7, iv (a1.length : Int)), (8, iv (w64 (s8 + 1)))] [] orcN ?_
      exact J_q (J_b (ih (w64 (s8 + 1)))) rfl
  · exact J_qw (hk ()) rfl

theorem impl_termsFault.ok (a1 : (List Term)) : Ok Tryz.prog 52 [sl 7 Term.enc a1] [] ((impl_termsFault a1).map fun r => (iv r, [])) := by
  refine Ok_of3 c52 Tryz.f52 0 18 (fun q => ?_)
  unfold impl_termsFault
  refine J_g 2 [] [(0, sl 7 Term.enc a1)] [] orcN ?_
  refine J_g 12 [] [(6, sl 7 Term.enc a1), (7, iv (a1.length : Int)), (8, iv 0)] [] orcN ?_
  refine J_lqF (K0 := (fun r : Int => some (iv r, []))) (fun _ => rfl) (impl_termsFault_l1.ok a1 q _ (fun v15 => J_j ?_) 0)
  refine J_g 14 [] [(2, iv 0)] [] orcN ?_
  exact J_r1 rfl

theorem strconv_FormatInt.ok (a1 a2 : Int) : Ok Tryz.prog 177 [iv a1, iv a2] [] ((strconv_FormatInt a1 a2).map fun r => (sv r, [])) := by
  unfold strconv_FormatInt
  split
  · rename_i h
    obtain ⟨rfl, h0, h1⟩ := h
    exact Ok_grow (vs := [.int .i64 a1, .int .i64 10]) (fun w hG => Tryz.strconv_FormatInt_10 a1 h0 h1 w (tabIs_of (g := 1) hG (by kernel_rfl) (by kernel_rfl)))
  · exact fun _ h => by cases h

noncomputable def c132 : Code := (Tryz.f132.body).getD .skip

theorem impl_dec.ok (a1 : Int) : Ok Tryz.prog 132 [iv a1] [] ((impl_dec a1).map fun r => (sv r, [])) := by
  refine Ok_of3 c132 Tryz.f132 0 5 (fun q => ?_)
  unfold impl_dec
  refine J_g 2 [] [(0, iv a1)] [] orcN ?_
  refine J_bind (fun x2 h3 => ?_)
  refine J_g 6 [] [(2, sv x2)] [] (orcC 1 (x_c0 [(.tmp 3), (.const (.int .i64 10))] [2, 3] (strconv_FormatInt.ok a1 10) h3) orcN) ?_
  exact J_r1 rfl

noncomputable def c150 : Code := (Tryz.f150.body).getD .skip

theorem impl_Version_text.ok (a1 : Version) : Ok Tryz.prog 150 [.ag (Version.enc a1)] [] ((impl_Version_text a1).map fun r => (sv r, [])) := by
  refine Ok_of3 c150 Tryz.f150 0 16 (fun q => ?_)
  unfold impl_Version_text
  refine J_g 2 [(0, 0)] [(1, pp 0)] [(0, .box (Version.enc a1))] orcN ?_
  refine J_bind (fun x2 h3 => ?_)
  refine J_bind (fun x4 h5 => ?_)
  refine J_bind (fun x6 h7 => ?_)
  refine J_bind (fun x8 h9 => ?_)
  refine J_bind (fun x10 h11 => ?_)
  refine J_bind (fun x12 h13 => ?_)
  refine J_bind (fun x14 h15 => ?_)
  refine J_g 6 [] [(2, sv x14)] [] (orcC 2 (x_c0 [(.tmp 4)] [2] (impl_dec.ok a1.A) h3) (orcC 3 (x_cat 9 9 (.tmp 5) (.const (.string (bs [46]))) h5) (orcC 6 (x_c0 [(.tmp 8)] [2] (impl_dec.ok a1.B) h7) (orcC 7 (x_cat 9 9 (.tmp 6) (.tmp 9) h9) (orcC 8 (x_cat 9 9 (.tmp 10) (.const (.string (bs [46]))) h11) (orcC 11 (x_c0 [(.tmp 13)] [2] (impl_dec.ok a1.C) h13) (orcC 12 (x_cat 9 9 (.tmp 11) (.tmp 14) h15) orcN))))))) ?_
  exact J_r1 rfl

noncomputable def c99 : Code := (Tryz.f99.body).getD .skip

theorem impl_FormatTerm.ok (a1 : Term) : Ok Tryz.prog 99 [.ag (Term.enc a1)] [] ((impl_FormatTerm a1).map fun r => (sv r, [])) := by
  refine Ok_of3 c99 Tryz.f99 0 30 (fun q => ?_)
  unfold impl_FormatTerm
  refine J_g 2 [(0, 0)] [(1, pp 0)] [(0, .box (Term.enc a1))] orcN ?_
  refine J_bind (fun x2 h3 => ?_)
  refine J_g 12 [] [(1, pp 0), (6, bv (x2 != 0))] [(0, .box (Term.enc a1))] (orcC 1 (x_c0 [(.tmp 4)] [89] (impl_TermFault.ok a1) h3) orcN) ?_
  refine J_if2 6 (fun h4 => ?_) (fun h4 => ?_)
  · refine J_g 52 [] [(2, sv (bs []))] [] orcN ?_
    exact J_r1 rfl
  · refine J_g 14 [] [(1, pp 0), (3, sv a1.Name)] [(0, .box (Term.enc a1))] orcN ?_
    refine J_g 60 [] [(1, pp 0), (3, sv a1.Name), (12, bv (!(a1.Low.A == 0 && (a1.Low.B == 0 && (a1.Low.C == 0 && true)))))] [(0, .box (Term.enc a1))] (orcC 3 (x_seq (b := .neq) (r := (a1.Low.A == 0 && (a1.Low.B == 0 && (a1.Low.C == 0 && true)))) 83 83 (.tmp 10) (.tmp 11) [.int .i64 a1.Low.A, .int .i64 a1.Low.B, .int .i64 a1.Low.C] [.int .i64 0, .int .i64 0, .int .i64 0] (.inr ⟨rfl, rfl⟩)) orcN) ?_
    refine J_join (atI c99 31) (fun v12 : ByteArray => St.mk' [(1, pp 0), (3, sv v12)] [(0, .box (Term.enc a1))]) (fun v12 => ?_) (fun jv12 => ?_)
    · refine J_bind (fun x13 h14 => ?_)
      refine J_g 124 [] [(1, pp 0), (3, sv v12), (22, bv (!(a1.High.A == x13.A && (a1.High.B == x13.B && (a1.High.C == x13.C && true)))))] [(0, .box (Term.enc a1))] (orcC 2 (x_c0 [] [] (impl_top.ok) h14) (orcC 3 (x_seq (b := .neq) (r := (a1.High.A == x13.A && (a1.High.B == x13.B && (a1.High.C == x13.C && true)))) 83 83 (.tmp 20) (.tmp 21) [.int .i64 a1.High.A, .int .i64 a1.High.B, .int .i64 a1.High.C] [.int .i64 x13.A, .int .i64 x13.B, .int .i64 x13.C] (.inr ⟨rfl, rfl⟩)) orcN)) ?_
      refine J_join (atI c99 63) (fun v22 : ByteArray => St.mk' [(3, sv v22)] []) (fun v22 => ?_) (fun jv22 => ?_)
      · refine J_g 126 [] [(2, sv v22)] [] orcN ?_
        exact J_r1 rfl
      · refine J_if2 22 (fun h15 => ?_) (fun h15 => ?_)
        · refine J_bind (fun x16 h17 => ?_)
          refine J_bind (fun x18 h19 => ?_)
          refine J_bind (fun x20 h21 => ?_)
          refine J_g 250 [] [(3, sv x20)] [] (orcC 3 (x_c0 [(.tmp 25)] [83] (impl_Version_text.ok a1.High) h17) (orcC 4 (x_cat 9 9 (.const (.string (bs [60]))) (.tmp 26) h19) (orcC 5 (x_cat 9 9 (.tmp 23) (.tmp 27) h21) orcN))) ?_
          exact J_qw (J_j (jv22 x20)) rfl
        · exact J_qw (J_j (jv22 v12)) rfl
    · refine J_if2 12 (fun h5 => ?_) (fun h5 => ?_)
      · refine J_bind (fun x6 h7 => ?_)
        refine J_bind (fun x8 h9 => ?_)
        refine J_bind (fun x10 h11 => ?_)
        refine J_g 122 [] [(1, pp 0), (3, sv x10)] [(0, .box (Term.enc a1))] (orcC 3 (x_c0 [(.tmp 15)] [83] (impl_Version_text.ok a1.Low) h7) (orcC 4 (x_cat 9 9 (.const (.string (bs [62, 61]))) (.tmp 16) h9) (orcC 5 (x_cat 9 9 (.tmp 13) (.tmp 17) h11) orcN))) ?_
        exact J_qw (J_j (jv12 x10)) rfl
      · exact J_qw (J_j (jv12 a1.Name)) rfl

noncomputable def c126 : Code := (Tryz.f126.body).getD .skip

theorem impl_RootsText_l1.ok (a1 : (List Term)) (q : Wd) (kn : ByteArray → Option (D × List Ent)) (hk : ∀ v : ByteArray, J (q.g Tryz.prog 126 0 22) c126 (atI c126 31) (St.mk' [(3, sv v)] []) (some v) kn) :
    ∀ s14 : (ByteArray × Int), J (q.g Tryz.prog 126 0 22) c126 (atI c126 244) (St.mk' [(3, sv s14.1), (9, sl 7 Term.enc a1), (10, iv (a1.length : Int)), (11, iv s14.2)] []) (impl_RootsText_l1 a1 s14) kn := by
  refine J_lp (fun g ih s14 => ?_)
  unfold impl_RootsText_l1b
  refine J_g 488 [] [(3, sv s14.1), (9, sl 7 Term.enc a1), (10, iv (a1.length : Int)), (11, iv s14.2), (12, bv (decide (s14.2 < (a1.length : Int))))] [] orcN ?_
  refine J_if2 12 (fun h15 => ?_) (fun h15 => ?_)
  · refine J_bind (fun x16 h17 => ?_)
    refine J_g 7832 [(2, 0)] [(3, sv s14.1), (5, pp 0), (9, sl 7 Term.enc a1), (10, iv (a1.length : Int)), (11, iv s14.2)] [(0, .box (Term.enc x16))] (orcC 0 (x_ix (kk := .i64) 31 89 7 Term.enc (.tmp 9) (.tmp 11) h17) orcN) ?_
    refine J_bind (fun x18 h19 => ?_)
    refine J_bind (fun x20 h21 => ?_)
    refine J_bind (fun x22 h23 => ?_)
    refine J_g 7833 [] [(3, sv x22), (9, sl 7 Term.enc a1), (10, iv (a1.length : Int)), (11, iv s14.2)] [] (orcC 2 (x_c0 [(.tmp 16)] [89] (impl_FormatTerm.ok x16) h19) (orcC 3 (x_cat 9 9 (.tmp 17) (.const (.string (bs [10]))) h21) (orcC 4 (x_cat 9 9 (.tmp 15) (.tmp 18) h23) orcN))) ?_
    refine J_g 1959 [] [(3, sv x22), (9, sl 7 Term.enc a1), (10, iv (a1.length : Int)), (11, iv (w64 (s14.2 + 1)))] [] orcN ?_
    exact J_q (J_b (ih (x22, w64 (s14.2 + 1)))) rfl
  · exact J_qw (hk s14.1) rfl

theorem impl_RootsText.ok (a1 : (List Term)) : Ok Tryz.prog 126 [sl 7 Term.enc a1] [] ((impl_RootsText a1).map fun r => (sv r, [])) := by
  refine Ok_of3 c126 Tryz.f126 0 22 (fun q => ?_)
  unfold impl_RootsText
  refine J_g 2 [] [(0, sl 7 Term.enc a1)] [] orcN ?_
  refine J_bind (fun x2 h3 => ?_)
  refine J_g 12 [] [(0, sl 7 Term.enc a1), (8, bv (x2 != 0))] [] (orcC 1 (x_c0 [(.tmp 6)] [31] (impl_termsFault.ok a1) h3) orcN) ?_
  refine J_if2 8 (fun h4 => ?_) (fun h4 => ?_)
  · refine J_g 52 [] [(2, sv (bs []))] [] orcN ?_
    exact J_r1 rfl
  · refine J_g 14 [] [(0, sl 7 Term.enc a1), (3, sv (bs []))] [] orcN ?_
    refine J_g 60 [] [(3, sv (bs [])), (9, sl 7 Term.enc a1), (10, iv (a1.length : Int)), (11, iv 0)] [] orcN ?_
    refine J_lq (impl_RootsText_l1.ok a1 q _ (fun v24 => J_j ?_) (bs [], 0))
    refine J_g 62 [] [(2, sv v24)] [] orcN ?_
    exact J_r1 rfl

noncomputable def c170 : Code := (Tryz.f170.body).getD .skip

theorem impl_twoOfOne_1.ok (a1 : Term) (a2 : Term) : Ok Tryz.prog 170 [.ag (Term.enc a1), pp 0] [.box (Term.enc a2)] ((impl_twoOfOne_1 a1 a2).map fun r => (bv r, [.box (Term.enc a2)])) := by
  refine Ok_of3 c170 Tryz.f170 1 9 (fun q => ?_)
  unfold impl_twoOfOne_1
  refine J_g 2 [(0, 1)] [(1, pp 0), (2, pp 1)] [(0, .box (Term.enc a2)), (1, .box (Term.enc a1))] orcN ?_
  refine J_g 6 [] [(3, bv (seq a1.Name a2.Name))] [(0, .box (Term.enc a2))] orcN ?_
  exact J_r1 rfl

noncomputable def c196 : Code := (Tryz.f196.body).getD .skip

theorem slices_IndexFunc_LimplTerm_impl_twoOfOne_1_l1.ok (a1 : (List Term)) (a2 : Term) (q : Wd) (kn : Unit → Option (D × List Ent)) (hk : ∀ v : Unit, J (q.g Tryz.prog 196 1 19) c196 (atI c196 7) (St.mk' [] [(0, .box (Term.enc a2))]) (some v) kn) :
    ∀ s9 : Int, J (q.g Tryz.prog 196 1 19) c196 (atI c196 52) (St.mk' [(0, sl 7 Term.enc a1), (1, .fn 170 [pp 0]), (7, iv (a1.length : Int)), (8, iv s9)] [(0, .box (Term.enc a2))]) (slices_IndexFunc_LimplTerm_impl_twoOfOne_1_l1 a1 a2 s9) (Fl.go (fun r : Int => some (iv r, [.box (Term.enc a2)])) kn) := by
  refine J_lp (fun g ih s9 => ?_)
  unfold slices_IndexFunc_LimplTerm_impl_twoOfOne_1_l1b
  refine J_g 104 [] [(0, sl 7 Term.enc a1), (1, .fn 170 [pp 0]), (7, iv (a1.length : Int)), (8, iv s9), (9, bv (decide (s9 < (a1.length : Int))))] [(0, .box (Term.enc a2))] orcN ?_
  refine J_if2 9 (fun h10 => ?_) (fun h10 => ?_)
  · refine J_g 1688 [] [(0, sl 7 Term.enc a1), (1, .fn 170 [pp 0]), (5, iv s9), (7, iv (a1.length : Int)), (8, iv s9)] [(0, .box (Term.enc a2))] orcN ?_
    refine J_bind (fun x11 h12 => ?_)
    refine J_bind (fun x13 h14 => ?_)
    refine J_g 3378 [] [(0, sl 7 Term.enc a1), (1, .fn 170 [pp 0]), (5, iv s9), (7, iv (a1.length : Int)), (8, iv s9), (16, bv x13)] [(0, .box (Term.enc a2))] (orcC 3 (x_ix (kk := .i64) 31 89 7 Term.enc (.tmp 12) (.tmp 13) h12) (orcC 5 (x_ro [(0, .box (Term.enc a2))] [] (x_c1v 11 [(.tmp 15)] [89] false [(0, .box (Term.enc a2))] [0] [.ag (Term.enc x11)] [pp 0] (.cons (.same rfl) (.cons (.pt rfl) (.nil))) (impl_twoOfOne_1.ok x11 a2) h14 (.same rfl rfl))) orcN)) ?_
    refine J_if2 16 (fun h15 => ?_) (fun h15 => ?_)
    · refine J_g 13516 [] [(4, iv s9)] [(0, .box (Term.enc a2))] orcN ?_
      exact J_r1 rfl
    · refine J_g 423 [] [(0, sl 7 Term.enc a1), (1, .fn 170 [pp 0]), (7, iv (a1.length : Int)), (8, iv (w64 (s9 + 1)))] [(0, .box (Term.enc a2))] orcN ?_
      exact J_q (J_b (ih (w64 (s9 + 1)))) rfl
  · exact J_qw (hk ()) rfl

theorem slices_IndexFunc_LimplTerm_impl_twoOfOne_1.ok (a1 : (List Term)) (a2 : Term) : Ok Tryz.prog 196 [sl 7 Term.enc a1, .fn 170 [pp 0]] [.box (Term.enc a2)] ((slices_IndexFunc_LimplTerm_impl_twoOfOne_1 a1 a2).map fun r => (iv r, [.box (Term.enc a2)])) := by
  refine Ok_of3 c196 Tryz.f196 1 19 (fun q => ?_)
  unfold slices_IndexFunc_LimplTerm_impl_twoOfOne_1
  refine J_g 2 [] [(0, sl 7 Term.enc a1), (1, .fn 170 [pp 0])] [(0, .box (Term.enc a2))] orcN ?_
  refine J_g 12 [] [(0, sl 7 Term.enc a1), (1, .fn 170 [pp 0]), (7, iv (a1.length : Int)), (8, iv 0)] [(0, .box (Term.enc a2))] orcN ?_
  refine J_lqF (K0 := (fun r : Int => some (iv r, [.box (Term.enc a2)]))) (fun _ => rfl) (slices_IndexFunc_LimplTerm_impl_twoOfOne_1_l1.ok a1 a2 q _ (fun v16 => J_j ?_) 0)
  refine J_g 14 [] [(4, iv (-1))] [(0, .box (Term.enc a2))] orcN ?_
  exact J_r1 rfl

noncomputable def c169 : Code := (Tryz.f169.body).getD .skip

theorem slices_ContainsFunc_LimplTerm_impl_twoOfOne_1.ok (a1 : (List Term)) (a2 : Term) : Ok Tryz.prog 169 [sl 7 Term.enc a1, .fn 170 [pp 0]] [.box (Term.enc a2)] ((slices_ContainsFunc_LimplTerm_impl_twoOfOne_1 a1 a2).map fun r => (bv r, [.box (Term.enc a2)])) := by
  refine Ok_of3 c169 Tryz.f169 1 9 (fun q => ?_)
  unfold slices_ContainsFunc_LimplTerm_impl_twoOfOne_1
  refine J_g 2 [] [(0, sl 7 Term.enc a1), (1, .fn 170 [pp 0])] [(0, .box (Term.enc a2))] orcN ?_
  refine J_bind (fun x3 h4 => ?_)
  refine J_g 6 [] [(4, bv (decide (x3 ≥ 0)))] [(0, .box (Term.enc a2))] (orcC 2 (x_ro [(0, .box (Term.enc a2))] [] (x_c1 («as» := [sl 7 Term.enc a1, .fn 170 [pp 0]]) [(.tmp 5), (.tmp 6)] [31, 188] false [(0, .box (Term.enc a2))] [0] (.cons (.same rfl) (.cons (.fn (.cons (.pt rfl) (.nil))) (.nil))) (slices_IndexFunc_LimplTerm_impl_twoOfOne_1.ok a1 a2) h4 (.same rfl rfl))) orcN) ?_
  exact J_r1 rfl

noncomputable def c127 : Code := (Tryz.f127.body).getD .skip

theorem impl_twoOfOne_l1.ok (a1 : (List Term)) (q : Wd) (kn : Unit → Option (D × List Ent)) (hk : ∀ v : Unit, J (q.g Tryz.prog 127 0 18) c127 (atI c127 7) (St.mk' [] []) (some v) kn) :
    ∀ s10 : Int, J (q.g Tryz.prog 127 0 18) c127 (atI c127 52) (St.mk' [(0, sl 7 Term.enc a1), (5, sl 7 Term.enc a1), (6, iv (a1.length : Int)), (7, iv s10)] []) (impl_twoOfOne_l1 a1 s10) (Fl.go (fun r : Bool => some (bv r, [])) kn) := by
  refine J_lp (fun g ih s10 => ?_)
  unfold impl_twoOfOne_l1b
  refine J_g 104 [] [(0, sl 7 Term.enc a1), (5, sl 7 Term.enc a1), (6, iv (a1.length : Int)), (7, iv s10), (8, bv (decide (s10 < (a1.length : Int))))] [] orcN ?_
  refine J_if2 8 (fun h11 => ?_) (fun h11 => ?_)
  · refine J_bind (fun x12 h13 => ?_)
    refine J_g 1688 [(3, 0)] [(0, sl 7 Term.enc a1), (3, iv s10), (4, pp 0), (5, sl 7 Term.enc a1), (6, iv (a1.length : Int)), (7, iv s10)] [(0, .box (Term.enc x12))] (orcC 1 (x_ix (kk := .i64) 31 89 7 Term.enc (.tmp 5) (.tmp 7) h13) orcN) ?_
    refine J_bind (fun x14 h15 => ?_)
    refine J_bind (fun x16 h17 => ?_)
    refine J_g 3378 [] [(0, sl 7 Term.enc a1), (5, sl 7 Term.enc a1), (6, iv (a1.length : Int)), (7, iv s10), (16, bv x16)] [] (orcC 2 (x_ls 31 89 7 Term.enc (.tmp 12) none (some (.tmp 13)) h15) (orcC 4 (x_ro [(0, .box (Term.enc x12))] [] (x_c1 («as» := [sl 7 Term.enc x14, .fn 170 [pp 0]]) [(.tmp 14), (.tmp 15)] [31, 188] false [(0, .box (Term.enc x12))] [0] (.cons (.same rfl) (.cons (.fn (.cons (.pt rfl) (.nil))) (.nil))) (slices_ContainsFunc_LimplTerm_impl_twoOfOne_1.ok x14 x12) h17 (.same rfl rfl))) orcN)) ?_
    refine J_if2 16 (fun h18 => ?_) (fun h18 => ?_)
    · refine J_g 13516 [] [(2, bv true)] [] orcN ?_
      exact J_r1 rfl
    · refine J_g 423 [] [(0, sl 7 Term.enc a1), (5, sl 7 Term.enc a1), (6, iv (a1.length : Int)), (7, iv (w64 (s10 + 1)))] [] orcN ?_
      exact J_q (J_b (ih (w64 (s10 + 1)))) rfl
  · exact J_qw (hk ()) rfl

theorem impl_twoOfOne.ok (a1 : (List Term)) : Ok Tryz.prog 127 [sl 7 Term.enc a1] [] ((impl_twoOfOne a1).map fun r => (bv r, [])) := by
  refine Ok_of3 c127 Tryz.f127 0 18 (fun q => ?_)
  unfold impl_twoOfOne
  refine J_g 2 [] [(0, sl 7 Term.enc a1)] [] orcN ?_
  refine J_g 12 [] [(0, sl 7 Term.enc a1), (5, sl 7 Term.enc a1), (6, iv (a1.length : Int)), (7, iv 0)] [] orcN ?_
  refine J_lqF (K0 := (fun r : Bool => some (bv r, []))) (fun _ => rfl) (impl_twoOfOne_l1.ok a1 q _ (fun v19 => J_j ?_) 0)
  refine J_g 14 [] [(2, bv false)] [] orcN ?_
  exact J_r1 rfl

noncomputable def c76 : Code := (Tryz.f76.body).getD .skip

theorem impl_Disk_roots_l1.ok (x2 : ((List Int) × Bool)) (x4 : (List ByteArray)) (q : Wd) (kn : (List Term) → Option (D × List Ent)) (hk : ∀ v : (List Term), J (q.g Tryz.prog 76 0 51) c76 (atI c76 31) (St.mk' [(6, sv (b2s x2.1)), (7, rr 0 v)] [(0, rE 7 Term.enc v)]) (some v) kn) :
    ∀ s14 : ((List Term) × Int), J (q.g Tryz.prog 76 0 51) c76 (atI c76 244) (St.mk' [(6, sv (b2s x2.1)), (7, rr 0 s14.1), (20, rr 1 x4), (21, iv (x4.length : Int)), (22, iv s14.2)] [(0, rE 7 Term.enc s14.1), (1, rE 1 eStr x4)]) (impl_Disk_roots_l1 x2 x4 s14) (Fl.go (fun r : ((List Term) × Int) => some (.tu [so 7 Term.enc r.1, iv r.2], [])) kn) := by
  refine J_lp (fun g ih s14 => ?_)
  unfold impl_Disk_roots_l1b
  refine J_g 488 [] [(6, sv (b2s x2.1)), (7, rr 0 s14.1), (20, rr 1 x4), (21, iv (x4.length : Int)), (22, iv s14.2), (23, bv (decide (s14.2 < (x4.length : Int))))] [(0, rE 7 Term.enc s14.1), (1, rE 1 eStr x4)] orcN ?_
  refine J_if2 23 (fun h15 => ?_) (fun h15 => ?_)
  · refine J_bind (fun x16 h17 => ?_)
    refine J_g 7832 [] [(6, sv (b2s x2.1)), (7, rr 0 s14.1), (9, sv x16), (20, rr 1 x4), (21, iv (x4.length : Int)), (22, iv s14.2)] [(0, rE 7 Term.enc s14.1), (1, rE 1 eStr x4)] (orcC 0 (x_ixr (kk := .i64) 73 9 1 1 eStr (.tmp 20) (.tmp 22) h17) (orcC 1 (x_ldr (d := sv x16) 9 1 1 0 eStr (.tmp 24) h17 (by kernel_rfl)) orcN)) ?_
    refine J_bind (fun x18 h19 => ?_)
    refine J_g 15666 [(2, 2)] [(6, sv (b2s x2.1)), (7, rr 0 s14.1), (10, pp 2), (20, rr 1 x4), (21, iv (x4.length : Int)), (22, iv s14.2)] [(0, rE 7 Term.enc s14.1), (1, rE 1 eStr x4), (2, .box (TermResult.enc x18))] (orcC 1 (x_c0 [(.tmp 26)] [9] (impl_ParseTerm.ok x16) h19) orcN) ?_
    refine J_g 62668 [] [(6, sv (b2s x2.1)), (7, rr 0 s14.1), (10, pp 2), (20, rr 1 x4), (21, iv (x4.length : Int)), (22, iv s14.2), (30, bv (x18.Code != 0))] [(0, rE 7 Term.enc s14.1), (1, rE 1 eStr x4), (2, .box (TermResult.enc x18))] orcN ?_
    refine J_if2 30 (fun h20 => ?_) (fun h20 => ?_)
    · refine J_g 250676 [] [(2, nv), (3, iv 5)] [] orcN ?_
      exact J_rm (ds := [nv, iv 5]) (ds' := [so 7 Term.enc ([] : List Term), iv 5]) (.cons (.cell (.nilsl true 7 (.nil))) (.cons (.cell (.keep rfl (.nil))) (.nil) (by decide)) (by decide)) rfl
    · refine J_bind (fun x21 h22 => ?_)
      refine J_g 31335 [] [(6, sv (b2s x2.1)), (7, rr 4 x21), (20, rr 1 x4), (21, iv (x4.length : Int)), (22, iv s14.2)] [(1, rE 1 eStr x4), (4, rE 7 Term.enc x21)] (orcC 3 (x_bp 31 89 7 3 Term.enc [x18.Term] [0] [(.tmp 33)] [.ag (Term.enc x18.Term)]) (orcC 4 (x_ap 31 31 89 89 7 64 4 0 3 Term.enc (.tmp 31) (.tmp 34) h22) orcN)) ?_
      refine J_g 1959 [] [(6, sv (b2s x2.1)), (7, rr 4 x21), (20, rr 1 x4), (21, iv (x4.length : Int)), (22, iv (w64 (s14.2 + 1)))] [(1, rE 1 eStr x4), (4, rE 7 Term.enc x21)] orcN ?_
      refine J_ren 4 0 (Nat.le_of_ble_eq_true rfl) (Nat.le_of_ble_eq_true rfl) ?_
      exact J_q (J_b (ih (x21, w64 (s14.2 + 1)))) rfl
  · exact J_qw (hk s14.1) rfl

theorem impl_Disk_roots.ok (a1 : Disk) : Ok Tryz.prog 76 [.ag (Disk.enc false a1)] [] ((impl_Disk_roots a1).map fun r => (.tu [so 7 Term.enc r.1, iv r.2], [])) := by
  refine Ok_of3 c76 Tryz.f76 0 51 (fun q => ?_)
  unfold impl_Disk_roots
  refine J_g 2 [(0, 0)] [(1, pp 0)] [(0, .box (Disk.enc false a1))] orcN ?_
  refine J_bind (fun x2 h3 => ?_)
  refine J_g 6 [] [(4, sl 1 eU8 x2.1)] [] (orcC 1 (x_c0 [(.tmp 12), (.const (.string (bs [114, 111, 111, 116, 115])))] [46, 9] (impl_Disk_data.ok a1 (bs [114, 111, 111, 116, 115])) h3) orcN) ?_
  refine J_g 14 [] [(6, sv (b2s x2.1)), (7, rr 0 ([] : List Term))] [(0, rE 7 Term.enc ([] : List Term))] (orcC 1 (x_b2s (xs := x2.1) 119 9 5 (.tmp 16)) (orcC 2 (x_bp 31 89 7 0 Term.enc ([] : List Term) [] [] []) orcN)) ?_
  refine J_bind (fun x4 h5 => ?_)
  refine J_g 60 [] [(6, sv (b2s x2.1)), (7, rr 0 ([] : List Term)), (20, rr 1 x4), (21, iv (x4.length : Int)), (22, iv 0)] [(0, rE 7 Term.enc ([] : List Term)), (1, rE 1 eStr x4)] (orcC 1 (x_c1 («as» := [sv (b2s x2.1)]) [(.tmp 19)] [9] false [] [] (.cons (.same rfl) (.nil)) (impl_linesOf.ok (b2s x2.1)) h5 (.own 1)) orcN) ?_
  refine J_lqF (K0 := (fun r : ((List Term) × Int) => some (.tu [so 7 Term.enc r.1, iv r.2], []))) (fun _ => rfl) (impl_Disk_roots_l1.ok x2 x4 q _ (fun v23 => J_j ?_) (([] : List Term), 0))
  refine J_bind (fun x24 h25 => ?_)
  refine J_join (atI c76 125) (fun v30 : Bool => St.mk' [(7, rr 0 v23), (49, bv v30)] [(0, rE 7 Term.enc v23)]) (fun v30 => ?_) (fun jv30 => ?_)
  · refine J_if2 49 (fun h31 => ?_) (fun h31 => ?_)
    · refine J_g 500 [] [(2, nv), (3, iv 5)] [] orcN ?_
      exact J_rm (ds := [nv, iv 5]) (ds' := [so 7 Term.enc ([] : List Term), iv 5]) (.cons (.cell (.nilsl true 7 (.nil))) (.cons (.cell (.keep rfl (.nil))) (.nil) (by decide)) (by decide)) rfl
    · refine J_g 126 [] [(2, rr 0 v23), (3, iv 0)] [(0, rE 7 Term.enc v23)] orcN ?_
      exact J_rm (ds := [rr 0 v23, iv 0]) (ds' := [so 7 Term.enc v23, iv 0]) (.cons (.cell (.move (.head _) (List.length_map _) (by decide) (.nil))) (.cons (.cell (.keep rfl (.nil))) (.nil) (by decide)) (by decide)) rfl
  · refine J_ite (fun h26 => ?_) (fun h26 => ?_)
    · refine J_g 124 [] [(7, rr 0 v23), (49, bv true)] [(0, rE 7 Term.enc v23)] (orcC 1 (x_c1 («as» := [rr 0 v23]) [(.tmp 37)] [31] true [(0, rE 7 Term.enc v23)] [] (.cons (am_b (.head _) (fun _ => rfl) rfl) (.nil)) (impl_RootsText.ok v23) h25 (.same rfl rfl) (hbor := fun _ => ⟨rfl, flat_sc⟩)) (orcL 4 [(40, bv (!(seq x24 (b2s x2.1))))] [] h26 orcN)) ?_
      exact J_qw (J_j (jv30 true)) rfl
    · refine J_ite (fun h27 => ?_) (fun h27 => ?_)
      · refine J_g 124 [] [(7, rr 0 v23), (49, bv true)] [(0, rE 7 Term.enc v23)] (orcC 1 (x_c1 («as» := [rr 0 v23]) [(.tmp 37)] [31] true [(0, rE 7 Term.enc v23)] [] (.cons (am_b (.head _) (fun _ => rfl) rfl) (.nil)) (impl_RootsText.ok v23) h25 (.same rfl rfl) (hbor := fun _ => ⟨rfl, flat_sc⟩)) (orcL 4 [(40, bv (!(seq x24 (b2s x2.1))))] [] h26 (orcL 9 [(45, bv (decide ((v23.length : Int) > 8)))] [] h27 orcN))) ?_
        exact J_qw (J_j (jv30 true)) rfl
      · refine J_bind (fun x28 h29 => ?_)
        refine J_g 124 [] [(7, rr 0 v23), (49, bv x28)] [(0, rE 7 Term.enc v23)] (orcC 1 (x_c1 («as» := [rr 0 v23]) [(.tmp 37)] [31] true [(0, rE 7 Term.enc v23)] [] (.cons (am_b (.head _) (fun _ => rfl) rfl) (.nil)) (impl_RootsText.ok v23) h25 (.same rfl rfl) (hbor := fun _ => ⟨rfl, flat_sc⟩)) (orcL 4 [(40, bv (!(seq x24 (b2s x2.1))))] [] h26 (orcL 9 [(45, bv (decide ((v23.length : Int) > 8)))] [] h27 (orcH 11 9 46 false (x_c1 («as» := [rr 0 v23]) [(.tmp 47)] [31] true [(0, rE 7 Term.enc v23)] [] (.cons (am_b (.head _) (fun _ => rfl) rfl) (.nil)) (impl_twoOfOne.ok v23) h29 (.same rfl rfl) (hbor := fun _ => ⟨rfl, flat_sc⟩)) orcN)))) ?_
        exact J_qw (J_j (jv30 x28)) rfl

noncomputable def c35 : Code := (Tryz.f35.body).getD .skip

theorem impl_RootsOf.ok (a1 : Disk) : Ok Tryz.prog 35 [.ag (Disk.enc false a1)] [] ((impl_RootsOf a1).map fun r => (.ag [iv r.Code, so 7 Term.enc r.Asks], [])) := by
  refine Ok_of3 c35 Tryz.f35 0 20 (fun q => ?_)
  unfold impl_RootsOf
  refine J_g 2 [(0, 0), (1, 1)] [(1, pp 0), (2, pp 1)] [(0, .box (Disk.enc false a1)), (1, .box [iv 0, nv])] orcN ?_
  refine J_bind (fun x2 h3 => ?_)
  refine J_g 12 [] [(1, pp 0), (2, pp 1), (3, iv x2)] [(0, .box (Disk.enc false a1)), (1, .box [iv 0, nv])] (orcC 1 (x_c0 [(.tmp 6)] [46] (impl_DiskFault.ok a1) h3) orcN) ?_
  refine J_g 26 [] [(1, pp 0), (2, pp 1), (3, iv x2), (9, bv (x2 != 0))] [(0, .box (Disk.enc false a1)), (1, .box [iv 0, nv])] orcN ?_
  refine J_if2 9 (fun h4 => ?_) (fun h4 => ?_)
  · refine J_g 108 [] [(2, pp 1)] [(1, .box [iv x2, nv])] orcN ?_
    exact J_rm (ds := [.ag [iv x2, nv]]) (ds' := [.ag [iv x2, so 7 Term.enc ([] : List Term)]]) (.cons (.ag (.keep rfl (.nilsl true 7 (.nil)))) (.nil) (by decide)) rfl
  · refine J_bind (fun x5 h6 => ?_)
    refine J_g 14 [] [(2, pp 1), (4, rr 2 x5.1), (5, iv x5.2)] [(1, .box [iv 0, nv]), (2, rE 7 Term.enc x5.1)] (orcC 1 (x_c1 («as» := [.ag (Disk.enc false a1)]) [(.tmp 13)] [46] false [] [] (.cons (.same rfl) (.nil)) (impl_Disk_roots.ok a1) h6 (.tu (.cons (.own 2) (.cons (.same rfl rfl) (.nil))))) orcN) ?_
    refine J_g 30 [] [(2, pp 1)] [(1, .box [iv x5.2, rr 2 x5.1]), (2, rE 7 Term.enc x5.1)] orcN ?_
    exact J_rm (ds := [.ag [iv x5.2, rr 2 x5.1]]) (ds' := [.ag [iv x5.2, so 7 Term.enc x5.1]]) (.cons (.ag (.keep rfl (.move (.tail _ (.head _)) (List.length_map _) (by decide) (.nil)))) (.nil) (by decide)) rfl

noncomputable def c101 : Code := (Tryz.f101.body).getD .skip

theorem laws_eqVersion.ok (a1 : Version) (a2 : Version) : Ok Tryz.prog 101 [.ag (Version.enc a1), .ag (Version.enc a2)] [] ((laws_eqVersion a1 a2).map fun r => (bv r, [])) := by
  refine Ok_of3 c101 Tryz.f101 0 20 (fun q => ?_)
  unfold laws_eqVersion
  refine J_g 2 [(0, 0), (1, 1)] [(2, pp 0), (3, pp 1)] [(0, .box (Version.enc a1)), (1, .box (Version.enc a2))] orcN ?_
  refine J_g 12 [] [(2, pp 0), (3, pp 1), (9, bv (a1.A != a2.A))] [(0, .box (Version.enc a1)), (1, .box (Version.enc a2))] orcN ?_
  refine J_if2 9 (fun h3 => ?_) (fun h3 => ?_)
  · refine J_g 52 [] [(4, bv false)] [] orcN ?_
    exact J_r1 rfl
  · refine J_g 28 [] [(2, pp 0), (3, pp 1), (14, bv (a1.B != a2.B))] [(0, .box (Version.enc a1)), (1, .box (Version.enc a2))] orcN ?_
    refine J_if2 14 (fun h4 => ?_) (fun h4 => ?_)
    · refine J_g 116 [] [(4, bv false)] [] orcN ?_
      exact J_r1 rfl
    · refine J_g 60 [] [(19, bv (a1.C != a2.C))] [] orcN ?_
      refine J_if2 19 (fun h5 => ?_) (fun h5 => ?_)
      · refine J_g 244 [] [(4, bv false)] [] orcN ?_
        exact J_r1 rfl
      · refine J_g 62 [] [(4, bv true)] [] orcN ?_
        exact J_r1 rfl

noncomputable def c58 : Code := (Tryz.f58.body).getD .skip

theorem laws_eqTerm.ok (a1 : Term) (a2 : Term) : Ok Tryz.prog 58 [.ag (Term.enc a1), .ag (Term.enc a2)] [] ((laws_eqTerm a1 a2).map fun r => (bv r, [])) := by
  refine Ok_of3 c58 Tryz.f58 0 22 (fun q => ?_)
  unfold laws_eqTerm
  refine J_g 2 [(0, 0), (1, 1)] [(2, pp 0), (3, pp 1)] [(0, .box (Term.enc a1)), (1, .box (Term.enc a2))] orcN ?_
  refine J_g 12 [] [(2, pp 0), (3, pp 1), (9, bv (!(seq a1.Name a2.Name)))] [(0, .box (Term.enc a1)), (1, .box (Term.enc a2))] orcN ?_
  refine J_if2 9 (fun h3 => ?_) (fun h3 => ?_)
  · refine J_g 52 [] [(4, bv false)] [] orcN ?_
    exact J_r1 rfl
  · refine J_bind (fun x4 h5 => ?_)
    refine J_g 28 [] [(2, pp 0), (3, pp 1), (15, bv (!x4))] [(0, .box (Term.enc a1)), (1, .box (Term.enc a2))] (orcC 4 (x_c0 [(.tmp 11), (.tmp 13)] [83, 83] (laws_eqVersion.ok a1.Low a2.Low) h5) orcN) ?_
    refine J_if2 15 (fun h6 => ?_) (fun h6 => ?_)
    · refine J_g 116 [] [(4, bv false)] [] orcN ?_
      exact J_r1 rfl
    · refine J_bind (fun x7 h8 => ?_)
      refine J_g 60 [] [(21, bv (!x7))] [] (orcC 4 (x_c0 [(.tmp 17), (.tmp 19)] [83, 83] (laws_eqVersion.ok a1.High a2.High) h8) orcN) ?_
      refine J_if2 21 (fun h9 => ?_) (fun h9 => ?_)
      · refine J_g 244 [] [(4, bv false)] [] orcN ?_
        exact J_r1 rfl
      · refine J_g 62 [] [(4, bv true)] [] orcN ?_
        exact J_r1 rfl

noncomputable def c17 : Code := (Tryz.f17.body).getD .skip

theorem laws_eqTermS_l1.ok (a1 : (List Term)) (a2 : (List Term)) (q : Wd) (kn : Unit → Option (D × List Ent)) (hk : ∀ v : Unit, J (q.g Tryz.prog 17 0 27) c17 (atI c17 15) (St.mk' [] []) (some v) kn) :
    ∀ s12 : Int, J (q.g Tryz.prog 17 0 27) c17 (atI c17 116) (St.mk' [(0, sl 7 Term.enc a1), (1, sl 7 Term.enc a2), (5, iv s12)] []) (laws_eqTermS_l1 a1 a2 s12) (Fl.go (fun r : Bool => some (bv r, [])) kn) := by
  refine J_lp (fun g ih s12 => ?_)
  unfold laws_eqTermS_l1b
  refine J_g 464 [] [(0, sl 7 Term.enc a1), (1, sl 7 Term.enc a2), (5, iv s12), (14, bv (decide (s12 < (a1.length : Int))))] [] orcN ?_
  refine J_if2 14 (fun h13 => ?_) (fun h13 => ?_)
  · refine J_bind (fun x14 h15 => ?_)
    refine J_bind (fun x16 h17 => ?_)
    refine J_bind (fun x18 h19 => ?_)
    refine J_g 1864 [] [(0, sl 7 Term.enc a1), (1, sl 7 Term.enc a2), (5, iv s12), (26, bv (!x18))] [] (orcC 2 (x_ix (kk := .i64) 31 89 7 Term.enc (.tmp 17) (.tmp 18) h15) (orcC 6 (x_ix (kk := .i64) 31 89 7 Term.enc (.tmp 21) (.tmp 22) h17) (orcC 8 (x_c0 [(.tmp 20), (.tmp 24)] [89, 89] (laws_eqTerm.ok x14 x16) h19) orcN))) ?_
    refine J_if2 26 (fun h20 => ?_) (fun h20 => ?_)
    · refine J_g 7460 [] [(4, bv false)] [] orcN ?_
      exact J_r1 rfl
    · refine J_g 467 [] [(0, sl 7 Term.enc a1), (1, sl 7 Term.enc a2), (5, iv (w64 (s12 + 1)))] [] orcN ?_
      exact J_q (J_b (ih (w64 (s12 + 1)))) rfl
  · exact J_qw (hk ()) rfl

theorem laws_eqTermS.ok (a1 : (List Term)) (a2 : (List Term)) : Ok Tryz.prog 17 [sl 7 Term.enc a1, sl 7 Term.enc a2] [] ((laws_eqTermS a1 a2).map fun r => (bv r, [])) := by
  refine Ok_of3 c17 Tryz.f17 0 27 (fun q => ?_)
  unfold laws_eqTermS
  refine J_g 2 [] [(0, sl 7 Term.enc a1), (1, sl 7 Term.enc a2)] [] orcN ?_
  refine J_g 12 [] [(0, sl 7 Term.enc a1), (1, sl 7 Term.enc a2), (10, bv ((a1.length : Int) != (a2.length : Int)))] [] orcN ?_
  refine J_if2 10 (fun h3 => ?_) (fun h3 => ?_)
  · refine J_g 52 [] [(4, bv false)] [] orcN ?_
    exact J_r1 rfl
  · refine J_g 28 [] [(0, sl 7 Term.enc a1), (1, sl 7 Term.enc a2), (5, iv 0)] [] orcN ?_
    refine J_lqF (K0 := (fun r : Bool => some (bv r, []))) (fun _ => rfl) (laws_eqTermS_l1.ok a1 a2 q _ (fun v21 => J_j ?_) 0)
    refine J_g 30 [] [(4, bv true)] [] orcN ?_
    exact J_r1 rfl

noncomputable def c36 : Code := (Tryz.f36.body).getD .skip

theorem laws_eqAsksResult.ok (a1 : AsksResult) (a2 : AsksResult) : Ok Tryz.prog 36 [.ag (AsksResult.enc false a1), .ag (AsksResult.enc false a2)] [] ((laws_eqAsksResult a1 a2).map fun r => (bv r, [])) := by
  refine Ok_of3 c36 Tryz.f36 0 16 (fun q => ?_)
  unfold laws_eqAsksResult
  refine J_g 2 [(0, 0), (1, 1)] [(2, pp 0), (3, pp 1)] [(0, .box (AsksResult.enc false a1)), (1, .box (AsksResult.enc false a2))] orcN ?_
  refine J_g 12 [] [(2, pp 0), (3, pp 1), (9, bv (a1.Code != a2.Code))] [(0, .box (AsksResult.enc false a1)), (1, .box (AsksResult.enc false a2))] orcN ?_
  refine J_if2 9 (fun h3 => ?_) (fun h3 => ?_)
  · refine J_g 52 [] [(4, bv false)] [] orcN ?_
    exact J_r1 rfl
  · refine J_bind (fun x4 h5 => ?_)
    refine J_g 28 [] [(15, bv (!x4))] [] (orcC 4 (x_c0 [(.tmp 11), (.tmp 13)] [31, 31] (laws_eqTermS.ok a1.Asks a2.Asks) h5) orcN) ?_
    refine J_if2 15 (fun h6 => ?_) (fun h6 => ?_)
    · refine J_g 116 [] [(4, bv false)] [] orcN ?_
      exact J_r1 rfl
    · refine J_g 30 [] [(4, bv true)] [] orcN ?_
      exact J_r1 rfl

noncomputable def c154 : Code := (Tryz.f154.body).getD .skip

theorem laws_eqByteS_l1.ok (a1 : (List Int)) (a2 : (List Int)) (q : Wd) (kn : Unit → Option (D × List Ent)) (hk : ∀ v : Unit, J (q.g Tryz.prog 154 0 26) c154 (atI c154 15) (St.mk' [] []) (some v) kn) :
    ∀ s10 : Int, J (q.g Tryz.prog 154 0 26) c154 (atI c154 116) (St.mk' [(0, sl 1 eU8 a1), (1, sl 1 eU8 a2), (5, iv s10)] []) (laws_eqByteS_l1 a1 a2 s10) (Fl.go (fun r : Bool => some (bv r, [])) kn) := by
  refine J_lp (fun g ih s10 => ?_)
  unfold laws_eqByteS_l1b
  refine J_g 464 [] [(0, sl 1 eU8 a1), (1, sl 1 eU8 a2), (5, iv s10), (14, bv (decide (s10 < (a1.length : Int))))] [] orcN ?_
  refine J_if2 14 (fun h11 => ?_) (fun h11 => ?_)
  · refine J_bind (fun x12 h13 => ?_)
    refine J_bind (fun x14 h15 => ?_)
    refine J_g 1864 [] [(0, sl 1 eU8 a1), (1, sl 1 eU8 a2), (5, iv s10), (25, bv (x12 != x14))] [] (orcC 2 (x_ix (kk := .i64) 119 5 1 eU8 (.tmp 17) (.tmp 18) h13) (orcC 6 (x_ix (kk := .i64) 119 5 1 eU8 (.tmp 21) (.tmp 22) h15) orcN)) ?_
    refine J_if2 25 (fun h16 => ?_) (fun h16 => ?_)
    · refine J_g 7460 [] [(4, bv false)] [] orcN ?_
      exact J_r1 rfl
    · refine J_g 467 [] [(0, sl 1 eU8 a1), (1, sl 1 eU8 a2), (5, iv (w64 (s10 + 1)))] [] orcN ?_
      exact J_q (J_b (ih (w64 (s10 + 1)))) rfl
  · exact J_qw (hk ()) rfl

theorem laws_eqByteS.ok (a1 : (List Int)) (a2 : (List Int)) : Ok Tryz.prog 154 [sl 1 eU8 a1, sl 1 eU8 a2] [] ((laws_eqByteS a1 a2).map fun r => (bv r, [])) := by
  refine Ok_of3 c154 Tryz.f154 0 26 (fun q => ?_)
  unfold laws_eqByteS
  refine J_g 2 [] [(0, sl 1 eU8 a1), (1, sl 1 eU8 a2)] [] orcN ?_
  refine J_g 12 [] [(0, sl 1 eU8 a1), (1, sl 1 eU8 a2), (10, bv ((a1.length : Int) != (a2.length : Int)))] [] orcN ?_
  refine J_if2 10 (fun h3 => ?_) (fun h3 => ?_)
  · refine J_g 52 [] [(4, bv false)] [] orcN ?_
    exact J_r1 rfl
  · refine J_g 28 [] [(0, sl 1 eU8 a1), (1, sl 1 eU8 a2), (5, iv 0)] [] orcN ?_
    refine J_lqF (K0 := (fun r : Bool => some (bv r, []))) (fun _ => rfl) (laws_eqByteS_l1.ok a1 a2 q _ (fun v17 => J_j ?_) 0)
    refine J_g 30 [] [(4, bv true)] [] orcN ?_
    exact J_r1 rfl

noncomputable def c106 : Code := (Tryz.f106.body).getD .skip

theorem laws_eqFile.ok (a1 : File) (a2 : File) : Ok Tryz.prog 106 [.ag (File.enc false a1), .ag (File.enc false a2)] [] ((laws_eqFile a1 a2).map fun r => (bv r, [])) := by
  refine Ok_of3 c106 Tryz.f106 0 16 (fun q => ?_)
  unfold laws_eqFile
  refine J_g 2 [(0, 0), (1, 1)] [(2, pp 0), (3, pp 1)] [(0, .box (File.enc false a1)), (1, .box (File.enc false a2))] orcN ?_
  refine J_g 12 [] [(2, pp 0), (3, pp 1), (9, bv (!(seq a1.Path a2.Path)))] [(0, .box (File.enc false a1)), (1, .box (File.enc false a2))] orcN ?_
  refine J_if2 9 (fun h3 => ?_) (fun h3 => ?_)
  · refine J_g 52 [] [(4, bv false)] [] orcN ?_
    exact J_r1 rfl
  · refine J_bind (fun x4 h5 => ?_)
    refine J_g 28 [] [(15, bv (!x4))] [] (orcC 4 (x_c0 [(.tmp 11), (.tmp 13)] [119, 119] (laws_eqByteS.ok a1.Data a2.Data) h5) orcN) ?_
    refine J_if2 15 (fun h6 => ?_) (fun h6 => ?_)
    · refine J_g 116 [] [(4, bv false)] [] orcN ?_
      exact J_r1 rfl
    · refine J_g 30 [] [(4, bv true)] [] orcN ?_
      exact J_r1 rfl

noncomputable def c61 : Code := (Tryz.f61.body).getD .skip

theorem laws_eqFileS_l1.ok (a1 : (List File)) (a2 : (List File)) (q : Wd) (kn : Unit → Option (D × List Ent)) (hk : ∀ v : Unit, J (q.g Tryz.prog 61 0 27) c61 (atI c61 15) (St.mk' [] []) (some v) kn) :
    ∀ s12 : Int, J (q.g Tryz.prog 61 0 27) c61 (atI c61 116) (St.mk' [(0, sl 2 (File.enc false) a1), (1, sl 2 (File.enc false) a2), (5, iv s12)] []) (laws_eqFileS_l1 a1 a2 s12) (Fl.go (fun r : Bool => some (bv r, [])) kn) := by
  refine J_lp (fun g ih s12 => ?_)
  unfold laws_eqFileS_l1b
  refine J_g 464 [] [(0, sl 2 (File.enc false) a1), (1, sl 2 (File.enc false) a2), (5, iv s12), (14, bv (decide (s12 < (a1.length : Int))))] [] orcN ?_
  refine J_if2 14 (fun h13 => ?_) (fun h13 => ?_)
  · refine J_bind (fun x14 h15 => ?_)
    refine J_bind (fun x16 h17 => ?_)
    refine J_bind (fun x18 h19 => ?_)
    refine J_g 1864 [] [(0, sl 2 (File.enc false) a1), (1, sl 2 (File.enc false) a2), (5, iv s12), (26, bv (!x18))] [] (orcC 2 (x_ix (kk := .i64) 44 121 2 (File.enc false) (.tmp 17) (.tmp 18) h15) (orcC 6 (x_ix (kk := .i64) 44 121 2 (File.enc false) (.tmp 21) (.tmp 22) h17) (orcC 8 (x_c0 [(.tmp 20), (.tmp 24)] [121, 121] (laws_eqFile.ok x14 x16) h19) orcN))) ?_
    refine J_if2 26 (fun h20 => ?_) (fun h20 => ?_)
    · refine J_g 7460 [] [(4, bv false)] [] orcN ?_
      exact J_r1 rfl
    · refine J_g 467 [] [(0, sl 2 (File.enc false) a1), (1, sl 2 (File.enc false) a2), (5, iv (w64 (s12 + 1)))] [] orcN ?_
      exact J_q (J_b (ih (w64 (s12 + 1)))) rfl
  · exact J_qw (hk ()) rfl

theorem laws_eqFileS.ok (a1 : (List File)) (a2 : (List File)) : Ok Tryz.prog 61 [sl 2 (File.enc false) a1, sl 2 (File.enc false) a2] [] ((laws_eqFileS a1 a2).map fun r => (bv r, [])) := by
  refine Ok_of3 c61 Tryz.f61 0 27 (fun q => ?_)
  unfold laws_eqFileS
  refine J_g 2 [] [(0, sl 2 (File.enc false) a1), (1, sl 2 (File.enc false) a2)] [] orcN ?_
  refine J_g 12 [] [(0, sl 2 (File.enc false) a1), (1, sl 2 (File.enc false) a2), (10, bv ((a1.length : Int) != (a2.length : Int)))] [] orcN ?_
  refine J_if2 10 (fun h3 => ?_) (fun h3 => ?_)
  · refine J_g 52 [] [(4, bv false)] [] orcN ?_
    exact J_r1 rfl
  · refine J_g 28 [] [(0, sl 2 (File.enc false) a1), (1, sl 2 (File.enc false) a2), (5, iv 0)] [] orcN ?_
    refine J_lqF (K0 := (fun r : Bool => some (bv r, []))) (fun _ => rfl) (laws_eqFileS_l1.ok a1 a2 q _ (fun v21 => J_j ?_) 0)
    refine J_g 30 [] [(4, bv true)] [] orcN ?_
    exact J_r1 rfl

noncomputable def c24 : Code := (Tryz.f24.body).getD .skip

theorem laws_eqDisk.ok (a1 : Disk) (a2 : Disk) : Ok Tryz.prog 24 [.ag (Disk.enc false a1), .ag (Disk.enc false a2)] [] ((laws_eqDisk a1 a2).map fun r => (bv r, [])) := by
  refine Ok_of3 c24 Tryz.f24 0 31 (fun q => ?_)
  unfold laws_eqDisk
  refine J_g 2 [(0, 0), (1, 1)] [(2, pp 0), (3, pp 1)] [(0, .box (Disk.enc false a1)), (1, .box (Disk.enc false a2))] orcN ?_
  refine J_bind (fun x3 h4 => ?_)
  refine J_g 12 [] [(2, pp 0), (3, pp 1), (10, bv (!x3))] [(0, .box (Disk.enc false a1)), (1, .box (Disk.enc false a2))] (orcC 4 (x_c0 [(.tmp 6), (.tmp 8)] [44, 44] (laws_eqFileS.ok a1.Files a2.Files) h4) orcN) ?_
  refine J_if2 10 (fun h5 => ?_) (fun h5 => ?_)
  · refine J_g 52 [] [(4, bv false)] [] orcN ?_
    exact J_r1 rfl
  · refine J_g 28 [] [(2, pp 0), (3, pp 1), (15, bv (a1.Budget != a2.Budget))] [(0, .box (Disk.enc false a1)), (1, .box (Disk.enc false a2))] orcN ?_
    refine J_if2 15 (fun h6 => ?_) (fun h6 => ?_)
    · refine J_g 116 [] [(4, bv false)] [] orcN ?_
      exact J_r1 rfl
    · refine J_g 60 [] [(2, pp 0), (3, pp 1), (20, bv (a1.Writes != a2.Writes))] [(0, .box (Disk.enc false a1)), (1, .box (Disk.enc false a2))] orcN ?_
      refine J_if2 20 (fun h7 => ?_) (fun h7 => ?_)
      · refine J_g 244 [] [(4, bv false)] [] orcN ?_
        exact J_r1 rfl
      · refine J_g 124 [] [(2, pp 0), (3, pp 1), (25, bv (a1.Stop != a2.Stop))] [(0, .box (Disk.enc false a1)), (1, .box (Disk.enc false a2))] orcN ?_
        refine J_if2 25 (fun h8 => ?_) (fun h8 => ?_)
        · refine J_g 500 [] [(4, bv false)] [] orcN ?_
          exact J_r1 rfl
        · refine J_g 252 [] [(30, bv (!(a1.Down == a2.Down)))] [] orcN ?_
          refine J_if2 30 (fun h9 => ?_) (fun h9 => ?_)
          · refine J_g 1012 [] [(4, bv false)] [] orcN ?_
            exact J_r1 rfl
          · refine J_g 254 [] [(4, bv true)] [] orcN ?_
            exact J_r1 rfl

noncomputable def c67 : Code := (Tryz.f67.body).getD .skip

theorem laws_markText_l1.ok  (q : Wd) (kn : ByteArray → Option (D × List Ent)) (hk : ∀ v : ByteArray, J (q.g Tryz.prog 67 0 20) c67 (atI c67 31) (St.mk' [(3, sv v)] []) (some v) kn) :
    ∀ s6 : (Int × ByteArray), J (q.g Tryz.prog 67 0 20) c67 (atI c67 120) (St.mk' [(0, iv s6.1), (3, sv s6.2)] []) (laws_markText_l1 s6) kn := by
  refine J_lp (fun g ih s6 => ?_)
  unfold laws_markText_l1b
  refine J_g 480 [] [(0, iv s6.1), (3, sv s6.2), (7, bv (decide (s6.1 > 0)))] [] orcN ?_
  refine J_if2 7 (fun h7 => ?_) (fun h7 => ?_)
  · refine J_bind (fun x8 h9 => ?_)
    refine J_g 964 [] [(0, iv s6.1), (3, sv x8)] [] (orcC 4 (x_bp 119 5 1 0 eU8 [IntKind.u8.wrap (w64 (48 + (s6.1.tmod 10)))] [0] [(.tmp 11)] [uv (IntKind.u8.wrap (w64 (48 + (s6.1.tmod 10))))]) (orcC 5 (x_b2sr (xs := [IntKind.u8.wrap (w64 (48 + (s6.1.tmod 10)))]) 119 9 5 0 (.tmp 12)) (orcC 7 (x_cat 9 9 (.tmp 13) (.tmp 14) h9) orcN))) ?_
    refine J_g 965 [] [(0, iv (w64 (s6.1.tdiv 10))), (3, sv x8)] [] orcN ?_
    exact J_q (J_b (ih (w64 (s6.1.tdiv 10), x8))) rfl
  · exact J_qw (hk s6.2) rfl

theorem laws_markText.ok (a1 : Int) : Ok Tryz.prog 67 [iv a1] [] ((laws_markText a1).map fun r => (sv r, [])) := by
  refine Ok_of3 c67 Tryz.f67 0 20 (fun q => ?_)
  unfold laws_markText
  refine J_g 2 [] [(0, iv a1)] [] orcN ?_
  refine J_g 12 [] [(0, iv a1), (5, bv (decide (a1 ≤ 0)))] [] orcN ?_
  refine J_if2 5 (fun h2 => ?_) (fun h2 => ?_)
  · refine J_g 52 [] [(2, sv (bs [109, 48]))] [] orcN ?_
    exact J_r1 rfl
  · refine J_g 14 [] [(0, iv a1), (3, sv (bs []))] [] orcN ?_
    refine J_lq (laws_markText_l1.ok q _ (fun v10 => J_j ?_) (a1, bs []))
    refine J_bind (fun x11 h12 => ?_)
    refine J_g 62 [] [(2, sv x11)] [] (orcC 1 (x_cat 9 9 (.const (.string (bs [109]))) (.tmp 18) h12) orcN) ?_
    exact J_r1 rfl

noncomputable def c117 : Code := (Tryz.f117.body).getD .skip

theorem laws_markByteSr_l1.ok  (q : Wd) (kn : ((List Int) × Int) → Option (D × List Ent)) (hk : ∀ v : ((List Int) × Int), J (q.g Tryz.prog 117 1 20) c117 (atI c117 7) (St.mk' [(1, iv v.2)] [(0, rE 1 eU8 v.1)]) (some v) kn) :
    ∀ s6 : ((List Int) × Int × Int), J (q.g Tryz.prog 117 1 20) c117 (atI c117 52) (St.mk' [(0, rr 0 s6.1), (1, iv s6.2.1), (5, iv s6.2.2)] [(0, rE 1 eU8 s6.1)]) (laws_markByteSr_l1 s6) kn := by
  refine J_lp (fun g ih s6 => ?_)
  unfold laws_markByteSr_l1b
  refine J_g 208 [] [(0, rr 0 s6.1), (1, iv s6.2.1), (5, iv s6.2.2), (9, bv (decide (s6.2.2 < (s6.1.length : Int))))] [(0, rE 1 eU8 s6.1)] orcN ?_
  refine J_if2 9 (fun h7 => ?_) (fun h7 => ?_)
  · refine J_bind (fun x8 h9 => ?_)
    refine J_g 840 [] [(0, rr 0 s6.1), (1, iv s6.2.1), (5, iv s6.2.2)] [(0, rE 1 eU8 (s6.1.set s6.2.2.toNat (IntKind.u8.wrap (s6.2.1))))] (orcC 4 (x_ixr (kk := .i64) 119 5 1 0 eU8 (.tmp 12) (.tmp 13) h9) (orcD 5 (x_st (b := IntKind.u8.wrap (s6.2.1)) 5 1 0 0 eU8 (uv (IntKind.u8.wrap (s6.2.1))) (.tmp 16) (.tmp 15) h9 rfl) orcN)) ?_
    refine J_st (σ' := St.mk' [(0, rr 0 (s6.1.set s6.2.2.toNat (IntKind.u8.wrap (s6.2.1)))), (1, iv s6.2.1), (5, iv s6.2.2)] [(0, rE 1 eU8 (s6.1.set s6.2.2.toNat (IntKind.u8.wrap (s6.2.1))))]) (by simp only [rr, List.length_set]) ?_
    refine J_g 841 [] [(0, rr 0 (s6.1.set s6.2.2.toNat (IntKind.u8.wrap (s6.2.1)))), (1, iv (w64 (s6.2.1 + 1))), (5, iv s6.2.2)] [(0, rE 1 eU8 (s6.1.set s6.2.2.toNat (IntKind.u8.wrap (s6.2.1))))] orcN ?_
    refine J_g 211 [] [(0, rr 0 (s6.1.set s6.2.2.toNat (IntKind.u8.wrap (s6.2.1)))), (1, iv (w64 (s6.2.1 + 1))), (5, iv (w64 (s6.2.2 + 1)))] [(0, rE 1 eU8 (s6.1.set s6.2.2.toNat (IntKind.u8.wrap (s6.2.1))))] orcN ?_
    exact J_q (J_b (ih (s6.1.set s6.2.2.toNat (IntKind.u8.wrap (s6.2.1)), w64 (s6.2.1 + 1), w64 (s6.2.2 + 1)))) rfl
  · exact J_qw (hk (s6.1, s6.2.1)) rfl

theorem laws_markByteSr.ok (a1 : (List Int)) (a2 : Int) : Ok Tryz.prog 117 [rr 0 a1, iv a2] [rE 1 eU8 a1] ((laws_markByteSr a1 a2).map fun r => (iv r.1, [rE 1 eU8 r.2])) := by
  refine Ok_of3 c117 Tryz.f117 1 20 (fun q => ?_)
  unfold laws_markByteSr
  refine J_g 2 [] [(0, rr 0 a1), (1, iv a2)] [(0, rE 1 eU8 a1)] orcN ?_
  refine J_g 12 [] [(0, rr 0 a1), (1, iv a2), (5, iv 0)] [(0, rE 1 eU8 a1)] orcN ?_
  refine J_lq (laws_markByteSr_l1.ok q _ (fun v10 => J_j ?_) (a1, a2, 0))
  refine J_g 14 [] [(4, iv v10.2)] [(0, rE 1 eU8 v10.1)] orcN ?_
  exact J_r1 rfl

noncomputable def c71 : Code := (Tryz.f71.body).getD .skip

theorem laws_markFileSr_l1.ok  (q : Wd) (kn : ((List File) × Int) → Option (D × List Ent)) (hk : ∀ v : ((List File) × Int), J (q.g Tryz.prog 71 1 28) c71 (atI c71 7) (St.mk' [(1, iv v.2)] [(0, rE 2 (File.enc true) v.1)]) (some v) kn) :
    ∀ s14 : ((List File) × Int × Int), J (q.g Tryz.prog 71 1 28) c71 (atI c71 52) (St.mk' [(0, rr 0 s14.1), (1, iv s14.2.1), (5, iv s14.2.2)] [(0, rE 2 (File.enc true) s14.1)]) (laws_markFileSr_l1 s14) kn := by
  refine J_lp (fun g ih s14 => ?_)
  unfold laws_markFileSr_l1b
  refine J_g 208 [] [(0, rr 0 s14.1), (1, iv s14.2.1), (5, iv s14.2.2), (9, bv (decide (s14.2.2 < (s14.1.length : Int))))] [(0, rE 2 (File.enc true) s14.1)] orcN ?_
  refine J_if2 9 (fun h15 => ?_) (fun h15 => ?_)
  · refine J_bind (fun x16 h17 => ?_)
    refine J_bind (fun x18 h19 => ?_)
    refine J_g 840 [] [(0, rr 0 s14.1), (1, iv s14.2.1), (5, iv s14.2.2)] [(0, rE 2 (File.enc true) (s14.1.set s14.2.2.toNat ({ Path := x16, Data := x18.Data } : File)))] (orcC 3 (x_c0 [(.tmp 14)] [3] (laws_markText.ok s14.2.1) h17) (orcC 4 (x_ixr (kk := .i64) 44 121 2 0 (File.enc true) (.tmp 12) (.tmp 13) h19) (orcD 6 (x_st (b := ({ Path := x16, Data := x18.Data } : File)) 9 2 0 0 (File.enc true) (sv x16) (.tmp 17) (.tmp 15) h19 rfl) orcN))) ?_
    refine J_st (σ' := St.mk' [(0, rr 0 (s14.1.set s14.2.2.toNat ({ Path := x16, Data := x18.Data } : File))), (1, iv s14.2.1), (5, iv s14.2.2)] [(0, rE 2 (File.enc true) (s14.1.set s14.2.2.toNat ({ Path := x16, Data := x18.Data } : File)))]) (by simp only [rr, List.length_set]) ?_
    refine J_g 1682 [] [(0, rr 0 (s14.1.set s14.2.2.toNat ({ Path := x16, Data := x18.Data } : File))), (1, iv (w64 (s14.2.1 + 1))), (5, iv s14.2.2)] [(0, rE 2 (File.enc true) (s14.1.set s14.2.2.toNat ({ Path := x16, Data := x18.Data } : File)))] orcN ?_
    refine J_bind (fun x20 h21 => ?_)
    refine J_lendT (ix := s14.2.2) (enc := (File.enc true)) 0 1 1 h21 rfl rfl (by kernel_rfl) ?_
    refine J_wk [(0, rr 0 (s14.1.set s14.2.2.toNat ({ Path := x16, Data := x18.Data } : File))), (1, iv (w64 (s14.2.1 + 1))), (5, iv s14.2.2)] [(0, .lent 2 ((s14.1.set s14.2.2.toNat ({ Path := x16, Data := x18.Data } : File)).map (File.enc true)) s14.2.2.toNat 1 1 x20.Data.length), (1, rE 1 eU8 x20.Data)] (by kernel_rfl) ?_
    refine J_bind (fun x22 h23 => ?_)
    refine J_g 1683 [] [(0, rr 0 (s14.1.set s14.2.2.toNat ({ Path := x16, Data := x18.Data } : File))), (1, iv x22.1), (5, iv s14.2.2)] [(0, .lent 2 ((s14.1.set s14.2.2.toNat ({ Path := x16, Data := x18.Data } : File)).map (File.enc true)) s14.2.2.toNat 1 1 x20.Data.length), (1, rE 1 eU8 x22.2)] (orcC 2 (x_ixl (kk := .i64) 44 121 2 0 (File.enc true) (.tmp 20) (.tmp 21) s14.2.2.toNat 1 1 x20.Data.length h21) (orcC 4 (x_ldl 119 0 (.tmp 23) 2 (File.enc true) (s14.1.set s14.2.2.toNat ({ Path := x16, Data := x18.Data } : File)) s14.2.2.toNat 1 1 x20.Data.length) (orcC 6 (x_c1 («as» := [rr 1 x20.Data, iv (w64 (s14.2.1 + 1))]) [(.tmp 24), (.tmp 25)] [119, 3] false [(1, rE 1 eU8 x20.Data)] [1] (.cons (.rf rfl) (.cons (.same rfl) (.nil))) (laws_markByteSr.ok x20.Data (w64 (s14.2.1 + 1))) h23 (.same rfl rfl)) orcN))) ?_
    refine J_bind (fun u24 h25 => ?_)
    refine J_backT (ix := s14.2.2) (enc := (File.enc true)) (b := ({ Path := x20.Path, Data := x22.2 } : File)) 0 1 1 h21 rfl rfl rfl rfl (same_len h25) (Nat.le_of_ble_eq_true rfl) ((List.length_map _).trans (same_len h25)) ?_
    refine J_wk [(0, rr 0 (s14.1.set s14.2.2.toNat ({ Path := x16, Data := x18.Data } : File))), (1, iv x22.1), (5, iv s14.2.2)] [(0, rE 2 (File.enc true) ((s14.1.set s14.2.2.toNat ({ Path := x16, Data := x18.Data } : File)).set s14.2.2.toNat ({ Path := x20.Path, Data := x22.2 } : File)))] (by kernel_rfl) ?_
    refine J_st (σ' := St.mk' [(0, rr 0 ((s14.1.set s14.2.2.toNat ({ Path := x16, Data := x18.Data } : File)).set s14.2.2.toNat ({ Path := x20.Path, Data := x22.2 } : File))), (1, iv x22.1), (5, iv s14.2.2)] [(0, rE 2 (File.enc true) ((s14.1.set s14.2.2.toNat ({ Path := x16, Data := x18.Data } : File)).set s14.2.2.toNat ({ Path := x20.Path, Data := x22.2 } : File)))]) (by simp only [rr, List.length_set]) ?_
    refine J_g 211 [] [(0, rr 0 ((s14.1.set s14.2.2.toNat ({ Path := x16, Data := x18.Data } : File)).set s14.2.2.toNat ({ Path := x20.Path, Data := x22.2 } : File))), (1, iv x22.1), (5, iv (w64 (s14.2.2 + 1)))] [(0, rE 2 (File.enc true) ((s14.1.set s14.2.2.toNat ({ Path := x16, Data := x18.Data } : File)).set s14.2.2.toNat ({ Path := x20.Path, Data := x22.2 } : File)))] orcN ?_
    exact J_q (J_b (ih ((s14.1.set s14.2.2.toNat ({ Path := x16, Data := x18.Data } : File)).set s14.2.2.toNat ({ Path := x20.Path, Data := x22.2 } : File), x22.1, w64 (s14.2.2 + 1)))) rfl
  · exact J_qw (hk (s14.1, s14.2.1)) rfl

theorem laws_markFileSr.ok (a1 : (List File)) (a2 : Int) : Ok Tryz.prog 71 [rr 0 a1, iv a2] [rE 2 (File.enc true) a1] ((laws_markFileSr a1 a2).map fun r => (iv r.1, [rE 2 (File.enc true) r.2])) := by
  refine Ok_of3 c71 Tryz.f71 1 28 (fun q => ?_)
  unfold laws_markFileSr
  refine J_g 2 [] [(0, rr 0 a1), (1, iv a2)] [(0, rE 2 (File.enc true) a1)] orcN ?_
  refine J_g 12 [] [(0, rr 0 a1), (1, iv a2), (5, iv 0)] [(0, rE 2 (File.enc true) a1)] orcN ?_
  refine J_lq (laws_markFileSr_l1.ok q _ (fun v26 => J_j ?_) (a1, a2, 0))
  refine J_g 14 [] [(4, iv v26.2)] [(0, rE 2 (File.enc true) v26.1)] orcN ?_
  exact J_r1 rfl

noncomputable def c30 : Code := (Tryz.f30.body).getD .skip

theorem laws_markDiskg.ok (a1 : Disk) (a2 : Int) : Ok Tryz.prog 30 [.ag [rr 0 a1.Files, iv a1.Budget, iv a1.Writes, iv a1.Stop, bv a1.Down], iv a2] [rE 2 (File.enc true) a1.Files] ((laws_markDiskg a1 a2).map fun r => (iv r.1, [rE 2 (File.enc true) r.2])) := by
  refine Ok_of3 c30 Tryz.f30 1 10 (fun q => ?_)
  unfold laws_markDiskg
  refine J_g 2 [(0, 1)] [(1, iv a2), (2, pp 1)] [(0, rE 2 (File.enc true) a1.Files), (1, .box [rr 0 a1.Files, iv a1.Budget, iv a1.Writes, iv a1.Stop, bv a1.Down])] orcN ?_
  refine J_bind (fun x3 h4 => ?_)
  refine J_g 6 [] [(1, iv x3.1)] [(0, rE 2 (File.enc true) x3.2)] (orcC 3 (x_c1 («as» := [rr 0 a1.Files, iv a2]) [(.tmp 6), (.tmp 7)] [44, 3] false [(0, rE 2 (File.enc true) a1.Files)] [0] (.cons (.rf rfl) (.cons (.same rfl) (.nil))) (laws_markFileSr.ok a1.Files a2) h4 (.same rfl rfl)) orcN) ?_
  refine J_bind (fun u5 h6 => ?_)
  refine J_g 14 [] [(4, iv x3.1)] [(0, rE 2 (File.enc true) x3.2)] orcN ?_
  exact J_r1 rfl

noncomputable def c70 : Code := (Tryz.f70.body).getD .skip

theorem laws_markTermSr_l1.ok  (q : Wd) (kn : ((List Term) × Int) → Option (D × List Ent)) (hk : ∀ v : ((List Term) × Int), J (q.g Tryz.prog 70 1 69) c70 (atI c70 7) (St.mk' [(1, iv v.2)] [(0, rE 7 Term.enc v.1)]) (some v) kn) :
    ∀ s20 : ((List Term) × Int × Int), J (q.g Tryz.prog 70 1 69) c70 (atI c70 52) (St.mk' [(0, rr 0 s20.1), (1, iv s20.2.1), (5, iv s20.2.2)] [(0, rE 7 Term.enc s20.1)]) (laws_markTermSr_l1 s20) kn := by
  refine J_lp (fun g ih s20 => ?_)
  unfold laws_markTermSr_l1b
  refine J_g 208 [] [(0, rr 0 s20.1), (1, iv s20.2.1), (5, iv s20.2.2), (9, bv (decide (s20.2.2 < (s20.1.length : Int))))] [(0, rE 7 Term.enc s20.1)] orcN ?_
  refine J_if2 9 (fun h21 => ?_) (fun h21 => ?_)
  · refine J_bind (fun x22 h23 => ?_)
    refine J_bind (fun x24 h25 => ?_)
    refine J_g 840 [] [(0, rr 0 s20.1), (1, iv s20.2.1), (5, iv s20.2.2)] [(0, rE 7 Term.enc (s20.1.set s20.2.2.toNat ({ Name := x22, Low := x24.Low, High := x24.High } : Term)))] (orcC 3 (x_c0 [(.tmp 14)] [3] (laws_markText.ok s20.2.1) h23) (orcC 4 (x_ixr (kk := .i64) 31 89 7 0 Term.enc (.tmp 12) (.tmp 13) h25) (orcD 6 (x_st (b := ({ Name := x22, Low := x24.Low, High := x24.High } : Term)) 9 7 0 0 Term.enc (sv x22) (.tmp 17) (.tmp 15) h25 rfl) orcN))) ?_
    refine J_st (σ' := St.mk' [(0, rr 0 (s20.1.set s20.2.2.toNat ({ Name := x22, Low := x24.Low, High := x24.High } : Term))), (1, iv s20.2.1), (5, iv s20.2.2)] [(0, rE 7 Term.enc (s20.1.set s20.2.2.toNat ({ Name := x22, Low := x24.Low, High := x24.High } : Term)))]) (by simp only [rr, List.length_set]) ?_
    refine J_g 1682 [] [(0, rr 0 (s20.1.set s20.2.2.toNat ({ Name := x22, Low := x24.Low, High := x24.High } : Term))), (1, iv (w64 (s20.2.1 + 1))), (5, iv s20.2.2)] [(0, rE 7 Term.enc (s20.1.set s20.2.2.toNat ({ Name := x22, Low := x24.Low, High := x24.High } : Term)))] orcN ?_
    refine J_bind (fun x26 h27 => ?_)
    refine J_g 3366 [] [(0, rr 0 (s20.1.set s20.2.2.toNat ({ Name := x22, Low := x24.Low, High := x24.High } : Term))), (1, iv (w64 (s20.2.1 + 1))), (5, iv s20.2.2)] [(0, rE 7 Term.enc ((s20.1.set s20.2.2.toNat ({ Name := x22, Low := x24.Low, High := x24.High } : Term)).set s20.2.2.toNat ({ Name := x26.Name, Low := ({ A := w64 (s20.2.1 + 1), B := x26.Low.B, C := x26.Low.C } : Version), High := x26.High } : Term)))] (orcC 3 (x_ixr (kk := .i64) 31 89 7 0 Term.enc (.tmp 20) (.tmp 21) h27) (orcD 6 (x_st (b := ({ Name := x26.Name, Low := ({ A := w64 (s20.2.1 + 1), B := x26.Low.B, C := x26.Low.C } : Version), High := x26.High } : Term)) 2 7 0 1 Term.enc (iv (w64 (s20.2.1 + 1))) (.tmp 25) (.tmp 22) h27 rfl) orcN)) ?_
    refine J_st (σ' := St.mk' [(0, rr 0 ((s20.1.set s20.2.2.toNat ({ Name := x22, Low := x24.Low, High := x24.High } : Term)).set s20.2.2.toNat ({ Name := x26.Name, Low := ({ A := w64 (s20.2.1 + 1), B := x26.Low.B, C := x26.Low.C } : Version), High := x26.High } : Term))), (1, iv (w64 (s20.2.1 + 1))), (5, iv s20.2.2)] [(0, rE 7 Term.enc ((s20.1.set s20.2.2.toNat ({ Name := x22, Low := x24.Low, High := x24.High } : Term)).set s20.2.2.toNat ({ Name := x26.Name, Low := ({ A := w64 (s20.2.1 + 1), B := x26.Low.B, C := x26.Low.C } : Version), High := x26.High } : Term)))]) (by simp only [rr, List.length_set]) ?_
    refine J_g 6734 [] [(0, rr 0 ((s20.1.set s20.2.2.toNat ({ Name := x22, Low := x24.Low, High := x24.High } : Term)).set s20.2.2.toNat ({ Name := x26.Name, Low := ({ A := w64 (s20.2.1 + 1), B := x26.Low.B, C := x26.Low.C } : Version), High := x26.High } : Term))), (1, iv (w64 ((w64 (s20.2.1 + 1)) + 1))), (5, iv s20.2.2)] [(0, rE 7 Term.enc ((s20.1.set s20.2.2.toNat ({ Name := x22, Low := x24.Low, High := x24.High } : Term)).set s20.2.2.toNat ({ Name := x26.Name, Low := ({ A := w64 (s20.2.1 + 1), B := x26.Low.B, C := x26.Low.C } : Version), High := x26.High } : Term)))] orcN ?_
    refine J_bind (fun x28 h29 => ?_)
    refine J_g 13470 [] [(0, rr 0 ((s20.1.set s20.2.2.toNat ({ Name := x22, Low := x24.Low, High := x24.High } : Term)).set s20.2.2.toNat ({ Name := x26.Name, Low := ({ A := w64 (s20.2.1 + 1), B := x26.Low.B, C := x26.Low.C } : Version), High := x26.High } : Term))), (1, iv (w64 ((w64 (s20.2.1 + 1)) + 1))), (5, iv s20.2.2)] [(0, rE 7 Term.enc (((s20.1.set s20.2.2.toNat ({ Name := x22, Low := x24.Low, High := x24.High } : Term)).set s20.2.2.toNat ({ Name := x26.Name, Low := ({ A := w64 (s20.2.1 + 1), B := x26.Low.B, C := x26.Low.C } : Version), High := x26.High } : Term)).set s20.2.2.toNat ({ Name := x28.Name, Low := ({ A := x28.Low.A, B := w64 ((w64 (s20.2.1 + 1)) + 1), C := x28.Low.C } : Version), High := x28.High } : Term)))] (orcC 3 (x_ixr (kk := .i64) 31 89 7 0 Term.enc (.tmp 28) (.tmp 29) h29) (orcD 6 (x_st (b := ({ Name := x28.Name, Low := ({ A := x28.Low.A, B := w64 ((w64 (s20.2.1 + 1)) + 1), C := x28.Low.C } : Version), High := x28.High } : Term)) 2 7 0 2 Term.enc (iv (w64 ((w64 (s20.2.1 + 1)) + 1))) (.tmp 33) (.tmp 30) h29 rfl) orcN)) ?_
    refine J_st (σ' := St.mk' [(0, rr 0 (((s20.1.set s20.2.2.toNat ({ Name := x22, Low := x24.Low, High := x24.High } : Term)).set s20.2.2.toNat ({ Name := x26.Name, Low := ({ A := w64 (s20.2.1 + 1), B := x26.Low.B, C := x26.Low.C } : Version), High := x26.High } : Term)).set s20.2.2.toNat ({ Name := x28.Name, Low := ({ A := x28.Low.A, B := w64 ((w64 (s20.2.1 + 1)) + 1), C := x28.Low.C } : Version), High := x28.High } : Term))), (1, iv (w64 ((w64 (s20.2.1 + 1)) + 1))), (5, iv s20.2.2)] [(0, rE 7 Term.enc (((s20.1.set s20.2.2.toNat ({ Name := x22, Low := x24.Low, High := x24.High } : Term)).set s20.2.2.toNat ({ Name := x26.Name, Low := ({ A := w64 (s20.2.1 + 1), B := x26.Low.B, C := x26.Low.C } : Version), High := x26.High } : Term)).set s20.2.2.toNat ({ Name := x28.Name, Low := ({ A := x28.Low.A, B := w64 ((w64 (s20.2.1 + 1)) + 1), C := x28.Low.C } : Version), High := x28.High } : Term)))]) (by simp only [rr, List.length_set]) ?_
    refine J_g 26942 [] [(0, rr 0 (((s20.1.set s20.2.2.toNat ({ Name := x22, Low := x24.Low, High := x24.High } : Term)).set s20.2.2.toNat ({ Name := x26.Name, Low := ({ A := w64 (s20.2.1 + 1), B := x26.Low.B, C := x26.Low.C } : Version), High := x26.High } : Term)).set s20.2.2.toNat ({ Name := x28.Name, Low := ({ A := x28.Low.A, B := w64 ((w64 (s20.2.1 + 1)) + 1), C := x28.Low.C } : Version), High := x28.High } : Term))), (1, iv (w64 ((w64 ((w64 (s20.2.1 + 1)) + 1)) + 1))), (5, iv s20.2.2)] [(0, rE 7 Term.enc (((s20.1.set s20.2.2.toNat ({ Name := x22, Low := x24.Low, High := x24.High } : Term)).set s20.2.2.toNat ({ Name := x26.Name, Low := ({ A := w64 (s20.2.1 + 1), B := x26.Low.B, C := x26.Low.C } : Version), High := x26.High } : Term)).set s20.2.2.toNat ({ Name := x28.Name, Low := ({ A := x28.Low.A, B := w64 ((w64 (s20.2.1 + 1)) + 1), C := x28.Low.C } : Version), High := x28.High } : Term)))] orcN ?_
    refine J_bind (fun x30 h31 => ?_)
    refine J_g 53886 [] [(0, rr 0 (((s20.1.set s20.2.2.toNat ({ Name := x22, Low := x24.Low, High := x24.High } : Term)).set s20.2.2.toNat ({ Name := x26.Name, Low := ({ A := w64 (s20.2.1 + 1), B := x26.Low.B, C := x26.Low.C } : Version), High := x26.High } : Term)).set s20.2.2.toNat ({ Name := x28.Name, Low := ({ A := x28.Low.A, B := w64 ((w64 (s20.2.1 + 1)) + 1), C := x28.Low.C } : Version), High := x28.High } : Term))), (1, iv (w64 ((w64 ((w64 (s20.2.1 + 1)) + 1)) + 1))), (5, iv s20.2.2)] [(0, rE 7 Term.enc ((((s20.1.set s20.2.2.toNat ({ Name := x22, Low := x24.Low, High := x24.High } : Term)).set s20.2.2.toNat ({ Name := x26.Name, Low := ({ A := w64 (s20.2.1 + 1), B := x26.Low.B, C := x26.Low.C } : Version), High := x26.High } : Term)).set s20.2.2.toNat ({ Name := x28.Name, Low := ({ A := x28.Low.A, B := w64 ((w64 (s20.2.1 + 1)) + 1), C := x28.Low.C } : Version), High := x28.High } : Term)).set s20.2.2.toNat ({ Name := x30.Name, Low := ({ A := x30.Low.A, B := x30.Low.B, C := w64 ((w64 ((w64 (s20.2.1 + 1)) + 1)) + 1) } : Version), High := x30.High } : Term)))] (orcC 3 (x_ixr (kk := .i64) 31 89 7 0 Term.enc (.tmp 36) (.tmp 37) h31) (orcD 6 (x_st (b := ({ Name := x30.Name, Low := ({ A := x30.Low.A, B := x30.Low.B, C := w64 ((w64 ((w64 (s20.2.1 + 1)) + 1)) + 1) } : Version), High := x30.High } : Term)) 2 7 0 3 Term.enc (iv (w64 ((w64 ((w64 (s20.2.1 + 1)) + 1)) + 1))) (.tmp 41) (.tmp 38) h31 rfl) orcN)) ?_
    refine J_st (σ' := St.mk' [(0, rr 0 ((((s20.1.set s20.2.2.toNat ({ Name := x22, Low := x24.Low, High := x24.High } : Term)).set s20.2.2.toNat ({ Name := x26.Name, Low := ({ A := w64 (s20.2.1 + 1), B := x26.Low.B, C := x26.Low.C } : Version), High := x26.High } : Term)).set s20.2.2.toNat ({ Name := x28.Name, Low := ({ A := x28.Low.A, B := w64 ((w64 (s20.2.1 + 1)) + 1), C := x28.Low.C } : Version), High := x28.High } : Term)).set s20.2.2.toNat ({ Name := x30.Name, Low := ({ A := x30.Low.A, B := x30.Low.B, C := w64 ((w64 ((w64 (s20.2.1 + 1)) + 1)) + 1) } : Version), High := x30.High } : Term))), (1, iv (w64 ((w64 ((w64 (s20.2.1 + 1)) + 1)) + 1))), (5, iv s20.2.2)] [(0, rE 7 Term.enc ((((s20.1.set s20.2.2.toNat ({ Name := x22, Low := x24.Low, High := x24.High } : Term)).set s20.2.2.toNat ({ Name := x26.Name, Low := ({ A := w64 (s20.2.1 + 1), B := x26.Low.B, C := x26.Low.C } : Version), High := x26.High } : Term)).set s20.2.2.toNat ({ Name := x28.Name, Low := ({ A := x28.Low.A, B := w64 ((w64 (s20.2.1 + 1)) + 1), C := x28.Low.C } : Version), High := x28.High } : Term)).set s20.2.2.toNat ({ Name := x30.Name, Low := ({ A := x30.Low.A, B := x30.Low.B, C := w64 ((w64 ((w64 (s20.2.1 + 1)) + 1)) + 1) } : Version), High := x30.High } : Term)))]) (by simp only [rr, List.length_set]) ?_
    refine J_g 107774 [] [(0, rr 0 ((((s20.1.set s20.2.2.toNat ({ Name := x22, Low := x24.Low, High := x24.High } : Term)).set s20.2.2.toNat ({ Name := x26.Name, Low := ({ A := w64 (s20.2.1 + 1), B := x26.Low.B, C := x26.Low.C } : Version), High := x26.High } : Term)).set s20.2.2.toNat ({ Name := x28.Name, Low := ({ A := x28.Low.A, B := w64 ((w64 (s20.2.1 + 1)) + 1), C := x28.Low.C } : Version), High := x28.High } : Term)).set s20.2.2.toNat ({ Name := x30.Name, Low := ({ A := x30.Low.A, B := x30.Low.B, C := w64 ((w64 ((w64 (s20.2.1 + 1)) + 1)) + 1) } : Version), High := x30.High } : Term))), (1, iv (w64 ((w64 ((w64 ((w64 (s20.2.1 + 1)) + 1)) + 1)) + 1))), (5, iv s20.2.2)] [(0, rE 7 Term.enc ((((s20.1.set s20.2.2.toNat ({ Name := x22, Low := x24.Low, High := x24.High } : Term)).set s20.2.2.toNat ({ Name := x26.Name, Low := ({ A := w64 (s20.2.1 + 1), B := x26.Low.B, C := x26.Low.C } : Version), High := x26.High } : Term)).set s20.2.2.toNat ({ Name := x28.Name, Low := ({ A := x28.Low.A, B := w64 ((w64 (s20.2.1 + 1)) + 1), C := x28.Low.C } : Version), High := x28.High } : Term)).set s20.2.2.toNat ({ Name := x30.Name, Low := ({ A := x30.Low.A, B := x30.Low.B, C := w64 ((w64 ((w64 (s20.2.1 + 1)) + 1)) + 1) } : Version), High := x30.High } : Term)))] orcN ?_
    refine J_bind (fun x32 h33 => ?_)
    refine J_g 215550 [] [(0, rr 0 ((((s20.1.set s20.2.2.toNat ({ Name := x22, Low := x24.Low, High := x24.High } : Term)).set s20.2.2.toNat ({ Name := x26.Name, Low := ({ A := w64 (s20.2.1 + 1), B := x26.Low.B, C := x26.Low.C } : Version), High := x26.High } : Term)).set s20.2.2.toNat ({ Name := x28.Name, Low := ({ A := x28.Low.A, B := w64 ((w64 (s20.2.1 + 1)) + 1), C := x28.Low.C } : Version), High := x28.High } : Term)).set s20.2.2.toNat ({ Name := x30.Name, Low := ({ A := x30.Low.A, B := x30.Low.B, C := w64 ((w64 ((w64 (s20.2.1 + 1)) + 1)) + 1) } : Version), High := x30.High } : Term))), (1, iv (w64 ((w64 ((w64 ((w64 (s20.2.1 + 1)) + 1)) + 1)) + 1))), (5, iv s20.2.2)] [(0, rE 7 Term.enc (((((s20.1.set s20.2.2.toNat ({ Name := x22, Low := x24.Low, High := x24.High } : Term)).set s20.2.2.toNat ({ Name := x26.Name, Low := ({ A := w64 (s20.2.1 + 1), B := x26.Low.B, C := x26.Low.C } : Version), High := x26.High } : Term)).set s20.2.2.toNat ({ Name := x28.Name, Low := ({ A := x28.Low.A, B := w64 ((w64 (s20.2.1 + 1)) + 1), C := x28.Low.C } : Version), High := x28.High } : Term)).set s20.2.2.toNat ({ Name := x30.Name, Low := ({ A := x30.Low.A, B := x30.Low.B, C := w64 ((w64 ((w64 (s20.2.1 + 1)) + 1)) + 1) } : Version), High := x30.High } : Term)).set s20.2.2.toNat ({ Name := x32.Name, Low := x32.Low, High := ({ A := w64 ((w64 ((w64 ((w64 (s20.2.1 + 1)) + 1)) + 1)) + 1), B := x32.High.B, C := x32.High.C } : Version) } : Term)))] (orcC 3 (x_ixr (kk := .i64) 31 89 7 0 Term.enc (.tmp 44) (.tmp 45) h33) (orcD 6 (x_st (b := ({ Name := x32.Name, Low := x32.Low, High := ({ A := w64 ((w64 ((w64 ((w64 (s20.2.1 + 1)) + 1)) + 1)) + 1), B := x32.High.B, C := x32.High.C } : Version) } : Term)) 2 7 0 4 Term.enc (iv (w64 ((w64 ((w64 ((w64 (s20.2.1 + 1)) + 1)) + 1)) + 1))) (.tmp 49) (.tmp 46) h33 rfl) orcN)) ?_
    refine J_st (σ' := St.mk' [(0, rr 0 (((((s20.1.set s20.2.2.toNat ({ Name := x22, Low := x24.Low, High := x24.High } : Term)).set s20.2.2.toNat ({ Name := x26.Name, Low := ({ A := w64 (s20.2.1 + 1), B := x26.Low.B, C := x26.Low.C } : Version), High := x26.High } : Term)).set s20.2.2.toNat ({ Name := x28.Name, Low := ({ A := x28.Low.A, B := w64 ((w64 (s20.2.1 + 1)) + 1), C := x28.Low.C } : Version), High := x28.High } : Term)).set s20.2.2.toNat ({ Name := x30.Name, Low := ({ A := x30.Low.A, B := x30.Low.B, C := w64 ((w64 ((w64 (s20.2.1 + 1)) + 1)) + 1) } : Version), High := x30.High } : Term)).set s20.2.2.toNat ({ Name := x32.Name, Low := x32.Low, High := ({ A := w64 ((w64 ((w64 ((w64 (s20.2.1 + 1)) + 1)) + 1)) + 1), B := x32.High.B, C := x32.High.C } : Version) } : Term))), (1, iv (w64 ((w64 ((w64 ((w64 (s20.2.1 + 1)) + 1)) + 1)) + 1))), (5, iv s20.2.2)] [(0, rE 7 Term.enc (((((s20.1.set s20.2.2.toNat ({ Name := x22, Low := x24.Low, High := x24.High } : Term)).set s20.2.2.toNat ({ Name := x26.Name, Low := ({ A := w64 (s20.2.1 + 1), B := x26.Low.B, C := x26.Low.C } : Version), High := x26.High } : Term)).set s20.2.2.toNat ({ Name := x28.Name, Low := ({ A := x28.Low.A, B := w64 ((w64 (s20.2.1 + 1)) + 1), C := x28.Low.C } : Version), High := x28.High } : Term)).set s20.2.2.toNat ({ Name := x30.Name, Low := ({ A := x30.Low.A, B := x30.Low.B, C := w64 ((w64 ((w64 (s20.2.1 + 1)) + 1)) + 1) } : Version), High := x30.High } : Term)).set s20.2.2.toNat ({ Name := x32.Name, Low := x32.Low, High := ({ A := w64 ((w64 ((w64 ((w64 (s20.2.1 + 1)) + 1)) + 1)) + 1), B := x32.High.B, C := x32.High.C } : Version) } : Term)))]) (by simp only [rr, List.length_set]) ?_
    refine J_g 431102 [] [(0, rr 0 (((((s20.1.set s20.2.2.toNat ({ Name := x22, Low := x24.Low, High := x24.High } : Term)).set s20.2.2.toNat ({ Name := x26.Name, Low := ({ A := w64 (s20.2.1 + 1), B := x26.Low.B, C := x26.Low.C } : Version), High := x26.High } : Term)).set s20.2.2.toNat ({ Name := x28.Name, Low := ({ A := x28.Low.A, B := w64 ((w64 (s20.2.1 + 1)) + 1), C := x28.Low.C } : Version), High := x28.High } : Term)).set s20.2.2.toNat ({ Name := x30.Name, Low := ({ A := x30.Low.A, B := x30.Low.B, C := w64 ((w64 ((w64 (s20.2.1 + 1)) + 1)) + 1) } : Version), High := x30.High } : Term)).set s20.2.2.toNat ({ Name := x32.Name, Low := x32.Low, High := ({ A := w64 ((w64 ((w64 ((w64 (s20.2.1 + 1)) + 1)) + 1)) + 1), B := x32.High.B, C := x32.High.C } : Version) } : Term))), (1, iv (w64 ((w64 ((w64 ((w64 ((w64 (s20.2.1 + 1)) + 1)) + 1)) + 1)) + 1))), (5, iv s20.2.2)] [(0, rE 7 Term.enc (((((s20.1.set s20.2.2.toNat ({ Name := x22, Low := x24.Low, High := x24.High } : Term)).set s20.2.2.toNat ({ Name := x26.Name, Low := ({ A := w64 (s20.2.1 + 1), B := x26.Low.B, C := x26.Low.C } : Version), High := x26.High } : Term)).set s20.2.2.toNat ({ Name := x28.Name, Low := ({ A := x28.Low.A, B := w64 ((w64 (s20.2.1 + 1)) + 1), C := x28.Low.C } : Version), High := x28.High } : Term)).set s20.2.2.toNat ({ Name := x30.Name, Low := ({ A := x30.Low.A, B := x30.Low.B, C := w64 ((w64 ((w64 (s20.2.1 + 1)) + 1)) + 1) } : Version), High := x30.High } : Term)).set s20.2.2.toNat ({ Name := x32.Name, Low := x32.Low, High := ({ A := w64 ((w64 ((w64 ((w64 (s20.2.1 + 1)) + 1)) + 1)) + 1), B := x32.High.B, C := x32.High.C } : Version) } : Term)))] orcN ?_
    refine J_bind (fun x34 h35 => ?_)
    refine J_g 862206 [] [(0, rr 0 (((((s20.1.set s20.2.2.toNat ({ Name := x22, Low := x24.Low, High := x24.High } : Term)).set s20.2.2.toNat ({ Name := x26.Name, Low := ({ A := w64 (s20.2.1 + 1), B := x26.Low.B, C := x26.Low.C } : Version), High := x26.High } : Term)).set s20.2.2.toNat ({ Name := x28.Name, Low := ({ A := x28.Low.A, B := w64 ((w64 (s20.2.1 + 1)) + 1), C := x28.Low.C } : Version), High := x28.High } : Term)).set s20.2.2.toNat ({ Name := x30.Name, Low := ({ A := x30.Low.A, B := x30.Low.B, C := w64 ((w64 ((w64 (s20.2.1 + 1)) + 1)) + 1) } : Version), High := x30.High } : Term)).set s20.2.2.toNat ({ Name := x32.Name, Low := x32.Low, High := ({ A := w64 ((w64 ((w64 ((w64 (s20.2.1 + 1)) + 1)) + 1)) + 1), B := x32.High.B, C := x32.High.C } : Version) } : Term))), (1, iv (w64 ((w64 ((w64 ((w64 ((w64 (s20.2.1 + 1)) + 1)) + 1)) + 1)) + 1))), (5, iv s20.2.2)] [(0, rE 7 Term.enc ((((((s20.1.set s20.2.2.toNat ({ Name := x22, Low := x24.Low, High := x24.High } : Term)).set s20.2.2.toNat ({ Name := x26.Name, Low := ({ A := w64 (s20.2.1 + 1), B := x26.Low.B, C := x26.Low.C } : Version), High := x26.High } : Term)).set s20.2.2.toNat ({ Name := x28.Name, Low := ({ A := x28.Low.A, B := w64 ((w64 (s20.2.1 + 1)) + 1), C := x28.Low.C } : Version), High := x28.High } : Term)).set s20.2.2.toNat ({ Name := x30.Name, Low := ({ A := x30.Low.A, B := x30.Low.B, C := w64 ((w64 ((w64 (s20.2.1 + 1)) + 1)) + 1) } : Version), High := x30.High } : Term)).set s20.2.2.toNat ({ Name := x32.Name, Low := x32.Low, High := ({ A := w64 ((w64 ((w64 ((w64 (s20.2.1 + 1)) + 1)) + 1)) + 1), B := x32.High.B, C := x32.High.C } : Version) } : Term)).set s20.2.2.toNat ({ Name := x34.Name, Low := x34.Low, High := ({ A := x34.High.A, B := w64 ((w64 ((w64 ((w64 ((w64 (s20.2.1 + 1)) + 1)) + 1)) + 1)) + 1), C := x34.High.C } : Version) } : Term)))] (orcC 3 (x_ixr (kk := .i64) 31 89 7 0 Term.enc (.tmp 52) (.tmp 53) h35) (orcD 6 (x_st (b := ({ Name := x34.Name, Low := x34.Low, High := ({ A := x34.High.A, B := w64 ((w64 ((w64 ((w64 ((w64 (s20.2.1 + 1)) + 1)) + 1)) + 1)) + 1), C := x34.High.C } : Version) } : Term)) 2 7 0 5 Term.enc (iv (w64 ((w64 ((w64 ((w64 ((w64 (s20.2.1 + 1)) + 1)) + 1)) + 1)) + 1))) (.tmp 57) (.tmp 54) h35 rfl) orcN)) ?_
    refine J_st (σ' := St.mk' [(0, rr 0 ((((((s20.1.set s20.2.2.toNat ({ Name := x22, Low := x24.Low, High := x24.High } : Term)).set s20.2.2.toNat ({ Name := x26.Name, Low := ({ A := w64 (s20.2.1 + 1), B := x26.Low.B, C := x26.Low.C } : Version), High := x26.High } : Term)).set s20.2.2.toNat ({ Name := x28.Name, Low := ({ A := x28.Low.A, B := w64 ((w64 (s20.2.1 + 1)) + 1), C := x28.Low.C } : Version), High := x28.High } : Term)).set s20.2.2.toNat ({ Name := x30.Name, Low := ({ A := x30.Low.A, B := x30.Low.B, C := w64 ((w64 ((w64 (s20.2.1 + 1)) + 1)) + 1) } : Version), High := x30.High } : Term)).set s20.2.2.toNat ({ Name := x32.Name, Low := x32.Low, High := ({ A := w64 ((w64 ((w64 ((w64 (s20.2.1 + 1)) + 1)) + 1)) + 1), B := x32.High.B, C := x32.High.C } : Version) } : Term)).set s20.2.2.toNat ({ Name := x34.Name, Low := x34.Low, High := ({ A := x34.High.A, B := w64 ((w64 ((w64 ((w64 ((w64 (s20.2.1 + 1)) + 1)) + 1)) + 1)) + 1), C := x34.High.C } : Version) } : Term))), (1, iv (w64 ((w64 ((w64 ((w64 ((w64 (s20.2.1 + 1)) + 1)) + 1)) + 1)) + 1))), (5, iv s20.2.2)] [(0, rE 7 Term.enc ((((((s20.1.set s20.2.2.toNat ({ Name := x22, Low := x24.Low, High := x24.High } : Term)).set s20.2.2.toNat ({ Name := x26.Name, Low := ({ A := w64 (s20.2.1 + 1), B := x26.Low.B, C := x26.Low.C } : Version), High := x26.High } : Term)).set s20.2.2.toNat ({ Name := x28.Name, Low := ({ A := x28.Low.A, B := w64 ((w64 (s20.2.1 + 1)) + 1), C := x28.Low.C } : Version), High := x28.High } : Term)).set s20.2.2.toNat ({ Name := x30.Name, Low := ({ A := x30.Low.A, B := x30.Low.B, C := w64 ((w64 ((w64 (s20.2.1 + 1)) + 1)) + 1) } : Version), High := x30.High } : Term)).set s20.2.2.toNat ({ Name := x32.Name, Low := x32.Low, High := ({ A := w64 ((w64 ((w64 ((w64 (s20.2.1 + 1)) + 1)) + 1)) + 1), B := x32.High.B, C := x32.High.C } : Version) } : Term)).set s20.2.2.toNat ({ Name := x34.Name, Low := x34.Low, High := ({ A := x34.High.A, B := w64 ((w64 ((w64 ((w64 ((w64 (s20.2.1 + 1)) + 1)) + 1)) + 1)) + 1), C := x34.High.C } : Version) } : Term)))]) (by simp only [rr, List.length_set]) ?_
    refine J_g 1724414 [] [(0, rr 0 ((((((s20.1.set s20.2.2.toNat ({ Name := x22, Low := x24.Low, High := x24.High } : Term)).set s20.2.2.toNat ({ Name := x26.Name, Low := ({ A := w64 (s20.2.1 + 1), B := x26.Low.B, C := x26.Low.C } : Version), High := x26.High } : Term)).set s20.2.2.toNat ({ Name := x28.Name, Low := ({ A := x28.Low.A, B := w64 ((w64 (s20.2.1 + 1)) + 1), C := x28.Low.C } : Version), High := x28.High } : Term)).set s20.2.2.toNat ({ Name := x30.Name, Low := ({ A := x30.Low.A, B := x30.Low.B, C := w64 ((w64 ((w64 (s20.2.1 + 1)) + 1)) + 1) } : Version), High := x30.High } : Term)).set s20.2.2.toNat ({ Name := x32.Name, Low := x32.Low, High := ({ A := w64 ((w64 ((w64 ((w64 (s20.2.1 + 1)) + 1)) + 1)) + 1), B := x32.High.B, C := x32.High.C } : Version) } : Term)).set s20.2.2.toNat ({ Name := x34.Name, Low := x34.Low, High := ({ A := x34.High.A, B := w64 ((w64 ((w64 ((w64 ((w64 (s20.2.1 + 1)) + 1)) + 1)) + 1)) + 1), C := x34.High.C } : Version) } : Term))), (1, iv (w64 ((w64 ((w64 ((w64 ((w64 ((w64 (s20.2.1 + 1)) + 1)) + 1)) + 1)) + 1)) + 1))), (5, iv s20.2.2)] [(0, rE 7 Term.enc ((((((s20.1.set s20.2.2.toNat ({ Name := x22, Low := x24.Low, High := x24.High } : Term)).set s20.2.2.toNat ({ Name := x26.Name, Low := ({ A := w64 (s20.2.1 + 1), B := x26.Low.B, C := x26.Low.C } : Version), High := x26.High } : Term)).set s20.2.2.toNat ({ Name := x28.Name, Low := ({ A := x28.Low.A, B := w64 ((w64 (s20.2.1 + 1)) + 1), C := x28.Low.C } : Version), High := x28.High } : Term)).set s20.2.2.toNat ({ Name := x30.Name, Low := ({ A := x30.Low.A, B := x30.Low.B, C := w64 ((w64 ((w64 (s20.2.1 + 1)) + 1)) + 1) } : Version), High := x30.High } : Term)).set s20.2.2.toNat ({ Name := x32.Name, Low := x32.Low, High := ({ A := w64 ((w64 ((w64 ((w64 (s20.2.1 + 1)) + 1)) + 1)) + 1), B := x32.High.B, C := x32.High.C } : Version) } : Term)).set s20.2.2.toNat ({ Name := x34.Name, Low := x34.Low, High := ({ A := x34.High.A, B := w64 ((w64 ((w64 ((w64 ((w64 (s20.2.1 + 1)) + 1)) + 1)) + 1)) + 1), C := x34.High.C } : Version) } : Term)))] orcN ?_
    refine J_bind (fun x36 h37 => ?_)
    refine J_g 3448830 [] [(0, rr 0 ((((((s20.1.set s20.2.2.toNat ({ Name := x22, Low := x24.Low, High := x24.High } : Term)).set s20.2.2.toNat ({ Name := x26.Name, Low := ({ A := w64 (s20.2.1 + 1), B := x26.Low.B, C := x26.Low.C } : Version), High := x26.High } : Term)).set s20.2.2.toNat ({ Name := x28.Name, Low := ({ A := x28.Low.A, B := w64 ((w64 (s20.2.1 + 1)) + 1), C := x28.Low.C } : Version), High := x28.High } : Term)).set s20.2.2.toNat ({ Name := x30.Name, Low := ({ A := x30.Low.A, B := x30.Low.B, C := w64 ((w64 ((w64 (s20.2.1 + 1)) + 1)) + 1) } : Version), High := x30.High } : Term)).set s20.2.2.toNat ({ Name := x32.Name, Low := x32.Low, High := ({ A := w64 ((w64 ((w64 ((w64 (s20.2.1 + 1)) + 1)) + 1)) + 1), B := x32.High.B, C := x32.High.C } : Version) } : Term)).set s20.2.2.toNat ({ Name := x34.Name, Low := x34.Low, High := ({ A := x34.High.A, B := w64 ((w64 ((w64 ((w64 ((w64 (s20.2.1 + 1)) + 1)) + 1)) + 1)) + 1), C := x34.High.C } : Version) } : Term))), (1, iv (w64 ((w64 ((w64 ((w64 ((w64 ((w64 (s20.2.1 + 1)) + 1)) + 1)) + 1)) + 1)) + 1))), (5, iv s20.2.2)] [(0, rE 7 Term.enc (((((((s20.1.set s20.2.2.toNat ({ Name := x22, Low := x24.Low, High := x24.High } : Term)).set s20.2.2.toNat ({ Name := x26.Name, Low := ({ A := w64 (s20.2.1 + 1), B := x26.Low.B, C := x26.Low.C } : Version), High := x26.High } : Term)).set s20.2.2.toNat ({ Name := x28.Name, Low := ({ A := x28.Low.A, B := w64 ((w64 (s20.2.1 + 1)) + 1), C := x28.Low.C } : Version), High := x28.High } : Term)).set s20.2.2.toNat ({ Name := x30.Name, Low := ({ A := x30.Low.A, B := x30.Low.B, C := w64 ((w64 ((w64 (s20.2.1 + 1)) + 1)) + 1) } : Version), High := x30.High } : Term)).set s20.2.2.toNat ({ Name := x32.Name, Low := x32.Low, High := ({ A := w64 ((w64 ((w64 ((w64 (s20.2.1 + 1)) + 1)) + 1)) + 1), B := x32.High.B, C := x32.High.C } : Version) } : Term)).set s20.2.2.toNat ({ Name := x34.Name, Low := x34.Low, High := ({ A := x34.High.A, B := w64 ((w64 ((w64 ((w64 ((w64 (s20.2.1 + 1)) + 1)) + 1)) + 1)) + 1), C := x34.High.C } : Version) } : Term)).set s20.2.2.toNat ({ Name := x36.Name, Low := x36.Low, High := ({ A := x36.High.A, B := x36.High.B, C := w64 ((w64 ((w64 ((w64 ((w64 ((w64 (s20.2.1 + 1)) + 1)) + 1)) + 1)) + 1)) + 1) } : Version) } : Term)))] (orcC 3 (x_ixr (kk := .i64) 31 89 7 0 Term.enc (.tmp 60) (.tmp 61) h37) (orcD 6 (x_st (b := ({ Name := x36.Name, Low := x36.Low, High := ({ A := x36.High.A, B := x36.High.B, C := w64 ((w64 ((w64 ((w64 ((w64 ((w64 (s20.2.1 + 1)) + 1)) + 1)) + 1)) + 1)) + 1) } : Version) } : Term)) 2 7 0 6 Term.enc (iv (w64 ((w64 ((w64 ((w64 ((w64 ((w64 (s20.2.1 + 1)) + 1)) + 1)) + 1)) + 1)) + 1))) (.tmp 65) (.tmp 62) h37 rfl) orcN)) ?_
    refine J_st (σ' := St.mk' [(0, rr 0 (((((((s20.1.set s20.2.2.toNat ({ Name := x22, Low := x24.Low, High := x24.High } : Term)).set s20.2.2.toNat ({ Name := x26.Name, Low := ({ A := w64 (s20.2.1 + 1), B := x26.Low.B, C := x26.Low.C } : Version), High := x26.High } : Term)).set s20.2.2.toNat ({ Name := x28.Name, Low := ({ A := x28.Low.A, B := w64 ((w64 (s20.2.1 + 1)) + 1), C := x28.Low.C } : Version), High := x28.High } : Term)).set s20.2.2.toNat ({ Name := x30.Name, Low := ({ A := x30.Low.A, B := x30.Low.B, C := w64 ((w64 ((w64 (s20.2.1 + 1)) + 1)) + 1) } : Version), High := x30.High } : Term)).set s20.2.2.toNat ({ Name := x32.Name, Low := x32.Low, High := ({ A := w64 ((w64 ((w64 ((w64 (s20.2.1 + 1)) + 1)) + 1)) + 1), B := x32.High.B, C := x32.High.C } : Version) } : Term)).set s20.2.2.toNat ({ Name := x34.Name, Low := x34.Low, High := ({ A := x34.High.A, B := w64 ((w64 ((w64 ((w64 ((w64 (s20.2.1 + 1)) + 1)) + 1)) + 1)) + 1), C := x34.High.C } : Version) } : Term)).set s20.2.2.toNat ({ Name := x36.Name, Low := x36.Low, High := ({ A := x36.High.A, B := x36.High.B, C := w64 ((w64 ((w64 ((w64 ((w64 ((w64 (s20.2.1 + 1)) + 1)) + 1)) + 1)) + 1)) + 1) } : Version) } : Term))), (1, iv (w64 ((w64 ((w64 ((w64 ((w64 ((w64 (s20.2.1 + 1)) + 1)) + 1)) + 1)) + 1)) + 1))), (5, iv s20.2.2)] [(0, rE 7 Term.enc (((((((s20.1.set s20.2.2.toNat ({ Name := x22, Low := x24.Low, High := x24.High } : Term)).set s20.2.2.toNat ({ Name := x26.Name, Low := ({ A := w64 (s20.2.1 + 1), B := x26.Low.B, C := x26.Low.C } : Version), High := x26.High } : Term)).set s20.2.2.toNat ({ Name := x28.Name, Low := ({ A := x28.Low.A, B := w64 ((w64 (s20.2.1 + 1)) + 1), C := x28.Low.C } : Version), High := x28.High } : Term)).set s20.2.2.toNat ({ Name := x30.Name, Low := ({ A := x30.Low.A, B := x30.Low.B, C := w64 ((w64 ((w64 (s20.2.1 + 1)) + 1)) + 1) } : Version), High := x30.High } : Term)).set s20.2.2.toNat ({ Name := x32.Name, Low := x32.Low, High := ({ A := w64 ((w64 ((w64 ((w64 (s20.2.1 + 1)) + 1)) + 1)) + 1), B := x32.High.B, C := x32.High.C } : Version) } : Term)).set s20.2.2.toNat ({ Name := x34.Name, Low := x34.Low, High := ({ A := x34.High.A, B := w64 ((w64 ((w64 ((w64 ((w64 (s20.2.1 + 1)) + 1)) + 1)) + 1)) + 1), C := x34.High.C } : Version) } : Term)).set s20.2.2.toNat ({ Name := x36.Name, Low := x36.Low, High := ({ A := x36.High.A, B := x36.High.B, C := w64 ((w64 ((w64 ((w64 ((w64 ((w64 (s20.2.1 + 1)) + 1)) + 1)) + 1)) + 1)) + 1) } : Version) } : Term)))]) (by simp only [rr, List.length_set]) ?_
    refine J_g 3448831 [] [(0, rr 0 (((((((s20.1.set s20.2.2.toNat ({ Name := x22, Low := x24.Low, High := x24.High } : Term)).set s20.2.2.toNat ({ Name := x26.Name, Low := ({ A := w64 (s20.2.1 + 1), B := x26.Low.B, C := x26.Low.C } : Version), High := x26.High } : Term)).set s20.2.2.toNat ({ Name := x28.Name, Low := ({ A := x28.Low.A, B := w64 ((w64 (s20.2.1 + 1)) + 1), C := x28.Low.C } : Version), High := x28.High } : Term)).set s20.2.2.toNat ({ Name := x30.Name, Low := ({ A := x30.Low.A, B := x30.Low.B, C := w64 ((w64 ((w64 (s20.2.1 + 1)) + 1)) + 1) } : Version), High := x30.High } : Term)).set s20.2.2.toNat ({ Name := x32.Name, Low := x32.Low, High := ({ A := w64 ((w64 ((w64 ((w64 (s20.2.1 + 1)) + 1)) + 1)) + 1), B := x32.High.B, C := x32.High.C } : Version) } : Term)).set s20.2.2.toNat ({ Name := x34.Name, Low := x34.Low, High := ({ A := x34.High.A, B := w64 ((w64 ((w64 ((w64 ((w64 (s20.2.1 + 1)) + 1)) + 1)) + 1)) + 1), C := x34.High.C } : Version) } : Term)).set s20.2.2.toNat ({ Name := x36.Name, Low := x36.Low, High := ({ A := x36.High.A, B := x36.High.B, C := w64 ((w64 ((w64 ((w64 ((w64 ((w64 (s20.2.1 + 1)) + 1)) + 1)) + 1)) + 1)) + 1) } : Version) } : Term))), (1, iv (w64 ((w64 ((w64 ((w64 ((w64 ((w64 ((w64 (s20.2.1 + 1)) + 1)) + 1)) + 1)) + 1)) + 1)) + 1))), (5, iv s20.2.2)] [(0, rE 7 Term.enc (((((((s20.1.set s20.2.2.toNat ({ Name := x22, Low := x24.Low, High := x24.High } : Term)).set s20.2.2.toNat ({ Name := x26.Name, Low := ({ A := w64 (s20.2.1 + 1), B := x26.Low.B, C := x26.Low.C } : Version), High := x26.High } : Term)).set s20.2.2.toNat ({ Name := x28.Name, Low := ({ A := x28.Low.A, B := w64 ((w64 (s20.2.1 + 1)) + 1), C := x28.Low.C } : Version), High := x28.High } : Term)).set s20.2.2.toNat ({ Name := x30.Name, Low := ({ A := x30.Low.A, B := x30.Low.B, C := w64 ((w64 ((w64 (s20.2.1 + 1)) + 1)) + 1) } : Version), High := x30.High } : Term)).set s20.2.2.toNat ({ Name := x32.Name, Low := x32.Low, High := ({ A := w64 ((w64 ((w64 ((w64 (s20.2.1 + 1)) + 1)) + 1)) + 1), B := x32.High.B, C := x32.High.C } : Version) } : Term)).set s20.2.2.toNat ({ Name := x34.Name, Low := x34.Low, High := ({ A := x34.High.A, B := w64 ((w64 ((w64 ((w64 ((w64 (s20.2.1 + 1)) + 1)) + 1)) + 1)) + 1), C := x34.High.C } : Version) } : Term)).set s20.2.2.toNat ({ Name := x36.Name, Low := x36.Low, High := ({ A := x36.High.A, B := x36.High.B, C := w64 ((w64 ((w64 ((w64 ((w64 ((w64 (s20.2.1 + 1)) + 1)) + 1)) + 1)) + 1)) + 1) } : Version) } : Term)))] orcN ?_
    refine J_g 211 [] [(0, rr 0 (((((((s20.1.set s20.2.2.toNat ({ Name := x22, Low := x24.Low, High := x24.High } : Term)).set s20.2.2.toNat ({ Name := x26.Name, Low := ({ A := w64 (s20.2.1 + 1), B := x26.Low.B, C := x26.Low.C } : Version), High := x26.High } : Term)).set s20.2.2.toNat ({ Name := x28.Name, Low := ({ A := x28.Low.A, B := w64 ((w64 (s20.2.1 + 1)) + 1), C := x28.Low.C } : Version), High := x28.High } : Term)).set s20.2.2.toNat ({ Name := x30.Name, Low := ({ A := x30.Low.A, B := x30.Low.B, C := w64 ((w64 ((w64 (s20.2.1 + 1)) + 1)) + 1) } : Version), High := x30.High } : Term)).set s20.2.2.toNat ({ Name := x32.Name, Low := x32.Low, High := ({ A := w64 ((w64 ((w64 ((w64 (s20.2.1 + 1)) + 1)) + 1)) + 1), B := x32.High.B, C := x32.High.C } : Version) } : Term)).set s20.2.2.toNat ({ Name := x34.Name, Low := x34.Low, High := ({ A := x34.High.A, B := w64 ((w64 ((w64 ((w64 ((w64 (s20.2.1 + 1)) + 1)) + 1)) + 1)) + 1), C := x34.High.C } : Version) } : Term)).set s20.2.2.toNat ({ Name := x36.Name, Low := x36.Low, High := ({ A := x36.High.A, B := x36.High.B, C := w64 ((w64 ((w64 ((w64 ((w64 ((w64 (s20.2.1 + 1)) + 1)) + 1)) + 1)) + 1)) + 1) } : Version) } : Term))), (1, iv (w64 ((w64 ((w64 ((w64 ((w64 ((w64 ((w64 (s20.2.1 + 1)) + 1)) + 1)) + 1)) + 1)) + 1)) + 1))), (5, iv (w64 (s20.2.2 + 1)))] [(0, rE 7 Term.enc (((((((s20.1.set s20.2.2.toNat ({ Name := x22, Low := x24.Low, High := x24.High } : Term)).set s20.2.2.toNat ({ Name := x26.Name, Low := ({ A := w64 (s20.2.1 + 1), B := x26.Low.B, C := x26.Low.C } : Version), High := x26.High } : Term)).set s20.2.2.toNat ({ Name := x28.Name, Low := ({ A := x28.Low.A, B := w64 ((w64 (s20.2.1 + 1)) + 1), C := x28.Low.C } : Version), High := x28.High } : Term)).set s20.2.2.toNat ({ Name := x30.Name, Low := ({ A := x30.Low.A, B := x30.Low.B, C := w64 ((w64 ((w64 (s20.2.1 + 1)) + 1)) + 1) } : Version), High := x30.High } : Term)).set s20.2.2.toNat ({ Name := x32.Name, Low := x32.Low, High := ({ A := w64 ((w64 ((w64 ((w64 (s20.2.1 + 1)) + 1)) + 1)) + 1), B := x32.High.B, C := x32.High.C } : Version) } : Term)).set s20.2.2.toNat ({ Name := x34.Name, Low := x34.Low, High := ({ A := x34.High.A, B := w64 ((w64 ((w64 ((w64 ((w64 (s20.2.1 + 1)) + 1)) + 1)) + 1)) + 1), C := x34.High.C } : Version) } : Term)).set s20.2.2.toNat ({ Name := x36.Name, Low := x36.Low, High := ({ A := x36.High.A, B := x36.High.B, C := w64 ((w64 ((w64 ((w64 ((w64 ((w64 (s20.2.1 + 1)) + 1)) + 1)) + 1)) + 1)) + 1) } : Version) } : Term)))] orcN ?_
    exact J_q (J_b (ih (((((((s20.1.set s20.2.2.toNat ({ Name := x22, Low := x24.Low, High := x24.High } : Term)).set s20.2.2.toNat ({ Name := x26.Name, Low := ({ A := w64 (s20.2.1 + 1), B := x26.Low.B, C := x26.Low.C } : Version), High := x26.High } : Term)).set s20.2.2.toNat ({ Name := x28.Name, Low := ({ A := x28.Low.A, B := w64 ((w64 (s20.2.1 + 1)) + 1), C := x28.Low.C } : Version), High := x28.High } : Term)).set s20.2.2.toNat ({ Name := x30.Name, Low := ({ A := x30.Low.A, B := x30.Low.B, C := w64 ((w64 ((w64 (s20.2.1 + 1)) + 1)) + 1) } : Version), High := x30.High } : Term)).set s20.2.2.toNat ({ Name := x32.Name, Low := x32.Low, High := ({ A := w64 ((w64 ((w64 ((w64 (s20.2.1 + 1)) + 1)) + 1)) + 1), B := x32.High.B, C := x32.High.C } : Version) } : Term)).set s20.2.2.toNat ({ Name := x34.Name, Low := x34.Low, High := ({ A := x34.High.A, B := w64 ((w64 ((w64 ((w64 ((w64 (s20.2.1 + 1)) + 1)) + 1)) + 1)) + 1), C := x34.High.C } : Version) } : Term)).set s20.2.2.toNat ({ Name := x36.Name, Low := x36.Low, High := ({ A := x36.High.A, B := x36.High.B, C := w64 ((w64 ((w64 ((w64 ((w64 ((w64 (s20.2.1 + 1)) + 1)) + 1)) + 1)) + 1)) + 1) } : Version) } : Term), w64 ((w64 ((w64 ((w64 ((w64 ((w64 ((w64 (s20.2.1 + 1)) + 1)) + 1)) + 1)) + 1)) + 1)) + 1), w64 (s20.2.2 + 1)))) rfl
  · exact J_qw (hk (s20.1, s20.2.1)) rfl

theorem laws_markTermSr.ok (a1 : (List Term)) (a2 : Int) : Ok Tryz.prog 70 [rr 0 a1, iv a2] [rE 7 Term.enc a1] ((laws_markTermSr a1 a2).map fun r => (iv r.1, [rE 7 Term.enc r.2])) := by
  refine Ok_of3 c70 Tryz.f70 1 69 (fun q => ?_)
  unfold laws_markTermSr
  refine J_g 2 [] [(0, rr 0 a1), (1, iv a2)] [(0, rE 7 Term.enc a1)] orcN ?_
  refine J_g 12 [] [(0, rr 0 a1), (1, iv a2), (5, iv 0)] [(0, rE 7 Term.enc a1)] orcN ?_
  refine J_lq (laws_markTermSr_l1.ok q _ (fun v38 => J_j ?_) (a1, a2, 0))
  refine J_g 14 [] [(4, iv v38.2)] [(0, rE 7 Term.enc v38.1)] orcN ?_
  exact J_r1 rfl

noncomputable def c37 : Code := (Tryz.f37.body).getD .skip

theorem laws_markAsksResultg.ok (a1 : AsksResult) (a2 : Int) : Ok Tryz.prog 37 [.ag [iv a1.Code, rr 0 a1.Asks], iv a2] [rE 7 Term.enc a1.Asks] ((laws_markAsksResultg a1 a2).map fun r => (iv r.1, [rE 7 Term.enc r.2])) := by
  refine Ok_of3 c37 Tryz.f37 1 10 (fun q => ?_)
  unfold laws_markAsksResultg
  refine J_g 2 [(0, 1)] [(1, iv a2), (2, pp 1)] [(0, rE 7 Term.enc a1.Asks), (1, .box [iv a1.Code, rr 0 a1.Asks])] orcN ?_
  refine J_bind (fun x3 h4 => ?_)
  refine J_g 6 [] [(1, iv x3.1)] [(0, rE 7 Term.enc x3.2)] (orcC 3 (x_c1 («as» := [rr 0 a1.Asks, iv a2]) [(.tmp 6), (.tmp 7)] [31, 3] false [(0, rE 7 Term.enc a1.Asks)] [0] (.cons (.rf rfl) (.cons (.same rfl) (.nil))) (laws_markTermSr.ok a1.Asks a2) h4 (.same rfl rfl)) orcN) ?_
  refine J_bind (fun u5 h6 => ?_)
  refine J_g 14 [] [(4, iv x3.1)] [(0, rE 7 Term.enc x3.2)] orcN ?_
  exact J_r1 rfl

end Go.Told

import Derived.Test.YtbifnchjphefeaaToldKeptGens
import Derived.Test.YtbifnchjphefeaaShelf
import Derived.Test.YtbifnchjphefeaaProg
set_option linter.unusedVariables false
set_option maxRecDepth 4000
namespace Go.Told
open Go Go.Im Go.Proofs

noncomputable def c96 : Code := (Try.f96.body).getD .skip

theorem laws_szByteS.ok (a1 : (List Int)) (a2 : Int) : Ok Try.prog 96 [sl 1 eU8 a1, iv a2] [] ((laws_szByteS a1 a2).map fun r => (iv r, [])) := by
  refine Ok_of3 c96 Try.f96 0 12 (fun q => ?_)
  unfold laws_szByteS
  refine J_g 2 [] [(0, sl 1 eU8 a1), (1, iv a2)] [] orcN ?_
  refine J_g 6 [] [(1, iv (w64 (a2 - (a1.length : Int))))] [] orcN ?_
  refine J_g 28 [] [(1, iv (w64 (a2 - (a1.length : Int)))), (10, bv (decide ((w64 (a2 - (a1.length : Int))) < 0)))] [] orcN ?_
  refine J_if2 10 (fun h3 => ?_) (fun h3 => ?_)
  · refine J_g 116 [] [(4, iv (-1))] [] orcN ?_
    exact J_r1 rfl
  · refine J_g 30 [] [(4, iv (w64 (a2 - (a1.length : Int))))] [] orcN ?_
    exact J_r1 rfl

noncomputable def c59 : Code := (Try.f59.body).getD .skip

theorem laws_szFile.ok (a1 : File) (a2 : Int) : Ok Try.prog 59 [.ag (File.enc false a1), iv a2] [] ((laws_szFile a1 a2).map fun r => (iv r, [])) := by
  refine Ok_of3 c59 Try.f59 0 19 (fun q => ?_)
  unfold laws_szFile
  refine J_g 2 [(0, 0)] [(1, iv a2), (2, pp 0)] [(0, .box (File.enc false a1))] orcN ?_
  refine J_g 6 [] [(1, iv (w64 (a2 - (a1.Path.size : Int)))), (2, pp 0)] [(0, .box (File.enc false a1))] orcN ?_
  refine J_g 28 [] [(1, iv (w64 (a2 - (a1.Path.size : Int)))), (2, pp 0), (11, bv (decide ((w64 (a2 - (a1.Path.size : Int))) < 0)))] [(0, .box (File.enc false a1))] orcN ?_
  refine J_if2 11 (fun h3 => ?_) (fun h3 => ?_)
  · refine J_g 116 [] [(4, iv (-1))] [] orcN ?_
    exact J_r1 rfl
  · refine J_bind (fun x4 h5 => ?_)
    refine J_g 30 [] [(1, iv x4)] [] (orcC 3 (x_c0 [(.tmp 13), (.tmp 14)] [94, 3] (laws_szByteS.ok a1.Data (w64 (a2 - (a1.Path.size : Int)))) h5) orcN) ?_
    refine J_g 124 [] [(1, iv x4), (17, bv (decide (x4 < 0)))] [] orcN ?_
    refine J_if2 17 (fun h6 => ?_) (fun h6 => ?_)
    · refine J_g 500 [] [(4, iv (-1))] [] orcN ?_
      exact J_r1 rfl
    · refine J_g 126 [] [(4, iv x4)] [] orcN ?_
      exact J_r1 rfl

noncomputable def c34 : Code := (Try.f34.body).getD .skip

theorem laws_szFileS_l1.ok (a1 : (List File)) (q : Wd) (kn : Int → Option (D × List Ent)) (hk : ∀ v : Int, J (q.g Try.prog 34 0 27) c34 (atI c34 31) (St.mk' [(1, iv v)] []) (some v) kn) :
    ∀ s10 : (Int × Int), J (q.g Try.prog 34 0 27) c34 (atI c34 244) (St.mk' [(0, sl 2 (File.enc false) a1), (1, iv s10.1), (5, iv s10.2)] []) (laws_szFileS_l1 a1 s10) (Fl.go (fun r : Int => some (iv r, [])) kn) := by
  refine J_lp (fun g ih s10 => ?_)
  unfold laws_szFileS_l1b
  refine J_g 976 [] [(0, sl 2 (File.enc false) a1), (1, iv s10.1), (5, iv s10.2), (15, bv (decide (s10.2 < (a1.length : Int))))] [] orcN ?_
  refine J_if2 15 (fun h11 => ?_) (fun h11 => ?_)
  · refine J_bind (fun x12 h13 => ?_)
    refine J_bind (fun x14 h15 => ?_)
    refine J_g 3912 [] [(0, sl 2 (File.enc false) a1), (1, iv x14), (5, iv s10.2)] [] (orcC 2 (x_ix (kk := .i64) 36 96 2 (File.enc false) (.tmp 18) (.tmp 19) h13) (orcC 5 (x_c0 [(.tmp 21), (.tmp 22)] [96, 3] (laws_szFile.ok x12 s10.1) h15) orcN)) ?_
    refine J_g 7826 [] [(0, sl 2 (File.enc false) a1), (1, iv x14), (5, iv s10.2), (25, bv (decide (x14 < 0)))] [] orcN ?_
    refine J_if2 25 (fun h16 => ?_) (fun h16 => ?_)
    · refine J_g 31308 [] [(4, iv (-1))] [] orcN ?_
      exact J_r1 rfl
    · refine J_g 979 [] [(0, sl 2 (File.enc false) a1), (1, iv x14), (5, iv (w64 (s10.2 + 1)))] [] orcN ?_
      exact J_q (J_b (ih (x14, w64 (s10.2 + 1)))) rfl
  · exact J_qw (hk s10.1) rfl

theorem laws_szFileS.ok (a1 : (List File)) (a2 : Int) : Ok Try.prog 34 [sl 2 (File.enc false) a1, iv a2] [] ((laws_szFileS a1 a2).map fun r => (iv r, [])) := by
  refine Ok_of3 c34 Try.f34 0 27 (fun q => ?_)
  unfold laws_szFileS
  refine J_g 2 [] [(0, sl 2 (File.enc false) a1), (1, iv a2)] [] orcN ?_
  refine J_g 6 [] [(0, sl 2 (File.enc false) a1), (1, iv (w64 (a2 - (a1.length : Int))))] [] orcN ?_
  refine J_g 28 [] [(0, sl 2 (File.enc false) a1), (1, iv (w64 (a2 - (a1.length : Int)))), (11, bv (decide ((w64 (a2 - (a1.length : Int))) < 0)))] [] orcN ?_
  refine J_if2 11 (fun h3 => ?_) (fun h3 => ?_)
  · refine J_g 116 [] [(4, iv (-1))] [] orcN ?_
    exact J_r1 rfl
  · refine J_g 60 [] [(0, sl 2 (File.enc false) a1), (1, iv (w64 (a2 - (a1.length : Int)))), (5, iv 0)] [] orcN ?_
    refine J_lqF (K0 := (fun r : Int => some (iv r, []))) (fun _ => rfl) (laws_szFileS_l1.ok a1 q _ (fun v17 => J_j ?_) (w64 (a2 - (a1.length : Int)), 0))
    refine J_g 62 [] [(4, iv v17)] [] orcN ?_
    exact J_r1 rfl

noncomputable def c15 : Code := (Try.f15.body).getD .skip

theorem laws_szDisk.ok (a1 : Disk) (a2 : Int) : Ok Try.prog 15 [.ag (Disk.enc false a1), iv a2] [] ((laws_szDisk a1 a2).map fun r => (iv r, [])) := by
  refine Ok_of3 c15 Try.f15 0 12 (fun q => ?_)
  unfold laws_szDisk
  refine J_g 2 [(0, 0)] [(1, iv a2), (2, pp 0)] [(0, .box (Disk.enc false a1))] orcN ?_
  refine J_bind (fun x3 h4 => ?_)
  refine J_g 6 [] [(1, iv x3)] [] (orcC 3 (x_c0 [(.tmp 6), (.tmp 7)] [36, 3] (laws_szFileS.ok a1.Files a2) h4) orcN) ?_
  refine J_g 28 [] [(1, iv x3), (10, bv (decide (x3 < 0)))] [] orcN ?_
  refine J_if2 10 (fun h5 => ?_) (fun h5 => ?_)
  · refine J_g 116 [] [(4, iv (-1))] [] orcN ?_
    exact J_r1 rfl
  · refine J_g 30 [] [(4, iv x3)] [] orcN ?_
    exact J_r1 rfl

noncomputable def c102 : Code := (Try.f102.body).getD .skip

theorem laws_toByteS_l1.ok (a1 : (List Int)) (q : Wd) (kn : (List Int) → Option (D × List Ent)) (hk : ∀ v : (List Int), J (q.g Try.prog 102 0 22) c102 (atI c102 15) (St.mk' [(3, rr 0 v)] [(0, rE 1 eU8 v)]) (some v) kn) :
    ∀ s9 : ((List Int) × Int), J (q.g Try.prog 102 0 22) c102 (atI c102 116) (St.mk' [(0, sl 1 eU8 a1), (3, rr 0 s9.1), (4, iv s9.2)] [(0, rE 1 eU8 s9.1)]) (laws_toByteS_l1 a1 s9) kn := by
  refine J_lp (fun g ih s9 => ?_)
  unfold laws_toByteS_l1b
  refine J_g 464 [] [(0, sl 1 eU8 a1), (3, rr 0 s9.1), (4, iv s9.2), (11, bv (decide (s9.2 < (a1.length : Int))))] [(0, rE 1 eU8 s9.1)] orcN ?_
  refine J_if2 11 (fun h10 => ?_) (fun h10 => ?_)
  · refine J_bind (fun x11 h12 => ?_)
    refine J_bind (fun x13 h14 => ?_)
    refine J_g 932 [] [(0, sl 1 eU8 a1), (3, rr 0 s9.1), (4, iv s9.2)] [(0, rE 1 eU8 (s9.1.set s9.2.toNat x11))] (orcC 4 (x_ix (kk := .i64) 94 5 1 eU8 (.tmp 16) (.tmp 17) h12) (orcC 6 (x_ixr (kk := .i64) 94 5 1 0 eU8 (.tmp 14) (.tmp 15) h14) (orcD 7 (x_st (b := x11) 5 1 0 0 eU8 (uv x11) (.tmp 20) (.tmp 19) h14 rfl) orcN))) ?_
    refine J_st (σ' := St.mk' [(0, sl 1 eU8 a1), (3, rr 0 (s9.1.set s9.2.toNat x11)), (4, iv s9.2)] [(0, rE 1 eU8 (s9.1.set s9.2.toNat x11))]) (by simp only [rr, List.length_set]) ?_
    refine J_g 467 [] [(0, sl 1 eU8 a1), (3, rr 0 (s9.1.set s9.2.toNat x11)), (4, iv (w64 (s9.2 + 1)))] [(0, rE 1 eU8 (s9.1.set s9.2.toNat x11))] orcN ?_
    exact J_q (J_b (ih (s9.1.set s9.2.toNat x11, w64 (s9.2 + 1)))) rfl
  · exact J_qw (hk s9.1) rfl

theorem laws_toByteS.ok (a1 : (List Int)) : Ok Try.prog 102 [sl 1 eU8 a1] [] ((laws_toByteS a1).map fun r => (so 1 eU8 r, [])) := by
  refine Ok_of3 c102 Try.f102 0 22 (fun q => ?_)
  unfold laws_toByteS
  refine J_g 2 [] [(0, sl 1 eU8 a1)] [] orcN ?_
  refine J_bind (fun x2 h3 => ?_)
  refine J_g 6 [] [(0, sl 1 eU8 a1), (3, rr 0 x2)] [(0, rE 1 eU8 x2)] (orcC 2 (x_mk 94 5 1 1 0 eU8 0 (.tmp 6) h3 (.keep rfl (.nil))) orcN) ?_
  refine J_g 28 [] [(0, sl 1 eU8 a1), (3, rr 0 x2), (4, iv 0)] [(0, rE 1 eU8 x2)] orcN ?_
  refine J_lq (laws_toByteS_l1.ok a1 q _ (fun v15 => J_j ?_) (x2, 0))
  refine J_g 30 [] [(2, rr 0 v15)] [(0, rE 1 eU8 v15)] orcN ?_
  exact J_rm (ds := [rr 0 v15]) (ds' := [so 1 eU8 v15]) (.cons (.cell (.move (.head _) (List.length_map _) (by decide) (.nil))) (.nil) (by decide)) rfl

noncomputable def c67 : Code := (Try.f67.body).getD .skip

theorem laws_toFile.ok (a1 : File) : Ok Try.prog 67 [.ag (File.enc false a1)] [] ((laws_toFile a1).map fun r => (.ag [sv r.Path, so 1 eU8 r.Data], [])) := by
  refine Ok_of3 c67 Try.f67 0 12 (fun q => ?_)
  unfold laws_toFile
  refine J_g 2 [(0, 0), (1, 1)] [(1, pp 0), (2, pp 1)] [(0, .box (File.enc false a1)), (1, .box [sv ByteArray.empty, nv])] orcN ?_
  refine J_g 6 [(0, 2)] [(1, pp 0), (2, pp 1), (3, pp 2)] [(0, .box (File.enc false a1)), (1, .box [sv ByteArray.empty, nv]), (2, .box [sv ByteArray.empty, nv])] orcN ?_
  refine J_g 14 [] [(1, pp 0), (2, pp 1), (3, pp 2)] [(0, .box (File.enc false a1)), (1, .box [sv ByteArray.empty, nv]), (2, .box [sv a1.Path, nv])] orcN ?_
  refine J_bind (fun x2 h3 => ?_)
  refine J_g 30 [] [(2, pp 1), (3, pp 2)] [(1, .box [sv ByteArray.empty, nv]), (2, .box [sv a1.Path, rr 3 x2]), (3, rE 1 eU8 x2)] (orcC 2 (x_c1 («as» := [sl 1 eU8 a1.Data]) [(.tmp 8)] [94] false [] [] (.cons (.same rfl) (.nil)) (laws_toByteS.ok a1.Data) h3 (.own 3)) orcN) ?_
  refine J_g 62 [] [(2, pp 1)] [(1, .box [sv a1.Path, rr 3 x2]), (3, rE 1 eU8 x2)] orcN ?_
  exact J_rm (ds := [.ag [sv a1.Path, rr 3 x2]]) (ds' := [.ag [sv a1.Path, so 1 eU8 x2]]) (.cons (.ag (.keep rfl (.move (.tail _ (.head _)) (List.length_map _) (by decide) (.nil)))) (.nil) (by decide)) rfl

noncomputable def c37 : Code := (Try.f37.body).getD .skip

theorem laws_toFileS_l1.ok (a1 : (List File)) (q : Wd) (kn : (List File) → Option (D × List Ent)) (hk : ∀ v : (List File), J (q.g Try.prog 37 0 23) c37 (atI c37 15) (St.mk' [(3, rr 0 v)] [(0, rE 2 (File.enc true) v)]) (some v) kn) :
    ∀ s11 : ((List File) × Int), J (q.g Try.prog 37 0 23) c37 (atI c37 116) (St.mk' [(0, sl 2 (File.enc false) a1), (3, rr 0 s11.1), (4, iv s11.2)] [(0, rE 2 (File.enc true) s11.1)]) (laws_toFileS_l1 a1 s11) kn := by
  refine J_lp (fun g ih s11 => ?_)
  unfold laws_toFileS_l1b
  refine J_g 464 [] [(0, sl 2 (File.enc false) a1), (3, rr 0 s11.1), (4, iv s11.2), (11, bv (decide (s11.2 < (a1.length : Int))))] [(0, rE 2 (File.enc true) s11.1)] orcN ?_
  refine J_if2 11 (fun h12 => ?_) (fun h12 => ?_)
  · refine J_bind (fun x13 h14 => ?_)
    refine J_bind (fun x15 h16 => ?_)
    refine J_bind (fun x17 h18 => ?_)
    refine J_g 932 [] [(0, sl 2 (File.enc false) a1), (3, rr 0 s11.1), (4, iv s11.2)] [(0, rE 2 (File.enc true) (s11.1.set s11.2.toNat x15))] (orcC 4 (x_ix (kk := .i64) 36 96 2 (File.enc false) (.tmp 16) (.tmp 17) h14) (orcC 6 (x_c1 («as» := [.ag (File.enc false x13)]) [(.tmp 19)] [96] false [] [] (.cons (.same rfl) (.nil)) (laws_toFile.ok x13) h16 (.ag (.cons (.same rfl rfl) (.cons (.own 1) (.nil))))) (orcC 7 (x_ixr (kk := .i64) 43 99 2 0 (File.enc true) (.tmp 14) (.tmp 15) h18) (orcD 8 (x_stm (b := x15) (es' := [sv x15.Path, so 1 eU8 x15.Data]) (ts := [1]) 99 2 0 0 (File.enc true) (.ag [sv x15.Path, rr 1 x15.Data]) (.tmp 21) (.tmp 20) [(1, rE 1 eU8 x15.Data)] h18 (.keep rfl (.move (.head _) (List.length_map _) (by decide) (.nil))) rfl) orcN)))) ?_
    refine J_st (σ' := St.mk' [(0, sl 2 (File.enc false) a1), (3, rr 0 (s11.1.set s11.2.toNat x15)), (4, iv s11.2)] [(0, rE 2 (File.enc true) (s11.1.set s11.2.toNat x15))]) (by simp only [rr, List.length_set]) ?_
    refine J_g 467 [] [(0, sl 2 (File.enc false) a1), (3, rr 0 (s11.1.set s11.2.toNat x15)), (4, iv (w64 (s11.2 + 1)))] [(0, rE 2 (File.enc true) (s11.1.set s11.2.toNat x15))] orcN ?_
    exact J_q (J_b (ih (s11.1.set s11.2.toNat x15, w64 (s11.2 + 1)))) rfl
  · exact J_qw (hk s11.1) rfl

theorem laws_toFileS.ok (a1 : (List File)) : Ok Try.prog 37 [sl 2 (File.enc false) a1] [] ((laws_toFileS a1).map fun r => (so 2 (File.enc true) r, [])) := by
  refine Ok_of3 c37 Try.f37 0 23 (fun q => ?_)
  unfold laws_toFileS
  refine J_g 2 [] [(0, sl 2 (File.enc false) a1)] [] orcN ?_
  refine J_bind (fun x2 h3 => ?_)
  refine J_g 6 [] [(0, sl 2 (File.enc false) a1), (3, rr 0 x2)] [(0, rE 2 (File.enc true) x2)] (orcC 2 (x_mk 43 99 2 40 0 (File.enc true) ({ Path := ByteArray.empty, Data := ([] : List Int) } : File) (.tmp 6) h3 (.keep rfl (.nilsl true 1 (.nil)))) orcN) ?_
  refine J_g 28 [] [(0, sl 2 (File.enc false) a1), (3, rr 0 x2), (4, iv 0)] [(0, rE 2 (File.enc true) x2)] orcN ?_
  refine J_lq (laws_toFileS_l1.ok a1 q _ (fun v19 => J_j ?_) (x2, 0))
  refine J_g 30 [] [(2, rr 0 v19)] [(0, rE 2 (File.enc true) v19)] orcN ?_
  exact J_rm (ds := [rr 0 v19]) (ds' := [so 2 (File.enc true) v19]) (.cons (.cell (.move (.head _) (List.length_map _) (by decide) (.nil))) (.nil) (by decide)) rfl

noncomputable def c17 : Code := (Try.f17.body).getD .skip

theorem laws_toDisk.ok (a1 : Disk) : Ok Try.prog 17 [.ag (Disk.enc false a1)] [] ((laws_toDisk a1).map fun r => (.ag (Disk.enc true r), [])) := by
  refine Ok_of3 c17 Try.f17 0 21 (fun q => ?_)
  unfold laws_toDisk
  refine J_g 2 [(0, 0), (1, 1)] [(1, pp 0), (2, pp 1)] [(0, .box (Disk.enc false a1)), (1, .box [nv, iv 0, iv 0, iv 0, bv false])] orcN ?_
  refine J_g 6 [(0, 2)] [(1, pp 0), (2, pp 1), (3, pp 2)] [(0, .box (Disk.enc false a1)), (1, .box [nv, iv 0, iv 0, iv 0, bv false]), (2, .box [nv, iv 0, iv 0, iv 0, bv false])] orcN ?_
  refine J_bind (fun x2 h3 => ?_)
  refine J_g 14 [] [(1, pp 0), (2, pp 1), (3, pp 2)] [(0, .box (Disk.enc false a1)), (1, .box [nv, iv 0, iv 0, iv 0, bv false]), (2, .box [rr 3 x2, iv 0, iv 0, iv 0, bv false]), (3, rE 2 (File.enc true) x2)] (orcC 2 (x_c1 («as» := [sl 2 (File.enc false) a1.Files]) [(.tmp 5)] [36] false [] [] (.cons (.same rfl) (.nil)) (laws_toFileS.ok a1.Files) h3 (.own 3)) orcN) ?_
  refine J_g 30 [] [(1, pp 0), (2, pp 1), (3, pp 2)] [(0, .box (Disk.enc false a1)), (1, .box [nv, iv 0, iv 0, iv 0, bv false]), (2, .box [rr 3 x2, iv a1.Budget, iv 0, iv 0, bv false]), (3, rE 2 (File.enc true) x2)] orcN ?_
  refine J_g 62 [] [(1, pp 0), (2, pp 1), (3, pp 2)] [(0, .box (Disk.enc false a1)), (1, .box [nv, iv 0, iv 0, iv 0, bv false]), (2, .box [rr 3 x2, iv a1.Budget, iv a1.Writes, iv 0, bv false]), (3, rE 2 (File.enc true) x2)] orcN ?_
  refine J_g 126 [] [(1, pp 0), (2, pp 1), (3, pp 2)] [(0, .box (Disk.enc false a1)), (1, .box [nv, iv 0, iv 0, iv 0, bv false]), (2, .box [rr 3 x2, iv a1.Budget, iv a1.Writes, iv a1.Stop, bv false]), (3, rE 2 (File.enc true) x2)] orcN ?_
  refine J_g 254 [] [(2, pp 1), (3, pp 2)] [(1, .box [nv, iv 0, iv 0, iv 0, bv false]), (2, .box [rr 3 x2, iv a1.Budget, iv a1.Writes, iv a1.Stop, bv a1.Down]), (3, rE 2 (File.enc true) x2)] orcN ?_
  refine J_g 510 [] [(2, pp 1)] [(1, .box [rr 3 x2, iv a1.Budget, iv a1.Writes, iv a1.Stop, bv a1.Down]), (3, rE 2 (File.enc true) x2)] orcN ?_
  exact J_rm (ds := [.ag [rr 3 x2, iv a1.Budget, iv a1.Writes, iv a1.Stop, bv a1.Down]]) (ds' := [.ag [so 2 (File.enc true) x2, iv a1.Budget, iv a1.Writes, iv a1.Stop, bv a1.Down]]) (.cons (.ag (.move (.tail _ (.head _)) (List.length_map _) (by decide) (.keep rfl (.keep rfl (.keep rfl (.keep rfl (.nil))))))) (.nil) (by decide)) rfl

noncomputable def c9 : Code := (Try.f9.body).getD .skip

theorem laws_toInt64S_l1.ok (a1 : (List Int)) (q : Wd) (kn : (List Int) → Option (D × List Ent)) (hk : ∀ v : (List Int), J (q.g Try.prog 9 0 22) c9 (atI c9 15) (St.mk' [(3, rr 0 v)] [(0, rE 1 eI64 v)]) (some v) kn) :
    ∀ s9 : ((List Int) × Int), J (q.g Try.prog 9 0 22) c9 (atI c9 116) (St.mk' [(0, sl 1 eI64 a1), (3, rr 0 s9.1), (4, iv s9.2)] [(0, rE 1 eI64 s9.1)]) (laws_toInt64S_l1 a1 s9) kn := by
  refine J_lp (fun g ih s9 => ?_)
  unfold laws_toInt64S_l1b
  refine J_g 464 [] [(0, sl 1 eI64 a1), (3, rr 0 s9.1), (4, iv s9.2), (11, bv (decide (s9.2 < (a1.length : Int))))] [(0, rE 1 eI64 s9.1)] orcN ?_
  refine J_if2 11 (fun h10 => ?_) (fun h10 => ?_)
  · refine J_bind (fun x11 h12 => ?_)
    refine J_bind (fun x13 h14 => ?_)
    refine J_g 932 [] [(0, sl 1 eI64 a1), (3, rr 0 s9.1), (4, iv s9.2)] [(0, rE 1 eI64 (s9.1.set s9.2.toNat x11))] (orcC 4 (x_ix (kk := .i64) 23 2 1 eI64 (.tmp 16) (.tmp 17) h12) (orcC 6 (x_ixr (kk := .i64) 23 2 1 0 eI64 (.tmp 14) (.tmp 15) h14) (orcD 7 (x_st (b := x11) 2 1 0 0 eI64 (iv x11) (.tmp 20) (.tmp 19) h14 rfl) orcN))) ?_
    refine J_st (σ' := St.mk' [(0, sl 1 eI64 a1), (3, rr 0 (s9.1.set s9.2.toNat x11)), (4, iv s9.2)] [(0, rE 1 eI64 (s9.1.set s9.2.toNat x11))]) (by simp only [rr, List.length_set]) ?_
    refine J_g 467 [] [(0, sl 1 eI64 a1), (3, rr 0 (s9.1.set s9.2.toNat x11)), (4, iv (w64 (s9.2 + 1)))] [(0, rE 1 eI64 (s9.1.set s9.2.toNat x11))] orcN ?_
    exact J_q (J_b (ih (s9.1.set s9.2.toNat x11, w64 (s9.2 + 1)))) rfl
  · exact J_qw (hk s9.1) rfl

theorem laws_toInt64S.ok (a1 : (List Int)) : Ok Try.prog 9 [sl 1 eI64 a1] [] ((laws_toInt64S a1).map fun r => (so 1 eI64 r, [])) := by
  refine Ok_of3 c9 Try.f9 0 22 (fun q => ?_)
  unfold laws_toInt64S
  refine J_g 2 [] [(0, sl 1 eI64 a1)] [] orcN ?_
  refine J_bind (fun x2 h3 => ?_)
  refine J_g 6 [] [(0, sl 1 eI64 a1), (3, rr 0 x2)] [(0, rE 1 eI64 x2)] (orcC 2 (x_mk 23 2 1 8 0 eI64 0 (.tmp 6) h3 (.keep rfl (.nil))) orcN) ?_
  refine J_g 28 [] [(0, sl 1 eI64 a1), (3, rr 0 x2), (4, iv 0)] [(0, rE 1 eI64 x2)] orcN ?_
  refine J_lq (laws_toInt64S_l1.ok a1 q _ (fun v15 => J_j ?_) (x2, 0))
  refine J_g 30 [] [(2, rr 0 v15)] [(0, rE 1 eI64 v15)] orcN ?_
  exact J_rm (ds := [rr 0 v15]) (ds' := [so 1 eI64 v15]) (.cons (.cell (.move (.head _) (List.length_map _) (by decide) (.nil))) (.nil) (by decide)) rfl

noncomputable def c60 : Code := (Try.f60.body).getD .skip

theorem spec_l1In.ok (a1 : Int) (a2 : Int) (a3 : Int) : Ok Try.prog 60 [iv a1, iv a2, iv a3] [] ((spec_l1In a1 a2 a3).map fun r => (bv r, [])) := by
  refine Ok_of3 c60 Try.f60 0 15 (fun q => ?_)
  unfold spec_l1In
  refine J_g 2 [] [(0, iv a1), (1, iv a2), (2, iv a3)] [] orcN ?_
  refine J_ite (fun h4 => ?_) (fun h4 => ?_)
  · refine J_g 6 [] [(6, bv (decide (a1 ≤ a3)))] [] (orcL 3 [(9, bv (decide (a1 ≥ a2)))] [] h4 orcN) ?_
    exact J_r1 rfl
  · refine J_g 6 [] [(6, bv false)] [] (orcL 3 [(9, bv (decide (a1 ≥ a2)))] [] h4 orcN) ?_
    exact J_r1 rfl

noncomputable def c159 : Code := (Try.f159.body).getD .skip

theorem spec_l1Letter.ok (a1 : Int) : Ok Try.prog 159 [uv a1] [] ((spec_l1Letter a1).map fun r => (bv r, [])) := by
  refine Ok_of3 c159 Try.f159 0 9 (fun q => ?_)
  unfold spec_l1Letter
  refine J_g 2 [] [(0, uv a1)] [] orcN ?_
  refine J_ite (fun h2 => ?_) (fun h2 => ?_)
  · refine J_g 6 [] [(2, bv (decide (a1 ≤ 122)))] [] (orcL 2 [(4, bv (decide (a1 ≥ 97)))] [] h2 orcN) ?_
    exact J_r1 rfl
  · refine J_g 6 [] [(2, bv false)] [] (orcL 2 [(4, bv (decide (a1 ≥ 97)))] [] h2 orcN) ?_
    exact J_r1 rfl

noncomputable def c132 : Code := (Try.f132.body).getD .skip

theorem spec_l1Digit.ok (a1 : Int) : Ok Try.prog 132 [uv a1] [] ((spec_l1Digit a1).map fun r => (bv r, [])) := by
  refine Ok_of3 c132 Try.f132 0 9 (fun q => ?_)
  unfold spec_l1Digit
  refine J_g 2 [] [(0, uv a1)] [] orcN ?_
  refine J_ite (fun h2 => ?_) (fun h2 => ?_)
  · refine J_g 6 [] [(2, bv (decide (a1 ≤ 57)))] [] (orcL 2 [(4, bv (decide (a1 ≥ 48)))] [] h2 orcN) ?_
    exact J_r1 rfl
  · refine J_g 6 [] [(2, bv false)] [] (orcL 2 [(4, bv (decide (a1 ≥ 48)))] [] h2 orcN) ?_
    exact J_r1 rfl

noncomputable def c130 : Code := (Try.f130.body).getD .skip

theorem spec_l1Name.ok (a1 : Int) : Ok Try.prog 130 [uv a1] [] ((spec_l1Name a1).map fun r => (bv r, [])) := by
  refine Ok_of3 c130 Try.f130 0 13 (fun q => ?_)
  unfold spec_l1Name
  refine J_g 2 [] [(0, uv a1)] [] orcN ?_
  refine J_bind (fun x2 h3 => ?_)
  refine J_ite (fun h4 => ?_) (fun h4 => ?_)
  · refine J_g 6 [] [(2, bv true)] [] (orcC 1 (x_c0 [(.tmp 3)] [5] (spec_l1Letter.ok a1) h3) (orcL 2 [(4, bv x2)] [] h4 orcN)) ?_
    exact J_r1 rfl
  · refine J_bind (fun x5 h6 => ?_)
    refine J_ite (fun h7 => ?_) (fun h7 => ?_)
    · refine J_g 6 [] [(2, bv true)] [] (orcC 1 (x_c0 [(.tmp 3)] [5] (spec_l1Letter.ok a1) h3) (orcL 2 [(4, bv x2)] [] h4 (orcH 4 2 5 false (x_c0 [(.tmp 6)] [5] (spec_l1Digit.ok a1) h6) (orcL 6 [(8, bv x5)] [] h7 orcN)))) ?_
      exact J_r1 rfl
    · refine J_g 6 [] [(2, bv (a1 == 95))] [] (orcC 1 (x_c0 [(.tmp 3)] [5] (spec_l1Letter.ok a1) h3) (orcL 2 [(4, bv x2)] [] h4 (orcH 4 2 5 false (x_c0 [(.tmp 6)] [5] (spec_l1Digit.ok a1) h6) (orcL 6 [(8, bv x5)] [] h7 orcN)))) ?_
      exact J_r1 rfl

noncomputable def c97 : Code := (Try.f97.body).getD .skip

theorem spec_l7Byte.ok (a1 : Int) : Ok Try.prog 97 [uv a1] [] ((spec_l7Byte a1).map fun r => (bv r, [])) := by
  refine Ok_of3 c97 Try.f97 0 17 (fun q => ?_)
  unfold spec_l7Byte
  refine J_g 2 [] [(0, uv a1)] [] orcN ?_
  refine J_bind (fun x2 h3 => ?_)
  refine J_ite (fun h4 => ?_) (fun h4 => ?_)
  · refine J_g 6 [] [(2, bv true)] [] (orcC 1 (x_c0 [(.tmp 3)] [5] (spec_l1Name.ok a1) h3) (orcL 2 [(4, bv x2)] [] h4 orcN)) ?_
    exact J_r1 rfl
  · refine J_ite (fun h5 => ?_) (fun h5 => ?_)
    · refine J_g 6 [] [(2, bv true)] [] (orcC 1 (x_c0 [(.tmp 3)] [5] (spec_l1Name.ok a1) h3) (orcL 2 [(4, bv x2)] [] h4 (orcL 6 [(8, bv (a1 == 46))] [] h5 orcN))) ?_
      exact J_r1 rfl
    · refine J_ite (fun h6 => ?_) (fun h6 => ?_)
      · refine J_g 6 [] [(2, bv true)] [] (orcC 1 (x_c0 [(.tmp 3)] [5] (spec_l1Name.ok a1) h3) (orcL 2 [(4, bv x2)] [] h4 (orcL 6 [(8, bv (a1 == 46))] [] h5 (orcL 10 [(12, bv (a1 == 45))] [] h6 orcN)))) ?_
        exact J_r1 rfl
      · refine J_g 6 [] [(2, bv (a1 == 47))] [] (orcC 1 (x_c0 [(.tmp 3)] [5] (spec_l1Name.ok a1) h3) (orcL 2 [(4, bv x2)] [] h4 (orcL 6 [(8, bv (a1 == 46))] [] h5 (orcL 10 [(12, bv (a1 == 45))] [] h6 orcN)))) ?_
        exact J_r1 rfl

noncomputable def c61 : Code := (Try.f61.body).getD .skip

theorem spec_PathFault_l1.ok (a1 : ByteArray) (q : Wd) (kn : Unit → Option (D × List Ent)) (hk : ∀ v : Unit, J (q.g Try.prog 61 0 23) c61 (atI c61 15) (St.mk' [] []) (some v) kn) :
    ∀ s11 : Int, J (q.g Try.prog 61 0 23) c61 (atI c61 116) (St.mk' [(0, sv a1), (3, iv s11)] []) (spec_PathFault_l1 a1 s11) (Fl.go (fun r : Int => some (iv r, [])) kn) := by
  refine J_lp (fun g ih s11 => ?_)
  unfold spec_PathFault_l1b
  refine J_g 464 [] [(0, sv a1), (3, iv s11), (15, bv (decide (s11 < (a1.size : Int))))] [] orcN ?_
  refine J_if2 15 (fun h12 => ?_) (fun h12 => ?_)
  · refine J_bind (fun x13 h14 => ?_)
    refine J_bind (fun x15 h16 => ?_)
    refine J_g 1864 [] [(0, sv a1), (3, iv s11), (22, bv (!x15))] [] (orcC 2 (x_bi (kk := .i64) 9 (.tmp 18) (.tmp 19) h14) (orcC 3 (x_c0 [(.tmp 20)] [5] (spec_l7Byte.ok x13) h16) orcN)) ?_
    refine J_if2 22 (fun h17 => ?_) (fun h17 => ?_)
    · refine J_g 7460 [] [(2, iv 5)] [] orcN ?_
      exact J_r1 rfl
    · refine J_g 467 [] [(0, sv a1), (3, iv (w64 (s11 + 1)))] [] orcN ?_
      exact J_q (J_b (ih (w64 (s11 + 1)))) rfl
  · exact J_qw (hk ()) rfl

theorem spec_PathFault.ok (a1 : ByteArray) : Ok Try.prog 61 [sv a1] [] ((spec_PathFault a1).map fun r => (iv r, [])) := by
  refine Ok_of3 c61 Try.f61 0 23 (fun q => ?_)
  unfold spec_PathFault
  refine J_g 2 [] [(0, sv a1)] [] orcN ?_
  refine J_join (atI c61 13) (fun v3 : Bool => St.mk' [(0, sv a1), (11, bv v3)] []) (fun v3 => ?_) (fun jv3 => ?_)
  · refine J_if2 11 (fun h4 => ?_) (fun h4 => ?_)
    · refine J_g 52 [] [(2, iv 5)] [] orcN ?_
      exact J_r1 rfl
    · refine J_g 28 [] [(0, sv a1), (3, iv 0)] [] orcN ?_
      refine J_lqF (K0 := (fun r : Int => some (iv r, []))) (fun _ => rfl) (spec_PathFault_l1.ok a1 q _ (fun v18 => J_j ?_) 0)
      refine J_g 30 [] [(2, iv 0)] [] orcN ?_
      exact J_r1 rfl
  · refine J_ite (fun h2 => ?_) (fun h2 => ?_)
    · refine J_g 12 [] [(0, sv a1), (11, bv true)] [] (orcL 3 [(6, bv (decide ((a1.size : Int) < 1)))] [] h2 orcN) ?_
      exact J_qw (J_j (jv3 true)) rfl
    · refine J_g 12 [] [(0, sv a1), (11, bv (decide ((a1.size : Int) > 40)))] [] (orcL 3 [(6, bv (decide ((a1.size : Int) < 1)))] [] h2 orcN) ?_
      exact J_qw (J_j (jv3 (decide ((a1.size : Int) > 40)))) rfl

noncomputable def c62 : Code := (Try.f62.body).getD .skip

theorem spec_l7Total_l1.ok (a1 : Disk) (q : Wd) (kn : Int → Option (D × List Ent)) (hk : ∀ v : Int, J (q.g Try.prog 62 1 26) c62 (atI c62 15) (St.mk' [(3, iv v)] [(0, .box (Disk.enc false a1))]) (some v) kn) :
    ∀ s5 : (Int × Int), J (q.g Try.prog 62 1 26) c62 (atI c62 116) (St.mk' [(0, pp 0), (3, iv s5.1), (4, iv s5.2)] [(0, .box (Disk.enc false a1))]) (spec_l7Total_l1 a1 s5) kn := by
  refine J_lp (fun g ih s5 => ?_)
  unfold spec_l7Total_l1b
  refine J_g 464 [] [(0, pp 0), (3, iv s5.1), (4, iv s5.2), (11, bv (decide (s5.2 < (a1.Files.length : Int))))] [(0, .box (Disk.enc false a1))] orcN ?_
  refine J_if2 11 (fun h6 => ?_) (fun h6 => ?_)
  · refine J_bind (fun x7 h8 => ?_)
    refine J_g 932 [] [(0, pp 0), (3, iv (w64 (s5.1 + (x7.Data.length : Int)))), (4, iv s5.2)] [(0, .box (Disk.enc false a1))] (orcC 6 (x_ix (kk := .i64) 43 99 2 (File.enc false) (.tmp 18) (.tmp 19) h8) orcN) ?_
    refine J_g 467 [] [(0, pp 0), (3, iv (w64 (s5.1 + (x7.Data.length : Int)))), (4, iv (w64 (s5.2 + 1)))] [(0, .box (Disk.enc false a1))] orcN ?_
    exact J_q (J_b (ih (w64 (s5.1 + (x7.Data.length : Int)), w64 (s5.2 + 1)))) rfl
  · exact J_qw (hk s5.1) rfl

theorem spec_l7Total.ok (a1 : Disk) : Ok Try.prog 62 [pp 0] [.box (Disk.enc false a1)] ((spec_l7Total a1).map fun r => (iv r, [.box (Disk.enc false a1)])) := by
  refine Ok_of3 c62 Try.f62 1 26 (fun q => ?_)
  unfold spec_l7Total
  refine J_g 2 [] [(0, pp 0)] [(0, .box (Disk.enc false a1))] orcN ?_
  refine J_g 6 [] [(0, pp 0), (3, iv 0)] [(0, .box (Disk.enc false a1))] orcN ?_
  refine J_g 28 [] [(0, pp 0), (3, iv 0), (4, iv 0)] [(0, .box (Disk.enc false a1))] orcN ?_
  refine J_lq (spec_l7Total_l1.ok a1 q _ (fun v9 => J_j ?_) (0, 0))
  refine J_g 30 [] [(2, iv v9)] [(0, .box (Disk.enc false a1))] orcN ?_
  exact J_r1 rfl

noncomputable def c35 : Code := (Try.f35.body).getD .skip

theorem spec_DiskFault_l1.ok (a1 : Disk) (q : Wd) (kn : Unit → Option (D × List Ent)) (hk : ∀ v : Unit, J (q.g Try.prog 35 0 72) c35 (atI c35 31) (St.mk' [(1, pp 0)] [(0, .box (Disk.enc false a1))]) (some v) kn) :
    ∀ s29 : Int, J (q.g Try.prog 35 0 72) c35 (atI c35 244) (St.mk' [(1, pp 0), (3, iv s29)] [(0, .box (Disk.enc false a1))]) (spec_DiskFault_l1 a1 s29) (Fl.go (fun r : Int => some (iv r, [])) kn) := by
  refine J_lp (fun g ih s29 => ?_)
  unfold spec_DiskFault_l1b
  refine J_g 976 [] [(1, pp 0), (3, iv s29), (29, bv (decide (s29 < (a1.Files.length : Int))))] [(0, .box (Disk.enc false a1))] orcN ?_
  refine J_if2 29 (fun h30 => ?_) (fun h30 => ?_)
  · refine J_bind (fun x31 h32 => ?_)
    refine J_bind (fun x33 h34 => ?_)
    refine J_g 7824 [] [(1, pp 0), (3, iv s29), (4, iv x33)] [(0, .box (Disk.enc false a1))] (orcC 3 (x_ix (kk := .i64) 43 99 2 (File.enc false) (.tmp 33) (.tmp 34) h32) (orcC 6 (x_c0 [(.tmp 37)] [9] (spec_PathFault.ok x31.Path) h34) orcN)) ?_
    refine J_g 15650 [] [(1, pp 0), (3, iv s29), (4, iv x33), (40, bv (x33 != 0))] [(0, .box (Disk.enc false a1))] orcN ?_
    refine J_if2 40 (fun h35 => ?_) (fun h35 => ?_)
    · refine J_g 62604 [] [(2, iv x33)] [] orcN ?_
      exact J_r1 rfl
    · refine J_join (atI c35 15653) (fun v41 : Bool => St.mk' [(1, pp 0), (3, iv s29), (59, bv v41)] [(0, .box (Disk.enc false a1))]) (fun v41 => ?_) (fun jv41 => ?_)
      · refine J_if2 59 (fun h42 => ?_) (fun h42 => ?_)
        · refine J_g 62612 [] [(2, iv 1)] [] orcN ?_
          exact J_r1 rfl
        · refine J_bind (fun x43 h44 => ?_)
          refine J_g 15654 [] [(1, pp 0), (3, iv s29), (67, bv (decide ((x43.Data.length : Int) > 4000)))] [(0, .box (Disk.enc false a1))] (orcC 3 (x_ix (kk := .i64) 43 99 2 (File.enc false) (.tmp 61) (.tmp 62) h44) orcN) ?_
          refine J_if2 67 (fun h45 => ?_) (fun h45 => ?_)
          · refine J_g 62620 [] [(2, iv 2)] [] orcN ?_
            exact J_r1 rfl
          · refine J_g 979 [] [(1, pp 0), (3, iv (w64 (s29 + 1)))] [(0, .box (Disk.enc false a1))] orcN ?_
            exact J_q (J_b (ih (w64 (s29 + 1)))) rfl
      · refine J_ite (fun h36 => ?_) (fun h36 => ?_)
        · refine J_bind (fun x37 h38 => ?_)
          refine J_bind (fun x39 h40 => ?_)
          refine J_g 15652 [] [(1, pp 0), (3, iv s29), (59, bv (slt x37.Path x39.Path || seq x37.Path x39.Path))] [(0, .box (Disk.enc false a1))] (orcL 2 [(43, bv (decide (s29 > 0)))] [] h36 (orcH 6 2 44 true (x_ix (kk := .i64) 43 99 2 (File.enc false) (.tmp 46) (.tmp 47) h38) (orcH 13 2 44 true (x_ix (kk := .i64) 43 99 2 (File.enc false) (.tmp 52) (.tmp 54) h40) orcN))) ?_
          exact J_qw (J_j (jv41 (slt x37.Path x39.Path || seq x37.Path x39.Path))) rfl
        · refine J_g 15652 [] [(1, pp 0), (3, iv s29), (59, bv false)] [(0, .box (Disk.enc false a1))] (orcL 2 [(43, bv (decide (s29 > 0)))] [] h36 orcN) ?_
          exact J_qw (J_j (jv41 false)) rfl
  · exact J_qw (hk ()) rfl

theorem spec_DiskFault.ok (a1 : Disk) : Ok Try.prog 35 [.ag (Disk.enc false a1)] [] ((spec_DiskFault a1).map fun r => (iv r, [])) := by
  refine Ok_of3 c35 Try.f35 0 72 (fun q => ?_)
  unfold spec_DiskFault
  refine J_g 2 [(0, 0)] [(1, pp 0)] [(0, .box (Disk.enc false a1))] orcN ?_
  refine J_bind (fun x2 h3 => ?_)
  refine J_join (atI c35 13) (fun v10 : Bool => St.mk' [(1, pp 0), (20, bv v10)] [(0, .box (Disk.enc false a1))]) (fun v10 => ?_) (fun jv10 => ?_)
  · refine J_if2 20 (fun h11 => ?_) (fun h11 => ?_)
    · refine J_g 52 [] [(2, iv 3)] [] orcN ?_
      exact J_r1 rfl
    · refine J_g 28 [] [(1, pp 0), (24, bv (decide ((a1.Files.length : Int) > 120)))] [(0, .box (Disk.enc false a1))] orcN ?_
      refine J_if2 24 (fun h12 => ?_) (fun h12 => ?_)
      · refine J_g 116 [] [(2, iv 2)] [] orcN ?_
        exact J_r1 rfl
      · refine J_g 60 [] [(1, pp 0), (3, iv 0)] [(0, .box (Disk.enc false a1))] orcN ?_
        refine J_lqF (K0 := (fun r : Int => some (iv r, []))) (fun _ => rfl) (spec_DiskFault_l1.ok a1 q _ (fun v46 => J_j ?_) 0)
        refine J_bind (fun x47 h48 => ?_)
        refine J_g 124 [] [(71, bv (decide (x47 > a1.Budget)))] [] (orcC 0 (x_ro [(0, .box (Disk.enc false a1))] [] (x_c1 («as» := [pp 0]) [(.tmp 1)] [74] false [(0, .box (Disk.enc false a1))] [0] (.cons (.pt rfl) (.nil)) (spec_l7Total.ok a1) h48 (.same rfl rfl))) orcN) ?_
        refine J_if2 71 (fun h49 => ?_) (fun h49 => ?_)
        · refine J_g 500 [] [(2, iv 8)] [] orcN ?_
          exact J_r1 rfl
        · refine J_g 126 [] [(2, iv 0)] [] orcN ?_
          exact J_r1 rfl
  · refine J_ite (fun h4 => ?_) (fun h4 => ?_)
    · refine J_g 12 [] [(1, pp 0), (20, bv true)] [(0, .box (Disk.enc false a1))] (orcC 2 (x_c0 [(.tmp 6), (.const (.int .i64 0)), (.const (.int .i64 20000))] [2, 2, 2] (spec_l1In.ok a1.Budget 0 20000) h3) (orcL 4 [(8, bv (!x2))] [] h4 orcN)) ?_
      exact J_qw (J_j (jv10 true)) rfl
    · refine J_bind (fun x5 h6 => ?_)
      refine J_ite (fun h7 => ?_) (fun h7 => ?_)
      · refine J_g 12 [] [(1, pp 0), (20, bv true)] [(0, .box (Disk.enc false a1))] (orcC 2 (x_c0 [(.tmp 6), (.const (.int .i64 0)), (.const (.int .i64 20000))] [2, 2, 2] (spec_l1In.ok a1.Budget 0 20000) h3) (orcL 4 [(8, bv (!x2))] [] h4 (orcH 7 4 9 false (x_c0 [(.tmp 11), (.const (.int .i64 0)), (.const (.int .i64 1000000000))] [2, 2, 2] (spec_l1In.ok a1.Writes 0 1000000000) h6) (orcL 10 [(14, bv (!x5))] [] h7 orcN)))) ?_
        exact J_qw (J_j (jv10 true)) rfl
      · refine J_bind (fun x8 h9 => ?_)
        refine J_g 12 [] [(1, pp 0), (20, bv (!x8))] [(0, .box (Disk.enc false a1))] (orcC 2 (x_c0 [(.tmp 6), (.const (.int .i64 0)), (.const (.int .i64 20000))] [2, 2, 2] (spec_l1In.ok a1.Budget 0 20000) h3) (orcL 4 [(8, bv (!x2))] [] h4 (orcH 7 4 9 false (x_c0 [(.tmp 11), (.const (.int .i64 0)), (.const (.int .i64 1000000000))] [2, 2, 2] (spec_l1In.ok a1.Writes 0 1000000000) h6) (orcL 10 [(14, bv (!x5))] [] h7 (orcH 13 10 15 false (x_c0 [(.tmp 17), (.const (.int .i64 (-1))), (.const (.int .i64 1000000000))] [2, 2, 2] (spec_l1In.ok a1.Stop (-1) 1000000000) h9) orcN))))) ?_
        exact J_qw (J_j (jv10 (!x8))) rfl

noncomputable def c131 : Code := (Try.f131.body).getD .skip

theorem spec_l7Begins.ok (a1 : ByteArray) (a2 : ByteArray) : Ok Try.prog 131 [sv a1, sv a2] [] ((spec_l7Begins a1 a2).map fun r => (bv r, [])) := by
  refine Ok_of3 c131 Try.f131 0 18 (fun q => ?_)
  unfold spec_l7Begins
  refine J_g 2 [] [(0, sv a1), (1, sv a2)] [] orcN ?_
  refine J_ite (fun h3 => ?_) (fun h3 => ?_)
  · refine J_bind (fun x4 h5 => ?_)
    refine J_g 6 [] [(4, bv (seq x4 a2))] [] (orcL 5 [(9, bv (decide ((a1.size : Int) ≥ (a2.size : Int))))] [] h3 (orcH 9 5 10 true (x_ss 9 (.tmp 11) none (some (.tmp 13)) h5) orcN)) ?_
    exact J_r1 rfl
  · refine J_g 6 [] [(4, bv false)] [] (orcL 5 [(9, bv (decide ((a1.size : Int) ≥ (a2.size : Int))))] [] h3 orcN) ?_
    exact J_r1 rfl

noncomputable def c98 : Code := (Try.f98.body).getD .skip

theorem spec_l7Paths_l1.ok (a1 : Disk) (a2 : ByteArray) (q : Wd) (kn : (List ByteArray) → Option (D × List Ent)) (hk : ∀ v : (List ByteArray), J (q.g Try.prog 98 1 39) c98 (atI c98 15) (St.mk' [(5, rr 1 v)] [(0, .box (Disk.enc false a1)), (1, rE 1 eStr v)]) (some v) kn) :
    ∀ s14 : ((List ByteArray) × Int), J (q.g Try.prog 98 1 39) c98 (atI c98 116) (St.mk' [(0, pp 0), (1, sv a2), (5, rr 1 s14.1), (6, iv s14.2)] [(0, .box (Disk.enc false a1)), (1, rE 1 eStr s14.1)]) (spec_l7Paths_l1 a1 a2 s14) kn := by
  refine J_lp (fun g ih s14 => ?_)
  unfold spec_l7Paths_l1b
  refine J_g 464 [] [(0, pp 0), (1, sv a2), (5, rr 1 s14.1), (6, iv s14.2), (14, bv (decide (s14.2 < (a1.Files.length : Int))))] [(0, .box (Disk.enc false a1)), (1, rE 1 eStr s14.1)] orcN ?_
  refine J_if2 14 (fun h15 => ?_) (fun h15 => ?_)
  · refine J_bind (fun x16 h17 => ?_)
    refine J_bind (fun x18 h19 => ?_)
    refine J_g 1864 [] [(0, pp 0), (1, sv a2), (5, rr 1 s14.1), (6, iv s14.2), (26, bv x18)] [(0, .box (Disk.enc false a1)), (1, rE 1 eStr s14.1)] (orcC 5 (x_ix (kk := .i64) 43 99 2 (File.enc false) (.tmp 20) (.tmp 21) h17) (orcC 9 (x_c0 [(.tmp 24), (.tmp 25)] [9, 9] (spec_l7Begins.ok x16.Path a2) h19) orcN)) ?_
    refine J_join (aft c98 932) (fun v25 : (List ByteArray) => St.mk' [(0, pp 0), (1, sv a2), (5, rr 3 v25), (6, iv s14.2)] [(0, .box (Disk.enc false a1)), (3, rE 1 eStr v25)]) (fun v25 => ?_) (fun jv25 => ?_)
    · refine J_g 467 [] [(0, pp 0), (1, sv a2), (5, rr 3 v25), (6, iv (w64 (s14.2 + 1)))] [(0, .box (Disk.enc false a1)), (3, rE 1 eStr v25)] orcN ?_
      refine J_ren 3 1 (Nat.le_of_ble_eq_true rfl) (Nat.le_of_ble_eq_true rfl) ?_
      exact J_q (J_b (ih (v25, w64 (s14.2 + 1)))) rfl
    · refine J_if2 26 (fun h20 => ?_) (fun h20 => ?_)
      · refine J_bind (fun x21 h22 => ?_)
        refine J_bind (fun x23 h24 => ?_)
        refine J_g 3730 [] [(0, pp 0), (1, sv a2), (5, rr 3 x23), (6, iv s14.2)] [(0, .box (Disk.enc false a1)), (3, rE 1 eStr x23)] (orcC 6 (x_ix (kk := .i64) 43 99 2 (File.enc false) (.tmp 31) (.tmp 32) h22) (orcC 9 (x_bp 56 9 1 2 eStr [x21.Path] [0] [(.tmp 35)] [sv x21.Path]) (orcC 10 (x_ap 56 56 9 9 1 16 3 1 2 eStr (.tmp 27) (.tmp 36) h24) orcN))) ?_
        exact J_qw (J_j (jv25 x23)) rfl
      · refine J_ren 1 3 (Nat.le_of_ble_eq_true rfl) (Nat.le_of_ble_eq_true rfl) ?_
        exact J_qw (J_j (jv25 s14.1)) rfl
  · exact J_qw (hk s14.1) rfl

theorem spec_l7Paths.ok (a1 : Disk) (a2 : ByteArray) : Ok Try.prog 98 [pp 0, sv a2] [.box (Disk.enc false a1)] ((spec_l7Paths a1 a2).map fun r => (so 1 eStr r, [.box (Disk.enc false a1)])) := by
  refine Ok_of3 c98 Try.f98 1 39 (fun q => ?_)
  unfold spec_l7Paths
  refine J_g 2 [] [(0, pp 0), (1, sv a2)] [(0, .box (Disk.enc false a1))] orcN ?_
  refine J_g 6 [] [(0, pp 0), (1, sv a2), (5, rr 1 ([] : List ByteArray))] [(0, .box (Disk.enc false a1)), (1, rE 1 eStr ([] : List ByteArray))] (orcC 0 (x_bp 56 9 1 1 eStr ([] : List ByteArray) [] [] []) orcN) ?_
  refine J_g 28 [] [(0, pp 0), (1, sv a2), (5, rr 1 ([] : List ByteArray)), (6, iv 0)] [(0, .box (Disk.enc false a1)), (1, rE 1 eStr ([] : List ByteArray))] orcN ?_
  refine J_lq (spec_l7Paths_l1.ok a1 a2 q _ (fun v26 => J_j ?_) (([] : List ByteArray), 0))
  refine J_g 30 [] [(4, rr 1 v26)] [(0, .box (Disk.enc false a1)), (1, rE 1 eStr v26)] orcN ?_
  exact J_rm (ds := [rr 1 v26]) (ds' := [so 1 eStr v26]) (.cons (.cell (.move (.tail _ (.head _)) (List.length_map _) (by decide) (.nil))) (.nil) (by decide)) rfl

noncomputable def c99 : Code := (Try.f99.body).getD .skip

theorem spec_l1Number_l1.ok (a1 : ByteArray) (q : Wd) (kn : Int → Option (D × List Ent)) (hk : ∀ v : Int, J (q.g Try.prog 99 0 37) c99 (atI c99 31) (St.mk' [(6, iv v)] []) (some v) kn) :
    ∀ s14 : (Int × Int), J (q.g Try.prog 99 0 37) c99 (atI c99 244) (St.mk' [(0, sv a1), (6, iv s14.1), (7, iv s14.2)] []) (spec_l1Number_l1 a1 s14) (Fl.go (fun r : (Int × Bool) => some (.tu [iv r.1, bv r.2], [])) kn) := by
  refine J_lp (fun g ih s14 => ?_)
  unfold spec_l1Number_l1b
  refine J_g 976 [] [(0, sv a1), (6, iv s14.1), (7, iv s14.2), (20, bv (decide (s14.2 < (a1.size : Int))))] [] orcN ?_
  refine J_if2 20 (fun h15 => ?_) (fun h15 => ?_)
  · refine J_bind (fun x16 h17 => ?_)
    refine J_bind (fun x18 h19 => ?_)
    refine J_g 7824 [] [(0, sv a1), (6, iv s14.1), (7, iv s14.2), (27, bv (!x18))] [] (orcC 2 (x_bi (kk := .i64) 9 (.tmp 23) (.tmp 24) h17) (orcC 3 (x_c0 [(.tmp 25)] [5] (spec_l1Digit.ok x16) h19) orcN)) ?_
    refine J_if2 27 (fun h20 => ?_) (fun h20 => ?_)
    · refine J_g 31300 [] [(4, iv 0), (5, bv false)] [] orcN ?_
      exact J_rT rfl
    · refine J_bind (fun x21 h22 => ?_)
      refine J_g 3913 [] [(0, sv a1), (6, iv (w64 ((w64 (s14.1 * 10)) + (w64 (IntKind.u8.wrap (x21 - 48)))))), (7, iv s14.2)] [] (orcC 4 (x_bi (kk := .i64) 9 (.tmp 30) (.tmp 31) h22) orcN) ?_
      refine J_g 979 [] [(0, sv a1), (6, iv (w64 ((w64 (s14.1 * 10)) + (w64 (IntKind.u8.wrap (x21 - 48)))))), (7, iv (w64 (s14.2 + 1)))] [] orcN ?_
      exact J_q (J_b (ih (w64 ((w64 (s14.1 * 10)) + (w64 (IntKind.u8.wrap (x21 - 48)))), w64 (s14.2 + 1)))) rfl
  · exact J_qw (hk s14.1) rfl

theorem spec_l1Number.ok (a1 : ByteArray) (a2 : Int) : Ok Try.prog 99 [sv a1, iv a2] [] ((spec_l1Number a1 a2).map fun r => (.tu [iv r.1, bv r.2], [])) := by
  refine Ok_of3 c99 Try.f99 0 37 (fun q => ?_)
  unfold spec_l1Number
  refine J_g 2 [] [(0, sv a1), (1, iv a2)] [] orcN ?_
  refine J_join (atI c99 13) (fun v4 : Bool => St.mk' [(0, sv a1), (16, bv v4)] []) (fun v4 => ?_) (fun jv4 => ?_)
  · refine J_if2 16 (fun h5 => ?_) (fun h5 => ?_)
    · refine J_g 52 [] [(4, iv 0), (5, bv false)] [] orcN ?_
      exact J_rT rfl
    · refine J_g 14 [] [(0, sv a1), (6, iv 0)] [] orcN ?_
      refine J_g 60 [] [(0, sv a1), (6, iv 0), (7, iv 0)] [] orcN ?_
      refine J_lqF (K0 := (fun r : (Int × Bool) => some (.tu [iv r.1, bv r.2], []))) (fun _ => rfl) (spec_l1Number_l1.ok a1 q _ (fun v23 => J_j ?_) (0, 0))
      refine J_g 62 [] [(4, iv v23), (5, bv true)] [] orcN ?_
      exact J_rT rfl
  · refine J_ite (fun h3 => ?_) (fun h3 => ?_)
    · refine J_g 12 [] [(0, sv a1), (16, bv true)] [] (orcL 3 [(10, bv (decide ((a1.size : Int) < 1)))] [] h3 orcN) ?_
      exact J_qw (J_j (jv4 true)) rfl
    · refine J_g 12 [] [(0, sv a1), (16, bv (decide ((a1.size : Int) > a2)))] [] (orcL 3 [(10, bv (decide ((a1.size : Int) < 1)))] [] h3 orcN) ?_
      exact J_qw (J_j (jv4 (decide ((a1.size : Int) > a2)))) rfl

noncomputable def c133 : Code := (Try.f133.body).getD .skip

theorem spec_l1Decimal.ok (a1 : Int) : Ok Try.prog 133 [iv a1] [] ((spec_l1Decimal a1).map fun r => (sv r, [])) := by
  have key : ∀ (n : Nat) (a1 : Int), Ok Try.prog 133 [iv a1] [] ((recF spec_l1Decimal_r n a1).map fun r => (sv r, [])) := by
    intro n
    induction n with
    | zero => intro a1; exact Ok_none
    | succ n ih =>
      intro a1
      refine Ok_of3 c133 Try.f133 0 20 (fun q => ?_)
      unfold recF spec_l1Decimal_r
      refine J_g 2 [] [(0, iv a1)] [] orcN ?_
      refine J_g 12 [] [(0, iv a1), (4, bv (decide (a1 < 10)))] [] orcN ?_
      refine J_if2 4 (fun h2 => ?_) (fun h2 => ?_)
      · refine J_g 52 [] [(2, sv (b2s [IntKind.u8.wrap (w64 (48 + a1))]))] [] (orcC 3 (x_bp 94 5 1 0 eU8 [IntKind.u8.wrap (w64 (48 + a1))] [0] [(.tmp 7)] [uv (IntKind.u8.wrap (w64 (48 + a1)))]) (orcC 4 (x_b2sr (xs := [IntKind.u8.wrap (w64 (48 + a1))]) 94 9 5 0 (.tmp 8)) orcN)) ?_
        exact J_r1 rfl
      · refine J_bind (fun x3 h4 => ?_)
        refine J_bind (fun x5 h6 => ?_)
        refine J_g 14 [] [(2, sv x5)] [] (orcC 2 (x_c0 [(.tmp 11)] [2] (ih (w64 (a1.tdiv 10))) h4) (orcC 7 (x_bp 94 5 1 0 eU8 [IntKind.u8.wrap (w64 (48 + (a1.tmod 10)))] [0] [(.tmp 16)] [uv (IntKind.u8.wrap (w64 (48 + (a1.tmod 10))))]) (orcC 8 (x_b2sr (xs := [IntKind.u8.wrap (w64 (48 + (a1.tmod 10)))]) 94 9 5 0 (.tmp 17)) (orcC 9 (x_cat 9 9 (.tmp 12) (.tmp 18) h6) orcN)))) ?_
        exact J_r1 rfl
  exact key 64 a1

noncomputable def c100 : Code := (Try.f100.body).getD .skip

theorem spec_GenPath.ok (a1 : Int) : Ok Try.prog 100 [iv a1] [] ((spec_GenPath a1).map fun r => (sv r, [])) := by
  refine Ok_of3 c100 Try.f100 0 11 (fun q => ?_)
  unfold spec_GenPath
  refine J_g 2 [] [(0, iv a1)] [] orcN ?_
  refine J_bind (fun x2 h3 => ?_)
  refine J_g 12 [] [(0, iv a1), (5, bv (!x2))] [] (orcC 1 (x_c0 [(.tmp 3), (.const (.int .i64 1)), (.const (.int .i64 999999))] [2, 2, 2] (spec_l1In.ok a1 1 999999) h3) orcN) ?_
  refine J_if2 5 (fun h4 => ?_) (fun h4 => ?_)
  · refine J_g 52 [] [(2, sv (bs []))] [] orcN ?_
    exact J_r1 rfl
  · refine J_bind (fun x5 h6 => ?_)
    refine J_bind (fun x7 h8 => ?_)
    refine J_bind (fun x9 h10 => ?_)
    refine J_g 14 [] [(2, sv x9)] [] (orcC 2 (x_c0 [(.tmp 7)] [2] (spec_l1Decimal.ok (w64 (1000000 + a1))) h6) (orcC 3 (x_ss 9 (.tmp 8) (some (.const (.int .i64 1))) none h8) (orcC 4 (x_cat 9 9 (.const (.string (bs [103, 101, 110, 47]))) (.tmp 9) h10) orcN))) ?_
    exact J_r1 rfl

noncomputable def c63 : Code := (Try.f63.body).getD .skip

theorem spec_l8Gens_l1.ok (a1 : Disk) (x2 : (List ByteArray)) (q : Wd) (kn : (List Int) → Option (D × List Ent)) (hk : ∀ v : (List Int), J (q.g Try.prog 63 1 41) c63 (atI c63 31) (St.mk' [(3, rr 1 v)] [(0, .box (Disk.enc false a1)), (1, rE 1 eI64 v)]) (some v) kn) :
    ∀ s21 : ((List Int) × Int), J (q.g Try.prog 63 1 41) c63 (atI c63 244) (St.mk' [(3, rr 1 s21.1), (4, rr 2 x2), (5, iv s21.2)] [(0, .box (Disk.enc false a1)), (1, rE 1 eI64 s21.1), (2, rE 1 eStr x2)]) (spec_l8Gens_l1 a1 x2 s21) kn := by
  refine J_lp (fun g ih s21 => ?_)
  unfold spec_l8Gens_l1b
  refine J_g 976 [] [(3, rr 1 s21.1), (4, rr 2 x2), (5, iv s21.2), (14, bv (decide (s21.2 < (x2.length : Int))))] [(0, .box (Disk.enc false a1)), (1, rE 1 eI64 s21.1), (2, rE 1 eStr x2)] orcN ?_
  refine J_if2 14 (fun h22 => ?_) (fun h22 => ?_)
  · refine J_bind (fun x23 h24 => ?_)
    refine J_bind (fun x25 h26 => ?_)
    refine J_bind (fun x27 h28 => ?_)
    refine J_g 3912 [] [(3, rr 1 s21.1), (4, rr 2 x2), (5, iv s21.2), (6, iv x27.1), (7, bv x27.2)] [(0, .box (Disk.enc false a1)), (1, rE 1 eI64 s21.1), (2, rE 1 eStr x2)] (orcC 2 (x_ixr (kk := .i64) 56 9 1 2 eStr (.tmp 18) (.tmp 19) h24) (orcC 3 (x_ldr (d := sv x23) 9 1 2 0 eStr (.tmp 20) h24 (by kernel_rfl)) (orcC 4 (x_ss 9 (.tmp 21) (some (.const (.int .i64 4))) none h26) (orcC 5 (x_c0 [(.tmp 22), (.const (.int .i64 6))] [9, 3] (spec_l1Number.ok x25 6) h28) orcN)))) ?_
    refine J_join (atI c63 7827) (fun v34 : Bool => St.mk' [(3, rr 1 s21.1), (4, rr 2 x2), (5, iv s21.2), (6, iv x27.1), (35, bv v34)] [(0, .box (Disk.enc false a1)), (1, rE 1 eI64 s21.1), (2, rE 1 eStr x2)]) (fun v34 => ?_) (fun jv34 => ?_)
    · refine J_join (aft c63 1956) (fun v38 : (List Int) => St.mk' [(3, rr 4 v38), (4, rr 2 x2), (5, iv s21.2)] [(0, .box (Disk.enc false a1)), (2, rE 1 eStr x2), (4, rE 1 eI64 v38)]) (fun v38 => ?_) (fun jv38 => ?_)
      · refine J_g 979 [] [(3, rr 4 v38), (4, rr 2 x2), (5, iv (w64 (s21.2 + 1)))] [(0, .box (Disk.enc false a1)), (2, rE 1 eStr x2), (4, rE 1 eI64 v38)] orcN ?_
        refine J_ren 4 1 (Nat.le_of_ble_eq_true rfl) (Nat.le_of_ble_eq_true rfl) ?_
        exact J_q (J_b (ih (v38, w64 (s21.2 + 1)))) rfl
      · refine J_if2 35 (fun h35 => ?_) (fun h35 => ?_)
        · refine J_bind (fun x36 h37 => ?_)
          refine J_g 15654 [] [(3, rr 4 x36), (4, rr 2 x2), (5, iv s21.2)] [(0, .box (Disk.enc false a1)), (2, rE 1 eStr x2), (4, rE 1 eI64 x36)] (orcC 2 (x_bp 23 2 1 3 eI64 [x27.1] [0] [(.tmp 37)] [iv x27.1]) (orcC 3 (x_ap 23 23 2 2 1 8 4 1 3 eI64 (.tmp 36) (.tmp 38) h37) orcN)) ?_
          exact J_qw (J_j (jv38 x36)) rfl
        · refine J_ren 1 4 (Nat.le_of_ble_eq_true rfl) (Nat.le_of_ble_eq_true rfl) ?_
          exact J_qw (J_j (jv38 s21.1)) rfl
    · refine J_ite (fun h29 => ?_) (fun h29 => ?_)
      · refine J_bind (fun x30 h31 => ?_)
        refine J_bind (fun x32 h33 => ?_)
        refine J_g 7826 [] [(3, rr 1 s21.1), (4, rr 2 x2), (5, iv s21.2), (6, iv x27.1), (35, bv (seq x30 x32))] [(0, .box (Disk.enc false a1)), (1, rE 1 eI64 s21.1), (2, rE 1 eStr x2)] (orcL 1 [(26, bv x27.2)] [] h29 (orcH 3 1 27 true (x_c0 [(.tmp 28)] [2] (spec_GenPath.ok x27.1) h31) (orcH 6 1 27 true (x_ixr (kk := .i64) 56 9 1 2 eStr (.tmp 30) (.tmp 31) h33) (orcH 7 1 27 true (x_ldr (d := sv x32) 9 1 2 0 eStr (.tmp 32) h33 (by kernel_rfl)) orcN)))) ?_
        exact J_qw (J_j (jv34 (seq x30 x32))) rfl
      · refine J_g 7826 [] [(3, rr 1 s21.1), (4, rr 2 x2), (5, iv s21.2), (6, iv x27.1), (35, bv false)] [(0, .box (Disk.enc false a1)), (1, rE 1 eI64 s21.1), (2, rE 1 eStr x2)] (orcL 1 [(26, bv x27.2)] [] h29 orcN) ?_
        exact J_qw (J_j (jv34 false)) rfl
  · exact J_qw (hk s21.1) rfl

theorem spec_l8Gens.ok (a1 : Disk) : Ok Try.prog 63 [pp 0] [.box (Disk.enc false a1)] ((spec_l8Gens a1).map fun r => (so 1 eI64 r, [.box (Disk.enc false a1)])) := by
  refine Ok_of3 c63 Try.f63 1 41 (fun q => ?_)
  unfold spec_l8Gens
  refine J_g 2 [] [(0, pp 0)] [(0, .box (Disk.enc false a1))] orcN ?_
  refine J_g 6 [] [(0, pp 0), (3, rr 1 ([] : List Int))] [(0, .box (Disk.enc false a1)), (1, rE 1 eI64 ([] : List Int))] (orcC 0 (x_bp 23 2 1 1 eI64 ([] : List Int) [] [] []) orcN) ?_
  refine J_bind (fun x2 h3 => ?_)
  refine J_g 14 [] [(3, rr 1 ([] : List Int)), (4, rr 2 x2)] [(0, .box (Disk.enc false a1)), (1, rE 1 eI64 ([] : List Int)), (2, rE 1 eStr x2)] (orcC 1 (x_ro [(0, .box (Disk.enc false a1))] [(2, rE 1 eStr x2)] (x_c1 («as» := [pp 0, sv (bs [103, 101, 110, 47])]) [(.tmp 9), (.const (.string (bs [103, 101, 110, 47])))] [74, 9] false [(0, .box (Disk.enc false a1))] [0] (.cons (.pt rfl) (.cons (.same rfl) (.nil))) (spec_l7Paths.ok a1 (bs [103, 101, 110, 47])) h3 (.own 2))) orcN) ?_
  refine J_g 60 [] [(3, rr 1 ([] : List Int)), (4, rr 2 x2), (5, iv 0)] [(0, .box (Disk.enc false a1)), (1, rE 1 eI64 ([] : List Int)), (2, rE 1 eStr x2)] orcN ?_
  refine J_lq (spec_l8Gens_l1.ok a1 x2 q _ (fun v39 => J_j ?_) (([] : List Int), 0))
  refine J_g 62 [] [(2, rr 1 v39)] [(0, .box (Disk.enc false a1)), (1, rE 1 eI64 v39)] orcN ?_
  exact J_rm (ds := [rr 1 v39]) (ds' := [so 1 eI64 v39]) (.cons (.cell (.move (.tail _ (.head _)) (List.length_map _) (by decide) (.nil))) (.nil) (by decide)) rfl

noncomputable def c64 : Code := (Try.f64.body).getD .skip

theorem spec_l1Has_l1.ok (a1 : (List Int)) (a2 : Int) (q : Wd) (kn : Unit → Option (D × List Ent)) (hk : ∀ v : Unit, J (q.g Try.prog 64 0 18) c64 (atI c64 7) (St.mk' [] []) (some v) kn) :
    ∀ s7 : Int, J (q.g Try.prog 64 0 18) c64 (atI c64 52) (St.mk' [(0, sl 1 eI64 a1), (1, iv a2), (5, iv s7)] []) (spec_l1Has_l1 a1 a2 s7) (Fl.go (fun r : Bool => some (bv r, [])) kn) := by
  refine J_lp (fun g ih s7 => ?_)
  unfold spec_l1Has_l1b
  refine J_g 208 [] [(0, sl 1 eI64 a1), (1, iv a2), (5, iv s7), (9, bv (decide (s7 < (a1.length : Int))))] [] orcN ?_
  refine J_if2 9 (fun h8 => ?_) (fun h8 => ?_)
  · refine J_bind (fun x9 h10 => ?_)
    refine J_g 840 [] [(0, sl 1 eI64 a1), (1, iv a2), (5, iv s7), (17, bv (x9 == a2))] [] (orcC 2 (x_ix (kk := .i64) 23 2 1 eI64 (.tmp 12) (.tmp 13) h10) orcN) ?_
    refine J_if2 17 (fun h11 => ?_) (fun h11 => ?_)
    · refine J_g 3364 [] [(4, bv true)] [] orcN ?_
      exact J_r1 rfl
    · refine J_g 211 [] [(0, sl 1 eI64 a1), (1, iv a2), (5, iv (w64 (s7 + 1)))] [] orcN ?_
      exact J_q (J_b (ih (w64 (s7 + 1)))) rfl
  · exact J_qw (hk ()) rfl

theorem spec_l1Has.ok (a1 : (List Int)) (a2 : Int) : Ok Try.prog 64 [sl 1 eI64 a1, iv a2] [] ((spec_l1Has a1 a2).map fun r => (bv r, [])) := by
  refine Ok_of3 c64 Try.f64 0 18 (fun q => ?_)
  unfold spec_l1Has
  refine J_g 2 [] [(0, sl 1 eI64 a1), (1, iv a2)] [] orcN ?_
  refine J_g 12 [] [(0, sl 1 eI64 a1), (1, iv a2), (5, iv 0)] [] orcN ?_
  refine J_lqF (K0 := (fun r : Bool => some (bv r, []))) (fun _ => rfl) (spec_l1Has_l1.ok a1 a2 q _ (fun v12 => J_j ?_) 0)
  refine J_g 14 [] [(4, bv false)] [] orcN ?_
  exact J_r1 rfl

noncomputable def c65 : Code := (Try.f65.body).getD .skip

theorem spec_l3Put_l1.ok (a1 : (List Int)) (a2 : Int) (q : Wd) (kn : ((List Int) × Bool) → Option (D × List Ent)) (hk : ∀ v : ((List Int) × Bool), J (q.g Try.prog 65 0 43) c65 (atI c65 31) (St.mk' [(1, iv a2), (5, rr 0 v.1), (6, bv v.2)] [(0, rE 1 eI64 v.1)]) (some v) kn) :
    ∀ s16 : ((List Int) × Bool × Int), J (q.g Try.prog 65 0 43) c65 (atI c65 244) (St.mk' [(0, sl 1 eI64 a1), (1, iv a2), (5, rr 0 s16.1), (6, bv s16.2.1), (7, iv s16.2.2)] [(0, rE 1 eI64 s16.1)]) (spec_l3Put_l1 a1 a2 s16) kn := by
  refine J_lp (fun g ih s16 => ?_)
  unfold spec_l3Put_l1b
  refine J_g 976 [] [(0, sl 1 eI64 a1), (1, iv a2), (5, rr 0 s16.1), (6, bv s16.2.1), (7, iv s16.2.2), (12, bv (decide (s16.2.2 < (a1.length : Int))))] [(0, rE 1 eI64 s16.1)] orcN ?_
  refine J_if2 12 (fun h17 => ?_) (fun h17 => ?_)
  · refine J_bind (fun x18 h19 => ?_)
    refine J_join (atI c65 7825) (fun v21 : Bool => St.mk' [(0, sl 1 eI64 a1), (1, iv a2), (5, rr 0 s16.1), (6, bv s16.2.1), (7, iv s16.2.2), (24, bv v21)] [(0, rE 1 eI64 s16.1)]) (fun v21 => ?_) (fun jv21 => ?_)
    · refine J_join (atI c65 3913) (fun v25 : ((List Int) × Bool) => St.mk' [(0, sl 1 eI64 a1), (1, iv a2), (5, rr 2 v25.1), (6, bv v25.2), (7, iv s16.2.2)] [(2, rE 1 eI64 v25.1)]) (fun v25 => ?_) (fun jv25 => ?_)
      · refine J_bind (fun x26 h27 => ?_)
        refine J_bind (fun x28 h29 => ?_)
        refine J_g 3913 [] [(0, sl 1 eI64 a1), (1, iv a2), (5, rr 4 x28), (6, bv v25.2), (7, iv s16.2.2)] [(4, rE 1 eI64 x28)] (orcC 3 (x_ix (kk := .i64) 23 2 1 eI64 (.tmp 30) (.tmp 31) h27) (orcC 5 (x_bp 23 2 1 3 eI64 [x26] [0] [(.tmp 33)] [iv x26]) (orcC 6 (x_ap 23 23 2 2 1 8 4 2 3 eI64 (.tmp 29) (.tmp 34) h29) orcN))) ?_
        refine J_g 979 [] [(0, sl 1 eI64 a1), (1, iv a2), (5, rr 4 x28), (6, bv v25.2), (7, iv (w64 (s16.2.2 + 1)))] [(4, rE 1 eI64 x28)] orcN ?_
        refine J_ren 4 0 (Nat.le_of_ble_eq_true rfl) (Nat.le_of_ble_eq_true rfl) ?_
        exact J_q (J_b (ih (x28, v25.2, w64 (s16.2.2 + 1)))) rfl
      · refine J_if2 24 (fun h22 => ?_) (fun h22 => ?_)
        · refine J_bind (fun x23 h24 => ?_)
          refine J_g 31300 [] [(0, sl 1 eI64 a1), (1, iv a2), (5, rr 2 x23), (7, iv s16.2.2)] [(2, rE 1 eI64 x23)] (orcC 2 (x_bp 23 2 1 1 eI64 [a2] [0] [(.tmp 26)] [iv a2]) (orcC 3 (x_ap 23 23 2 2 1 8 2 0 1 eI64 (.tmp 25) (.tmp 27) h24) orcN)) ?_
          refine J_g 31301 [] [(0, sl 1 eI64 a1), (1, iv a2), (5, rr 2 x23), (6, bv true), (7, iv s16.2.2)] [(2, rE 1 eI64 x23)] orcN ?_
          exact J_qw (J_j (jv25 (x23, true))) rfl
        · refine J_ren 0 2 (Nat.le_of_ble_eq_true rfl) (Nat.le_of_ble_eq_true rfl) ?_
          exact J_qw (J_j (jv25 (s16.1, s16.2.1))) rfl
    · refine J_ite (fun h20 => ?_) (fun h20 => ?_)
      · refine J_g 7824 [] [(0, sl 1 eI64 a1), (1, iv a2), (5, rr 0 s16.1), (6, bv s16.2.1), (7, iv s16.2.2), (24, bv (!s16.2.1))] [(0, rE 1 eI64 s16.1)] (orcC 2 (x_ix (kk := .i64) 23 2 1 eI64 (.tmp 15) (.tmp 16) h19) (orcL 6 [(20, bv (decide (x18 > a2)))] [] h20 orcN)) ?_
        exact J_qw (J_j (jv21 (!s16.2.1))) rfl
      · refine J_g 7824 [] [(0, sl 1 eI64 a1), (1, iv a2), (5, rr 0 s16.1), (6, bv s16.2.1), (7, iv s16.2.2), (24, bv false)] [(0, rE 1 eI64 s16.1)] (orcC 2 (x_ix (kk := .i64) 23 2 1 eI64 (.tmp 15) (.tmp 16) h19) (orcL 6 [(20, bv (decide (x18 > a2)))] [] h20 orcN)) ?_
        exact J_qw (J_j (jv21 false)) rfl
  · exact J_qw (hk (s16.1, s16.2.1)) rfl

theorem spec_l3Put.ok (a1 : (List Int)) (a2 : Int) : Ok Try.prog 65 [sl 1 eI64 a1, iv a2] [] ((spec_l3Put a1 a2).map fun r => (so 1 eI64 r, [])) := by
  refine Ok_of3 c65 Try.f65 0 43 (fun q => ?_)
  unfold spec_l3Put
  refine J_g 2 [] [(0, sl 1 eI64 a1), (1, iv a2)] [] orcN ?_
  refine J_g 6 [] [(0, sl 1 eI64 a1), (1, iv a2), (5, rr 0 ([] : List Int))] [(0, rE 1 eI64 ([] : List Int))] (orcC 0 (x_bp 23 2 1 0 eI64 ([] : List Int) [] [] []) orcN) ?_
  refine J_g 14 [] [(0, sl 1 eI64 a1), (1, iv a2), (5, rr 0 ([] : List Int)), (6, bv false)] [(0, rE 1 eI64 ([] : List Int))] orcN ?_
  refine J_g 60 [] [(0, sl 1 eI64 a1), (1, iv a2), (5, rr 0 ([] : List Int)), (6, bv false), (7, iv 0)] [(0, rE 1 eI64 ([] : List Int))] orcN ?_
  refine J_lq (spec_l3Put_l1.ok a1 a2 q _ (fun v30 => J_j ?_) (([] : List Int), false, 0))
  refine J_g 124 [] [(1, iv a2), (5, rr 0 v30.1), (37, bv (!v30.2))] [(0, rE 1 eI64 v30.1)] orcN ?_
  refine J_join (atI c65 63) (fun v34 : (List Int) => St.mk' [(5, rr 2 v34)] [(2, rE 1 eI64 v34)]) (fun v34 => ?_) (fun jv34 => ?_)
  · refine J_g 126 [] [(4, rr 2 v34)] [(2, rE 1 eI64 v34)] orcN ?_
    exact J_rm (ds := [rr 2 v34]) (ds' := [so 1 eI64 v34]) (.cons (.cell (.move (.head _) (List.length_map _) (by decide) (.nil))) (.nil) (by decide)) rfl
  · refine J_if2 37 (fun h31 => ?_) (fun h31 => ?_)
    · refine J_bind (fun x32 h33 => ?_)
      refine J_g 250 [] [(5, rr 2 x32)] [(2, rE 1 eI64 x32)] (orcC 2 (x_bp 23 2 1 1 eI64 [a2] [0] [(.tmp 39)] [iv a2]) (orcC 3 (x_ap 23 23 2 2 1 8 2 0 1 eI64 (.tmp 38) (.tmp 40) h33) orcN)) ?_
      exact J_qw (J_j (jv34 x32)) rfl
    · refine J_ren 0 2 (Nat.le_of_ble_eq_true rfl) (Nat.le_of_ble_eq_true rfl) ?_
      exact J_qw (J_j (jv34 v30.1)) rfl

noncomputable def c101 : Code := (Try.f101.body).getD .skip

theorem spec_l7Find_l1.ok (a1 : Disk) (a2 : ByteArray) (q : Wd) (kn : Unit → Option (D × List Ent)) (hk : ∀ v : Unit, J (q.g Try.prog 101 1 26) c101 (atI c101 7) (St.mk' [] [(0, .box (Disk.enc false a1))]) (some v) kn) :
    ∀ s7 : Int, J (q.g Try.prog 101 1 26) c101 (atI c101 52) (St.mk' [(0, pp 0), (1, sv a2), (5, iv s7)] [(0, .box (Disk.enc false a1))]) (spec_l7Find_l1 a1 a2 s7) (Fl.go (fun r : Int => some (iv r, [.box (Disk.enc false a1)])) kn) := by
  refine J_lp (fun g ih s7 => ?_)
  unfold spec_l7Find_l1b
  refine J_g 208 [] [(0, pp 0), (1, sv a2), (5, iv s7), (12, bv (decide (s7 < (a1.Files.length : Int))))] [(0, .box (Disk.enc false a1))] orcN ?_
  refine J_if2 12 (fun h8 => ?_) (fun h8 => ?_)
  · refine J_bind (fun x9 h10 => ?_)
    refine J_g 840 [] [(0, pp 0), (1, sv a2), (5, iv s7), (24, bv (seq x9.Path a2))] [(0, .box (Disk.enc false a1))] (orcC 5 (x_ix (kk := .i64) 43 99 2 (File.enc false) (.tmp 18) (.tmp 19) h10) orcN) ?_
    refine J_if2 24 (fun h11 => ?_) (fun h11 => ?_)
    · refine J_g 3364 [] [(4, iv s7)] [(0, .box (Disk.enc false a1))] orcN ?_
      exact J_r1 rfl
    · refine J_g 211 [] [(0, pp 0), (1, sv a2), (5, iv (w64 (s7 + 1)))] [(0, .box (Disk.enc false a1))] orcN ?_
      exact J_q (J_b (ih (w64 (s7 + 1)))) rfl
  · exact J_qw (hk ()) rfl

theorem spec_l7Find.ok (a1 : Disk) (a2 : ByteArray) : Ok Try.prog 101 [pp 0, sv a2] [.box (Disk.enc false a1)] ((spec_l7Find a1 a2).map fun r => (iv r, [.box (Disk.enc false a1)])) := by
  refine Ok_of3 c101 Try.f101 1 26 (fun q => ?_)
  unfold spec_l7Find
  refine J_g 2 [] [(0, pp 0), (1, sv a2)] [(0, .box (Disk.enc false a1))] orcN ?_
  refine J_g 12 [] [(0, pp 0), (1, sv a2), (5, iv 0)] [(0, .box (Disk.enc false a1))] orcN ?_
  refine J_lqF (K0 := (fun r : Int => some (iv r, [.box (Disk.enc false a1)]))) (fun _ => rfl) (spec_l7Find_l1.ok a1 a2 q _ (fun v12 => J_j ?_) 0)
  refine J_g 14 [] [(4, iv (-1))] [(0, .box (Disk.enc false a1))] orcN ?_
  exact J_r1 rfl

noncomputable def c66 : Code := (Try.f66.body).getD .skip

theorem spec_l8Current.ok (a1 : Disk) : Ok Try.prog 66 [pp 0] [.box (Disk.enc false a1)] ((spec_l8Current a1).map fun r => (iv r, [.box (Disk.enc false a1)])) := by
  refine Ok_of3 c66 Try.f66 1 33 (fun q => ?_)
  unfold spec_l8Current
  refine J_g 2 [] [(0, pp 0)] [(0, .box (Disk.enc false a1))] orcN ?_
  refine J_bind (fun x2 h3 => ?_)
  refine J_g 6 [] [(0, pp 0), (3, iv x2)] [(0, .box (Disk.enc false a1))] (orcC 1 (x_ro [(0, .box (Disk.enc false a1))] [] (x_c1 («as» := [pp 0, sv (bs [99, 117, 114])]) [(.tmp 6), (.const (.string (bs [99, 117, 114])))] [74, 9] false [(0, .box (Disk.enc false a1))] [0] (.cons (.pt rfl) (.cons (.same rfl) (.nil))) (spec_l7Find.ok a1 (bs [99, 117, 114])) h3 (.same rfl rfl))) orcN) ?_
  refine J_g 28 [] [(0, pp 0), (3, iv x2), (9, bv (decide (x2 < 0)))] [(0, .box (Disk.enc false a1))] orcN ?_
  refine J_if2 9 (fun h4 => ?_) (fun h4 => ?_)
  · refine J_g 116 [] [(2, iv 0)] [(0, .box (Disk.enc false a1))] orcN ?_
    exact J_r1 rfl
  · refine J_bind (fun x5 h6 => ?_)
    refine J_bind (fun x7 h8 => ?_)
    refine J_g 30 [] [(0, pp 0), (4, iv x7.1), (5, bv x7.2)] [(0, .box (Disk.enc false a1))] (orcC 5 (x_ix (kk := .i64) 43 99 2 (File.enc false) (.tmp 14) (.tmp 15) h6) (orcC 8 (x_b2s (xs := x5.Data) 94 9 5 (.tmp 18)) (orcC 9 (x_c0 [(.tmp 19), (.const (.int .i64 6))] [9, 3] (spec_l1Number.ok (b2s x5.Data) 6) h8) orcN))) ?_
    refine J_join (atI c66 125) (fun v14 : Bool => St.mk' [(4, iv x7.1), (31, bv v14)] [(0, .box (Disk.enc false a1))]) (fun v14 => ?_) (fun jv14 => ?_)
    · refine J_if2 31 (fun h15 => ?_) (fun h15 => ?_)
      · refine J_g 500 [] [(2, iv 0)] [(0, .box (Disk.enc false a1))] orcN ?_
        exact J_r1 rfl
      · refine J_g 126 [] [(2, iv x7.1)] [(0, .box (Disk.enc false a1))] orcN ?_
        exact J_r1 rfl
    · refine J_ite (fun h9 => ?_) (fun h9 => ?_)
      · refine J_g 124 [] [(4, iv x7.1), (31, bv true)] [(0, .box (Disk.enc false a1))] (orcL 2 [(24, bv (!x7.2))] [] h9 orcN) ?_
        exact J_qw (J_j (jv14 true)) rfl
      · refine J_bind (fun x10 h11 => ?_)
        refine J_bind (fun x12 h13 => ?_)
        refine J_g 124 [] [(4, iv x7.1), (31, bv (!x12))] [(0, .box (Disk.enc false a1))] (orcL 2 [(24, bv (!x7.2))] [] h9 (orcH 4 2 25 false (x_ro [(0, .box (Disk.enc false a1))] [(1, rE 1 eI64 x10)] (x_c1 («as» := [pp 0]) [(.tmp 26)] [74] false [(0, .box (Disk.enc false a1))] [0] (.cons (.pt rfl) (.nil)) (spec_l8Gens.ok a1) h11 (.own 1))) (orcH 6 2 25 false (x_c1 («as» := [rr 1 x10, iv x7.1]) [(.tmp 27), (.tmp 28)] [23, 2] true [(1, rE 1 eI64 x10)] [] (.cons (am_b (.head _) (fun _ => rfl) rfl) (.cons (.same rfl) (.nil))) (spec_l1Has.ok x10 x7.1) h13 (.same rfl rfl) (hbor := fun _ => ⟨rfl, flat_sc⟩)) orcN))) ?_
        exact J_qw (J_j (jv14 (!x12))) rfl

noncomputable def c36 : Code := (Try.f36.body).getD .skip

theorem spec_l10Kept_l1.ok (a1 : Disk) (a2 : (List Int)) (x4 : (List Int)) (q : Wd) (kn : (List Int) → Option (D × List Ent)) (hk : ∀ v : (List Int), J (q.g Try.prog 36 1 54) c36 (atI c36 63) (St.mk' [(0, pp 0), (7, rr 2 v)] [(0, .box (Disk.enc false a1)), (2, rE 1 eI64 v)]) (some v) kn) :
    ∀ s22 : ((List Int) × Int), J (q.g Try.prog 36 1 54) c36 (atI c36 500) (St.mk' [(0, pp 0), (1, sl 1 eI64 a2), (6, rr 1 x4), (7, rr 2 s22.1), (8, iv s22.2)] [(0, .box (Disk.enc false a1)), (1, rE 1 eI64 x4), (2, rE 1 eI64 s22.1)]) (spec_l10Kept_l1 a1 a2 x4 s22) (Fl.go (fun r : ((List Int) × Int) => some (.tu [so 1 eI64 r.1, iv r.2], [.box (Disk.enc false a1)])) kn) := by
  refine J_lp (fun g ih s22 => ?_)
  unfold spec_l10Kept_l1b
  refine J_g 2000 [] [(0, pp 0), (1, sl 1 eI64 a2), (6, rr 1 x4), (7, rr 2 s22.1), (8, iv s22.2), (19, bv (decide (s22.2 < (a2.length : Int))))] [(0, .box (Disk.enc false a1)), (1, rE 1 eI64 x4), (2, rE 1 eI64 s22.1)] orcN ?_
  refine J_if2 19 (fun h23 => ?_) (fun h23 => ?_)
  · refine J_bind (fun x24 h25 => ?_)
    refine J_bind (fun x26 h27 => ?_)
    refine J_g 16016 [] [(0, pp 0), (1, sl 1 eI64 a2), (6, rr 1 x4), (7, rr 2 s22.1), (8, iv s22.2), (28, bv (!x26))] [(0, .box (Disk.enc false a1)), (1, rE 1 eI64 x4), (2, rE 1 eI64 s22.1)] (orcC 3 (x_ix (kk := .i64) 23 2 1 eI64 (.tmp 23) (.tmp 24) h25) (orcC 5 (x_c1 («as» := [rr 1 x4, iv x24]) [(.tmp 22), (.tmp 26)] [23, 2] true [(1, rE 1 eI64 x4)] [] (.cons (am_b (.head _) (fun _ => rfl) rfl) (.cons (.same rfl) (.nil))) (spec_l1Has.ok x4 x24) h27 (.same rfl rfl) (hbor := fun _ => ⟨rfl, flat_sc⟩)) orcN)) ?_
    refine J_if2 28 (fun h28 => ?_) (fun h28 => ?_)
    · refine J_g 64068 [] [(4, nv), (5, iv 4)] [(0, .box (Disk.enc false a1))] orcN ?_
      exact J_rm (ds := [nv, iv 4]) (ds' := [so 1 eI64 ([] : List Int), iv 4]) (.cons (.cell (.nilsl true 1 (.nil))) (.cons (.cell (.keep rfl (.nil))) (.nil) (by decide)) (by decide)) rfl
    · refine J_bind (fun x29 h30 => ?_)
      refine J_bind (fun x31 h32 => ?_)
      refine J_g 16018 [] [(0, pp 0), (1, sl 1 eI64 a2), (6, rr 1 x4), (7, rr 2 s22.1), (8, iv s22.2), (35, bv (!x31))] [(0, .box (Disk.enc false a1)), (1, rE 1 eI64 x4), (2, rE 1 eI64 s22.1)] (orcC 3 (x_ix (kk := .i64) 23 2 1 eI64 (.tmp 30) (.tmp 31) h30) (orcC 5 (x_c1 («as» := [rr 2 s22.1, iv x29]) [(.tmp 29), (.tmp 33)] [23, 2] true [(2, rE 1 eI64 s22.1)] [] (.cons (am_b (.head _) (fun _ => rfl) rfl) (.cons (.same rfl) (.nil))) (spec_l1Has.ok s22.1 x29) h32 (.same rfl rfl) (hbor := fun _ => ⟨rfl, flat_sc⟩)) orcN)) ?_
      refine J_join (aft c36 4004) (fun v38 : (List Int) => St.mk' [(0, pp 0), (1, sl 1 eI64 a2), (6, rr 1 x4), (7, rr 3 v38), (8, iv s22.2)] [(0, .box (Disk.enc false a1)), (1, rE 1 eI64 x4), (3, rE 1 eI64 v38)]) (fun v38 => ?_) (fun jv38 => ?_)
      · refine J_g 2003 [] [(0, pp 0), (1, sl 1 eI64 a2), (6, rr 1 x4), (7, rr 3 v38), (8, iv (w64 (s22.2 + 1)))] [(0, .box (Disk.enc false a1)), (1, rE 1 eI64 x4), (3, rE 1 eI64 v38)] orcN ?_
        refine J_ren 3 2 (Nat.le_of_ble_eq_true rfl) (Nat.le_of_ble_eq_true rfl) ?_
        exact J_q (J_b (ih (v38, w64 (s22.2 + 1)))) rfl
      · refine J_if2 35 (fun h33 => ?_) (fun h33 => ?_)
        · refine J_bind (fun x34 h35 => ?_)
          refine J_bind (fun x36 h37 => ?_)
          refine J_g 32038 [] [(0, pp 0), (1, sl 1 eI64 a2), (6, rr 1 x4), (7, rr 3 x36), (8, iv s22.2)] [(0, .box (Disk.enc false a1)), (1, rE 1 eI64 x4), (3, rE 1 eI64 x36)] (orcC 3 (x_ix (kk := .i64) 23 2 1 eI64 (.tmp 37) (.tmp 38) h35) (orcC 5 (x_c1 («as» := [rr 2 s22.1, iv x34]) [(.tmp 36), (.tmp 40)] [23, 2] true [(2, rE 1 eI64 s22.1)] [] (.cons (am_b (.head _) (fun _ => rfl) rfl) (.cons (.same rfl) (.nil))) (spec_l3Put.ok s22.1 x34) h37 (.own 3) (hbor := fun _ => ⟨rfl, (flat_s (flatM (fun _ => (flatK flat_sc flatN)) _))⟩)) orcN)) ?_
          exact J_qw (J_j (jv38 x36)) rfl
        · refine J_ren 2 3 (Nat.le_of_ble_eq_true rfl) (Nat.le_of_ble_eq_true rfl) ?_
          exact J_qw (J_j (jv38 s22.1)) rfl
  · exact J_qw (hk s22.1) rfl

theorem spec_l10Kept.ok (a1 : Disk) (a2 : (List Int)) : Ok Try.prog 36 [pp 0, sl 1 eI64 a2] [.box (Disk.enc false a1)] ((spec_l10Kept a1 a2).map fun r => (.tu [so 1 eI64 r.1, iv r.2], [.box (Disk.enc false a1)])) := by
  refine Ok_of3 c36 Try.f36 1 54 (fun q => ?_)
  unfold spec_l10Kept
  refine J_g 2 [] [(0, pp 0), (1, sl 1 eI64 a2)] [(0, .box (Disk.enc false a1))] orcN ?_
  refine J_g 12 [] [(0, pp 0), (1, sl 1 eI64 a2), (12, bv (decide ((a2.length : Int) > 40)))] [(0, .box (Disk.enc false a1))] orcN ?_
  refine J_if2 12 (fun h3 => ?_) (fun h3 => ?_)
  · refine J_g 52 [] [(4, nv), (5, iv 2)] [(0, .box (Disk.enc false a1))] orcN ?_
    exact J_rm (ds := [nv, iv 2]) (ds' := [so 1 eI64 ([] : List Int), iv 2]) (.cons (.cell (.nilsl true 1 (.nil))) (.cons (.cell (.keep rfl (.nil))) (.nil) (by decide)) (by decide)) rfl
  · refine J_bind (fun x4 h5 => ?_)
    refine J_g 14 [] [(0, pp 0), (1, sl 1 eI64 a2), (6, rr 1 x4)] [(0, .box (Disk.enc false a1)), (1, rE 1 eI64 x4)] (orcC 1 (x_ro [(0, .box (Disk.enc false a1))] [(1, rE 1 eI64 x4)] (x_c1 («as» := [pp 0]) [(.tmp 13)] [74] false [(0, .box (Disk.enc false a1))] [0] (.cons (.pt rfl) (.nil)) (spec_l8Gens.ok a1) h5 (.own 1))) orcN) ?_
    refine J_g 30 [] [(0, pp 0), (1, sl 1 eI64 a2), (6, rr 1 x4), (7, rr 2 ([] : List Int))] [(0, .box (Disk.enc false a1)), (1, rE 1 eI64 x4), (2, rE 1 eI64 ([] : List Int))] (orcC 0 (x_bp 23 2 1 2 eI64 ([] : List Int) [] [] []) orcN) ?_
    refine J_g 124 [] [(0, pp 0), (1, sl 1 eI64 a2), (6, rr 1 x4), (7, rr 2 ([] : List Int)), (8, iv 0)] [(0, .box (Disk.enc false a1)), (1, rE 1 eI64 x4), (2, rE 1 eI64 ([] : List Int))] orcN ?_
    refine J_lqF (K0 := (fun r : ((List Int) × Int) => some (.tu [so 1 eI64 r.1, iv r.2], [.box (Disk.enc false a1)]))) (fun _ => rfl) (spec_l10Kept_l1.ok a1 a2 x4 q _ (fun v39 => J_j ?_) (([] : List Int), 0))
    refine J_bind (fun x40 h41 => ?_)
    refine J_g 126 [] [(7, rr 2 v39), (9, iv x40)] [(0, .box (Disk.enc false a1)), (2, rE 1 eI64 v39)] (orcC 1 (x_ro [(0, .box (Disk.enc false a1))] [] (x_c1 («as» := [pp 0]) [(.tmp 42)] [74] false [(0, .box (Disk.enc false a1))] [0] (.cons (.pt rfl) (.nil)) (spec_l8Current.ok a1) h41 (.same rfl rfl))) orcN) ?_
    refine J_g 508 [] [(7, rr 2 v39), (9, iv x40), (45, bv (x40 == 0))] [(0, .box (Disk.enc false a1)), (2, rE 1 eI64 v39)] orcN ?_
    refine J_if2 45 (fun h42 => ?_) (fun h42 => ?_)
    · refine J_g 2036 [] [(4, nv), (5, iv 4)] [(0, .box (Disk.enc false a1))] orcN ?_
      exact J_rm (ds := [nv, iv 4]) (ds' := [so 1 eI64 ([] : List Int), iv 4]) (.cons (.cell (.nilsl true 1 (.nil))) (.cons (.cell (.keep rfl (.nil))) (.nil) (by decide)) (by decide)) rfl
    · refine J_bind (fun x43 h44 => ?_)
      refine J_g 1020 [] [(7, rr 2 v39), (9, iv x40), (49, bv (!x43))] [(0, .box (Disk.enc false a1)), (2, rE 1 eI64 v39)] (orcC 2 (x_c1 («as» := [rr 2 v39, iv x40]) [(.tmp 46), (.tmp 47)] [23, 2] true [(2, rE 1 eI64 v39)] [] (.cons (am_b (.head _) (fun _ => rfl) rfl) (.cons (.same rfl) (.nil))) (spec_l1Has.ok v39 x40) h44 (.same rfl rfl) (hbor := fun _ => ⟨rfl, flat_sc⟩)) orcN) ?_
      refine J_join (atI c36 511) (fun v48 : (List Int) => St.mk' [(7, rr 3 v48)] [(0, .box (Disk.enc false a1)), (3, rE 1 eI64 v48)]) (fun v48 => ?_) (fun jv48 => ?_)
      · refine J_g 1022 [] [(4, rr 3 v48), (5, iv 0)] [(0, .box (Disk.enc false a1)), (3, rE 1 eI64 v48)] orcN ?_
        exact J_rm (ds := [rr 3 v48, iv 0]) (ds' := [so 1 eI64 v48, iv 0]) (.cons (.cell (.move (.tail _ (.head _)) (List.length_map _) (by decide) (.nil))) (.cons (.cell (.keep rfl (.nil))) (.nil) (by decide)) (by decide)) rfl
      · refine J_if2 49 (fun h45 => ?_) (fun h45 => ?_)
        · refine J_bind (fun x46 h47 => ?_)
          refine J_g 2042 [] [(7, rr 3 x46)] [(0, .box (Disk.enc false a1)), (3, rE 1 eI64 x46)] (orcC 2 (x_c1 («as» := [rr 2 v39, iv x40]) [(.tmp 50), (.tmp 51)] [23, 2] true [(2, rE 1 eI64 v39)] [] (.cons (am_b (.head _) (fun _ => rfl) rfl) (.cons (.same rfl) (.nil))) (spec_l3Put.ok v39 x40) h47 (.own 3) (hbor := fun _ => ⟨rfl, (flat_s (flatM (fun _ => (flatK flat_sc flatN)) _))⟩)) orcN) ?_
          exact J_qw (J_j (jv48 x46)) rfl
        · refine J_ren 2 3 (Nat.le_of_ble_eq_true rfl) (Nat.le_of_ble_eq_true rfl) ?_
          exact J_qw (J_j (jv48 v39)) rfl

noncomputable def c16 : Code := (Try.f16.body).getD .skip

theorem spec_KeptGens.ok (a1 : Disk) (a2 : (List Int)) : Ok Try.prog 16 [.ag (Disk.enc false a1), sl 1 eI64 a2] [] ((spec_KeptGens a1 a2).map fun r => (.ag [iv r.Code, so 1 eI64 r.Gens], [])) := by
  refine Ok_of3 c16 Try.f16 0 22 (fun q => ?_)
  unfold spec_KeptGens
  refine J_g 2 [(0, 0), (1, 1)] [(1, sl 1 eI64 a2), (2, pp 0), (4, pp 1)] [(0, .box (Disk.enc false a1)), (1, .box [iv 0, nv])] orcN ?_
  refine J_bind (fun x3 h4 => ?_)
  refine J_g 12 [] [(1, sl 1 eI64 a2), (2, pp 0), (4, pp 1), (5, iv x3)] [(0, .box (Disk.enc false a1)), (1, .box [iv 0, nv])] (orcC 1 (x_c0 [(.tmp 8)] [45] (spec_DiskFault.ok a1) h4) orcN) ?_
  refine J_g 26 [] [(1, sl 1 eI64 a2), (2, pp 0), (4, pp 1), (5, iv x3), (11, bv (x3 != 0))] [(0, .box (Disk.enc false a1)), (1, .box [iv 0, nv])] orcN ?_
  refine J_if2 11 (fun h5 => ?_) (fun h5 => ?_)
  · refine J_g 108 [] [(4, pp 1)] [(1, .box [iv x3, nv])] orcN ?_
    exact J_rm (ds := [.ag [iv x3, nv]]) (ds' := [.ag [iv x3, so 1 eI64 ([] : List Int)]]) (.cons (.ag (.keep rfl (.nilsl true 1 (.nil)))) (.nil) (by decide)) rfl
  · refine J_bind (fun x6 h7 => ?_)
    refine J_g 14 [] [(4, pp 1), (6, rr 2 x6.1), (7, iv x6.2)] [(1, .box [iv 0, nv]), (2, rE 1 eI64 x6.1)] (orcC 1 (x_ro [(0, .box (Disk.enc false a1))] [(2, rE 1 eI64 x6.1)] (x_c1 («as» := [pp 0, sl 1 eI64 a2]) [(.tmp 2), (.tmp 15)] [74, 23] false [(0, .box (Disk.enc false a1))] [0] (.cons (.pt rfl) (.cons (.same rfl) (.nil))) (spec_l10Kept.ok a1 a2) h7 (.tu (.cons (.own 2) (.cons (.same rfl rfl) (.nil)))))) orcN) ?_
    refine J_g 30 [] [(4, pp 1)] [(1, .box [iv x6.2, rr 2 x6.1]), (2, rE 1 eI64 x6.1)] orcN ?_
    exact J_rm (ds := [.ag [iv x6.2, rr 2 x6.1]]) (ds' := [.ag [iv x6.2, so 1 eI64 x6.1]]) (.cons (.ag (.keep rfl (.move (.tail _ (.head _)) (List.length_map _) (by decide) (.nil)))) (.nil) (by decide)) rfl

noncomputable def c68 : Code := (Try.f68.body).getD .skip

theorem impl_within.ok (a1 : Int) (a2 : Int) (a3 : Int) : Ok Try.prog 68 [iv a1, iv a2, iv a3] [] ((impl_within a1 a2 a3).map fun r => (bv r, [])) := by
  refine Ok_of3 c68 Try.f68 0 15 (fun q => ?_)
  unfold impl_within
  refine J_g 2 [] [(0, iv a1), (1, iv a2), (2, iv a3)] [] orcN ?_
  refine J_ite (fun h4 => ?_) (fun h4 => ?_)
  · refine J_g 6 [] [(6, bv (decide (a1 ≤ a3)))] [] (orcL 3 [(9, bv (decide (a2 ≤ a1)))] [] h4 orcN) ?_
    exact J_r1 rfl
  · refine J_g 6 [] [(6, bv false)] [] (orcL 3 [(9, bv (decide (a2 ≤ a1)))] [] h4 orcN) ?_
    exact J_r1 rfl

noncomputable def c103 : Code := (Try.f103.body).getD .skip

theorem impl_isNameByte.ok (a1 : Int) : Ok Try.prog 103 [uv a1] [] ((impl_isNameByte a1).map fun r => (bv r, [])) := by
  refine Ok_of3 c103 Try.f103 0 21 (fun q => ?_)
  unfold impl_isNameByte
  refine J_g 2 [] [(0, uv a1)] [] orcN ?_
  refine J_ite (fun h2 => ?_) (fun h2 => ?_)
  · refine J_ite (fun h3 => ?_) (fun h3 => ?_)
    · refine J_g 6 [] [(2, bv true)] [] (orcL 2 [(4, bv (decide (a1 ≥ 97)))] [] h2 (orcL 6 [(8, bv (decide (a1 ≤ 122)))] [] h3 (orcV 9 (orcU (i := 9) (g := 6) (t := 9) (b := false) (v := (.bool true)) (.inl rfl) (by kernel_rfl) (by kernel_rfl)) (orcV 10 (orcU (i := 10) (g := 9) (t := 12) (b := true) (v := undef) (.inr rfl) (by kernel_rfl) (by kernel_rfl)) (orcV 11 (orcU (i := 11) (g := 9) (t := 12) (b := true) (v := undef) (.inr rfl) (by kernel_rfl) (by kernel_rfl)) orcN))))) ?_
      exact J_r1 rfl
    · refine J_ite (fun h4 => ?_) (fun h4 => ?_)
      · refine J_ite (fun h5 => ?_) (fun h5 => ?_)
        · refine J_g 6 [] [(2, bv true)] [] (orcL 2 [(4, bv (decide (a1 ≥ 97)))] [] h2 (orcL 6 [(8, bv (decide (a1 ≤ 122)))] [] h3 (orcLG 9 6 9 false [(11, bv (decide (a1 ≥ 48)))] [] h4 (orcL 14 [(16, bv (decide (a1 ≤ 57)))] [] h5 orcN)))) ?_
          exact J_r1 rfl
        · refine J_g 6 [] [(2, bv (a1 == 95))] [] (orcL 2 [(4, bv (decide (a1 ≥ 97)))] [] h2 (orcL 6 [(8, bv (decide (a1 ≤ 122)))] [] h3 (orcLG 9 6 9 false [(11, bv (decide (a1 ≥ 48)))] [] h4 (orcL 14 [(16, bv (decide (a1 ≤ 57)))] [] h5 orcN)))) ?_
          exact J_r1 rfl
      · refine J_g 6 [] [(2, bv (a1 == 95))] [] (orcL 2 [(4, bv (decide (a1 ≥ 97)))] [] h2 (orcL 6 [(8, bv (decide (a1 ≤ 122)))] [] h3 (orcLG 9 6 9 false [(11, bv (decide (a1 ≥ 48)))] [] h4 orcN))) ?_
        exact J_r1 rfl
  · refine J_ite (fun h6 => ?_) (fun h6 => ?_)
    · refine J_ite (fun h7 => ?_) (fun h7 => ?_)
      · refine J_g 6 [] [(2, bv true)] [] (orcL 2 [(4, bv (decide (a1 ≥ 97)))] [] h2 (orcLG 9 6 9 false [(11, bv (decide (a1 ≥ 48)))] [] h6 (orcL 14 [(16, bv (decide (a1 ≤ 57)))] [] h7 orcN))) ?_
        exact J_r1 rfl
      · refine J_g 6 [] [(2, bv (a1 == 95))] [] (orcL 2 [(4, bv (decide (a1 ≥ 97)))] [] h2 (orcLG 9 6 9 false [(11, bv (decide (a1 ≥ 48)))] [] h6 (orcL 14 [(16, bv (decide (a1 ≤ 57)))] [] h7 orcN))) ?_
        exact J_r1 rfl
    · refine J_g 6 [] [(2, bv (a1 == 95))] [] (orcL 2 [(4, bv (decide (a1 ≥ 97)))] [] h2 (orcLG 9 6 9 false [(11, bv (decide (a1 ≥ 48)))] [] h6 orcN)) ?_
      exact J_r1 rfl

noncomputable def c69 : Code := (Try.f69.body).getD .skip

theorem impl_PathFault_l1.ok (a1 : ByteArray) (q : Wd) (kn : Unit → Option (D × List Ent)) (hk : ∀ v : Unit, J (q.g Try.prog 69 0 37) c69 (atI c69 15) (St.mk' [] []) (some v) kn) :
    ∀ s15 : Int, J (q.g Try.prog 69 0 37) c69 (atI c69 116) (St.mk' [(0, sv a1), (14, iv (a1.size : Int)), (15, iv s15)] []) (impl_PathFault_l1 a1 s15) (Fl.go (fun r : Int => some (iv r, [])) kn) := by
  refine J_lp (fun g ih s15 => ?_)
  unfold impl_PathFault_l1b
  refine J_g 232 [] [(0, sv a1), (14, iv (a1.size : Int)), (15, iv s15), (16, bv (decide (s15 < (a1.size : Int))))] [] orcN ?_
  refine J_if2 16 (fun h16 => ?_) (fun h16 => ?_)
  · refine J_g 3736 [] [(0, sv a1), (3, iv s15), (14, iv (a1.size : Int)), (15, iv s15)] [] orcN ?_
    refine J_bind (fun x17 h18 => ?_)
    refine J_g 7474 [] [(0, sv a1), (4, uv x17), (14, iv (a1.size : Int)), (15, iv s15)] [] (orcC 2 (x_bi (kk := .i64) 9 (.tmp 18) (.tmp 19) h18) orcN) ?_
    refine J_bind (fun x19 h20 => ?_)
    refine J_join (atI c69 14951) (fun v24 : Bool => St.mk' [(0, sv a1), (14, iv (a1.size : Int)), (15, iv s15), (35, bv v24)] []) (fun v24 => ?_) (fun jv24 => ?_)
    · refine J_if2 35 (fun h25 => ?_) (fun h25 => ?_)
      · refine J_g 59804 [] [(2, iv 5)] [] orcN ?_
        exact J_r1 rfl
      · refine J_g 935 [] [(0, sv a1), (14, iv (a1.size : Int)), (15, iv (w64 (s15 + 1)))] [] orcN ?_
        exact J_q (J_b (ih (w64 (s15 + 1)))) rfl
    · refine J_ite (fun h21 => ?_) (fun h21 => ?_)
      · refine J_ite (fun h22 => ?_) (fun h22 => ?_)
        · refine J_ite (fun h23 => ?_) (fun h23 => ?_)
          · refine J_g 14950 [] [(0, sv a1), (14, iv (a1.size : Int)), (15, iv s15), (35, bv (x17 != 47))] [] (orcC 1 (x_c0 [(.tmp 21)] [5] (impl_isNameByte.ok x17) h20) (orcL 3 [(23, bv (!x19))] [] h21 (orcL 7 [(27, bv (x17 != 46))] [] h22 (orcL 11 [(31, bv (x17 != 45))] [] h23 orcN)))) ?_
            exact J_qw (J_j (jv24 (x17 != 47))) rfl
          · refine J_g 14950 [] [(0, sv a1), (14, iv (a1.size : Int)), (15, iv s15), (35, bv false)] [] (orcC 1 (x_c0 [(.tmp 21)] [5] (impl_isNameByte.ok x17) h20) (orcL 3 [(23, bv (!x19))] [] h21 (orcL 7 [(27, bv (x17 != 46))] [] h22 (orcL 11 [(31, bv (x17 != 45))] [] h23 orcN)))) ?_
            exact J_qw (J_j (jv24 false)) rfl
        · refine J_g 14950 [] [(0, sv a1), (14, iv (a1.size : Int)), (15, iv s15), (35, bv false)] [] (orcC 1 (x_c0 [(.tmp 21)] [5] (impl_isNameByte.ok x17) h20) (orcL 3 [(23, bv (!x19))] [] h21 (orcL 7 [(27, bv (x17 != 46))] [] h22 orcN))) ?_
          exact J_qw (J_j (jv24 false)) rfl
      · refine J_g 14950 [] [(0, sv a1), (14, iv (a1.size : Int)), (15, iv s15), (35, bv false)] [] (orcC 1 (x_c0 [(.tmp 21)] [5] (impl_isNameByte.ok x17) h20) (orcL 3 [(23, bv (!x19))] [] h21 orcN)) ?_
        exact J_qw (J_j (jv24 false)) rfl
  · exact J_qw (hk ()) rfl

theorem impl_PathFault.ok (a1 : ByteArray) : Ok Try.prog 69 [sv a1] [] ((impl_PathFault a1).map fun r => (iv r, [])) := by
  refine Ok_of3 c69 Try.f69 0 37 (fun q => ?_)
  unfold impl_PathFault
  refine J_g 2 [] [(0, sv a1)] [] orcN ?_
  refine J_join (atI c69 13) (fun v3 : Bool => St.mk' [(0, sv a1), (12, bv v3)] []) (fun v3 => ?_) (fun jv3 => ?_)
  · refine J_if2 12 (fun h4 => ?_) (fun h4 => ?_)
    · refine J_g 52 [] [(2, iv 5)] [] orcN ?_
      exact J_r1 rfl
    · refine J_g 28 [] [(0, sv a1), (14, iv (a1.size : Int)), (15, iv 0)] [] orcN ?_
      refine J_lqF (K0 := (fun r : Int => some (iv r, []))) (fun _ => rfl) (impl_PathFault_l1.ok a1 q _ (fun v26 => J_j ?_) 0)
      refine J_g 30 [] [(2, iv 0)] [] orcN ?_
      exact J_r1 rfl
  · refine J_ite (fun h2 => ?_) (fun h2 => ?_)
    · refine J_g 12 [] [(0, sv a1), (12, bv true)] [] (orcL 3 [(7, bv (decide ((a1.size : Int) < 1)))] [] h2 orcN) ?_
      exact J_qw (J_j (jv3 true)) rfl
    · refine J_g 12 [] [(0, sv a1), (12, bv (decide ((a1.size : Int) > 40)))] [] (orcL 3 [(7, bv (decide ((a1.size : Int) < 1)))] [] h2 orcN) ?_
      exact J_qw (J_j (jv3 (decide ((a1.size : Int) > 40)))) rfl

noncomputable def c70 : Code := (Try.f70.body).getD .skip

theorem impl_Disk_total_l1.ok (a1 : Disk) (q : Wd) (kn : Int → Option (D × List Ent)) (hk : ∀ v : Int, J (q.g Try.prog 70 0 20) c70 (atI c70 15) (St.mk' [(3, iv v)] []) (some v) kn) :
    ∀ s5 : (Int × Int), J (q.g Try.prog 70 0 20) c70 (atI c70 116) (St.mk' [(3, iv s5.1), (7, sl 2 (File.enc false) a1.Files), (8, iv (a1.Files.length : Int)), (9, iv s5.2)] []) (impl_Disk_total_l1 a1 s5) kn := by
  refine J_lp (fun g ih s5 => ?_)
  unfold impl_Disk_total_l1b
  refine J_g 232 [] [(3, iv s5.1), (7, sl 2 (File.enc false) a1.Files), (8, iv (a1.Files.length : Int)), (9, iv s5.2), (10, bv (decide (s5.2 < (a1.Files.length : Int))))] [] orcN ?_
  refine J_if2 10 (fun h6 => ?_) (fun h6 => ?_)
  · refine J_bind (fun x7 h8 => ?_)
    refine J_g 3736 [(2, 0)] [(3, iv s5.1), (5, pp 0), (7, sl 2 (File.enc false) a1.Files), (8, iv (a1.Files.length : Int)), (9, iv s5.2)] [(0, .box (File.enc false x7))] (orcC 0 (x_ix (kk := .i64) 43 99 2 (File.enc false) (.tmp 7) (.tmp 9) h8) orcN) ?_
    refine J_g 3737 [] [(3, iv (w64 (s5.1 + (x7.Data.length : Int)))), (7, sl 2 (File.enc false) a1.Files), (8, iv (a1.Files.length : Int)), (9, iv s5.2)] [] orcN ?_
    refine J_g 935 [] [(3, iv (w64 (s5.1 + (x7.Data.length : Int)))), (7, sl 2 (File.enc false) a1.Files), (8, iv (a1.Files.length : Int)), (9, iv (w64 (s5.2 + 1)))] [] orcN ?_
    exact J_q (J_b (ih (w64 (s5.1 + (x7.Data.length : Int)), w64 (s5.2 + 1)))) rfl
  · exact J_qw (hk s5.1) rfl

theorem impl_Disk_total.ok (a1 : Disk) : Ok Try.prog 70 [.ag (Disk.enc false a1)] [] ((impl_Disk_total a1).map fun r => (iv r, [])) := by
  refine Ok_of3 c70 Try.f70 0 20 (fun q => ?_)
  unfold impl_Disk_total
  refine J_g 2 [(0, 0)] [(1, pp 0)] [(0, .box (Disk.enc false a1))] orcN ?_
  refine J_g 6 [] [(1, pp 0), (3, iv 0)] [(0, .box (Disk.enc false a1))] orcN ?_
  refine J_g 28 [] [(3, iv 0), (7, sl 2 (File.enc false) a1.Files), (8, iv (a1.Files.length : Int)), (9, iv 0)] [] orcN ?_
  refine J_lq (impl_Disk_total_l1.ok a1 q _ (fun v9 => J_j ?_) (0, 0))
  refine J_g 30 [] [(2, iv v9)] [] orcN ?_
  exact J_r1 rfl

noncomputable def c38 : Code := (Try.f38.body).getD .skip

theorem impl_DiskFault_l1.ok (a1 : Disk) (q : Wd) (kn : Unit → Option (D × List Ent)) (hk : ∀ v : Unit, J (q.g Try.prog 38 0 68) c38 (atI c38 15) (St.mk' [(1, pp 0)] [(0, .box (Disk.enc false a1))]) (some v) kn) :
    ∀ s25 : Int, J (q.g Try.prog 38 0 68) c38 (atI c38 116) (St.mk' [(1, pp 0), (29, sl 2 (File.enc false) a1.Files), (30, iv (a1.Files.length : Int)), (31, iv s25)] [(0, .box (Disk.enc false a1))]) (impl_DiskFault_l1 a1 s25) (Fl.go (fun r : Int => some (iv r, [])) kn) := by
  refine J_lp (fun g ih s25 => ?_)
  unfold impl_DiskFault_l1b
  refine J_g 232 [] [(1, pp 0), (29, sl 2 (File.enc false) a1.Files), (30, iv (a1.Files.length : Int)), (31, iv s25), (32, bv (decide (s25 < (a1.Files.length : Int))))] [(0, .box (Disk.enc false a1))] orcN ?_
  refine J_if2 32 (fun h26 => ?_) (fun h26 => ?_)
  · refine J_bind (fun x27 h28 => ?_)
    refine J_g 3736 [(3, 1)] [(1, pp 0), (3, iv s25), (4, pp 1), (29, sl 2 (File.enc false) a1.Files), (30, iv (a1.Files.length : Int)), (31, iv s25)] [(0, .box (Disk.enc false a1)), (1, .box (File.enc false x27))] (orcC 1 (x_ix (kk := .i64) 43 99 2 (File.enc false) (.tmp 29) (.tmp 31) h28) orcN) ?_
    refine J_bind (fun x29 h30 => ?_)
    refine J_g 14948 [] [(1, pp 0), (3, iv s25), (4, pp 1), (5, iv x29), (29, sl 2 (File.enc false) a1.Files), (30, iv (a1.Files.length : Int)), (31, iv s25)] [(0, .box (Disk.enc false a1)), (1, .box (File.enc false x27))] (orcC 2 (x_c0 [(.tmp 37)] [9] (impl_PathFault.ok x27.Path) h30) orcN) ?_
    refine J_g 29898 [] [(1, pp 0), (3, iv s25), (4, pp 1), (5, iv x29), (29, sl 2 (File.enc false) a1.Files), (30, iv (a1.Files.length : Int)), (31, iv s25), (40, bv (x29 != 0))] [(0, .box (Disk.enc false a1)), (1, .box (File.enc false x27))] orcN ?_
    refine J_if2 40 (fun h31 => ?_) (fun h31 => ?_)
    · refine J_g 119596 [] [(2, iv x29)] [] orcN ?_
      exact J_r1 rfl
    · refine J_join (atI c38 29901) (fun v35 : Bool => St.mk' [(1, pp 0), (4, pp 1), (29, sl 2 (File.enc false) a1.Files), (30, iv (a1.Files.length : Int)), (31, iv s25), (42, bv v35)] [(0, .box (Disk.enc false a1)), (1, .box (File.enc false x27))]) (fun v35 => ?_) (fun jv35 => ?_)
      · refine J_if2 42 (fun h36 => ?_) (fun h36 => ?_)
        · refine J_g 119604 [] [(2, iv 1)] [] orcN ?_
          exact J_r1 rfl
        · refine J_g 119606 [] [(1, pp 0), (29, sl 2 (File.enc false) a1.Files), (30, iv (a1.Files.length : Int)), (31, iv s25), (57, bv (decide ((x27.Data.length : Int) > 4000)))] [(0, .box (Disk.enc false a1))] orcN ?_
          refine J_if2 57 (fun h37 => ?_) (fun h37 => ?_)
          · refine J_g 478428 [] [(2, iv 2)] [] orcN ?_
            exact J_r1 rfl
          · refine J_g 935 [] [(1, pp 0), (29, sl 2 (File.enc false) a1.Files), (30, iv (a1.Files.length : Int)), (31, iv (w64 (s25 + 1)))] [(0, .box (Disk.enc false a1))] orcN ?_
            exact J_q (J_b (ih (w64 (s25 + 1)))) rfl
      · refine J_ite (fun h32 => ?_) (fun h32 => ?_)
        · refine J_bind (fun x33 h34 => ?_)
          refine J_g 29900 [] [(1, pp 0), (4, pp 1), (29, sl 2 (File.enc false) a1.Files), (30, iv (a1.Files.length : Int)), (31, iv s25), (42, bv (slt x27.Path x33.Path || seq x27.Path x33.Path))] [(0, .box (Disk.enc false a1)), (1, .box (File.enc false x27))] (orcL 2 [(44, bv (decide (s25 > 0)))] [] h32 (orcH 9 2 45 true (x_ix (kk := .i64) 43 99 2 (File.enc false) (.tmp 49) (.tmp 51) h34) orcN)) ?_
          exact J_qw (J_j (jv35 (slt x27.Path x33.Path || seq x27.Path x33.Path))) rfl
        · refine J_g 29900 [] [(1, pp 0), (4, pp 1), (29, sl 2 (File.enc false) a1.Files), (30, iv (a1.Files.length : Int)), (31, iv s25), (42, bv false)] [(0, .box (Disk.enc false a1)), (1, .box (File.enc false x27))] (orcL 2 [(44, bv (decide (s25 > 0)))] [] h32 orcN) ?_
          exact J_qw (J_j (jv35 false)) rfl
  · exact J_qw (hk ()) rfl

theorem impl_DiskFault.ok (a1 : Disk) : Ok Try.prog 38 [.ag (Disk.enc false a1)] [] ((impl_DiskFault a1).map fun r => (iv r, [])) := by
  refine Ok_of3 c38 Try.f38 0 68 (fun q => ?_)
  unfold impl_DiskFault
  refine J_g 2 [(0, 0)] [(1, pp 0)] [(0, .box (Disk.enc false a1))] orcN ?_
  refine J_bind (fun x2 h3 => ?_)
  refine J_join (atI c38 25) (fun v10 : Bool => St.mk' [(1, pp 0), (6, bv v10)] [(0, .box (Disk.enc false a1))]) (fun v10 => ?_) (fun jv10 => ?_)
  · refine J_if2 6 (fun h11 => ?_) (fun h11 => ?_)
    · refine J_g 100 [] [(2, iv 3)] [] orcN ?_
      exact J_r1 rfl
    · refine J_g 102 [] [(1, pp 0), (23, bv (decide ((a1.Files.length : Int) > 120)))] [(0, .box (Disk.enc false a1))] orcN ?_
      refine J_if2 23 (fun h12 => ?_) (fun h12 => ?_)
      · refine J_g 412 [] [(2, iv 2)] [] orcN ?_
        exact J_r1 rfl
      · refine J_g 28 [] [(1, pp 0), (29, sl 2 (File.enc false) a1.Files), (30, iv (a1.Files.length : Int)), (31, iv 0)] [(0, .box (Disk.enc false a1))] orcN ?_
        refine J_lqF (K0 := (fun r : Int => some (iv r, []))) (fun _ => rfl) (impl_DiskFault_l1.ok a1 q _ (fun v38 => J_j ?_) 0)
        refine J_bind (fun x39 h40 => ?_)
        refine J_g 60 [] [(67, bv (decide (x39 > a1.Budget)))] [] (orcC 1 (x_c0 [(.tmp 63)] [45] (impl_Disk_total.ok a1) h40) orcN) ?_
        refine J_if2 67 (fun h41 => ?_) (fun h41 => ?_)
        · refine J_g 244 [] [(2, iv 8)] [] orcN ?_
          exact J_r1 rfl
        · refine J_g 62 [] [(2, iv 0)] [] orcN ?_
          exact J_r1 rfl
  · refine J_ite (fun h4 => ?_) (fun h4 => ?_)
    · refine J_g 24 [] [(1, pp 0), (6, bv true)] [(0, .box (Disk.enc false a1))] (orcC 2 (x_c0 [(.tmp 8), (.const (.int .i64 0)), (.const (.int .i64 20000))] [2, 2, 2] (impl_within.ok a1.Budget 0 20000) h3) (orcL 4 [(10, bv (!x2))] [] h4 orcN)) ?_
      exact J_qw (J_j (jv10 true)) rfl
    · refine J_bind (fun x5 h6 => ?_)
      refine J_ite (fun h7 => ?_) (fun h7 => ?_)
      · refine J_g 24 [] [(1, pp 0), (6, bv true)] [(0, .box (Disk.enc false a1))] (orcC 2 (x_c0 [(.tmp 8), (.const (.int .i64 0)), (.const (.int .i64 20000))] [2, 2, 2] (impl_within.ok a1.Budget 0 20000) h3) (orcL 4 [(10, bv (!x2))] [] h4 (orcH 7 4 11 false (x_c0 [(.tmp 13), (.const (.int .i64 0)), (.const (.int .i64 1000000000))] [2, 2, 2] (impl_within.ok a1.Writes 0 1000000000) h6) (orcL 10 [(16, bv (!x5))] [] h7 orcN)))) ?_
        exact J_qw (J_j (jv10 true)) rfl
      · refine J_bind (fun x8 h9 => ?_)
        refine J_g 24 [] [(1, pp 0), (6, bv (!x8))] [(0, .box (Disk.enc false a1))] (orcC 2 (x_c0 [(.tmp 8), (.const (.int .i64 0)), (.const (.int .i64 20000))] [2, 2, 2] (impl_within.ok a1.Budget 0 20000) h3) (orcL 4 [(10, bv (!x2))] [] h4 (orcH 7 4 11 false (x_c0 [(.tmp 13), (.const (.int .i64 0)), (.const (.int .i64 1000000000))] [2, 2, 2] (impl_within.ok a1.Writes 0 1000000000) h6) (orcL 10 [(16, bv (!x5))] [] h7 (orcH 13 10 17 false (x_c0 [(.tmp 19), (.const (.int .i64 (-1))), (.const (.int .i64 1000000000))] [2, 2, 2] (impl_within.ok a1.Stop (-1) 1000000000) h9) orcN))))) ?_
        exact J_qw (J_j (jv10 (!x8))) rfl

noncomputable def c160 : Code := (Try.f160.body).getD .skip

theorem internal_stringslite_HasPrefix.ok (a1 : ByteArray) (a2 : ByteArray) : Ok Try.prog 160 [sv a1, sv a2] [] ((internal_stringslite_HasPrefix a1 a2).map fun r => (bv r, [])) := by
  refine Ok_of3 c160 Try.f160 0 18 (fun q => ?_)
  unfold internal_stringslite_HasPrefix
  refine J_g 2 [] [(0, sv a1), (1, sv a2)] [] orcN ?_
  refine J_ite (fun h3 => ?_) (fun h3 => ?_)
  · refine J_bind (fun x4 h5 => ?_)
    refine J_g 6 [] [(4, bv (seq x4 a2))] [] (orcL 5 [(9, bv (decide ((a1.size : Int) ≥ (a2.size : Int))))] [] h3 (orcH 9 5 10 true (x_ss 9 (.tmp 11) none (some (.tmp 13)) h5) orcN)) ?_
    exact J_r1 rfl
  · refine J_g 6 [] [(4, bv false)] [] (orcL 5 [(9, bv (decide ((a1.size : Int) ≥ (a2.size : Int))))] [] h3 orcN) ?_
    exact J_r1 rfl

noncomputable def c134 : Code := (Try.f134.body).getD .skip

theorem strings_HasPrefix.ok (a1 : ByteArray) (a2 : ByteArray) : Ok Try.prog 134 [sv a1, sv a2] [] ((strings_HasPrefix a1 a2).map fun r => (bv r, [])) := by
  refine Ok_of3 c134 Try.f134 0 8 (fun q => ?_)
  unfold strings_HasPrefix
  refine J_g 2 [] [(0, sv a1), (1, sv a2)] [] orcN ?_
  refine J_bind (fun x3 h4 => ?_)
  refine J_g 6 [] [(4, bv x3)] [] (orcC 2 (x_c0 [(.tmp 5), (.tmp 6)] [9, 9] (internal_stringslite_HasPrefix.ok a1 a2) h4) orcN) ?_
  exact J_r1 rfl

noncomputable def c104 : Code := (Try.f104.body).getD .skip

theorem impl_Disk_paths_l1.ok (a1 : Disk) (a2 : ByteArray) (q : Wd) (kn : (List ByteArray) → Option (D × List Ent)) (hk : ∀ v : (List ByteArray), J (q.g Try.prog 104 0 27) c104 (atI c104 15) (St.mk' [(5, rr 1 v)] [(1, rE 1 eStr v)]) (some v) kn) :
    ∀ s12 : ((List ByteArray) × Int), J (q.g Try.prog 104 0 27) c104 (atI c104 116) (St.mk' [(1, sv a2), (5, rr 1 s12.1), (10, sl 2 (File.enc false) a1.Files), (11, iv (a1.Files.length : Int)), (12, iv s12.2)] [(1, rE 1 eStr s12.1)]) (impl_Disk_paths_l1 a1 a2 s12) kn := by
  refine J_lp (fun g ih s12 => ?_)
  unfold impl_Disk_paths_l1b
  refine J_g 232 [] [(1, sv a2), (5, rr 1 s12.1), (10, sl 2 (File.enc false) a1.Files), (11, iv (a1.Files.length : Int)), (12, iv s12.2), (13, bv (decide (s12.2 < (a1.Files.length : Int))))] [(1, rE 1 eStr s12.1)] orcN ?_
  refine J_if2 13 (fun h13 => ?_) (fun h13 => ?_)
  · refine J_bind (fun x14 h15 => ?_)
    refine J_g 3736 [(2, 2)] [(1, sv a2), (5, rr 1 s12.1), (7, pp 2), (10, sl 2 (File.enc false) a1.Files), (11, iv (a1.Files.length : Int)), (12, iv s12.2)] [(1, rE 1 eStr s12.1), (2, .box (File.enc false x14))] (orcC 0 (x_ix (kk := .i64) 43 99 2 (File.enc false) (.tmp 10) (.tmp 12) h15) orcN) ?_
    refine J_bind (fun x16 h17 => ?_)
    refine J_g 7474 [] [(1, sv a2), (5, rr 1 s12.1), (7, pp 2), (10, sl 2 (File.enc false) a1.Files), (11, iv (a1.Files.length : Int)), (12, iv s12.2), (19, bv x16)] [(1, rE 1 eStr s12.1), (2, .box (File.enc false x14))] (orcC 3 (x_c0 [(.tmp 17), (.tmp 18)] [9, 9] (strings_HasPrefix.ok x14.Path a2) h17) orcN) ?_
    refine J_join (aft c104 1868) (fun v21 : (List ByteArray) => St.mk' [(1, sv a2), (5, rr 4 v21), (10, sl 2 (File.enc false) a1.Files), (11, iv (a1.Files.length : Int)), (12, iv s12.2)] [(4, rE 1 eStr v21)]) (fun v21 => ?_) (fun jv21 => ?_)
    · refine J_g 935 [] [(1, sv a2), (5, rr 4 v21), (10, sl 2 (File.enc false) a1.Files), (11, iv (a1.Files.length : Int)), (12, iv (w64 (s12.2 + 1)))] [(4, rE 1 eStr v21)] orcN ?_
      refine J_ren 4 1 (Nat.le_of_ble_eq_true rfl) (Nat.le_of_ble_eq_true rfl) ?_
      exact J_q (J_b (ih (v21, w64 (s12.2 + 1)))) rfl
    · refine J_if2 19 (fun h18 => ?_) (fun h18 => ?_)
      · refine J_bind (fun x19 h20 => ?_)
        refine J_g 14950 [] [(1, sv a2), (5, rr 4 x19), (10, sl 2 (File.enc false) a1.Files), (11, iv (a1.Files.length : Int)), (12, iv s12.2)] [(4, rE 1 eStr x19)] (orcC 3 (x_bp 56 9 1 3 eStr [x14.Path] [0] [(.tmp 22)] [sv x14.Path]) (orcC 4 (x_ap 56 56 9 9 1 16 4 1 3 eStr (.tmp 20) (.tmp 23) h20) orcN)) ?_
        exact J_qw (J_j (jv21 x19)) rfl
      · refine J_ren 1 4 (Nat.le_of_ble_eq_true rfl) (Nat.le_of_ble_eq_true rfl) ?_
        exact J_qw (J_j (jv21 s12.1)) rfl
  · exact J_qw (hk s12.1) rfl

theorem impl_Disk_paths.ok (a1 : Disk) (a2 : ByteArray) : Ok Try.prog 104 [.ag (Disk.enc false a1), sv a2] [] ((impl_Disk_paths a1 a2).map fun r => (so 1 eStr r, [])) := by
  refine Ok_of3 c104 Try.f104 0 27 (fun q => ?_)
  unfold impl_Disk_paths
  refine J_g 2 [(0, 0)] [(1, sv a2), (2, pp 0)] [(0, .box (Disk.enc false a1))] orcN ?_
  refine J_g 6 [] [(1, sv a2), (2, pp 0), (5, rr 1 ([] : List ByteArray))] [(0, .box (Disk.enc false a1)), (1, rE 1 eStr ([] : List ByteArray))] (orcC 0 (x_bp 56 9 1 1 eStr ([] : List ByteArray) [] [] []) orcN) ?_
  refine J_g 28 [] [(1, sv a2), (5, rr 1 ([] : List ByteArray)), (10, sl 2 (File.enc false) a1.Files), (11, iv (a1.Files.length : Int)), (12, iv 0)] [(1, rE 1 eStr ([] : List ByteArray))] orcN ?_
  refine J_lq (impl_Disk_paths_l1.ok a1 a2 q _ (fun v22 => J_j ?_) (([] : List ByteArray), 0))
  refine J_g 30 [] [(4, rr 1 v22)] [(1, rE 1 eStr v22)] orcN ?_
  exact J_rm (ds := [rr 1 v22]) (ds' := [so 1 eStr v22]) (.cons (.cell (.move (.head _) (List.length_map _) (by decide) (.nil))) (.nil) (by decide)) rfl

noncomputable def c105 : Code := (Try.f105.body).getD .skip

theorem impl_number_l1.ok (a1 : ByteArray) (q : Wd) (kn : Int → Option (D × List Ent)) (hk : ∀ v : Int, J (q.g Try.prog 105 0 40) c105 (atI c105 31) (St.mk' [(5, iv v)] []) (some v) kn) :
    ∀ s16 : (Int × Int), J (q.g Try.prog 105 0 40) c105 (atI c105 244) (St.mk' [(0, sv a1), (5, iv s16.1), (16, iv (a1.size : Int)), (17, iv s16.2)] []) (impl_number_l1 a1 s16) (Fl.go (fun r : Int => some (iv r, [])) kn) := by
  refine J_lp (fun g ih s16 => ?_)
  unfold impl_number_l1b
  refine J_g 488 [] [(0, sv a1), (5, iv s16.1), (16, iv (a1.size : Int)), (17, iv s16.2), (18, bv (decide (s16.2 < (a1.size : Int))))] [] orcN ?_
  refine J_if2 18 (fun h17 => ?_) (fun h17 => ?_)
  · refine J_g 7832 [] [(0, sv a1), (5, iv s16.1), (6, iv s16.2), (16, iv (a1.size : Int)), (17, iv s16.2)] [] orcN ?_
    refine J_bind (fun x18 h19 => ?_)
    refine J_join (atI c105 31333) (fun v23 : Bool => St.mk' [(0, sv a1), (5, iv s16.1), (6, iv s16.2), (16, iv (a1.size : Int)), (17, iv s16.2), (29, bv v23)] []) (fun v23 => ?_) (fun jv23 => ?_)
    · refine J_if2 29 (fun h24 => ?_) (fun h24 => ?_)
      · refine J_g 125332 [] [(4, iv (-1))] [] orcN ?_
        exact J_r1 rfl
      · refine J_bind (fun x25 h26 => ?_)
        refine J_g 15667 [] [(0, sv a1), (5, iv (w64 ((w64 (10 * s16.1)) + (w64 (IntKind.u8.wrap (x25 - 48)))))), (16, iv (a1.size : Int)), (17, iv s16.2)] [] (orcC 4 (x_bi (kk := .i64) 9 (.tmp 32) (.tmp 33) h26) orcN) ?_
        refine J_g 1959 [] [(0, sv a1), (5, iv (w64 ((w64 (10 * s16.1)) + (w64 (IntKind.u8.wrap (x25 - 48)))))), (16, iv (a1.size : Int)), (17, iv (w64 (s16.2 + 1)))] [] orcN ?_
        exact J_q (J_b (ih (w64 ((w64 (10 * s16.1)) + (w64 (IntKind.u8.wrap (x25 - 48)))), w64 (s16.2 + 1)))) rfl
    · refine J_ite (fun h20 => ?_) (fun h20 => ?_)
      · refine J_g 31332 [] [(0, sv a1), (5, iv s16.1), (6, iv s16.2), (16, iv (a1.size : Int)), (17, iv s16.2), (29, bv true)] [] (orcC 2 (x_bi (kk := .i64) 9 (.tmp 20) (.tmp 21) h19) (orcL 4 [(23, bv (decide (x18 < 48)))] [] h20 orcN)) ?_
        exact J_qw (J_j (jv23 true)) rfl
      · refine J_bind (fun x21 h22 => ?_)
        refine J_g 31332 [] [(0, sv a1), (5, iv s16.1), (6, iv s16.2), (16, iv (a1.size : Int)), (17, iv s16.2), (29, bv (decide (x21 > 57)))] [] (orcC 2 (x_bi (kk := .i64) 9 (.tmp 20) (.tmp 21) h19) (orcL 4 [(23, bv (decide (x18 < 48)))] [] h20 (orcH 7 4 24 false (x_bi (kk := .i64) 9 (.tmp 25) (.tmp 26) h22) orcN))) ?_
        exact J_qw (J_j (jv23 (decide (x21 > 57)))) rfl
  · exact J_qw (hk s16.1) rfl

theorem impl_number.ok (a1 : ByteArray) (a2 : Int) : Ok Try.prog 105 [sv a1, iv a2] [] ((impl_number a1 a2).map fun r => (iv r, [])) := by
  refine Ok_of3 c105 Try.f105 0 40 (fun q => ?_)
  unfold impl_number
  refine J_g 2 [] [(0, sv a1), (1, iv a2)] [] orcN ?_
  refine J_join (atI c105 13) (fun v4 : Bool => St.mk' [(0, sv a1), (14, bv v4)] []) (fun v4 => ?_) (fun jv4 => ?_)
  · refine J_if2 14 (fun h5 => ?_) (fun h5 => ?_)
    · refine J_g 52 [] [(4, iv (-1))] [] orcN ?_
      exact J_r1 rfl
    · refine J_g 14 [] [(0, sv a1), (5, iv 0)] [] orcN ?_
      refine J_g 60 [] [(0, sv a1), (5, iv 0), (16, iv (a1.size : Int)), (17, iv 0)] [] orcN ?_
      refine J_lqF (K0 := (fun r : Int => some (iv r, []))) (fun _ => rfl) (impl_number_l1.ok a1 q _ (fun v27 => J_j ?_) (0, 0))
      refine J_g 62 [] [(4, iv v27)] [] orcN ?_
      exact J_r1 rfl
  · refine J_ite (fun h3 => ?_) (fun h3 => ?_)
    · refine J_g 12 [] [(0, sv a1), (14, bv true)] [] (orcL 2 [(8, bv (seq a1 (bs [])))] [] h3 orcN) ?_
      exact J_qw (J_j (jv4 true)) rfl
    · refine J_g 12 [] [(0, sv a1), (14, bv (decide ((a1.size : Int) > a2)))] [] (orcL 2 [(8, bv (seq a1 (bs [])))] [] h3 orcN) ?_
      exact J_qw (J_j (jv4 (decide ((a1.size : Int) > a2)))) rfl

noncomputable def c71 : Code := (Try.f71.body).getD .skip

theorem impl_Disk_gens_l1.ok (x2 : (List ByteArray)) (q : Wd) (kn : (List Int) → Option (D × List Ent)) (hk : ∀ v : (List Int), J (q.g Try.prog 71 0 31) c71 (atI c71 15) (St.mk' [(3, rr 1 v)] [(1, rE 1 eI64 v)]) (some v) kn) :
    ∀ s17 : ((List Int) × Int), J (q.g Try.prog 71 0 31) c71 (atI c71 116) (St.mk' [(3, rr 1 s17.1), (9, rr 2 x2), (10, iv (x2.length : Int)), (11, iv s17.2)] [(1, rE 1 eI64 s17.1), (2, rE 1 eStr x2)]) (impl_Disk_gens_l1 x2 s17) kn := by
  refine J_lp (fun g ih s17 => ?_)
  unfold impl_Disk_gens_l1b
  refine J_g 232 [] [(3, rr 1 s17.1), (9, rr 2 x2), (10, iv (x2.length : Int)), (11, iv s17.2), (12, bv (decide (s17.2 < (x2.length : Int))))] [(1, rE 1 eI64 s17.1), (2, rE 1 eStr x2)] orcN ?_
  refine J_if2 12 (fun h18 => ?_) (fun h18 => ?_)
  · refine J_bind (fun x19 h20 => ?_)
    refine J_g 3736 [] [(3, rr 1 s17.1), (5, sv x19), (9, rr 2 x2), (10, iv (x2.length : Int)), (11, iv s17.2)] [(1, rE 1 eI64 s17.1), (2, rE 1 eStr x2)] (orcC 0 (x_ixr (kk := .i64) 56 9 1 2 eStr (.tmp 9) (.tmp 11) h20) (orcC 1 (x_ldr (d := sv x19) 9 1 2 0 eStr (.tmp 13) h20 (by kernel_rfl)) orcN)) ?_
    refine J_bind (fun x21 h22 => ?_)
    refine J_bind (fun x23 h24 => ?_)
    refine J_g 7474 [] [(3, rr 1 s17.1), (5, sv x19), (6, iv x23), (9, rr 2 x2), (10, iv (x2.length : Int)), (11, iv s17.2)] [(1, rE 1 eI64 s17.1), (2, rE 1 eStr x2)] (orcC 1 (x_ss 9 (.tmp 15) (some (.const (.int .i64 4))) none h22) (orcC 2 (x_c0 [(.tmp 16), (.const (.int .i64 6))] [9, 3] (impl_number.ok x21 6) h24) orcN)) ?_
    refine J_join (atI c71 14951) (fun v26 : Bool => St.mk' [(3, rr 1 s17.1), (6, iv x23), (9, rr 2 x2), (10, iv (x2.length : Int)), (11, iv s17.2), (24, bv v26)] [(1, rE 1 eI64 s17.1), (2, rE 1 eStr x2)]) (fun v26 => ?_) (fun jv26 => ?_)
    · refine J_join (aft c71 1868) (fun v30 : (List Int) => St.mk' [(3, rr 4 v30), (9, rr 2 x2), (10, iv (x2.length : Int)), (11, iv s17.2)] [(2, rE 1 eStr x2), (4, rE 1 eI64 v30)]) (fun v30 => ?_) (fun jv30 => ?_)
      · refine J_g 935 [] [(3, rr 4 v30), (9, rr 2 x2), (10, iv (x2.length : Int)), (11, iv (w64 (s17.2 + 1)))] [(2, rE 1 eStr x2), (4, rE 1 eI64 v30)] orcN ?_
        refine J_ren 4 1 (Nat.le_of_ble_eq_true rfl) (Nat.le_of_ble_eq_true rfl) ?_
        exact J_q (J_b (ih (v30, w64 (s17.2 + 1)))) rfl
      · refine J_if2 24 (fun h27 => ?_) (fun h27 => ?_)
        · refine J_bind (fun x28 h29 => ?_)
          refine J_g 29902 [] [(3, rr 4 x28), (9, rr 2 x2), (10, iv (x2.length : Int)), (11, iv s17.2)] [(2, rE 1 eStr x2), (4, rE 1 eI64 x28)] (orcC 2 (x_bp 23 2 1 3 eI64 [x23] [0] [(.tmp 26)] [iv x23]) (orcC 3 (x_ap 23 23 2 2 1 8 4 1 3 eI64 (.tmp 25) (.tmp 27) h29) orcN)) ?_
          exact J_qw (J_j (jv30 x28)) rfl
        · refine J_ren 1 4 (Nat.le_of_ble_eq_true rfl) (Nat.le_of_ble_eq_true rfl) ?_
          exact J_qw (J_j (jv30 s17.1)) rfl
    · refine J_ite (fun h25 => ?_) (fun h25 => ?_)
      · refine J_g 14950 [] [(3, rr 1 s17.1), (6, iv x23), (9, rr 2 x2), (10, iv (x2.length : Int)), (11, iv s17.2), (24, bv ((x19.size : Int) == 10))] [(1, rE 1 eI64 s17.1), (2, rE 1 eStr x2)] (orcL 2 [(19, bv (decide (x23 ≥ 1)))] [] h25 orcN) ?_
        exact J_qw (J_j (jv26 ((x19.size : Int) == 10))) rfl
      · refine J_g 14950 [] [(3, rr 1 s17.1), (6, iv x23), (9, rr 2 x2), (10, iv (x2.length : Int)), (11, iv s17.2), (24, bv false)] [(1, rE 1 eI64 s17.1), (2, rE 1 eStr x2)] (orcL 2 [(19, bv (decide (x23 ≥ 1)))] [] h25 orcN) ?_
        exact J_qw (J_j (jv26 false)) rfl
  · exact J_qw (hk s17.1) rfl

theorem impl_Disk_gens.ok (a1 : Disk) : Ok Try.prog 71 [.ag (Disk.enc false a1)] [] ((impl_Disk_gens a1).map fun r => (so 1 eI64 r, [])) := by
  refine Ok_of3 c71 Try.f71 0 31 (fun q => ?_)
  unfold impl_Disk_gens
  refine J_g 2 [(0, 0)] [(1, pp 0)] [(0, .box (Disk.enc false a1))] orcN ?_
  refine J_g 6 [] [(1, pp 0), (3, rr 1 ([] : List Int))] [(0, .box (Disk.enc false a1)), (1, rE 1 eI64 ([] : List Int))] (orcC 0 (x_bp 23 2 1 1 eI64 ([] : List Int) [] [] []) orcN) ?_
  refine J_bind (fun x2 h3 => ?_)
  refine J_g 28 [] [(3, rr 1 ([] : List Int)), (9, rr 2 x2), (10, iv (x2.length : Int)), (11, iv 0)] [(1, rE 1 eI64 ([] : List Int)), (2, rE 1 eStr x2)] (orcC 1 (x_c1 («as» := [.ag (Disk.enc false a1), sv (bs [103, 101, 110, 47])]) [(.tmp 8), (.const (.string (bs [103, 101, 110, 47])))] [45, 9] false [] [] (.cons (.same rfl) (.cons (.same rfl) (.nil))) (impl_Disk_paths.ok a1 (bs [103, 101, 110, 47])) h3 (.own 2)) orcN) ?_
  refine J_lq (impl_Disk_gens_l1.ok x2 q _ (fun v31 => J_j ?_) (([] : List Int), 0))
  refine J_g 30 [] [(2, rr 1 v31)] [(1, rE 1 eI64 v31)] orcN ?_
  exact J_rm (ds := [rr 1 v31]) (ds' := [so 1 eI64 v31]) (.cons (.cell (.move (.head _) (List.length_map _) (by decide) (.nil))) (.nil) (by decide)) rfl

noncomputable def c107 : Code := (Try.f107.body).getD .skip

theorem slices_Index_Lint64_l1.ok (a1 : (List Int)) (a2 : Int) (q : Wd) (kn : Unit → Option (D × List Ent)) (hk : ∀ v : Unit, J (q.g Try.prog 107 0 19) c107 (atI c107 7) (St.mk' [] []) (some v) kn) :
    ∀ s7 : Int, J (q.g Try.prog 107 0 19) c107 (atI c107 52) (St.mk' [(0, sl 1 eI64 a1), (1, iv a2), (7, iv (a1.length : Int)), (8, iv s7)] []) (slices_Index_Lint64_l1 a1 a2 s7) (Fl.go (fun r : Int => some (iv r, [])) kn) := by
  refine J_lp (fun g ih s7 => ?_)
  unfold slices_Index_Lint64_l1b
  refine J_g 104 [] [(0, sl 1 eI64 a1), (1, iv a2), (7, iv (a1.length : Int)), (8, iv s7), (9, bv (decide (s7 < (a1.length : Int))))] [] orcN ?_
  refine J_if2 9 (fun h8 => ?_) (fun h8 => ?_)
  · refine J_g 1688 [] [(0, sl 1 eI64 a1), (1, iv a2), (5, iv s7), (7, iv (a1.length : Int)), (8, iv s7)] [] orcN ?_
    refine J_bind (fun x9 h10 => ?_)
    refine J_g 3378 [] [(0, sl 1 eI64 a1), (1, iv a2), (5, iv s7), (7, iv (a1.length : Int)), (8, iv s7), (16, bv (a2 == x9))] [] (orcC 3 (x_ix (kk := .i64) 23 2 1 eI64 (.tmp 12) (.tmp 13) h10) orcN) ?_
    refine J_if2 16 (fun h11 => ?_) (fun h11 => ?_)
    · refine J_g 13516 [] [(4, iv s7)] [] orcN ?_
      exact J_r1 rfl
    · refine J_g 423 [] [(0, sl 1 eI64 a1), (1, iv a2), (7, iv (a1.length : Int)), (8, iv (w64 (s7 + 1)))] [] orcN ?_
      exact J_q (J_b (ih (w64 (s7 + 1)))) rfl
  · exact J_qw (hk ()) rfl

theorem slices_Index_Lint64.ok (a1 : (List Int)) (a2 : Int) : Ok Try.prog 107 [sl 1 eI64 a1, iv a2] [] ((slices_Index_Lint64 a1 a2).map fun r => (iv r, [])) := by
  refine Ok_of3 c107 Try.f107 0 19 (fun q => ?_)
  unfold slices_Index_Lint64
  refine J_g 2 [] [(0, sl 1 eI64 a1), (1, iv a2)] [] orcN ?_
  refine J_g 12 [] [(0, sl 1 eI64 a1), (1, iv a2), (7, iv (a1.length : Int)), (8, iv 0)] [] orcN ?_
  refine J_lqF (K0 := (fun r : Int => some (iv r, []))) (fun _ => rfl) (slices_Index_Lint64_l1.ok a1 a2 q _ (fun v12 => J_j ?_) 0)
  refine J_g 14 [] [(4, iv (-1))] [] orcN ?_
  exact J_r1 rfl

noncomputable def c74 : Code := (Try.f74.body).getD .skip

theorem slices_Contains_Lint64.ok (a1 : (List Int)) (a2 : Int) : Ok Try.prog 74 [sl 1 eI64 a1, iv a2] [] ((slices_Contains_Lint64 a1 a2).map fun r => (bv r, [])) := by
  refine Ok_of3 c74 Try.f74 0 9 (fun q => ?_)
  unfold slices_Contains_Lint64
  refine J_g 2 [] [(0, sl 1 eI64 a1), (1, iv a2)] [] orcN ?_
  refine J_bind (fun x3 h4 => ?_)
  refine J_g 6 [] [(4, bv (decide (x3 ≥ 0)))] [] (orcC 2 (x_c0 [(.tmp 5), (.tmp 6)] [23, 2] (slices_Index_Lint64.ok a1 a2) h4) orcN) ?_
  exact J_r1 rfl

noncomputable def c73 : Code := (Try.f73.body).getD .skip

theorem impl_Disk_kept_1o.ok (a1 : Int) (a2 : (List Int)) : Ok Try.prog 73 [iv a1, pp 0] [.box [so 1 eI64 a2]] ((impl_Disk_kept_1o a1 a2).map fun r => (bv r, [.box [so 1 eI64 a2]])) := by
  refine Ok_of3 c73 Try.f73 1 8 (fun q => ?_)
  unfold impl_Disk_kept_1o
  refine J_unfold 0 (cs' := [rr 1 a2]) (es := [(1, rE 1 eI64 a2)]) rfl (.cons (.own 1) (.nil)) rfl (by kernel_rfl) (by kernel_rfl) ?_
  refine J_wk [(0, iv a1), (1, pp 0)] [(0, .box [rr 1 a2]), (1, rE 1 eI64 a2)] (by kernel_rfl) ?_
  refine J_g 2 [] [(0, iv a1), (1, pp 0)] [(0, .box [rr 1 a2]), (1, rE 1 eI64 a2)] orcN ?_
  refine J_bind (fun x3 h4 => ?_)
  refine J_g 6 [] [(3, bv (!x3))] [(0, .box [rr 1 a2]), (1, rE 1 eI64 a2)] (orcC 2 (x_c1 («as» := [rr 1 a2, iv a1]) [(.tmp 4), (.tmp 5)] [23, 2] true [(1, rE 1 eI64 a2)] [] (.cons (am_b (.head _) (fun _ => rfl) rfl) (.cons (.same rfl) (.nil))) (slices_Contains_Lint64.ok a2 a1) h4 (.same rfl rfl) (hbor := fun _ => ⟨rfl, flat_sc⟩)) orcN) ?_
  refine J_fold 0 (cs' := [so 1 eI64 a2]) (ts := [1]) rfl (.move (.head _) (List.length_map _) (by decide) (.nil)) ?_
  refine J_wk [(3, bv (!x3))] [(0, .box [so 1 eI64 a2])] (by kernel_rfl) ?_
  exact J_r1 rfl

noncomputable def c106 : Code := (Try.f106.body).getD .skip

theorem slices_IndexFunc_Lint64_impl_Disk_kept_1o_l1.ok (a1 : (List Int)) (a2 : (List Int)) (q : Wd) (kn : Unit → Option (D × List Ent)) (hk : ∀ v : Unit, J (q.g Try.prog 106 1 19) c106 (atI c106 7) (St.mk' [] [(0, .box [rr 1 a2]), (1, rE 1 eI64 a2)]) (some v) kn) :
    ∀ s9 : Int, J (q.g Try.prog 106 1 19) c106 (atI c106 52) (St.mk' [(0, sl 1 eI64 a1), (1, .fn 73 [pp 0]), (7, iv (a1.length : Int)), (8, iv s9)] [(0, .box [rr 1 a2]), (1, rE 1 eI64 a2)]) (slices_IndexFunc_Lint64_impl_Disk_kept_1o_l1 a1 a2 s9) (Fl.go (fun r : Int => some (iv r, [.box [so 1 eI64 a2]])) kn) := by
  refine J_lp (fun g ih s9 => ?_)
  unfold slices_IndexFunc_Lint64_impl_Disk_kept_1o_l1b
  refine J_g 104 [] [(0, sl 1 eI64 a1), (1, .fn 73 [pp 0]), (7, iv (a1.length : Int)), (8, iv s9), (9, bv (decide (s9 < (a1.length : Int))))] [(0, .box [rr 1 a2]), (1, rE 1 eI64 a2)] orcN ?_
  refine J_if2 9 (fun h10 => ?_) (fun h10 => ?_)
  · refine J_g 1688 [] [(0, sl 1 eI64 a1), (1, .fn 73 [pp 0]), (5, iv s9), (7, iv (a1.length : Int)), (8, iv s9)] [(0, .box [rr 1 a2]), (1, rE 1 eI64 a2)] orcN ?_
    refine J_bind (fun x11 h12 => ?_)
    refine J_fold 0 (cs' := [so 1 eI64 a2]) (ts := [1]) rfl (.move (.head _) (List.length_map _) (by decide) (.nil)) ?_
    refine J_wk [(0, sl 1 eI64 a1), (1, .fn 73 [pp 0]), (5, iv s9), (7, iv (a1.length : Int)), (8, iv s9)] [(0, .box [so 1 eI64 a2])] (by kernel_rfl) ?_
    refine J_bind (fun x13 h14 => ?_)
    refine J_g 3378 [] [(0, sl 1 eI64 a1), (1, .fn 73 [pp 0]), (5, iv s9), (7, iv (a1.length : Int)), (8, iv s9), (16, bv x13)] [(0, .box [so 1 eI64 a2])] (orcC 3 (x_ix (kk := .i64) 23 2 1 eI64 (.tmp 12) (.tmp 13) h12) (orcC 5 (x_ro [(0, .box [so 1 eI64 a2])] [] (x_c1v 11 [(.tmp 15)] [2] false [(0, .box [so 1 eI64 a2])] [0] [iv x11] [pp 0] (.cons (.same rfl) (.cons (.pt rfl) (.nil))) (impl_Disk_kept_1o.ok x11 a2) h14 (.same rfl rfl))) orcN)) ?_
    refine J_unfold 0 (cs' := [rr 1 a2]) (es := [(1, rE 1 eI64 a2)]) rfl (.cons (.own 1) (.nil)) rfl (by kernel_rfl) (by kernel_rfl) ?_
    refine J_wk [(0, sl 1 eI64 a1), (1, .fn 73 [pp 0]), (5, iv s9), (7, iv (a1.length : Int)), (8, iv s9), (16, bv x13)] [(0, .box [rr 1 a2]), (1, rE 1 eI64 a2)] (by kernel_rfl) ?_
    refine J_if2 16 (fun h15 => ?_) (fun h15 => ?_)
    · refine J_g 13516 [] [(4, iv s9)] [(0, .box [rr 1 a2]), (1, rE 1 eI64 a2)] orcN ?_
      refine J_fold 0 (cs' := [so 1 eI64 a2]) (ts := [1]) rfl (.move (.head _) (List.length_map _) (by decide) (.nil)) ?_
      refine J_wk [(4, iv s9)] [(0, .box [so 1 eI64 a2])] (by kernel_rfl) ?_
      exact J_r1 rfl
    · refine J_g 423 [] [(0, sl 1 eI64 a1), (1, .fn 73 [pp 0]), (7, iv (a1.length : Int)), (8, iv (w64 (s9 + 1)))] [(0, .box [rr 1 a2]), (1, rE 1 eI64 a2)] orcN ?_
      exact J_q (J_b (ih (w64 (s9 + 1)))) rfl
  · exact J_qw (hk ()) rfl

theorem slices_IndexFunc_Lint64_impl_Disk_kept_1o.ok (a1 : (List Int)) (a2 : (List Int)) : Ok Try.prog 106 [sl 1 eI64 a1, .fn 73 [pp 0]] [.box [so 1 eI64 a2]] ((slices_IndexFunc_Lint64_impl_Disk_kept_1o a1 a2).map fun r => (iv r, [.box [so 1 eI64 a2]])) := by
  refine Ok_of3 c106 Try.f106 1 19 (fun q => ?_)
  unfold slices_IndexFunc_Lint64_impl_Disk_kept_1o
  refine J_unfold 0 (cs' := [rr 1 a2]) (es := [(1, rE 1 eI64 a2)]) rfl (.cons (.own 1) (.nil)) rfl (by kernel_rfl) (by kernel_rfl) ?_
  refine J_wk [(0, sl 1 eI64 a1), (1, .fn 73 [pp 0])] [(0, .box [rr 1 a2]), (1, rE 1 eI64 a2)] (by kernel_rfl) ?_
  refine J_g 2 [] [(0, sl 1 eI64 a1), (1, .fn 73 [pp 0])] [(0, .box [rr 1 a2]), (1, rE 1 eI64 a2)] orcN ?_
  refine J_g 12 [] [(0, sl 1 eI64 a1), (1, .fn 73 [pp 0]), (7, iv (a1.length : Int)), (8, iv 0)] [(0, .box [rr 1 a2]), (1, rE 1 eI64 a2)] orcN ?_
  refine J_lqF (K0 := (fun r : Int => some (iv r, [.box [so 1 eI64 a2]]))) (fun _ => rfl) (slices_IndexFunc_Lint64_impl_Disk_kept_1o_l1.ok a1 a2 q _ (fun v16 => J_j ?_) 0)
  refine J_g 14 [] [(4, iv (-1))] [(0, .box [rr 1 a2]), (1, rE 1 eI64 a2)] orcN ?_
  refine J_fold 0 (cs' := [so 1 eI64 a2]) (ts := [1]) rfl (.move (.head _) (List.length_map _) (by decide) (.nil)) ?_
  refine J_wk [(4, iv (-1))] [(0, .box [so 1 eI64 a2])] (by kernel_rfl) ?_
  exact J_r1 rfl

noncomputable def c72 : Code := (Try.f72.body).getD .skip

theorem slices_ContainsFunc_Lint64_impl_Disk_kept_1o.ok (a1 : (List Int)) (a2 : (List Int)) : Ok Try.prog 72 [sl 1 eI64 a1, .fn 73 [pp 0]] [.box [so 1 eI64 a2]] ((slices_ContainsFunc_Lint64_impl_Disk_kept_1o a1 a2).map fun r => (bv r, [.box [so 1 eI64 a2]])) := by
  refine Ok_of3 c72 Try.f72 1 9 (fun q => ?_)
  unfold slices_ContainsFunc_Lint64_impl_Disk_kept_1o
  refine J_unfold 0 (cs' := [rr 1 a2]) (es := [(1, rE 1 eI64 a2)]) rfl (.cons (.own 1) (.nil)) rfl (by kernel_rfl) (by kernel_rfl) ?_
  refine J_wk [(0, sl 1 eI64 a1), (1, .fn 73 [pp 0])] [(0, .box [rr 1 a2]), (1, rE 1 eI64 a2)] (by kernel_rfl) ?_
  refine J_g 2 [] [(0, sl 1 eI64 a1), (1, .fn 73 [pp 0])] [(0, .box [rr 1 a2]), (1, rE 1 eI64 a2)] orcN ?_
  refine J_fold 0 (cs' := [so 1 eI64 a2]) (ts := [1]) rfl (.move (.head _) (List.length_map _) (by decide) (.nil)) ?_
  refine J_wk [(0, sl 1 eI64 a1), (1, .fn 73 [pp 0])] [(0, .box [so 1 eI64 a2])] (by kernel_rfl) ?_
  refine J_bind (fun x3 h4 => ?_)
  refine J_g 6 [] [(4, bv (decide (x3 ≥ 0)))] [(0, .box [so 1 eI64 a2])] (orcC 2 (x_ro [(0, .box [so 1 eI64 a2])] [] (x_c1 («as» := [sl 1 eI64 a1, .fn 73 [pp 0]]) [(.tmp 5), (.tmp 6)] [23, 108] false [(0, .box [so 1 eI64 a2])] [0] (.cons (.same rfl) (.cons (.fn (.cons (.pt rfl) (.nil))) (.nil))) (slices_IndexFunc_Lint64_impl_Disk_kept_1o.ok a1 a2) h4 (.same rfl rfl))) orcN) ?_
  refine J_unfold 0 (cs' := [rr 1 a2]) (es := [(1, rE 1 eI64 a2)]) rfl (.cons (.own 1) (.nil)) rfl (by kernel_rfl) (by kernel_rfl) ?_
  refine J_wk [(4, bv (decide (x3 ≥ 0)))] [(0, .box [rr 1 a2]), (1, rE 1 eI64 a2)] (by kernel_rfl) ?_
  refine J_fold 0 (cs' := [so 1 eI64 a2]) (ts := [1]) rfl (.move (.head _) (List.length_map _) (by decide) (.nil)) ?_
  refine J_wk [(4, bv (decide (x3 ≥ 0)))] [(0, .box [so 1 eI64 a2])] (by kernel_rfl) ?_
  exact J_r1 rfl

theorem bytealg_CompareString.ok (a1 a2 : ByteArray) : Ok Try.prog 176 [sv a1, sv a2] [] ((bytealg_CompareString a1 a2).map fun r => (iv r, [])) :=
  Ok_sc (vs := [.string a1, .string a2]) (fun w => Try.bytealg_CompareString a1 a2 w)

noncomputable def c163 : Code := (Try.f163.body).getD .skip

theorem strings_Compare.ok (a1 : ByteArray) (a2 : ByteArray) : Ok Try.prog 163 [sv a1, sv a2] [] ((strings_Compare a1 a2).map fun r => (iv r, [])) := by
  refine Ok_of3 c163 Try.f163 0 8 (fun q => ?_)
  unfold strings_Compare
  refine J_g 2 [] [(0, sv a1), (1, sv a2)] [] orcN ?_
  refine J_bind (fun x3 h4 => ?_)
  refine J_g 6 [] [(4, iv x3)] [] (orcC 2 (x_c0 [(.tmp 5), (.tmp 6)] [9, 9] (bytealg_CompareString.ok a1 a2) h4) orcN) ?_
  exact J_r1 rfl

noncomputable def c162 : Code := (Try.f162.body).getD .skip

theorem impl_Disk_place_1.ok (a1 : File) (a2 : ByteArray) : Ok Try.prog 162 [.ag (File.enc false a1), sv a2] [] ((impl_Disk_place_1 a1 a2).map fun r => (iv r, [])) := by
  refine Ok_of3 c162 Try.f162 0 9 (fun q => ?_)
  unfold impl_Disk_place_1
  refine J_g 2 [(0, 0)] [(1, sv a2), (2, pp 0)] [(0, .box (File.enc false a1))] orcN ?_
  refine J_bind (fun x3 h4 => ?_)
  refine J_g 6 [] [(4, iv x3)] [] (orcC 3 (x_c0 [(.tmp 6), (.tmp 7)] [9, 9] (strings_Compare.ok a1.Path a2) h4) orcN) ?_
  exact J_r1 rfl

noncomputable def c161 : Code := (Try.f161.body).getD .skip

theorem slices_BinarySearchFunc_LimplFile_impl_Disk_place_1_l1.ok (a1 : (List File)) (a2 : ByteArray) (q : Wd) (kn : Int → Option (D × List Ent)) (hk : ∀ v : Int, J (q.g Try.prog 161 0 49) c161 (atI c161 31) (St.mk' [(0, sl 2 (File.enc false) a1), (1, sv a2), (2, .fn 162 []), (8, iv (a1.length : Int)), (9, iv v)] []) (some v) kn) :
    ∀ s9 : (Int × Int), J (q.g Try.prog 161 0 49) c161 (atI c161 120) (St.mk' [(0, sl 2 (File.enc false) a1), (1, sv a2), (2, .fn 162 []), (8, iv (a1.length : Int)), (9, iv s9.1), (10, iv s9.2)] []) (slices_BinarySearchFunc_LimplFile_impl_Disk_place_1_l1 a1 a2 s9) kn := by
  refine J_lp (fun g ih s9 => ?_)
  unfold slices_BinarySearchFunc_LimplFile_impl_Disk_place_1_l1b
  refine J_g 480 [] [(0, sl 2 (File.enc false) a1), (1, sv a2), (2, .fn 162 []), (8, iv (a1.length : Int)), (9, iv s9.1), (10, iv s9.2), (17, bv (decide (s9.1 < s9.2)))] [] orcN ?_
  refine J_if2 17 (fun h10 => ?_) (fun h10 => ?_)
  · refine J_g 964 [] [(0, sl 2 (File.enc false) a1), (1, sv a2), (2, .fn 162 []), (8, iv (a1.length : Int)), (9, iv s9.1), (10, iv s9.2), (11, iv (w64 ((IntKind.u64.wrap (w64 (s9.1 + s9.2))).fdiv (2 ^ (min (1 : Int).toNat 64)))))] [] orcN ?_
    refine J_bind (fun x11 h12 => ?_)
    refine J_bind (fun x13 h14 => ?_)
    refine J_g 1930 [] [(0, sl 2 (File.enc false) a1), (1, sv a2), (2, .fn 162 []), (8, iv (a1.length : Int)), (9, iv s9.1), (10, iv s9.2), (11, iv (w64 ((IntKind.u64.wrap (w64 (s9.1 + s9.2))).fdiv (2 ^ (min (1 : Int).toNat 64))))), (31, bv (decide (x13 < 0)))] [] (orcC 3 (x_ix (kk := .i64) 43 99 2 (File.enc false) (.tmp 25) (.tmp 26) h12) (orcC 6 (x_c0v («as» := [.ag (File.enc false x11), sv a2]) (caps := []) 24 [(.tmp 28), (.tmp 29)] [99, 9] (impl_Disk_place_1.ok x11 a2) h14) orcN)) ?_
    refine J_if2 31 (fun h15 => ?_) (fun h15 => ?_)
    · refine J_g 3862 [] [(0, sl 2 (File.enc false) a1), (1, sv a2), (2, .fn 162 []), (8, iv (a1.length : Int)), (9, iv (w64 ((w64 ((IntKind.u64.wrap (w64 (s9.1 + s9.2))).fdiv (2 ^ (min (1 : Int).toNat 64)))) + 1))), (10, iv s9.2)] [] orcN ?_
      exact J_q (J_b (ih (w64 ((w64 ((IntKind.u64.wrap (w64 (s9.1 + s9.2))).fdiv (2 ^ (min (1 : Int).toNat 64)))) + 1), s9.2))) rfl
    · refine J_g 3863 [] [(0, sl 2 (File.enc false) a1), (1, sv a2), (2, .fn 162 []), (8, iv (a1.length : Int)), (9, iv s9.1), (10, iv (w64 ((IntKind.u64.wrap (w64 (s9.1 + s9.2))).fdiv (2 ^ (min (1 : Int).toNat 64)))))] [] orcN ?_
      exact J_q (J_b (ih (s9.1, w64 ((IntKind.u64.wrap (w64 (s9.1 + s9.2))).fdiv (2 ^ (min (1 : Int).toNat 64)))))) rfl
  · exact J_qw (hk s9.1) rfl

theorem slices_BinarySearchFunc_LimplFile_impl_Disk_place_1.ok (a1 : (List File)) (a2 : ByteArray) : Ok Try.prog 161 [sl 2 (File.enc false) a1, sv a2, .fn 162 []] [] ((slices_BinarySearchFunc_LimplFile_impl_Disk_place_1 a1 a2).map fun r => (.tu [iv r.1, bv r.2], [])) := by
  refine Ok_of3 c161 Try.f161 0 49 (fun q => ?_)
  unfold slices_BinarySearchFunc_LimplFile_impl_Disk_place_1
  refine J_g 2 [] [(0, sl 2 (File.enc false) a1), (1, sv a2), (2, .fn 162 [])] [] orcN ?_
  refine J_g 6 [] [(0, sl 2 (File.enc false) a1), (1, sv a2), (2, .fn 162 []), (8, iv (a1.length : Int))] [] orcN ?_
  refine J_g 14 [] [(0, sl 2 (File.enc false) a1), (1, sv a2), (2, .fn 162 []), (8, iv (a1.length : Int)), (9, iv 0), (10, iv (a1.length : Int))] [] orcN ?_
  refine J_lq (slices_BinarySearchFunc_LimplFile_impl_Disk_place_1_l1.ok a1 a2 q _ (fun v16 => J_j ?_) (0, (a1.length : Int)))
  refine J_ite (fun h17 => ?_) (fun h17 => ?_)
  · refine J_bind (fun x18 h19 => ?_)
    refine J_bind (fun x20 h21 => ?_)
    refine J_g 62 [] [(6, iv v16), (7, bv (x20 == 0))] [] (orcL 4 [(38, bv (decide (v16 < (a1.length : Int))))] [] h17 (orcH 8 4 39 true (x_ix (kk := .i64) 43 99 2 (File.enc false) (.tmp 41) (.tmp 42) h19) (orcH 11 4 39 true (x_c0v («as» := [.ag (File.enc false x18), sv a2]) (caps := []) 40 [(.tmp 44), (.tmp 45)] [99, 9] (impl_Disk_place_1.ok x18 a2) h21) orcN))) ?_
    exact J_rT rfl
  · refine J_g 62 [] [(6, iv v16), (7, bv false)] [] (orcL 4 [(38, bv (decide (v16 < (a1.length : Int))))] [] h17 orcN) ?_
    exact J_rT rfl

noncomputable def c135 : Code := (Try.f135.body).getD .skip

theorem impl_Disk_place.ok (a1 : Disk) (a2 : ByteArray) : Ok Try.prog 135 [.ag (Disk.enc false a1), sv a2] [] ((impl_Disk_place a1 a2).map fun r => (.tu [iv r.1, bv r.2], [])) := by
  refine Ok_of3 c135 Try.f135 0 12 (fun q => ?_)
  unfold impl_Disk_place
  refine J_g 2 [(0, 0)] [(1, sv a2), (2, pp 0)] [(0, .box (Disk.enc false a1))] orcN ?_
  refine J_bind (fun x3 h4 => ?_)
  refine J_g 6 [] [(4, iv x3.1), (5, bv x3.2)] [] (orcC 3 (x_c1 («as» := [sl 2 (File.enc false) a1.Files, sv a2, .fn 162 []]) [(.tmp 7), (.tmp 8), (.func 162)] [43, 9, 186] false [] [] (.cons (.same rfl) (.cons (.same rfl) (.cons (.fn (.nil)) (.nil)))) (slices_BinarySearchFunc_LimplFile_impl_Disk_place_1.ok a1.Files a2) h4 (.tu (.cons (.same rfl rfl) (.cons (.same rfl rfl) (.nil))))) orcN) ?_
  exact J_rT rfl

noncomputable def c108 : Code := (Try.f108.body).getD .skip

theorem impl_Disk_data.ok (a1 : Disk) (a2 : ByteArray) : Ok Try.prog 108 [.ag (Disk.enc false a1), sv a2] [] ((impl_Disk_data a1 a2).map fun r => (.tu [sl 1 eU8 r.1, bv r.2], [])) := by
  refine Ok_of3 c108 Try.f108 0 22 (fun q => ?_)
  unfold impl_Disk_data
  refine J_g 2 [(0, 0)] [(1, sv a2), (2, pp 0)] [(0, .box (Disk.enc false a1))] orcN ?_
  refine J_bind (fun x3 h4 => ?_)
  refine J_g 6 [] [(2, pp 0), (6, iv x3.1), (7, bv x3.2)] [(0, .box (Disk.enc false a1))] (orcC 2 (x_c0 [(.tmp 9), (.tmp 10)] [45, 9] (impl_Disk_place.ok a1 a2) h4) orcN) ?_
  refine J_g 28 [] [(2, pp 0), (6, iv x3.1), (15, bv (!x3.2))] [(0, .box (Disk.enc false a1))] orcN ?_
  refine J_if2 15 (fun h5 => ?_) (fun h5 => ?_)
  · refine J_g 116 [] [(4, nv), (5, bv false)] [] orcN ?_
    exact J_rm (ds := [nv, bv false]) (ds' := [sl 1 eU8 ([] : List Int), bv false]) (.cons (.cell (.nilsl false 1 (.nil))) (.cons (.cell (.keep rfl (.nil))) (.nil) (by decide)) (by decide)) rfl
  · refine J_bind (fun x6 h7 => ?_)
    refine J_g 30 [] [(4, sl 1 eU8 x6.Data), (5, bv true)] [] (orcC 3 (x_ix (kk := .i64) 43 99 2 (File.enc false) (.tmp 17) (.tmp 18) h7) orcN) ?_
    exact J_rT rfl

noncomputable def c75 : Code := (Try.f75.body).getD .skip

theorem impl_Disk_current.ok (a1 : Disk) : Ok Try.prog 75 [.ag (Disk.enc false a1)] [] ((impl_Disk_current a1).map fun r => (.tu [iv r.1, iv r.2], [])) := by
  refine Ok_of3 c75 Try.f75 0 25 (fun q => ?_)
  unfold impl_Disk_current
  refine J_g 2 [(0, 0)] [(1, pp 0)] [(0, .box (Disk.enc false a1))] orcN ?_
  refine J_bind (fun x2 h3 => ?_)
  refine J_g 6 [] [(1, pp 0), (4, sl 1 eU8 x2.1), (5, bv x2.2)] [(0, .box (Disk.enc false a1))] (orcC 1 (x_c0 [(.tmp 8), (.const (.string (bs [99, 117, 114])))] [45, 9] (impl_Disk_data.ok a1 (bs [99, 117, 114])) h3) orcN) ?_
  refine J_bind (fun x4 h5 => ?_)
  refine J_g 14 [] [(1, pp 0), (5, bv x2.2), (6, iv x4)] [(0, .box (Disk.enc false a1))] (orcC 1 (x_b2s (xs := x2.1) 94 9 5 (.tmp 12)) (orcC 2 (x_c0 [(.tmp 13), (.const (.int .i64 6))] [9, 3] (impl_number.ok (b2s x2.1) 6) h5) orcN)) ?_
  refine J_join (atI c75 61) (fun v11 : Bool => St.mk' [(6, iv x4), (23, bv v11)] []) (fun v11 => ?_) (fun jv11 => ?_)
  · refine J_if2 23 (fun h12 => ?_) (fun h12 => ?_)
    · refine J_g 244 [] [(2, iv 0), (3, iv 4)] [] orcN ?_
      exact J_rT rfl
    · refine J_g 62 [] [(2, iv x4), (3, iv 0)] [] orcN ?_
      exact J_rT rfl
  · refine J_ite (fun h6 => ?_) (fun h6 => ?_)
    · refine J_g 60 [] [(6, iv x4), (23, bv true)] [] (orcL 2 [(16, bv (!x2.2))] [] h6 orcN) ?_
      exact J_qw (J_j (jv11 true)) rfl
    · refine J_bind (fun x7 h8 => ?_)
      refine J_bind (fun x9 h10 => ?_)
      refine J_g 60 [] [(6, iv x4), (23, bv (!x9))] [] (orcL 2 [(16, bv (!x2.2))] [] h6 (orcH 4 2 17 false (x_c1 («as» := [.ag (Disk.enc false a1)]) [(.tmp 18)] [45] false [] [] (.cons (.same rfl) (.nil)) (impl_Disk_gens.ok a1) h8 (.own 1)) (orcH 6 2 17 false (x_c1 («as» := [rr 1 x7, iv x4]) [(.tmp 19), (.tmp 20)] [23, 2] true [(1, rE 1 eI64 x7)] [] (.cons (am_b (.head _) (fun _ => rfl) rfl) (.cons (.same rfl) (.nil))) (slices_Contains_Lint64.ok x7 x4) h10 (.same rfl rfl) (hbor := fun _ => ⟨rfl, flat_sc⟩)) orcN))) ?_
      exact J_qw (J_j (jv11 (!x9))) rfl

noncomputable def c76 : Code := (Try.f76.body).getD .skip

theorem slices_Clone_Lint64.ok (a1 : (List Int)) : Ok Try.prog 76 [sl 1 eI64 a1] [] ((slices_Clone_Lint64 a1).map fun r => (so 1 eI64 r, [])) := by
  refine Ok_of3 c76 Try.f76 0 8 (fun q => ?_)
  unfold slices_Clone_Lint64
  refine J_g 2 [] [(0, sl 1 eI64 a1)] [] orcN ?_
  refine J_g 12 [] [(0, sl 1 eI64 a1), (4, .nb a1.length)] [] (orcC 1 (x_nileq (xs := a1) 23 2 23 1 eI64 (.tmp 3)) orcN) ?_
  refine J_nb 4 rfl (fun h2 => ?_) ?_
  · obtain rfl : a1 = [] := List.eq_nil_of_length_eq_zero h2
    refine J_told (e' := some ([] : List Int)) (by kernel_rfl) ?_
    refine J_g 52 [] [(2, nv)] [] orcN ?_
    exact J_rm (ds := [nv]) (ds' := [so 1 eI64 ([] : List Int)]) (.cons (.cell (.nilsl true 1 (.nil))) (.nil) (by decide)) rfl
  · refine J_bind (fun x3 h4 => ?_)
    refine J_g 14 [] [(2, rr 1 x3)] [(1, rE 1 eI64 x3)] (orcC 0 (x_bp 23 2 1 0 eI64 ([] : List Int) [] [] []) (orcC 2 (x_aps 23 23 2 2 1 8 1 0 eI64 (.tmp 5) (.tmp 6) h4) orcN)) ?_
    exact J_rm (ds := [rr 1 x3]) (ds' := [so 1 eI64 x3]) (.cons (.cell (.move (.head _) (List.length_map _) (by decide) (.nil))) (.nil) (by decide)) rfl

theorem slices_Sort_Lint64r.ok (a1 : List Int) : Ok Try.prog 77 [rr 0 a1] [rE 1 eI64 a1] ((slices_Sort_Lint64r a1).map fun r => (.tu [], [rE 1 eI64 r])) := by
  unfold slices_Sort_Lint64r
  split
  · exact Ok_sort (enc := Value.int .i64) (by simp [List.length_mergeSort]) (fun blk off cap w hH hb => Try.slices_Sort_int blk off cap a1 w hH hb (by omega)) (fun _ p cap w => Try.slices_Sort_int_none p cap w)
  · exact fun _ h => by cases h

noncomputable def c78 : Code := (Try.f78.body).getD .skip

theorem slices_Compact_Lint64r_l1.ok (s41 : Int) (x48 : (List Int)) (q : Wd) (kn : ((List Int) × Int) → Option (D × List Ent)) (hk : ∀ v : ((List Int) × Int), J (q.g Try.prog 78 1 61) c78 (atI c78 14923) (St.mk' [(0, rr 0 v.1), (3, iv v.2)] [(0, rE 1 eI64 v.1)]) (some v) kn) :
    ∀ s61 : ((List Int) × Int × Int), J (q.g Try.prog 78 1 61) c78 (atI c78 119380) (St.mk' [(0, rr 0 s61.1), (3, iv s61.2.1), (4, .sub 0 s41.toNat x48.length), (5, iv s61.2.2)] [(0, rE 1 eI64 s61.1)]) (slices_Compact_Lint64r_l1 s41 x48 s61) kn := by
  refine J_lp (fun g ih s61 => ?_)
  unfold slices_Compact_Lint64r_l1b
  refine J_g 477520 [] [(0, rr 0 s61.1), (3, iv s61.2.1), (4, .sub 0 s41.toNat x48.length), (5, iv s61.2.2), (32, bv (decide (s61.2.2 < (x48.length : Int))))] [(0, rE 1 eI64 s61.1)] (orcC 2 (x_lens 23 2 0 s41.toNat x48.length (.tmp 30)) orcN) ?_
  refine J_if2 32 (fun h62 => ?_) (fun h62 => ?_)
  · refine J_bind (fun x63 h64 => ?_)
    refine J_bind (fun x65 h66 => ?_)
    refine J_g 1910088 [] [(0, rr 0 s61.1), (3, iv s61.2.1), (4, .sub 0 s41.toNat x48.length), (5, iv s61.2.2), (44, bv (x63 != x65))] [(0, rE 1 eI64 s61.1)] (orcC 2 (x_ixs (kk := .i64) 23 2 1 0 eI64 (.tmp 35) (.tmp 36) h64) (orcC 3 (x_ldr (d := iv x63) 2 1 0 0 eI64 (.tmp 37) (idxo_idx h64) (by kernel_rfl)) (orcC 7 (x_ixs (kk := .i64) 23 2 1 0 eI64 (.tmp 39) (.tmp 41) h66) (orcC 8 (x_ldr (d := iv x65) 2 1 0 0 eI64 (.tmp 42) (idxo_idx h66) (by kernel_rfl)) orcN)))) ?_
    refine J_join (aft c78 955044) (fun v72 : ((List Int) × Int) => St.mk' [(0, rr 0 v72.1), (3, iv v72.2), (4, .sub 0 s41.toNat x48.length), (5, iv s61.2.2)] [(0, rE 1 eI64 v72.1)]) (fun v72 => ?_) (fun jv72 => ?_)
    · refine J_g 477523 [] [(0, rr 0 v72.1), (3, iv v72.2), (4, .sub 0 s41.toNat x48.length), (5, iv (w64 (s61.2.2 + 1)))] [(0, rE 1 eI64 v72.1)] orcN ?_
      exact J_q (J_b (ih (v72.1, v72.2, w64 (s61.2.2 + 1)))) rfl
    · refine J_if2 44 (fun h67 => ?_) (fun h67 => ?_)
      · refine J_bind (fun x68 h69 => ?_)
        refine J_bind (fun x70 h71 => ?_)
        refine J_g 7640356 [] [(0, rr 0 s61.1), (3, iv s61.2.1), (4, .sub 0 s41.toNat x48.length), (5, iv s61.2.2)] [(0, rE 1 eI64 (s61.1.set s61.2.1.toNat x68))] (orcC 4 (x_ixs (kk := .i64) 23 2 1 0 eI64 (.tmp 47) (.tmp 48) h69) (orcC 5 (x_ldr (d := iv x68) 2 1 0 0 eI64 (.tmp 49) (idxo_idx h69) (by kernel_rfl)) (orcC 6 (x_ixr (kk := .i64) 23 2 1 0 eI64 (.tmp 45) (.tmp 46) h71) (orcD 7 (x_st (b := x68) 2 1 0 0 eI64 (iv x68) (.tmp 51) (.tmp 50) h71 rfl) orcN)))) ?_
        refine J_st (σ' := St.mk' [(0, rr 0 (s61.1.set s61.2.1.toNat x68)), (3, iv s61.2.1), (4, .sub 0 s41.toNat x48.length), (5, iv s61.2.2)] [(0, rE 1 eI64 (s61.1.set s61.2.1.toNat x68))]) (by simp only [rr, List.length_set]) ?_
        refine J_g 7640357 [] [(0, rr 0 (s61.1.set s61.2.1.toNat x68)), (3, iv (w64 (s61.2.1 + 1))), (4, .sub 0 s41.toNat x48.length), (5, iv s61.2.2)] [(0, rE 1 eI64 (s61.1.set s61.2.1.toNat x68))] orcN ?_
        exact J_qw (J_j (jv72 (s61.1.set s61.2.1.toNat x68, w64 (s61.2.1 + 1)))) rfl
      · exact J_qw (J_j (jv72 (s61.1, s61.2.1))) rfl
  · exact J_qw (hk (s61.1, s61.2.1)) rfl

theorem slices_Compact_Lint64r_l2.ok (a1 : (List Int)) (q : Wd) (kn : Unit → Option (D × List Ent)) (hk : ∀ v : Unit, J (q.g Try.prog 78 1 61) c78 (atI c78 15) (St.mk' [(0, rr 0 a1)] [(0, rE 1 eI64 a1)]) (some v) kn) :
    ∀ s41 : Int, J (q.g Try.prog 78 1 61) c78 (atI c78 116) (St.mk' [(0, rr 0 a1), (3, iv s41)] [(0, rE 1 eI64 a1)]) (slices_Compact_Lint64r_l2 a1 s41) (Fl.go (fun r : (List Int) => some (so 1 eI64 r, [])) kn) := by
  refine J_lp (fun g ih s41 => ?_)
  unfold slices_Compact_Lint64r_l2b
  refine J_g 464 [] [(0, rr 0 a1), (3, iv s41), (13, bv (decide (s41 < (a1.length : Int))))] [(0, rE 1 eI64 a1)] orcN ?_
  refine J_if2 13 (fun h42 => ?_) (fun h42 => ?_)
  · refine J_bind (fun x43 h44 => ?_)
    refine J_bind (fun x45 h46 => ?_)
    refine J_g 1864 [] [(0, rr 0 a1), (3, iv s41), (25, bv (x43 == x45))] [(0, rE 1 eI64 a1)] (orcC 2 (x_ixr (kk := .i64) 23 2 1 0 eI64 (.tmp 16) (.tmp 17) h44) (orcC 3 (x_ldr (d := iv x43) 2 1 0 0 eI64 (.tmp 18) h44 (by kernel_rfl)) (orcC 7 (x_ixr (kk := .i64) 23 2 1 0 eI64 (.tmp 20) (.tmp 22) h46) (orcC 8 (x_ldr (d := iv x45) 2 1 0 0 eI64 (.tmp 23) h46 (by kernel_rfl)) orcN)))) ?_
    refine J_if2 25 (fun h47 => ?_) (fun h47 => ?_)
    · refine J_bind (fun x48 h49 => ?_)
      refine J_g 7460 [] [(0, rr 0 a1), (3, iv s41), (4, .sub 0 s41.toNat x48.length)] [(0, rE 1 eI64 a1)] (orcC 2 (x_slr 23 2 1 0 eI64 (.tmp 26) (some (.tmp 27)) none h49) orcN) ?_
      refine J_g 29844 [] [(0, rr 0 a1), (3, iv s41), (4, .sub 0 s41.toNat x48.length), (5, iv 1)] [(0, rE 1 eI64 a1)] orcN ?_
      refine J_lq (slices_Compact_Lint64r_l1.ok s41 x48 q _ (fun v73 => J_j ?_) (a1, s41, 1))
      refine J_bind (fun x74 h75 => ?_)
      refine J_bind (fun x76 h77 => ?_)
      refine J_g 29846 [] [(0, rr 0 v73.1), (3, iv v73.2)] [(0, rE 1 eI64 x76)] (orcC 2 (x_slr 23 2 1 0 eI64 (.tmp 54) (some (.tmp 55)) none h75) (orcD 3 (x_clr (l := v73.2) (a := 0) 23 2 1 0 eI64 (.tmp 56) h77 (.keep rfl (.nil))) orcN)) ?_
      refine J_st (σ' := St.mk' [(0, rr 0 x76), (3, iv v73.2)] [(0, rE 1 eI64 x76)]) (by simp only [rr, clrw_len h77]) ?_
      refine J_bind (fun x78 h79 => ?_)
      refine J_g 59694 [] [(2, rr 1 x78)] [(1, rE 1 eI64 x78)] (orcC 2 (x_cut 23 2 1 0 1 eI64 (.tmp 57) none (some (.tmp 58)) h79) orcN) ?_
      exact J_rm (ds := [rr 1 x78]) (ds' := [so 1 eI64 x78]) (.cons (.cell (.move (.head _) (List.length_map _) (by decide) (.nil))) (.nil) (by decide)) rfl
    · refine J_g 467 [] [(0, rr 0 a1), (3, iv (w64 (s41 + 1)))] [(0, rE 1 eI64 a1)] orcN ?_
      exact J_q (J_b (ih (w64 (s41 + 1)))) rfl
  · exact J_qw (hk ()) rfl

theorem slices_Compact_Lint64r.ok (a1 : (List Int)) : Ok Try.prog 78 [rr 0 a1] [rE 1 eI64 a1] ((slices_Compact_Lint64r a1).map fun r => (so 1 eI64 r, [])) := by
  refine Ok_of3 c78 Try.f78 1 61 (fun q => ?_)
  unfold slices_Compact_Lint64r
  refine J_g 2 [] [(0, rr 0 a1)] [(0, rE 1 eI64 a1)] orcN ?_
  refine J_g 12 [] [(0, rr 0 a1), (8, bv (decide ((a1.length : Int) < 2)))] [(0, rE 1 eI64 a1)] orcN ?_
  refine J_if2 8 (fun h2 => ?_) (fun h2 => ?_)
  · refine J_g 52 [] [(2, rr 0 a1)] [(0, rE 1 eI64 a1)] orcN ?_
    exact J_rm (ds := [rr 0 a1]) (ds' := [so 1 eI64 a1]) (.cons (.cell (.move (.head _) (List.length_map _) (by decide) (.nil))) (.nil) (by decide)) rfl
  · refine J_g 28 [] [(0, rr 0 a1), (3, iv 1)] [(0, rE 1 eI64 a1)] orcN ?_
    refine J_lqF (K0 := (fun r : (List Int) => some (so 1 eI64 r, []))) (fun _ => rfl) (slices_Compact_Lint64r_l2.ok a1 q _ (fun v80 => J_j ?_) 1)
    refine J_g 30 [] [(2, rr 0 a1)] [(0, rE 1 eI64 a1)] orcN ?_
    exact J_rm (ds := [rr 0 a1]) (ds' := [so 1 eI64 a1]) (.cons (.cell (.move (.head _) (List.length_map _) (by decide) (.nil))) (.nil) (by decide)) rfl

noncomputable def c39 : Code := (Try.f39.body).getD .skip

theorem impl_Disk_kept.ok (a1 : Disk) (a2 : (List Int)) : Ok Try.prog 39 [.ag (Disk.enc false a1), sl 1 eI64 a2] [] ((impl_Disk_kept a1 a2).map fun r => (.tu [so 1 eI64 r.1, iv r.2], [])) := by
  refine Ok_of3 c39 Try.f39 0 37 (fun q => ?_)
  unfold impl_Disk_kept
  refine J_g 2 [(0, 0)] [(1, sl 1 eI64 a2), (2, pp 0)] [(0, .box (Disk.enc false a1))] orcN ?_
  refine J_bind (fun x3 h4 => ?_)
  refine J_g 6 [(2, 2)] [(1, sl 1 eI64 a2), (2, pp 0), (6, pp 2)] [(0, .box (Disk.enc false a1)), (1, rE 1 eI64 x3), (2, .box [rr 1 x3])] (orcC 1 (x_c1 («as» := [.ag (Disk.enc false a1)]) [(.tmp 10)] [45] false [] [] (.cons (.same rfl) (.nil)) (impl_Disk_gens.ok a1) h4 (.own 1)) orcN) ?_
  refine J_g 56 [] [(1, sl 1 eI64 a2), (2, pp 0), (6, pp 2), (12, bv (decide ((a2.length : Int) > 40)))] [(0, .box (Disk.enc false a1)), (1, rE 1 eI64 x3), (2, .box [rr 1 x3])] orcN ?_
  refine J_if2 12 (fun h5 => ?_) (fun h5 => ?_)
  · refine J_g 228 [] [(4, nv), (5, iv 2)] [] orcN ?_
    exact J_rm (ds := [nv, iv 2]) (ds' := [so 1 eI64 ([] : List Int), iv 2]) (.cons (.cell (.nilsl true 1 (.nil))) (.cons (.cell (.keep rfl (.nil))) (.nil) (by decide)) (by decide)) rfl
  · refine J_fold 2 (cs' := [so 1 eI64 x3]) (ts := [1]) rfl (.move (.tail _ (.head _)) (List.length_map _) (by decide) (.nil)) ?_
    refine J_wk [(1, sl 1 eI64 a2), (2, pp 0), (6, pp 2), (12, bv false)] [(0, .box (Disk.enc false a1)), (2, .box [so 1 eI64 x3])] (by kernel_rfl) ?_
    refine J_bind (fun x6 h7 => ?_)
    refine J_g 230 [] [(1, sl 1 eI64 a2), (2, pp 0), (16, bv x6)] [(0, .box (Disk.enc false a1))] (orcC 2 (x_ro [(2, .box [so 1 eI64 x3])] [] (x_c1 («as» := [sl 1 eI64 a2, .fn 73 [pp 2]]) [(.tmp 17), (.tmp 18)] [23, 108] false [(2, .box [so 1 eI64 x3])] [2] (.cons (.same rfl) (.cons (.fn (.cons (.pt rfl) (.nil))) (.nil))) (slices_ContainsFunc_Lint64_impl_Disk_kept_1o.ok a2 x3) h7 (.same rfl rfl))) orcN) ?_
    refine J_if2 16 (fun h8 => ?_) (fun h8 => ?_)
    · refine J_g 924 [] [(4, nv), (5, iv 4)] [] orcN ?_
      exact J_rm (ds := [nv, iv 4]) (ds' := [so 1 eI64 ([] : List Int), iv 4]) (.cons (.cell (.nilsl true 1 (.nil))) (.cons (.cell (.keep rfl (.nil))) (.nil) (by decide)) (by decide)) rfl
    · refine J_bind (fun x9 h10 => ?_)
      refine J_g 30 [] [(1, sl 1 eI64 a2), (7, iv x9.1), (8, iv x9.2)] [] (orcC 1 (x_c0 [(.tmp 21)] [45] (impl_Disk_current.ok a1) h10) orcN) ?_
      refine J_g 124 [] [(1, sl 1 eI64 a2), (7, iv x9.1), (8, iv x9.2), (26, bv (x9.2 != 0))] [] orcN ?_
      refine J_if2 26 (fun h11 => ?_) (fun h11 => ?_)
      · refine J_g 500 [] [(4, nv), (5, iv x9.2)] [] orcN ?_
        exact J_rm (ds := [nv, iv x9.2]) (ds' := [so 1 eI64 ([] : List Int), iv x9.2]) (.cons (.cell (.nilsl true 1 (.nil))) (.cons (.cell (.keep rfl (.nil))) (.nil) (by decide)) (by decide)) rfl
      · refine J_bind (fun x12 h13 => ?_)
        refine J_bind (fun x14 h15 => ?_)
        refine J_g 126 [] [(9, rr 2 x14)] [(2, rE 1 eI64 x14)] (orcC 1 (x_c1 («as» := [sl 1 eI64 a2]) [(.tmp 28)] [23] false [] [] (.cons (.same rfl) (.nil)) (slices_Clone_Lint64.ok a2) h13 (.own 0)) (orcC 3 (x_bp 23 2 1 1 eI64 [x9.1] [0] [(.tmp 30)] [iv x9.1]) (orcC 4 (x_ap 23 23 2 2 1 8 2 0 1 eI64 (.tmp 29) (.tmp 31) h15) orcN))) ?_
        refine J_bind (fun x16 h17 => ?_)
        refine J_g 254 [] [(9, rr 2 x14)] [(2, rE 1 eI64 x16)] (orcC 1 (x_c1 («as» := [rr 2 x14]) [(.tmp 33)] [23] false [(2, rE 1 eI64 x14)] [2] (.cons (.rf rfl) (.nil)) (slices_Sort_Lint64r.ok x14) h17 (.tu (.nil))) orcN) ?_
        refine J_bind (fun u18 h19 => ?_)
        refine J_st (σ' := St.mk' [(9, rr 2 x16)] [(2, rE 1 eI64 x16)]) (by simp only [rr, same_len h19]) ?_
        refine J_bind (fun x20 h21 => ?_)
        refine J_g 510 [] [(4, rr 3 x20), (5, iv 0)] [(3, rE 1 eI64 x20)] (orcC 1 (x_c1 («as» := [rr 2 x16]) [(.tmp 35)] [23] false [(2, rE 1 eI64 x16)] [2] (.cons (.rf rfl) (.nil)) (slices_Compact_Lint64r.ok x16) h21 (.own 3)) orcN) ?_
        exact J_rm (ds := [rr 3 x20, iv 0]) (ds' := [so 1 eI64 x20, iv 0]) (.cons (.cell (.move (.head _) (List.length_map _) (by decide) (.nil))) (.cons (.cell (.keep rfl (.nil))) (.nil) (by decide)) (by decide)) rfl

noncomputable def c18 : Code := (Try.f18.body).getD .skip

theorem impl_KeptGens.ok (a1 : Disk) (a2 : (List Int)) : Ok Try.prog 18 [.ag (Disk.enc false a1), sl 1 eI64 a2] [] ((impl_KeptGens a1 a2).map fun r => (.ag [iv r.Code, so 1 eI64 r.Gens], [])) := by
  refine Ok_of3 c18 Try.f18 0 23 (fun q => ?_)
  unfold impl_KeptGens
  refine J_g 2 [(0, 0), (1, 1)] [(1, sl 1 eI64 a2), (2, pp 0), (4, pp 1)] [(0, .box (Disk.enc false a1)), (1, .box [iv 0, nv])] orcN ?_
  refine J_bind (fun x3 h4 => ?_)
  refine J_g 12 [] [(1, sl 1 eI64 a2), (2, pp 0), (4, pp 1), (5, iv x3)] [(0, .box (Disk.enc false a1)), (1, .box [iv 0, nv])] (orcC 1 (x_c0 [(.tmp 8)] [45] (impl_DiskFault.ok a1) h4) orcN) ?_
  refine J_g 26 [] [(1, sl 1 eI64 a2), (2, pp 0), (4, pp 1), (5, iv x3), (11, bv (x3 != 0))] [(0, .box (Disk.enc false a1)), (1, .box [iv 0, nv])] orcN ?_
  refine J_if2 11 (fun h5 => ?_) (fun h5 => ?_)
  · refine J_g 108 [] [(4, pp 1)] [(1, .box [iv x3, nv])] orcN ?_
    exact J_rm (ds := [.ag [iv x3, nv]]) (ds' := [.ag [iv x3, so 1 eI64 ([] : List Int)]]) (.cons (.ag (.keep rfl (.nilsl true 1 (.nil)))) (.nil) (by decide)) rfl
  · refine J_bind (fun x6 h7 => ?_)
    refine J_g 14 [] [(4, pp 1), (6, rr 2 x6.1), (7, iv x6.2)] [(1, .box [iv 0, nv]), (2, rE 1 eI64 x6.1)] (orcC 2 (x_c1 («as» := [.ag (Disk.enc false a1), sl 1 eI64 a2]) [(.tmp 15), (.tmp 16)] [45, 23] false [] [] (.cons (.same rfl) (.cons (.same rfl) (.nil))) (impl_Disk_kept.ok a1 a2) h7 (.tu (.cons (.own 2) (.cons (.same rfl rfl) (.nil))))) orcN) ?_
    refine J_g 30 [] [(4, pp 1)] [(1, .box [iv x6.2, rr 2 x6.1]), (2, rE 1 eI64 x6.1)] orcN ?_
    exact J_rm (ds := [.ag [iv x6.2, rr 2 x6.1]]) (ds' := [.ag [iv x6.2, so 1 eI64 x6.1]]) (.cons (.ag (.keep rfl (.move (.tail _ (.head _)) (List.length_map _) (by decide) (.nil)))) (.nil) (by decide)) rfl

noncomputable def c13 : Code := (Try.f13.body).getD .skip

theorem laws_eqInt64S_l1.ok (a1 : (List Int)) (a2 : (List Int)) (q : Wd) (kn : Unit → Option (D × List Ent)) (hk : ∀ v : Unit, J (q.g Try.prog 13 0 26) c13 (atI c13 15) (St.mk' [] []) (some v) kn) :
    ∀ s10 : Int, J (q.g Try.prog 13 0 26) c13 (atI c13 116) (St.mk' [(0, sl 1 eI64 a1), (1, sl 1 eI64 a2), (5, iv s10)] []) (laws_eqInt64S_l1 a1 a2 s10) (Fl.go (fun r : Bool => some (bv r, [])) kn) := by
  refine J_lp (fun g ih s10 => ?_)
  unfold laws_eqInt64S_l1b
  refine J_g 464 [] [(0, sl 1 eI64 a1), (1, sl 1 eI64 a2), (5, iv s10), (14, bv (decide (s10 < (a1.length : Int))))] [] orcN ?_
  refine J_if2 14 (fun h11 => ?_) (fun h11 => ?_)
  · refine J_bind (fun x12 h13 => ?_)
    refine J_bind (fun x14 h15 => ?_)
    refine J_g 1864 [] [(0, sl 1 eI64 a1), (1, sl 1 eI64 a2), (5, iv s10), (25, bv (x12 != x14))] [] (orcC 2 (x_ix (kk := .i64) 23 2 1 eI64 (.tmp 17) (.tmp 18) h13) (orcC 6 (x_ix (kk := .i64) 23 2 1 eI64 (.tmp 21) (.tmp 22) h15) orcN)) ?_
    refine J_if2 25 (fun h16 => ?_) (fun h16 => ?_)
    · refine J_g 7460 [] [(4, bv false)] [] orcN ?_
      exact J_r1 rfl
    · refine J_g 467 [] [(0, sl 1 eI64 a1), (1, sl 1 eI64 a2), (5, iv (w64 (s10 + 1)))] [] orcN ?_
      exact J_q (J_b (ih (w64 (s10 + 1)))) rfl
  · exact J_qw (hk ()) rfl

theorem laws_eqInt64S.ok (a1 : (List Int)) (a2 : (List Int)) : Ok Try.prog 13 [sl 1 eI64 a1, sl 1 eI64 a2] [] ((laws_eqInt64S a1 a2).map fun r => (bv r, [])) := by
  refine Ok_of3 c13 Try.f13 0 26 (fun q => ?_)
  unfold laws_eqInt64S
  refine J_g 2 [] [(0, sl 1 eI64 a1), (1, sl 1 eI64 a2)] [] orcN ?_
  refine J_g 12 [] [(0, sl 1 eI64 a1), (1, sl 1 eI64 a2), (10, bv ((a1.length : Int) != (a2.length : Int)))] [] orcN ?_
  refine J_if2 10 (fun h3 => ?_) (fun h3 => ?_)
  · refine J_g 52 [] [(4, bv false)] [] orcN ?_
    exact J_r1 rfl
  · refine J_g 28 [] [(0, sl 1 eI64 a1), (1, sl 1 eI64 a2), (5, iv 0)] [] orcN ?_
    refine J_lqF (K0 := (fun r : Bool => some (bv r, []))) (fun _ => rfl) (laws_eqInt64S_l1.ok a1 a2 q _ (fun v17 => J_j ?_) 0)
    refine J_g 30 [] [(4, bv true)] [] orcN ?_
    exact J_r1 rfl

noncomputable def c19 : Code := (Try.f19.body).getD .skip

theorem laws_eqGensResult.ok (a1 : GensResult) (a2 : GensResult) : Ok Try.prog 19 [.ag (GensResult.enc false a1), .ag (GensResult.enc false a2)] [] ((laws_eqGensResult a1 a2).map fun r => (bv r, [])) := by
  refine Ok_of3 c19 Try.f19 0 16 (fun q => ?_)
  unfold laws_eqGensResult
  refine J_g 2 [(0, 0), (1, 1)] [(2, pp 0), (3, pp 1)] [(0, .box (GensResult.enc false a1)), (1, .box (GensResult.enc false a2))] orcN ?_
  refine J_g 12 [] [(2, pp 0), (3, pp 1), (9, bv (a1.Code != a2.Code))] [(0, .box (GensResult.enc false a1)), (1, .box (GensResult.enc false a2))] orcN ?_
  refine J_if2 9 (fun h3 => ?_) (fun h3 => ?_)
  · refine J_g 52 [] [(4, bv false)] [] orcN ?_
    exact J_r1 rfl
  · refine J_bind (fun x4 h5 => ?_)
    refine J_g 28 [] [(15, bv (!x4))] [] (orcC 4 (x_c0 [(.tmp 11), (.tmp 13)] [23, 23] (laws_eqInt64S.ok a1.Gens a2.Gens) h5) orcN) ?_
    refine J_if2 15 (fun h6 => ?_) (fun h6 => ?_)
    · refine J_g 116 [] [(4, bv false)] [] orcN ?_
      exact J_r1 rfl
    · refine J_g 30 [] [(4, bv true)] [] orcN ?_
      exact J_r1 rfl

noncomputable def c111 : Code := (Try.f111.body).getD .skip

theorem laws_eqByteS_l1.ok (a1 : (List Int)) (a2 : (List Int)) (q : Wd) (kn : Unit → Option (D × List Ent)) (hk : ∀ v : Unit, J (q.g Try.prog 111 0 26) c111 (atI c111 15) (St.mk' [] []) (some v) kn) :
    ∀ s10 : Int, J (q.g Try.prog 111 0 26) c111 (atI c111 116) (St.mk' [(0, sl 1 eU8 a1), (1, sl 1 eU8 a2), (5, iv s10)] []) (laws_eqByteS_l1 a1 a2 s10) (Fl.go (fun r : Bool => some (bv r, [])) kn) := by
  refine J_lp (fun g ih s10 => ?_)
  unfold laws_eqByteS_l1b
  refine J_g 464 [] [(0, sl 1 eU8 a1), (1, sl 1 eU8 a2), (5, iv s10), (14, bv (decide (s10 < (a1.length : Int))))] [] orcN ?_
  refine J_if2 14 (fun h11 => ?_) (fun h11 => ?_)
  · refine J_bind (fun x12 h13 => ?_)
    refine J_bind (fun x14 h15 => ?_)
    refine J_g 1864 [] [(0, sl 1 eU8 a1), (1, sl 1 eU8 a2), (5, iv s10), (25, bv (x12 != x14))] [] (orcC 2 (x_ix (kk := .i64) 94 5 1 eU8 (.tmp 17) (.tmp 18) h13) (orcC 6 (x_ix (kk := .i64) 94 5 1 eU8 (.tmp 21) (.tmp 22) h15) orcN)) ?_
    refine J_if2 25 (fun h16 => ?_) (fun h16 => ?_)
    · refine J_g 7460 [] [(4, bv false)] [] orcN ?_
      exact J_r1 rfl
    · refine J_g 467 [] [(0, sl 1 eU8 a1), (1, sl 1 eU8 a2), (5, iv (w64 (s10 + 1)))] [] orcN ?_
      exact J_q (J_b (ih (w64 (s10 + 1)))) rfl
  · exact J_qw (hk ()) rfl

theorem laws_eqByteS.ok (a1 : (List Int)) (a2 : (List Int)) : Ok Try.prog 111 [sl 1 eU8 a1, sl 1 eU8 a2] [] ((laws_eqByteS a1 a2).map fun r => (bv r, [])) := by
  refine Ok_of3 c111 Try.f111 0 26 (fun q => ?_)
  unfold laws_eqByteS
  refine J_g 2 [] [(0, sl 1 eU8 a1), (1, sl 1 eU8 a2)] [] orcN ?_
  refine J_g 12 [] [(0, sl 1 eU8 a1), (1, sl 1 eU8 a2), (10, bv ((a1.length : Int) != (a2.length : Int)))] [] orcN ?_
  refine J_if2 10 (fun h3 => ?_) (fun h3 => ?_)
  · refine J_g 52 [] [(4, bv false)] [] orcN ?_
    exact J_r1 rfl
  · refine J_g 28 [] [(0, sl 1 eU8 a1), (1, sl 1 eU8 a2), (5, iv 0)] [] orcN ?_
    refine J_lqF (K0 := (fun r : Bool => some (bv r, []))) (fun _ => rfl) (laws_eqByteS_l1.ok a1 a2 q _ (fun v17 => J_j ?_) 0)
    refine J_g 30 [] [(4, bv true)] [] orcN ?_
    exact J_r1 rfl

noncomputable def c79 : Code := (Try.f79.body).getD .skip

theorem laws_eqFile.ok (a1 : File) (a2 : File) : Ok Try.prog 79 [.ag (File.enc false a1), .ag (File.enc false a2)] [] ((laws_eqFile a1 a2).map fun r => (bv r, [])) := by
  refine Ok_of3 c79 Try.f79 0 16 (fun q => ?_)
  unfold laws_eqFile
  refine J_g 2 [(0, 0), (1, 1)] [(2, pp 0), (3, pp 1)] [(0, .box (File.enc false a1)), (1, .box (File.enc false a2))] orcN ?_
  refine J_g 12 [] [(2, pp 0), (3, pp 1), (9, bv (!(seq a1.Path a2.Path)))] [(0, .box (File.enc false a1)), (1, .box (File.enc false a2))] orcN ?_
  refine J_if2 9 (fun h3 => ?_) (fun h3 => ?_)
  · refine J_g 52 [] [(4, bv false)] [] orcN ?_
    exact J_r1 rfl
  · refine J_bind (fun x4 h5 => ?_)
    refine J_g 28 [] [(15, bv (!x4))] [] (orcC 4 (x_c0 [(.tmp 11), (.tmp 13)] [94, 94] (laws_eqByteS.ok a1.Data a2.Data) h5) orcN) ?_
    refine J_if2 15 (fun h6 => ?_) (fun h6 => ?_)
    · refine J_g 116 [] [(4, bv false)] [] orcN ?_
      exact J_r1 rfl
    · refine J_g 30 [] [(4, bv true)] [] orcN ?_
      exact J_r1 rfl

noncomputable def c40 : Code := (Try.f40.body).getD .skip

theorem laws_eqFileS_l1.ok (a1 : (List File)) (a2 : (List File)) (q : Wd) (kn : Unit → Option (D × List Ent)) (hk : ∀ v : Unit, J (q.g Try.prog 40 0 27) c40 (atI c40 15) (St.mk' [] []) (some v) kn) :
    ∀ s12 : Int, J (q.g Try.prog 40 0 27) c40 (atI c40 116) (St.mk' [(0, sl 2 (File.enc false) a1), (1, sl 2 (File.enc false) a2), (5, iv s12)] []) (laws_eqFileS_l1 a1 a2 s12) (Fl.go (fun r : Bool => some (bv r, [])) kn) := by
  refine J_lp (fun g ih s12 => ?_)
  unfold laws_eqFileS_l1b
  refine J_g 464 [] [(0, sl 2 (File.enc false) a1), (1, sl 2 (File.enc false) a2), (5, iv s12), (14, bv (decide (s12 < (a1.length : Int))))] [] orcN ?_
  refine J_if2 14 (fun h13 => ?_) (fun h13 => ?_)
  · refine J_bind (fun x14 h15 => ?_)
    refine J_bind (fun x16 h17 => ?_)
    refine J_bind (fun x18 h19 => ?_)
    refine J_g 1864 [] [(0, sl 2 (File.enc false) a1), (1, sl 2 (File.enc false) a2), (5, iv s12), (26, bv (!x18))] [] (orcC 2 (x_ix (kk := .i64) 43 99 2 (File.enc false) (.tmp 17) (.tmp 18) h15) (orcC 6 (x_ix (kk := .i64) 43 99 2 (File.enc false) (.tmp 21) (.tmp 22) h17) (orcC 8 (x_c0 [(.tmp 20), (.tmp 24)] [99, 99] (laws_eqFile.ok x14 x16) h19) orcN))) ?_
    refine J_if2 26 (fun h20 => ?_) (fun h20 => ?_)
    · refine J_g 7460 [] [(4, bv false)] [] orcN ?_
      exact J_r1 rfl
    · refine J_g 467 [] [(0, sl 2 (File.enc false) a1), (1, sl 2 (File.enc false) a2), (5, iv (w64 (s12 + 1)))] [] orcN ?_
      exact J_q (J_b (ih (w64 (s12 + 1)))) rfl
  · exact J_qw (hk ()) rfl

theorem laws_eqFileS.ok (a1 : (List File)) (a2 : (List File)) : Ok Try.prog 40 [sl 2 (File.enc false) a1, sl 2 (File.enc false) a2] [] ((laws_eqFileS a1 a2).map fun r => (bv r, [])) := by
  refine Ok_of3 c40 Try.f40 0 27 (fun q => ?_)
  unfold laws_eqFileS
  refine J_g 2 [] [(0, sl 2 (File.enc false) a1), (1, sl 2 (File.enc false) a2)] [] orcN ?_
  refine J_g 12 [] [(0, sl 2 (File.enc false) a1), (1, sl 2 (File.enc false) a2), (10, bv ((a1.length : Int) != (a2.length : Int)))] [] orcN ?_
  refine J_if2 10 (fun h3 => ?_) (fun h3 => ?_)
  · refine J_g 52 [] [(4, bv false)] [] orcN ?_
    exact J_r1 rfl
  · refine J_g 28 [] [(0, sl 2 (File.enc false) a1), (1, sl 2 (File.enc false) a2), (5, iv 0)] [] orcN ?_
    refine J_lqF (K0 := (fun r : Bool => some (bv r, []))) (fun _ => rfl) (laws_eqFileS_l1.ok a1 a2 q _ (fun v21 => J_j ?_) 0)
    refine J_g 30 [] [(4, bv true)] [] orcN ?_
    exact J_r1 rfl

noncomputable def c20 : Code := (Try.f20.body).getD .skip

theorem laws_eqDisk.ok (a1 : Disk) (a2 : Disk) : Ok Try.prog 20 [.ag (Disk.enc false a1), .ag (Disk.enc false a2)] [] ((laws_eqDisk a1 a2).map fun r => (bv r, [])) := by
  refine Ok_of3 c20 Try.f20 0 31 (fun q => ?_)
  unfold laws_eqDisk
  refine J_g 2 [(0, 0), (1, 1)] [(2, pp 0), (3, pp 1)] [(0, .box (Disk.enc false a1)), (1, .box (Disk.enc false a2))] orcN ?_
  refine J_bind (fun x3 h4 => ?_)
  refine J_g 12 [] [(2, pp 0), (3, pp 1), (10, bv (!x3))] [(0, .box (Disk.enc false a1)), (1, .box (Disk.enc false a2))] (orcC 4 (x_c0 [(.tmp 6), (.tmp 8)] [43, 43] (laws_eqFileS.ok a1.Files a2.Files) h4) orcN) ?_
  refine J_if2 10 (fun h5 => ?_) (fun h5 => ?_)
  · refine J_g 52 [] [(4, bv false)] [] orcN ?_
    exact J_r1 rfl
  · refine J_g 28 [] [(2, pp 0), (3, pp 1), (15, bv (a1.Budget != a2.Budget))] [(0, .box (Disk.enc false a1)), (1, .box (Disk.enc false a2))] orcN ?_
    refine J_if2 15 (fun h6 => ?_) (fun h6 => ?_)
    · refine J_g 116 [] [(4, bv false)] [] orcN ?_
      exact J_r1 rfl
    · refine J_g 60 [] [(2, pp 0), (3, pp 1), (20, bv (a1.Writes != a2.Writes))] [(0, .box (Disk.enc false a1)), (1, .box (Disk.enc false a2))] orcN ?_
      refine J_if2 20 (fun h7 => ?_) (fun h7 => ?_)
      · refine J_g 244 [] [(4, bv false)] [] orcN ?_
        exact J_r1 rfl
      · refine J_g 124 [] [(2, pp 0), (3, pp 1), (25, bv (a1.Stop != a2.Stop))] [(0, .box (Disk.enc false a1)), (1, .box (Disk.enc false a2))] orcN ?_
        refine J_if2 25 (fun h8 => ?_) (fun h8 => ?_)
        · refine J_g 500 [] [(4, bv false)] [] orcN ?_
          exact J_r1 rfl
        · refine J_g 252 [] [(30, bv (!(a1.Down == a2.Down)))] [] orcN ?_
          refine J_if2 30 (fun h9 => ?_) (fun h9 => ?_)
          · refine J_g 1012 [] [(4, bv false)] [] orcN ?_
            exact J_r1 rfl
          · refine J_g 254 [] [(4, bv true)] [] orcN ?_
            exact J_r1 rfl

noncomputable def c80 : Code := (Try.f80.body).getD .skip

theorem laws_markText_l1.ok  (q : Wd) (kn : ByteArray → Option (D × List Ent)) (hk : ∀ v : ByteArray, J (q.g Try.prog 80 0 20) c80 (atI c80 31) (St.mk' [(3, sv v)] []) (some v) kn) :
    ∀ s6 : (Int × ByteArray), J (q.g Try.prog 80 0 20) c80 (atI c80 120) (St.mk' [(0, iv s6.1), (3, sv s6.2)] []) (laws_markText_l1 s6) kn := by
  refine J_lp (fun g ih s6 => ?_)
  unfold laws_markText_l1b
  refine J_g 480 [] [(0, iv s6.1), (3, sv s6.2), (7, bv (decide (s6.1 > 0)))] [] orcN ?_
  refine J_if2 7 (fun h7 => ?_) (fun h7 => ?_)
  · refine J_bind (fun x8 h9 => ?_)
    refine J_g 964 [] [(0, iv s6.1), (3, sv x8)] [] (orcC 4 (x_bp 94 5 1 0 eU8 [IntKind.u8.wrap (w64 (48 + (s6.1.tmod 10)))] [0] [(.tmp 11)] [uv (IntKind.u8.wrap (w64 (48 + (s6.1.tmod 10))))]) (orcC 5 (x_b2sr (xs := [IntKind.u8.wrap (w64 (48 + (s6.1.tmod 10)))]) 94 9 5 0 (.tmp 12)) (orcC 7 (x_cat 9 9 (.tmp 13) (.tmp 14) h9) orcN))) ?_
    refine J_g 965 [] [(0, iv (w64 (s6.1.tdiv 10))), (3, sv x8)] [] orcN ?_
    exact J_q (J_b (ih (w64 (s6.1.tdiv 10), x8))) rfl
  · exact J_qw (hk s6.2) rfl

theorem laws_markText.ok (a1 : Int) : Ok Try.prog 80 [iv a1] [] ((laws_markText a1).map fun r => (sv r, [])) := by
  refine Ok_of3 c80 Try.f80 0 20 (fun q => ?_)
  unfold laws_markText
  refine J_g 2 [] [(0, iv a1)] [] orcN ?_
  refine J_g 12 [] [(0, iv a1), (5, bv (decide (a1 ≤ 0)))] [] orcN ?_
  refine J_if2 5 (fun h2 => ?_) (fun h2 => ?_)
  · refine J_g 52 [] [(2, sv (bs [109, 48]))] [] orcN ?_
    exact J_r1 rfl
  · refine J_g 14 [] [(0, iv a1), (3, sv (bs []))] [] orcN ?_
    refine J_lq (laws_markText_l1.ok q _ (fun v10 => J_j ?_) (a1, bs []))
    refine J_bind (fun x11 h12 => ?_)
    refine J_g 62 [] [(2, sv x11)] [] (orcC 1 (x_cat 9 9 (.const (.string (bs [109]))) (.tmp 18) h12) orcN) ?_
    exact J_r1 rfl

noncomputable def c81 : Code := (Try.f81.body).getD .skip

theorem laws_markByteSr_l1.ok  (q : Wd) (kn : ((List Int) × Int) → Option (D × List Ent)) (hk : ∀ v : ((List Int) × Int), J (q.g Try.prog 81 1 20) c81 (atI c81 7) (St.mk' [(1, iv v.2)] [(0, rE 1 eU8 v.1)]) (some v) kn) :
    ∀ s6 : ((List Int) × Int × Int), J (q.g Try.prog 81 1 20) c81 (atI c81 52) (St.mk' [(0, rr 0 s6.1), (1, iv s6.2.1), (5, iv s6.2.2)] [(0, rE 1 eU8 s6.1)]) (laws_markByteSr_l1 s6) kn := by
  refine J_lp (fun g ih s6 => ?_)
  unfold laws_markByteSr_l1b
  refine J_g 208 [] [(0, rr 0 s6.1), (1, iv s6.2.1), (5, iv s6.2.2), (9, bv (decide (s6.2.2 < (s6.1.length : Int))))] [(0, rE 1 eU8 s6.1)] orcN ?_
  refine J_if2 9 (fun h7 => ?_) (fun h7 => ?_)
  · refine J_bind (fun x8 h9 => ?_)
    refine J_g 840 [] [(0, rr 0 s6.1), (1, iv s6.2.1), (5, iv s6.2.2)] [(0, rE 1 eU8 (s6.1.set s6.2.2.toNat (IntKind.u8.wrap (s6.2.1))))] (orcC 4 (x_ixr (kk := .i64) 94 5 1 0 eU8 (.tmp 12) (.tmp 13) h9) (orcD 5 (x_st (b := IntKind.u8.wrap (s6.2.1)) 5 1 0 0 eU8 (uv (IntKind.u8.wrap (s6.2.1))) (.tmp 16) (.tmp 15) h9 rfl) orcN)) ?_
    refine J_st (σ' := St.mk' [(0, rr 0 (s6.1.set s6.2.2.toNat (IntKind.u8.wrap (s6.2.1)))), (1, iv s6.2.1), (5, iv s6.2.2)] [(0, rE 1 eU8 (s6.1.set s6.2.2.toNat (IntKind.u8.wrap (s6.2.1))))]) (by simp only [rr, List.length_set]) ?_
    refine J_g 841 [] [(0, rr 0 (s6.1.set s6.2.2.toNat (IntKind.u8.wrap (s6.2.1)))), (1, iv (w64 (s6.2.1 + 1))), (5, iv s6.2.2)] [(0, rE 1 eU8 (s6.1.set s6.2.2.toNat (IntKind.u8.wrap (s6.2.1))))] orcN ?_
    refine J_g 211 [] [(0, rr 0 (s6.1.set s6.2.2.toNat (IntKind.u8.wrap (s6.2.1)))), (1, iv (w64 (s6.2.1 + 1))), (5, iv (w64 (s6.2.2 + 1)))] [(0, rE 1 eU8 (s6.1.set s6.2.2.toNat (IntKind.u8.wrap (s6.2.1))))] orcN ?_
    exact J_q (J_b (ih (s6.1.set s6.2.2.toNat (IntKind.u8.wrap (s6.2.1)), w64 (s6.2.1 + 1), w64 (s6.2.2 + 1)))) rfl
  · exact J_qw (hk (s6.1, s6.2.1)) rfl

theorem laws_markByteSr.ok (a1 : (List Int)) (a2 : Int) : Ok Try.prog 81 [rr 0 a1, iv a2] [rE 1 eU8 a1] ((laws_markByteSr a1 a2).map fun r => (iv r.1, [rE 1 eU8 r.2])) := by
  refine Ok_of3 c81 Try.f81 1 20 (fun q => ?_)
  unfold laws_markByteSr
  refine J_g 2 [] [(0, rr 0 a1), (1, iv a2)] [(0, rE 1 eU8 a1)] orcN ?_
  refine J_g 12 [] [(0, rr 0 a1), (1, iv a2), (5, iv 0)] [(0, rE 1 eU8 a1)] orcN ?_
  refine J_lq (laws_markByteSr_l1.ok q _ (fun v10 => J_j ?_) (a1, a2, 0))
  refine J_g 14 [] [(4, iv v10.2)] [(0, rE 1 eU8 v10.1)] orcN ?_
  exact J_r1 rfl

noncomputable def c41 : Code := (Try.f41.body).getD .skip

theorem laws_markFileSr_l1.ok  (q : Wd) (kn : ((List File) × Int) → Option (D × List Ent)) (hk : ∀ v : ((List File) × Int), J (q.g Try.prog 41 1 28) c41 (atI c41 7) (St.mk' [(1, iv v.2)] [(0, rE 2 (File.enc true) v.1)]) (some v) kn) :
    ∀ s14 : ((List File) × Int × Int), J (q.g Try.prog 41 1 28) c41 (atI c41 52) (St.mk' [(0, rr 0 s14.1), (1, iv s14.2.1), (5, iv s14.2.2)] [(0, rE 2 (File.enc true) s14.1)]) (laws_markFileSr_l1 s14) kn := by
  refine J_lp (fun g ih s14 => ?_)
  unfold laws_markFileSr_l1b
  refine J_g 208 [] [(0, rr 0 s14.1), (1, iv s14.2.1), (5, iv s14.2.2), (9, bv (decide (s14.2.2 < (s14.1.length : Int))))] [(0, rE 2 (File.enc true) s14.1)] orcN ?_
  refine J_if2 9 (fun h15 => ?_) (fun h15 => ?_)
  · refine J_bind (fun x16 h17 => ?_)
    refine J_bind (fun x18 h19 => ?_)
    refine J_g 840 [] [(0, rr 0 s14.1), (1, iv s14.2.1), (5, iv s14.2.2)] [(0, rE 2 (File.enc true) (s14.1.set s14.2.2.toNat ({ Path := x16, Data := x18.Data } : File)))] (orcC 3 (x_c0 [(.tmp 14)] [3] (laws_markText.ok s14.2.1) h17) (orcC 4 (x_ixr (kk := .i64) 43 99 2 0 (File.enc true) (.tmp 12) (.tmp 13) h19) (orcD 6 (x_st (b := ({ Path := x16, Data := x18.Data } : File)) 9 2 0 0 (File.enc true) (sv x16) (.tmp 17) (.tmp 15) h19 rfl) orcN))) ?_
    refine J_st (σ' := St.mk' [(0, rr 0 (s14.1.set s14.2.2.toNat ({ Path := x16, Data := x18.Data } : File))), (1, iv s14.2.1), (5, iv s14.2.2)] [(0, rE 2 (File.enc true) (s14.1.set s14.2.2.toNat ({ Path := x16, Data := x18.Data } : File)))]) (by simp only [rr, List.length_set]) ?_
    refine J_g 1682 [] [(0, rr 0 (s14.1.set s14.2.2.toNat ({ Path := x16, Data := x18.Data } : File))), (1, iv (w64 (s14.2.1 + 1))), (5, iv s14.2.2)] [(0, rE 2 (File.enc true) (s14.1.set s14.2.2.toNat ({ Path := x16, Data := x18.Data } : File)))] orcN ?_
    refine J_bind (fun x20 h21 => ?_)
    refine J_lendT (ix := s14.2.2) (enc := (File.enc true)) 0 1 1 h21 rfl rfl (by kernel_rfl) ?_
    refine J_wk [(0, rr 0 (s14.1.set s14.2.2.toNat ({ Path := x16, Data := x18.Data } : File))), (1, iv (w64 (s14.2.1 + 1))), (5, iv s14.2.2)] [(0, .lent 2 ((s14.1.set s14.2.2.toNat ({ Path := x16, Data := x18.Data } : File)).map (File.enc true)) s14.2.2.toNat 1 1 x20.Data.length), (1, rE 1 eU8 x20.Data)] (by kernel_rfl) ?_
    refine J_bind (fun x22 h23 => ?_)
    refine J_g 1683 [] [(0, rr 0 (s14.1.set s14.2.2.toNat ({ Path := x16, Data := x18.Data } : File))), (1, iv x22.1), (5, iv s14.2.2)] [(0, .lent 2 ((s14.1.set s14.2.2.toNat ({ Path := x16, Data := x18.Data } : File)).map (File.enc true)) s14.2.2.toNat 1 1 x20.Data.length), (1, rE 1 eU8 x22.2)] (orcC 2 (x_ixl (kk := .i64) 43 99 2 0 (File.enc true) (.tmp 20) (.tmp 21) s14.2.2.toNat 1 1 x20.Data.length h21) (orcC 4 (x_ldl 94 0 (.tmp 23) 2 (File.enc true) (s14.1.set s14.2.2.toNat ({ Path := x16, Data := x18.Data } : File)) s14.2.2.toNat 1 1 x20.Data.length) (orcC 6 (x_c1 («as» := [rr 1 x20.Data, iv (w64 (s14.2.1 + 1))]) [(.tmp 24), (.tmp 25)] [94, 3] false [(1, rE 1 eU8 x20.Data)] [1] (.cons (.rf rfl) (.cons (.same rfl) (.nil))) (laws_markByteSr.ok x20.Data (w64 (s14.2.1 + 1))) h23 (.same rfl rfl)) orcN))) ?_
    refine J_bind (fun u24 h25 => ?_)
    refine J_backT (ix := s14.2.2) (enc := (File.enc true)) (b := ({ Path := x20.Path, Data := x22.2 } : File)) 0 1 1 h21 rfl rfl rfl rfl (same_len h25) (Nat.le_of_ble_eq_true rfl) ((List.length_map _).trans (same_len h25)) ?_
    refine J_wk [(0, rr 0 (s14.1.set s14.2.2.toNat ({ Path := x16, Data := x18.Data } : File))), (1, iv x22.1), (5, iv s14.2.2)] [(0, rE 2 (File.enc true) ((s14.1.set s14.2.2.toNat ({ Path := x16, Data := x18.Data } : File)).set s14.2.2.toNat ({ Path := x20.Path, Data := x22.2 } : File)))] (by kernel_rfl) ?_
    refine J_st (σ' := St.mk' [(0, rr 0 ((s14.1.set s14.2.2.toNat ({ Path := x16, Data := x18.Data } : File)).set s14.2.2.toNat ({ Path := x20.Path, Data := x22.2 } : File))), (1, iv x22.1), (5, iv s14.2.2)] [(0, rE 2 (File.enc true) ((s14.1.set s14.2.2.toNat ({ Path := x16, Data := x18.Data } : File)).set s14.2.2.toNat ({ Path := x20.Path, Data := x22.2 } : File)))]) (by simp only [rr, List.length_set]) ?_
    refine J_g 211 [] [(0, rr 0 ((s14.1.set s14.2.2.toNat ({ Path := x16, Data := x18.Data } : File)).set s14.2.2.toNat ({ Path := x20.Path, Data := x22.2 } : File))), (1, iv x22.1), (5, iv (w64 (s14.2.2 + 1)))] [(0, rE 2 (File.enc true) ((s14.1.set s14.2.2.toNat ({ Path := x16, Data := x18.Data } : File)).set s14.2.2.toNat ({ Path := x20.Path, Data := x22.2 } : File)))] orcN ?_
    exact J_q (J_b (ih ((s14.1.set s14.2.2.toNat ({ Path := x16, Data := x18.Data } : File)).set s14.2.2.toNat ({ Path := x20.Path, Data := x22.2 } : File), x22.1, w64 (s14.2.2 + 1)))) rfl
  · exact J_qw (hk (s14.1, s14.2.1)) rfl

theorem laws_markFileSr.ok (a1 : (List File)) (a2 : Int) : Ok Try.prog 41 [rr 0 a1, iv a2] [rE 2 (File.enc true) a1] ((laws_markFileSr a1 a2).map fun r => (iv r.1, [rE 2 (File.enc true) r.2])) := by
  refine Ok_of3 c41 Try.f41 1 28 (fun q => ?_)
  unfold laws_markFileSr
  refine J_g 2 [] [(0, rr 0 a1), (1, iv a2)] [(0, rE 2 (File.enc true) a1)] orcN ?_
  refine J_g 12 [] [(0, rr 0 a1), (1, iv a2), (5, iv 0)] [(0, rE 2 (File.enc true) a1)] orcN ?_
  refine J_lq (laws_markFileSr_l1.ok q _ (fun v26 => J_j ?_) (a1, a2, 0))
  refine J_g 14 [] [(4, iv v26.2)] [(0, rE 2 (File.enc true) v26.1)] orcN ?_
  exact J_r1 rfl

noncomputable def c21 : Code := (Try.f21.body).getD .skip

theorem laws_markDiskg.ok (a1 : Disk) (a2 : Int) : Ok Try.prog 21 [.ag [rr 0 a1.Files, iv a1.Budget, iv a1.Writes, iv a1.Stop, bv a1.Down], iv a2] [rE 2 (File.enc true) a1.Files] ((laws_markDiskg a1 a2).map fun r => (iv r.1, [rE 2 (File.enc true) r.2])) := by
  refine Ok_of3 c21 Try.f21 1 10 (fun q => ?_)
  unfold laws_markDiskg
  refine J_g 2 [(0, 1)] [(1, iv a2), (2, pp 1)] [(0, rE 2 (File.enc true) a1.Files), (1, .box [rr 0 a1.Files, iv a1.Budget, iv a1.Writes, iv a1.Stop, bv a1.Down])] orcN ?_
  refine J_bind (fun x3 h4 => ?_)
  refine J_g 6 [] [(1, iv x3.1)] [(0, rE 2 (File.enc true) x3.2)] (orcC 3 (x_c1 («as» := [rr 0 a1.Files, iv a2]) [(.tmp 6), (.tmp 7)] [43, 3] false [(0, rE 2 (File.enc true) a1.Files)] [0] (.cons (.rf rfl) (.cons (.same rfl) (.nil))) (laws_markFileSr.ok a1.Files a2) h4 (.same rfl rfl)) orcN) ?_
  refine J_bind (fun u5 h6 => ?_)
  refine J_g 14 [] [(4, iv x3.1)] [(0, rE 2 (File.enc true) x3.2)] orcN ?_
  exact J_r1 rfl

noncomputable def c22 : Code := (Try.f22.body).getD .skip

theorem laws_markInt64Sr_l1.ok  (q : Wd) (kn : ((List Int) × Int) → Option (D × List Ent)) (hk : ∀ v : ((List Int) × Int), J (q.g Try.prog 22 1 19) c22 (atI c22 7) (St.mk' [(1, iv v.2)] [(0, rE 1 eI64 v.1)]) (some v) kn) :
    ∀ s6 : ((List Int) × Int × Int), J (q.g Try.prog 22 1 19) c22 (atI c22 52) (St.mk' [(0, rr 0 s6.1), (1, iv s6.2.1), (5, iv s6.2.2)] [(0, rE 1 eI64 s6.1)]) (laws_markInt64Sr_l1 s6) kn := by
  refine J_lp (fun g ih s6 => ?_)
  unfold laws_markInt64Sr_l1b
  refine J_g 208 [] [(0, rr 0 s6.1), (1, iv s6.2.1), (5, iv s6.2.2), (9, bv (decide (s6.2.2 < (s6.1.length : Int))))] [(0, rE 1 eI64 s6.1)] orcN ?_
  refine J_if2 9 (fun h7 => ?_) (fun h7 => ?_)
  · refine J_bind (fun x8 h9 => ?_)
    refine J_g 840 [] [(0, rr 0 s6.1), (1, iv s6.2.1), (5, iv s6.2.2)] [(0, rE 1 eI64 (s6.1.set s6.2.2.toNat s6.2.1))] (orcC 3 (x_ixr (kk := .i64) 23 2 1 0 eI64 (.tmp 12) (.tmp 13) h9) (orcD 4 (x_st (b := s6.2.1) 2 1 0 0 eI64 (iv s6.2.1) (.tmp 15) (.tmp 14) h9 rfl) orcN)) ?_
    refine J_st (σ' := St.mk' [(0, rr 0 (s6.1.set s6.2.2.toNat s6.2.1)), (1, iv s6.2.1), (5, iv s6.2.2)] [(0, rE 1 eI64 (s6.1.set s6.2.2.toNat s6.2.1))]) (by simp only [rr, List.length_set]) ?_
    refine J_g 841 [] [(0, rr 0 (s6.1.set s6.2.2.toNat s6.2.1)), (1, iv (w64 (s6.2.1 + 1))), (5, iv s6.2.2)] [(0, rE 1 eI64 (s6.1.set s6.2.2.toNat s6.2.1))] orcN ?_
    refine J_g 211 [] [(0, rr 0 (s6.1.set s6.2.2.toNat s6.2.1)), (1, iv (w64 (s6.2.1 + 1))), (5, iv (w64 (s6.2.2 + 1)))] [(0, rE 1 eI64 (s6.1.set s6.2.2.toNat s6.2.1))] orcN ?_
    exact J_q (J_b (ih (s6.1.set s6.2.2.toNat s6.2.1, w64 (s6.2.1 + 1), w64 (s6.2.2 + 1)))) rfl
  · exact J_qw (hk (s6.1, s6.2.1)) rfl

theorem laws_markInt64Sr.ok (a1 : (List Int)) (a2 : Int) : Ok Try.prog 22 [rr 0 a1, iv a2] [rE 1 eI64 a1] ((laws_markInt64Sr a1 a2).map fun r => (iv r.1, [rE 1 eI64 r.2])) := by
  refine Ok_of3 c22 Try.f22 1 19 (fun q => ?_)
  unfold laws_markInt64Sr
  refine J_g 2 [] [(0, rr 0 a1), (1, iv a2)] [(0, rE 1 eI64 a1)] orcN ?_
  refine J_g 12 [] [(0, rr 0 a1), (1, iv a2), (5, iv 0)] [(0, rE 1 eI64 a1)] orcN ?_
  refine J_lq (laws_markInt64Sr_l1.ok q _ (fun v10 => J_j ?_) (a1, a2, 0))
  refine J_g 14 [] [(4, iv v10.2)] [(0, rE 1 eI64 v10.1)] orcN ?_
  exact J_r1 rfl

noncomputable def c23 : Code := (Try.f23.body).getD .skip

theorem laws_markGensResultg.ok (a1 : GensResult) (a2 : Int) : Ok Try.prog 23 [.ag [iv a1.Code, rr 0 a1.Gens], iv a2] [rE 1 eI64 a1.Gens] ((laws_markGensResultg a1 a2).map fun r => (iv r.1, [rE 1 eI64 r.2])) := by
  refine Ok_of3 c23 Try.f23 1 10 (fun q => ?_)
  unfold laws_markGensResultg
  refine J_g 2 [(0, 1)] [(1, iv a2), (2, pp 1)] [(0, rE 1 eI64 a1.Gens), (1, .box [iv a1.Code, rr 0 a1.Gens])] orcN ?_
  refine J_bind (fun x3 h4 => ?_)
  refine J_g 6 [] [(1, iv x3.1)] [(0, rE 1 eI64 x3.2)] (orcC 3 (x_c1 («as» := [rr 0 a1.Gens, iv a2]) [(.tmp 6), (.tmp 7)] [23, 3] false [(0, rE 1 eI64 a1.Gens)] [0] (.cons (.rf rfl) (.cons (.same rfl) (.nil))) (laws_markInt64Sr.ok a1.Gens a2) h4 (.same rfl rfl)) orcN) ?_
  refine J_bind (fun u5 h6 => ?_)
  refine J_g 14 [] [(4, iv x3.1)] [(0, rE 1 eI64 x3.2)] orcN ?_
  exact J_r1 rfl

noncomputable def c42 : Code := (Try.f42.body).getD .skip

theorem laws_heldInt64S_l1.ok (a1 : (List Int)) (q : Wd) (kn : Int → Option (D × List Ent)) (hk : ∀ v : Int, J (q.g Try.prog 42 0 21) c42 (atI c42 7) (St.mk' [(1, iv v)] []) (some v) kn) :
    ∀ s7 : (Int × Int), J (q.g Try.prog 42 0 21) c42 (atI c42 52) (St.mk' [(0, sl 1 eI64 a1), (1, iv s7.1), (5, iv s7.2)] []) (laws_heldInt64S_l1 a1 s7) (Fl.go (fun r : Int => some (iv r, [])) kn) := by
  refine J_lp (fun g ih s7 => ?_)
  unfold laws_heldInt64S_l1b
  refine J_g 208 [] [(0, sl 1 eI64 a1), (1, iv s7.1), (5, iv s7.2), (9, bv (decide (s7.2 < (a1.length : Int))))] [] orcN ?_
  refine J_if2 9 (fun h8 => ?_) (fun h8 => ?_)
  · refine J_bind (fun x9 h10 => ?_)
    refine J_g 1680 [] [(0, sl 1 eI64 a1), (1, iv s7.1), (5, iv s7.2), (17, bv (x9 != s7.1))] [] (orcC 2 (x_ix (kk := .i64) 23 2 1 eI64 (.tmp 12) (.tmp 13) h10) orcN) ?_
    refine J_if2 17 (fun h11 => ?_) (fun h11 => ?_)
    · refine J_g 6724 [] [(4, iv (-1))] [] orcN ?_
      exact J_r1 rfl
    · refine J_g 841 [] [(0, sl 1 eI64 a1), (1, iv (w64 (s7.1 + 1))), (5, iv s7.2)] [] orcN ?_
      refine J_g 211 [] [(0, sl 1 eI64 a1), (1, iv (w64 (s7.1 + 1))), (5, iv (w64 (s7.2 + 1)))] [] orcN ?_
      exact J_q (J_b (ih (w64 (s7.1 + 1), w64 (s7.2 + 1)))) rfl
  · exact J_qw (hk s7.1) rfl

theorem laws_heldInt64S.ok (a1 : (List Int)) (a2 : Int) : Ok Try.prog 42 [sl 1 eI64 a1, iv a2] [] ((laws_heldInt64S a1 a2).map fun r => (iv r, [])) := by
  refine Ok_of3 c42 Try.f42 0 21 (fun q => ?_)
  unfold laws_heldInt64S
  refine J_g 2 [] [(0, sl 1 eI64 a1), (1, iv a2)] [] orcN ?_
  refine J_g 12 [] [(0, sl 1 eI64 a1), (1, iv a2), (5, iv 0)] [] orcN ?_
  refine J_lqF (K0 := (fun r : Int => some (iv r, []))) (fun _ => rfl) (laws_heldInt64S_l1.ok a1 q _ (fun v12 => J_j ?_) (a2, 0))
  refine J_g 14 [] [(4, iv v12)] [] orcN ?_
  exact J_r1 rfl

noncomputable def c24 : Code := (Try.f24.body).getD .skip

theorem laws_heldGensResult.ok (a1 : GensResult) (a2 : Int) : Ok Try.prog 24 [.ag (GensResult.enc false a1), iv a2] [] ((laws_heldGensResult a1 a2).map fun r => (iv r, [])) := by
  refine Ok_of3 c24 Try.f24 0 12 (fun q => ?_)
  unfold laws_heldGensResult
  refine J_g 2 [(0, 0)] [(1, iv a2), (2, pp 0)] [(0, .box (GensResult.enc false a1))] orcN ?_
  refine J_bind (fun x3 h4 => ?_)
  refine J_g 6 [] [(1, iv x3)] [] (orcC 3 (x_c0 [(.tmp 6), (.tmp 7)] [23, 3] (laws_heldInt64S.ok a1.Gens a2) h4) orcN) ?_
  refine J_g 28 [] [(1, iv x3), (10, bv (decide (x3 < 0)))] [] orcN ?_
  refine J_if2 10 (fun h5 => ?_) (fun h5 => ?_)
  · refine J_g 116 [] [(4, iv (-1))] [] orcN ?_
    exact J_r1 rfl
  · refine J_g 30 [] [(4, iv x3)] [] orcN ?_
    exact J_r1 rfl

noncomputable def c4 : Code := (Try.f4.body).getD .skip

theorem laws_FnExactKeptGens.ok (a1 : Disk) (a2 : (List Int)) : Ok Try.prog 4 [.ag (Disk.enc false a1), sl 1 eI64 a2] [] ((laws_FnExactKeptGens a1 a2).map fun r => (bv r, [])) := by
  refine Ok_of3 c4 Try.f4 0 90 (fun q => ?_)
  unfold laws_FnExactKeptGens
  refine J_g 2 [(0, 0)] [(1, sl 1 eI64 a2), (2, pp 0)] [(0, .box (Disk.enc false a1))] orcN ?_
  refine J_g 12 [] [(1, sl 1 eI64 a2), (2, pp 0), (16, bv (decide ((a2.length : Int) > 1048576)))] [(0, .box (Disk.enc false a1))] orcN ?_
  refine J_if2 16 (fun h3 => ?_) (fun h3 => ?_)
  · refine J_g 52 [] [(4, bv true)] [] orcN ?_
    exact J_r1 rfl
  · refine J_g 14 [] [(1, sl 1 eI64 a2), (2, pp 0), (5, iv 1048576)] [(0, .box (Disk.enc false a1))] orcN ?_
    refine J_bind (fun x4 h5 => ?_)
    refine J_g 30 [] [(1, sl 1 eI64 a2), (2, pp 0), (5, iv x4)] [(0, .box (Disk.enc false a1))] (orcC 2 (x_c0 [(.tmp 17), (.tmp 18)] [38, 3] (laws_szDisk.ok a1 1048576) h5) orcN) ?_
    refine J_g 124 [] [(1, sl 1 eI64 a2), (2, pp 0), (21, bv (decide (x4 < 0)))] [(0, .box (Disk.enc false a1))] orcN ?_
    refine J_if2 21 (fun h6 => ?_) (fun h6 => ?_)
    · refine J_g 500 [] [(4, bv true)] [] orcN ?_
      exact J_r1 rfl
    · refine J_bind (fun x7 h8 => ?_)
      refine J_bind (fun x9 h10 => ?_)
      refine J_bind (fun x11 h12 => ?_)
      refine J_g 126 [(5, 4)] [(1, sl 1 eI64 a2), (2, pp 0), (6, pp 4)] [(0, .box (Disk.enc false a1)), (3, rE 1 eI64 x11.Gens), (4, .box [iv x11.Code, rr 3 x11.Gens])] (orcC 1 (x_c1 («as» := [.ag (Disk.enc false a1)]) [(.tmp 22)] [38] false [] [] (.cons (.same rfl) (.nil)) (laws_toDisk.ok a1) h8 (.ag (.cons (.own 1) (.cons (.same rfl rfl) (.cons (.same rfl rfl) (.cons (.same rfl rfl) (.cons (.same rfl rfl) (.nil)))))))) (orcC 3 (x_c1 («as» := [sl 1 eI64 a2]) [(.tmp 24)] [23] false [] [] (.cons (.same rfl) (.nil)) (laws_toInt64S.ok a2) h10 (.own 2)) (orcC 4 (x_c1 («as» := [.ag [rr 1 x7.Files, iv x7.Budget, iv x7.Writes, iv x7.Stop, bv x7.Down], rr 2 x9]) [(.tmp 23), (.tmp 25)] [45, 23] true [(1, rE 2 (File.enc true) x7.Files), (2, rE 1 eI64 x9)] [] (.cons (.ag (.cons (am_b (.head _) (File.ro true) rfl) (.cons (.same rfl) (.cons (.same rfl) (.cons (.same rfl) (.cons (.same rfl) (.nil))))))) (.cons (am_b (.tail _ (.head _)) (fun _ => rfl) rfl) (.nil))) (spec_KeptGens.ok x7 x9) h12 (.ag (.cons (.same rfl rfl) (.cons (.own 3) (.nil)))) (hbor := fun _ => ⟨rfl, (flat_ag (GensResult.fl _))⟩)) orcN))) ?_
      refine J_bind (fun x13 h14 => ?_)
      refine J_g 254 [(2, 6)] [(1, sl 1 eI64 a2), (2, pp 0), (6, pp 4), (7, pp 6)] [(0, .box (Disk.enc false a1)), (3, rE 1 eI64 x11.Gens), (4, .box [iv x11.Code, rr 3 x11.Gens]), (5, rE 2 (File.enc true) x13.Files), (6, .box [rr 5 x13.Files, iv x13.Budget, iv x13.Writes, iv x13.Stop, bv x13.Down])] (orcC 1 (x_c1 («as» := [.ag (Disk.enc false a1)]) [(.tmp 27)] [38] false [] [] (.cons (.same rfl) (.nil)) (laws_toDisk.ok a1) h14 (.ag (.cons (.own 5) (.cons (.same rfl rfl) (.cons (.same rfl rfl) (.cons (.same rfl rfl) (.cons (.same rfl rfl) (.nil)))))))) orcN) ?_
      refine J_bind (fun x15 h16 => ?_)
      refine J_g 510 [] [(1, sl 1 eI64 a2), (2, pp 0), (6, pp 4), (7, pp 6), (8, rr 7 x15)] [(0, .box (Disk.enc false a1)), (3, rE 1 eI64 x11.Gens), (4, .box [iv x11.Code, rr 3 x11.Gens]), (5, rE 2 (File.enc true) x13.Files), (6, .box [rr 5 x13.Files, iv x13.Budget, iv x13.Writes, iv x13.Stop, bv x13.Down]), (7, rE 1 eI64 x15)] (orcC 1 (x_c1 («as» := [sl 1 eI64 a2]) [(.tmp 29)] [23] false [] [] (.cons (.same rfl) (.nil)) (laws_toInt64S.ok a2) h16 (.own 7)) orcN) ?_
      refine J_bind (fun x17 h18 => ?_)
      refine J_g 1022 [(3, 9)] [(1, sl 1 eI64 a2), (2, pp 0), (6, pp 4), (7, pp 6), (8, rr 7 x15), (9, pp 9)] [(0, .box (Disk.enc false a1)), (3, rE 1 eI64 x11.Gens), (4, .box [iv x11.Code, rr 3 x11.Gens]), (5, rE 2 (File.enc true) x13.Files), (6, .box [rr 5 x13.Files, iv x13.Budget, iv x13.Writes, iv x13.Stop, bv x13.Down]), (7, rE 1 eI64 x15), (8, rE 1 eI64 x17.Gens), (9, .box [iv x17.Code, rr 8 x17.Gens])] (orcC 2 (x_c1 («as» := [.ag [rr 5 x13.Files, iv x13.Budget, iv x13.Writes, iv x13.Stop, bv x13.Down], rr 7 x15]) [(.tmp 31), (.tmp 32)] [45, 23] true [(5, rE 2 (File.enc true) x13.Files), (7, rE 1 eI64 x15)] [] (.cons (.ag (.cons (am_b (.head _) (File.ro true) rfl) (.cons (.same rfl) (.cons (.same rfl) (.cons (.same rfl) (.cons (.same rfl) (.nil))))))) (.cons (am_b (.tail _ (.head _)) (fun _ => rfl) rfl) (.nil))) (impl_KeptGens.ok x13 x15) h18 (.ag (.cons (.same rfl rfl) (.cons (.own 8) (.nil)))) (hbor := fun _ => ⟨rfl, (flat_ag (GensResult.fl _))⟩)) orcN) ?_
      refine J_bind (fun x19 h20 => ?_)
      refine J_g 4092 [] [(1, sl 1 eI64 a2), (2, pp 0), (6, pp 4), (7, pp 6), (8, rr 7 x15), (9, pp 9), (37, bv (!x19))] [(0, .box (Disk.enc false a1)), (3, rE 1 eI64 x11.Gens), (4, .box [iv x11.Code, rr 3 x11.Gens]), (5, rE 2 (File.enc true) x13.Files), (6, .box [rr 5 x13.Files, iv x13.Budget, iv x13.Writes, iv x13.Stop, bv x13.Down]), (7, rE 1 eI64 x15), (8, rE 1 eI64 x17.Gens), (9, .box [iv x17.Code, rr 8 x17.Gens])] (orcC 2 (x_c1 («as» := [.ag [iv x17.Code, rr 8 x17.Gens], .ag [iv x11.Code, rr 3 x11.Gens]]) [(.tmp 34), (.tmp 35)] [41, 41] true [(8, rE 1 eI64 x17.Gens), (3, rE 1 eI64 x11.Gens)] [] (.cons (.ag (.cons (.same rfl) (.cons (am_b (.head _) (fun _ => rfl) rfl) (.nil)))) (.cons (.ag (.cons (.same rfl) (.cons (am_b (.tail _ (.head _)) (fun _ => rfl) rfl) (.nil)))) (.nil))) (laws_eqGensResult.ok x17 x11) h20 (.same rfl rfl) (hbor := fun _ => ⟨rfl, flat_sc⟩)) orcN) ?_
      refine J_if2 37 (fun h21 => ?_) (fun h21 => ?_)
      · refine J_g 16372 [] [(4, bv false)] [] orcN ?_
        exact J_r1 rfl
      · refine J_bind (fun x22 h23 => ?_)
        refine J_bind (fun x24 h25 => ?_)
        refine J_g 8188 [] [(1, sl 1 eI64 a2), (2, pp 0), (6, pp 4), (7, pp 6), (8, rr 7 x15), (9, pp 9), (42, bv (!x24))] [(0, .box (Disk.enc false a1)), (3, rE 1 eI64 x11.Gens), (4, .box [iv x11.Code, rr 3 x11.Gens]), (5, rE 2 (File.enc true) x13.Files), (6, .box [rr 5 x13.Files, iv x13.Budget, iv x13.Writes, iv x13.Stop, bv x13.Down]), (7, rE 1 eI64 x15), (8, rE 1 eI64 x17.Gens), (9, .box [iv x17.Code, rr 8 x17.Gens])] (orcC 2 (x_c1 («as» := [.ag (Disk.enc false a1)]) [(.tmp 39)] [38] false [] [] (.cons (.same rfl) (.nil)) (laws_toDisk.ok a1) h23 (.ag (.cons (.own 10) (.cons (.same rfl rfl) (.cons (.same rfl rfl) (.cons (.same rfl rfl) (.cons (.same rfl rfl) (.nil)))))))) (orcC 3 (x_c1 («as» := [.ag [rr 5 x13.Files, iv x13.Budget, iv x13.Writes, iv x13.Stop, bv x13.Down], .ag [rr 10 x22.Files, iv x22.Budget, iv x22.Writes, iv x22.Stop, bv x22.Down]]) [(.tmp 38), (.tmp 40)] [45, 45] true [(5, rE 2 (File.enc true) x13.Files), (10, rE 2 (File.enc true) x22.Files)] [] (.cons (.ag (.cons (am_b (.head _) (File.ro true) rfl) (.cons (.same rfl) (.cons (.same rfl) (.cons (.same rfl) (.cons (.same rfl) (.nil))))))) (.cons (.ag (.cons (am_b (.tail _ (.head _)) (File.ro true) rfl) (.cons (.same rfl) (.cons (.same rfl) (.cons (.same rfl) (.cons (.same rfl) (.nil))))))) (.nil))) (laws_eqDisk.ok x13 x22) h25 (.same rfl rfl) (hbor := fun _ => ⟨rfl, flat_sc⟩)) orcN)) ?_
        refine J_if2 42 (fun h26 => ?_) (fun h26 => ?_)
        · refine J_g 32756 [] [(4, bv false)] [] orcN ?_
          exact J_r1 rfl
        · refine J_bind (fun x27 h28 => ?_)
          refine J_bind (fun x29 h30 => ?_)
          refine J_g 16380 [] [(1, sl 1 eI64 a2), (2, pp 0), (6, pp 4), (7, pp 6), (8, rr 7 x15), (9, pp 9), (47, bv (!x29))] [(0, .box (Disk.enc false a1)), (3, rE 1 eI64 x11.Gens), (4, .box [iv x11.Code, rr 3 x11.Gens]), (5, rE 2 (File.enc true) x13.Files), (6, .box [rr 5 x13.Files, iv x13.Budget, iv x13.Writes, iv x13.Stop, bv x13.Down]), (7, rE 1 eI64 x15), (8, rE 1 eI64 x17.Gens), (9, .box [iv x17.Code, rr 8 x17.Gens])] (orcC 2 (x_c1 («as» := [sl 1 eI64 a2]) [(.tmp 44)] [23] false [] [] (.cons (.same rfl) (.nil)) (laws_toInt64S.ok a2) h28 (.own 10)) (orcC 3 (x_c1 («as» := [rr 7 x15, rr 10 x27]) [(.tmp 43), (.tmp 45)] [23, 23] true [(7, rE 1 eI64 x15), (10, rE 1 eI64 x27)] [] (.cons (am_b (.head _) (fun _ => rfl) rfl) (.cons (am_b (.tail _ (.head _)) (fun _ => rfl) rfl) (.nil))) (laws_eqInt64S.ok x15 x27) h30 (.same rfl rfl) (hbor := fun _ => ⟨rfl, flat_sc⟩)) orcN)) ?_
          refine J_if2 47 (fun h31 => ?_) (fun h31 => ?_)
          · refine J_g 65524 [] [(4, bv false)] [] orcN ?_
            exact J_r1 rfl
          · refine J_g 16382 [] [(1, sl 1 eI64 a2), (2, pp 0), (6, pp 4), (7, pp 6), (8, rr 7 x15), (9, pp 9), (10, iv 1)] [(0, .box (Disk.enc false a1)), (3, rE 1 eI64 x11.Gens), (4, .box [iv x11.Code, rr 3 x11.Gens]), (5, rE 2 (File.enc true) x13.Files), (6, .box [rr 5 x13.Files, iv x13.Budget, iv x13.Writes, iv x13.Stop, bv x13.Down]), (7, rE 1 eI64 x15), (8, rE 1 eI64 x17.Gens), (9, .box [iv x17.Code, rr 8 x17.Gens])] orcN ?_
            refine J_bind (fun x32 h33 => ?_)
            refine J_g 32766 [] [(1, sl 1 eI64 a2), (2, pp 0), (6, pp 4), (8, rr 7 x15), (9, pp 9), (10, iv x32.1)] [(0, .box (Disk.enc false a1)), (3, rE 1 eI64 x11.Gens), (4, .box [iv x11.Code, rr 3 x11.Gens]), (7, rE 1 eI64 x15), (8, rE 1 eI64 x17.Gens), (9, .box [iv x17.Code, rr 8 x17.Gens])] (orcC 2 (x_c1 («as» := [.ag [rr 5 x13.Files, iv x13.Budget, iv x13.Writes, iv x13.Stop, bv x13.Down], iv 1]) [(.tmp 48), (.tmp 49)] [45, 3] false [(5, rE 2 (File.enc true) x13.Files)] [5] (.cons (.ag (.cons (.rf rfl) (.cons (.same rfl) (.cons (.same rfl) (.cons (.same rfl) (.cons (.same rfl) (.nil))))))) (.cons (.same rfl) (.nil))) (laws_markDiskg.ok x13 1) h33 (.same rfl rfl)) orcN) ?_
            refine J_bind (fun x34 h35 => ?_)
            refine J_g 65534 [] [(1, sl 1 eI64 a2), (2, pp 0), (6, pp 4), (9, pp 9), (10, iv x34.1)] [(0, .box (Disk.enc false a1)), (3, rE 1 eI64 x11.Gens), (4, .box [iv x11.Code, rr 3 x11.Gens]), (8, rE 1 eI64 x17.Gens), (9, .box [iv x17.Code, rr 8 x17.Gens])] (orcC 2 (x_c1 («as» := [rr 7 x15, iv x32.1]) [(.tmp 51), (.tmp 52)] [23, 3] false [(7, rE 1 eI64 x15)] [7] (.cons (.rf rfl) (.cons (.same rfl) (.nil))) (laws_markInt64Sr.ok x15 x32.1) h35 (.same rfl rfl)) orcN) ?_
            refine J_join (atI c4 262141) (fun v39 : Bool => St.mk' [(1, sl 1 eI64 a2), (2, pp 0), (6, pp 4), (9, pp 9), (61, bv v39)] [(0, .box (Disk.enc false a1)), (3, rE 1 eI64 x11.Gens), (4, .box [iv x11.Code, rr 3 x11.Gens]), (8, rE 1 eI64 x17.Gens), (9, .box [iv x17.Code, rr 8 x17.Gens])]) (fun v39 => ?_) (fun jv39 => ?_)
            · refine J_if2 61 (fun h40 => ?_) (fun h40 => ?_)
              · refine J_g 1048564 [] [(4, bv false)] [] orcN ?_
                exact J_r1 rfl
              · refine J_g 262142 [] [(1, sl 1 eI64 a2), (2, pp 0), (6, pp 4), (9, pp 9), (11, iv 1)] [(0, .box (Disk.enc false a1)), (3, rE 1 eI64 x11.Gens), (4, .box [iv x11.Code, rr 3 x11.Gens]), (8, rE 1 eI64 x17.Gens), (9, .box [iv x17.Code, rr 8 x17.Gens])] orcN ?_
                refine J_bind (fun x41 h42 => ?_)
                refine J_g 524286 [] [(1, sl 1 eI64 a2), (2, pp 0), (6, pp 4), (9, pp 9), (11, iv x41.1)] [(0, .box (Disk.enc false a1)), (3, rE 1 eI64 x11.Gens), (4, .box [iv x11.Code, rr 3 x11.Gens]), (8, rE 1 eI64 x41.2), (9, .box [iv x17.Code, rr 8 x17.Gens])] (orcC 2 (x_c1 («as» := [.ag [iv x17.Code, rr 8 x17.Gens], iv 1]) [(.tmp 62), (.tmp 63)] [41, 3] false [(8, rE 1 eI64 x17.Gens)] [8] (.cons (.ag (.cons (.same rfl) (.cons (.rf rfl) (.nil)))) (.cons (.same rfl) (.nil))) (laws_markGensResultg.ok x17 1) h42 (.same rfl rfl)) orcN) ?_
                refine J_bind (fun u43 h44 => ?_)
                refine J_st (σ' := St.mk' [(1, sl 1 eI64 a2), (2, pp 0), (6, pp 4), (9, pp 9), (11, iv x41.1)] [(0, .box (Disk.enc false a1)), (3, rE 1 eI64 x11.Gens), (4, .box [iv x11.Code, rr 3 x11.Gens]), (8, rE 1 eI64 x41.2), (9, .box [iv x17.Code, rr 8 x41.2])]) (by simp only [rr, same_len h44]) ?_
                refine J_g 1048574 [] [(1, sl 1 eI64 a2), (2, pp 0), (6, pp 4), (9, pp 9), (11, iv x41.1), (12, iv 1)] [(0, .box (Disk.enc false a1)), (3, rE 1 eI64 x11.Gens), (4, .box [iv x11.Code, rr 3 x11.Gens]), (8, rE 1 eI64 x41.2), (9, .box [iv x17.Code, rr 8 x41.2])] orcN ?_
                refine J_bind (fun x45 h46 => ?_)
                refine J_g 2097150 [] [(1, sl 1 eI64 a2), (2, pp 0), (6, pp 4), (9, pp 9), (11, iv x41.1), (12, iv x45)] [(0, .box (Disk.enc false a1)), (3, rE 1 eI64 x11.Gens), (4, .box [iv x11.Code, rr 3 x11.Gens]), (8, rE 1 eI64 x41.2), (9, .box [iv x17.Code, rr 8 x41.2])] (orcC 2 (x_c1 («as» := [.ag [iv x17.Code, rr 8 x41.2], iv 1]) [(.tmp 65), (.tmp 66)] [41, 3] true [(8, rE 1 eI64 x41.2)] [] (.cons (.ag (.cons (.same rfl) (.cons (am_b (.head _) (fun _ => rfl) rfl) (.nil)))) (.cons (.same rfl) (.nil))) (laws_heldGensResult.ok ({ Code := x17.Code, Gens := x41.2 } : GensResult) 1) h46 (.same rfl rfl) (hbor := fun _ => ⟨rfl, flat_sc⟩)) orcN) ?_
                refine J_g 8388604 [] [(1, sl 1 eI64 a2), (2, pp 0), (6, pp 4), (9, pp 9), (11, iv x41.1), (12, iv x45), (69, bv (decide (x45 < 0)))] [(0, .box (Disk.enc false a1)), (3, rE 1 eI64 x11.Gens), (4, .box [iv x11.Code, rr 3 x11.Gens]), (8, rE 1 eI64 x41.2), (9, .box [iv x17.Code, rr 8 x41.2])] orcN ?_
                refine J_if2 69 (fun h47 => ?_) (fun h47 => ?_)
                · refine J_g 33554420 [] [(4, bv false)] [] orcN ?_
                  exact J_r1 rfl
                · refine J_g 16777212 [] [(1, sl 1 eI64 a2), (2, pp 0), (6, pp 4), (9, pp 9), (11, iv x41.1), (72, bv (x45 != x41.1))] [(0, .box (Disk.enc false a1)), (3, rE 1 eI64 x11.Gens), (4, .box [iv x11.Code, rr 3 x11.Gens]), (8, rE 1 eI64 x41.2), (9, .box [iv x17.Code, rr 8 x41.2])] orcN ?_
                  refine J_if2 72 (fun h48 => ?_) (fun h48 => ?_)
                  · refine J_g 67108852 [] [(4, bv false)] [] orcN ?_
                    exact J_r1 rfl
                  · refine J_bind (fun x49 h50 => ?_)
                    refine J_bind (fun x51 h52 => ?_)
                    refine J_bind (fun x53 h54 => ?_)
                    refine J_g 16777214 [(5, 13)] [(6, pp 4), (9, pp 9), (11, iv x41.1), (13, pp 13)] [(3, rE 1 eI64 x11.Gens), (4, .box [iv x11.Code, rr 3 x11.Gens]), (8, rE 1 eI64 x41.2), (9, .box [iv x17.Code, rr 8 x41.2]), (12, rE 1 eI64 x53.Gens), (13, .box [iv x53.Code, rr 12 x53.Gens])] (orcC 1 (x_c1 («as» := [.ag (Disk.enc false a1)]) [(.tmp 73)] [38] false [] [] (.cons (.same rfl) (.nil)) (laws_toDisk.ok a1) h50 (.ag (.cons (.own 10) (.cons (.same rfl rfl) (.cons (.same rfl rfl) (.cons (.same rfl rfl) (.cons (.same rfl rfl) (.nil)))))))) (orcC 3 (x_c1 («as» := [sl 1 eI64 a2]) [(.tmp 75)] [23] false [] [] (.cons (.same rfl) (.nil)) (laws_toInt64S.ok a2) h52 (.own 11)) (orcC 4 (x_c1 («as» := [.ag [rr 10 x49.Files, iv x49.Budget, iv x49.Writes, iv x49.Stop, bv x49.Down], rr 11 x51]) [(.tmp 74), (.tmp 76)] [45, 23] true [(10, rE 2 (File.enc true) x49.Files), (11, rE 1 eI64 x51)] [] (.cons (.ag (.cons (am_b (.head _) (File.ro true) rfl) (.cons (.same rfl) (.cons (.same rfl) (.cons (.same rfl) (.cons (.same rfl) (.nil))))))) (.cons (am_b (.tail _ (.head _)) (fun _ => rfl) rfl) (.nil))) (impl_KeptGens.ok x49 x51) h54 (.ag (.cons (.same rfl rfl) (.cons (.own 12) (.nil)))) (hbor := fun _ => ⟨rfl, (flat_ag (GensResult.fl _))⟩)) orcN))) ?_
                    refine J_bind (fun x55 h56 => ?_)
                    refine J_g 67108860 [] [(9, pp 9), (11, iv x41.1), (81, bv (!x55))] [(8, rE 1 eI64 x41.2), (9, .box [iv x17.Code, rr 8 x41.2])] (orcC 2 (x_c1 («as» := [.ag [iv x53.Code, rr 12 x53.Gens], .ag [iv x11.Code, rr 3 x11.Gens]]) [(.tmp 78), (.tmp 79)] [41, 41] true [(12, rE 1 eI64 x53.Gens), (3, rE 1 eI64 x11.Gens)] [] (.cons (.ag (.cons (.same rfl) (.cons (am_b (.head _) (fun _ => rfl) rfl) (.nil)))) (.cons (.ag (.cons (.same rfl) (.cons (am_b (.tail _ (.head _)) (fun _ => rfl) rfl) (.nil)))) (.nil))) (laws_eqGensResult.ok x53 x11) h56 (.same rfl rfl) (hbor := fun _ => ⟨rfl, flat_sc⟩)) orcN) ?_
                    refine J_if2 81 (fun h57 => ?_) (fun h57 => ?_)
                    · refine J_g 268435444 [] [(4, bv false)] [] orcN ?_
                      exact J_r1 rfl
                    · refine J_g 67108862 [] [(9, pp 9), (11, iv x41.1), (12, iv 1)] [(8, rE 1 eI64 x41.2), (9, .box [iv x17.Code, rr 8 x41.2])] orcN ?_
                      refine J_bind (fun x58 h59 => ?_)
                      refine J_g 134217726 [] [(11, iv x41.1), (12, iv x58)] [] (orcC 2 (x_c1 («as» := [.ag [iv x17.Code, rr 8 x41.2], iv 1]) [(.tmp 82), (.tmp 83)] [41, 3] true [(8, rE 1 eI64 x41.2)] [] (.cons (.ag (.cons (.same rfl) (.cons (am_b (.head _) (fun _ => rfl) rfl) (.nil)))) (.cons (.same rfl) (.nil))) (laws_heldGensResult.ok ({ Code := x17.Code, Gens := x41.2 } : GensResult) 1) h59 (.same rfl rfl) (hbor := fun _ => ⟨rfl, flat_sc⟩)) orcN) ?_
                      refine J_g 536870908 [] [(11, iv x41.1), (12, iv x58), (86, bv (decide (x58 < 0)))] [] orcN ?_
                      refine J_if2 86 (fun h60 => ?_) (fun h60 => ?_)
                      · refine J_g 2147483636 [] [(4, bv false)] [] orcN ?_
                        exact J_r1 rfl
                      · refine J_g 1073741820 [] [(89, bv (x58 != x41.1))] [] orcN ?_
                        refine J_if2 89 (fun h61 => ?_) (fun h61 => ?_)
                        · refine J_g 4294967284 [] [(4, bv false)] [] orcN ?_
                          exact J_r1 rfl
                        · refine J_g 1073741822 [] [(4, bv true)] [] orcN ?_
                          exact J_r1 rfl
            · refine J_ite (fun h36 => ?_) (fun h36 => ?_)
              · refine J_g 262140 [] [(1, sl 1 eI64 a2), (2, pp 0), (6, pp 4), (9, pp 9), (61, bv true)] [(0, .box (Disk.enc false a1)), (3, rE 1 eI64 x11.Gens), (4, .box [iv x11.Code, rr 3 x11.Gens]), (8, rE 1 eI64 x17.Gens), (9, .box [iv x17.Code, rr 8 x17.Gens])] (orcL 2 [(55, bv (decide (x34.1 < 0)))] [] h36 orcN) ?_
                exact J_qw (J_j (jv39 true)) rfl
              · refine J_bind (fun x37 h38 => ?_)
                refine J_g 262140 [] [(1, sl 1 eI64 a2), (2, pp 0), (6, pp 4), (9, pp 9), (61, bv (!x37))] [(0, .box (Disk.enc false a1)), (3, rE 1 eI64 x11.Gens), (4, .box [iv x11.Code, rr 3 x11.Gens]), (8, rE 1 eI64 x17.Gens), (9, .box [iv x17.Code, rr 8 x17.Gens])] (orcL 2 [(55, bv (decide (x34.1 < 0)))] [] h36 (orcH 5 2 56 false (x_c1 («as» := [.ag [iv x17.Code, rr 8 x17.Gens], .ag [iv x11.Code, rr 3 x11.Gens]]) [(.tmp 57), (.tmp 58)] [41, 41] true [(8, rE 1 eI64 x17.Gens), (3, rE 1 eI64 x11.Gens)] [] (.cons (.ag (.cons (.same rfl) (.cons (am_b (.head _) (fun _ => rfl) rfl) (.nil)))) (.cons (.ag (.cons (.same rfl) (.cons (am_b (.tail _ (.head _)) (fun _ => rfl) rfl) (.nil)))) (.nil))) (laws_eqGensResult.ok x17 x11) h38 (.same rfl rfl) (hbor := fun _ => ⟨rfl, flat_sc⟩)) orcN)) ?_
                exact J_qw (J_j (jv39 (!x37))) rfl

end Go.Told

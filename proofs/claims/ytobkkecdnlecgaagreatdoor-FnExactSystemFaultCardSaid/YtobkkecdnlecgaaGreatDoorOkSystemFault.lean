import Derived.Test.YtobkkecdnlecgaaGreatDoorOkSystemFaultx2
set_option linter.unusedVariables false
set_option maxRecDepth 4000
namespace Go.Told
open Go Go.Im Go.Proofs

noncomputable def c3 : Code := (Tryz.f3.body).getD .skip

theorem laws_FnExactSystemFault.ok (a1 : System) : Ok Tryz.prog 3 [.ag (System.enc false a1)] [] ((laws_FnExactSystemFault a1).map fun r => (bv r, [])) := by
  refine Ok_of3 c3 Tryz.f3 0 27 (fun q => ?_)
  unfold laws_FnExactSystemFault
  refine J_g 2 [(0, 0)] [(1, pp 0)] [(0, .box (System.enc false a1))] orcN ?_
  refine J_g 6 [] [(1, pp 0), (3, iv 1048576)] [(0, .box (System.enc false a1))] orcN ?_
  refine J_bind (fun x2 h3 => ?_)
  refine J_g 14 [] [(1, pp 0), (3, iv x2)] [(0, .box (System.enc false a1))] (orcC 2 (x_c0 [(.tmp 7), (.tmp 8)] [27, 3] (laws_szSystem.ok a1 1048576) h3) orcN) ?_
  refine J_g 60 [] [(1, pp 0), (11, bv (decide (x2 < 0)))] [(0, .box (System.enc false a1))] orcN ?_
  refine J_if2 11 (fun h4 => ?_) (fun h4 => ?_)
  · refine J_g 244 [] [(2, bv true)] [] orcN ?_
    exact J_r1 rfl
  · refine J_bind (fun x5 h6 => ?_)
    refine J_bind (fun x7 h8 => ?_)
    refine J_g 62 [] [(1, pp 0), (4, iv x7)] [(0, .box (System.enc false a1))] (orcC 1 (x_c1 («as» := [.ag (System.enc false a1)]) [(.tmp 12)] [27] false [] [] (.cons (.same rfl) (.nil)) (laws_toSystem.ok a1) h6 (.ag (.cons (.own 1) (.cons (.own 2) (.cons (.same rfl rfl) (.cons (.same rfl rfl) (.cons (.same rfl rfl) (.cons (.same rfl rfl) (.nil))))))))) (orcC 2 (x_c1 («as» := [.ag [rr 1 x5.Catalog, rr 2 x5.Disk.Files, iv x5.Disk.Budget, iv x5.Disk.Writes, iv x5.Disk.Stop, bv x5.Disk.Down]]) [(.tmp 13)] [35] true [(1, rE 8 (Pack.enc true) x5.Catalog), (2, rE 2 (File.enc true) x5.Disk.Files)] [] (.cons (.ag (.cons (am_b (.head _) (Pack.ro true) rfl) (.cons (am_b (.tail _ (.head _)) (File.ro true) rfl) (.cons (.same rfl) (.cons (.same rfl) (.cons (.same rfl) (.cons (.same rfl) (.nil)))))))) (.nil)) (spec_SystemFault.ok x5) h8 (.same rfl rfl) (hbor := fun _ => ⟨rfl, flat_sc⟩)) orcN)) ?_
    refine J_bind (fun x9 h10 => ?_)
    refine J_g 126 [(2, 3)] [(1, pp 0), (4, iv x7), (5, pp 3)] [(0, .box (System.enc false a1)), (1, rE 8 (Pack.enc true) x9.Catalog), (2, rE 2 (File.enc true) x9.Disk.Files), (3, .box [rr 1 x9.Catalog, rr 2 x9.Disk.Files, iv x9.Disk.Budget, iv x9.Disk.Writes, iv x9.Disk.Stop, bv x9.Disk.Down])] (orcC 1 (x_c1 («as» := [.ag (System.enc false a1)]) [(.tmp 15)] [27] false [] [] (.cons (.same rfl) (.nil)) (laws_toSystem.ok a1) h10 (.ag (.cons (.own 1) (.cons (.own 2) (.cons (.same rfl rfl) (.cons (.same rfl rfl) (.cons (.same rfl rfl) (.cons (.same rfl rfl) (.nil))))))))) orcN) ?_
    refine J_bind (fun x11 h12 => ?_)
    refine J_g 254 [] [(1, pp 0), (4, iv x7), (5, pp 3), (6, iv x11)] [(0, .box (System.enc false a1)), (1, rE 8 (Pack.enc true) x9.Catalog), (2, rE 2 (File.enc true) x9.Disk.Files), (3, .box [rr 1 x9.Catalog, rr 2 x9.Disk.Files, iv x9.Disk.Budget, iv x9.Disk.Writes, iv x9.Disk.Stop, bv x9.Disk.Down])] (orcC 1 (x_c1 («as» := [.ag [rr 1 x9.Catalog, rr 2 x9.Disk.Files, iv x9.Disk.Budget, iv x9.Disk.Writes, iv x9.Disk.Stop, bv x9.Disk.Down]]) [(.tmp 17)] [35] true [(1, rE 8 (Pack.enc true) x9.Catalog), (2, rE 2 (File.enc true) x9.Disk.Files)] [] (.cons (.ag (.cons (am_b (.head _) (Pack.ro true) rfl) (.cons (am_b (.tail _ (.head _)) (File.ro true) rfl) (.cons (.same rfl) (.cons (.same rfl) (.cons (.same rfl) (.cons (.same rfl) (.nil)))))))) (.nil)) (impl_SystemFault.ok x9) h12 (.same rfl rfl) (hbor := fun _ => ⟨rfl, flat_sc⟩)) orcN) ?_
    refine J_g 1020 [] [(1, pp 0), (5, pp 3), (21, bv (x11 != x7))] [(0, .box (System.enc false a1)), (1, rE 8 (Pack.enc true) x9.Catalog), (2, rE 2 (File.enc true) x9.Disk.Files), (3, .box [rr 1 x9.Catalog, rr 2 x9.Disk.Files, iv x9.Disk.Budget, iv x9.Disk.Writes, iv x9.Disk.Stop, bv x9.Disk.Down])] orcN ?_
    refine J_if2 21 (fun h13 => ?_) (fun h13 => ?_)
    · refine J_g 4084 [] [(2, bv false)] [] orcN ?_
      exact J_r1 rfl
    · refine J_bind (fun x14 h15 => ?_)
      refine J_bind (fun x16 h17 => ?_)
      refine J_g 2044 [] [(26, bv (!x16))] [] (orcC 2 (x_c1 («as» := [.ag (System.enc false a1)]) [(.tmp 23)] [27] false [] [] (.cons (.same rfl) (.nil)) (laws_toSystem.ok a1) h15 (.ag (.cons (.own 4) (.cons (.own 5) (.cons (.same rfl rfl) (.cons (.same rfl rfl) (.cons (.same rfl rfl) (.cons (.same rfl rfl) (.nil))))))))) (orcC 3 (x_c1 («as» := [.ag [rr 1 x9.Catalog, rr 2 x9.Disk.Files, iv x9.Disk.Budget, iv x9.Disk.Writes, iv x9.Disk.Stop, bv x9.Disk.Down], .ag [rr 4 x14.Catalog, rr 5 x14.Disk.Files, iv x14.Disk.Budget, iv x14.Disk.Writes, iv x14.Disk.Stop, bv x14.Disk.Down]]) [(.tmp 22), (.tmp 24)] [35, 35] true [(1, rE 8 (Pack.enc true) x9.Catalog), (2, rE 2 (File.enc true) x9.Disk.Files), (4, rE 8 (Pack.enc true) x14.Catalog), (5, rE 2 (File.enc true) x14.Disk.Files)] [] (.cons (.ag (.cons (am_b (.head _) (Pack.ro true) rfl) (.cons (am_b (.tail _ (.head _)) (File.ro true) rfl) (.cons (.same rfl) (.cons (.same rfl) (.cons (.same rfl) (.cons (.same rfl) (.nil)))))))) (.cons (.ag (.cons (am_b (.tail _ (.tail _ (.head _))) (Pack.ro true) rfl) (.cons (am_b (.tail _ (.tail _ (.tail _ (.head _)))) (File.ro true) rfl) (.cons (.same rfl) (.cons (.same rfl) (.cons (.same rfl) (.cons (.same rfl) (.nil)))))))) (.nil))) (laws_eqSystem.ok x9 x14) h17 (.same rfl rfl) (hbor := fun _ => ⟨rfl, flat_sc⟩)) orcN)) ?_
      refine J_if2 26 (fun h18 => ?_) (fun h18 => ?_)
      · refine J_g 8180 [] [(2, bv false)] [] orcN ?_
        exact J_r1 rfl
      · refine J_g 2046 [] [(2, bv true)] [] orcN ?_
        exact J_r1 rfl

end Go.Told

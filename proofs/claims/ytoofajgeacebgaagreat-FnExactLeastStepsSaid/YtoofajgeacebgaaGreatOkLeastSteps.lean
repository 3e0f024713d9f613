import Derived.Test.YtoofajgeacebgaaGreatOkLeastStepsx2
set_option linter.unusedVariables false
set_option maxRecDepth 4000
namespace Go.Told
open Go Go.Im Go.Proofs
noncomputable def c38:Code:=(Tryz.f38.body).getD .skip
theorem zC4.ok (q:Wd) (kn:((List Term)×Int)→Option (D×List Ent)) (hk:∀v:((List Term)×Int),J (q.g Tryz.prog 38 1 69) c38 (atI c38 7) (St.mk' [(1,iv v.2)] [(0,rE 7 Term.enc v.1)]) (some v) kn):
  ∀s20:((List Term)×Int×Int),J (q.g Tryz.prog 38 1 69) c38 (atI c38 52) (St.mk' [(0,rr 0 s20.1),(1,iv s20.2.1),(5,iv s20.2.2)] [(0,rE 7 Term.enc s20.1)]) (zC4 s20) kn:=by
 refine tV (fun g ih s20=>?_)
 unfold zES
 refine J_d 208 [] [9] [(9,bv (decide (s20.2.2< (s20.1.length:Int))))] [] [] zB ?_
 refine zF 9 (fun h21=>?_) (fun h21=>?_)
 ·refine zA (fun x22 h23=>?_)
  refine zA (fun x24 h25=>?_)
  refine J_g 840 [] [(0,rr 0 s20.1),(1,iv s20.2.1),(5,iv s20.2.2)] [(0,rE 7 Term.enc (s20.1.set s20.2.2.toNat ({Name:=x22,Low:=x24.Low,High:=x24.High}:Term)))] (zD 3 (vG [(.tmp 14)] [3] (jG.ok s20.2.1) h23) (zD 4 (jT (kk:=.i64) 61 102 7 0 Term.enc (.tmp 12) (.tmp 13) h25) (zGT 6 (zIb (b:=({Name:=x22,Low:=x24.Low,High:=x24.High}:Term)) 9 7 0 0 Term.enc (sv x22) (.tmp 17) (.tmp 15) h25 rfl) zB))) ?_
  refine zFr (σ':=St.mk' [(0,rr 0 (s20.1.set s20.2.2.toNat ({Name:=x22,Low:=x24.Low,High:=x24.High}:Term))),(1,iv s20.2.1),(5,iv s20.2.2)] [(0,rE 7 Term.enc (s20.1.set s20.2.2.toNat ({Name:=x22,Low:=x24.Low,High:=x24.High}:Term)))]) (by simp only [rr,List.length_set]) ?_
  refine J_d 1682 [] [1] [(1,iv (w64 (s20.2.1+1)))] [] [] zB ?_
  refine zA (fun x26 h27=>?_)
  refine J_g 3366 [] [(0,rr 0 (s20.1.set s20.2.2.toNat ({Name:=x22,Low:=x24.Low,High:=x24.High}:Term))),(1,iv (w64 (s20.2.1+1))),(5,iv s20.2.2)] [(0,rE 7 Term.enc ((s20.1.set s20.2.2.toNat ({Name:=x22,Low:=x24.Low,High:=x24.High}:Term)).set s20.2.2.toNat ({Name:=x26.Name,Low:=({A:=w64 (s20.2.1+1),B:=x26.Low.B,C:=x26.Low.C}:Version),High:=x26.High}:Term)))] (zD 3 (jT (kk:=.i64) 61 102 7 0 Term.enc (.tmp 20) (.tmp 21) h27) (zGT 6 (zIb (b:=({Name:=x26.Name,Low:=({A:=w64 (s20.2.1+1),B:=x26.Low.B,C:=x26.Low.C}:Version),High:=x26.High}:Term)) 2 7 0 1 Term.enc (iv (w64 (s20.2.1+1))) (.tmp 25) (.tmp 22) h27 rfl) zB)) ?_
  refine zFr (σ':=St.mk' [(0,rr 0 ((s20.1.set s20.2.2.toNat ({Name:=x22,Low:=x24.Low,High:=x24.High}:Term)).set s20.2.2.toNat ({Name:=x26.Name,Low:=({A:=w64 (s20.2.1+1),B:=x26.Low.B,C:=x26.Low.C}:Version),High:=x26.High}:Term))),(1,iv (w64 (s20.2.1+1))),(5,iv s20.2.2)] [(0,rE 7 Term.enc ((s20.1.set s20.2.2.toNat ({Name:=x22,Low:=x24.Low,High:=x24.High}:Term)).set s20.2.2.toNat ({Name:=x26.Name,Low:=({A:=w64 (s20.2.1+1),B:=x26.Low.B,C:=x26.Low.C}:Version),High:=x26.High}:Term)))]) (by simp only [rr,List.length_set]) ?_
  refine J_d 6734 [] [1] [(1,iv (w64 ((w64 (s20.2.1+1))+1)))] [] [] zB ?_
  refine zA (fun x28 h29=>?_)
  refine J_g 13470 [] [(0,rr 0 ((s20.1.set s20.2.2.toNat ({Name:=x22,Low:=x24.Low,High:=x24.High}:Term)).set s20.2.2.toNat ({Name:=x26.Name,Low:=({A:=w64 (s20.2.1+1),B:=x26.Low.B,C:=x26.Low.C}:Version),High:=x26.High}:Term))),(1,iv (w64 ((w64 (s20.2.1+1))+1))),(5,iv s20.2.2)] [(0,rE 7 Term.enc (((s20.1.set s20.2.2.toNat ({Name:=x22,Low:=x24.Low,High:=x24.High}:Term)).set s20.2.2.toNat ({Name:=x26.Name,Low:=({A:=w64 (s20.2.1+1),B:=x26.Low.B,C:=x26.Low.C}:Version),High:=x26.High}:Term)).set s20.2.2.toNat ({Name:=x28.Name,Low:=({A:=x28.Low.A,B:=w64 ((w64 (s20.2.1+1))+1),C:=x28.Low.C}:Version),High:=x28.High}:Term)))] (zD 3 (jT (kk:=.i64) 61 102 7 0 Term.enc (.tmp 28) (.tmp 29) h29) (zGT 6 (zIb (b:=({Name:=x28.Name,Low:=({A:=x28.Low.A,B:=w64 ((w64 (s20.2.1+1))+1),C:=x28.Low.C}:Version),High:=x28.High}:Term)) 2 7 0 2 Term.enc (iv (w64 ((w64 (s20.2.1+1))+1))) (.tmp 33) (.tmp 30) h29 rfl) zB)) ?_
  refine zFr (σ':=St.mk' [(0,rr 0 (((s20.1.set s20.2.2.toNat ({Name:=x22,Low:=x24.Low,High:=x24.High}:Term)).set s20.2.2.toNat ({Name:=x26.Name,Low:=({A:=w64 (s20.2.1+1),B:=x26.Low.B,C:=x26.Low.C}:Version),High:=x26.High}:Term)).set s20.2.2.toNat ({Name:=x28.Name,Low:=({A:=x28.Low.A,B:=w64 ((w64 (s20.2.1+1))+1),C:=x28.Low.C}:Version),High:=x28.High}:Term))),(1,iv (w64 ((w64 (s20.2.1+1))+1))),(5,iv s20.2.2)] [(0,rE 7 Term.enc (((s20.1.set s20.2.2.toNat ({Name:=x22,Low:=x24.Low,High:=x24.High}:Term)).set s20.2.2.toNat ({Name:=x26.Name,Low:=({A:=w64 (s20.2.1+1),B:=x26.Low.B,C:=x26.Low.C}:Version),High:=x26.High}:Term)).set s20.2.2.toNat ({Name:=x28.Name,Low:=({A:=x28.Low.A,B:=w64 ((w64 (s20.2.1+1))+1),C:=x28.Low.C}:Version),High:=x28.High}:Term)))]) (by simp only [rr,List.length_set]) ?_
  refine J_d 26942 [] [1] [(1,iv (w64 ((w64 ((w64 (s20.2.1+1))+1))+1)))] [] [] zB ?_
  refine zA (fun x30 h31=>?_)
  refine J_g 53886 [] [(0,rr 0 (((s20.1.set s20.2.2.toNat ({Name:=x22,Low:=x24.Low,High:=x24.High}:Term)).set s20.2.2.toNat ({Name:=x26.Name,Low:=({A:=w64 (s20.2.1+1),B:=x26.Low.B,C:=x26.Low.C}:Version),High:=x26.High}:Term)).set s20.2.2.toNat ({Name:=x28.Name,Low:=({A:=x28.Low.A,B:=w64 ((w64 (s20.2.1+1))+1),C:=x28.Low.C}:Version),High:=x28.High}:Term))),(1,iv (w64 ((w64 ((w64 (s20.2.1+1))+1))+1))),(5,iv s20.2.2)] [(0,rE 7 Term.enc ((((s20.1.set s20.2.2.toNat ({Name:=x22,Low:=x24.Low,High:=x24.High}:Term)).set s20.2.2.toNat ({Name:=x26.Name,Low:=({A:=w64 (s20.2.1+1),B:=x26.Low.B,C:=x26.Low.C}:Version),High:=x26.High}:Term)).set s20.2.2.toNat ({Name:=x28.Name,Low:=({A:=x28.Low.A,B:=w64 ((w64 (s20.2.1+1))+1),C:=x28.Low.C}:Version),High:=x28.High}:Term)).set s20.2.2.toNat ({Name:=x30.Name,Low:=({A:=x30.Low.A,B:=x30.Low.B,C:=w64 ((w64 ((w64 (s20.2.1+1))+1))+1)}:Version),High:=x30.High}:Term)))] (zD 3 (jT (kk:=.i64) 61 102 7 0 Term.enc (.tmp 36) (.tmp 37) h31) (zGT 6 (zIb (b:=({Name:=x30.Name,Low:=({A:=x30.Low.A,B:=x30.Low.B,C:=w64 ((w64 ((w64 (s20.2.1+1))+1))+1)}:Version),High:=x30.High}:Term)) 2 7 0 3 Term.enc (iv (w64 ((w64 ((w64 (s20.2.1+1))+1))+1))) (.tmp 41) (.tmp 38) h31 rfl) zB)) ?_
  refine zFr (σ':=St.mk' [(0,rr 0 ((((s20.1.set s20.2.2.toNat ({Name:=x22,Low:=x24.Low,High:=x24.High}:Term)).set s20.2.2.toNat ({Name:=x26.Name,Low:=({A:=w64 (s20.2.1+1),B:=x26.Low.B,C:=x26.Low.C}:Version),High:=x26.High}:Term)).set s20.2.2.toNat ({Name:=x28.Name,Low:=({A:=x28.Low.A,B:=w64 ((w64 (s20.2.1+1))+1),C:=x28.Low.C}:Version),High:=x28.High}:Term)).set s20.2.2.toNat ({Name:=x30.Name,Low:=({A:=x30.Low.A,B:=x30.Low.B,C:=w64 ((w64 ((w64 (s20.2.1+1))+1))+1)}:Version),High:=x30.High}:Term))),(1,iv (w64 ((w64 ((w64 (s20.2.1+1))+1))+1))),(5,iv s20.2.2)] [(0,rE 7 Term.enc ((((s20.1.set s20.2.2.toNat ({Name:=x22,Low:=x24.Low,High:=x24.High}:Term)).set s20.2.2.toNat ({Name:=x26.Name,Low:=({A:=w64 (s20.2.1+1),B:=x26.Low.B,C:=x26.Low.C}:Version),High:=x26.High}:Term)).set s20.2.2.toNat ({Name:=x28.Name,Low:=({A:=x28.Low.A,B:=w64 ((w64 (s20.2.1+1))+1),C:=x28.Low.C}:Version),High:=x28.High}:Term)).set s20.2.2.toNat ({Name:=x30.Name,Low:=({A:=x30.Low.A,B:=x30.Low.B,C:=w64 ((w64 ((w64 (s20.2.1+1))+1))+1)}:Version),High:=x30.High}:Term)))]) (by simp only [rr,List.length_set]) ?_
  refine J_d 107774 [] [1] [(1,iv (w64 ((w64 ((w64 ((w64 (s20.2.1+1))+1))+1))+1)))] [] [] zB ?_
  refine zA (fun x32 h33=>?_)
  refine J_g 215550 [] [(0,rr 0 ((((s20.1.set s20.2.2.toNat ({Name:=x22,Low:=x24.Low,High:=x24.High}:Term)).set s20.2.2.toNat ({Name:=x26.Name,Low:=({A:=w64 (s20.2.1+1),B:=x26.Low.B,C:=x26.Low.C}:Version),High:=x26.High}:Term)).set s20.2.2.toNat ({Name:=x28.Name,Low:=({A:=x28.Low.A,B:=w64 ((w64 (s20.2.1+1))+1),C:=x28.Low.C}:Version),High:=x28.High}:Term)).set s20.2.2.toNat ({Name:=x30.Name,Low:=({A:=x30.Low.A,B:=x30.Low.B,C:=w64 ((w64 ((w64 (s20.2.1+1))+1))+1)}:Version),High:=x30.High}:Term))),(1,iv (w64 ((w64 ((w64 ((w64 (s20.2.1+1))+1))+1))+1))),(5,iv s20.2.2)] [(0,rE 7 Term.enc (((((s20.1.set s20.2.2.toNat ({Name:=x22,Low:=x24.Low,High:=x24.High}:Term)).set s20.2.2.toNat ({Name:=x26.Name,Low:=({A:=w64 (s20.2.1+1),B:=x26.Low.B,C:=x26.Low.C}:Version),High:=x26.High}:Term)).set s20.2.2.toNat ({Name:=x28.Name,Low:=({A:=x28.Low.A,B:=w64 ((w64 (s20.2.1+1))+1),C:=x28.Low.C}:Version),High:=x28.High}:Term)).set s20.2.2.toNat ({Name:=x30.Name,Low:=({A:=x30.Low.A,B:=x30.Low.B,C:=w64 ((w64 ((w64 (s20.2.1+1))+1))+1)}:Version),High:=x30.High}:Term)).set s20.2.2.toNat ({Name:=x32.Name,Low:=x32.Low,High:=({A:=w64 ((w64 ((w64 ((w64 (s20.2.1+1))+1))+1))+1),B:=x32.High.B,C:=x32.High.C}:Version)}:Term)))] (zD 3 (jT (kk:=.i64) 61 102 7 0 Term.enc (.tmp 44) (.tmp 45) h33) (zGT 6 (zIb (b:=({Name:=x32.Name,Low:=x32.Low,High:=({A:=w64 ((w64 ((w64 ((w64 (s20.2.1+1))+1))+1))+1),B:=x32.High.B,C:=x32.High.C}:Version)}:Term)) 2 7 0 4 Term.enc (iv (w64 ((w64 ((w64 ((w64 (s20.2.1+1))+1))+1))+1))) (.tmp 49) (.tmp 46) h33 rfl) zB)) ?_
  refine zFr (σ':=St.mk' [(0,rr 0 (((((s20.1.set s20.2.2.toNat ({Name:=x22,Low:=x24.Low,High:=x24.High}:Term)).set s20.2.2.toNat ({Name:=x26.Name,Low:=({A:=w64 (s20.2.1+1),B:=x26.Low.B,C:=x26.Low.C}:Version),High:=x26.High}:Term)).set s20.2.2.toNat ({Name:=x28.Name,Low:=({A:=x28.Low.A,B:=w64 ((w64 (s20.2.1+1))+1),C:=x28.Low.C}:Version),High:=x28.High}:Term)).set s20.2.2.toNat ({Name:=x30.Name,Low:=({A:=x30.Low.A,B:=x30.Low.B,C:=w64 ((w64 ((w64 (s20.2.1+1))+1))+1)}:Version),High:=x30.High}:Term)).set s20.2.2.toNat ({Name:=x32.Name,Low:=x32.Low,High:=({A:=w64 ((w64 ((w64 ((w64 (s20.2.1+1))+1))+1))+1),B:=x32.High.B,C:=x32.High.C}:Version)}:Term))),(1,iv (w64 ((w64 ((w64 ((w64 (s20.2.1+1))+1))+1))+1))),(5,iv s20.2.2)] [(0,rE 7 Term.enc (((((s20.1.set s20.2.2.toNat ({Name:=x22,Low:=x24.Low,High:=x24.High}:Term)).set s20.2.2.toNat ({Name:=x26.Name,Low:=({A:=w64 (s20.2.1+1),B:=x26.Low.B,C:=x26.Low.C}:Version),High:=x26.High}:Term)).set s20.2.2.toNat ({Name:=x28.Name,Low:=({A:=x28.Low.A,B:=w64 ((w64 (s20.2.1+1))+1),C:=x28.Low.C}:Version),High:=x28.High}:Term)).set s20.2.2.toNat ({Name:=x30.Name,Low:=({A:=x30.Low.A,B:=x30.Low.B,C:=w64 ((w64 ((w64 (s20.2.1+1))+1))+1)}:Version),High:=x30.High}:Term)).set s20.2.2.toNat ({Name:=x32.Name,Low:=x32.Low,High:=({A:=w64 ((w64 ((w64 ((w64 (s20.2.1+1))+1))+1))+1),B:=x32.High.B,C:=x32.High.C}:Version)}:Term)))]) (by simp only [rr,List.length_set]) ?_
  refine J_d 431102 [] [1] [(1,iv (w64 ((w64 ((w64 ((w64 ((w64 (s20.2.1+1))+1))+1))+1))+1)))] [] [] zB ?_
  refine zA (fun x34 h35=>?_)
  refine J_g 862206 [] [(0,rr 0 (((((s20.1.set s20.2.2.toNat ({Name:=x22,Low:=x24.Low,High:=x24.High}:Term)).set s20.2.2.toNat ({Name:=x26.Name,Low:=({A:=w64 (s20.2.1+1),B:=x26.Low.B,C:=x26.Low.C}:Version),High:=x26.High}:Term)).set s20.2.2.toNat ({Name:=x28.Name,Low:=({A:=x28.Low.A,B:=w64 ((w64 (s20.2.1+1))+1),C:=x28.Low.C}:Version),High:=x28.High}:Term)).set s20.2.2.toNat ({Name:=x30.Name,Low:=({A:=x30.Low.A,B:=x30.Low.B,C:=w64 ((w64 ((w64 (s20.2.1+1))+1))+1)}:Version),High:=x30.High}:Term)).set s20.2.2.toNat ({Name:=x32.Name,Low:=x32.Low,High:=({A:=w64 ((w64 ((w64 ((w64 (s20.2.1+1))+1))+1))+1),B:=x32.High.B,C:=x32.High.C}:Version)}:Term))),(1,iv (w64 ((w64 ((w64 ((w64 ((w64 (s20.2.1+1))+1))+1))+1))+1))),(5,iv s20.2.2)] [(0,rE 7 Term.enc ((((((s20.1.set s20.2.2.toNat ({Name:=x22,Low:=x24.Low,High:=x24.High}:Term)).set s20.2.2.toNat ({Name:=x26.Name,Low:=({A:=w64 (s20.2.1+1),B:=x26.Low.B,C:=x26.Low.C}:Version),High:=x26.High}:Term)).set s20.2.2.toNat ({Name:=x28.Name,Low:=({A:=x28.Low.A,B:=w64 ((w64 (s20.2.1+1))+1),C:=x28.Low.C}:Version),High:=x28.High}:Term)).set s20.2.2.toNat ({Name:=x30.Name,Low:=({A:=x30.Low.A,B:=x30.Low.B,C:=w64 ((w64 ((w64 (s20.2.1+1))+1))+1)}:Version),High:=x30.High}:Term)).set s20.2.2.toNat ({Name:=x32.Name,Low:=x32.Low,High:=({A:=w64 ((w64 ((w64 ((w64 (s20.2.1+1))+1))+1))+1),B:=x32.High.B,C:=x32.High.C}:Version)}:Term)).set s20.2.2.toNat ({Name:=x34.Name,Low:=x34.Low,High:=({A:=x34.High.A,B:=w64 ((w64 ((w64 ((w64 ((w64 (s20.2.1+1))+1))+1))+1))+1),C:=x34.High.C}:Version)}:Term)))] (zD 3 (jT (kk:=.i64) 61 102 7 0 Term.enc (.tmp 52) (.tmp 53) h35) (zGT 6 (zIb (b:=({Name:=x34.Name,Low:=x34.Low,High:=({A:=x34.High.A,B:=w64 ((w64 ((w64 ((w64 ((w64 (s20.2.1+1))+1))+1))+1))+1),C:=x34.High.C}:Version)}:Term)) 2 7 0 5 Term.enc (iv (w64 ((w64 ((w64 ((w64 ((w64 (s20.2.1+1))+1))+1))+1))+1))) (.tmp 57) (.tmp 54) h35 rfl) zB)) ?_
  refine zFr (σ':=St.mk' [(0,rr 0 ((((((s20.1.set s20.2.2.toNat ({Name:=x22,Low:=x24.Low,High:=x24.High}:Term)).set s20.2.2.toNat ({Name:=x26.Name,Low:=({A:=w64 (s20.2.1+1),B:=x26.Low.B,C:=x26.Low.C}:Version),High:=x26.High}:Term)).set s20.2.2.toNat ({Name:=x28.Name,Low:=({A:=x28.Low.A,B:=w64 ((w64 (s20.2.1+1))+1),C:=x28.Low.C}:Version),High:=x28.High}:Term)).set s20.2.2.toNat ({Name:=x30.Name,Low:=({A:=x30.Low.A,B:=x30.Low.B,C:=w64 ((w64 ((w64 (s20.2.1+1))+1))+1)}:Version),High:=x30.High}:Term)).set s20.2.2.toNat ({Name:=x32.Name,Low:=x32.Low,High:=({A:=w64 ((w64 ((w64 ((w64 (s20.2.1+1))+1))+1))+1),B:=x32.High.B,C:=x32.High.C}:Version)}:Term)).set s20.2.2.toNat ({Name:=x34.Name,Low:=x34.Low,High:=({A:=x34.High.A,B:=w64 ((w64 ((w64 ((w64 ((w64 (s20.2.1+1))+1))+1))+1))+1),C:=x34.High.C}:Version)}:Term))),(1,iv (w64 ((w64 ((w64 ((w64 ((w64 (s20.2.1+1))+1))+1))+1))+1))),(5,iv s20.2.2)] [(0,rE 7 Term.enc ((((((s20.1.set s20.2.2.toNat ({Name:=x22,Low:=x24.Low,High:=x24.High}:Term)).set s20.2.2.toNat ({Name:=x26.Name,Low:=({A:=w64 (s20.2.1+1),B:=x26.Low.B,C:=x26.Low.C}:Version),High:=x26.High}:Term)).set s20.2.2.toNat ({Name:=x28.Name,Low:=({A:=x28.Low.A,B:=w64 ((w64 (s20.2.1+1))+1),C:=x28.Low.C}:Version),High:=x28.High}:Term)).set s20.2.2.toNat ({Name:=x30.Name,Low:=({A:=x30.Low.A,B:=x30.Low.B,C:=w64 ((w64 ((w64 (s20.2.1+1))+1))+1)}:Version),High:=x30.High}:Term)).set s20.2.2.toNat ({Name:=x32.Name,Low:=x32.Low,High:=({A:=w64 ((w64 ((w64 ((w64 (s20.2.1+1))+1))+1))+1),B:=x32.High.B,C:=x32.High.C}:Version)}:Term)).set s20.2.2.toNat ({Name:=x34.Name,Low:=x34.Low,High:=({A:=x34.High.A,B:=w64 ((w64 ((w64 ((w64 ((w64 (s20.2.1+1))+1))+1))+1))+1),C:=x34.High.C}:Version)}:Term)))]) (by simp only [rr,List.length_set]) ?_
  refine J_d 1724414 [] [1] [(1,iv (w64 ((w64 ((w64 ((w64 ((w64 ((w64 (s20.2.1+1))+1))+1))+1))+1))+1)))] [] [] zB ?_
  refine zA (fun x36 h37=>?_)
  refine J_g 3448830 [] [(0,rr 0 ((((((s20.1.set s20.2.2.toNat ({Name:=x22,Low:=x24.Low,High:=x24.High}:Term)).set s20.2.2.toNat ({Name:=x26.Name,Low:=({A:=w64 (s20.2.1+1),B:=x26.Low.B,C:=x26.Low.C}:Version),High:=x26.High}:Term)).set s20.2.2.toNat ({Name:=x28.Name,Low:=({A:=x28.Low.A,B:=w64 ((w64 (s20.2.1+1))+1),C:=x28.Low.C}:Version),High:=x28.High}:Term)).set s20.2.2.toNat ({Name:=x30.Name,Low:=({A:=x30.Low.A,B:=x30.Low.B,C:=w64 ((w64 ((w64 (s20.2.1+1))+1))+1)}:Version),High:=x30.High}:Term)).set s20.2.2.toNat ({Name:=x32.Name,Low:=x32.Low,High:=({A:=w64 ((w64 ((w64 ((w64 (s20.2.1+1))+1))+1))+1),B:=x32.High.B,C:=x32.High.C}:Version)}:Term)).set s20.2.2.toNat ({Name:=x34.Name,Low:=x34.Low,High:=({A:=x34.High.A,B:=w64 ((w64 ((w64 ((w64 ((w64 (s20.2.1+1))+1))+1))+1))+1),C:=x34.High.C}:Version)}:Term))),(1,iv (w64 ((w64 ((w64 ((w64 ((w64 ((w64 (s20.2.1+1))+1))+1))+1))+1))+1))),(5,iv s20.2.2)] [(0,rE 7 Term.enc (((((((s20.1.set s20.2.2.toNat ({Name:=x22,Low:=x24.Low,High:=x24.High}:Term)).set s20.2.2.toNat ({Name:=x26.Name,Low:=({A:=w64 (s20.2.1+1),B:=x26.Low.B,C:=x26.Low.C}:Version),High:=x26.High}:Term)).set s20.2.2.toNat ({Name:=x28.Name,Low:=({A:=x28.Low.A,B:=w64 ((w64 (s20.2.1+1))+1),C:=x28.Low.C}:Version),High:=x28.High}:Term)).set s20.2.2.toNat ({Name:=x30.Name,Low:=({A:=x30.Low.A,B:=x30.Low.B,C:=w64 ((w64 ((w64 (s20.2.1+1))+1))+1)}:Version),High:=x30.High}:Term)).set s20.2.2.toNat ({Name:=x32.Name,Low:=x32.Low,High:=({A:=w64 ((w64 ((w64 ((w64 (s20.2.1+1))+1))+1))+1),B:=x32.High.B,C:=x32.High.C}:Version)}:Term)).set s20.2.2.toNat ({Name:=x34.Name,Low:=x34.Low,High:=({A:=x34.High.A,B:=w64 ((w64 ((w64 ((w64 ((w64 (s20.2.1+1))+1))+1))+1))+1),C:=x34.High.C}:Version)}:Term)).set s20.2.2.toNat ({Name:=x36.Name,Low:=x36.Low,High:=({A:=x36.High.A,B:=x36.High.B,C:=w64 ((w64 ((w64 ((w64 ((w64 ((w64 (s20.2.1+1))+1))+1))+1))+1))+1)}:Version)}:Term)))] (zD 3 (jT (kk:=.i64) 61 102 7 0 Term.enc (.tmp 60) (.tmp 61) h37) (zGT 6 (zIb (b:=({Name:=x36.Name,Low:=x36.Low,High:=({A:=x36.High.A,B:=x36.High.B,C:=w64 ((w64 ((w64 ((w64 ((w64 ((w64 (s20.2.1+1))+1))+1))+1))+1))+1)}:Version)}:Term)) 2 7 0 6 Term.enc (iv (w64 ((w64 ((w64 ((w64 ((w64 ((w64 (s20.2.1+1))+1))+1))+1))+1))+1))) (.tmp 65) (.tmp 62) h37 rfl) zB)) ?_
  refine zFr (σ':=St.mk' [(0,rr 0 (((((((s20.1.set s20.2.2.toNat ({Name:=x22,Low:=x24.Low,High:=x24.High}:Term)).set s20.2.2.toNat ({Name:=x26.Name,Low:=({A:=w64 (s20.2.1+1),B:=x26.Low.B,C:=x26.Low.C}:Version),High:=x26.High}:Term)).set s20.2.2.toNat ({Name:=x28.Name,Low:=({A:=x28.Low.A,B:=w64 ((w64 (s20.2.1+1))+1),C:=x28.Low.C}:Version),High:=x28.High}:Term)).set s20.2.2.toNat ({Name:=x30.Name,Low:=({A:=x30.Low.A,B:=x30.Low.B,C:=w64 ((w64 ((w64 (s20.2.1+1))+1))+1)}:Version),High:=x30.High}:Term)).set s20.2.2.toNat ({Name:=x32.Name,Low:=x32.Low,High:=({A:=w64 ((w64 ((w64 ((w64 (s20.2.1+1))+1))+1))+1),B:=x32.High.B,C:=x32.High.C}:Version)}:Term)).set s20.2.2.toNat ({Name:=x34.Name,Low:=x34.Low,High:=({A:=x34.High.A,B:=w64 ((w64 ((w64 ((w64 ((w64 (s20.2.1+1))+1))+1))+1))+1),C:=x34.High.C}:Version)}:Term)).set s20.2.2.toNat ({Name:=x36.Name,Low:=x36.Low,High:=({A:=x36.High.A,B:=x36.High.B,C:=w64 ((w64 ((w64 ((w64 ((w64 ((w64 (s20.2.1+1))+1))+1))+1))+1))+1)}:Version)}:Term))),(1,iv (w64 ((w64 ((w64 ((w64 ((w64 ((w64 (s20.2.1+1))+1))+1))+1))+1))+1))),(5,iv s20.2.2)] [(0,rE 7 Term.enc (((((((s20.1.set s20.2.2.toNat ({Name:=x22,Low:=x24.Low,High:=x24.High}:Term)).set s20.2.2.toNat ({Name:=x26.Name,Low:=({A:=w64 (s20.2.1+1),B:=x26.Low.B,C:=x26.Low.C}:Version),High:=x26.High}:Term)).set s20.2.2.toNat ({Name:=x28.Name,Low:=({A:=x28.Low.A,B:=w64 ((w64 (s20.2.1+1))+1),C:=x28.Low.C}:Version),High:=x28.High}:Term)).set s20.2.2.toNat ({Name:=x30.Name,Low:=({A:=x30.Low.A,B:=x30.Low.B,C:=w64 ((w64 ((w64 (s20.2.1+1))+1))+1)}:Version),High:=x30.High}:Term)).set s20.2.2.toNat ({Name:=x32.Name,Low:=x32.Low,High:=({A:=w64 ((w64 ((w64 ((w64 (s20.2.1+1))+1))+1))+1),B:=x32.High.B,C:=x32.High.C}:Version)}:Term)).set s20.2.2.toNat ({Name:=x34.Name,Low:=x34.Low,High:=({A:=x34.High.A,B:=w64 ((w64 ((w64 ((w64 ((w64 (s20.2.1+1))+1))+1))+1))+1),C:=x34.High.C}:Version)}:Term)).set s20.2.2.toNat ({Name:=x36.Name,Low:=x36.Low,High:=({A:=x36.High.A,B:=x36.High.B,C:=w64 ((w64 ((w64 ((w64 ((w64 ((w64 (s20.2.1+1))+1))+1))+1))+1))+1)}:Version)}:Term)))]) (by simp only [rr,List.length_set]) ?_
  refine J_g 3448831 [] [(0,rr 0 (((((((s20.1.set s20.2.2.toNat ({Name:=x22,Low:=x24.Low,High:=x24.High}:Term)).set s20.2.2.toNat ({Name:=x26.Name,Low:=({A:=w64 (s20.2.1+1),B:=x26.Low.B,C:=x26.Low.C}:Version),High:=x26.High}:Term)).set s20.2.2.toNat ({Name:=x28.Name,Low:=({A:=x28.Low.A,B:=w64 ((w64 (s20.2.1+1))+1),C:=x28.Low.C}:Version),High:=x28.High}:Term)).set s20.2.2.toNat ({Name:=x30.Name,Low:=({A:=x30.Low.A,B:=x30.Low.B,C:=w64 ((w64 ((w64 (s20.2.1+1))+1))+1)}:Version),High:=x30.High}:Term)).set s20.2.2.toNat ({Name:=x32.Name,Low:=x32.Low,High:=({A:=w64 ((w64 ((w64 ((w64 (s20.2.1+1))+1))+1))+1),B:=x32.High.B,C:=x32.High.C}:Version)}:Term)).set s20.2.2.toNat ({Name:=x34.Name,Low:=x34.Low,High:=({A:=x34.High.A,B:=w64 ((w64 ((w64 ((w64 ((w64 (s20.2.1+1))+1))+1))+1))+1),C:=x34.High.C}:Version)}:Term)).set s20.2.2.toNat ({Name:=x36.Name,Low:=x36.Low,High:=({A:=x36.High.A,B:=x36.High.B,C:=w64 ((w64 ((w64 ((w64 ((w64 ((w64 (s20.2.1+1))+1))+1))+1))+1))+1)}:Version)}:Term))),(1,iv (w64 ((w64 ((w64 ((w64 ((w64 ((w64 ((w64 (s20.2.1+1))+1))+1))+1))+1))+1))+1))),(5,iv s20.2.2)] [(0,rE 7 Term.enc (((((((s20.1.set s20.2.2.toNat ({Name:=x22,Low:=x24.Low,High:=x24.High}:Term)).set s20.2.2.toNat ({Name:=x26.Name,Low:=({A:=w64 (s20.2.1+1),B:=x26.Low.B,C:=x26.Low.C}:Version),High:=x26.High}:Term)).set s20.2.2.toNat ({Name:=x28.Name,Low:=({A:=x28.Low.A,B:=w64 ((w64 (s20.2.1+1))+1),C:=x28.Low.C}:Version),High:=x28.High}:Term)).set s20.2.2.toNat ({Name:=x30.Name,Low:=({A:=x30.Low.A,B:=x30.Low.B,C:=w64 ((w64 ((w64 (s20.2.1+1))+1))+1)}:Version),High:=x30.High}:Term)).set s20.2.2.toNat ({Name:=x32.Name,Low:=x32.Low,High:=({A:=w64 ((w64 ((w64 ((w64 (s20.2.1+1))+1))+1))+1),B:=x32.High.B,C:=x32.High.C}:Version)}:Term)).set s20.2.2.toNat ({Name:=x34.Name,Low:=x34.Low,High:=({A:=x34.High.A,B:=w64 ((w64 ((w64 ((w64 ((w64 (s20.2.1+1))+1))+1))+1))+1),C:=x34.High.C}:Version)}:Term)).set s20.2.2.toNat ({Name:=x36.Name,Low:=x36.Low,High:=({A:=x36.High.A,B:=x36.High.B,C:=w64 ((w64 ((w64 ((w64 ((w64 ((w64 (s20.2.1+1))+1))+1))+1))+1))+1)}:Version)}:Term)))] zB ?_
  refine J_d 211 [] [5] [(5,iv (w64 (s20.2.2+1)))] [] [] zB ?_
  exact J_q (J_b (ih (((((((s20.1.set s20.2.2.toNat ({Name:=x22,Low:=x24.Low,High:=x24.High}:Term)).set s20.2.2.toNat ({Name:=x26.Name,Low:=({A:=w64 (s20.2.1+1),B:=x26.Low.B,C:=x26.Low.C}:Version),High:=x26.High}:Term)).set s20.2.2.toNat ({Name:=x28.Name,Low:=({A:=x28.Low.A,B:=w64 ((w64 (s20.2.1+1))+1),C:=x28.Low.C}:Version),High:=x28.High}:Term)).set s20.2.2.toNat ({Name:=x30.Name,Low:=({A:=x30.Low.A,B:=x30.Low.B,C:=w64 ((w64 ((w64 (s20.2.1+1))+1))+1)}:Version),High:=x30.High}:Term)).set s20.2.2.toNat ({Name:=x32.Name,Low:=x32.Low,High:=({A:=w64 ((w64 ((w64 ((w64 (s20.2.1+1))+1))+1))+1),B:=x32.High.B,C:=x32.High.C}:Version)}:Term)).set s20.2.2.toNat ({Name:=x34.Name,Low:=x34.Low,High:=({A:=x34.High.A,B:=w64 ((w64 ((w64 ((w64 ((w64 (s20.2.1+1))+1))+1))+1))+1),C:=x34.High.C}:Version)}:Term)).set s20.2.2.toNat ({Name:=x36.Name,Low:=x36.Low,High:=({A:=x36.High.A,B:=x36.High.B,C:=w64 ((w64 ((w64 ((w64 ((w64 ((w64 (s20.2.1+1))+1))+1))+1))+1))+1)}:Version)}:Term),w64 ((w64 ((w64 ((w64 ((w64 ((w64 ((w64 (s20.2.1+1))+1))+1))+1))+1))+1))+1),w64 (s20.2.2+1)))) rfl
 ·exact wD (hk (s20.1,s20.2.1)) rfl
theorem zA5.ok (a1:(List Term)) (a2:Int):Ok Tryz.prog 38 [rr 0 a1,iv a2] [rE 7 Term.enc a1] ((zA5 a1 a2).map fun r=>(iv r.1,[rE 7 Term.enc r.2])):=by
 refine zG c38 Tryz.f38 1 69 (fun q=>?_)
 unfold zA5
 refine J_g 2 [] [(0,rr 0 a1),(1,iv a2)] [(0,rE 7 Term.enc a1)] zB ?_
 refine J_d 12 [] [5] [(5,iv 0)] [] [] zB ?_
 refine zE2 (zC4.ok q _ (fun v38=>J_j ?_) (a1,a2,0))
 refine J_d 14 [] [1,4] [(4,iv v38.2)] [] [] zB ?_
 exact zQ rfl
noncomputable def c37:Code:=(Tryz.f37.body).getD .skip
theorem zBP.ok (q:Wd) (kn:((List (List Term))×Int)→Option (D×List Ent)) (hk:∀v:((List (List Term))×Int),J (q.g Tryz.prog 37 1 19) c37 (atI c37 7) (St.mk' [(1,iv v.2)] [(0,rE 1 (eSl true 7 Term.enc) v.1)]) (some v) kn):
  ∀s10:((List (List Term))×Int×Int),J (q.g Tryz.prog 37 1 19) c37 (atI c37 52) (St.mk' [(0,rr 0 s10.1),(1,iv s10.2.1),(5,iv s10.2.2)] [(0,rE 1 (eSl true 7 Term.enc) s10.1)]) (zBP s10) kn:=by
 refine tV (fun g ih s10=>?_)
 unfold zEH
 refine J_d 208 [] [9] [(9,bv (decide (s10.2.2< (s10.1.length:Int))))] [] [] zB ?_
 refine zF 9 (fun h11=>?_) (fun h11=>?_)
 ·refine zA (fun x12 h13=>?_)
  refine zF2 (ix:=s10.2.2) (enc:=(eSl true 7 Term.enc)) 0 0 1 h13 rfl rfl (by kernel_rfl) ?_
  refine zEA [(0,rr 0 s10.1),(1,iv s10.2.1),(5,iv s10.2.2),(9,bv true)] [(0,.lent 1 (s10.1.map (eSl true 7 Term.enc)) s10.2.2.toNat 0 1 x12.length),(1,rE 7 Term.enc x12)] (by kernel_rfl) ?_
  refine zA (fun x14 h15=>?_)
  refine J_g 420 [] [(0,rr 0 s10.1),(1,iv x14.1),(5,iv s10.2.2)] [(0,.lent 1 (s10.1.map (eSl true 7 Term.enc)) s10.2.2.toNat 0 1 x12.length),(1,rE 7 Term.enc x14.2)] (zD 2 (zIE (kk:=.i64) 60 61 1 0 (eSl true 7 Term.enc) (.tmp 12) (.tmp 13) s10.2.2.toNat 0 1 x12.length h13) (zD 3 (zIB 61 0 (.tmp 14) 1 (eSl true 7 Term.enc) s10.1 s10.2.2.toNat 0 1 x12.length) (zD 5 (vC («as»:=[rr 1 x12,iv s10.2.1]) [(.tmp 15),(.tmp 16)] [61,3] false [(1,rE 7 Term.enc x12)] [1] (.cons (.rf rfl) (.cons (.same rfl) (.nil))) (zA5.ok x12 s10.2.1) h15 (.same rfl rfl)) zB))) ?_
  refine zA (fun u16 h17=>?_)
  refine zGm (ix:=s10.2.2) (enc:=(eSl true 7 Term.enc)) (b:=x14.2) 0 0 1 h13 rfl rfl rfl rfl (zAO h17) (Nat.le_of_ble_eq_true rfl) ((List.length_map _).trans (zAO h17)) ?_
  refine zEA [(0,rr 0 s10.1),(1,iv x14.1),(5,iv s10.2.2)] [(0,rE 1 (eSl true 7 Term.enc) (s10.1.set s10.2.2.toNat x14.2))] (by kernel_rfl) ?_
  refine zFr (σ':=St.mk' [(0,rr 0 (s10.1.set s10.2.2.toNat x14.2)),(1,iv x14.1),(5,iv s10.2.2)] [(0,rE 1 (eSl true 7 Term.enc) (s10.1.set s10.2.2.toNat x14.2))]) (by simp only [rr,List.length_set]) ?_
  refine J_d 211 [] [5] [(5,iv (w64 (s10.2.2+1)))] [] [] zB ?_
  exact J_q (J_b (ih (s10.1.set s10.2.2.toNat x14.2,x14.1,w64 (s10.2.2+1)))) rfl
 ·exact wD (hk (s10.1,s10.2.1)) rfl
theorem zCv.ok (a1:(List (List Term))) (a2:Int):Ok Tryz.prog 37 [rr 0 a1,iv a2] [rE 1 (eSl true 7 Term.enc) a1] ((zCv a1 a2).map fun r=>(iv r.1,[rE 1 (eSl true 7 Term.enc) r.2])):=by
 refine zG c37 Tryz.f37 1 19 (fun q=>?_)
 unfold zCv
 refine J_g 2 [] [(0,rr 0 a1),(1,iv a2)] [(0,rE 1 (eSl true 7 Term.enc) a1)] zB ?_
 refine J_d 12 [] [5] [(5,iv 0)] [] [] zB ?_
 refine zE2 (zBP.ok q _ (fun v18=>J_j ?_) (a1,a2,0))
 refine J_d 14 [] [1,4] [(4,iv v18.2)] [] [] zB ?_
 exact zQ rfl
noncomputable def c17:Code:=(Tryz.f17.body).getD .skip
theorem zCB.ok (q:Wd) (kn:((List Pack)×Int)→Option (D×List Ent)) (hk:∀v:((List Pack)×Int),J (q.g Tryz.prog 17 1 73) c17 (atI c17 7) (St.mk' [(1,iv v.2)] [(0,rE 8 (Pack.enc true) v.1)]) (some v) kn):
  ∀s34:((List Pack)×Int×Int),J (q.g Tryz.prog 17 1 73) c17 (atI c17 52) (St.mk' [(0,rr 0 s34.1),(1,iv s34.2.1),(5,iv s34.2.2)] [(0,rE 8 (Pack.enc true) s34.1)]) (zCB s34) kn:=by
 refine tV (fun g ih s34=>?_)
 unfold zEM
 refine J_d 208 [] [9] [(9,bv (decide (s34.2.2< (s34.1.length:Int))))] [] [] zB ?_
 refine zF 9 (fun h35=>?_) (fun h35=>?_)
 ·refine zA (fun x36 h37=>?_)
  refine zA (fun x38 h39=>?_)
  refine J_g 840 [] [(0,rr 0 s34.1),(1,iv s34.2.1),(5,iv s34.2.2)] [(0,rE 8 (Pack.enc true) (s34.1.set s34.2.2.toNat ({Name:=x36,Version:=x38.Version,Size:=x38.Size,Provides:=x38.Provides,Needs:=x38.Needs,Bars:=x38.Bars}:Pack)))] (zD 3 (vG [(.tmp 14)] [3] (jG.ok s34.2.1) h37) (zD 4 (jT (kk:=.i64) 28 63 8 0 (Pack.enc true) (.tmp 12) (.tmp 13) h39) (zGT 6 (zIb (b:=({Name:=x36,Version:=x38.Version,Size:=x38.Size,Provides:=x38.Provides,Needs:=x38.Needs,Bars:=x38.Bars}:Pack)) 9 8 0 0 (Pack.enc true) (sv x36) (.tmp 17) (.tmp 15) h39 rfl) zB))) ?_
  refine zFr (σ':=St.mk' [(0,rr 0 (s34.1.set s34.2.2.toNat ({Name:=x36,Version:=x38.Version,Size:=x38.Size,Provides:=x38.Provides,Needs:=x38.Needs,Bars:=x38.Bars}:Pack))),(1,iv s34.2.1),(5,iv s34.2.2)] [(0,rE 8 (Pack.enc true) (s34.1.set s34.2.2.toNat ({Name:=x36,Version:=x38.Version,Size:=x38.Size,Provides:=x38.Provides,Needs:=x38.Needs,Bars:=x38.Bars}:Pack)))]) (by simp only [rr,List.length_set]) ?_
  refine J_d 1682 [] [1] [(1,iv (w64 (s34.2.1+1)))] [] [] zB ?_
  refine zA (fun x40 h41=>?_)
  refine J_g 3366 [] [(0,rr 0 (s34.1.set s34.2.2.toNat ({Name:=x36,Version:=x38.Version,Size:=x38.Size,Provides:=x38.Provides,Needs:=x38.Needs,Bars:=x38.Bars}:Pack))),(1,iv (w64 (s34.2.1+1))),(5,iv s34.2.2)] [(0,rE 8 (Pack.enc true) ((s34.1.set s34.2.2.toNat ({Name:=x36,Version:=x38.Version,Size:=x38.Size,Provides:=x38.Provides,Needs:=x38.Needs,Bars:=x38.Bars}:Pack)).set s34.2.2.toNat ({Name:=x40.Name,Version:=({A:=w64 (s34.2.1+1),B:=x40.Version.B,C:=x40.Version.C}:Version),Size:=x40.Size,Provides:=x40.Provides,Needs:=x40.Needs,Bars:=x40.Bars}:Pack)))] (zD 3 (jT (kk:=.i64) 28 63 8 0 (Pack.enc true) (.tmp 20) (.tmp 21) h41) (zGT 6 (zIb (b:=({Name:=x40.Name,Version:=({A:=w64 (s34.2.1+1),B:=x40.Version.B,C:=x40.Version.C}:Version),Size:=x40.Size,Provides:=x40.Provides,Needs:=x40.Needs,Bars:=x40.Bars}:Pack)) 2 8 0 1 (Pack.enc true) (iv (w64 (s34.2.1+1))) (.tmp 25) (.tmp 22) h41 rfl) zB)) ?_
  refine zFr (σ':=St.mk' [(0,rr 0 ((s34.1.set s34.2.2.toNat ({Name:=x36,Version:=x38.Version,Size:=x38.Size,Provides:=x38.Provides,Needs:=x38.Needs,Bars:=x38.Bars}:Pack)).set s34.2.2.toNat ({Name:=x40.Name,Version:=({A:=w64 (s34.2.1+1),B:=x40.Version.B,C:=x40.Version.C}:Version),Size:=x40.Size,Provides:=x40.Provides,Needs:=x40.Needs,Bars:=x40.Bars}:Pack))),(1,iv (w64 (s34.2.1+1))),(5,iv s34.2.2)] [(0,rE 8 (Pack.enc true) ((s34.1.set s34.2.2.toNat ({Name:=x36,Version:=x38.Version,Size:=x38.Size,Provides:=x38.Provides,Needs:=x38.Needs,Bars:=x38.Bars}:Pack)).set s34.2.2.toNat ({Name:=x40.Name,Version:=({A:=w64 (s34.2.1+1),B:=x40.Version.B,C:=x40.Version.C}:Version),Size:=x40.Size,Provides:=x40.Provides,Needs:=x40.Needs,Bars:=x40.Bars}:Pack)))]) (by simp only [rr,List.length_set]) ?_
  refine J_d 6734 [] [1] [(1,iv (w64 ((w64 (s34.2.1+1))+1)))] [] [] zB ?_
  refine zA (fun x42 h43=>?_)
  refine J_g 13470 [] [(0,rr 0 ((s34.1.set s34.2.2.toNat ({Name:=x36,Version:=x38.Version,Size:=x38.Size,Provides:=x38.Provides,Needs:=x38.Needs,Bars:=x38.Bars}:Pack)).set s34.2.2.toNat ({Name:=x40.Name,Version:=({A:=w64 (s34.2.1+1),B:=x40.Version.B,C:=x40.Version.C}:Version),Size:=x40.Size,Provides:=x40.Provides,Needs:=x40.Needs,Bars:=x40.Bars}:Pack))),(1,iv (w64 ((w64 (s34.2.1+1))+1))),(5,iv s34.2.2)] [(0,rE 8 (Pack.enc true) (((s34.1.set s34.2.2.toNat ({Name:=x36,Version:=x38.Version,Size:=x38.Size,Provides:=x38.Provides,Needs:=x38.Needs,Bars:=x38.Bars}:Pack)).set s34.2.2.toNat ({Name:=x40.Name,Version:=({A:=w64 (s34.2.1+1),B:=x40.Version.B,C:=x40.Version.C}:Version),Size:=x40.Size,Provides:=x40.Provides,Needs:=x40.Needs,Bars:=x40.Bars}:Pack)).set s34.2.2.toNat ({Name:=x42.Name,Version:=({A:=x42.Version.A,B:=w64 ((w64 (s34.2.1+1))+1),C:=x42.Version.C}:Version),Size:=x42.Size,Provides:=x42.Provides,Needs:=x42.Needs,Bars:=x42.Bars}:Pack)))] (zD 3 (jT (kk:=.i64) 28 63 8 0 (Pack.enc true) (.tmp 28) (.tmp 29) h43) (zGT 6 (zIb (b:=({Name:=x42.Name,Version:=({A:=x42.Version.A,B:=w64 ((w64 (s34.2.1+1))+1),C:=x42.Version.C}:Version),Size:=x42.Size,Provides:=x42.Provides,Needs:=x42.Needs,Bars:=x42.Bars}:Pack)) 2 8 0 2 (Pack.enc true) (iv (w64 ((w64 (s34.2.1+1))+1))) (.tmp 33) (.tmp 30) h43 rfl) zB)) ?_
  refine zFr (σ':=St.mk' [(0,rr 0 (((s34.1.set s34.2.2.toNat ({Name:=x36,Version:=x38.Version,Size:=x38.Size,Provides:=x38.Provides,Needs:=x38.Needs,Bars:=x38.Bars}:Pack)).set s34.2.2.toNat ({Name:=x40.Name,Version:=({A:=w64 (s34.2.1+1),B:=x40.Version.B,C:=x40.Version.C}:Version),Size:=x40.Size,Provides:=x40.Provides,Needs:=x40.Needs,Bars:=x40.Bars}:Pack)).set s34.2.2.toNat ({Name:=x42.Name,Version:=({A:=x42.Version.A,B:=w64 ((w64 (s34.2.1+1))+1),C:=x42.Version.C}:Version),Size:=x42.Size,Provides:=x42.Provides,Needs:=x42.Needs,Bars:=x42.Bars}:Pack))),(1,iv (w64 ((w64 (s34.2.1+1))+1))),(5,iv s34.2.2)] [(0,rE 8 (Pack.enc true) (((s34.1.set s34.2.2.toNat ({Name:=x36,Version:=x38.Version,Size:=x38.Size,Provides:=x38.Provides,Needs:=x38.Needs,Bars:=x38.Bars}:Pack)).set s34.2.2.toNat ({Name:=x40.Name,Version:=({A:=w64 (s34.2.1+1),B:=x40.Version.B,C:=x40.Version.C}:Version),Size:=x40.Size,Provides:=x40.Provides,Needs:=x40.Needs,Bars:=x40.Bars}:Pack)).set s34.2.2.toNat ({Name:=x42.Name,Version:=({A:=x42.Version.A,B:=w64 ((w64 (s34.2.1+1))+1),C:=x42.Version.C}:Version),Size:=x42.Size,Provides:=x42.Provides,Needs:=x42.Needs,Bars:=x42.Bars}:Pack)))]) (by simp only [rr,List.length_set]) ?_
  refine J_d 26942 [] [1] [(1,iv (w64 ((w64 ((w64 (s34.2.1+1))+1))+1)))] [] [] zB ?_
  refine zA (fun x44 h45=>?_)
  refine J_g 53886 [] [(0,rr 0 (((s34.1.set s34.2.2.toNat ({Name:=x36,Version:=x38.Version,Size:=x38.Size,Provides:=x38.Provides,Needs:=x38.Needs,Bars:=x38.Bars}:Pack)).set s34.2.2.toNat ({Name:=x40.Name,Version:=({A:=w64 (s34.2.1+1),B:=x40.Version.B,C:=x40.Version.C}:Version),Size:=x40.Size,Provides:=x40.Provides,Needs:=x40.Needs,Bars:=x40.Bars}:Pack)).set s34.2.2.toNat ({Name:=x42.Name,Version:=({A:=x42.Version.A,B:=w64 ((w64 (s34.2.1+1))+1),C:=x42.Version.C}:Version),Size:=x42.Size,Provides:=x42.Provides,Needs:=x42.Needs,Bars:=x42.Bars}:Pack))),(1,iv (w64 ((w64 ((w64 (s34.2.1+1))+1))+1))),(5,iv s34.2.2)] [(0,rE 8 (Pack.enc true) ((((s34.1.set s34.2.2.toNat ({Name:=x36,Version:=x38.Version,Size:=x38.Size,Provides:=x38.Provides,Needs:=x38.Needs,Bars:=x38.Bars}:Pack)).set s34.2.2.toNat ({Name:=x40.Name,Version:=({A:=w64 (s34.2.1+1),B:=x40.Version.B,C:=x40.Version.C}:Version),Size:=x40.Size,Provides:=x40.Provides,Needs:=x40.Needs,Bars:=x40.Bars}:Pack)).set s34.2.2.toNat ({Name:=x42.Name,Version:=({A:=x42.Version.A,B:=w64 ((w64 (s34.2.1+1))+1),C:=x42.Version.C}:Version),Size:=x42.Size,Provides:=x42.Provides,Needs:=x42.Needs,Bars:=x42.Bars}:Pack)).set s34.2.2.toNat ({Name:=x44.Name,Version:=({A:=x44.Version.A,B:=x44.Version.B,C:=w64 ((w64 ((w64 (s34.2.1+1))+1))+1)}:Version),Size:=x44.Size,Provides:=x44.Provides,Needs:=x44.Needs,Bars:=x44.Bars}:Pack)))] (zD 3 (jT (kk:=.i64) 28 63 8 0 (Pack.enc true) (.tmp 36) (.tmp 37) h45) (zGT 6 (zIb (b:=({Name:=x44.Name,Version:=({A:=x44.Version.A,B:=x44.Version.B,C:=w64 ((w64 ((w64 (s34.2.1+1))+1))+1)}:Version),Size:=x44.Size,Provides:=x44.Provides,Needs:=x44.Needs,Bars:=x44.Bars}:Pack)) 2 8 0 3 (Pack.enc true) (iv (w64 ((w64 ((w64 (s34.2.1+1))+1))+1))) (.tmp 41) (.tmp 38) h45 rfl) zB)) ?_
  refine zFr (σ':=St.mk' [(0,rr 0 ((((s34.1.set s34.2.2.toNat ({Name:=x36,Version:=x38.Version,Size:=x38.Size,Provides:=x38.Provides,Needs:=x38.Needs,Bars:=x38.Bars}:Pack)).set s34.2.2.toNat ({Name:=x40.Name,Version:=({A:=w64 (s34.2.1+1),B:=x40.Version.B,C:=x40.Version.C}:Version),Size:=x40.Size,Provides:=x40.Provides,Needs:=x40.Needs,Bars:=x40.Bars}:Pack)).set s34.2.2.toNat ({Name:=x42.Name,Version:=({A:=x42.Version.A,B:=w64 ((w64 (s34.2.1+1))+1),C:=x42.Version.C}:Version),Size:=x42.Size,Provides:=x42.Provides,Needs:=x42.Needs,Bars:=x42.Bars}:Pack)).set s34.2.2.toNat ({Name:=x44.Name,Version:=({A:=x44.Version.A,B:=x44.Version.B,C:=w64 ((w64 ((w64 (s34.2.1+1))+1))+1)}:Version),Size:=x44.Size,Provides:=x44.Provides,Needs:=x44.Needs,Bars:=x44.Bars}:Pack))),(1,iv (w64 ((w64 ((w64 (s34.2.1+1))+1))+1))),(5,iv s34.2.2)] [(0,rE 8 (Pack.enc true) ((((s34.1.set s34.2.2.toNat ({Name:=x36,Version:=x38.Version,Size:=x38.Size,Provides:=x38.Provides,Needs:=x38.Needs,Bars:=x38.Bars}:Pack)).set s34.2.2.toNat ({Name:=x40.Name,Version:=({A:=w64 (s34.2.1+1),B:=x40.Version.B,C:=x40.Version.C}:Version),Size:=x40.Size,Provides:=x40.Provides,Needs:=x40.Needs,Bars:=x40.Bars}:Pack)).set s34.2.2.toNat ({Name:=x42.Name,Version:=({A:=x42.Version.A,B:=w64 ((w64 (s34.2.1+1))+1),C:=x42.Version.C}:Version),Size:=x42.Size,Provides:=x42.Provides,Needs:=x42.Needs,Bars:=x42.Bars}:Pack)).set s34.2.2.toNat ({Name:=x44.Name,Version:=({A:=x44.Version.A,B:=x44.Version.B,C:=w64 ((w64 ((w64 (s34.2.1+1))+1))+1)}:Version),Size:=x44.Size,Provides:=x44.Provides,Needs:=x44.Needs,Bars:=x44.Bars}:Pack)))]) (by simp only [rr,List.length_set]) ?_
  refine J_d 107774 [] [1] [(1,iv (w64 ((w64 ((w64 ((w64 (s34.2.1+1))+1))+1))+1)))] [] [] zB ?_
  refine zA (fun x46 h47=>?_)
  refine J_g 215550 [] [(0,rr 0 ((((s34.1.set s34.2.2.toNat ({Name:=x36,Version:=x38.Version,Size:=x38.Size,Provides:=x38.Provides,Needs:=x38.Needs,Bars:=x38.Bars}:Pack)).set s34.2.2.toNat ({Name:=x40.Name,Version:=({A:=w64 (s34.2.1+1),B:=x40.Version.B,C:=x40.Version.C}:Version),Size:=x40.Size,Provides:=x40.Provides,Needs:=x40.Needs,Bars:=x40.Bars}:Pack)).set s34.2.2.toNat ({Name:=x42.Name,Version:=({A:=x42.Version.A,B:=w64 ((w64 (s34.2.1+1))+1),C:=x42.Version.C}:Version),Size:=x42.Size,Provides:=x42.Provides,Needs:=x42.Needs,Bars:=x42.Bars}:Pack)).set s34.2.2.toNat ({Name:=x44.Name,Version:=({A:=x44.Version.A,B:=x44.Version.B,C:=w64 ((w64 ((w64 (s34.2.1+1))+1))+1)}:Version),Size:=x44.Size,Provides:=x44.Provides,Needs:=x44.Needs,Bars:=x44.Bars}:Pack))),(1,iv (w64 ((w64 ((w64 ((w64 (s34.2.1+1))+1))+1))+1))),(5,iv s34.2.2)] [(0,rE 8 (Pack.enc true) (((((s34.1.set s34.2.2.toNat ({Name:=x36,Version:=x38.Version,Size:=x38.Size,Provides:=x38.Provides,Needs:=x38.Needs,Bars:=x38.Bars}:Pack)).set s34.2.2.toNat ({Name:=x40.Name,Version:=({A:=w64 (s34.2.1+1),B:=x40.Version.B,C:=x40.Version.C}:Version),Size:=x40.Size,Provides:=x40.Provides,Needs:=x40.Needs,Bars:=x40.Bars}:Pack)).set s34.2.2.toNat ({Name:=x42.Name,Version:=({A:=x42.Version.A,B:=w64 ((w64 (s34.2.1+1))+1),C:=x42.Version.C}:Version),Size:=x42.Size,Provides:=x42.Provides,Needs:=x42.Needs,Bars:=x42.Bars}:Pack)).set s34.2.2.toNat ({Name:=x44.Name,Version:=({A:=x44.Version.A,B:=x44.Version.B,C:=w64 ((w64 ((w64 (s34.2.1+1))+1))+1)}:Version),Size:=x44.Size,Provides:=x44.Provides,Needs:=x44.Needs,Bars:=x44.Bars}:Pack)).set s34.2.2.toNat ({Name:=x46.Name,Version:=x46.Version,Size:=w64 ((w64 ((w64 ((w64 (s34.2.1+1))+1))+1))+1),Provides:=x46.Provides,Needs:=x46.Needs,Bars:=x46.Bars}:Pack)))] (zD 3 (jT (kk:=.i64) 28 63 8 0 (Pack.enc true) (.tmp 44) (.tmp 45) h47) (zGT 5 (zIb (b:=({Name:=x46.Name,Version:=x46.Version,Size:=w64 ((w64 ((w64 ((w64 (s34.2.1+1))+1))+1))+1),Provides:=x46.Provides,Needs:=x46.Needs,Bars:=x46.Bars}:Pack)) 2 8 0 4 (Pack.enc true) (iv (w64 ((w64 ((w64 ((w64 (s34.2.1+1))+1))+1))+1))) (.tmp 48) (.tmp 46) h47 rfl) zB)) ?_
  refine zFr (σ':=St.mk' [(0,rr 0 (((((s34.1.set s34.2.2.toNat ({Name:=x36,Version:=x38.Version,Size:=x38.Size,Provides:=x38.Provides,Needs:=x38.Needs,Bars:=x38.Bars}:Pack)).set s34.2.2.toNat ({Name:=x40.Name,Version:=({A:=w64 (s34.2.1+1),B:=x40.Version.B,C:=x40.Version.C}:Version),Size:=x40.Size,Provides:=x40.Provides,Needs:=x40.Needs,Bars:=x40.Bars}:Pack)).set s34.2.2.toNat ({Name:=x42.Name,Version:=({A:=x42.Version.A,B:=w64 ((w64 (s34.2.1+1))+1),C:=x42.Version.C}:Version),Size:=x42.Size,Provides:=x42.Provides,Needs:=x42.Needs,Bars:=x42.Bars}:Pack)).set s34.2.2.toNat ({Name:=x44.Name,Version:=({A:=x44.Version.A,B:=x44.Version.B,C:=w64 ((w64 ((w64 (s34.2.1+1))+1))+1)}:Version),Size:=x44.Size,Provides:=x44.Provides,Needs:=x44.Needs,Bars:=x44.Bars}:Pack)).set s34.2.2.toNat ({Name:=x46.Name,Version:=x46.Version,Size:=w64 ((w64 ((w64 ((w64 (s34.2.1+1))+1))+1))+1),Provides:=x46.Provides,Needs:=x46.Needs,Bars:=x46.Bars}:Pack))),(1,iv (w64 ((w64 ((w64 ((w64 (s34.2.1+1))+1))+1))+1))),(5,iv s34.2.2)] [(0,rE 8 (Pack.enc true) (((((s34.1.set s34.2.2.toNat ({Name:=x36,Version:=x38.Version,Size:=x38.Size,Provides:=x38.Provides,Needs:=x38.Needs,Bars:=x38.Bars}:Pack)).set s34.2.2.toNat ({Name:=x40.Name,Version:=({A:=w64 (s34.2.1+1),B:=x40.Version.B,C:=x40.Version.C}:Version),Size:=x40.Size,Provides:=x40.Provides,Needs:=x40.Needs,Bars:=x40.Bars}:Pack)).set s34.2.2.toNat ({Name:=x42.Name,Version:=({A:=x42.Version.A,B:=w64 ((w64 (s34.2.1+1))+1),C:=x42.Version.C}:Version),Size:=x42.Size,Provides:=x42.Provides,Needs:=x42.Needs,Bars:=x42.Bars}:Pack)).set s34.2.2.toNat ({Name:=x44.Name,Version:=({A:=x44.Version.A,B:=x44.Version.B,C:=w64 ((w64 ((w64 (s34.2.1+1))+1))+1)}:Version),Size:=x44.Size,Provides:=x44.Provides,Needs:=x44.Needs,Bars:=x44.Bars}:Pack)).set s34.2.2.toNat ({Name:=x46.Name,Version:=x46.Version,Size:=w64 ((w64 ((w64 ((w64 (s34.2.1+1))+1))+1))+1),Provides:=x46.Provides,Needs:=x46.Needs,Bars:=x46.Bars}:Pack)))]) (by simp only [rr,List.length_set]) ?_
  refine J_g 431102 [] [(0,rr 0 (((((s34.1.set s34.2.2.toNat ({Name:=x36,Version:=x38.Version,Size:=x38.Size,Provides:=x38.Provides,Needs:=x38.Needs,Bars:=x38.Bars}:Pack)).set s34.2.2.toNat ({Name:=x40.Name,Version:=({A:=w64 (s34.2.1+1),B:=x40.Version.B,C:=x40.Version.C}:Version),Size:=x40.Size,Provides:=x40.Provides,Needs:=x40.Needs,Bars:=x40.Bars}:Pack)).set s34.2.2.toNat ({Name:=x42.Name,Version:=({A:=x42.Version.A,B:=w64 ((w64 (s34.2.1+1))+1),C:=x42.Version.C}:Version),Size:=x42.Size,Provides:=x42.Provides,Needs:=x42.Needs,Bars:=x42.Bars}:Pack)).set s34.2.2.toNat ({Name:=x44.Name,Version:=({A:=x44.Version.A,B:=x44.Version.B,C:=w64 ((w64 ((w64 (s34.2.1+1))+1))+1)}:Version),Size:=x44.Size,Provides:=x44.Provides,Needs:=x44.Needs,Bars:=x44.Bars}:Pack)).set s34.2.2.toNat ({Name:=x46.Name,Version:=x46.Version,Size:=w64 ((w64 ((w64 ((w64 (s34.2.1+1))+1))+1))+1),Provides:=x46.Provides,Needs:=x46.Needs,Bars:=x46.Bars}:Pack))),(1,iv (w64 ((w64 ((w64 ((w64 ((w64 (s34.2.1+1))+1))+1))+1))+1))),(5,iv s34.2.2)] [(0,rE 8 (Pack.enc true) (((((s34.1.set s34.2.2.toNat ({Name:=x36,Version:=x38.Version,Size:=x38.Size,Provides:=x38.Provides,Needs:=x38.Needs,Bars:=x38.Bars}:Pack)).set s34.2.2.toNat ({Name:=x40.Name,Version:=({A:=w64 (s34.2.1+1),B:=x40.Version.B,C:=x40.Version.C}:Version),Size:=x40.Size,Provides:=x40.Provides,Needs:=x40.Needs,Bars:=x40.Bars}:Pack)).set s34.2.2.toNat ({Name:=x42.Name,Version:=({A:=x42.Version.A,B:=w64 ((w64 (s34.2.1+1))+1),C:=x42.Version.C}:Version),Size:=x42.Size,Provides:=x42.Provides,Needs:=x42.Needs,Bars:=x42.Bars}:Pack)).set s34.2.2.toNat ({Name:=x44.Name,Version:=({A:=x44.Version.A,B:=x44.Version.B,C:=w64 ((w64 ((w64 (s34.2.1+1))+1))+1)}:Version),Size:=x44.Size,Provides:=x44.Provides,Needs:=x44.Needs,Bars:=x44.Bars}:Pack)).set s34.2.2.toNat ({Name:=x46.Name,Version:=x46.Version,Size:=w64 ((w64 ((w64 ((w64 (s34.2.1+1))+1))+1))+1),Provides:=x46.Provides,Needs:=x46.Needs,Bars:=x46.Bars}:Pack)))] zB ?_
  refine zA (fun x48 h49=>?_)
  refine zF2 (ix:=s34.2.2) (enc:=(Pack.enc true)) 0 5 1 h49 rfl rfl (by kernel_rfl) ?_
  refine zEA [(0,rr 0 (((((s34.1.set s34.2.2.toNat ({Name:=x36,Version:=x38.Version,Size:=x38.Size,Provides:=x38.Provides,Needs:=x38.Needs,Bars:=x38.Bars}:Pack)).set s34.2.2.toNat ({Name:=x40.Name,Version:=({A:=w64 (s34.2.1+1),B:=x40.Version.B,C:=x40.Version.C}:Version),Size:=x40.Size,Provides:=x40.Provides,Needs:=x40.Needs,Bars:=x40.Bars}:Pack)).set s34.2.2.toNat ({Name:=x42.Name,Version:=({A:=x42.Version.A,B:=w64 ((w64 (s34.2.1+1))+1),C:=x42.Version.C}:Version),Size:=x42.Size,Provides:=x42.Provides,Needs:=x42.Needs,Bars:=x42.Bars}:Pack)).set s34.2.2.toNat ({Name:=x44.Name,Version:=({A:=x44.Version.A,B:=x44.Version.B,C:=w64 ((w64 ((w64 (s34.2.1+1))+1))+1)}:Version),Size:=x44.Size,Provides:=x44.Provides,Needs:=x44.Needs,Bars:=x44.Bars}:Pack)).set s34.2.2.toNat ({Name:=x46.Name,Version:=x46.Version,Size:=w64 ((w64 ((w64 ((w64 (s34.2.1+1))+1))+1))+1),Provides:=x46.Provides,Needs:=x46.Needs,Bars:=x46.Bars}:Pack))),(1,iv (w64 ((w64 ((w64 ((w64 ((w64 (s34.2.1+1))+1))+1))+1))+1))),(5,iv s34.2.2)] [(0,.lent 8 ((((((s34.1.set s34.2.2.toNat ({Name:=x36,Version:=x38.Version,Size:=x38.Size,Provides:=x38.Provides,Needs:=x38.Needs,Bars:=x38.Bars}:Pack)).set s34.2.2.toNat ({Name:=x40.Name,Version:=({A:=w64 (s34.2.1+1),B:=x40.Version.B,C:=x40.Version.C}:Version),Size:=x40.Size,Provides:=x40.Provides,Needs:=x40.Needs,Bars:=x40.Bars}:Pack)).set s34.2.2.toNat ({Name:=x42.Name,Version:=({A:=x42.Version.A,B:=w64 ((w64 (s34.2.1+1))+1),C:=x42.Version.C}:Version),Size:=x42.Size,Provides:=x42.Provides,Needs:=x42.Needs,Bars:=x42.Bars}:Pack)).set s34.2.2.toNat ({Name:=x44.Name,Version:=({A:=x44.Version.A,B:=x44.Version.B,C:=w64 ((w64 ((w64 (s34.2.1+1))+1))+1)}:Version),Size:=x44.Size,Provides:=x44.Provides,Needs:=x44.Needs,Bars:=x44.Bars}:Pack)).set s34.2.2.toNat ({Name:=x46.Name,Version:=x46.Version,Size:=w64 ((w64 ((w64 ((w64 (s34.2.1+1))+1))+1))+1),Provides:=x46.Provides,Needs:=x46.Needs,Bars:=x46.Bars}:Pack)).map (Pack.enc true)) s34.2.2.toNat 5 1 x48.Provides.length),(1,rE 1 eStr x48.Provides)] (by kernel_rfl) ?_
  refine zA (fun x50 h51=>?_)
  refine J_g 862206 [] [(0,rr 0 (((((s34.1.set s34.2.2.toNat ({Name:=x36,Version:=x38.Version,Size:=x38.Size,Provides:=x38.Provides,Needs:=x38.Needs,Bars:=x38.Bars}:Pack)).set s34.2.2.toNat ({Name:=x40.Name,Version:=({A:=w64 (s34.2.1+1),B:=x40.Version.B,C:=x40.Version.C}:Version),Size:=x40.Size,Provides:=x40.Provides,Needs:=x40.Needs,Bars:=x40.Bars}:Pack)).set s34.2.2.toNat ({Name:=x42.Name,Version:=({A:=x42.Version.A,B:=w64 ((w64 (s34.2.1+1))+1),C:=x42.Version.C}:Version),Size:=x42.Size,Provides:=x42.Provides,Needs:=x42.Needs,Bars:=x42.Bars}:Pack)).set s34.2.2.toNat ({Name:=x44.Name,Version:=({A:=x44.Version.A,B:=x44.Version.B,C:=w64 ((w64 ((w64 (s34.2.1+1))+1))+1)}:Version),Size:=x44.Size,Provides:=x44.Provides,Needs:=x44.Needs,Bars:=x44.Bars}:Pack)).set s34.2.2.toNat ({Name:=x46.Name,Version:=x46.Version,Size:=w64 ((w64 ((w64 ((w64 (s34.2.1+1))+1))+1))+1),Provides:=x46.Provides,Needs:=x46.Needs,Bars:=x46.Bars}:Pack))),(1,iv x50.1),(5,iv s34.2.2)] [(0,.lent 8 ((((((s34.1.set s34.2.2.toNat ({Name:=x36,Version:=x38.Version,Size:=x38.Size,Provides:=x38.Provides,Needs:=x38.Needs,Bars:=x38.Bars}:Pack)).set s34.2.2.toNat ({Name:=x40.Name,Version:=({A:=w64 (s34.2.1+1),B:=x40.Version.B,C:=x40.Version.C}:Version),Size:=x40.Size,Provides:=x40.Provides,Needs:=x40.Needs,Bars:=x40.Bars}:Pack)).set s34.2.2.toNat ({Name:=x42.Name,Version:=({A:=x42.Version.A,B:=w64 ((w64 (s34.2.1+1))+1),C:=x42.Version.C}:Version),Size:=x42.Size,Provides:=x42.Provides,Needs:=x42.Needs,Bars:=x42.Bars}:Pack)).set s34.2.2.toNat ({Name:=x44.Name,Version:=({A:=x44.Version.A,B:=x44.Version.B,C:=w64 ((w64 ((w64 (s34.2.1+1))+1))+1)}:Version),Size:=x44.Size,Provides:=x44.Provides,Needs:=x44.Needs,Bars:=x44.Bars}:Pack)).set s34.2.2.toNat ({Name:=x46.Name,Version:=x46.Version,Size:=w64 ((w64 ((w64 ((w64 (s34.2.1+1))+1))+1))+1),Provides:=x46.Provides,Needs:=x46.Needs,Bars:=x46.Bars}:Pack)).map (Pack.enc true)) s34.2.2.toNat 5 1 x48.Provides.length),(1,rE 1 eStr x50.2)] (zD 2 (zIE (kk:=.i64) 28 63 8 0 (Pack.enc true) (.tmp 51) (.tmp 52) s34.2.2.toNat 5 1 x48.Provides.length h49) (zD 4 (zIB 52 0 (.tmp 54) 8 (Pack.enc true) (((((s34.1.set s34.2.2.toNat ({Name:=x36,Version:=x38.Version,Size:=x38.Size,Provides:=x38.Provides,Needs:=x38.Needs,Bars:=x38.Bars}:Pack)).set s34.2.2.toNat ({Name:=x40.Name,Version:=({A:=w64 (s34.2.1+1),B:=x40.Version.B,C:=x40.Version.C}:Version),Size:=x40.Size,Provides:=x40.Provides,Needs:=x40.Needs,Bars:=x40.Bars}:Pack)).set s34.2.2.toNat ({Name:=x42.Name,Version:=({A:=x42.Version.A,B:=w64 ((w64 (s34.2.1+1))+1),C:=x42.Version.C}:Version),Size:=x42.Size,Provides:=x42.Provides,Needs:=x42.Needs,Bars:=x42.Bars}:Pack)).set s34.2.2.toNat ({Name:=x44.Name,Version:=({A:=x44.Version.A,B:=x44.Version.B,C:=w64 ((w64 ((w64 (s34.2.1+1))+1))+1)}:Version),Size:=x44.Size,Provides:=x44.Provides,Needs:=x44.Needs,Bars:=x44.Bars}:Pack)).set s34.2.2.toNat ({Name:=x46.Name,Version:=x46.Version,Size:=w64 ((w64 ((w64 ((w64 (s34.2.1+1))+1))+1))+1),Provides:=x46.Provides,Needs:=x46.Needs,Bars:=x46.Bars}:Pack)) s34.2.2.toNat 5 1 x48.Provides.length) (zD 6 (vC («as»:=[rr 1 x48.Provides,iv (w64 ((w64 ((w64 ((w64 ((w64 (s34.2.1+1))+1))+1))+1))+1))]) [(.tmp 55),(.tmp 56)] [52,3] false [(1,rE 1 eStr x48.Provides)] [1] (.cons (.rf rfl) (.cons (.same rfl) (.nil))) (jZ.ok x48.Provides (w64 ((w64 ((w64 ((w64 ((w64 (s34.2.1+1))+1))+1))+1))+1))) h51 (.same rfl rfl)) zB))) ?_
  refine zA (fun u52 h53=>?_)
  refine zGm (ix:=s34.2.2) (enc:=(Pack.enc true)) (b:=({Name:=x48.Name,Version:=x48.Version,Size:=x48.Size,Provides:=x50.2,Needs:=x48.Needs,Bars:=x48.Bars}:Pack)) 0 5 1 h49 rfl rfl rfl rfl (zAO h53) (Nat.le_of_ble_eq_true rfl) ((List.length_map _).trans (zAO h53)) ?_
  refine zEA [(0,rr 0 (((((s34.1.set s34.2.2.toNat ({Name:=x36,Version:=x38.Version,Size:=x38.Size,Provides:=x38.Provides,Needs:=x38.Needs,Bars:=x38.Bars}:Pack)).set s34.2.2.toNat ({Name:=x40.Name,Version:=({A:=w64 (s34.2.1+1),B:=x40.Version.B,C:=x40.Version.C}:Version),Size:=x40.Size,Provides:=x40.Provides,Needs:=x40.Needs,Bars:=x40.Bars}:Pack)).set s34.2.2.toNat ({Name:=x42.Name,Version:=({A:=x42.Version.A,B:=w64 ((w64 (s34.2.1+1))+1),C:=x42.Version.C}:Version),Size:=x42.Size,Provides:=x42.Provides,Needs:=x42.Needs,Bars:=x42.Bars}:Pack)).set s34.2.2.toNat ({Name:=x44.Name,Version:=({A:=x44.Version.A,B:=x44.Version.B,C:=w64 ((w64 ((w64 (s34.2.1+1))+1))+1)}:Version),Size:=x44.Size,Provides:=x44.Provides,Needs:=x44.Needs,Bars:=x44.Bars}:Pack)).set s34.2.2.toNat ({Name:=x46.Name,Version:=x46.Version,Size:=w64 ((w64 ((w64 ((w64 (s34.2.1+1))+1))+1))+1),Provides:=x46.Provides,Needs:=x46.Needs,Bars:=x46.Bars}:Pack))),(1,iv x50.1),(5,iv s34.2.2)] [(0,rE 8 (Pack.enc true) ((((((s34.1.set s34.2.2.toNat ({Name:=x36,Version:=x38.Version,Size:=x38.Size,Provides:=x38.Provides,Needs:=x38.Needs,Bars:=x38.Bars}:Pack)).set s34.2.2.toNat ({Name:=x40.Name,Version:=({A:=w64 (s34.2.1+1),B:=x40.Version.B,C:=x40.Version.C}:Version),Size:=x40.Size,Provides:=x40.Provides,Needs:=x40.Needs,Bars:=x40.Bars}:Pack)).set s34.2.2.toNat ({Name:=x42.Name,Version:=({A:=x42.Version.A,B:=w64 ((w64 (s34.2.1+1))+1),C:=x42.Version.C}:Version),Size:=x42.Size,Provides:=x42.Provides,Needs:=x42.Needs,Bars:=x42.Bars}:Pack)).set s34.2.2.toNat ({Name:=x44.Name,Version:=({A:=x44.Version.A,B:=x44.Version.B,C:=w64 ((w64 ((w64 (s34.2.1+1))+1))+1)}:Version),Size:=x44.Size,Provides:=x44.Provides,Needs:=x44.Needs,Bars:=x44.Bars}:Pack)).set s34.2.2.toNat ({Name:=x46.Name,Version:=x46.Version,Size:=w64 ((w64 ((w64 ((w64 (s34.2.1+1))+1))+1))+1),Provides:=x46.Provides,Needs:=x46.Needs,Bars:=x46.Bars}:Pack)).set s34.2.2.toNat ({Name:=x48.Name,Version:=x48.Version,Size:=x48.Size,Provides:=x50.2,Needs:=x48.Needs,Bars:=x48.Bars}:Pack)))] (by kernel_rfl) ?_
  refine zFr (σ':=St.mk' [(0,rr 0 ((((((s34.1.set s34.2.2.toNat ({Name:=x36,Version:=x38.Version,Size:=x38.Size,Provides:=x38.Provides,Needs:=x38.Needs,Bars:=x38.Bars}:Pack)).set s34.2.2.toNat ({Name:=x40.Name,Version:=({A:=w64 (s34.2.1+1),B:=x40.Version.B,C:=x40.Version.C}:Version),Size:=x40.Size,Provides:=x40.Provides,Needs:=x40.Needs,Bars:=x40.Bars}:Pack)).set s34.2.2.toNat ({Name:=x42.Name,Version:=({A:=x42.Version.A,B:=w64 ((w64 (s34.2.1+1))+1),C:=x42.Version.C}:Version),Size:=x42.Size,Provides:=x42.Provides,Needs:=x42.Needs,Bars:=x42.Bars}:Pack)).set s34.2.2.toNat ({Name:=x44.Name,Version:=({A:=x44.Version.A,B:=x44.Version.B,C:=w64 ((w64 ((w64 (s34.2.1+1))+1))+1)}:Version),Size:=x44.Size,Provides:=x44.Provides,Needs:=x44.Needs,Bars:=x44.Bars}:Pack)).set s34.2.2.toNat ({Name:=x46.Name,Version:=x46.Version,Size:=w64 ((w64 ((w64 ((w64 (s34.2.1+1))+1))+1))+1),Provides:=x46.Provides,Needs:=x46.Needs,Bars:=x46.Bars}:Pack)).set s34.2.2.toNat ({Name:=x48.Name,Version:=x48.Version,Size:=x48.Size,Provides:=x50.2,Needs:=x48.Needs,Bars:=x48.Bars}:Pack))),(1,iv x50.1),(5,iv s34.2.2)] [(0,rE 8 (Pack.enc true) ((((((s34.1.set s34.2.2.toNat ({Name:=x36,Version:=x38.Version,Size:=x38.Size,Provides:=x38.Provides,Needs:=x38.Needs,Bars:=x38.Bars}:Pack)).set s34.2.2.toNat ({Name:=x40.Name,Version:=({A:=w64 (s34.2.1+1),B:=x40.Version.B,C:=x40.Version.C}:Version),Size:=x40.Size,Provides:=x40.Provides,Needs:=x40.Needs,Bars:=x40.Bars}:Pack)).set s34.2.2.toNat ({Name:=x42.Name,Version:=({A:=x42.Version.A,B:=w64 ((w64 (s34.2.1+1))+1),C:=x42.Version.C}:Version),Size:=x42.Size,Provides:=x42.Provides,Needs:=x42.Needs,Bars:=x42.Bars}:Pack)).set s34.2.2.toNat ({Name:=x44.Name,Version:=({A:=x44.Version.A,B:=x44.Version.B,C:=w64 ((w64 ((w64 (s34.2.1+1))+1))+1)}:Version),Size:=x44.Size,Provides:=x44.Provides,Needs:=x44.Needs,Bars:=x44.Bars}:Pack)).set s34.2.2.toNat ({Name:=x46.Name,Version:=x46.Version,Size:=w64 ((w64 ((w64 ((w64 (s34.2.1+1))+1))+1))+1),Provides:=x46.Provides,Needs:=x46.Needs,Bars:=x46.Bars}:Pack)).set s34.2.2.toNat ({Name:=x48.Name,Version:=x48.Version,Size:=x48.Size,Provides:=x50.2,Needs:=x48.Needs,Bars:=x48.Bars}:Pack)))]) (by simp only [rr,List.length_set]) ?_
  refine zA (fun x54 h55=>?_)
  refine zF2 (ix:=s34.2.2) (enc:=(Pack.enc true)) 0 6 1 h55 rfl rfl (by kernel_rfl) ?_
  refine zEA [(0,rr 0 ((((((s34.1.set s34.2.2.toNat ({Name:=x36,Version:=x38.Version,Size:=x38.Size,Provides:=x38.Provides,Needs:=x38.Needs,Bars:=x38.Bars}:Pack)).set s34.2.2.toNat ({Name:=x40.Name,Version:=({A:=w64 (s34.2.1+1),B:=x40.Version.B,C:=x40.Version.C}:Version),Size:=x40.Size,Provides:=x40.Provides,Needs:=x40.Needs,Bars:=x40.Bars}:Pack)).set s34.2.2.toNat ({Name:=x42.Name,Version:=({A:=x42.Version.A,B:=w64 ((w64 (s34.2.1+1))+1),C:=x42.Version.C}:Version),Size:=x42.Size,Provides:=x42.Provides,Needs:=x42.Needs,Bars:=x42.Bars}:Pack)).set s34.2.2.toNat ({Name:=x44.Name,Version:=({A:=x44.Version.A,B:=x44.Version.B,C:=w64 ((w64 ((w64 (s34.2.1+1))+1))+1)}:Version),Size:=x44.Size,Provides:=x44.Provides,Needs:=x44.Needs,Bars:=x44.Bars}:Pack)).set s34.2.2.toNat ({Name:=x46.Name,Version:=x46.Version,Size:=w64 ((w64 ((w64 ((w64 (s34.2.1+1))+1))+1))+1),Provides:=x46.Provides,Needs:=x46.Needs,Bars:=x46.Bars}:Pack)).set s34.2.2.toNat ({Name:=x48.Name,Version:=x48.Version,Size:=x48.Size,Provides:=x50.2,Needs:=x48.Needs,Bars:=x48.Bars}:Pack))),(1,iv x50.1),(5,iv s34.2.2)] [(0,.lent 8 (((((((s34.1.set s34.2.2.toNat ({Name:=x36,Version:=x38.Version,Size:=x38.Size,Provides:=x38.Provides,Needs:=x38.Needs,Bars:=x38.Bars}:Pack)).set s34.2.2.toNat ({Name:=x40.Name,Version:=({A:=w64 (s34.2.1+1),B:=x40.Version.B,C:=x40.Version.C}:Version),Size:=x40.Size,Provides:=x40.Provides,Needs:=x40.Needs,Bars:=x40.Bars}:Pack)).set s34.2.2.toNat ({Name:=x42.Name,Version:=({A:=x42.Version.A,B:=w64 ((w64 (s34.2.1+1))+1),C:=x42.Version.C}:Version),Size:=x42.Size,Provides:=x42.Provides,Needs:=x42.Needs,Bars:=x42.Bars}:Pack)).set s34.2.2.toNat ({Name:=x44.Name,Version:=({A:=x44.Version.A,B:=x44.Version.B,C:=w64 ((w64 ((w64 (s34.2.1+1))+1))+1)}:Version),Size:=x44.Size,Provides:=x44.Provides,Needs:=x44.Needs,Bars:=x44.Bars}:Pack)).set s34.2.2.toNat ({Name:=x46.Name,Version:=x46.Version,Size:=w64 ((w64 ((w64 ((w64 (s34.2.1+1))+1))+1))+1),Provides:=x46.Provides,Needs:=x46.Needs,Bars:=x46.Bars}:Pack)).set s34.2.2.toNat ({Name:=x48.Name,Version:=x48.Version,Size:=x48.Size,Provides:=x50.2,Needs:=x48.Needs,Bars:=x48.Bars}:Pack)).map (Pack.enc true)) s34.2.2.toNat 6 1 x54.Needs.length),(1,rE 1 (eSl true 7 Term.enc) x54.Needs)] (by kernel_rfl) ?_
  refine zA (fun x56 h57=>?_)
  refine J_g 1724414 [] [(0,rr 0 ((((((s34.1.set s34.2.2.toNat ({Name:=x36,Version:=x38.Version,Size:=x38.Size,Provides:=x38.Provides,Needs:=x38.Needs,Bars:=x38.Bars}:Pack)).set s34.2.2.toNat ({Name:=x40.Name,Version:=({A:=w64 (s34.2.1+1),B:=x40.Version.B,C:=x40.Version.C}:Version),Size:=x40.Size,Provides:=x40.Provides,Needs:=x40.Needs,Bars:=x40.Bars}:Pack)).set s34.2.2.toNat ({Name:=x42.Name,Version:=({A:=x42.Version.A,B:=w64 ((w64 (s34.2.1+1))+1),C:=x42.Version.C}:Version),Size:=x42.Size,Provides:=x42.Provides,Needs:=x42.Needs,Bars:=x42.Bars}:Pack)).set s34.2.2.toNat ({Name:=x44.Name,Version:=({A:=x44.Version.A,B:=x44.Version.B,C:=w64 ((w64 ((w64 (s34.2.1+1))+1))+1)}:Version),Size:=x44.Size,Provides:=x44.Provides,Needs:=x44.Needs,Bars:=x44.Bars}:Pack)).set s34.2.2.toNat ({Name:=x46.Name,Version:=x46.Version,Size:=w64 ((w64 ((w64 ((w64 (s34.2.1+1))+1))+1))+1),Provides:=x46.Provides,Needs:=x46.Needs,Bars:=x46.Bars}:Pack)).set s34.2.2.toNat ({Name:=x48.Name,Version:=x48.Version,Size:=x48.Size,Provides:=x50.2,Needs:=x48.Needs,Bars:=x48.Bars}:Pack))),(1,iv x56.1),(5,iv s34.2.2)] [(0,.lent 8 (((((((s34.1.set s34.2.2.toNat ({Name:=x36,Version:=x38.Version,Size:=x38.Size,Provides:=x38.Provides,Needs:=x38.Needs,Bars:=x38.Bars}:Pack)).set s34.2.2.toNat ({Name:=x40.Name,Version:=({A:=w64 (s34.2.1+1),B:=x40.Version.B,C:=x40.Version.C}:Version),Size:=x40.Size,Provides:=x40.Provides,Needs:=x40.Needs,Bars:=x40.Bars}:Pack)).set s34.2.2.toNat ({Name:=x42.Name,Version:=({A:=x42.Version.A,B:=w64 ((w64 (s34.2.1+1))+1),C:=x42.Version.C}:Version),Size:=x42.Size,Provides:=x42.Provides,Needs:=x42.Needs,Bars:=x42.Bars}:Pack)).set s34.2.2.toNat ({Name:=x44.Name,Version:=({A:=x44.Version.A,B:=x44.Version.B,C:=w64 ((w64 ((w64 (s34.2.1+1))+1))+1)}:Version),Size:=x44.Size,Provides:=x44.Provides,Needs:=x44.Needs,Bars:=x44.Bars}:Pack)).set s34.2.2.toNat ({Name:=x46.Name,Version:=x46.Version,Size:=w64 ((w64 ((w64 ((w64 (s34.2.1+1))+1))+1))+1),Provides:=x46.Provides,Needs:=x46.Needs,Bars:=x46.Bars}:Pack)).set s34.2.2.toNat ({Name:=x48.Name,Version:=x48.Version,Size:=x48.Size,Provides:=x50.2,Needs:=x48.Needs,Bars:=x48.Bars}:Pack)).map (Pack.enc true)) s34.2.2.toNat 6 1 x54.Needs.length),(1,rE 1 (eSl true 7 Term.enc) x56.2)] (zD 2 (zIE (kk:=.i64) 28 63 8 0 (Pack.enc true) (.tmp 58) (.tmp 59) s34.2.2.toNat 6 1 x54.Needs.length h55) (zD 4 (zIB 60 0 (.tmp 61) 8 (Pack.enc true) ((((((s34.1.set s34.2.2.toNat ({Name:=x36,Version:=x38.Version,Size:=x38.Size,Provides:=x38.Provides,Needs:=x38.Needs,Bars:=x38.Bars}:Pack)).set s34.2.2.toNat ({Name:=x40.Name,Version:=({A:=w64 (s34.2.1+1),B:=x40.Version.B,C:=x40.Version.C}:Version),Size:=x40.Size,Provides:=x40.Provides,Needs:=x40.Needs,Bars:=x40.Bars}:Pack)).set s34.2.2.toNat ({Name:=x42.Name,Version:=({A:=x42.Version.A,B:=w64 ((w64 (s34.2.1+1))+1),C:=x42.Version.C}:Version),Size:=x42.Size,Provides:=x42.Provides,Needs:=x42.Needs,Bars:=x42.Bars}:Pack)).set s34.2.2.toNat ({Name:=x44.Name,Version:=({A:=x44.Version.A,B:=x44.Version.B,C:=w64 ((w64 ((w64 (s34.2.1+1))+1))+1)}:Version),Size:=x44.Size,Provides:=x44.Provides,Needs:=x44.Needs,Bars:=x44.Bars}:Pack)).set s34.2.2.toNat ({Name:=x46.Name,Version:=x46.Version,Size:=w64 ((w64 ((w64 ((w64 (s34.2.1+1))+1))+1))+1),Provides:=x46.Provides,Needs:=x46.Needs,Bars:=x46.Bars}:Pack)).set s34.2.2.toNat ({Name:=x48.Name,Version:=x48.Version,Size:=x48.Size,Provides:=x50.2,Needs:=x48.Needs,Bars:=x48.Bars}:Pack)) s34.2.2.toNat 6 1 x54.Needs.length) (zD 6 (vC («as»:=[rr 1 x54.Needs,iv x50.1]) [(.tmp 62),(.tmp 63)] [60,3] false [(1,rE 1 (eSl true 7 Term.enc) x54.Needs)] [1] (.cons (.rf rfl) (.cons (.same rfl) (.nil))) (zCv.ok x54.Needs x50.1) h57 (.same rfl rfl)) zB))) ?_
  refine zA (fun u58 h59=>?_)
  refine zGm (ix:=s34.2.2) (enc:=(Pack.enc true)) (b:=({Name:=x54.Name,Version:=x54.Version,Size:=x54.Size,Provides:=x54.Provides,Needs:=x56.2,Bars:=x54.Bars}:Pack)) 0 6 1 h55 rfl rfl rfl rfl (zAO h59) (Nat.le_of_ble_eq_true rfl) ((List.length_map _).trans (zAO h59)) ?_
  refine zEA [(0,rr 0 ((((((s34.1.set s34.2.2.toNat ({Name:=x36,Version:=x38.Version,Size:=x38.Size,Provides:=x38.Provides,Needs:=x38.Needs,Bars:=x38.Bars}:Pack)).set s34.2.2.toNat ({Name:=x40.Name,Version:=({A:=w64 (s34.2.1+1),B:=x40.Version.B,C:=x40.Version.C}:Version),Size:=x40.Size,Provides:=x40.Provides,Needs:=x40.Needs,Bars:=x40.Bars}:Pack)).set s34.2.2.toNat ({Name:=x42.Name,Version:=({A:=x42.Version.A,B:=w64 ((w64 (s34.2.1+1))+1),C:=x42.Version.C}:Version),Size:=x42.Size,Provides:=x42.Provides,Needs:=x42.Needs,Bars:=x42.Bars}:Pack)).set s34.2.2.toNat ({Name:=x44.Name,Version:=({A:=x44.Version.A,B:=x44.Version.B,C:=w64 ((w64 ((w64 (s34.2.1+1))+1))+1)}:Version),Size:=x44.Size,Provides:=x44.Provides,Needs:=x44.Needs,Bars:=x44.Bars}:Pack)).set s34.2.2.toNat ({Name:=x46.Name,Version:=x46.Version,Size:=w64 ((w64 ((w64 ((w64 (s34.2.1+1))+1))+1))+1),Provides:=x46.Provides,Needs:=x46.Needs,Bars:=x46.Bars}:Pack)).set s34.2.2.toNat ({Name:=x48.Name,Version:=x48.Version,Size:=x48.Size,Provides:=x50.2,Needs:=x48.Needs,Bars:=x48.Bars}:Pack))),(1,iv x56.1),(5,iv s34.2.2)] [(0,rE 8 (Pack.enc true) (((((((s34.1.set s34.2.2.toNat ({Name:=x36,Version:=x38.Version,Size:=x38.Size,Provides:=x38.Provides,Needs:=x38.Needs,Bars:=x38.Bars}:Pack)).set s34.2.2.toNat ({Name:=x40.Name,Version:=({A:=w64 (s34.2.1+1),B:=x40.Version.B,C:=x40.Version.C}:Version),Size:=x40.Size,Provides:=x40.Provides,Needs:=x40.Needs,Bars:=x40.Bars}:Pack)).set s34.2.2.toNat ({Name:=x42.Name,Version:=({A:=x42.Version.A,B:=w64 ((w64 (s34.2.1+1))+1),C:=x42.Version.C}:Version),Size:=x42.Size,Provides:=x42.Provides,Needs:=x42.Needs,Bars:=x42.Bars}:Pack)).set s34.2.2.toNat ({Name:=x44.Name,Version:=({A:=x44.Version.A,B:=x44.Version.B,C:=w64 ((w64 ((w64 (s34.2.1+1))+1))+1)}:Version),Size:=x44.Size,Provides:=x44.Provides,Needs:=x44.Needs,Bars:=x44.Bars}:Pack)).set s34.2.2.toNat ({Name:=x46.Name,Version:=x46.Version,Size:=w64 ((w64 ((w64 ((w64 (s34.2.1+1))+1))+1))+1),Provides:=x46.Provides,Needs:=x46.Needs,Bars:=x46.Bars}:Pack)).set s34.2.2.toNat ({Name:=x48.Name,Version:=x48.Version,Size:=x48.Size,Provides:=x50.2,Needs:=x48.Needs,Bars:=x48.Bars}:Pack)).set s34.2.2.toNat ({Name:=x54.Name,Version:=x54.Version,Size:=x54.Size,Provides:=x54.Provides,Needs:=x56.2,Bars:=x54.Bars}:Pack)))] (by kernel_rfl) ?_
  refine zFr (σ':=St.mk' [(0,rr 0 (((((((s34.1.set s34.2.2.toNat ({Name:=x36,Version:=x38.Version,Size:=x38.Size,Provides:=x38.Provides,Needs:=x38.Needs,Bars:=x38.Bars}:Pack)).set s34.2.2.toNat ({Name:=x40.Name,Version:=({A:=w64 (s34.2.1+1),B:=x40.Version.B,C:=x40.Version.C}:Version),Size:=x40.Size,Provides:=x40.Provides,Needs:=x40.Needs,Bars:=x40.Bars}:Pack)).set s34.2.2.toNat ({Name:=x42.Name,Version:=({A:=x42.Version.A,B:=w64 ((w64 (s34.2.1+1))+1),C:=x42.Version.C}:Version),Size:=x42.Size,Provides:=x42.Provides,Needs:=x42.Needs,Bars:=x42.Bars}:Pack)).set s34.2.2.toNat ({Name:=x44.Name,Version:=({A:=x44.Version.A,B:=x44.Version.B,C:=w64 ((w64 ((w64 (s34.2.1+1))+1))+1)}:Version),Size:=x44.Size,Provides:=x44.Provides,Needs:=x44.Needs,Bars:=x44.Bars}:Pack)).set s34.2.2.toNat ({Name:=x46.Name,Version:=x46.Version,Size:=w64 ((w64 ((w64 ((w64 (s34.2.1+1))+1))+1))+1),Provides:=x46.Provides,Needs:=x46.Needs,Bars:=x46.Bars}:Pack)).set s34.2.2.toNat ({Name:=x48.Name,Version:=x48.Version,Size:=x48.Size,Provides:=x50.2,Needs:=x48.Needs,Bars:=x48.Bars}:Pack)).set s34.2.2.toNat ({Name:=x54.Name,Version:=x54.Version,Size:=x54.Size,Provides:=x54.Provides,Needs:=x56.2,Bars:=x54.Bars}:Pack))),(1,iv x56.1),(5,iv s34.2.2)] [(0,rE 8 (Pack.enc true) (((((((s34.1.set s34.2.2.toNat ({Name:=x36,Version:=x38.Version,Size:=x38.Size,Provides:=x38.Provides,Needs:=x38.Needs,Bars:=x38.Bars}:Pack)).set s34.2.2.toNat ({Name:=x40.Name,Version:=({A:=w64 (s34.2.1+1),B:=x40.Version.B,C:=x40.Version.C}:Version),Size:=x40.Size,Provides:=x40.Provides,Needs:=x40.Needs,Bars:=x40.Bars}:Pack)).set s34.2.2.toNat ({Name:=x42.Name,Version:=({A:=x42.Version.A,B:=w64 ((w64 (s34.2.1+1))+1),C:=x42.Version.C}:Version),Size:=x42.Size,Provides:=x42.Provides,Needs:=x42.Needs,Bars:=x42.Bars}:Pack)).set s34.2.2.toNat ({Name:=x44.Name,Version:=({A:=x44.Version.A,B:=x44.Version.B,C:=w64 ((w64 ((w64 (s34.2.1+1))+1))+1)}:Version),Size:=x44.Size,Provides:=x44.Provides,Needs:=x44.Needs,Bars:=x44.Bars}:Pack)).set s34.2.2.toNat ({Name:=x46.Name,Version:=x46.Version,Size:=w64 ((w64 ((w64 ((w64 (s34.2.1+1))+1))+1))+1),Provides:=x46.Provides,Needs:=x46.Needs,Bars:=x46.Bars}:Pack)).set s34.2.2.toNat ({Name:=x48.Name,Version:=x48.Version,Size:=x48.Size,Provides:=x50.2,Needs:=x48.Needs,Bars:=x48.Bars}:Pack)).set s34.2.2.toNat ({Name:=x54.Name,Version:=x54.Version,Size:=x54.Size,Provides:=x54.Provides,Needs:=x56.2,Bars:=x54.Bars}:Pack)))]) (by simp only [rr,List.length_set]) ?_
  refine zA (fun x60 h61=>?_)
  refine zF2 (ix:=s34.2.2) (enc:=(Pack.enc true)) 0 7 1 h61 rfl rfl (by kernel_rfl) ?_
  refine zEA [(0,rr 0 (((((((s34.1.set s34.2.2.toNat ({Name:=x36,Version:=x38.Version,Size:=x38.Size,Provides:=x38.Provides,Needs:=x38.Needs,Bars:=x38.Bars}:Pack)).set s34.2.2.toNat ({Name:=x40.Name,Version:=({A:=w64 (s34.2.1+1),B:=x40.Version.B,C:=x40.Version.C}:Version),Size:=x40.Size,Provides:=x40.Provides,Needs:=x40.Needs,Bars:=x40.Bars}:Pack)).set s34.2.2.toNat ({Name:=x42.Name,Version:=({A:=x42.Version.A,B:=w64 ((w64 (s34.2.1+1))+1),C:=x42.Version.C}:Version),Size:=x42.Size,Provides:=x42.Provides,Needs:=x42.Needs,Bars:=x42.Bars}:Pack)).set s34.2.2.toNat ({Name:=x44.Name,Version:=({A:=x44.Version.A,B:=x44.Version.B,C:=w64 ((w64 ((w64 (s34.2.1+1))+1))+1)}:Version),Size:=x44.Size,Provides:=x44.Provides,Needs:=x44.Needs,Bars:=x44.Bars}:Pack)).set s34.2.2.toNat ({Name:=x46.Name,Version:=x46.Version,Size:=w64 ((w64 ((w64 ((w64 (s34.2.1+1))+1))+1))+1),Provides:=x46.Provides,Needs:=x46.Needs,Bars:=x46.Bars}:Pack)).set s34.2.2.toNat ({Name:=x48.Name,Version:=x48.Version,Size:=x48.Size,Provides:=x50.2,Needs:=x48.Needs,Bars:=x48.Bars}:Pack)).set s34.2.2.toNat ({Name:=x54.Name,Version:=x54.Version,Size:=x54.Size,Provides:=x54.Provides,Needs:=x56.2,Bars:=x54.Bars}:Pack))),(1,iv x56.1),(5,iv s34.2.2)] [(0,.lent 8 ((((((((s34.1.set s34.2.2.toNat ({Name:=x36,Version:=x38.Version,Size:=x38.Size,Provides:=x38.Provides,Needs:=x38.Needs,Bars:=x38.Bars}:Pack)).set s34.2.2.toNat ({Name:=x40.Name,Version:=({A:=w64 (s34.2.1+1),B:=x40.Version.B,C:=x40.Version.C}:Version),Size:=x40.Size,Provides:=x40.Provides,Needs:=x40.Needs,Bars:=x40.Bars}:Pack)).set s34.2.2.toNat ({Name:=x42.Name,Version:=({A:=x42.Version.A,B:=w64 ((w64 (s34.2.1+1))+1),C:=x42.Version.C}:Version),Size:=x42.Size,Provides:=x42.Provides,Needs:=x42.Needs,Bars:=x42.Bars}:Pack)).set s34.2.2.toNat ({Name:=x44.Name,Version:=({A:=x44.Version.A,B:=x44.Version.B,C:=w64 ((w64 ((w64 (s34.2.1+1))+1))+1)}:Version),Size:=x44.Size,Provides:=x44.Provides,Needs:=x44.Needs,Bars:=x44.Bars}:Pack)).set s34.2.2.toNat ({Name:=x46.Name,Version:=x46.Version,Size:=w64 ((w64 ((w64 ((w64 (s34.2.1+1))+1))+1))+1),Provides:=x46.Provides,Needs:=x46.Needs,Bars:=x46.Bars}:Pack)).set s34.2.2.toNat ({Name:=x48.Name,Version:=x48.Version,Size:=x48.Size,Provides:=x50.2,Needs:=x48.Needs,Bars:=x48.Bars}:Pack)).set s34.2.2.toNat ({Name:=x54.Name,Version:=x54.Version,Size:=x54.Size,Provides:=x54.Provides,Needs:=x56.2,Bars:=x54.Bars}:Pack)).map (Pack.enc true)) s34.2.2.toNat 7 1 x60.Bars.length),(1,rE 7 Term.enc x60.Bars)] (by kernel_rfl) ?_
  refine zA (fun x62 h63=>?_)
  refine J_g 1724415 [] [(0,rr 0 (((((((s34.1.set s34.2.2.toNat ({Name:=x36,Version:=x38.Version,Size:=x38.Size,Provides:=x38.Provides,Needs:=x38.Needs,Bars:=x38.Bars}:Pack)).set s34.2.2.toNat ({Name:=x40.Name,Version:=({A:=w64 (s34.2.1+1),B:=x40.Version.B,C:=x40.Version.C}:Version),Size:=x40.Size,Provides:=x40.Provides,Needs:=x40.Needs,Bars:=x40.Bars}:Pack)).set s34.2.2.toNat ({Name:=x42.Name,Version:=({A:=x42.Version.A,B:=w64 ((w64 (s34.2.1+1))+1),C:=x42.Version.C}:Version),Size:=x42.Size,Provides:=x42.Provides,Needs:=x42.Needs,Bars:=x42.Bars}:Pack)).set s34.2.2.toNat ({Name:=x44.Name,Version:=({A:=x44.Version.A,B:=x44.Version.B,C:=w64 ((w64 ((w64 (s34.2.1+1))+1))+1)}:Version),Size:=x44.Size,Provides:=x44.Provides,Needs:=x44.Needs,Bars:=x44.Bars}:Pack)).set s34.2.2.toNat ({Name:=x46.Name,Version:=x46.Version,Size:=w64 ((w64 ((w64 ((w64 (s34.2.1+1))+1))+1))+1),Provides:=x46.Provides,Needs:=x46.Needs,Bars:=x46.Bars}:Pack)).set s34.2.2.toNat ({Name:=x48.Name,Version:=x48.Version,Size:=x48.Size,Provides:=x50.2,Needs:=x48.Needs,Bars:=x48.Bars}:Pack)).set s34.2.2.toNat ({Name:=x54.Name,Version:=x54.Version,Size:=x54.Size,Provides:=x54.Provides,Needs:=x56.2,Bars:=x54.Bars}:Pack))),(1,iv x62.1),(5,iv s34.2.2)] [(0,.lent 8 ((((((((s34.1.set s34.2.2.toNat ({Name:=x36,Version:=x38.Version,Size:=x38.Size,Provides:=x38.Provides,Needs:=x38.Needs,Bars:=x38.Bars}:Pack)).set s34.2.2.toNat ({Name:=x40.Name,Version:=({A:=w64 (s34.2.1+1),B:=x40.Version.B,C:=x40.Version.C}:Version),Size:=x40.Size,Provides:=x40.Provides,Needs:=x40.Needs,Bars:=x40.Bars}:Pack)).set s34.2.2.toNat ({Name:=x42.Name,Version:=({A:=x42.Version.A,B:=w64 ((w64 (s34.2.1+1))+1),C:=x42.Version.C}:Version),Size:=x42.Size,Provides:=x42.Provides,Needs:=x42.Needs,Bars:=x42.Bars}:Pack)).set s34.2.2.toNat ({Name:=x44.Name,Version:=({A:=x44.Version.A,B:=x44.Version.B,C:=w64 ((w64 ((w64 (s34.2.1+1))+1))+1)}:Version),Size:=x44.Size,Provides:=x44.Provides,Needs:=x44.Needs,Bars:=x44.Bars}:Pack)).set s34.2.2.toNat ({Name:=x46.Name,Version:=x46.Version,Size:=w64 ((w64 ((w64 ((w64 (s34.2.1+1))+1))+1))+1),Provides:=x46.Provides,Needs:=x46.Needs,Bars:=x46.Bars}:Pack)).set s34.2.2.toNat ({Name:=x48.Name,Version:=x48.Version,Size:=x48.Size,Provides:=x50.2,Needs:=x48.Needs,Bars:=x48.Bars}:Pack)).set s34.2.2.toNat ({Name:=x54.Name,Version:=x54.Version,Size:=x54.Size,Provides:=x54.Provides,Needs:=x56.2,Bars:=x54.Bars}:Pack)).map (Pack.enc true)) s34.2.2.toNat 7 1 x60.Bars.length),(1,rE 7 Term.enc x62.2)] (zD 2 (zIE (kk:=.i64) 28 63 8 0 (Pack.enc true) (.tmp 65) (.tmp 66) s34.2.2.toNat 7 1 x60.Bars.length h61) (zD 4 (zIB 61 0 (.tmp 68) 8 (Pack.enc true) (((((((s34.1.set s34.2.2.toNat ({Name:=x36,Version:=x38.Version,Size:=x38.Size,Provides:=x38.Provides,Needs:=x38.Needs,Bars:=x38.Bars}:Pack)).set s34.2.2.toNat ({Name:=x40.Name,Version:=({A:=w64 (s34.2.1+1),B:=x40.Version.B,C:=x40.Version.C}:Version),Size:=x40.Size,Provides:=x40.Provides,Needs:=x40.Needs,Bars:=x40.Bars}:Pack)).set s34.2.2.toNat ({Name:=x42.Name,Version:=({A:=x42.Version.A,B:=w64 ((w64 (s34.2.1+1))+1),C:=x42.Version.C}:Version),Size:=x42.Size,Provides:=x42.Provides,Needs:=x42.Needs,Bars:=x42.Bars}:Pack)).set s34.2.2.toNat ({Name:=x44.Name,Version:=({A:=x44.Version.A,B:=x44.Version.B,C:=w64 ((w64 ((w64 (s34.2.1+1))+1))+1)}:Version),Size:=x44.Size,Provides:=x44.Provides,Needs:=x44.Needs,Bars:=x44.Bars}:Pack)).set s34.2.2.toNat ({Name:=x46.Name,Version:=x46.Version,Size:=w64 ((w64 ((w64 ((w64 (s34.2.1+1))+1))+1))+1),Provides:=x46.Provides,Needs:=x46.Needs,Bars:=x46.Bars}:Pack)).set s34.2.2.toNat ({Name:=x48.Name,Version:=x48.Version,Size:=x48.Size,Provides:=x50.2,Needs:=x48.Needs,Bars:=x48.Bars}:Pack)).set s34.2.2.toNat ({Name:=x54.Name,Version:=x54.Version,Size:=x54.Size,Provides:=x54.Provides,Needs:=x56.2,Bars:=x54.Bars}:Pack)) s34.2.2.toNat 7 1 x60.Bars.length) (zD 6 (vC («as»:=[rr 1 x60.Bars,iv x56.1]) [(.tmp 69),(.tmp 70)] [61,3] false [(1,rE 7 Term.enc x60.Bars)] [1] (.cons (.rf rfl) (.cons (.same rfl) (.nil))) (zA5.ok x60.Bars x56.1) h63 (.same rfl rfl)) zB))) ?_
  refine zA (fun u64 h65=>?_)
  refine zGm (ix:=s34.2.2) (enc:=(Pack.enc true)) (b:=({Name:=x60.Name,Version:=x60.Version,Size:=x60.Size,Provides:=x60.Provides,Needs:=x60.Needs,Bars:=x62.2}:Pack)) 0 7 1 h61 rfl rfl rfl rfl (zAO h65) (Nat.le_of_ble_eq_true rfl) ((List.length_map _).trans (zAO h65)) ?_
  refine zEA [(0,rr 0 (((((((s34.1.set s34.2.2.toNat ({Name:=x36,Version:=x38.Version,Size:=x38.Size,Provides:=x38.Provides,Needs:=x38.Needs,Bars:=x38.Bars}:Pack)).set s34.2.2.toNat ({Name:=x40.Name,Version:=({A:=w64 (s34.2.1+1),B:=x40.Version.B,C:=x40.Version.C}:Version),Size:=x40.Size,Provides:=x40.Provides,Needs:=x40.Needs,Bars:=x40.Bars}:Pack)).set s34.2.2.toNat ({Name:=x42.Name,Version:=({A:=x42.Version.A,B:=w64 ((w64 (s34.2.1+1))+1),C:=x42.Version.C}:Version),Size:=x42.Size,Provides:=x42.Provides,Needs:=x42.Needs,Bars:=x42.Bars}:Pack)).set s34.2.2.toNat ({Name:=x44.Name,Version:=({A:=x44.Version.A,B:=x44.Version.B,C:=w64 ((w64 ((w64 (s34.2.1+1))+1))+1)}:Version),Size:=x44.Size,Provides:=x44.Provides,Needs:=x44.Needs,Bars:=x44.Bars}:Pack)).set s34.2.2.toNat ({Name:=x46.Name,Version:=x46.Version,Size:=w64 ((w64 ((w64 ((w64 (s34.2.1+1))+1))+1))+1),Provides:=x46.Provides,Needs:=x46.Needs,Bars:=x46.Bars}:Pack)).set s34.2.2.toNat ({Name:=x48.Name,Version:=x48.Version,Size:=x48.Size,Provides:=x50.2,Needs:=x48.Needs,Bars:=x48.Bars}:Pack)).set s34.2.2.toNat ({Name:=x54.Name,Version:=x54.Version,Size:=x54.Size,Provides:=x54.Provides,Needs:=x56.2,Bars:=x54.Bars}:Pack))),(1,iv x62.1),(5,iv s34.2.2)] [(0,rE 8 (Pack.enc true) ((((((((s34.1.set s34.2.2.toNat ({Name:=x36,Version:=x38.Version,Size:=x38.Size,Provides:=x38.Provides,Needs:=x38.Needs,Bars:=x38.Bars}:Pack)).set s34.2.2.toNat ({Name:=x40.Name,Version:=({A:=w64 (s34.2.1+1),B:=x40.Version.B,C:=x40.Version.C}:Version),Size:=x40.Size,Provides:=x40.Provides,Needs:=x40.Needs,Bars:=x40.Bars}:Pack)).set s34.2.2.toNat ({Name:=x42.Name,Version:=({A:=x42.Version.A,B:=w64 ((w64 (s34.2.1+1))+1),C:=x42.Version.C}:Version),Size:=x42.Size,Provides:=x42.Provides,Needs:=x42.Needs,Bars:=x42.Bars}:Pack)).set s34.2.2.toNat ({Name:=x44.Name,Version:=({A:=x44.Version.A,B:=x44.Version.B,C:=w64 ((w64 ((w64 (s34.2.1+1))+1))+1)}:Version),Size:=x44.Size,Provides:=x44.Provides,Needs:=x44.Needs,Bars:=x44.Bars}:Pack)).set s34.2.2.toNat ({Name:=x46.Name,Version:=x46.Version,Size:=w64 ((w64 ((w64 ((w64 (s34.2.1+1))+1))+1))+1),Provides:=x46.Provides,Needs:=x46.Needs,Bars:=x46.Bars}:Pack)).set s34.2.2.toNat ({Name:=x48.Name,Version:=x48.Version,Size:=x48.Size,Provides:=x50.2,Needs:=x48.Needs,Bars:=x48.Bars}:Pack)).set s34.2.2.toNat ({Name:=x54.Name,Version:=x54.Version,Size:=x54.Size,Provides:=x54.Provides,Needs:=x56.2,Bars:=x54.Bars}:Pack)).set s34.2.2.toNat ({Name:=x60.Name,Version:=x60.Version,Size:=x60.Size,Provides:=x60.Provides,Needs:=x60.Needs,Bars:=x62.2}:Pack)))] (by kernel_rfl) ?_
  refine zFr (σ':=St.mk' [(0,rr 0 ((((((((s34.1.set s34.2.2.toNat ({Name:=x36,Version:=x38.Version,Size:=x38.Size,Provides:=x38.Provides,Needs:=x38.Needs,Bars:=x38.Bars}:Pack)).set s34.2.2.toNat ({Name:=x40.Name,Version:=({A:=w64 (s34.2.1+1),B:=x40.Version.B,C:=x40.Version.C}:Version),Size:=x40.Size,Provides:=x40.Provides,Needs:=x40.Needs,Bars:=x40.Bars}:Pack)).set s34.2.2.toNat ({Name:=x42.Name,Version:=({A:=x42.Version.A,B:=w64 ((w64 (s34.2.1+1))+1),C:=x42.Version.C}:Version),Size:=x42.Size,Provides:=x42.Provides,Needs:=x42.Needs,Bars:=x42.Bars}:Pack)).set s34.2.2.toNat ({Name:=x44.Name,Version:=({A:=x44.Version.A,B:=x44.Version.B,C:=w64 ((w64 ((w64 (s34.2.1+1))+1))+1)}:Version),Size:=x44.Size,Provides:=x44.Provides,Needs:=x44.Needs,Bars:=x44.Bars}:Pack)).set s34.2.2.toNat ({Name:=x46.Name,Version:=x46.Version,Size:=w64 ((w64 ((w64 ((w64 (s34.2.1+1))+1))+1))+1),Provides:=x46.Provides,Needs:=x46.Needs,Bars:=x46.Bars}:Pack)).set s34.2.2.toNat ({Name:=x48.Name,Version:=x48.Version,Size:=x48.Size,Provides:=x50.2,Needs:=x48.Needs,Bars:=x48.Bars}:Pack)).set s34.2.2.toNat ({Name:=x54.Name,Version:=x54.Version,Size:=x54.Size,Provides:=x54.Provides,Needs:=x56.2,Bars:=x54.Bars}:Pack)).set s34.2.2.toNat ({Name:=x60.Name,Version:=x60.Version,Size:=x60.Size,Provides:=x60.Provides,Needs:=x60.Needs,Bars:=x62.2}:Pack))),(1,iv x62.1),(5,iv s34.2.2)] [(0,rE 8 (Pack.enc true) ((((((((s34.1.set s34.2.2.toNat ({Name:=x36,Version:=x38.Version,Size:=x38.Size,Provides:=x38.Provides,Needs:=x38.Needs,Bars:=x38.Bars}:Pack)).set s34.2.2.toNat ({Name:=x40.Name,Version:=({A:=w64 (s34.2.1+1),B:=x40.Version.B,C:=x40.Version.C}:Version),Size:=x40.Size,Provides:=x40.Provides,Needs:=x40.Needs,Bars:=x40.Bars}:Pack)).set s34.2.2.toNat ({Name:=x42.Name,Version:=({A:=x42.Version.A,B:=w64 ((w64 (s34.2.1+1))+1),C:=x42.Version.C}:Version),Size:=x42.Size,Provides:=x42.Provides,Needs:=x42.Needs,Bars:=x42.Bars}:Pack)).set s34.2.2.toNat ({Name:=x44.Name,Version:=({A:=x44.Version.A,B:=x44.Version.B,C:=w64 ((w64 ((w64 (s34.2.1+1))+1))+1)}:Version),Size:=x44.Size,Provides:=x44.Provides,Needs:=x44.Needs,Bars:=x44.Bars}:Pack)).set s34.2.2.toNat ({Name:=x46.Name,Version:=x46.Version,Size:=w64 ((w64 ((w64 ((w64 (s34.2.1+1))+1))+1))+1),Provides:=x46.Provides,Needs:=x46.Needs,Bars:=x46.Bars}:Pack)).set s34.2.2.toNat ({Name:=x48.Name,Version:=x48.Version,Size:=x48.Size,Provides:=x50.2,Needs:=x48.Needs,Bars:=x48.Bars}:Pack)).set s34.2.2.toNat ({Name:=x54.Name,Version:=x54.Version,Size:=x54.Size,Provides:=x54.Provides,Needs:=x56.2,Bars:=x54.Bars}:Pack)).set s34.2.2.toNat ({Name:=x60.Name,Version:=x60.Version,Size:=x60.Size,Provides:=x60.Provides,Needs:=x60.Needs,Bars:=x62.2}:Pack)))]) (by simp only [rr,List.length_set]) ?_
  refine J_d 211 [] [5] [(5,iv (w64 (s34.2.2+1)))] [] [] zB ?_
  exact J_q (J_b (ih ((((((((s34.1.set s34.2.2.toNat ({Name:=x36,Version:=x38.Version,Size:=x38.Size,Provides:=x38.Provides,Needs:=x38.Needs,Bars:=x38.Bars}:Pack)).set s34.2.2.toNat ({Name:=x40.Name,Version:=({A:=w64 (s34.2.1+1),B:=x40.Version.B,C:=x40.Version.C}:Version),Size:=x40.Size,Provides:=x40.Provides,Needs:=x40.Needs,Bars:=x40.Bars}:Pack)).set s34.2.2.toNat ({Name:=x42.Name,Version:=({A:=x42.Version.A,B:=w64 ((w64 (s34.2.1+1))+1),C:=x42.Version.C}:Version),Size:=x42.Size,Provides:=x42.Provides,Needs:=x42.Needs,Bars:=x42.Bars}:Pack)).set s34.2.2.toNat ({Name:=x44.Name,Version:=({A:=x44.Version.A,B:=x44.Version.B,C:=w64 ((w64 ((w64 (s34.2.1+1))+1))+1)}:Version),Size:=x44.Size,Provides:=x44.Provides,Needs:=x44.Needs,Bars:=x44.Bars}:Pack)).set s34.2.2.toNat ({Name:=x46.Name,Version:=x46.Version,Size:=w64 ((w64 ((w64 ((w64 (s34.2.1+1))+1))+1))+1),Provides:=x46.Provides,Needs:=x46.Needs,Bars:=x46.Bars}:Pack)).set s34.2.2.toNat ({Name:=x48.Name,Version:=x48.Version,Size:=x48.Size,Provides:=x50.2,Needs:=x48.Needs,Bars:=x48.Bars}:Pack)).set s34.2.2.toNat ({Name:=x54.Name,Version:=x54.Version,Size:=x54.Size,Provides:=x54.Provides,Needs:=x56.2,Bars:=x54.Bars}:Pack)).set s34.2.2.toNat ({Name:=x60.Name,Version:=x60.Version,Size:=x60.Size,Provides:=x60.Provides,Needs:=x60.Needs,Bars:=x62.2}:Pack),x62.1,w64 (s34.2.2+1)))) rfl
 ·exact wD (hk (s34.1,s34.2.1)) rfl
theorem zA6.ok (a1:(List Pack)) (a2:Int):Ok Tryz.prog 17 [rr 0 a1,iv a2] [rE 8 (Pack.enc true) a1] ((zA6 a1 a2).map fun r=>(iv r.1,[rE 8 (Pack.enc true) r.2])):=by
 refine zG c17 Tryz.f17 1 73 (fun q=>?_)
 unfold zA6
 refine J_g 2 [] [(0,rr 0 a1),(1,iv a2)] [(0,rE 8 (Pack.enc true) a1)] zB ?_
 refine J_d 12 [] [5] [(5,iv 0)] [] [] zB ?_
 refine zE2 (zCB.ok q _ (fun v66=>J_j ?_) (a1,a2,0))
 refine J_d 14 [] [1,4] [(4,iv v66.2)] [] [] zB ?_
 exact zQ rfl
noncomputable def c18:Code:=(Tryz.f18.body).getD .skip
theorem zBT.ok (q:Wd) (kn:((List Int)×Int)→Option (D×List Ent)) (hk:∀v:((List Int)×Int),J (q.g Tryz.prog 18 1 19) c18 (atI c18 7) (St.mk' [(1,iv v.2)] [(0,rE 1 zC v.1)]) (some v) kn):
  ∀s6:((List Int)×Int×Int),J (q.g Tryz.prog 18 1 19) c18 (atI c18 52) (St.mk' [(0,rr 0 s6.1),(1,iv s6.2.1),(5,iv s6.2.2)] [(0,rE 1 zC s6.1)]) (zBT s6) kn:=by
 refine tV (fun g ih s6=>?_)
 unfold zEI
 refine J_d 208 [] [9] [(9,bv (decide (s6.2.2< (s6.1.length:Int))))] [] [] zB ?_
 refine zF 9 (fun h7=>?_) (fun h7=>?_)
 ·refine zA (fun x8 h9=>?_)
  refine J_g 840 [] [(0,rr 0 s6.1),(1,iv s6.2.1),(5,iv s6.2.2)] [(0,rE 1 zC (s6.1.set s6.2.2.toNat s6.2.1))] (zD 3 (jT (kk:=.i64) 23 2 1 0 zC (.tmp 12) (.tmp 13) h9) (zGT 4 (zIb (b:=s6.2.1) 2 1 0 0 zC (iv s6.2.1) (.tmp 15) (.tmp 14) h9 rfl) zB)) ?_
  refine zFr (σ':=St.mk' [(0,rr 0 (s6.1.set s6.2.2.toNat s6.2.1)),(1,iv s6.2.1),(5,iv s6.2.2)] [(0,rE 1 zC (s6.1.set s6.2.2.toNat s6.2.1))]) (by simp only [rr,List.length_set]) ?_
  refine J_g 841 [] [(0,rr 0 (s6.1.set s6.2.2.toNat s6.2.1)),(1,iv (w64 (s6.2.1+1))),(5,iv s6.2.2)] [(0,rE 1 zC (s6.1.set s6.2.2.toNat s6.2.1))] zB ?_
  refine J_d 211 [] [5] [(5,iv (w64 (s6.2.2+1)))] [] [] zB ?_
  exact J_q (J_b (ih (s6.1.set s6.2.2.toNat s6.2.1,w64 (s6.2.1+1),w64 (s6.2.2+1)))) rfl
 ·exact wD (hk (s6.1,s6.2.1)) rfl
theorem vD.ok (a1:(List Int)) (a2:Int):Ok Tryz.prog 18 [rr 0 a1,iv a2] [rE 1 zC a1] ((vD a1 a2).map fun r=>(iv r.1,[rE 1 zC r.2])):=by
 refine zG c18 Tryz.f18 1 19 (fun q=>?_)
 unfold vD
 refine J_g 2 [] [(0,rr 0 a1),(1,iv a2)] [(0,rE 1 zC a1)] zB ?_
 refine J_d 12 [] [5] [(5,iv 0)] [] [] zB ?_
 refine zE2 (zBT.ok q _ (fun v10=>J_j ?_) (a1,a2,0))
 refine J_g 14 [] [(4,iv v10.2)] [(0,rE 1 zC v10.1)] zB ?_
 exact zQ rfl
noncomputable def c39:Code:=(Tryz.f39.body).getD .skip
theorem zAS.ok (q:Wd) (kn:((List (List ByteArray))×Int)→Option (D×List Ent)) (hk:∀v:((List (List ByteArray))×Int),J (q.g Tryz.prog 39 1 19) c39 (atI c39 7) (St.mk' [(1,iv v.2)] [(0,rE 1 (eSl true 1 eStr) v.1)]) (some v) kn):
  ∀s10:((List (List ByteArray))×Int×Int),J (q.g Tryz.prog 39 1 19) c39 (atI c39 52) (St.mk' [(0,rr 0 s10.1),(1,iv s10.2.1),(5,iv s10.2.2)] [(0,rE 1 (eSl true 1 eStr) s10.1)]) (zAS s10) kn:=by
 refine tV (fun g ih s10=>?_)
 unfold zEm
 refine J_d 208 [] [9] [(9,bv (decide (s10.2.2< (s10.1.length:Int))))] [] [] zB ?_
 refine zF 9 (fun h11=>?_) (fun h11=>?_)
 ·refine zA (fun x12 h13=>?_)
  refine zF2 (ix:=s10.2.2) (enc:=(eSl true 1 eStr)) 0 0 1 h13 rfl rfl (by kernel_rfl) ?_
  refine zEA [(0,rr 0 s10.1),(1,iv s10.2.1),(5,iv s10.2.2),(9,bv true)] [(0,.lent 1 (s10.1.map (eSl true 1 eStr)) s10.2.2.toNat 0 1 x12.length),(1,rE 1 eStr x12)] (by kernel_rfl) ?_
  refine zA (fun x14 h15=>?_)
  refine J_g 420 [] [(0,rr 0 s10.1),(1,iv x14.1),(5,iv s10.2.2)] [(0,.lent 1 (s10.1.map (eSl true 1 eStr)) s10.2.2.toNat 0 1 x12.length),(1,rE 1 eStr x14.2)] (zD 2 (zIE (kk:=.i64) 35 52 1 0 (eSl true 1 eStr) (.tmp 12) (.tmp 13) s10.2.2.toNat 0 1 x12.length h13) (zD 3 (zIB 52 0 (.tmp 14) 1 (eSl true 1 eStr) s10.1 s10.2.2.toNat 0 1 x12.length) (zD 5 (vC («as»:=[rr 1 x12,iv s10.2.1]) [(.tmp 15),(.tmp 16)] [52,3] false [(1,rE 1 eStr x12)] [1] (.cons (.rf rfl) (.cons (.same rfl) (.nil))) (jZ.ok x12 s10.2.1) h15 (.same rfl rfl)) zB))) ?_
  refine zA (fun u16 h17=>?_)
  refine zGm (ix:=s10.2.2) (enc:=(eSl true 1 eStr)) (b:=x14.2) 0 0 1 h13 rfl rfl rfl rfl (zAO h17) (Nat.le_of_ble_eq_true rfl) ((List.length_map _).trans (zAO h17)) ?_
  refine zEA [(0,rr 0 s10.1),(1,iv x14.1),(5,iv s10.2.2)] [(0,rE 1 (eSl true 1 eStr) (s10.1.set s10.2.2.toNat x14.2))] (by kernel_rfl) ?_
  refine zFr (σ':=St.mk' [(0,rr 0 (s10.1.set s10.2.2.toNat x14.2)),(1,iv x14.1),(5,iv s10.2.2)] [(0,rE 1 (eSl true 1 eStr) (s10.1.set s10.2.2.toNat x14.2))]) (by simp only [rr,List.length_set]) ?_
  refine J_d 211 [] [5] [(5,iv (w64 (s10.2.2+1)))] [] [] zB ?_
  exact J_q (J_b (ih (s10.1.set s10.2.2.toNat x14.2,x14.1,w64 (s10.2.2+1)))) rfl
 ·exact wD (hk (s10.1,s10.2.1)) rfl
theorem zBf.ok (a1:(List (List ByteArray))) (a2:Int):Ok Tryz.prog 39 [rr 0 a1,iv a2] [rE 1 (eSl true 1 eStr) a1] ((zBf a1 a2).map fun r=>(iv r.1,[rE 1 (eSl true 1 eStr) r.2])):=by
 refine zG c39 Tryz.f39 1 19 (fun q=>?_)
 unfold zBf
 refine J_g 2 [] [(0,rr 0 a1),(1,iv a2)] [(0,rE 1 (eSl true 1 eStr) a1)] zB ?_
 refine J_d 12 [] [5] [(5,iv 0)] [] [] zB ?_
 refine zE2 (zAS.ok q _ (fun v18=>J_j ?_) (a1,a2,0))
 refine J_d 14 [] [1,4] [(4,iv v18.2)] [] [] zB ?_
 exact zQ rfl
noncomputable def c19:Code:=(Tryz.f19.body).getD .skip
theorem kI.ok (a1:yD) (a2:Int):Ok Tryz.prog 19 [.ag [iv a1.Code,rr 0 a1.Parts],iv a2] [rE 1 (eSl true 1 eStr) a1.Parts] ((kI a1 a2).map fun r=>(iv r.1,[rE 1 (eSl true 1 eStr) r.2])):=by
 refine zG c19 Tryz.f19 1 10 (fun q=>?_)
 unfold kI
 refine J_d 2 [(0,1)] [0,2] [(2,pp 1)] [1] [(1,.box [iv a1.Code,rr 0 a1.Parts])] zB ?_
 refine zA (fun x3 h4=>?_)
 refine J_g 6 [] [(1,iv x3.1)] [(0,rE 1 (eSl true 1 eStr) x3.2)] (zD 3 (vC («as»:=[rr 0 a1.Parts,iv a2]) [(.tmp 6),(.tmp 7)] [35,3] false [(0,rE 1 (eSl true 1 eStr) a1.Parts)] [0] (.cons (.rf rfl) (.cons (.same rfl) (.nil))) (zBf.ok a1.Parts a2) h4 (.same rfl rfl)) zB) ?_
 refine zA (fun u5 h6=>?_)
 refine J_d 14 [] [1,4] [(4,iv x3.1)] [] [] zB ?_
 exact zQ rfl
noncomputable def c73:Code:=(Tryz.f73.body).getD .skip
theorem zBK.ok (a1:(List ByteArray)) (q:Wd) (kn:Int→Option (D×List Ent)) (hk:∀v:Int,J (q.g Tryz.prog 73 0 22) c73 (atI c73 7) (St.mk' [(1,iv v)] []) (some v) kn):
  ∀s9:(Int×Int),J (q.g Tryz.prog 73 0 22) c73 (atI c73 52) (St.mk' [(0,sl 1 eStr a1),(1,iv s9.1),(5,iv s9.2)] []) (zBK a1 s9) (Fl.go (fun r:Int=>some (iv r,[])) kn):=by
 refine tV (fun g ih s9=>?_)
 unfold zEG
 refine J_d 208 [] [9] [(9,bv (decide (s9.2< (a1.length:Int))))] [] [] zB ?_
 refine zF 9 (fun h10=>?_) (fun h10=>?_)
 ·refine zA (fun x11 h12=>?_)
  refine zA (fun x13 h14=>?_)
  refine J_d 1680 [] [9,18] [(18,bv (!(seq x11 x13)))] [] [] (zD 2 (tT (kk:=.i64) 52 9 1 eStr (.tmp 12) (.tmp 13) h12) (zD 5 (vG [(.tmp 16)] [3] (jG.ok s9.1) h14) zB)) ?_
  refine zF 18 (fun h15=>?_) (fun h15=>?_)
  ·refine J_g 6724 [] [(4,iv (-1))] [] zB ?_
   exact zQ rfl
  ·refine J_g 841 [] [(0,sl 1 eStr a1),(1,iv (w64 (s9.1+1))),(5,iv s9.2)] [] zB ?_
   refine J_d 211 [] [5] [(5,iv (w64 (s9.2+1)))] [] [] zB ?_
   exact J_q (J_b (ih (w64 (s9.1+1),w64 (s9.2+1)))) rfl
 ·exact wD (hk s9.1) rfl
theorem zBX.ok (a1:(List ByteArray)) (a2:Int):Ok Tryz.prog 73 [sl 1 eStr a1,iv a2] [] ((zBX a1 a2).map fun r=>(iv r,[])):=by
 refine zG c73 Tryz.f73 0 22 (fun q=>?_)
 unfold zBX
 refine J_g 2 [] [(0,sl 1 eStr a1),(1,iv a2)] [] zB ?_
 refine J_d 12 [] [5] [(5,iv 0)] [] [] zB ?_
 refine uP (K0:=(fun r:Int=>some (iv r,[]))) (fun _=>rfl) (zBK.ok a1 q _ (fun v16=>J_j ?_) (a2,0))
 refine J_g 14 [] [(4,iv v16)] [] zB ?_
 exact zQ rfl
noncomputable def c40:Code:=(Tryz.f40.body).getD .skip
theorem zBs.ok (a1:(List (List ByteArray))) (q:Wd) (kn:Int→Option (D×List Ent)) (hk:∀v:Int,J (q.g Tryz.prog 40 0 21) c40 (atI c40 7) (St.mk' [(1,iv v)] []) (some v) kn):
  ∀s9:(Int×Int),J (q.g Tryz.prog 40 0 21) c40 (atI c40 52) (St.mk' [(0,sl 1 (eSl false 1 eStr) a1),(1,iv s9.1),(5,iv s9.2)] []) (zBs a1 s9) (Fl.go (fun r:Int=>some (iv r,[])) kn):=by
 refine tV (fun g ih s9=>?_)
 unfold zE7
 refine J_d 208 [] [9] [(9,bv (decide (s9.2< (a1.length:Int))))] [] [] zB ?_
 refine zF 9 (fun h10=>?_) (fun h10=>?_)
 ·refine zA (fun x11 h12=>?_)
  refine zA (fun x13 h14=>?_)
  refine J_g 840 [] [(0,sl 1 (eSl false 1 eStr) a1),(1,iv x13),(5,iv s9.2)] [] (zD 2 (tT (kk:=.i64) 35 52 1 (eSl false 1 eStr) (.tmp 12) (.tmp 13) h12) (zD 5 (vG [(.tmp 15),(.tmp 16)] [52,3] (zBX.ok x11 s9.1) h14) zB)) ?_
  refine J_d 1682 [] [19] [(19,bv (decide (x13<0)))] [] [] zB ?_
  refine zF 19 (fun h15=>?_) (fun h15=>?_)
  ·refine J_g 6732 [] [(4,iv (-1))] [] zB ?_
   exact zQ rfl
  ·refine J_d 211 [] [5,19] [(5,iv (w64 (s9.2+1)))] [] [] zB ?_
   exact J_q (J_b (ih (x13,w64 (s9.2+1)))) rfl
 ·exact wD (hk s9.1) rfl
theorem zBw.ok (a1:(List (List ByteArray))) (a2:Int):Ok Tryz.prog 40 [sl 1 (eSl false 1 eStr) a1,iv a2] [] ((zBw a1 a2).map fun r=>(iv r,[])):=by
 refine zG c40 Tryz.f40 0 21 (fun q=>?_)
 unfold zBw
 refine J_g 2 [] [(0,sl 1 (eSl false 1 eStr) a1),(1,iv a2)] [] zB ?_
 refine J_d 12 [] [5] [(5,iv 0)] [] [] zB ?_
 refine uP (K0:=(fun r:Int=>some (iv r,[]))) (fun _=>rfl) (zBs.ok a1 q _ (fun v16=>J_j ?_) (a2,0))
 refine J_g 14 [] [(4,iv v16)] [] zB ?_
 exact zQ rfl
noncomputable def c20:Code:=(Tryz.f20.body).getD .skip
theorem uN.ok (a1:yD) (a2:Int):Ok Tryz.prog 20 [.ag (yD.enc false a1),iv a2] [] ((uN a1 a2).map fun r=>(iv r,[])):=by
 refine zG c20 Tryz.f20 0 12 (fun q=>?_)
 unfold uN
 refine J_g 2 [(0,0)] [(1,iv a2),(2,pp 0)] [(0,.box (yD.enc false a1))] zB ?_
 refine zA (fun x3 h4=>?_)
 refine J_g 6 [] [(1,iv x3)] [] (zD 3 (vG [(.tmp 6),(.tmp 7)] [35,3] (zBw.ok a1.Parts a2) h4) zB) ?_
 refine J_g 28 [] [(1,iv x3),(10,bv (decide (x3<0)))] [] zB ?_
 refine zF 10 (fun h5=>?_) (fun h5=>?_)
 ·refine J_g 116 [] [(4,iv (-1))] [] zB ?_
  exact zQ rfl
 ·refine J_g 30 [] [(4,iv x3)] [] zB ?_
  exact zQ rfl
noncomputable def c4:Code:=(Tryz.f4.body).getD .skip
theorem zCW.ok (a1:(List Pack)) (a2:(List Int)) (a3:(List Int)):Ok Tryz.prog 4 [sl 8 (Pack.enc false) a1,sl 1 zC a2,sl 1 zC a3] [] ((zCW a1 a2 a3).map fun r=>(bv r,[])):=by
 refine zG c4 Tryz.f4 0 111 (fun q=>?_)
 unfold zCW
 refine J_g 2 [] [(0,sl 8 (Pack.enc false) a1),(1,sl 1 zC a2),(2,sl 1 zC a3)] [] zB ?_
 refine J_d 12 [] [19] [(19,bv (decide ((a2.length:Int)>1048576)))] [] [] zB ?_
 refine zF 19 (fun h4=>?_) (fun h4=>?_)
 ·refine J_g 52 [] [(6,bv true)] [] zB ?_
  exact zQ rfl
 ·refine J_d 28 [] [19,22] [(22,bv (decide ((a3.length:Int)>1048576)))] [] [] zB ?_
  refine zF 22 (fun h5=>?_) (fun h5=>?_)
  ·refine J_g 116 [] [(6,bv true)] [] zB ?_
   exact zQ rfl
  ·refine J_d 30 [] [7,22] [(7,iv 1048576)] [] [] zB ?_
   refine zA (fun x6 h7=>?_)
   refine J_g 62 [] [(0,sl 8 (Pack.enc false) a1),(1,sl 1 zC a2),(2,sl 1 zC a3),(7,iv x6)] [] (zD 2 (vG [(.tmp 23),(.tmp 24)] [22,3] (kP.ok a1 1048576) h7) zB) ?_
   refine J_d 252 [] [7,27] [(27,bv (decide (x6<0)))] [] [] zB ?_
   refine zF 27 (fun h8=>?_) (fun h8=>?_)
   ·refine J_g 1012 [] [(6,bv true)] [] zB ?_
    exact zQ rfl
   ·refine zA (fun x9 h10=>?_)
    refine zA (fun x11 h12=>?_)
    refine zA (fun x13 h14=>?_)
    refine zA (fun x15 h16=>?_)
    refine J_d 254 [(7,4)] [8,27] [(8,pp 4)] [3,4] [(3,rE 1 (eSl true 1 eStr) x15.Parts),(4,.box [iv x15.Code,rr 3 x15.Parts])] (zD 1 (vC («as»:=[sl 8 (Pack.enc false) a1]) [(.tmp 28)] [22] false [] [] (.cons (.same rfl) (.nil)) (xO.ok a1) h10 (.own 0)) (zD 3 (vC («as»:=[sl 1 zC a2]) [(.tmp 30)] [23] false [] [] (.cons (.same rfl) (.nil)) (zH.ok a2) h12 (.own 1)) (zD 5 (vC («as»:=[sl 1 zC a3]) [(.tmp 32)] [23] false [] [] (.cons (.same rfl) (.nil)) (zH.ok a3) h14 (.own 2)) (zD 6 (vC («as»:=[rr 0 x9,rr 1 x11,rr 2 x13]) [(.tmp 29),(.tmp 31),(.tmp 33)] [28,23,23] true [(0,rE 8 (Pack.enc true) x9),(1,rE 1 zC x11),(2,rE 1 zC x13)] [] (.cons (zBr (.head _) (Pack.ro true) rfl) (.cons (zBr (.tail _ (.head _)) (fun _=>rfl) rfl) (.cons (zBr (.tail _ (.tail _ (.head _))) (fun _=>rfl) rfl) (.nil)))) (zDB.ok x9 x11 x13) h16 (.ag (.cons (.same rfl rfl) (.cons (.own 3) (.nil)))) (hbor:=fun _=>⟨fhN,(zGr (yD.fl _))⟩)) zB)))) ?_
    refine zA (fun x17 h18=>?_)
    refine J_d 510 [] [9] [(9,rr 5 x17)] [5] [(5,rE 8 (Pack.enc true) x17)] (zD 1 (vC («as»:=[sl 8 (Pack.enc false) a1]) [(.tmp 35)] [22] false [] [] (.cons (.same rfl) (.nil)) (xO.ok a1) h18 (.own 5)) zB) ?_
    refine zA (fun x19 h20=>?_)
    refine J_d 1022 [] [10] [(10,rr 6 x19)] [6] [(6,rE 1 zC x19)] (zD 1 (vC («as»:=[sl 1 zC a2]) [(.tmp 37)] [23] false [] [] (.cons (.same rfl) (.nil)) (zH.ok a2) h20 (.own 6)) zB) ?_
    refine zA (fun x21 h22=>?_)
    refine J_d 2046 [] [11] [(11,rr 7 x21)] [7] [(7,rE 1 zC x21)] (zD 1 (vC («as»:=[sl 1 zC a3]) [(.tmp 39)] [23] false [] [] (.cons (.same rfl) (.nil)) (zH.ok a3) h22 (.own 7)) zB) ?_
    refine zA (fun x23 h24=>?_)
    refine J_d 4094 [(4,9)] [12] [(12,pp 9)] [8,9] [(8,rE 1 (eSl true 1 eStr) x23.Parts),(9,.box [iv x23.Code,rr 8 x23.Parts])] (zD 3 (vC («as»:=[rr 5 x17,rr 6 x19,rr 7 x21]) [(.tmp 41),(.tmp 42),(.tmp 43)] [28,23,23] true [(5,rE 8 (Pack.enc true) x17),(6,rE 1 zC x19),(7,rE 1 zC x21)] [] (.cons (zBr (.head _) (Pack.ro true) rfl) (.cons (zBr (.tail _ (.head _)) (fun _=>rfl) rfl) (.cons (zBr (.tail _ (.tail _ (.head _))) (fun _=>rfl) rfl) (.nil)))) (zBi.ok x17 x19 x21) h24 (.ag (.cons (.same rfl rfl) (.cons (.own 8) (.nil)))) (hbor:=fun _=>⟨fhN,(zGr (yD.fl _))⟩)) zB) ?_
    refine zA (fun x25 h26=>?_)
    refine J_d 16380 [] [48] [(48,bv (!x25))] [] [] (zD 2 (vC («as»:=[.ag [iv x23.Code,rr 8 x23.Parts],.ag [iv x15.Code,rr 3 x15.Parts]]) [(.tmp 45),(.tmp 46)] [37,37] true [(8,rE 1 (eSl true 1 eStr) x23.Parts),(3,rE 1 (eSl true 1 eStr) x15.Parts)] [] (.cons (.ag (.cons (.same rfl) (.cons (zBr (.head _) (zD1 (fun _=>rfl)) rfl) (.nil)))) (.cons (.ag (.cons (.same rfl) (.cons (zBr (.tail _ (.head _)) (zD1 (fun _=>rfl)) rfl) (.nil)))) (.nil))) (vX.ok x23 x15) h26 (.same rfl rfl) (hbor:=fun _=>⟨fhN,yL⟩)) zB) ?_
    refine zF 48 (fun h27=>?_) (fun h27=>?_)
    ·refine J_g 65524 [] [(6,bv false)] [] zB ?_
     exact zQ rfl
    ·refine zA (fun x28 h29=>?_)
     refine zA (fun x30 h31=>?_)
     refine J_d 32764 [] [48,53] [(53,bv (!x30))] [] [] (zD 2 (vC («as»:=[sl 8 (Pack.enc false) a1]) [(.tmp 50)] [22] false [] [] (.cons (.same rfl) (.nil)) (xO.ok a1) h29 (.own 10)) (zD 3 (vC («as»:=[rr 5 x17,rr 10 x28]) [(.tmp 49),(.tmp 51)] [28,28] true [(5,rE 8 (Pack.enc true) x17),(10,rE 8 (Pack.enc true) x28)] [] (.cons (zBr (.head _) (Pack.ro true) rfl) (.cons (zBr (.tail _ (.head _)) (Pack.ro true) rfl) (.nil))) (kR.ok x17 x28) h31 (.same rfl rfl) (hbor:=fun _=>⟨fhN,yL⟩)) zB)) ?_
     refine zF 53 (fun h32=>?_) (fun h32=>?_)
     ·refine J_g 131060 [] [(6,bv false)] [] zB ?_
      exact zQ rfl
     ·refine zA (fun x33 h34=>?_)
      refine zA (fun x35 h36=>?_)
      refine J_d 65532 [] [53,58] [(58,bv (!x35))] [] [] (zD 2 (vC («as»:=[sl 1 zC a2]) [(.tmp 55)] [23] false [] [] (.cons (.same rfl) (.nil)) (zH.ok a2) h34 (.own 10)) (zD 3 (vC («as»:=[rr 6 x19,rr 10 x33]) [(.tmp 54),(.tmp 56)] [23,23] true [(6,rE 1 zC x19),(10,rE 1 zC x33)] [] (.cons (zBr (.head _) (fun _=>rfl) rfl) (.cons (zBr (.tail _ (.head _)) (fun _=>rfl) rfl) (.nil))) (wS.ok x19 x33) h36 (.same rfl rfl) (hbor:=fun _=>⟨fhN,yL⟩)) zB)) ?_
      refine zF 58 (fun h37=>?_) (fun h37=>?_)
      ·refine J_g 262132 [] [(6,bv false)] [] zB ?_
       exact zQ rfl
      ·refine zA (fun x38 h39=>?_)
       refine zA (fun x40 h41=>?_)
       refine J_d 131068 [] [58,63] [(63,bv (!x40))] [] [] (zD 2 (vC («as»:=[sl 1 zC a3]) [(.tmp 60)] [23] false [] [] (.cons (.same rfl) (.nil)) (zH.ok a3) h39 (.own 10)) (zD 3 (vC («as»:=[rr 7 x21,rr 10 x38]) [(.tmp 59),(.tmp 61)] [23,23] true [(7,rE 1 zC x21),(10,rE 1 zC x38)] [] (.cons (zBr (.head _) (fun _=>rfl) rfl) (.cons (zBr (.tail _ (.head _)) (fun _=>rfl) rfl) (.nil))) (wS.ok x21 x38) h41 (.same rfl rfl) (hbor:=fun _=>⟨fhN,yL⟩)) zB)) ?_
       refine zF 63 (fun h42=>?_) (fun h42=>?_)
       ·refine J_g 524276 [] [(6,bv false)] [] zB ?_
        exact zQ rfl
       ·refine J_d 131070 [] [13,63] [(13,iv 1)] [] [] zB ?_
        refine zA (fun x43 h44=>?_)
        refine J_g 262142 [] [(0,sl 8 (Pack.enc false) a1),(1,sl 1 zC a2),(2,sl 1 zC a3),(8,pp 4),(10,rr 6 x19),(11,rr 7 x21),(12,pp 9),(13,iv x43.1)] [(3,rE 1 (eSl true 1 eStr) x15.Parts),(4,.box [iv x15.Code,rr 3 x15.Parts]),(6,rE 1 zC x19),(7,rE 1 zC x21),(8,rE 1 (eSl true 1 eStr) x23.Parts),(9,.box [iv x23.Code,rr 8 x23.Parts])] (zD 2 (vC («as»:=[rr 5 x17,iv 1]) [(.tmp 64),(.tmp 65)] [28,3] false [(5,rE 8 (Pack.enc true) x17)] [5] (.cons (.rf rfl) (.cons (.same rfl) (.nil))) (zA6.ok x17 1) h44 (.same rfl rfl)) zB) ?_
        refine zA (fun x45 h46=>?_)
        refine J_g 524286 [] [(0,sl 8 (Pack.enc false) a1),(1,sl 1 zC a2),(2,sl 1 zC a3),(8,pp 4),(11,rr 7 x21),(12,pp 9),(13,iv x45.1)] [(3,rE 1 (eSl true 1 eStr) x15.Parts),(4,.box [iv x15.Code,rr 3 x15.Parts]),(7,rE 1 zC x21),(8,rE 1 (eSl true 1 eStr) x23.Parts),(9,.box [iv x23.Code,rr 8 x23.Parts])] (zD 2 (vC («as»:=[rr 6 x19,iv x43.1]) [(.tmp 67),(.tmp 68)] [23,3] false [(6,rE 1 zC x19)] [6] (.cons (.rf rfl) (.cons (.same rfl) (.nil))) (vD.ok x19 x43.1) h46 (.same rfl rfl)) zB) ?_
        refine zA (fun x47 h48=>?_)
        refine J_g 1048574 [] [(0,sl 8 (Pack.enc false) a1),(1,sl 1 zC a2),(2,sl 1 zC a3),(8,pp 4),(12,pp 9),(13,iv x47.1)] [(3,rE 1 (eSl true 1 eStr) x15.Parts),(4,.box [iv x15.Code,rr 3 x15.Parts]),(8,rE 1 (eSl true 1 eStr) x23.Parts),(9,.box [iv x23.Code,rr 8 x23.Parts])] (zD 2 (vC («as»:=[rr 7 x21,iv x45.1]) [(.tmp 70),(.tmp 71)] [23,3] false [(7,rE 1 zC x21)] [7] (.cons (.rf rfl) (.cons (.same rfl) (.nil))) (vD.ok x21 x45.1) h48 (.same rfl rfl)) zB) ?_
        refine vW (atI c4 4194301) (fun v52:Bool=>St.mk' [(0,sl 8 (Pack.enc false) a1),(1,sl 1 zC a2),(2,sl 1 zC a3),(8,pp 4),(12,pp 9),(80,bv v52)] [(3,rE 1 (eSl true 1 eStr) x15.Parts),(4,.box [iv x15.Code,rr 3 x15.Parts]),(8,rE 1 (eSl true 1 eStr) x23.Parts),(9,.box [iv x23.Code,rr 8 x23.Parts])]) (fun v52=>?_) (fun jv52=>?_)
        ·refine zF 80 (fun h53=>?_) (fun h53=>?_)
         ·refine J_g 16777204 [] [(6,bv false)] [] zB ?_
          exact zQ rfl
         ·refine J_d 4194302 [] [14,80] [(14,iv 1)] [] [] zB ?_
          refine zA (fun x54 h55=>?_)
          refine J_g 8388606 [] [(0,sl 8 (Pack.enc false) a1),(1,sl 1 zC a2),(2,sl 1 zC a3),(8,pp 4),(12,pp 9),(14,iv x54.1)] [(3,rE 1 (eSl true 1 eStr) x15.Parts),(4,.box [iv x15.Code,rr 3 x15.Parts]),(8,rE 1 (eSl true 1 eStr) x54.2),(9,.box [iv x23.Code,rr 8 x23.Parts])] (zD 2 (vC («as»:=[.ag [iv x23.Code,rr 8 x23.Parts],iv 1]) [(.tmp 81),(.tmp 82)] [37,3] false [(8,rE 1 (eSl true 1 eStr) x23.Parts)] [8] (.cons (.ag (.cons (.same rfl) (.cons (.rf rfl) (.nil)))) (.cons (.same rfl) (.nil))) (kI.ok x23 1) h55 (.same rfl rfl)) zB) ?_
          refine zA (fun u56 h57=>?_)
          refine zFr (σ':=St.mk' [(0,sl 8 (Pack.enc false) a1),(1,sl 1 zC a2),(2,sl 1 zC a3),(8,pp 4),(12,pp 9),(14,iv x54.1)] [(3,rE 1 (eSl true 1 eStr) x15.Parts),(4,.box [iv x15.Code,rr 3 x15.Parts]),(8,rE 1 (eSl true 1 eStr) x54.2),(9,.box [iv x23.Code,rr 8 x54.2])]) (by simp only [rr,zAO h57]) ?_
          refine J_d 16777214 [] [15] [(15,iv 1)] [] [] zB ?_
          refine zA (fun x58 h59=>?_)
          refine J_g 33554430 [] [(0,sl 8 (Pack.enc false) a1),(1,sl 1 zC a2),(2,sl 1 zC a3),(8,pp 4),(12,pp 9),(14,iv x54.1),(15,iv x58)] [(3,rE 1 (eSl true 1 eStr) x15.Parts),(4,.box [iv x15.Code,rr 3 x15.Parts]),(8,rE 1 (eSl true 1 eStr) x54.2),(9,.box [iv x23.Code,rr 8 x54.2])] (zD 2 (vC («as»:=[.ag [iv x23.Code,rr 8 x54.2],iv 1]) [(.tmp 84),(.tmp 85)] [37,3] true [(8,rE 1 (eSl true 1 eStr) x54.2)] [] (.cons (.ag (.cons (.same rfl) (.cons (zBr (.head _) (zD1 (fun _=>rfl)) rfl) (.nil)))) (.cons (.same rfl) (.nil))) (uN.ok ({Code:=x23.Code,Parts:=x54.2}:yD) 1) h59 (.same rfl rfl) (hbor:=fun _=>⟨fhN,yL⟩)) zB) ?_
          refine J_d 134217724 [] [88] [(88,bv (decide (x58<0)))] [] [] zB ?_
          refine zF 88 (fun h60=>?_) (fun h60=>?_)
          ·refine J_g 536870900 [] [(6,bv false)] [] zB ?_
           exact zQ rfl
          ·refine J_d 268435452 [] [15,88,91] [(91,bv (x58 !=x54.1))] [] [] zB ?_
           refine zF 91 (fun h61=>?_) (fun h61=>?_)
           ·refine J_g 1073741812 [] [(6,bv false)] [] zB ?_
            exact zQ rfl
           ·refine zA (fun x62 h63=>?_)
            refine zA (fun x64 h65=>?_)
            refine zA (fun x66 h67=>?_)
            refine zA (fun x68 h69=>?_)
            refine J_d 268435454 [(7,14)] [0,1,2,16,91] [(16,pp 14)] [13,14] [(13,rE 1 (eSl true 1 eStr) x68.Parts),(14,.box [iv x68.Code,rr 13 x68.Parts])] (zD 1 (vC («as»:=[sl 8 (Pack.enc false) a1]) [(.tmp 92)] [22] false [] [] (.cons (.same rfl) (.nil)) (xO.ok a1) h63 (.own 10)) (zD 3 (vC («as»:=[sl 1 zC a2]) [(.tmp 94)] [23] false [] [] (.cons (.same rfl) (.nil)) (zH.ok a2) h65 (.own 11)) (zD 5 (vC («as»:=[sl 1 zC a3]) [(.tmp 96)] [23] false [] [] (.cons (.same rfl) (.nil)) (zH.ok a3) h67 (.own 12)) (zD 6 (vC («as»:=[rr 10 x62,rr 11 x64,rr 12 x66]) [(.tmp 93),(.tmp 95),(.tmp 97)] [28,23,23] true [(10,rE 8 (Pack.enc true) x62),(11,rE 1 zC x64),(12,rE 1 zC x66)] [] (.cons (zBr (.head _) (Pack.ro true) rfl) (.cons (zBr (.tail _ (.head _)) (fun _=>rfl) rfl) (.cons (zBr (.tail _ (.tail _ (.head _))) (fun _=>rfl) rfl) (.nil)))) (zBi.ok x62 x64 x66) h69 (.ag (.cons (.same rfl rfl) (.cons (.own 13) (.nil)))) (hbor:=fun _=>⟨fhN,(zGr (yD.fl _))⟩)) zB)))) ?_
            refine zA (fun x70 h71=>?_)
            refine J_d 1073741820 [] [8,16,102] [(102,bv (!x70))] [3,4,13,14] [] (zD 2 (vC («as»:=[.ag [iv x68.Code,rr 13 x68.Parts],.ag [iv x15.Code,rr 3 x15.Parts]]) [(.tmp 99),(.tmp 100)] [37,37] true [(13,rE 1 (eSl true 1 eStr) x68.Parts),(3,rE 1 (eSl true 1 eStr) x15.Parts)] [] (.cons (.ag (.cons (.same rfl) (.cons (zBr (.head _) (zD1 (fun _=>rfl)) rfl) (.nil)))) (.cons (.ag (.cons (.same rfl) (.cons (zBr (.tail _ (.head _)) (zD1 (fun _=>rfl)) rfl) (.nil)))) (.nil))) (vX.ok x68 x15) h71 (.same rfl rfl) (hbor:=fun _=>⟨fhN,yL⟩)) zB) ?_
            refine zF 102 (fun h72=>?_) (fun h72=>?_)
            ·refine J_g 4294967284 [] [(6,bv false)] [] zB ?_
             exact zQ rfl
            ·refine J_d 1073741822 [] [15,102] [(15,iv 1)] [] [] zB ?_
             refine zA (fun x73 h74=>?_)
             refine J_g 2147483646 [] [(14,iv x54.1),(15,iv x73)] [] (zD 2 (vC («as»:=[.ag [iv x23.Code,rr 8 x54.2],iv 1]) [(.tmp 103),(.tmp 104)] [37,3] true [(8,rE 1 (eSl true 1 eStr) x54.2)] [] (.cons (.ag (.cons (.same rfl) (.cons (zBr (.head _) (zD1 (fun _=>rfl)) rfl) (.nil)))) (.cons (.same rfl) (.nil))) (uN.ok ({Code:=x23.Code,Parts:=x54.2}:yD) 1) h74 (.same rfl rfl) (hbor:=fun _=>⟨fhN,yL⟩)) zB) ?_
             refine J_d 8589934588 [] [107] [(107,bv (decide (x73<0)))] [] [] zB ?_
             refine zF 107 (fun h75=>?_) (fun h75=>?_)
             ·refine J_g 34359738356 [] [(6,bv false)] [] zB ?_
              exact zQ rfl
             ·refine J_g 17179869180 [] [(110,bv (x73 !=x54.1))] [] zB ?_
              refine zF 110 (fun h76=>?_) (fun h76=>?_)
              ·refine J_g 68719476724 [] [(6,bv false)] [] zB ?_
               exact zQ rfl
              ·refine J_g 17179869182 [] [(6,bv true)] [] zB ?_
               exact zQ rfl
        ·refine tJ (fun h49=>?_) (fun h49=>?_)
         ·refine J_d 4194300 [] [13,80] [(80,bv true)] [] [] (uE 2 [(74,bv (decide (x47.1<0)))] [] h49 zB) ?_
          exact wD (J_j (jv52 true)) rfl
         ·refine zA (fun x50 h51=>?_)
          refine J_d 4194300 [] [13,80] [(80,bv (!x50))] [] [] (uE 2 [(74,bv (decide (x47.1<0)))] [] h49 (zCR 5 2 75 false (vC («as»:=[.ag [iv x23.Code,rr 8 x23.Parts],.ag [iv x15.Code,rr 3 x15.Parts]]) [(.tmp 76),(.tmp 77)] [37,37] true [(8,rE 1 (eSl true 1 eStr) x23.Parts),(3,rE 1 (eSl true 1 eStr) x15.Parts)] [] (.cons (.ag (.cons (.same rfl) (.cons (zBr (.head _) (zD1 (fun _=>rfl)) rfl) (.nil)))) (.cons (.ag (.cons (.same rfl) (.cons (zBr (.tail _ (.head _)) (zD1 (fun _=>rfl)) rfl) (.nil)))) (.nil))) (vX.ok x23 x15) h51 (.same rfl rfl) (hbor:=fun _=>⟨fhN,yL⟩)) zB)) ?_
          exact wD (J_j (jv52 (!x50))) rfl
noncomputable def c21:Code:=(Tryz.f21.body).getD .skip
theorem zEP.ok (a1:(List Pack)) (a2:(List Int)) (a3:(List Int)):Ok Tryz.prog 21 [sl 8 (Pack.enc false) a1,sl 1 zC a2,sl 1 zC a3] [] ((zEP a1 a2 a3).map fun r=>(.ag [iv r.Code,so 1 (eSl false 1 zC) r.Sets],[])):=by
 refine zG c21 Tryz.f21 0 27 (fun q=>?_)
 unfold zEP
 refine J_d 2 [(0,0)] [6] [(6,pp 0)] [0] [(0,.box [iv 0,nv])] zB ?_
 refine zA (fun x4 h5=>?_)
 refine J_g 12 [] [(0,sl 8 (Pack.enc false) a1),(1,sl 1 zC a2),(2,sl 1 zC a3),(6,pp 0),(7,iv x4)] [(0,.box [iv 0,nv])] (zD 3 (vG [(.tmp 10),(.tmp 11),(.tmp 12)] [28,23,23] (kM.ok a1 a2 a3) h5) zB) ?_
 refine J_d 26 [] [15] [(15,bv (x4 !=0))] [] [] zB ?_
 refine zF 15 (fun h6=>?_) (fun h6=>?_)
 ·refine J_g 108 [] [(6,pp 0)] [(0,.box [iv x4,nv])] zB ?_
  exact zEl (ds:=[.ag [iv x4,nv]]) (ds':=[.ag [iv x4,so 1 (eSl false 1 zC) ([]:List (List Int))]]) (.cons (.ag (.keep rfl (.nilsl true 1 (.nil)))) (.nil) (by decide)) rfl
 ·refine zA (fun x7 h8=>?_)
  refine J_g 14 [] [(6,pp 0),(9,rr 2 x7.2)] [(0,.box [iv 0,nv]),(2,rE 1 (eSl false 1 zC) x7.2)] (zD 3 (vC («as»:=[sl 8 (Pack.enc false) a1,sl 1 zC a2,sl 1 zC a3]) [(.tmp 19),(.tmp 20),(.tmp 21)] [28,23,23] false [] [] (.cons (.same rfl) (.cons (.same rfl) (.cons (.same rfl) (.nil)))) (zBh.ok a1 a2 a3) h8 (.tu (.cons (.own 1) (.cons (.own 2) (.nil))))) zB) ?_
  refine J_g 30 [] [(6,pp 0)] [(0,.box [iv 0,rr 2 x7.2]),(2,rE 1 (eSl false 1 zC) x7.2)] zB ?_
  exact zEl (ds:=[.ag [iv 0,rr 2 x7.2]]) (ds':=[.ag [iv 0,so 1 (eSl false 1 zC) x7.2]]) (.cons (.ag (.keep rfl (.move (.tail _ (.head _)) (List.length_map _) (by decide) (.nil)))) (.nil) (by decide)) rfl
noncomputable def c22:Code:=(Tryz.f22.body).getD .skip
theorem zDP.ok (a1:(List Pack)) (a2:(List Int)) (a3:(List Int)):Ok Tryz.prog 22 [sl 8 (Pack.enc false) a1,sl 1 zC a2,sl 1 zC a3] [] ((zDP a1 a2 a3).map fun r=>(.ag (xE.enc true r),[])):=by
 refine zG c22 Tryz.f22 0 21 (fun q=>?_)
 unfold zDP
 refine J_d 2 [(0,0)] [6] [(6,pp 0)] [0] [(0,.box [iv 0,nv])] zB ?_
 refine zA (fun x4 h5=>?_)
 refine J_g 6 [] [(6,pp 0),(8,rr 2 x4.2.1),(9,iv x4.2.2)] [(0,.box [iv 0,nv]),(2,rE 1 (eSl true 1 zC) x4.2.1)] (zD 3 (vC («as»:=[sl 8 (Pack.enc false) a1,sl 1 zC a2,sl 1 zC a3]) [(.tmp 11),(.tmp 12),(.tmp 13)] [28,23,23] false [] [] (.cons (.same rfl) (.cons (.same rfl) (.cons (.same rfl) (.nil)))) (zDb.ok a1 a2 a3) h5 (.tu (.cons (.own 1) (.cons (.own 2) (.cons (.same rfl rfl) (.nil)))))) zB) ?_
 refine J_g 14 [] [(6,pp 0)] [(0,.box [iv x4.2.2,rr 2 x4.2.1]),(2,rE 1 (eSl true 1 zC) x4.2.1)] zB ?_
 exact zEl (ds:=[.ag [iv x4.2.2,rr 2 x4.2.1]]) (ds':=[.ag [iv x4.2.2,so 1 (eSl true 1 zC) x4.2.1]]) (.cons (.ag (.keep rfl (.move (.tail _ (.head _)) (List.length_map _) (by decide) (.nil)))) (.nil) (by decide)) rfl
noncomputable def c41:Code:=(Tryz.f41.body).getD .skip
theorem zDm.ok (a1:(List (List Int))) (a2:(List (List Int))) (q:Wd) (kn:Unit→Option (D×List Ent)) (hk:∀v:Unit,J (q.g Tryz.prog 41 0 27) c41 (atI c41 15) (St.mk' [] []) (some v) kn):
  ∀s12:Int,J (q.g Tryz.prog 41 0 27) c41 (atI c41 116) (St.mk' [(0,sl 1 (eSl false 1 zC) a1),(1,sl 1 (eSl false 1 zC) a2),(5,iv s12)] []) (zDm a1 a2 s12) (Fl.go (fun r:Bool=>some (bv r,[])) kn):=by
 refine tV (fun g ih s12=>?_)
 unfold zFb
 refine J_d 464 [] [14] [(14,bv (decide (s12< (a1.length:Int))))] [] [] zB ?_
 refine zF 14 (fun h13=>?_) (fun h13=>?_)
 ·refine zA (fun x14 h15=>?_)
  refine zA (fun x16 h17=>?_)
  refine zA (fun x18 h19=>?_)
  refine J_d 1864 [] [14,26] [(26,bv (!x18))] [] [] (zD 2 (tT (kk:=.i64) 43 23 1 (eSl false 1 zC) (.tmp 17) (.tmp 18) h15) (zD 6 (tT (kk:=.i64) 43 23 1 (eSl false 1 zC) (.tmp 21) (.tmp 22) h17) (zD 8 (vG [(.tmp 20),(.tmp 24)] [23,23] (wS.ok x14 x16) h19) zB))) ?_
  refine zF 26 (fun h20=>?_) (fun h20=>?_)
  ·refine J_g 7460 [] [(4,bv false)] [] zB ?_
   exact zQ rfl
  ·refine J_d 467 [] [5,26] [(5,iv (w64 (s12+1)))] [] [] zB ?_
   exact J_q (J_b (ih (w64 (s12+1)))) rfl
 ·exact wD (hk ()) rfl
theorem zDF.ok (a1:(List (List Int))) (a2:(List (List Int))):Ok Tryz.prog 41 [sl 1 (eSl false 1 zC) a1,sl 1 (eSl false 1 zC) a2] [] ((zDF a1 a2).map fun r=>(bv r,[])):=by
 refine zG c41 Tryz.f41 0 27 (fun q=>?_)
 unfold zDF
 refine J_g 2 [] [(0,sl 1 (eSl false 1 zC) a1),(1,sl 1 (eSl false 1 zC) a2)] [] zB ?_
 refine J_d 12 [] [10] [(10,bv ((a1.length:Int) !=(a2.length:Int)))] [] [] zB ?_
 refine zF 10 (fun h3=>?_) (fun h3=>?_)
 ·refine J_g 52 [] [(4,bv false)] [] zB ?_
  exact zQ rfl
 ·refine J_d 28 [] [5,10] [(5,iv 0)] [] [] zB ?_
  refine uP (K0:=(fun r:Bool=>some (bv r,[]))) (fun _=>rfl) (zDm.ok a1 a2 q _ (fun v21=>J_j ?_) 0)
  refine J_g 30 [] [(4,bv true)] [] zB ?_
  exact zQ rfl
noncomputable def c23:Code:=(Tryz.f23.body).getD .skip
theorem uF.ok (a1:xE) (a2:xE):Ok Tryz.prog 23 [.ag (xE.enc false a1),.ag (xE.enc false a2)] [] ((uF a1 a2).map fun r=>(bv r,[])):=by
 refine zG c23 Tryz.f23 0 16 (fun q=>?_)
 unfold uF
 refine J_g 2 [(0,0),(1,1)] [(2,pp 0),(3,pp 1)] [(0,.box (xE.enc false a1)),(1,.box (xE.enc false a2))] zB ?_
 refine J_d 12 [] [9] [(9,bv (a1.Code !=a2.Code))] [] [] zB ?_
 refine zF 9 (fun h3=>?_) (fun h3=>?_)
 ·refine J_g 52 [] [(4,bv false)] [] zB ?_
  exact zQ rfl
 ·refine zA (fun x4 h5=>?_)
  refine J_g 28 [] [(15,bv (!x4))] [] (zD 4 (vG [(.tmp 11),(.tmp 13)] [43,43] (zDF.ok a1.Sets a2.Sets) h5) zB) ?_
  refine zF 15 (fun h6=>?_) (fun h6=>?_)
  ·refine J_g 116 [] [(4,bv false)] [] zB ?_
   exact zQ rfl
  ·refine J_g 30 [] [(4,bv true)] [] zB ?_
   exact zQ rfl
noncomputable def c42:Code:=(Tryz.f42.body).getD .skip
theorem zBt.ok (q:Wd) (kn:((List (List Int))×Int)→Option (D×List Ent)) (hk:∀v:((List (List Int))×Int),J (q.g Tryz.prog 42 1 19) c42 (atI c42 7) (St.mk' [(1,iv v.2)] [(0,rE 1 (eSl true 1 zC) v.1)]) (some v) kn):
  ∀s10:((List (List Int))×Int×Int),J (q.g Tryz.prog 42 1 19) c42 (atI c42 52) (St.mk' [(0,rr 0 s10.1),(1,iv s10.2.1),(5,iv s10.2.2)] [(0,rE 1 (eSl true 1 zC) s10.1)]) (zBt s10) kn:=by
 refine tV (fun g ih s10=>?_)
 unfold zE4
 refine J_d 208 [] [9] [(9,bv (decide (s10.2.2< (s10.1.length:Int))))] [] [] zB ?_
 refine zF 9 (fun h11=>?_) (fun h11=>?_)
 ·refine zA (fun x12 h13=>?_)
  refine zF2 (ix:=s10.2.2) (enc:=(eSl true 1 zC)) 0 0 1 h13 rfl rfl (by kernel_rfl) ?_
  refine zEA [(0,rr 0 s10.1),(1,iv s10.2.1),(5,iv s10.2.2),(9,bv true)] [(0,.lent 1 (s10.1.map (eSl true 1 zC)) s10.2.2.toNat 0 1 x12.length),(1,rE 1 zC x12)] (by kernel_rfl) ?_
  refine zA (fun x14 h15=>?_)
  refine J_g 420 [] [(0,rr 0 s10.1),(1,iv x14.1),(5,iv s10.2.2)] [(0,.lent 1 (s10.1.map (eSl true 1 zC)) s10.2.2.toNat 0 1 x12.length),(1,rE 1 zC x14.2)] (zD 2 (zIE (kk:=.i64) 43 23 1 0 (eSl true 1 zC) (.tmp 12) (.tmp 13) s10.2.2.toNat 0 1 x12.length h13) (zD 3 (zIB 23 0 (.tmp 14) 1 (eSl true 1 zC) s10.1 s10.2.2.toNat 0 1 x12.length) (zD 5 (vC («as»:=[rr 1 x12,iv s10.2.1]) [(.tmp 15),(.tmp 16)] [23,3] false [(1,rE 1 zC x12)] [1] (.cons (.rf rfl) (.cons (.same rfl) (.nil))) (vD.ok x12 s10.2.1) h15 (.same rfl rfl)) zB))) ?_
  refine zA (fun u16 h17=>?_)
  refine zGm (ix:=s10.2.2) (enc:=(eSl true 1 zC)) (b:=x14.2) 0 0 1 h13 rfl rfl rfl rfl (zAO h17) (Nat.le_of_ble_eq_true rfl) ((List.length_map _).trans (zAO h17)) ?_
  refine zEA [(0,rr 0 s10.1),(1,iv x14.1),(5,iv s10.2.2)] [(0,rE 1 (eSl true 1 zC) (s10.1.set s10.2.2.toNat x14.2))] (by kernel_rfl) ?_
  refine zFr (σ':=St.mk' [(0,rr 0 (s10.1.set s10.2.2.toNat x14.2)),(1,iv x14.1),(5,iv s10.2.2)] [(0,rE 1 (eSl true 1 zC) (s10.1.set s10.2.2.toNat x14.2))]) (by simp only [rr,List.length_set]) ?_
  refine J_d 211 [] [5] [(5,iv (w64 (s10.2.2+1)))] [] [] zB ?_
  exact J_q (J_b (ih (s10.1.set s10.2.2.toNat x14.2,x14.1,w64 (s10.2.2+1)))) rfl
 ·exact wD (hk (s10.1,s10.2.1)) rfl
theorem zB3.ok (a1:(List (List Int))) (a2:Int):Ok Tryz.prog 42 [rr 0 a1,iv a2] [rE 1 (eSl true 1 zC) a1] ((zB3 a1 a2).map fun r=>(iv r.1,[rE 1 (eSl true 1 zC) r.2])):=by
 refine zG c42 Tryz.f42 1 19 (fun q=>?_)
 unfold zB3
 refine J_g 2 [] [(0,rr 0 a1),(1,iv a2)] [(0,rE 1 (eSl true 1 zC) a1)] zB ?_
 refine J_d 12 [] [5] [(5,iv 0)] [] [] zB ?_
 refine zE2 (zBt.ok q _ (fun v18=>J_j ?_) (a1,a2,0))
 refine J_d 14 [] [1,4] [(4,iv v18.2)] [] [] zB ?_
 exact zQ rfl
noncomputable def c24:Code:=(Tryz.f24.body).getD .skip
theorem kX.ok (a1:xE) (a2:Int):Ok Tryz.prog 24 [.ag [iv a1.Code,rr 0 a1.Sets],iv a2] [rE 1 (eSl true 1 zC) a1.Sets] ((kX a1 a2).map fun r=>(iv r.1,[rE 1 (eSl true 1 zC) r.2])):=by
 refine zG c24 Tryz.f24 1 10 (fun q=>?_)
 unfold kX
 refine J_d 2 [(0,1)] [0,2] [(2,pp 1)] [1] [(1,.box [iv a1.Code,rr 0 a1.Sets])] zB ?_
 refine zA (fun x3 h4=>?_)
 refine J_g 6 [] [(1,iv x3.1)] [(0,rE 1 (eSl true 1 zC) x3.2)] (zD 3 (vC («as»:=[rr 0 a1.Sets,iv a2]) [(.tmp 6),(.tmp 7)] [43,3] false [(0,rE 1 (eSl true 1 zC) a1.Sets)] [0] (.cons (.rf rfl) (.cons (.same rfl) (.nil))) (zB3.ok a1.Sets a2) h4 (.same rfl rfl)) zB) ?_
 refine zA (fun u5 h6=>?_)
 refine J_d 14 [] [1,4] [(4,iv x3.1)] [] [] zB ?_
 exact zQ rfl
noncomputable def c74:Code:=(Tryz.f74.body).getD .skip
theorem zC6.ok (a1:(List Int)) (q:Wd) (kn:Int→Option (D×List Ent)) (hk:∀v:Int,J (q.g Tryz.prog 74 0 21) c74 (atI c74 7) (St.mk' [(1,iv v)] []) (some v) kn):
  ∀s7:(Int×Int),J (q.g Tryz.prog 74 0 21) c74 (atI c74 52) (St.mk' [(0,sl 1 zC a1),(1,iv s7.1),(5,iv s7.2)] []) (zC6 a1 s7) (Fl.go (fun r:Int=>some (iv r,[])) kn):=by
 refine tV (fun g ih s7=>?_)
 unfold zEQ
 refine J_d 208 [] [9] [(9,bv (decide (s7.2< (a1.length:Int))))] [] [] zB ?_
 refine zF 9 (fun h8=>?_) (fun h8=>?_)
 ·refine zA (fun x9 h10=>?_)
  refine J_d 1680 [] [9,17] [(17,bv (x9 !=s7.1))] [] [] (zD 2 (tT (kk:=.i64) 23 2 1 zC (.tmp 12) (.tmp 13) h10) zB) ?_
  refine zF 17 (fun h11=>?_) (fun h11=>?_)
  ·refine J_g 6724 [] [(4,iv (-1))] [] zB ?_
   exact zQ rfl
  ·refine J_g 841 [] [(0,sl 1 zC a1),(1,iv (w64 (s7.1+1))),(5,iv s7.2)] [] zB ?_
   refine J_d 211 [] [5] [(5,iv (w64 (s7.2+1)))] [] [] zB ?_
   exact J_q (J_b (ih (w64 (s7.1+1),w64 (s7.2+1)))) rfl
 ·exact wD (hk s7.1) rfl
theorem zCH.ok (a1:(List Int)) (a2:Int):Ok Tryz.prog 74 [sl 1 zC a1,iv a2] [] ((zCH a1 a2).map fun r=>(iv r,[])):=by
 refine zG c74 Tryz.f74 0 21 (fun q=>?_)
 unfold zCH
 refine J_g 2 [] [(0,sl 1 zC a1),(1,iv a2)] [] zB ?_
 refine J_d 12 [] [5] [(5,iv 0)] [] [] zB ?_
 refine uP (K0:=(fun r:Int=>some (iv r,[]))) (fun _=>rfl) (zC6.ok a1 q _ (fun v12=>J_j ?_) (a2,0))
 refine J_g 14 [] [(4,iv v12)] [] zB ?_
 exact zQ rfl
noncomputable def c43:Code:=(Tryz.f43.body).getD .skip
theorem zBM.ok (a1:(List (List Int))) (q:Wd) (kn:Int→Option (D×List Ent)) (hk:∀v:Int,J (q.g Tryz.prog 43 0 21) c43 (atI c43 7) (St.mk' [(1,iv v)] []) (some v) kn):
  ∀s9:(Int×Int),J (q.g Tryz.prog 43 0 21) c43 (atI c43 52) (St.mk' [(0,sl 1 (eSl false 1 zC) a1),(1,iv s9.1),(5,iv s9.2)] []) (zBM a1 s9) (Fl.go (fun r:Int=>some (iv r,[])) kn):=by
 refine tV (fun g ih s9=>?_)
 unfold zEE
 refine J_d 208 [] [9] [(9,bv (decide (s9.2< (a1.length:Int))))] [] [] zB ?_
 refine zF 9 (fun h10=>?_) (fun h10=>?_)
 ·refine zA (fun x11 h12=>?_)
  refine zA (fun x13 h14=>?_)
  refine J_g 840 [] [(0,sl 1 (eSl false 1 zC) a1),(1,iv x13),(5,iv s9.2)] [] (zD 2 (tT (kk:=.i64) 43 23 1 (eSl false 1 zC) (.tmp 12) (.tmp 13) h12) (zD 5 (vG [(.tmp 15),(.tmp 16)] [23,3] (zCH.ok x11 s9.1) h14) zB)) ?_
  refine J_d 1682 [] [19] [(19,bv (decide (x13<0)))] [] [] zB ?_
  refine zF 19 (fun h15=>?_) (fun h15=>?_)
  ·refine J_g 6732 [] [(4,iv (-1))] [] zB ?_
   exact zQ rfl
  ·refine J_d 211 [] [5,19] [(5,iv (w64 (s9.2+1)))] [] [] zB ?_
   exact J_q (J_b (ih (x13,w64 (s9.2+1)))) rfl
 ·exact wD (hk s9.1) rfl
theorem zBY.ok (a1:(List (List Int))) (a2:Int):Ok Tryz.prog 43 [sl 1 (eSl false 1 zC) a1,iv a2] [] ((zBY a1 a2).map fun r=>(iv r,[])):=by
 refine zG c43 Tryz.f43 0 21 (fun q=>?_)
 unfold zBY
 refine J_g 2 [] [(0,sl 1 (eSl false 1 zC) a1),(1,iv a2)] [] zB ?_
 refine J_d 12 [] [5] [(5,iv 0)] [] [] zB ?_
 refine uP (K0:=(fun r:Int=>some (iv r,[]))) (fun _=>rfl) (zBM.ok a1 q _ (fun v16=>J_j ?_) (a2,0))
 refine J_g 14 [] [(4,iv v16)] [] zB ?_
 exact zQ rfl
noncomputable def c25:Code:=(Tryz.f25.body).getD .skip
theorem tC.ok (a1:xE) (a2:Int):Ok Tryz.prog 25 [.ag (xE.enc false a1),iv a2] [] ((tC a1 a2).map fun r=>(iv r,[])):=by
 refine zG c25 Tryz.f25 0 12 (fun q=>?_)
 unfold tC
 refine J_g 2 [(0,0)] [(1,iv a2),(2,pp 0)] [(0,.box (xE.enc false a1))] zB ?_
 refine zA (fun x3 h4=>?_)
 refine J_g 6 [] [(1,iv x3)] [] (zD 3 (vG [(.tmp 6),(.tmp 7)] [43,3] (zBY.ok a1.Sets a2) h4) zB) ?_
 refine J_g 28 [] [(1,iv x3),(10,bv (decide (x3<0)))] [] zB ?_
 refine zF 10 (fun h5=>?_) (fun h5=>?_)
 ·refine J_g 116 [] [(4,iv (-1))] [] zB ?_
  exact zQ rfl
 ·refine J_g 30 [] [(4,iv x3)] [] zB ?_
  exact zQ rfl
noncomputable def c5:Code:=(Tryz.f5.body).getD .skip
theorem zEk.ok (a1:(List Pack)) (a2:(List Int)) (a3:(List Int)):Ok Tryz.prog 5 [sl 8 (Pack.enc false) a1,sl 1 zC a2,sl 1 zC a3] [] ((zEk a1 a2 a3).map fun r=>(bv r,[])):=by
 refine zG c5 Tryz.f5 0 111 (fun q=>?_)
 unfold zEk
 refine J_g 2 [] [(0,sl 8 (Pack.enc false) a1),(1,sl 1 zC a2),(2,sl 1 zC a3)] [] zB ?_
 refine J_d 12 [] [19] [(19,bv (decide ((a2.length:Int)>1048576)))] [] [] zB ?_
 refine zF 19 (fun h4=>?_) (fun h4=>?_)
 ·refine J_g 52 [] [(6,bv true)] [] zB ?_
  exact zQ rfl
 ·refine J_d 28 [] [19,22] [(22,bv (decide ((a3.length:Int)>1048576)))] [] [] zB ?_
  refine zF 22 (fun h5=>?_) (fun h5=>?_)
  ·refine J_g 116 [] [(6,bv true)] [] zB ?_
   exact zQ rfl
  ·refine J_d 30 [] [7,22] [(7,iv 1048576)] [] [] zB ?_
   refine zA (fun x6 h7=>?_)
   refine J_g 62 [] [(0,sl 8 (Pack.enc false) a1),(1,sl 1 zC a2),(2,sl 1 zC a3),(7,iv x6)] [] (zD 2 (vG [(.tmp 23),(.tmp 24)] [22,3] (kP.ok a1 1048576) h7) zB) ?_
   refine J_d 252 [] [7,27] [(27,bv (decide (x6<0)))] [] [] zB ?_
   refine zF 27 (fun h8=>?_) (fun h8=>?_)
   ·refine J_g 1012 [] [(6,bv true)] [] zB ?_
    exact zQ rfl
   ·refine zA (fun x9 h10=>?_)
    refine zA (fun x11 h12=>?_)
    refine zA (fun x13 h14=>?_)
    refine zA (fun x15 h16=>?_)
    refine J_d 254 [(7,4)] [8,27] [(8,pp 4)] [3,4] [(3,rE 1 (eSl false 1 zC) x15.Sets),(4,.box [iv x15.Code,rr 3 x15.Sets])] (zD 1 (zP0 (d2:=sl 8 (Pack.enc false) x9) (vC («as»:=[sl 8 (Pack.enc false) a1]) [(.tmp 28)] [22] false [] [] (.cons (.same rfl) (.nil)) (xO.ok a1) h10 (.own 0)) (.rf (Nat.le_of_eq (by simp)) (zFD (enc:=(Pack.enc true)) (enc':=(Pack.enc false)) (Pack.ro true) x9 rfl rfl))) (zD 3 (zP0 (d2:=sl 1 zC x11) (vC («as»:=[sl 1 zC a2]) [(.tmp 30)] [23] false [] [] (.cons (.same rfl) (.nil)) (zH.ok a2) h12 (.own 1)) (.rf (Nat.le_of_eq (by simp)) (zFD (enc:=zC) (enc':=zC) (fun _=>rfl) x11 rfl rfl))) (zD 5 (zP0 (d2:=sl 1 zC x13) (vC («as»:=[sl 1 zC a3]) [(.tmp 32)] [23] false [] [] (.cons (.same rfl) (.nil)) (zH.ok a3) h14 (.own 2)) (.rf (Nat.le_of_eq (by simp)) (zFD (enc:=zC) (enc':=zC) (fun _=>rfl) x13 rfl rfl))) (zD 6 (vC («as»:=[sl 8 (Pack.enc false) x9,sl 1 zC x11,sl 1 zC x13]) [(.tmp 29),(.tmp 31),(.tmp 33)] [28,23,23] false [] [] (.cons (.same rfl) (.cons (.same rfl) (.cons (.same rfl) (.nil)))) (zEP.ok x9 x11 x13) h16 (.ag (.cons (.same rfl rfl) (.cons (.own 3) (.nil))))) zB)))) ?_
    refine zA (fun x17 h18=>?_)
    refine J_d 510 [] [9] [(9,rr 5 x17)] [5] [(5,rE 8 (Pack.enc true) x17)] (zD 1 (vC («as»:=[sl 8 (Pack.enc false) a1]) [(.tmp 35)] [22] false [] [] (.cons (.same rfl) (.nil)) (xO.ok a1) h18 (.own 5)) zB) ?_
    refine zA (fun x19 h20=>?_)
    refine J_d 1022 [] [10] [(10,rr 6 x19)] [6] [(6,rE 1 zC x19)] (zD 1 (vC («as»:=[sl 1 zC a2]) [(.tmp 37)] [23] false [] [] (.cons (.same rfl) (.nil)) (zH.ok a2) h20 (.own 6)) zB) ?_
    refine zA (fun x21 h22=>?_)
    refine J_d 2046 [] [11] [(11,rr 7 x21)] [7] [(7,rE 1 zC x21)] (zD 1 (vC («as»:=[sl 1 zC a3]) [(.tmp 39)] [23] false [] [] (.cons (.same rfl) (.nil)) (zH.ok a3) h22 (.own 7)) zB) ?_
    refine zA (fun x23 h24=>?_)
    refine J_d 4094 [(4,9)] [12] [(12,pp 9)] [8,9] [(8,rE 1 (eSl true 1 zC) x23.Sets),(9,.box [iv x23.Code,rr 8 x23.Sets])] (zD 3 (vC («as»:=[rr 5 x17,rr 6 x19,rr 7 x21]) [(.tmp 41),(.tmp 42),(.tmp 43)] [28,23,23] true [(5,rE 8 (Pack.enc true) x17),(6,rE 1 zC x19),(7,rE 1 zC x21)] [] (.cons (zBr (.head _) (Pack.ro true) rfl) (.cons (zBr (.tail _ (.head _)) (fun _=>rfl) rfl) (.cons (zBr (.tail _ (.tail _ (.head _))) (fun _=>rfl) rfl) (.nil)))) (zDP.ok x17 x19 x21) h24 (.ag (.cons (.same rfl rfl) (.cons (.own 8) (.nil)))) (hbor:=fun _=>⟨fhN,(zGr (xE.fl _))⟩)) zB) ?_
    refine zA (fun x25 h26=>?_)
    refine J_d 16380 [] [48] [(48,bv (!x25))] [] [] (zD 2 (vC («as»:=[.ag [iv x23.Code,rr 8 x23.Sets],.ag [iv x15.Code,rr 3 x15.Sets]]) [(.tmp 45),(.tmp 46)] [45,45] true [(8,rE 1 (eSl true 1 zC) x23.Sets),(3,rE 1 (eSl false 1 zC) x15.Sets)] [] (.cons (.ag (.cons (.same rfl) (.cons (zBr (.head _) (zD1 (fun _=>rfl)) rfl) (.nil)))) (.cons (.ag (.cons (.same rfl) (.cons (zBr (.tail _ (.head _)) (zD1 (fun _=>rfl)) rfl) (.nil)))) (.nil))) (uF.ok x23 x15) h26 (.same rfl rfl) (hbor:=fun _=>⟨fhN,yL⟩)) zB) ?_
    refine zF 48 (fun h27=>?_) (fun h27=>?_)
    ·refine J_g 65524 [] [(6,bv false)] [] zB ?_
     exact zQ rfl
    ·refine zA (fun x28 h29=>?_)
     refine zA (fun x30 h31=>?_)
     refine J_d 32764 [] [48,53] [(53,bv (!x30))] [] [] (zD 2 (vC («as»:=[sl 8 (Pack.enc false) a1]) [(.tmp 50)] [22] false [] [] (.cons (.same rfl) (.nil)) (xO.ok a1) h29 (.own 10)) (zD 3 (vC («as»:=[rr 5 x17,rr 10 x28]) [(.tmp 49),(.tmp 51)] [28,28] true [(5,rE 8 (Pack.enc true) x17),(10,rE 8 (Pack.enc true) x28)] [] (.cons (zBr (.head _) (Pack.ro true) rfl) (.cons (zBr (.tail _ (.head _)) (Pack.ro true) rfl) (.nil))) (kR.ok x17 x28) h31 (.same rfl rfl) (hbor:=fun _=>⟨fhN,yL⟩)) zB)) ?_
     refine zF 53 (fun h32=>?_) (fun h32=>?_)
     ·refine J_g 131060 [] [(6,bv false)] [] zB ?_
      exact zQ rfl
     ·refine zA (fun x33 h34=>?_)
      refine zA (fun x35 h36=>?_)
      refine J_d 65532 [] [53,58] [(58,bv (!x35))] [] [] (zD 2 (vC («as»:=[sl 1 zC a2]) [(.tmp 55)] [23] false [] [] (.cons (.same rfl) (.nil)) (zH.ok a2) h34 (.own 10)) (zD 3 (vC («as»:=[rr 6 x19,rr 10 x33]) [(.tmp 54),(.tmp 56)] [23,23] true [(6,rE 1 zC x19),(10,rE 1 zC x33)] [] (.cons (zBr (.head _) (fun _=>rfl) rfl) (.cons (zBr (.tail _ (.head _)) (fun _=>rfl) rfl) (.nil))) (wS.ok x19 x33) h36 (.same rfl rfl) (hbor:=fun _=>⟨fhN,yL⟩)) zB)) ?_
      refine zF 58 (fun h37=>?_) (fun h37=>?_)
      ·refine J_g 262132 [] [(6,bv false)] [] zB ?_
       exact zQ rfl
      ·refine zA (fun x38 h39=>?_)
       refine zA (fun x40 h41=>?_)
       refine J_d 131068 [] [58,63] [(63,bv (!x40))] [] [] (zD 2 (vC («as»:=[sl 1 zC a3]) [(.tmp 60)] [23] false [] [] (.cons (.same rfl) (.nil)) (zH.ok a3) h39 (.own 10)) (zD 3 (vC («as»:=[rr 7 x21,rr 10 x38]) [(.tmp 59),(.tmp 61)] [23,23] true [(7,rE 1 zC x21),(10,rE 1 zC x38)] [] (.cons (zBr (.head _) (fun _=>rfl) rfl) (.cons (zBr (.tail _ (.head _)) (fun _=>rfl) rfl) (.nil))) (wS.ok x21 x38) h41 (.same rfl rfl) (hbor:=fun _=>⟨fhN,yL⟩)) zB)) ?_
       refine zF 63 (fun h42=>?_) (fun h42=>?_)
       ·refine J_g 524276 [] [(6,bv false)] [] zB ?_
        exact zQ rfl
       ·refine J_d 131070 [] [13,63] [(13,iv 1)] [] [] zB ?_
        refine zA (fun x43 h44=>?_)
        refine J_g 262142 [] [(0,sl 8 (Pack.enc false) a1),(1,sl 1 zC a2),(2,sl 1 zC a3),(8,pp 4),(10,rr 6 x19),(11,rr 7 x21),(12,pp 9),(13,iv x43.1)] [(3,rE 1 (eSl false 1 zC) x15.Sets),(4,.box [iv x15.Code,rr 3 x15.Sets]),(6,rE 1 zC x19),(7,rE 1 zC x21),(8,rE 1 (eSl true 1 zC) x23.Sets),(9,.box [iv x23.Code,rr 8 x23.Sets])] (zD 2 (vC («as»:=[rr 5 x17,iv 1]) [(.tmp 64),(.tmp 65)] [28,3] false [(5,rE 8 (Pack.enc true) x17)] [5] (.cons (.rf rfl) (.cons (.same rfl) (.nil))) (zA6.ok x17 1) h44 (.same rfl rfl)) zB) ?_
        refine zA (fun x45 h46=>?_)
        refine J_g 524286 [] [(0,sl 8 (Pack.enc false) a1),(1,sl 1 zC a2),(2,sl 1 zC a3),(8,pp 4),(11,rr 7 x21),(12,pp 9),(13,iv x45.1)] [(3,rE 1 (eSl false 1 zC) x15.Sets),(4,.box [iv x15.Code,rr 3 x15.Sets]),(7,rE 1 zC x21),(8,rE 1 (eSl true 1 zC) x23.Sets),(9,.box [iv x23.Code,rr 8 x23.Sets])] (zD 2 (vC («as»:=[rr 6 x19,iv x43.1]) [(.tmp 67),(.tmp 68)] [23,3] false [(6,rE 1 zC x19)] [6] (.cons (.rf rfl) (.cons (.same rfl) (.nil))) (vD.ok x19 x43.1) h46 (.same rfl rfl)) zB) ?_
        refine zA (fun x47 h48=>?_)
        refine J_g 1048574 [] [(0,sl 8 (Pack.enc false) a1),(1,sl 1 zC a2),(2,sl 1 zC a3),(8,pp 4),(12,pp 9),(13,iv x47.1)] [(3,rE 1 (eSl false 1 zC) x15.Sets),(4,.box [iv x15.Code,rr 3 x15.Sets]),(8,rE 1 (eSl true 1 zC) x23.Sets),(9,.box [iv x23.Code,rr 8 x23.Sets])] (zD 2 (vC («as»:=[rr 7 x21,iv x45.1]) [(.tmp 70),(.tmp 71)] [23,3] false [(7,rE 1 zC x21)] [7] (.cons (.rf rfl) (.cons (.same rfl) (.nil))) (vD.ok x21 x45.1) h48 (.same rfl rfl)) zB) ?_
        refine vW (atI c5 4194301) (fun v52:Bool=>St.mk' [(0,sl 8 (Pack.enc false) a1),(1,sl 1 zC a2),(2,sl 1 zC a3),(8,pp 4),(12,pp 9),(80,bv v52)] [(3,rE 1 (eSl false 1 zC) x15.Sets),(4,.box [iv x15.Code,rr 3 x15.Sets]),(8,rE 1 (eSl true 1 zC) x23.Sets),(9,.box [iv x23.Code,rr 8 x23.Sets])]) (fun v52=>?_) (fun jv52=>?_)
        ·refine zF 80 (fun h53=>?_) (fun h53=>?_)
         ·refine J_g 16777204 [] [(6,bv false)] [] zB ?_
          exact zQ rfl
         ·refine J_d 4194302 [] [14,80] [(14,iv 1)] [] [] zB ?_
          refine zA (fun x54 h55=>?_)
          refine J_g 8388606 [] [(0,sl 8 (Pack.enc false) a1),(1,sl 1 zC a2),(2,sl 1 zC a3),(8,pp 4),(12,pp 9),(14,iv x54.1)] [(3,rE 1 (eSl false 1 zC) x15.Sets),(4,.box [iv x15.Code,rr 3 x15.Sets]),(8,rE 1 (eSl true 1 zC) x54.2),(9,.box [iv x23.Code,rr 8 x23.Sets])] (zD 2 (vC («as»:=[.ag [iv x23.Code,rr 8 x23.Sets],iv 1]) [(.tmp 81),(.tmp 82)] [45,3] false [(8,rE 1 (eSl true 1 zC) x23.Sets)] [8] (.cons (.ag (.cons (.same rfl) (.cons (.rf rfl) (.nil)))) (.cons (.same rfl) (.nil))) (kX.ok x23 1) h55 (.same rfl rfl)) zB) ?_
          refine zA (fun u56 h57=>?_)
          refine zFr (σ':=St.mk' [(0,sl 8 (Pack.enc false) a1),(1,sl 1 zC a2),(2,sl 1 zC a3),(8,pp 4),(12,pp 9),(14,iv x54.1)] [(3,rE 1 (eSl false 1 zC) x15.Sets),(4,.box [iv x15.Code,rr 3 x15.Sets]),(8,rE 1 (eSl true 1 zC) x54.2),(9,.box [iv x23.Code,rr 8 x54.2])]) (by simp only [rr,zAO h57]) ?_
          refine J_d 16777214 [] [15] [(15,iv 1)] [] [] zB ?_
          refine zA (fun x58 h59=>?_)
          refine J_g 33554430 [] [(0,sl 8 (Pack.enc false) a1),(1,sl 1 zC a2),(2,sl 1 zC a3),(8,pp 4),(12,pp 9),(14,iv x54.1),(15,iv x58)] [(3,rE 1 (eSl false 1 zC) x15.Sets),(4,.box [iv x15.Code,rr 3 x15.Sets]),(8,rE 1 (eSl true 1 zC) x54.2),(9,.box [iv x23.Code,rr 8 x54.2])] (zD 2 (vC («as»:=[.ag [iv x23.Code,rr 8 x54.2],iv 1]) [(.tmp 84),(.tmp 85)] [45,3] true [(8,rE 1 (eSl true 1 zC) x54.2)] [] (.cons (.ag (.cons (.same rfl) (.cons (zBr (.head _) (zD1 (fun _=>rfl)) rfl) (.nil)))) (.cons (.same rfl) (.nil))) (tC.ok ({Code:=x23.Code,Sets:=x54.2}:xE) 1) h59 (.same rfl rfl) (hbor:=fun _=>⟨fhN,yL⟩)) zB) ?_
          refine J_d 134217724 [] [88] [(88,bv (decide (x58<0)))] [] [] zB ?_
          refine zF 88 (fun h60=>?_) (fun h60=>?_)
          ·refine J_g 536870900 [] [(6,bv false)] [] zB ?_
           exact zQ rfl
          ·refine J_d 268435452 [] [15,88,91] [(91,bv (x58 !=x54.1))] [] [] zB ?_
           refine zF 91 (fun h61=>?_) (fun h61=>?_)
           ·refine J_g 1073741812 [] [(6,bv false)] [] zB ?_
            exact zQ rfl
           ·refine zA (fun x62 h63=>?_)
            refine zA (fun x64 h65=>?_)
            refine zA (fun x66 h67=>?_)
            refine zA (fun x68 h69=>?_)
            refine J_d 268435454 [(7,14)] [0,1,2,16,91] [(16,pp 14)] [13,14] [(13,rE 1 (eSl true 1 zC) x68.Sets),(14,.box [iv x68.Code,rr 13 x68.Sets])] (zD 1 (vC («as»:=[sl 8 (Pack.enc false) a1]) [(.tmp 92)] [22] false [] [] (.cons (.same rfl) (.nil)) (xO.ok a1) h63 (.own 10)) (zD 3 (vC («as»:=[sl 1 zC a2]) [(.tmp 94)] [23] false [] [] (.cons (.same rfl) (.nil)) (zH.ok a2) h65 (.own 11)) (zD 5 (vC («as»:=[sl 1 zC a3]) [(.tmp 96)] [23] false [] [] (.cons (.same rfl) (.nil)) (zH.ok a3) h67 (.own 12)) (zD 6 (vC («as»:=[rr 10 x62,rr 11 x64,rr 12 x66]) [(.tmp 93),(.tmp 95),(.tmp 97)] [28,23,23] true [(10,rE 8 (Pack.enc true) x62),(11,rE 1 zC x64),(12,rE 1 zC x66)] [] (.cons (zBr (.head _) (Pack.ro true) rfl) (.cons (zBr (.tail _ (.head _)) (fun _=>rfl) rfl) (.cons (zBr (.tail _ (.tail _ (.head _))) (fun _=>rfl) rfl) (.nil)))) (zDP.ok x62 x64 x66) h69 (.ag (.cons (.same rfl rfl) (.cons (.own 13) (.nil)))) (hbor:=fun _=>⟨fhN,(zGr (xE.fl _))⟩)) zB)))) ?_
            refine zA (fun x70 h71=>?_)
            refine J_d 1073741820 [] [8,16,102] [(102,bv (!x70))] [3,4,13,14] [] (zD 2 (vC («as»:=[.ag [iv x68.Code,rr 13 x68.Sets],.ag [iv x15.Code,rr 3 x15.Sets]]) [(.tmp 99),(.tmp 100)] [45,45] true [(13,rE 1 (eSl true 1 zC) x68.Sets),(3,rE 1 (eSl false 1 zC) x15.Sets)] [] (.cons (.ag (.cons (.same rfl) (.cons (zBr (.head _) (zD1 (fun _=>rfl)) rfl) (.nil)))) (.cons (.ag (.cons (.same rfl) (.cons (zBr (.tail _ (.head _)) (zD1 (fun _=>rfl)) rfl) (.nil)))) (.nil))) (uF.ok x68 x15) h71 (.same rfl rfl) (hbor:=fun _=>⟨fhN,yL⟩)) zB) ?_
            refine zF 102 (fun h72=>?_) (fun h72=>?_)
            ·refine J_g 4294967284 [] [(6,bv false)] [] zB ?_
             exact zQ rfl
            ·refine J_d 1073741822 [] [15,102] [(15,iv 1)] [] [] zB ?_
             refine zA (fun x73 h74=>?_)
             refine J_g 2147483646 [] [(14,iv x54.1),(15,iv x73)] [] (zD 2 (vC («as»:=[.ag [iv x23.Code,rr 8 x54.2],iv 1]) [(.tmp 103),(.tmp 104)] [45,3] true [(8,rE 1 (eSl true 1 zC) x54.2)] [] (.cons (.ag (.cons (.same rfl) (.cons (zBr (.head _) (zD1 (fun _=>rfl)) rfl) (.nil)))) (.cons (.same rfl) (.nil))) (tC.ok ({Code:=x23.Code,Sets:=x54.2}:xE) 1) h74 (.same rfl rfl) (hbor:=fun _=>⟨fhN,yL⟩)) zB) ?_
             refine J_d 8589934588 [] [107] [(107,bv (decide (x73<0)))] [] [] zB ?_
             refine zF 107 (fun h75=>?_) (fun h75=>?_)
             ·refine J_g 34359738356 [] [(6,bv false)] [] zB ?_
              exact zQ rfl
             ·refine J_g 17179869180 [] [(110,bv (x73 !=x54.1))] [] zB ?_
              refine zF 110 (fun h76=>?_) (fun h76=>?_)
              ·refine J_g 68719476724 [] [(6,bv false)] [] zB ?_
               exact zQ rfl
              ·refine J_g 17179869182 [] [(6,bv true)] [] zB ?_
               exact zQ rfl
        ·refine tJ (fun h49=>?_) (fun h49=>?_)
         ·refine J_d 4194300 [] [13,80] [(80,bv true)] [] [] (uE 2 [(74,bv (decide (x47.1<0)))] [] h49 zB) ?_
          exact wD (J_j (jv52 true)) rfl
         ·refine zA (fun x50 h51=>?_)
          refine J_d 4194300 [] [13,80] [(80,bv (!x50))] [] [] (uE 2 [(74,bv (decide (x47.1<0)))] [] h49 (zCR 5 2 75 false (vC («as»:=[.ag [iv x23.Code,rr 8 x23.Sets],.ag [iv x15.Code,rr 3 x15.Sets]]) [(.tmp 76),(.tmp 77)] [45,45] true [(8,rE 1 (eSl true 1 zC) x23.Sets),(3,rE 1 (eSl false 1 zC) x15.Sets)] [] (.cons (.ag (.cons (.same rfl) (.cons (zBr (.head _) (zD1 (fun _=>rfl)) rfl) (.nil)))) (.cons (.ag (.cons (.same rfl) (.cons (zBr (.tail _ (.head _)) (zD1 (fun _=>rfl)) rfl) (.nil)))) (.nil))) (uF.ok x23 x15) h51 (.same rfl rfl) (hbor:=fun _=>⟨fhN,yL⟩)) zB)) ?_
          exact wD (J_j (jv52 (!x50))) rfl
end Go.Told

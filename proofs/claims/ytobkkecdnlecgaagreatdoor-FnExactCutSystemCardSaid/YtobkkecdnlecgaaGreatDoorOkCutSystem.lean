import Derived.Test.YtobkkecdnlecgaaGreatDoorOkCutSystemx2
set_option linter.unusedVariables false
set_option maxRecDepth 4000
namespace Go.Told
open Go Go.Im Go.Proofs
noncomputable def c72:Code:=(Tryz.f72.body).getD .skip
theorem kF.ok (q:Wd) (kn:((List ByteArray)×Int)→Option (D×List Ent)) (hk:∀v:((List ByteArray)×Int),J (q.g Tryz.prog 72 1 20) c72 (atI c72 7) (St.mk' [(1,iv v.2)] [(0,rE 1 eStr v.1)]) (some v) kn):
  ∀s8:((List ByteArray)×Int×Int),J (q.g Tryz.prog 72 1 20) c72 (atI c72 52) (St.mk' [(0,rr 0 s8.1),(1,iv s8.2.1),(5,iv s8.2.2)] [(0,rE 1 eStr s8.1)]) (kF s8) kn:=by
 refine tQ (fun g ih s8=>?_)
 unfold jD
 refine J_d 208 [] [9] [(9,bv (decide (s8.2.2< (s8.1.length:Int))))] [] [] zB ?_
 refine zG 9 (fun h9=>?_) (fun h9=>?_)
 ·refine zA (fun x10 h11=>?_)
  refine zA (fun x12 h13=>?_)
  refine J_g 840 [] [(0,rr 0 s8.1),(1,iv s8.2.1),(5,iv s8.2.2)] [(0,rE 1 eStr (s8.1.set s8.2.2.toNat x10))] (zF 3 (xC [(.tmp 14)] [3] (xE.ok s8.2.1) h11) (zF 4 (zAv (kk:=.i64) 86 9 1 0 eStr (.tmp 12) (.tmp 13) h13) (zHK 5 (zJn (b:=x10) 9 1 0 0 eStr (sv x10) (.tmp 16) (.tmp 15) h13 rfl) zB))) ?_
  refine zGK (σ':=St.mk' [(0,rr 0 (s8.1.set s8.2.2.toNat x10)),(1,iv s8.2.1),(5,iv s8.2.2)] [(0,rE 1 eStr (s8.1.set s8.2.2.toNat x10))]) (by simp only [rr,List.length_set]) ?_
  refine J_g 841 [] [(0,rr 0 (s8.1.set s8.2.2.toNat x10)),(1,iv (w64 (s8.2.1+1))),(5,iv s8.2.2)] [(0,rE 1 eStr (s8.1.set s8.2.2.toNat x10))] zB ?_
  refine J_d 211 [] [5] [(5,iv (w64 (s8.2.2+1)))] [] [] zB ?_
  exact J_q (J_b (ih (s8.1.set s8.2.2.toNat x10,w64 (s8.2.1+1),w64 (s8.2.2+1)))) rfl
 ·exact yN (hk (s8.1,s8.2.1)) rfl
theorem tH.ok (a1:(List ByteArray)) (a2:Int):Ok Tryz.prog 72 [rr 0 a1,iv a2] [rE 1 eStr a1] ((tH a1 a2).map fun r=>(iv r.1,[rE 1 eStr r.2])):=by
 refine zH c72 Tryz.f72 1 20 (fun q=>?_)
 unfold tH
 refine J_g 2 [] [(0,rr 0 a1),(1,iv a2)] [(0,rE 1 eStr a1)] zB ?_
 refine J_d 12 [] [5] [(5,iv 0)] [] [] zB ?_
 refine zFJ (kF.ok q _ (fun v14=>J_j ?_) (a1,a2,0))
 refine J_g 14 [] [(4,iv v14.2)] [(0,rE 1 eStr v14.1)] zB ?_
 exact zM rfl
noncomputable def c74:Code:=(Tryz.f74.body).getD .skip
theorem zAS.ok (q:Wd) (kn:((List Term)×Int)→Option (D×List Ent)) (hk:∀v:((List Term)×Int),J (q.g Tryz.prog 74 1 69) c74 (atI c74 7) (St.mk' [(1,iv v.2)] [(0,rE 7 Term.enc v.1)]) (some v) kn):
  ∀s20:((List Term)×Int×Int),J (q.g Tryz.prog 74 1 69) c74 (atI c74 52) (St.mk' [(0,rr 0 s20.1),(1,iv s20.2.1),(5,iv s20.2.2)] [(0,rE 7 Term.enc s20.1)]) (zAS s20) kn:=by
 refine tQ (fun g ih s20=>?_)
 unfold zA3
 refine J_d 208 [] [9] [(9,bv (decide (s20.2.2< (s20.1.length:Int))))] [] [] zB ?_
 refine zG 9 (fun h21=>?_) (fun h21=>?_)
 ·refine zA (fun x22 h23=>?_)
  refine zA (fun x24 h25=>?_)
  refine J_g 840 [] [(0,rr 0 s20.1),(1,iv s20.2.1),(5,iv s20.2.2)] [(0,rE 7 Term.enc (s20.1.set s20.2.2.toNat ({Name:=x22,Low:=x24.Low,High:=x24.High}:Term)))] (zF 3 (xC [(.tmp 14)] [3] (xE.ok s20.2.1) h23) (zF 4 (zAv (kk:=.i64) 75 149 7 0 Term.enc (.tmp 12) (.tmp 13) h25) (zHK 6 (zJn (b:=({Name:=x22,Low:=x24.Low,High:=x24.High}:Term)) 9 7 0 0 Term.enc (sv x22) (.tmp 17) (.tmp 15) h25 rfl) zB))) ?_
  refine zGK (σ':=St.mk' [(0,rr 0 (s20.1.set s20.2.2.toNat ({Name:=x22,Low:=x24.Low,High:=x24.High}:Term))),(1,iv s20.2.1),(5,iv s20.2.2)] [(0,rE 7 Term.enc (s20.1.set s20.2.2.toNat ({Name:=x22,Low:=x24.Low,High:=x24.High}:Term)))]) (by simp only [rr,List.length_set]) ?_
  refine J_d 1682 [] [1] [(1,iv (w64 (s20.2.1+1)))] [] [] zB ?_
  refine zA (fun x26 h27=>?_)
  refine J_g 3366 [] [(0,rr 0 (s20.1.set s20.2.2.toNat ({Name:=x22,Low:=x24.Low,High:=x24.High}:Term))),(1,iv (w64 (s20.2.1+1))),(5,iv s20.2.2)] [(0,rE 7 Term.enc ((s20.1.set s20.2.2.toNat ({Name:=x22,Low:=x24.Low,High:=x24.High}:Term)).set s20.2.2.toNat ({Name:=x26.Name,Low:=({A:=w64 (s20.2.1+1),B:=x26.Low.B,C:=x26.Low.C}:Version),High:=x26.High}:Term)))] (zF 3 (zAv (kk:=.i64) 75 149 7 0 Term.enc (.tmp 20) (.tmp 21) h27) (zHK 6 (zJn (b:=({Name:=x26.Name,Low:=({A:=w64 (s20.2.1+1),B:=x26.Low.B,C:=x26.Low.C}:Version),High:=x26.High}:Term)) 2 7 0 1 Term.enc (iv (w64 (s20.2.1+1))) (.tmp 25) (.tmp 22) h27 rfl) zB)) ?_
  refine zGK (σ':=St.mk' [(0,rr 0 ((s20.1.set s20.2.2.toNat ({Name:=x22,Low:=x24.Low,High:=x24.High}:Term)).set s20.2.2.toNat ({Name:=x26.Name,Low:=({A:=w64 (s20.2.1+1),B:=x26.Low.B,C:=x26.Low.C}:Version),High:=x26.High}:Term))),(1,iv (w64 (s20.2.1+1))),(5,iv s20.2.2)] [(0,rE 7 Term.enc ((s20.1.set s20.2.2.toNat ({Name:=x22,Low:=x24.Low,High:=x24.High}:Term)).set s20.2.2.toNat ({Name:=x26.Name,Low:=({A:=w64 (s20.2.1+1),B:=x26.Low.B,C:=x26.Low.C}:Version),High:=x26.High}:Term)))]) (by simp only [rr,List.length_set]) ?_
  refine J_d 6734 [] [1] [(1,iv (w64 ((w64 (s20.2.1+1))+1)))] [] [] zB ?_
  refine zA (fun x28 h29=>?_)
  refine J_g 13470 [] [(0,rr 0 ((s20.1.set s20.2.2.toNat ({Name:=x22,Low:=x24.Low,High:=x24.High}:Term)).set s20.2.2.toNat ({Name:=x26.Name,Low:=({A:=w64 (s20.2.1+1),B:=x26.Low.B,C:=x26.Low.C}:Version),High:=x26.High}:Term))),(1,iv (w64 ((w64 (s20.2.1+1))+1))),(5,iv s20.2.2)] [(0,rE 7 Term.enc (((s20.1.set s20.2.2.toNat ({Name:=x22,Low:=x24.Low,High:=x24.High}:Term)).set s20.2.2.toNat ({Name:=x26.Name,Low:=({A:=w64 (s20.2.1+1),B:=x26.Low.B,C:=x26.Low.C}:Version),High:=x26.High}:Term)).set s20.2.2.toNat ({Name:=x28.Name,Low:=({A:=x28.Low.A,B:=w64 ((w64 (s20.2.1+1))+1),C:=x28.Low.C}:Version),High:=x28.High}:Term)))] (zF 3 (zAv (kk:=.i64) 75 149 7 0 Term.enc (.tmp 28) (.tmp 29) h29) (zHK 6 (zJn (b:=({Name:=x28.Name,Low:=({A:=x28.Low.A,B:=w64 ((w64 (s20.2.1+1))+1),C:=x28.Low.C}:Version),High:=x28.High}:Term)) 2 7 0 2 Term.enc (iv (w64 ((w64 (s20.2.1+1))+1))) (.tmp 33) (.tmp 30) h29 rfl) zB)) ?_
  refine zGK (σ':=St.mk' [(0,rr 0 (((s20.1.set s20.2.2.toNat ({Name:=x22,Low:=x24.Low,High:=x24.High}:Term)).set s20.2.2.toNat ({Name:=x26.Name,Low:=({A:=w64 (s20.2.1+1),B:=x26.Low.B,C:=x26.Low.C}:Version),High:=x26.High}:Term)).set s20.2.2.toNat ({Name:=x28.Name,Low:=({A:=x28.Low.A,B:=w64 ((w64 (s20.2.1+1))+1),C:=x28.Low.C}:Version),High:=x28.High}:Term))),(1,iv (w64 ((w64 (s20.2.1+1))+1))),(5,iv s20.2.2)] [(0,rE 7 Term.enc (((s20.1.set s20.2.2.toNat ({Name:=x22,Low:=x24.Low,High:=x24.High}:Term)).set s20.2.2.toNat ({Name:=x26.Name,Low:=({A:=w64 (s20.2.1+1),B:=x26.Low.B,C:=x26.Low.C}:Version),High:=x26.High}:Term)).set s20.2.2.toNat ({Name:=x28.Name,Low:=({A:=x28.Low.A,B:=w64 ((w64 (s20.2.1+1))+1),C:=x28.Low.C}:Version),High:=x28.High}:Term)))]) (by simp only [rr,List.length_set]) ?_
  refine J_d 26942 [] [1] [(1,iv (w64 ((w64 ((w64 (s20.2.1+1))+1))+1)))] [] [] zB ?_
  refine zA (fun x30 h31=>?_)
  refine J_g 53886 [] [(0,rr 0 (((s20.1.set s20.2.2.toNat ({Name:=x22,Low:=x24.Low,High:=x24.High}:Term)).set s20.2.2.toNat ({Name:=x26.Name,Low:=({A:=w64 (s20.2.1+1),B:=x26.Low.B,C:=x26.Low.C}:Version),High:=x26.High}:Term)).set s20.2.2.toNat ({Name:=x28.Name,Low:=({A:=x28.Low.A,B:=w64 ((w64 (s20.2.1+1))+1),C:=x28.Low.C}:Version),High:=x28.High}:Term))),(1,iv (w64 ((w64 ((w64 (s20.2.1+1))+1))+1))),(5,iv s20.2.2)] [(0,rE 7 Term.enc ((((s20.1.set s20.2.2.toNat ({Name:=x22,Low:=x24.Low,High:=x24.High}:Term)).set s20.2.2.toNat ({Name:=x26.Name,Low:=({A:=w64 (s20.2.1+1),B:=x26.Low.B,C:=x26.Low.C}:Version),High:=x26.High}:Term)).set s20.2.2.toNat ({Name:=x28.Name,Low:=({A:=x28.Low.A,B:=w64 ((w64 (s20.2.1+1))+1),C:=x28.Low.C}:Version),High:=x28.High}:Term)).set s20.2.2.toNat ({Name:=x30.Name,Low:=({A:=x30.Low.A,B:=x30.Low.B,C:=w64 ((w64 ((w64 (s20.2.1+1))+1))+1)}:Version),High:=x30.High}:Term)))] (zF 3 (zAv (kk:=.i64) 75 149 7 0 Term.enc (.tmp 36) (.tmp 37) h31) (zHK 6 (zJn (b:=({Name:=x30.Name,Low:=({A:=x30.Low.A,B:=x30.Low.B,C:=w64 ((w64 ((w64 (s20.2.1+1))+1))+1)}:Version),High:=x30.High}:Term)) 2 7 0 3 Term.enc (iv (w64 ((w64 ((w64 (s20.2.1+1))+1))+1))) (.tmp 41) (.tmp 38) h31 rfl) zB)) ?_
  refine zGK (σ':=St.mk' [(0,rr 0 ((((s20.1.set s20.2.2.toNat ({Name:=x22,Low:=x24.Low,High:=x24.High}:Term)).set s20.2.2.toNat ({Name:=x26.Name,Low:=({A:=w64 (s20.2.1+1),B:=x26.Low.B,C:=x26.Low.C}:Version),High:=x26.High}:Term)).set s20.2.2.toNat ({Name:=x28.Name,Low:=({A:=x28.Low.A,B:=w64 ((w64 (s20.2.1+1))+1),C:=x28.Low.C}:Version),High:=x28.High}:Term)).set s20.2.2.toNat ({Name:=x30.Name,Low:=({A:=x30.Low.A,B:=x30.Low.B,C:=w64 ((w64 ((w64 (s20.2.1+1))+1))+1)}:Version),High:=x30.High}:Term))),(1,iv (w64 ((w64 ((w64 (s20.2.1+1))+1))+1))),(5,iv s20.2.2)] [(0,rE 7 Term.enc ((((s20.1.set s20.2.2.toNat ({Name:=x22,Low:=x24.Low,High:=x24.High}:Term)).set s20.2.2.toNat ({Name:=x26.Name,Low:=({A:=w64 (s20.2.1+1),B:=x26.Low.B,C:=x26.Low.C}:Version),High:=x26.High}:Term)).set s20.2.2.toNat ({Name:=x28.Name,Low:=({A:=x28.Low.A,B:=w64 ((w64 (s20.2.1+1))+1),C:=x28.Low.C}:Version),High:=x28.High}:Term)).set s20.2.2.toNat ({Name:=x30.Name,Low:=({A:=x30.Low.A,B:=x30.Low.B,C:=w64 ((w64 ((w64 (s20.2.1+1))+1))+1)}:Version),High:=x30.High}:Term)))]) (by simp only [rr,List.length_set]) ?_
  refine J_d 107774 [] [1] [(1,iv (w64 ((w64 ((w64 ((w64 (s20.2.1+1))+1))+1))+1)))] [] [] zB ?_
  refine zA (fun x32 h33=>?_)
  refine J_g 215550 [] [(0,rr 0 ((((s20.1.set s20.2.2.toNat ({Name:=x22,Low:=x24.Low,High:=x24.High}:Term)).set s20.2.2.toNat ({Name:=x26.Name,Low:=({A:=w64 (s20.2.1+1),B:=x26.Low.B,C:=x26.Low.C}:Version),High:=x26.High}:Term)).set s20.2.2.toNat ({Name:=x28.Name,Low:=({A:=x28.Low.A,B:=w64 ((w64 (s20.2.1+1))+1),C:=x28.Low.C}:Version),High:=x28.High}:Term)).set s20.2.2.toNat ({Name:=x30.Name,Low:=({A:=x30.Low.A,B:=x30.Low.B,C:=w64 ((w64 ((w64 (s20.2.1+1))+1))+1)}:Version),High:=x30.High}:Term))),(1,iv (w64 ((w64 ((w64 ((w64 (s20.2.1+1))+1))+1))+1))),(5,iv s20.2.2)] [(0,rE 7 Term.enc (((((s20.1.set s20.2.2.toNat ({Name:=x22,Low:=x24.Low,High:=x24.High}:Term)).set s20.2.2.toNat ({Name:=x26.Name,Low:=({A:=w64 (s20.2.1+1),B:=x26.Low.B,C:=x26.Low.C}:Version),High:=x26.High}:Term)).set s20.2.2.toNat ({Name:=x28.Name,Low:=({A:=x28.Low.A,B:=w64 ((w64 (s20.2.1+1))+1),C:=x28.Low.C}:Version),High:=x28.High}:Term)).set s20.2.2.toNat ({Name:=x30.Name,Low:=({A:=x30.Low.A,B:=x30.Low.B,C:=w64 ((w64 ((w64 (s20.2.1+1))+1))+1)}:Version),High:=x30.High}:Term)).set s20.2.2.toNat ({Name:=x32.Name,Low:=x32.Low,High:=({A:=w64 ((w64 ((w64 ((w64 (s20.2.1+1))+1))+1))+1),B:=x32.High.B,C:=x32.High.C}:Version)}:Term)))] (zF 3 (zAv (kk:=.i64) 75 149 7 0 Term.enc (.tmp 44) (.tmp 45) h33) (zHK 6 (zJn (b:=({Name:=x32.Name,Low:=x32.Low,High:=({A:=w64 ((w64 ((w64 ((w64 (s20.2.1+1))+1))+1))+1),B:=x32.High.B,C:=x32.High.C}:Version)}:Term)) 2 7 0 4 Term.enc (iv (w64 ((w64 ((w64 ((w64 (s20.2.1+1))+1))+1))+1))) (.tmp 49) (.tmp 46) h33 rfl) zB)) ?_
  refine zGK (σ':=St.mk' [(0,rr 0 (((((s20.1.set s20.2.2.toNat ({Name:=x22,Low:=x24.Low,High:=x24.High}:Term)).set s20.2.2.toNat ({Name:=x26.Name,Low:=({A:=w64 (s20.2.1+1),B:=x26.Low.B,C:=x26.Low.C}:Version),High:=x26.High}:Term)).set s20.2.2.toNat ({Name:=x28.Name,Low:=({A:=x28.Low.A,B:=w64 ((w64 (s20.2.1+1))+1),C:=x28.Low.C}:Version),High:=x28.High}:Term)).set s20.2.2.toNat ({Name:=x30.Name,Low:=({A:=x30.Low.A,B:=x30.Low.B,C:=w64 ((w64 ((w64 (s20.2.1+1))+1))+1)}:Version),High:=x30.High}:Term)).set s20.2.2.toNat ({Name:=x32.Name,Low:=x32.Low,High:=({A:=w64 ((w64 ((w64 ((w64 (s20.2.1+1))+1))+1))+1),B:=x32.High.B,C:=x32.High.C}:Version)}:Term))),(1,iv (w64 ((w64 ((w64 ((w64 (s20.2.1+1))+1))+1))+1))),(5,iv s20.2.2)] [(0,rE 7 Term.enc (((((s20.1.set s20.2.2.toNat ({Name:=x22,Low:=x24.Low,High:=x24.High}:Term)).set s20.2.2.toNat ({Name:=x26.Name,Low:=({A:=w64 (s20.2.1+1),B:=x26.Low.B,C:=x26.Low.C}:Version),High:=x26.High}:Term)).set s20.2.2.toNat ({Name:=x28.Name,Low:=({A:=x28.Low.A,B:=w64 ((w64 (s20.2.1+1))+1),C:=x28.Low.C}:Version),High:=x28.High}:Term)).set s20.2.2.toNat ({Name:=x30.Name,Low:=({A:=x30.Low.A,B:=x30.Low.B,C:=w64 ((w64 ((w64 (s20.2.1+1))+1))+1)}:Version),High:=x30.High}:Term)).set s20.2.2.toNat ({Name:=x32.Name,Low:=x32.Low,High:=({A:=w64 ((w64 ((w64 ((w64 (s20.2.1+1))+1))+1))+1),B:=x32.High.B,C:=x32.High.C}:Version)}:Term)))]) (by simp only [rr,List.length_set]) ?_
  refine J_d 431102 [] [1] [(1,iv (w64 ((w64 ((w64 ((w64 ((w64 (s20.2.1+1))+1))+1))+1))+1)))] [] [] zB ?_
  refine zA (fun x34 h35=>?_)
  refine J_g 862206 [] [(0,rr 0 (((((s20.1.set s20.2.2.toNat ({Name:=x22,Low:=x24.Low,High:=x24.High}:Term)).set s20.2.2.toNat ({Name:=x26.Name,Low:=({A:=w64 (s20.2.1+1),B:=x26.Low.B,C:=x26.Low.C}:Version),High:=x26.High}:Term)).set s20.2.2.toNat ({Name:=x28.Name,Low:=({A:=x28.Low.A,B:=w64 ((w64 (s20.2.1+1))+1),C:=x28.Low.C}:Version),High:=x28.High}:Term)).set s20.2.2.toNat ({Name:=x30.Name,Low:=({A:=x30.Low.A,B:=x30.Low.B,C:=w64 ((w64 ((w64 (s20.2.1+1))+1))+1)}:Version),High:=x30.High}:Term)).set s20.2.2.toNat ({Name:=x32.Name,Low:=x32.Low,High:=({A:=w64 ((w64 ((w64 ((w64 (s20.2.1+1))+1))+1))+1),B:=x32.High.B,C:=x32.High.C}:Version)}:Term))),(1,iv (w64 ((w64 ((w64 ((w64 ((w64 (s20.2.1+1))+1))+1))+1))+1))),(5,iv s20.2.2)] [(0,rE 7 Term.enc ((((((s20.1.set s20.2.2.toNat ({Name:=x22,Low:=x24.Low,High:=x24.High}:Term)).set s20.2.2.toNat ({Name:=x26.Name,Low:=({A:=w64 (s20.2.1+1),B:=x26.Low.B,C:=x26.Low.C}:Version),High:=x26.High}:Term)).set s20.2.2.toNat ({Name:=x28.Name,Low:=({A:=x28.Low.A,B:=w64 ((w64 (s20.2.1+1))+1),C:=x28.Low.C}:Version),High:=x28.High}:Term)).set s20.2.2.toNat ({Name:=x30.Name,Low:=({A:=x30.Low.A,B:=x30.Low.B,C:=w64 ((w64 ((w64 (s20.2.1+1))+1))+1)}:Version),High:=x30.High}:Term)).set s20.2.2.toNat ({Name:=x32.Name,Low:=x32.Low,High:=({A:=w64 ((w64 ((w64 ((w64 (s20.2.1+1))+1))+1))+1),B:=x32.High.B,C:=x32.High.C}:Version)}:Term)).set s20.2.2.toNat ({Name:=x34.Name,Low:=x34.Low,High:=({A:=x34.High.A,B:=w64 ((w64 ((w64 ((w64 ((w64 (s20.2.1+1))+1))+1))+1))+1),C:=x34.High.C}:Version)}:Term)))] (zF 3 (zAv (kk:=.i64) 75 149 7 0 Term.enc (.tmp 52) (.tmp 53) h35) (zHK 6 (zJn (b:=({Name:=x34.Name,Low:=x34.Low,High:=({A:=x34.High.A,B:=w64 ((w64 ((w64 ((w64 ((w64 (s20.2.1+1))+1))+1))+1))+1),C:=x34.High.C}:Version)}:Term)) 2 7 0 5 Term.enc (iv (w64 ((w64 ((w64 ((w64 ((w64 (s20.2.1+1))+1))+1))+1))+1))) (.tmp 57) (.tmp 54) h35 rfl) zB)) ?_
  refine zGK (σ':=St.mk' [(0,rr 0 ((((((s20.1.set s20.2.2.toNat ({Name:=x22,Low:=x24.Low,High:=x24.High}:Term)).set s20.2.2.toNat ({Name:=x26.Name,Low:=({A:=w64 (s20.2.1+1),B:=x26.Low.B,C:=x26.Low.C}:Version),High:=x26.High}:Term)).set s20.2.2.toNat ({Name:=x28.Name,Low:=({A:=x28.Low.A,B:=w64 ((w64 (s20.2.1+1))+1),C:=x28.Low.C}:Version),High:=x28.High}:Term)).set s20.2.2.toNat ({Name:=x30.Name,Low:=({A:=x30.Low.A,B:=x30.Low.B,C:=w64 ((w64 ((w64 (s20.2.1+1))+1))+1)}:Version),High:=x30.High}:Term)).set s20.2.2.toNat ({Name:=x32.Name,Low:=x32.Low,High:=({A:=w64 ((w64 ((w64 ((w64 (s20.2.1+1))+1))+1))+1),B:=x32.High.B,C:=x32.High.C}:Version)}:Term)).set s20.2.2.toNat ({Name:=x34.Name,Low:=x34.Low,High:=({A:=x34.High.A,B:=w64 ((w64 ((w64 ((w64 ((w64 (s20.2.1+1))+1))+1))+1))+1),C:=x34.High.C}:Version)}:Term))),(1,iv (w64 ((w64 ((w64 ((w64 ((w64 (s20.2.1+1))+1))+1))+1))+1))),(5,iv s20.2.2)] [(0,rE 7 Term.enc ((((((s20.1.set s20.2.2.toNat ({Name:=x22,Low:=x24.Low,High:=x24.High}:Term)).set s20.2.2.toNat ({Name:=x26.Name,Low:=({A:=w64 (s20.2.1+1),B:=x26.Low.B,C:=x26.Low.C}:Version),High:=x26.High}:Term)).set s20.2.2.toNat ({Name:=x28.Name,Low:=({A:=x28.Low.A,B:=w64 ((w64 (s20.2.1+1))+1),C:=x28.Low.C}:Version),High:=x28.High}:Term)).set s20.2.2.toNat ({Name:=x30.Name,Low:=({A:=x30.Low.A,B:=x30.Low.B,C:=w64 ((w64 ((w64 (s20.2.1+1))+1))+1)}:Version),High:=x30.High}:Term)).set s20.2.2.toNat ({Name:=x32.Name,Low:=x32.Low,High:=({A:=w64 ((w64 ((w64 ((w64 (s20.2.1+1))+1))+1))+1),B:=x32.High.B,C:=x32.High.C}:Version)}:Term)).set s20.2.2.toNat ({Name:=x34.Name,Low:=x34.Low,High:=({A:=x34.High.A,B:=w64 ((w64 ((w64 ((w64 ((w64 (s20.2.1+1))+1))+1))+1))+1),C:=x34.High.C}:Version)}:Term)))]) (by simp only [rr,List.length_set]) ?_
  refine J_d 1724414 [] [1] [(1,iv (w64 ((w64 ((w64 ((w64 ((w64 ((w64 (s20.2.1+1))+1))+1))+1))+1))+1)))] [] [] zB ?_
  refine zA (fun x36 h37=>?_)
  refine J_g 3448830 [] [(0,rr 0 ((((((s20.1.set s20.2.2.toNat ({Name:=x22,Low:=x24.Low,High:=x24.High}:Term)).set s20.2.2.toNat ({Name:=x26.Name,Low:=({A:=w64 (s20.2.1+1),B:=x26.Low.B,C:=x26.Low.C}:Version),High:=x26.High}:Term)).set s20.2.2.toNat ({Name:=x28.Name,Low:=({A:=x28.Low.A,B:=w64 ((w64 (s20.2.1+1))+1),C:=x28.Low.C}:Version),High:=x28.High}:Term)).set s20.2.2.toNat ({Name:=x30.Name,Low:=({A:=x30.Low.A,B:=x30.Low.B,C:=w64 ((w64 ((w64 (s20.2.1+1))+1))+1)}:Version),High:=x30.High}:Term)).set s20.2.2.toNat ({Name:=x32.Name,Low:=x32.Low,High:=({A:=w64 ((w64 ((w64 ((w64 (s20.2.1+1))+1))+1))+1),B:=x32.High.B,C:=x32.High.C}:Version)}:Term)).set s20.2.2.toNat ({Name:=x34.Name,Low:=x34.Low,High:=({A:=x34.High.A,B:=w64 ((w64 ((w64 ((w64 ((w64 (s20.2.1+1))+1))+1))+1))+1),C:=x34.High.C}:Version)}:Term))),(1,iv (w64 ((w64 ((w64 ((w64 ((w64 ((w64 (s20.2.1+1))+1))+1))+1))+1))+1))),(5,iv s20.2.2)] [(0,rE 7 Term.enc (((((((s20.1.set s20.2.2.toNat ({Name:=x22,Low:=x24.Low,High:=x24.High}:Term)).set s20.2.2.toNat ({Name:=x26.Name,Low:=({A:=w64 (s20.2.1+1),B:=x26.Low.B,C:=x26.Low.C}:Version),High:=x26.High}:Term)).set s20.2.2.toNat ({Name:=x28.Name,Low:=({A:=x28.Low.A,B:=w64 ((w64 (s20.2.1+1))+1),C:=x28.Low.C}:Version),High:=x28.High}:Term)).set s20.2.2.toNat ({Name:=x30.Name,Low:=({A:=x30.Low.A,B:=x30.Low.B,C:=w64 ((w64 ((w64 (s20.2.1+1))+1))+1)}:Version),High:=x30.High}:Term)).set s20.2.2.toNat ({Name:=x32.Name,Low:=x32.Low,High:=({A:=w64 ((w64 ((w64 ((w64 (s20.2.1+1))+1))+1))+1),B:=x32.High.B,C:=x32.High.C}:Version)}:Term)).set s20.2.2.toNat ({Name:=x34.Name,Low:=x34.Low,High:=({A:=x34.High.A,B:=w64 ((w64 ((w64 ((w64 ((w64 (s20.2.1+1))+1))+1))+1))+1),C:=x34.High.C}:Version)}:Term)).set s20.2.2.toNat ({Name:=x36.Name,Low:=x36.Low,High:=({A:=x36.High.A,B:=x36.High.B,C:=w64 ((w64 ((w64 ((w64 ((w64 ((w64 (s20.2.1+1))+1))+1))+1))+1))+1)}:Version)}:Term)))] (zF 3 (zAv (kk:=.i64) 75 149 7 0 Term.enc (.tmp 60) (.tmp 61) h37) (zHK 6 (zJn (b:=({Name:=x36.Name,Low:=x36.Low,High:=({A:=x36.High.A,B:=x36.High.B,C:=w64 ((w64 ((w64 ((w64 ((w64 ((w64 (s20.2.1+1))+1))+1))+1))+1))+1)}:Version)}:Term)) 2 7 0 6 Term.enc (iv (w64 ((w64 ((w64 ((w64 ((w64 ((w64 (s20.2.1+1))+1))+1))+1))+1))+1))) (.tmp 65) (.tmp 62) h37 rfl) zB)) ?_
  refine zGK (σ':=St.mk' [(0,rr 0 (((((((s20.1.set s20.2.2.toNat ({Name:=x22,Low:=x24.Low,High:=x24.High}:Term)).set s20.2.2.toNat ({Name:=x26.Name,Low:=({A:=w64 (s20.2.1+1),B:=x26.Low.B,C:=x26.Low.C}:Version),High:=x26.High}:Term)).set s20.2.2.toNat ({Name:=x28.Name,Low:=({A:=x28.Low.A,B:=w64 ((w64 (s20.2.1+1))+1),C:=x28.Low.C}:Version),High:=x28.High}:Term)).set s20.2.2.toNat ({Name:=x30.Name,Low:=({A:=x30.Low.A,B:=x30.Low.B,C:=w64 ((w64 ((w64 (s20.2.1+1))+1))+1)}:Version),High:=x30.High}:Term)).set s20.2.2.toNat ({Name:=x32.Name,Low:=x32.Low,High:=({A:=w64 ((w64 ((w64 ((w64 (s20.2.1+1))+1))+1))+1),B:=x32.High.B,C:=x32.High.C}:Version)}:Term)).set s20.2.2.toNat ({Name:=x34.Name,Low:=x34.Low,High:=({A:=x34.High.A,B:=w64 ((w64 ((w64 ((w64 ((w64 (s20.2.1+1))+1))+1))+1))+1),C:=x34.High.C}:Version)}:Term)).set s20.2.2.toNat ({Name:=x36.Name,Low:=x36.Low,High:=({A:=x36.High.A,B:=x36.High.B,C:=w64 ((w64 ((w64 ((w64 ((w64 ((w64 (s20.2.1+1))+1))+1))+1))+1))+1)}:Version)}:Term))),(1,iv (w64 ((w64 ((w64 ((w64 ((w64 ((w64 (s20.2.1+1))+1))+1))+1))+1))+1))),(5,iv s20.2.2)] [(0,rE 7 Term.enc (((((((s20.1.set s20.2.2.toNat ({Name:=x22,Low:=x24.Low,High:=x24.High}:Term)).set s20.2.2.toNat ({Name:=x26.Name,Low:=({A:=w64 (s20.2.1+1),B:=x26.Low.B,C:=x26.Low.C}:Version),High:=x26.High}:Term)).set s20.2.2.toNat ({Name:=x28.Name,Low:=({A:=x28.Low.A,B:=w64 ((w64 (s20.2.1+1))+1),C:=x28.Low.C}:Version),High:=x28.High}:Term)).set s20.2.2.toNat ({Name:=x30.Name,Low:=({A:=x30.Low.A,B:=x30.Low.B,C:=w64 ((w64 ((w64 (s20.2.1+1))+1))+1)}:Version),High:=x30.High}:Term)).set s20.2.2.toNat ({Name:=x32.Name,Low:=x32.Low,High:=({A:=w64 ((w64 ((w64 ((w64 (s20.2.1+1))+1))+1))+1),B:=x32.High.B,C:=x32.High.C}:Version)}:Term)).set s20.2.2.toNat ({Name:=x34.Name,Low:=x34.Low,High:=({A:=x34.High.A,B:=w64 ((w64 ((w64 ((w64 ((w64 (s20.2.1+1))+1))+1))+1))+1),C:=x34.High.C}:Version)}:Term)).set s20.2.2.toNat ({Name:=x36.Name,Low:=x36.Low,High:=({A:=x36.High.A,B:=x36.High.B,C:=w64 ((w64 ((w64 ((w64 ((w64 ((w64 (s20.2.1+1))+1))+1))+1))+1))+1)}:Version)}:Term)))]) (by simp only [rr,List.length_set]) ?_
  refine J_g 3448831 [] [(0,rr 0 (((((((s20.1.set s20.2.2.toNat ({Name:=x22,Low:=x24.Low,High:=x24.High}:Term)).set s20.2.2.toNat ({Name:=x26.Name,Low:=({A:=w64 (s20.2.1+1),B:=x26.Low.B,C:=x26.Low.C}:Version),High:=x26.High}:Term)).set s20.2.2.toNat ({Name:=x28.Name,Low:=({A:=x28.Low.A,B:=w64 ((w64 (s20.2.1+1))+1),C:=x28.Low.C}:Version),High:=x28.High}:Term)).set s20.2.2.toNat ({Name:=x30.Name,Low:=({A:=x30.Low.A,B:=x30.Low.B,C:=w64 ((w64 ((w64 (s20.2.1+1))+1))+1)}:Version),High:=x30.High}:Term)).set s20.2.2.toNat ({Name:=x32.Name,Low:=x32.Low,High:=({A:=w64 ((w64 ((w64 ((w64 (s20.2.1+1))+1))+1))+1),B:=x32.High.B,C:=x32.High.C}:Version)}:Term)).set s20.2.2.toNat ({Name:=x34.Name,Low:=x34.Low,High:=({A:=x34.High.A,B:=w64 ((w64 ((w64 ((w64 ((w64 (s20.2.1+1))+1))+1))+1))+1),C:=x34.High.C}:Version)}:Term)).set s20.2.2.toNat ({Name:=x36.Name,Low:=x36.Low,High:=({A:=x36.High.A,B:=x36.High.B,C:=w64 ((w64 ((w64 ((w64 ((w64 ((w64 (s20.2.1+1))+1))+1))+1))+1))+1)}:Version)}:Term))),(1,iv (w64 ((w64 ((w64 ((w64 ((w64 ((w64 ((w64 (s20.2.1+1))+1))+1))+1))+1))+1))+1))),(5,iv s20.2.2)] [(0,rE 7 Term.enc (((((((s20.1.set s20.2.2.toNat ({Name:=x22,Low:=x24.Low,High:=x24.High}:Term)).set s20.2.2.toNat ({Name:=x26.Name,Low:=({A:=w64 (s20.2.1+1),B:=x26.Low.B,C:=x26.Low.C}:Version),High:=x26.High}:Term)).set s20.2.2.toNat ({Name:=x28.Name,Low:=({A:=x28.Low.A,B:=w64 ((w64 (s20.2.1+1))+1),C:=x28.Low.C}:Version),High:=x28.High}:Term)).set s20.2.2.toNat ({Name:=x30.Name,Low:=({A:=x30.Low.A,B:=x30.Low.B,C:=w64 ((w64 ((w64 (s20.2.1+1))+1))+1)}:Version),High:=x30.High}:Term)).set s20.2.2.toNat ({Name:=x32.Name,Low:=x32.Low,High:=({A:=w64 ((w64 ((w64 ((w64 (s20.2.1+1))+1))+1))+1),B:=x32.High.B,C:=x32.High.C}:Version)}:Term)).set s20.2.2.toNat ({Name:=x34.Name,Low:=x34.Low,High:=({A:=x34.High.A,B:=w64 ((w64 ((w64 ((w64 ((w64 (s20.2.1+1))+1))+1))+1))+1),C:=x34.High.C}:Version)}:Term)).set s20.2.2.toNat ({Name:=x36.Name,Low:=x36.Low,High:=({A:=x36.High.A,B:=x36.High.B,C:=w64 ((w64 ((w64 ((w64 ((w64 ((w64 (s20.2.1+1))+1))+1))+1))+1))+1)}:Version)}:Term)))] zB ?_
  refine J_d 211 [] [5] [(5,iv (w64 (s20.2.2+1)))] [] [] zB ?_
  exact J_q (J_b (ih (((((((s20.1.set s20.2.2.toNat ({Name:=x22,Low:=x24.Low,High:=x24.High}:Term)).set s20.2.2.toNat ({Name:=x26.Name,Low:=({A:=w64 (s20.2.1+1),B:=x26.Low.B,C:=x26.Low.C}:Version),High:=x26.High}:Term)).set s20.2.2.toNat ({Name:=x28.Name,Low:=({A:=x28.Low.A,B:=w64 ((w64 (s20.2.1+1))+1),C:=x28.Low.C}:Version),High:=x28.High}:Term)).set s20.2.2.toNat ({Name:=x30.Name,Low:=({A:=x30.Low.A,B:=x30.Low.B,C:=w64 ((w64 ((w64 (s20.2.1+1))+1))+1)}:Version),High:=x30.High}:Term)).set s20.2.2.toNat ({Name:=x32.Name,Low:=x32.Low,High:=({A:=w64 ((w64 ((w64 ((w64 (s20.2.1+1))+1))+1))+1),B:=x32.High.B,C:=x32.High.C}:Version)}:Term)).set s20.2.2.toNat ({Name:=x34.Name,Low:=x34.Low,High:=({A:=x34.High.A,B:=w64 ((w64 ((w64 ((w64 ((w64 (s20.2.1+1))+1))+1))+1))+1),C:=x34.High.C}:Version)}:Term)).set s20.2.2.toNat ({Name:=x36.Name,Low:=x36.Low,High:=({A:=x36.High.A,B:=x36.High.B,C:=w64 ((w64 ((w64 ((w64 ((w64 ((w64 (s20.2.1+1))+1))+1))+1))+1))+1)}:Version)}:Term),w64 ((w64 ((w64 ((w64 ((w64 ((w64 ((w64 (s20.2.1+1))+1))+1))+1))+1))+1))+1),w64 (s20.2.2+1)))) rfl
 ·exact yN (hk (s20.1,s20.2.1)) rfl
theorem uI.ok (a1:(List Term)) (a2:Int):Ok Tryz.prog 74 [rr 0 a1,iv a2] [rE 7 Term.enc a1] ((uI a1 a2).map fun r=>(iv r.1,[rE 7 Term.enc r.2])):=by
 refine zH c74 Tryz.f74 1 69 (fun q=>?_)
 unfold uI
 refine J_g 2 [] [(0,rr 0 a1),(1,iv a2)] [(0,rE 7 Term.enc a1)] zB ?_
 refine J_d 12 [] [5] [(5,iv 0)] [] [] zB ?_
 refine zFJ (zAS.ok q _ (fun v38=>J_j ?_) (a1,a2,0))
 refine J_d 14 [] [1,4] [(4,iv v38.2)] [] [] zB ?_
 exact zM rfl
noncomputable def c73:Code:=(Tryz.f73.body).getD .skip
theorem zAE.ok (q:Wd) (kn:((List (List Term))×Int)→Option (D×List Ent)) (hk:∀v:((List (List Term))×Int),J (q.g Tryz.prog 73 1 19) c73 (atI c73 7) (St.mk' [(1,iv v.2)] [(0,rE 1 (eSl true 7 Term.enc) v.1)]) (some v) kn):
  ∀s10:((List (List Term))×Int×Int),J (q.g Tryz.prog 73 1 19) c73 (atI c73 52) (St.mk' [(0,rr 0 s10.1),(1,iv s10.2.1),(5,iv s10.2.2)] [(0,rE 1 (eSl true 7 Term.enc) s10.1)]) (zAE s10) kn:=by
 refine tQ (fun g ih s10=>?_)
 unfold kG
 refine J_d 208 [] [9] [(9,bv (decide (s10.2.2< (s10.1.length:Int))))] [] [] zB ?_
 refine zG 9 (fun h11=>?_) (fun h11=>?_)
 ·refine zA (fun x12 h13=>?_)
  refine zII (ix:=s10.2.2) (enc:=(eSl true 7 Term.enc)) 0 0 1 h13 rfl rfl (by kernel_rfl) ?_
  refine zOj [(0,rr 0 s10.1),(1,iv s10.2.1),(5,iv s10.2.2),(9,bv true)] [(0,.lent 1 (s10.1.map (eSl true 7 Term.enc)) s10.2.2.toNat 0 1 x12.length),(1,rE 7 Term.enc x12)] (by kernel_rfl) ?_
  refine zA (fun x14 h15=>?_)
  refine J_g 420 [] [(0,rr 0 s10.1),(1,iv x14.1),(5,iv s10.2.2)] [(0,.lent 1 (s10.1.map (eSl true 7 Term.enc)) s10.2.2.toNat 0 1 x12.length),(1,rE 7 Term.enc x14.2)] (zF 2 (zOV (kk:=.i64) 100 75 1 0 (eSl true 7 Term.enc) (.tmp 12) (.tmp 13) s10.2.2.toNat 0 1 x12.length h13) (zF 3 (zPr 75 0 (.tmp 14) 1 (eSl true 7 Term.enc) s10.1 s10.2.2.toNat 0 1 x12.length) (zF 5 (vQ («as»:=[rr 1 x12,iv s10.2.1]) [(.tmp 15),(.tmp 16)] [75,3] false [(1,rE 7 Term.enc x12)] [1] (.cons (.rf rfl) (.cons (.same rfl) (.nil))) (uI.ok x12 s10.2.1) h15 (.same rfl rfl)) zB))) ?_
  refine zA (fun u16 h17=>?_)
  refine zIA (ix:=s10.2.2) (enc:=(eSl true 7 Term.enc)) (b:=x14.2) 0 0 1 h13 rfl rfl rfl rfl (zCN h17) (Nat.le_of_ble_eq_true rfl) ((List.length_map _).trans (zCN h17)) ?_
  refine zOj [(0,rr 0 s10.1),(1,iv x14.1),(5,iv s10.2.2)] [(0,rE 1 (eSl true 7 Term.enc) (s10.1.set s10.2.2.toNat x14.2))] (by kernel_rfl) ?_
  refine zGK (σ':=St.mk' [(0,rr 0 (s10.1.set s10.2.2.toNat x14.2)),(1,iv x14.1),(5,iv s10.2.2)] [(0,rE 1 (eSl true 7 Term.enc) (s10.1.set s10.2.2.toNat x14.2))]) (by simp only [rr,List.length_set]) ?_
  refine J_d 211 [] [5] [(5,iv (w64 (s10.2.2+1)))] [] [] zB ?_
  exact J_q (J_b (ih (s10.1.set s10.2.2.toNat x14.2,x14.1,w64 (s10.2.2+1)))) rfl
 ·exact yN (hk (s10.1,s10.2.1)) rfl
theorem jX.ok (a1:(List (List Term))) (a2:Int):Ok Tryz.prog 73 [rr 0 a1,iv a2] [rE 1 (eSl true 7 Term.enc) a1] ((jX a1 a2).map fun r=>(iv r.1,[rE 1 (eSl true 7 Term.enc) r.2])):=by
 refine zH c73 Tryz.f73 1 19 (fun q=>?_)
 unfold jX
 refine J_g 2 [] [(0,rr 0 a1),(1,iv a2)] [(0,rE 1 (eSl true 7 Term.enc) a1)] zB ?_
 refine J_d 12 [] [5] [(5,iv 0)] [] [] zB ?_
 refine zFJ (zAE.ok q _ (fun v18=>J_j ?_) (a1,a2,0))
 refine J_d 14 [] [1,4] [(4,iv v18.2)] [] [] zB ?_
 exact zM rfl
noncomputable def c24:Code:=(Tryz.f24.body).getD .skip
theorem zBo.ok (q:Wd) (kn:((List Pack)×Int)→Option (D×List Ent)) (hk:∀v:((List Pack)×Int),J (q.g Tryz.prog 24 1 73) c24 (atI c24 7) (St.mk' [(1,iv v.2)] [(0,rE 8 (Pack.enc true) v.1)]) (some v) kn):
  ∀s34:((List Pack)×Int×Int),J (q.g Tryz.prog 24 1 73) c24 (atI c24 52) (St.mk' [(0,rr 0 s34.1),(1,iv s34.2.1),(5,iv s34.2.2)] [(0,rE 8 (Pack.enc true) s34.1)]) (zBo s34) kn:=by
 refine tQ (fun g ih s34=>?_)
 unfold zAm
 refine J_d 208 [] [9] [(9,bv (decide (s34.2.2< (s34.1.length:Int))))] [] [] zB ?_
 refine zG 9 (fun h35=>?_) (fun h35=>?_)
 ·refine zA (fun x36 h37=>?_)
  refine zA (fun x38 h39=>?_)
  refine J_g 840 [] [(0,rr 0 s34.1),(1,iv s34.2.1),(5,iv s34.2.2)] [(0,rE 8 (Pack.enc true) (s34.1.set s34.2.2.toNat ({Name:=x36,Version:=x38.Version,Size:=x38.Size,Provides:=x38.Provides,Needs:=x38.Needs,Bars:=x38.Bars}:Pack)))] (zF 3 (xC [(.tmp 14)] [3] (xE.ok s34.2.1) h37) (zF 4 (zAv (kk:=.i64) 30 102 8 0 (Pack.enc true) (.tmp 12) (.tmp 13) h39) (zHK 6 (zJn (b:=({Name:=x36,Version:=x38.Version,Size:=x38.Size,Provides:=x38.Provides,Needs:=x38.Needs,Bars:=x38.Bars}:Pack)) 9 8 0 0 (Pack.enc true) (sv x36) (.tmp 17) (.tmp 15) h39 rfl) zB))) ?_
  refine zGK (σ':=St.mk' [(0,rr 0 (s34.1.set s34.2.2.toNat ({Name:=x36,Version:=x38.Version,Size:=x38.Size,Provides:=x38.Provides,Needs:=x38.Needs,Bars:=x38.Bars}:Pack))),(1,iv s34.2.1),(5,iv s34.2.2)] [(0,rE 8 (Pack.enc true) (s34.1.set s34.2.2.toNat ({Name:=x36,Version:=x38.Version,Size:=x38.Size,Provides:=x38.Provides,Needs:=x38.Needs,Bars:=x38.Bars}:Pack)))]) (by simp only [rr,List.length_set]) ?_
  refine J_d 1682 [] [1] [(1,iv (w64 (s34.2.1+1)))] [] [] zB ?_
  refine zA (fun x40 h41=>?_)
  refine J_g 3366 [] [(0,rr 0 (s34.1.set s34.2.2.toNat ({Name:=x36,Version:=x38.Version,Size:=x38.Size,Provides:=x38.Provides,Needs:=x38.Needs,Bars:=x38.Bars}:Pack))),(1,iv (w64 (s34.2.1+1))),(5,iv s34.2.2)] [(0,rE 8 (Pack.enc true) ((s34.1.set s34.2.2.toNat ({Name:=x36,Version:=x38.Version,Size:=x38.Size,Provides:=x38.Provides,Needs:=x38.Needs,Bars:=x38.Bars}:Pack)).set s34.2.2.toNat ({Name:=x40.Name,Version:=({A:=w64 (s34.2.1+1),B:=x40.Version.B,C:=x40.Version.C}:Version),Size:=x40.Size,Provides:=x40.Provides,Needs:=x40.Needs,Bars:=x40.Bars}:Pack)))] (zF 3 (zAv (kk:=.i64) 30 102 8 0 (Pack.enc true) (.tmp 20) (.tmp 21) h41) (zHK 6 (zJn (b:=({Name:=x40.Name,Version:=({A:=w64 (s34.2.1+1),B:=x40.Version.B,C:=x40.Version.C}:Version),Size:=x40.Size,Provides:=x40.Provides,Needs:=x40.Needs,Bars:=x40.Bars}:Pack)) 2 8 0 1 (Pack.enc true) (iv (w64 (s34.2.1+1))) (.tmp 25) (.tmp 22) h41 rfl) zB)) ?_
  refine zGK (σ':=St.mk' [(0,rr 0 ((s34.1.set s34.2.2.toNat ({Name:=x36,Version:=x38.Version,Size:=x38.Size,Provides:=x38.Provides,Needs:=x38.Needs,Bars:=x38.Bars}:Pack)).set s34.2.2.toNat ({Name:=x40.Name,Version:=({A:=w64 (s34.2.1+1),B:=x40.Version.B,C:=x40.Version.C}:Version),Size:=x40.Size,Provides:=x40.Provides,Needs:=x40.Needs,Bars:=x40.Bars}:Pack))),(1,iv (w64 (s34.2.1+1))),(5,iv s34.2.2)] [(0,rE 8 (Pack.enc true) ((s34.1.set s34.2.2.toNat ({Name:=x36,Version:=x38.Version,Size:=x38.Size,Provides:=x38.Provides,Needs:=x38.Needs,Bars:=x38.Bars}:Pack)).set s34.2.2.toNat ({Name:=x40.Name,Version:=({A:=w64 (s34.2.1+1),B:=x40.Version.B,C:=x40.Version.C}:Version),Size:=x40.Size,Provides:=x40.Provides,Needs:=x40.Needs,Bars:=x40.Bars}:Pack)))]) (by simp only [rr,List.length_set]) ?_
  refine J_d 6734 [] [1] [(1,iv (w64 ((w64 (s34.2.1+1))+1)))] [] [] zB ?_
  refine zA (fun x42 h43=>?_)
  refine J_g 13470 [] [(0,rr 0 ((s34.1.set s34.2.2.toNat ({Name:=x36,Version:=x38.Version,Size:=x38.Size,Provides:=x38.Provides,Needs:=x38.Needs,Bars:=x38.Bars}:Pack)).set s34.2.2.toNat ({Name:=x40.Name,Version:=({A:=w64 (s34.2.1+1),B:=x40.Version.B,C:=x40.Version.C}:Version),Size:=x40.Size,Provides:=x40.Provides,Needs:=x40.Needs,Bars:=x40.Bars}:Pack))),(1,iv (w64 ((w64 (s34.2.1+1))+1))),(5,iv s34.2.2)] [(0,rE 8 (Pack.enc true) (((s34.1.set s34.2.2.toNat ({Name:=x36,Version:=x38.Version,Size:=x38.Size,Provides:=x38.Provides,Needs:=x38.Needs,Bars:=x38.Bars}:Pack)).set s34.2.2.toNat ({Name:=x40.Name,Version:=({A:=w64 (s34.2.1+1),B:=x40.Version.B,C:=x40.Version.C}:Version),Size:=x40.Size,Provides:=x40.Provides,Needs:=x40.Needs,Bars:=x40.Bars}:Pack)).set s34.2.2.toNat ({Name:=x42.Name,Version:=({A:=x42.Version.A,B:=w64 ((w64 (s34.2.1+1))+1),C:=x42.Version.C}:Version),Size:=x42.Size,Provides:=x42.Provides,Needs:=x42.Needs,Bars:=x42.Bars}:Pack)))] (zF 3 (zAv (kk:=.i64) 30 102 8 0 (Pack.enc true) (.tmp 28) (.tmp 29) h43) (zHK 6 (zJn (b:=({Name:=x42.Name,Version:=({A:=x42.Version.A,B:=w64 ((w64 (s34.2.1+1))+1),C:=x42.Version.C}:Version),Size:=x42.Size,Provides:=x42.Provides,Needs:=x42.Needs,Bars:=x42.Bars}:Pack)) 2 8 0 2 (Pack.enc true) (iv (w64 ((w64 (s34.2.1+1))+1))) (.tmp 33) (.tmp 30) h43 rfl) zB)) ?_
  refine zGK (σ':=St.mk' [(0,rr 0 (((s34.1.set s34.2.2.toNat ({Name:=x36,Version:=x38.Version,Size:=x38.Size,Provides:=x38.Provides,Needs:=x38.Needs,Bars:=x38.Bars}:Pack)).set s34.2.2.toNat ({Name:=x40.Name,Version:=({A:=w64 (s34.2.1+1),B:=x40.Version.B,C:=x40.Version.C}:Version),Size:=x40.Size,Provides:=x40.Provides,Needs:=x40.Needs,Bars:=x40.Bars}:Pack)).set s34.2.2.toNat ({Name:=x42.Name,Version:=({A:=x42.Version.A,B:=w64 ((w64 (s34.2.1+1))+1),C:=x42.Version.C}:Version),Size:=x42.Size,Provides:=x42.Provides,Needs:=x42.Needs,Bars:=x42.Bars}:Pack))),(1,iv (w64 ((w64 (s34.2.1+1))+1))),(5,iv s34.2.2)] [(0,rE 8 (Pack.enc true) (((s34.1.set s34.2.2.toNat ({Name:=x36,Version:=x38.Version,Size:=x38.Size,Provides:=x38.Provides,Needs:=x38.Needs,Bars:=x38.Bars}:Pack)).set s34.2.2.toNat ({Name:=x40.Name,Version:=({A:=w64 (s34.2.1+1),B:=x40.Version.B,C:=x40.Version.C}:Version),Size:=x40.Size,Provides:=x40.Provides,Needs:=x40.Needs,Bars:=x40.Bars}:Pack)).set s34.2.2.toNat ({Name:=x42.Name,Version:=({A:=x42.Version.A,B:=w64 ((w64 (s34.2.1+1))+1),C:=x42.Version.C}:Version),Size:=x42.Size,Provides:=x42.Provides,Needs:=x42.Needs,Bars:=x42.Bars}:Pack)))]) (by simp only [rr,List.length_set]) ?_
  refine J_d 26942 [] [1] [(1,iv (w64 ((w64 ((w64 (s34.2.1+1))+1))+1)))] [] [] zB ?_
  refine zA (fun x44 h45=>?_)
  refine J_g 53886 [] [(0,rr 0 (((s34.1.set s34.2.2.toNat ({Name:=x36,Version:=x38.Version,Size:=x38.Size,Provides:=x38.Provides,Needs:=x38.Needs,Bars:=x38.Bars}:Pack)).set s34.2.2.toNat ({Name:=x40.Name,Version:=({A:=w64 (s34.2.1+1),B:=x40.Version.B,C:=x40.Version.C}:Version),Size:=x40.Size,Provides:=x40.Provides,Needs:=x40.Needs,Bars:=x40.Bars}:Pack)).set s34.2.2.toNat ({Name:=x42.Name,Version:=({A:=x42.Version.A,B:=w64 ((w64 (s34.2.1+1))+1),C:=x42.Version.C}:Version),Size:=x42.Size,Provides:=x42.Provides,Needs:=x42.Needs,Bars:=x42.Bars}:Pack))),(1,iv (w64 ((w64 ((w64 (s34.2.1+1))+1))+1))),(5,iv s34.2.2)] [(0,rE 8 (Pack.enc true) ((((s34.1.set s34.2.2.toNat ({Name:=x36,Version:=x38.Version,Size:=x38.Size,Provides:=x38.Provides,Needs:=x38.Needs,Bars:=x38.Bars}:Pack)).set s34.2.2.toNat ({Name:=x40.Name,Version:=({A:=w64 (s34.2.1+1),B:=x40.Version.B,C:=x40.Version.C}:Version),Size:=x40.Size,Provides:=x40.Provides,Needs:=x40.Needs,Bars:=x40.Bars}:Pack)).set s34.2.2.toNat ({Name:=x42.Name,Version:=({A:=x42.Version.A,B:=w64 ((w64 (s34.2.1+1))+1),C:=x42.Version.C}:Version),Size:=x42.Size,Provides:=x42.Provides,Needs:=x42.Needs,Bars:=x42.Bars}:Pack)).set s34.2.2.toNat ({Name:=x44.Name,Version:=({A:=x44.Version.A,B:=x44.Version.B,C:=w64 ((w64 ((w64 (s34.2.1+1))+1))+1)}:Version),Size:=x44.Size,Provides:=x44.Provides,Needs:=x44.Needs,Bars:=x44.Bars}:Pack)))] (zF 3 (zAv (kk:=.i64) 30 102 8 0 (Pack.enc true) (.tmp 36) (.tmp 37) h45) (zHK 6 (zJn (b:=({Name:=x44.Name,Version:=({A:=x44.Version.A,B:=x44.Version.B,C:=w64 ((w64 ((w64 (s34.2.1+1))+1))+1)}:Version),Size:=x44.Size,Provides:=x44.Provides,Needs:=x44.Needs,Bars:=x44.Bars}:Pack)) 2 8 0 3 (Pack.enc true) (iv (w64 ((w64 ((w64 (s34.2.1+1))+1))+1))) (.tmp 41) (.tmp 38) h45 rfl) zB)) ?_
  refine zGK (σ':=St.mk' [(0,rr 0 ((((s34.1.set s34.2.2.toNat ({Name:=x36,Version:=x38.Version,Size:=x38.Size,Provides:=x38.Provides,Needs:=x38.Needs,Bars:=x38.Bars}:Pack)).set s34.2.2.toNat ({Name:=x40.Name,Version:=({A:=w64 (s34.2.1+1),B:=x40.Version.B,C:=x40.Version.C}:Version),Size:=x40.Size,Provides:=x40.Provides,Needs:=x40.Needs,Bars:=x40.Bars}:Pack)).set s34.2.2.toNat ({Name:=x42.Name,Version:=({A:=x42.Version.A,B:=w64 ((w64 (s34.2.1+1))+1),C:=x42.Version.C}:Version),Size:=x42.Size,Provides:=x42.Provides,Needs:=x42.Needs,Bars:=x42.Bars}:Pack)).set s34.2.2.toNat ({Name:=x44.Name,Version:=({A:=x44.Version.A,B:=x44.Version.B,C:=w64 ((w64 ((w64 (s34.2.1+1))+1))+1)}:Version),Size:=x44.Size,Provides:=x44.Provides,Needs:=x44.Needs,Bars:=x44.Bars}:Pack))),(1,iv (w64 ((w64 ((w64 (s34.2.1+1))+1))+1))),(5,iv s34.2.2)] [(0,rE 8 (Pack.enc true) ((((s34.1.set s34.2.2.toNat ({Name:=x36,Version:=x38.Version,Size:=x38.Size,Provides:=x38.Provides,Needs:=x38.Needs,Bars:=x38.Bars}:Pack)).set s34.2.2.toNat ({Name:=x40.Name,Version:=({A:=w64 (s34.2.1+1),B:=x40.Version.B,C:=x40.Version.C}:Version),Size:=x40.Size,Provides:=x40.Provides,Needs:=x40.Needs,Bars:=x40.Bars}:Pack)).set s34.2.2.toNat ({Name:=x42.Name,Version:=({A:=x42.Version.A,B:=w64 ((w64 (s34.2.1+1))+1),C:=x42.Version.C}:Version),Size:=x42.Size,Provides:=x42.Provides,Needs:=x42.Needs,Bars:=x42.Bars}:Pack)).set s34.2.2.toNat ({Name:=x44.Name,Version:=({A:=x44.Version.A,B:=x44.Version.B,C:=w64 ((w64 ((w64 (s34.2.1+1))+1))+1)}:Version),Size:=x44.Size,Provides:=x44.Provides,Needs:=x44.Needs,Bars:=x44.Bars}:Pack)))]) (by simp only [rr,List.length_set]) ?_
  refine J_d 107774 [] [1] [(1,iv (w64 ((w64 ((w64 ((w64 (s34.2.1+1))+1))+1))+1)))] [] [] zB ?_
  refine zA (fun x46 h47=>?_)
  refine J_g 215550 [] [(0,rr 0 ((((s34.1.set s34.2.2.toNat ({Name:=x36,Version:=x38.Version,Size:=x38.Size,Provides:=x38.Provides,Needs:=x38.Needs,Bars:=x38.Bars}:Pack)).set s34.2.2.toNat ({Name:=x40.Name,Version:=({A:=w64 (s34.2.1+1),B:=x40.Version.B,C:=x40.Version.C}:Version),Size:=x40.Size,Provides:=x40.Provides,Needs:=x40.Needs,Bars:=x40.Bars}:Pack)).set s34.2.2.toNat ({Name:=x42.Name,Version:=({A:=x42.Version.A,B:=w64 ((w64 (s34.2.1+1))+1),C:=x42.Version.C}:Version),Size:=x42.Size,Provides:=x42.Provides,Needs:=x42.Needs,Bars:=x42.Bars}:Pack)).set s34.2.2.toNat ({Name:=x44.Name,Version:=({A:=x44.Version.A,B:=x44.Version.B,C:=w64 ((w64 ((w64 (s34.2.1+1))+1))+1)}:Version),Size:=x44.Size,Provides:=x44.Provides,Needs:=x44.Needs,Bars:=x44.Bars}:Pack))),(1,iv (w64 ((w64 ((w64 ((w64 (s34.2.1+1))+1))+1))+1))),(5,iv s34.2.2)] [(0,rE 8 (Pack.enc true) (((((s34.1.set s34.2.2.toNat ({Name:=x36,Version:=x38.Version,Size:=x38.Size,Provides:=x38.Provides,Needs:=x38.Needs,Bars:=x38.Bars}:Pack)).set s34.2.2.toNat ({Name:=x40.Name,Version:=({A:=w64 (s34.2.1+1),B:=x40.Version.B,C:=x40.Version.C}:Version),Size:=x40.Size,Provides:=x40.Provides,Needs:=x40.Needs,Bars:=x40.Bars}:Pack)).set s34.2.2.toNat ({Name:=x42.Name,Version:=({A:=x42.Version.A,B:=w64 ((w64 (s34.2.1+1))+1),C:=x42.Version.C}:Version),Size:=x42.Size,Provides:=x42.Provides,Needs:=x42.Needs,Bars:=x42.Bars}:Pack)).set s34.2.2.toNat ({Name:=x44.Name,Version:=({A:=x44.Version.A,B:=x44.Version.B,C:=w64 ((w64 ((w64 (s34.2.1+1))+1))+1)}:Version),Size:=x44.Size,Provides:=x44.Provides,Needs:=x44.Needs,Bars:=x44.Bars}:Pack)).set s34.2.2.toNat ({Name:=x46.Name,Version:=x46.Version,Size:=w64 ((w64 ((w64 ((w64 (s34.2.1+1))+1))+1))+1),Provides:=x46.Provides,Needs:=x46.Needs,Bars:=x46.Bars}:Pack)))] (zF 3 (zAv (kk:=.i64) 30 102 8 0 (Pack.enc true) (.tmp 44) (.tmp 45) h47) (zHK 5 (zJn (b:=({Name:=x46.Name,Version:=x46.Version,Size:=w64 ((w64 ((w64 ((w64 (s34.2.1+1))+1))+1))+1),Provides:=x46.Provides,Needs:=x46.Needs,Bars:=x46.Bars}:Pack)) 2 8 0 4 (Pack.enc true) (iv (w64 ((w64 ((w64 ((w64 (s34.2.1+1))+1))+1))+1))) (.tmp 48) (.tmp 46) h47 rfl) zB)) ?_
  refine zGK (σ':=St.mk' [(0,rr 0 (((((s34.1.set s34.2.2.toNat ({Name:=x36,Version:=x38.Version,Size:=x38.Size,Provides:=x38.Provides,Needs:=x38.Needs,Bars:=x38.Bars}:Pack)).set s34.2.2.toNat ({Name:=x40.Name,Version:=({A:=w64 (s34.2.1+1),B:=x40.Version.B,C:=x40.Version.C}:Version),Size:=x40.Size,Provides:=x40.Provides,Needs:=x40.Needs,Bars:=x40.Bars}:Pack)).set s34.2.2.toNat ({Name:=x42.Name,Version:=({A:=x42.Version.A,B:=w64 ((w64 (s34.2.1+1))+1),C:=x42.Version.C}:Version),Size:=x42.Size,Provides:=x42.Provides,Needs:=x42.Needs,Bars:=x42.Bars}:Pack)).set s34.2.2.toNat ({Name:=x44.Name,Version:=({A:=x44.Version.A,B:=x44.Version.B,C:=w64 ((w64 ((w64 (s34.2.1+1))+1))+1)}:Version),Size:=x44.Size,Provides:=x44.Provides,Needs:=x44.Needs,Bars:=x44.Bars}:Pack)).set s34.2.2.toNat ({Name:=x46.Name,Version:=x46.Version,Size:=w64 ((w64 ((w64 ((w64 (s34.2.1+1))+1))+1))+1),Provides:=x46.Provides,Needs:=x46.Needs,Bars:=x46.Bars}:Pack))),(1,iv (w64 ((w64 ((w64 ((w64 (s34.2.1+1))+1))+1))+1))),(5,iv s34.2.2)] [(0,rE 8 (Pack.enc true) (((((s34.1.set s34.2.2.toNat ({Name:=x36,Version:=x38.Version,Size:=x38.Size,Provides:=x38.Provides,Needs:=x38.Needs,Bars:=x38.Bars}:Pack)).set s34.2.2.toNat ({Name:=x40.Name,Version:=({A:=w64 (s34.2.1+1),B:=x40.Version.B,C:=x40.Version.C}:Version),Size:=x40.Size,Provides:=x40.Provides,Needs:=x40.Needs,Bars:=x40.Bars}:Pack)).set s34.2.2.toNat ({Name:=x42.Name,Version:=({A:=x42.Version.A,B:=w64 ((w64 (s34.2.1+1))+1),C:=x42.Version.C}:Version),Size:=x42.Size,Provides:=x42.Provides,Needs:=x42.Needs,Bars:=x42.Bars}:Pack)).set s34.2.2.toNat ({Name:=x44.Name,Version:=({A:=x44.Version.A,B:=x44.Version.B,C:=w64 ((w64 ((w64 (s34.2.1+1))+1))+1)}:Version),Size:=x44.Size,Provides:=x44.Provides,Needs:=x44.Needs,Bars:=x44.Bars}:Pack)).set s34.2.2.toNat ({Name:=x46.Name,Version:=x46.Version,Size:=w64 ((w64 ((w64 ((w64 (s34.2.1+1))+1))+1))+1),Provides:=x46.Provides,Needs:=x46.Needs,Bars:=x46.Bars}:Pack)))]) (by simp only [rr,List.length_set]) ?_
  refine J_d 431102 [] [1] [(1,iv (w64 ((w64 ((w64 ((w64 ((w64 (s34.2.1+1))+1))+1))+1))+1)))] [] [] zB ?_
  refine zA (fun x48 h49=>?_)
  refine zII (ix:=s34.2.2) (enc:=(Pack.enc true)) 0 5 1 h49 rfl rfl (by kernel_rfl) ?_
  refine zOj [(0,rr 0 (((((s34.1.set s34.2.2.toNat ({Name:=x36,Version:=x38.Version,Size:=x38.Size,Provides:=x38.Provides,Needs:=x38.Needs,Bars:=x38.Bars}:Pack)).set s34.2.2.toNat ({Name:=x40.Name,Version:=({A:=w64 (s34.2.1+1),B:=x40.Version.B,C:=x40.Version.C}:Version),Size:=x40.Size,Provides:=x40.Provides,Needs:=x40.Needs,Bars:=x40.Bars}:Pack)).set s34.2.2.toNat ({Name:=x42.Name,Version:=({A:=x42.Version.A,B:=w64 ((w64 (s34.2.1+1))+1),C:=x42.Version.C}:Version),Size:=x42.Size,Provides:=x42.Provides,Needs:=x42.Needs,Bars:=x42.Bars}:Pack)).set s34.2.2.toNat ({Name:=x44.Name,Version:=({A:=x44.Version.A,B:=x44.Version.B,C:=w64 ((w64 ((w64 (s34.2.1+1))+1))+1)}:Version),Size:=x44.Size,Provides:=x44.Provides,Needs:=x44.Needs,Bars:=x44.Bars}:Pack)).set s34.2.2.toNat ({Name:=x46.Name,Version:=x46.Version,Size:=w64 ((w64 ((w64 ((w64 (s34.2.1+1))+1))+1))+1),Provides:=x46.Provides,Needs:=x46.Needs,Bars:=x46.Bars}:Pack))),(1,iv (w64 ((w64 ((w64 ((w64 ((w64 (s34.2.1+1))+1))+1))+1))+1))),(5,iv s34.2.2)] [(0,.lent 8 ((((((s34.1.set s34.2.2.toNat ({Name:=x36,Version:=x38.Version,Size:=x38.Size,Provides:=x38.Provides,Needs:=x38.Needs,Bars:=x38.Bars}:Pack)).set s34.2.2.toNat ({Name:=x40.Name,Version:=({A:=w64 (s34.2.1+1),B:=x40.Version.B,C:=x40.Version.C}:Version),Size:=x40.Size,Provides:=x40.Provides,Needs:=x40.Needs,Bars:=x40.Bars}:Pack)).set s34.2.2.toNat ({Name:=x42.Name,Version:=({A:=x42.Version.A,B:=w64 ((w64 (s34.2.1+1))+1),C:=x42.Version.C}:Version),Size:=x42.Size,Provides:=x42.Provides,Needs:=x42.Needs,Bars:=x42.Bars}:Pack)).set s34.2.2.toNat ({Name:=x44.Name,Version:=({A:=x44.Version.A,B:=x44.Version.B,C:=w64 ((w64 ((w64 (s34.2.1+1))+1))+1)}:Version),Size:=x44.Size,Provides:=x44.Provides,Needs:=x44.Needs,Bars:=x44.Bars}:Pack)).set s34.2.2.toNat ({Name:=x46.Name,Version:=x46.Version,Size:=w64 ((w64 ((w64 ((w64 (s34.2.1+1))+1))+1))+1),Provides:=x46.Provides,Needs:=x46.Needs,Bars:=x46.Bars}:Pack)).map (Pack.enc true)) s34.2.2.toNat 5 1 x48.Provides.length),(1,rE 1 eStr x48.Provides)] (by kernel_rfl) ?_
  refine zA (fun x50 h51=>?_)
  refine J_g 862206 [] [(0,rr 0 (((((s34.1.set s34.2.2.toNat ({Name:=x36,Version:=x38.Version,Size:=x38.Size,Provides:=x38.Provides,Needs:=x38.Needs,Bars:=x38.Bars}:Pack)).set s34.2.2.toNat ({Name:=x40.Name,Version:=({A:=w64 (s34.2.1+1),B:=x40.Version.B,C:=x40.Version.C}:Version),Size:=x40.Size,Provides:=x40.Provides,Needs:=x40.Needs,Bars:=x40.Bars}:Pack)).set s34.2.2.toNat ({Name:=x42.Name,Version:=({A:=x42.Version.A,B:=w64 ((w64 (s34.2.1+1))+1),C:=x42.Version.C}:Version),Size:=x42.Size,Provides:=x42.Provides,Needs:=x42.Needs,Bars:=x42.Bars}:Pack)).set s34.2.2.toNat ({Name:=x44.Name,Version:=({A:=x44.Version.A,B:=x44.Version.B,C:=w64 ((w64 ((w64 (s34.2.1+1))+1))+1)}:Version),Size:=x44.Size,Provides:=x44.Provides,Needs:=x44.Needs,Bars:=x44.Bars}:Pack)).set s34.2.2.toNat ({Name:=x46.Name,Version:=x46.Version,Size:=w64 ((w64 ((w64 ((w64 (s34.2.1+1))+1))+1))+1),Provides:=x46.Provides,Needs:=x46.Needs,Bars:=x46.Bars}:Pack))),(1,iv x50.1),(5,iv s34.2.2)] [(0,.lent 8 ((((((s34.1.set s34.2.2.toNat ({Name:=x36,Version:=x38.Version,Size:=x38.Size,Provides:=x38.Provides,Needs:=x38.Needs,Bars:=x38.Bars}:Pack)).set s34.2.2.toNat ({Name:=x40.Name,Version:=({A:=w64 (s34.2.1+1),B:=x40.Version.B,C:=x40.Version.C}:Version),Size:=x40.Size,Provides:=x40.Provides,Needs:=x40.Needs,Bars:=x40.Bars}:Pack)).set s34.2.2.toNat ({Name:=x42.Name,Version:=({A:=x42.Version.A,B:=w64 ((w64 (s34.2.1+1))+1),C:=x42.Version.C}:Version),Size:=x42.Size,Provides:=x42.Provides,Needs:=x42.Needs,Bars:=x42.Bars}:Pack)).set s34.2.2.toNat ({Name:=x44.Name,Version:=({A:=x44.Version.A,B:=x44.Version.B,C:=w64 ((w64 ((w64 (s34.2.1+1))+1))+1)}:Version),Size:=x44.Size,Provides:=x44.Provides,Needs:=x44.Needs,Bars:=x44.Bars}:Pack)).set s34.2.2.toNat ({Name:=x46.Name,Version:=x46.Version,Size:=w64 ((w64 ((w64 ((w64 (s34.2.1+1))+1))+1))+1),Provides:=x46.Provides,Needs:=x46.Needs,Bars:=x46.Bars}:Pack)).map (Pack.enc true)) s34.2.2.toNat 5 1 x48.Provides.length),(1,rE 1 eStr x50.2)] (zF 2 (zOV (kk:=.i64) 30 102 8 0 (Pack.enc true) (.tmp 51) (.tmp 52) s34.2.2.toNat 5 1 x48.Provides.length h49) (zF 4 (zPr 86 0 (.tmp 54) 8 (Pack.enc true) (((((s34.1.set s34.2.2.toNat ({Name:=x36,Version:=x38.Version,Size:=x38.Size,Provides:=x38.Provides,Needs:=x38.Needs,Bars:=x38.Bars}:Pack)).set s34.2.2.toNat ({Name:=x40.Name,Version:=({A:=w64 (s34.2.1+1),B:=x40.Version.B,C:=x40.Version.C}:Version),Size:=x40.Size,Provides:=x40.Provides,Needs:=x40.Needs,Bars:=x40.Bars}:Pack)).set s34.2.2.toNat ({Name:=x42.Name,Version:=({A:=x42.Version.A,B:=w64 ((w64 (s34.2.1+1))+1),C:=x42.Version.C}:Version),Size:=x42.Size,Provides:=x42.Provides,Needs:=x42.Needs,Bars:=x42.Bars}:Pack)).set s34.2.2.toNat ({Name:=x44.Name,Version:=({A:=x44.Version.A,B:=x44.Version.B,C:=w64 ((w64 ((w64 (s34.2.1+1))+1))+1)}:Version),Size:=x44.Size,Provides:=x44.Provides,Needs:=x44.Needs,Bars:=x44.Bars}:Pack)).set s34.2.2.toNat ({Name:=x46.Name,Version:=x46.Version,Size:=w64 ((w64 ((w64 ((w64 (s34.2.1+1))+1))+1))+1),Provides:=x46.Provides,Needs:=x46.Needs,Bars:=x46.Bars}:Pack)) s34.2.2.toNat 5 1 x48.Provides.length) (zF 6 (vQ («as»:=[rr 1 x48.Provides,iv (w64 ((w64 ((w64 ((w64 ((w64 (s34.2.1+1))+1))+1))+1))+1))]) [(.tmp 55),(.tmp 56)] [86,3] false [(1,rE 1 eStr x48.Provides)] [1] (.cons (.rf rfl) (.cons (.same rfl) (.nil))) (tH.ok x48.Provides (w64 ((w64 ((w64 ((w64 ((w64 (s34.2.1+1))+1))+1))+1))+1))) h51 (.same rfl rfl)) zB))) ?_
  refine zA (fun u52 h53=>?_)
  refine zIA (ix:=s34.2.2) (enc:=(Pack.enc true)) (b:=({Name:=x48.Name,Version:=x48.Version,Size:=x48.Size,Provides:=x50.2,Needs:=x48.Needs,Bars:=x48.Bars}:Pack)) 0 5 1 h49 rfl rfl rfl rfl (zCN h53) (Nat.le_of_ble_eq_true rfl) ((List.length_map _).trans (zCN h53)) ?_
  refine zOj [(0,rr 0 (((((s34.1.set s34.2.2.toNat ({Name:=x36,Version:=x38.Version,Size:=x38.Size,Provides:=x38.Provides,Needs:=x38.Needs,Bars:=x38.Bars}:Pack)).set s34.2.2.toNat ({Name:=x40.Name,Version:=({A:=w64 (s34.2.1+1),B:=x40.Version.B,C:=x40.Version.C}:Version),Size:=x40.Size,Provides:=x40.Provides,Needs:=x40.Needs,Bars:=x40.Bars}:Pack)).set s34.2.2.toNat ({Name:=x42.Name,Version:=({A:=x42.Version.A,B:=w64 ((w64 (s34.2.1+1))+1),C:=x42.Version.C}:Version),Size:=x42.Size,Provides:=x42.Provides,Needs:=x42.Needs,Bars:=x42.Bars}:Pack)).set s34.2.2.toNat ({Name:=x44.Name,Version:=({A:=x44.Version.A,B:=x44.Version.B,C:=w64 ((w64 ((w64 (s34.2.1+1))+1))+1)}:Version),Size:=x44.Size,Provides:=x44.Provides,Needs:=x44.Needs,Bars:=x44.Bars}:Pack)).set s34.2.2.toNat ({Name:=x46.Name,Version:=x46.Version,Size:=w64 ((w64 ((w64 ((w64 (s34.2.1+1))+1))+1))+1),Provides:=x46.Provides,Needs:=x46.Needs,Bars:=x46.Bars}:Pack))),(1,iv x50.1),(5,iv s34.2.2)] [(0,rE 8 (Pack.enc true) ((((((s34.1.set s34.2.2.toNat ({Name:=x36,Version:=x38.Version,Size:=x38.Size,Provides:=x38.Provides,Needs:=x38.Needs,Bars:=x38.Bars}:Pack)).set s34.2.2.toNat ({Name:=x40.Name,Version:=({A:=w64 (s34.2.1+1),B:=x40.Version.B,C:=x40.Version.C}:Version),Size:=x40.Size,Provides:=x40.Provides,Needs:=x40.Needs,Bars:=x40.Bars}:Pack)).set s34.2.2.toNat ({Name:=x42.Name,Version:=({A:=x42.Version.A,B:=w64 ((w64 (s34.2.1+1))+1),C:=x42.Version.C}:Version),Size:=x42.Size,Provides:=x42.Provides,Needs:=x42.Needs,Bars:=x42.Bars}:Pack)).set s34.2.2.toNat ({Name:=x44.Name,Version:=({A:=x44.Version.A,B:=x44.Version.B,C:=w64 ((w64 ((w64 (s34.2.1+1))+1))+1)}:Version),Size:=x44.Size,Provides:=x44.Provides,Needs:=x44.Needs,Bars:=x44.Bars}:Pack)).set s34.2.2.toNat ({Name:=x46.Name,Version:=x46.Version,Size:=w64 ((w64 ((w64 ((w64 (s34.2.1+1))+1))+1))+1),Provides:=x46.Provides,Needs:=x46.Needs,Bars:=x46.Bars}:Pack)).set s34.2.2.toNat ({Name:=x48.Name,Version:=x48.Version,Size:=x48.Size,Provides:=x50.2,Needs:=x48.Needs,Bars:=x48.Bars}:Pack)))] (by kernel_rfl) ?_
  refine zGK (σ':=St.mk' [(0,rr 0 ((((((s34.1.set s34.2.2.toNat ({Name:=x36,Version:=x38.Version,Size:=x38.Size,Provides:=x38.Provides,Needs:=x38.Needs,Bars:=x38.Bars}:Pack)).set s34.2.2.toNat ({Name:=x40.Name,Version:=({A:=w64 (s34.2.1+1),B:=x40.Version.B,C:=x40.Version.C}:Version),Size:=x40.Size,Provides:=x40.Provides,Needs:=x40.Needs,Bars:=x40.Bars}:Pack)).set s34.2.2.toNat ({Name:=x42.Name,Version:=({A:=x42.Version.A,B:=w64 ((w64 (s34.2.1+1))+1),C:=x42.Version.C}:Version),Size:=x42.Size,Provides:=x42.Provides,Needs:=x42.Needs,Bars:=x42.Bars}:Pack)).set s34.2.2.toNat ({Name:=x44.Name,Version:=({A:=x44.Version.A,B:=x44.Version.B,C:=w64 ((w64 ((w64 (s34.2.1+1))+1))+1)}:Version),Size:=x44.Size,Provides:=x44.Provides,Needs:=x44.Needs,Bars:=x44.Bars}:Pack)).set s34.2.2.toNat ({Name:=x46.Name,Version:=x46.Version,Size:=w64 ((w64 ((w64 ((w64 (s34.2.1+1))+1))+1))+1),Provides:=x46.Provides,Needs:=x46.Needs,Bars:=x46.Bars}:Pack)).set s34.2.2.toNat ({Name:=x48.Name,Version:=x48.Version,Size:=x48.Size,Provides:=x50.2,Needs:=x48.Needs,Bars:=x48.Bars}:Pack))),(1,iv x50.1),(5,iv s34.2.2)] [(0,rE 8 (Pack.enc true) ((((((s34.1.set s34.2.2.toNat ({Name:=x36,Version:=x38.Version,Size:=x38.Size,Provides:=x38.Provides,Needs:=x38.Needs,Bars:=x38.Bars}:Pack)).set s34.2.2.toNat ({Name:=x40.Name,Version:=({A:=w64 (s34.2.1+1),B:=x40.Version.B,C:=x40.Version.C}:Version),Size:=x40.Size,Provides:=x40.Provides,Needs:=x40.Needs,Bars:=x40.Bars}:Pack)).set s34.2.2.toNat ({Name:=x42.Name,Version:=({A:=x42.Version.A,B:=w64 ((w64 (s34.2.1+1))+1),C:=x42.Version.C}:Version),Size:=x42.Size,Provides:=x42.Provides,Needs:=x42.Needs,Bars:=x42.Bars}:Pack)).set s34.2.2.toNat ({Name:=x44.Name,Version:=({A:=x44.Version.A,B:=x44.Version.B,C:=w64 ((w64 ((w64 (s34.2.1+1))+1))+1)}:Version),Size:=x44.Size,Provides:=x44.Provides,Needs:=x44.Needs,Bars:=x44.Bars}:Pack)).set s34.2.2.toNat ({Name:=x46.Name,Version:=x46.Version,Size:=w64 ((w64 ((w64 ((w64 (s34.2.1+1))+1))+1))+1),Provides:=x46.Provides,Needs:=x46.Needs,Bars:=x46.Bars}:Pack)).set s34.2.2.toNat ({Name:=x48.Name,Version:=x48.Version,Size:=x48.Size,Provides:=x50.2,Needs:=x48.Needs,Bars:=x48.Bars}:Pack)))]) (by simp only [rr,List.length_set]) ?_
  refine zA (fun x54 h55=>?_)
  refine zII (ix:=s34.2.2) (enc:=(Pack.enc true)) 0 6 1 h55 rfl rfl (by kernel_rfl) ?_
  refine zOj [(0,rr 0 ((((((s34.1.set s34.2.2.toNat ({Name:=x36,Version:=x38.Version,Size:=x38.Size,Provides:=x38.Provides,Needs:=x38.Needs,Bars:=x38.Bars}:Pack)).set s34.2.2.toNat ({Name:=x40.Name,Version:=({A:=w64 (s34.2.1+1),B:=x40.Version.B,C:=x40.Version.C}:Version),Size:=x40.Size,Provides:=x40.Provides,Needs:=x40.Needs,Bars:=x40.Bars}:Pack)).set s34.2.2.toNat ({Name:=x42.Name,Version:=({A:=x42.Version.A,B:=w64 ((w64 (s34.2.1+1))+1),C:=x42.Version.C}:Version),Size:=x42.Size,Provides:=x42.Provides,Needs:=x42.Needs,Bars:=x42.Bars}:Pack)).set s34.2.2.toNat ({Name:=x44.Name,Version:=({A:=x44.Version.A,B:=x44.Version.B,C:=w64 ((w64 ((w64 (s34.2.1+1))+1))+1)}:Version),Size:=x44.Size,Provides:=x44.Provides,Needs:=x44.Needs,Bars:=x44.Bars}:Pack)).set s34.2.2.toNat ({Name:=x46.Name,Version:=x46.Version,Size:=w64 ((w64 ((w64 ((w64 (s34.2.1+1))+1))+1))+1),Provides:=x46.Provides,Needs:=x46.Needs,Bars:=x46.Bars}:Pack)).set s34.2.2.toNat ({Name:=x48.Name,Version:=x48.Version,Size:=x48.Size,Provides:=x50.2,Needs:=x48.Needs,Bars:=x48.Bars}:Pack))),(1,iv x50.1),(5,iv s34.2.2)] [(0,.lent 8 (((((((s34.1.set s34.2.2.toNat ({Name:=x36,Version:=x38.Version,Size:=x38.Size,Provides:=x38.Provides,Needs:=x38.Needs,Bars:=x38.Bars}:Pack)).set s34.2.2.toNat ({Name:=x40.Name,Version:=({A:=w64 (s34.2.1+1),B:=x40.Version.B,C:=x40.Version.C}:Version),Size:=x40.Size,Provides:=x40.Provides,Needs:=x40.Needs,Bars:=x40.Bars}:Pack)).set s34.2.2.toNat ({Name:=x42.Name,Version:=({A:=x42.Version.A,B:=w64 ((w64 (s34.2.1+1))+1),C:=x42.Version.C}:Version),Size:=x42.Size,Provides:=x42.Provides,Needs:=x42.Needs,Bars:=x42.Bars}:Pack)).set s34.2.2.toNat ({Name:=x44.Name,Version:=({A:=x44.Version.A,B:=x44.Version.B,C:=w64 ((w64 ((w64 (s34.2.1+1))+1))+1)}:Version),Size:=x44.Size,Provides:=x44.Provides,Needs:=x44.Needs,Bars:=x44.Bars}:Pack)).set s34.2.2.toNat ({Name:=x46.Name,Version:=x46.Version,Size:=w64 ((w64 ((w64 ((w64 (s34.2.1+1))+1))+1))+1),Provides:=x46.Provides,Needs:=x46.Needs,Bars:=x46.Bars}:Pack)).set s34.2.2.toNat ({Name:=x48.Name,Version:=x48.Version,Size:=x48.Size,Provides:=x50.2,Needs:=x48.Needs,Bars:=x48.Bars}:Pack)).map (Pack.enc true)) s34.2.2.toNat 6 1 x54.Needs.length),(1,rE 1 (eSl true 7 Term.enc) x54.Needs)] (by kernel_rfl) ?_
  refine zA (fun x56 h57=>?_)
  refine J_g 1724414 [] [(0,rr 0 ((((((s34.1.set s34.2.2.toNat ({Name:=x36,Version:=x38.Version,Size:=x38.Size,Provides:=x38.Provides,Needs:=x38.Needs,Bars:=x38.Bars}:Pack)).set s34.2.2.toNat ({Name:=x40.Name,Version:=({A:=w64 (s34.2.1+1),B:=x40.Version.B,C:=x40.Version.C}:Version),Size:=x40.Size,Provides:=x40.Provides,Needs:=x40.Needs,Bars:=x40.Bars}:Pack)).set s34.2.2.toNat ({Name:=x42.Name,Version:=({A:=x42.Version.A,B:=w64 ((w64 (s34.2.1+1))+1),C:=x42.Version.C}:Version),Size:=x42.Size,Provides:=x42.Provides,Needs:=x42.Needs,Bars:=x42.Bars}:Pack)).set s34.2.2.toNat ({Name:=x44.Name,Version:=({A:=x44.Version.A,B:=x44.Version.B,C:=w64 ((w64 ((w64 (s34.2.1+1))+1))+1)}:Version),Size:=x44.Size,Provides:=x44.Provides,Needs:=x44.Needs,Bars:=x44.Bars}:Pack)).set s34.2.2.toNat ({Name:=x46.Name,Version:=x46.Version,Size:=w64 ((w64 ((w64 ((w64 (s34.2.1+1))+1))+1))+1),Provides:=x46.Provides,Needs:=x46.Needs,Bars:=x46.Bars}:Pack)).set s34.2.2.toNat ({Name:=x48.Name,Version:=x48.Version,Size:=x48.Size,Provides:=x50.2,Needs:=x48.Needs,Bars:=x48.Bars}:Pack))),(1,iv x56.1),(5,iv s34.2.2)] [(0,.lent 8 (((((((s34.1.set s34.2.2.toNat ({Name:=x36,Version:=x38.Version,Size:=x38.Size,Provides:=x38.Provides,Needs:=x38.Needs,Bars:=x38.Bars}:Pack)).set s34.2.2.toNat ({Name:=x40.Name,Version:=({A:=w64 (s34.2.1+1),B:=x40.Version.B,C:=x40.Version.C}:Version),Size:=x40.Size,Provides:=x40.Provides,Needs:=x40.Needs,Bars:=x40.Bars}:Pack)).set s34.2.2.toNat ({Name:=x42.Name,Version:=({A:=x42.Version.A,B:=w64 ((w64 (s34.2.1+1))+1),C:=x42.Version.C}:Version),Size:=x42.Size,Provides:=x42.Provides,Needs:=x42.Needs,Bars:=x42.Bars}:Pack)).set s34.2.2.toNat ({Name:=x44.Name,Version:=({A:=x44.Version.A,B:=x44.Version.B,C:=w64 ((w64 ((w64 (s34.2.1+1))+1))+1)}:Version),Size:=x44.Size,Provides:=x44.Provides,Needs:=x44.Needs,Bars:=x44.Bars}:Pack)).set s34.2.2.toNat ({Name:=x46.Name,Version:=x46.Version,Size:=w64 ((w64 ((w64 ((w64 (s34.2.1+1))+1))+1))+1),Provides:=x46.Provides,Needs:=x46.Needs,Bars:=x46.Bars}:Pack)).set s34.2.2.toNat ({Name:=x48.Name,Version:=x48.Version,Size:=x48.Size,Provides:=x50.2,Needs:=x48.Needs,Bars:=x48.Bars}:Pack)).map (Pack.enc true)) s34.2.2.toNat 6 1 x54.Needs.length),(1,rE 1 (eSl true 7 Term.enc) x56.2)] (zF 2 (zOV (kk:=.i64) 30 102 8 0 (Pack.enc true) (.tmp 58) (.tmp 59) s34.2.2.toNat 6 1 x54.Needs.length h55) (zF 4 (zPr 100 0 (.tmp 61) 8 (Pack.enc true) ((((((s34.1.set s34.2.2.toNat ({Name:=x36,Version:=x38.Version,Size:=x38.Size,Provides:=x38.Provides,Needs:=x38.Needs,Bars:=x38.Bars}:Pack)).set s34.2.2.toNat ({Name:=x40.Name,Version:=({A:=w64 (s34.2.1+1),B:=x40.Version.B,C:=x40.Version.C}:Version),Size:=x40.Size,Provides:=x40.Provides,Needs:=x40.Needs,Bars:=x40.Bars}:Pack)).set s34.2.2.toNat ({Name:=x42.Name,Version:=({A:=x42.Version.A,B:=w64 ((w64 (s34.2.1+1))+1),C:=x42.Version.C}:Version),Size:=x42.Size,Provides:=x42.Provides,Needs:=x42.Needs,Bars:=x42.Bars}:Pack)).set s34.2.2.toNat ({Name:=x44.Name,Version:=({A:=x44.Version.A,B:=x44.Version.B,C:=w64 ((w64 ((w64 (s34.2.1+1))+1))+1)}:Version),Size:=x44.Size,Provides:=x44.Provides,Needs:=x44.Needs,Bars:=x44.Bars}:Pack)).set s34.2.2.toNat ({Name:=x46.Name,Version:=x46.Version,Size:=w64 ((w64 ((w64 ((w64 (s34.2.1+1))+1))+1))+1),Provides:=x46.Provides,Needs:=x46.Needs,Bars:=x46.Bars}:Pack)).set s34.2.2.toNat ({Name:=x48.Name,Version:=x48.Version,Size:=x48.Size,Provides:=x50.2,Needs:=x48.Needs,Bars:=x48.Bars}:Pack)) s34.2.2.toNat 6 1 x54.Needs.length) (zF 6 (vQ («as»:=[rr 1 x54.Needs,iv x50.1]) [(.tmp 62),(.tmp 63)] [100,3] false [(1,rE 1 (eSl true 7 Term.enc) x54.Needs)] [1] (.cons (.rf rfl) (.cons (.same rfl) (.nil))) (jX.ok x54.Needs x50.1) h57 (.same rfl rfl)) zB))) ?_
  refine zA (fun u58 h59=>?_)
  refine zIA (ix:=s34.2.2) (enc:=(Pack.enc true)) (b:=({Name:=x54.Name,Version:=x54.Version,Size:=x54.Size,Provides:=x54.Provides,Needs:=x56.2,Bars:=x54.Bars}:Pack)) 0 6 1 h55 rfl rfl rfl rfl (zCN h59) (Nat.le_of_ble_eq_true rfl) ((List.length_map _).trans (zCN h59)) ?_
  refine zOj [(0,rr 0 ((((((s34.1.set s34.2.2.toNat ({Name:=x36,Version:=x38.Version,Size:=x38.Size,Provides:=x38.Provides,Needs:=x38.Needs,Bars:=x38.Bars}:Pack)).set s34.2.2.toNat ({Name:=x40.Name,Version:=({A:=w64 (s34.2.1+1),B:=x40.Version.B,C:=x40.Version.C}:Version),Size:=x40.Size,Provides:=x40.Provides,Needs:=x40.Needs,Bars:=x40.Bars}:Pack)).set s34.2.2.toNat ({Name:=x42.Name,Version:=({A:=x42.Version.A,B:=w64 ((w64 (s34.2.1+1))+1),C:=x42.Version.C}:Version),Size:=x42.Size,Provides:=x42.Provides,Needs:=x42.Needs,Bars:=x42.Bars}:Pack)).set s34.2.2.toNat ({Name:=x44.Name,Version:=({A:=x44.Version.A,B:=x44.Version.B,C:=w64 ((w64 ((w64 (s34.2.1+1))+1))+1)}:Version),Size:=x44.Size,Provides:=x44.Provides,Needs:=x44.Needs,Bars:=x44.Bars}:Pack)).set s34.2.2.toNat ({Name:=x46.Name,Version:=x46.Version,Size:=w64 ((w64 ((w64 ((w64 (s34.2.1+1))+1))+1))+1),Provides:=x46.Provides,Needs:=x46.Needs,Bars:=x46.Bars}:Pack)).set s34.2.2.toNat ({Name:=x48.Name,Version:=x48.Version,Size:=x48.Size,Provides:=x50.2,Needs:=x48.Needs,Bars:=x48.Bars}:Pack))),(1,iv x56.1),(5,iv s34.2.2)] [(0,rE 8 (Pack.enc true) (((((((s34.1.set s34.2.2.toNat ({Name:=x36,Version:=x38.Version,Size:=x38.Size,Provides:=x38.Provides,Needs:=x38.Needs,Bars:=x38.Bars}:Pack)).set s34.2.2.toNat ({Name:=x40.Name,Version:=({A:=w64 (s34.2.1+1),B:=x40.Version.B,C:=x40.Version.C}:Version),Size:=x40.Size,Provides:=x40.Provides,Needs:=x40.Needs,Bars:=x40.Bars}:Pack)).set s34.2.2.toNat ({Name:=x42.Name,Version:=({A:=x42.Version.A,B:=w64 ((w64 (s34.2.1+1))+1),C:=x42.Version.C}:Version),Size:=x42.Size,Provides:=x42.Provides,Needs:=x42.Needs,Bars:=x42.Bars}:Pack)).set s34.2.2.toNat ({Name:=x44.Name,Version:=({A:=x44.Version.A,B:=x44.Version.B,C:=w64 ((w64 ((w64 (s34.2.1+1))+1))+1)}:Version),Size:=x44.Size,Provides:=x44.Provides,Needs:=x44.Needs,Bars:=x44.Bars}:Pack)).set s34.2.2.toNat ({Name:=x46.Name,Version:=x46.Version,Size:=w64 ((w64 ((w64 ((w64 (s34.2.1+1))+1))+1))+1),Provides:=x46.Provides,Needs:=x46.Needs,Bars:=x46.Bars}:Pack)).set s34.2.2.toNat ({Name:=x48.Name,Version:=x48.Version,Size:=x48.Size,Provides:=x50.2,Needs:=x48.Needs,Bars:=x48.Bars}:Pack)).set s34.2.2.toNat ({Name:=x54.Name,Version:=x54.Version,Size:=x54.Size,Provides:=x54.Provides,Needs:=x56.2,Bars:=x54.Bars}:Pack)))] (by kernel_rfl) ?_
  refine zGK (σ':=St.mk' [(0,rr 0 (((((((s34.1.set s34.2.2.toNat ({Name:=x36,Version:=x38.Version,Size:=x38.Size,Provides:=x38.Provides,Needs:=x38.Needs,Bars:=x38.Bars}:Pack)).set s34.2.2.toNat ({Name:=x40.Name,Version:=({A:=w64 (s34.2.1+1),B:=x40.Version.B,C:=x40.Version.C}:Version),Size:=x40.Size,Provides:=x40.Provides,Needs:=x40.Needs,Bars:=x40.Bars}:Pack)).set s34.2.2.toNat ({Name:=x42.Name,Version:=({A:=x42.Version.A,B:=w64 ((w64 (s34.2.1+1))+1),C:=x42.Version.C}:Version),Size:=x42.Size,Provides:=x42.Provides,Needs:=x42.Needs,Bars:=x42.Bars}:Pack)).set s34.2.2.toNat ({Name:=x44.Name,Version:=({A:=x44.Version.A,B:=x44.Version.B,C:=w64 ((w64 ((w64 (s34.2.1+1))+1))+1)}:Version),Size:=x44.Size,Provides:=x44.Provides,Needs:=x44.Needs,Bars:=x44.Bars}:Pack)).set s34.2.2.toNat ({Name:=x46.Name,Version:=x46.Version,Size:=w64 ((w64 ((w64 ((w64 (s34.2.1+1))+1))+1))+1),Provides:=x46.Provides,Needs:=x46.Needs,Bars:=x46.Bars}:Pack)).set s34.2.2.toNat ({Name:=x48.Name,Version:=x48.Version,Size:=x48.Size,Provides:=x50.2,Needs:=x48.Needs,Bars:=x48.Bars}:Pack)).set s34.2.2.toNat ({Name:=x54.Name,Version:=x54.Version,Size:=x54.Size,Provides:=x54.Provides,Needs:=x56.2,Bars:=x54.Bars}:Pack))),(1,iv x56.1),(5,iv s34.2.2)] [(0,rE 8 (Pack.enc true) (((((((s34.1.set s34.2.2.toNat ({Name:=x36,Version:=x38.Version,Size:=x38.Size,Provides:=x38.Provides,Needs:=x38.Needs,Bars:=x38.Bars}:Pack)).set s34.2.2.toNat ({Name:=x40.Name,Version:=({A:=w64 (s34.2.1+1),B:=x40.Version.B,C:=x40.Version.C}:Version),Size:=x40.Size,Provides:=x40.Provides,Needs:=x40.Needs,Bars:=x40.Bars}:Pack)).set s34.2.2.toNat ({Name:=x42.Name,Version:=({A:=x42.Version.A,B:=w64 ((w64 (s34.2.1+1))+1),C:=x42.Version.C}:Version),Size:=x42.Size,Provides:=x42.Provides,Needs:=x42.Needs,Bars:=x42.Bars}:Pack)).set s34.2.2.toNat ({Name:=x44.Name,Version:=({A:=x44.Version.A,B:=x44.Version.B,C:=w64 ((w64 ((w64 (s34.2.1+1))+1))+1)}:Version),Size:=x44.Size,Provides:=x44.Provides,Needs:=x44.Needs,Bars:=x44.Bars}:Pack)).set s34.2.2.toNat ({Name:=x46.Name,Version:=x46.Version,Size:=w64 ((w64 ((w64 ((w64 (s34.2.1+1))+1))+1))+1),Provides:=x46.Provides,Needs:=x46.Needs,Bars:=x46.Bars}:Pack)).set s34.2.2.toNat ({Name:=x48.Name,Version:=x48.Version,Size:=x48.Size,Provides:=x50.2,Needs:=x48.Needs,Bars:=x48.Bars}:Pack)).set s34.2.2.toNat ({Name:=x54.Name,Version:=x54.Version,Size:=x54.Size,Provides:=x54.Provides,Needs:=x56.2,Bars:=x54.Bars}:Pack)))]) (by simp only [rr,List.length_set]) ?_
  refine zA (fun x60 h61=>?_)
  refine zII (ix:=s34.2.2) (enc:=(Pack.enc true)) 0 7 1 h61 rfl rfl (by kernel_rfl) ?_
  refine zOj [(0,rr 0 (((((((s34.1.set s34.2.2.toNat ({Name:=x36,Version:=x38.Version,Size:=x38.Size,Provides:=x38.Provides,Needs:=x38.Needs,Bars:=x38.Bars}:Pack)).set s34.2.2.toNat ({Name:=x40.Name,Version:=({A:=w64 (s34.2.1+1),B:=x40.Version.B,C:=x40.Version.C}:Version),Size:=x40.Size,Provides:=x40.Provides,Needs:=x40.Needs,Bars:=x40.Bars}:Pack)).set s34.2.2.toNat ({Name:=x42.Name,Version:=({A:=x42.Version.A,B:=w64 ((w64 (s34.2.1+1))+1),C:=x42.Version.C}:Version),Size:=x42.Size,Provides:=x42.Provides,Needs:=x42.Needs,Bars:=x42.Bars}:Pack)).set s34.2.2.toNat ({Name:=x44.Name,Version:=({A:=x44.Version.A,B:=x44.Version.B,C:=w64 ((w64 ((w64 (s34.2.1+1))+1))+1)}:Version),Size:=x44.Size,Provides:=x44.Provides,Needs:=x44.Needs,Bars:=x44.Bars}:Pack)).set s34.2.2.toNat ({Name:=x46.Name,Version:=x46.Version,Size:=w64 ((w64 ((w64 ((w64 (s34.2.1+1))+1))+1))+1),Provides:=x46.Provides,Needs:=x46.Needs,Bars:=x46.Bars}:Pack)).set s34.2.2.toNat ({Name:=x48.Name,Version:=x48.Version,Size:=x48.Size,Provides:=x50.2,Needs:=x48.Needs,Bars:=x48.Bars}:Pack)).set s34.2.2.toNat ({Name:=x54.Name,Version:=x54.Version,Size:=x54.Size,Provides:=x54.Provides,Needs:=x56.2,Bars:=x54.Bars}:Pack))),(1,iv x56.1),(5,iv s34.2.2)] [(0,.lent 8 ((((((((s34.1.set s34.2.2.toNat ({Name:=x36,Version:=x38.Version,Size:=x38.Size,Provides:=x38.Provides,Needs:=x38.Needs,Bars:=x38.Bars}:Pack)).set s34.2.2.toNat ({Name:=x40.Name,Version:=({A:=w64 (s34.2.1+1),B:=x40.Version.B,C:=x40.Version.C}:Version),Size:=x40.Size,Provides:=x40.Provides,Needs:=x40.Needs,Bars:=x40.Bars}:Pack)).set s34.2.2.toNat ({Name:=x42.Name,Version:=({A:=x42.Version.A,B:=w64 ((w64 (s34.2.1+1))+1),C:=x42.Version.C}:Version),Size:=x42.Size,Provides:=x42.Provides,Needs:=x42.Needs,Bars:=x42.Bars}:Pack)).set s34.2.2.toNat ({Name:=x44.Name,Version:=({A:=x44.Version.A,B:=x44.Version.B,C:=w64 ((w64 ((w64 (s34.2.1+1))+1))+1)}:Version),Size:=x44.Size,Provides:=x44.Provides,Needs:=x44.Needs,Bars:=x44.Bars}:Pack)).set s34.2.2.toNat ({Name:=x46.Name,Version:=x46.Version,Size:=w64 ((w64 ((w64 ((w64 (s34.2.1+1))+1))+1))+1),Provides:=x46.Provides,Needs:=x46.Needs,Bars:=x46.Bars}:Pack)).set s34.2.2.toNat ({Name:=x48.Name,Version:=x48.Version,Size:=x48.Size,Provides:=x50.2,Needs:=x48.Needs,Bars:=x48.Bars}:Pack)).set s34.2.2.toNat ({Name:=x54.Name,Version:=x54.Version,Size:=x54.Size,Provides:=x54.Provides,Needs:=x56.2,Bars:=x54.Bars}:Pack)).map (Pack.enc true)) s34.2.2.toNat 7 1 x60.Bars.length),(1,rE 7 Term.enc x60.Bars)] (by kernel_rfl) ?_
  refine zA (fun x62 h63=>?_)
  refine J_g 1724415 [] [(0,rr 0 (((((((s34.1.set s34.2.2.toNat ({Name:=x36,Version:=x38.Version,Size:=x38.Size,Provides:=x38.Provides,Needs:=x38.Needs,Bars:=x38.Bars}:Pack)).set s34.2.2.toNat ({Name:=x40.Name,Version:=({A:=w64 (s34.2.1+1),B:=x40.Version.B,C:=x40.Version.C}:Version),Size:=x40.Size,Provides:=x40.Provides,Needs:=x40.Needs,Bars:=x40.Bars}:Pack)).set s34.2.2.toNat ({Name:=x42.Name,Version:=({A:=x42.Version.A,B:=w64 ((w64 (s34.2.1+1))+1),C:=x42.Version.C}:Version),Size:=x42.Size,Provides:=x42.Provides,Needs:=x42.Needs,Bars:=x42.Bars}:Pack)).set s34.2.2.toNat ({Name:=x44.Name,Version:=({A:=x44.Version.A,B:=x44.Version.B,C:=w64 ((w64 ((w64 (s34.2.1+1))+1))+1)}:Version),Size:=x44.Size,Provides:=x44.Provides,Needs:=x44.Needs,Bars:=x44.Bars}:Pack)).set s34.2.2.toNat ({Name:=x46.Name,Version:=x46.Version,Size:=w64 ((w64 ((w64 ((w64 (s34.2.1+1))+1))+1))+1),Provides:=x46.Provides,Needs:=x46.Needs,Bars:=x46.Bars}:Pack)).set s34.2.2.toNat ({Name:=x48.Name,Version:=x48.Version,Size:=x48.Size,Provides:=x50.2,Needs:=x48.Needs,Bars:=x48.Bars}:Pack)).set s34.2.2.toNat ({Name:=x54.Name,Version:=x54.Version,Size:=x54.Size,Provides:=x54.Provides,Needs:=x56.2,Bars:=x54.Bars}:Pack))),(1,iv x62.1),(5,iv s34.2.2)] [(0,.lent 8 ((((((((s34.1.set s34.2.2.toNat ({Name:=x36,Version:=x38.Version,Size:=x38.Size,Provides:=x38.Provides,Needs:=x38.Needs,Bars:=x38.Bars}:Pack)).set s34.2.2.toNat ({Name:=x40.Name,Version:=({A:=w64 (s34.2.1+1),B:=x40.Version.B,C:=x40.Version.C}:Version),Size:=x40.Size,Provides:=x40.Provides,Needs:=x40.Needs,Bars:=x40.Bars}:Pack)).set s34.2.2.toNat ({Name:=x42.Name,Version:=({A:=x42.Version.A,B:=w64 ((w64 (s34.2.1+1))+1),C:=x42.Version.C}:Version),Size:=x42.Size,Provides:=x42.Provides,Needs:=x42.Needs,Bars:=x42.Bars}:Pack)).set s34.2.2.toNat ({Name:=x44.Name,Version:=({A:=x44.Version.A,B:=x44.Version.B,C:=w64 ((w64 ((w64 (s34.2.1+1))+1))+1)}:Version),Size:=x44.Size,Provides:=x44.Provides,Needs:=x44.Needs,Bars:=x44.Bars}:Pack)).set s34.2.2.toNat ({Name:=x46.Name,Version:=x46.Version,Size:=w64 ((w64 ((w64 ((w64 (s34.2.1+1))+1))+1))+1),Provides:=x46.Provides,Needs:=x46.Needs,Bars:=x46.Bars}:Pack)).set s34.2.2.toNat ({Name:=x48.Name,Version:=x48.Version,Size:=x48.Size,Provides:=x50.2,Needs:=x48.Needs,Bars:=x48.Bars}:Pack)).set s34.2.2.toNat ({Name:=x54.Name,Version:=x54.Version,Size:=x54.Size,Provides:=x54.Provides,Needs:=x56.2,Bars:=x54.Bars}:Pack)).map (Pack.enc true)) s34.2.2.toNat 7 1 x60.Bars.length),(1,rE 7 Term.enc x62.2)] (zF 2 (zOV (kk:=.i64) 30 102 8 0 (Pack.enc true) (.tmp 65) (.tmp 66) s34.2.2.toNat 7 1 x60.Bars.length h61) (zF 4 (zPr 75 0 (.tmp 68) 8 (Pack.enc true) (((((((s34.1.set s34.2.2.toNat ({Name:=x36,Version:=x38.Version,Size:=x38.Size,Provides:=x38.Provides,Needs:=x38.Needs,Bars:=x38.Bars}:Pack)).set s34.2.2.toNat ({Name:=x40.Name,Version:=({A:=w64 (s34.2.1+1),B:=x40.Version.B,C:=x40.Version.C}:Version),Size:=x40.Size,Provides:=x40.Provides,Needs:=x40.Needs,Bars:=x40.Bars}:Pack)).set s34.2.2.toNat ({Name:=x42.Name,Version:=({A:=x42.Version.A,B:=w64 ((w64 (s34.2.1+1))+1),C:=x42.Version.C}:Version),Size:=x42.Size,Provides:=x42.Provides,Needs:=x42.Needs,Bars:=x42.Bars}:Pack)).set s34.2.2.toNat ({Name:=x44.Name,Version:=({A:=x44.Version.A,B:=x44.Version.B,C:=w64 ((w64 ((w64 (s34.2.1+1))+1))+1)}:Version),Size:=x44.Size,Provides:=x44.Provides,Needs:=x44.Needs,Bars:=x44.Bars}:Pack)).set s34.2.2.toNat ({Name:=x46.Name,Version:=x46.Version,Size:=w64 ((w64 ((w64 ((w64 (s34.2.1+1))+1))+1))+1),Provides:=x46.Provides,Needs:=x46.Needs,Bars:=x46.Bars}:Pack)).set s34.2.2.toNat ({Name:=x48.Name,Version:=x48.Version,Size:=x48.Size,Provides:=x50.2,Needs:=x48.Needs,Bars:=x48.Bars}:Pack)).set s34.2.2.toNat ({Name:=x54.Name,Version:=x54.Version,Size:=x54.Size,Provides:=x54.Provides,Needs:=x56.2,Bars:=x54.Bars}:Pack)) s34.2.2.toNat 7 1 x60.Bars.length) (zF 6 (vQ («as»:=[rr 1 x60.Bars,iv x56.1]) [(.tmp 69),(.tmp 70)] [75,3] false [(1,rE 7 Term.enc x60.Bars)] [1] (.cons (.rf rfl) (.cons (.same rfl) (.nil))) (uI.ok x60.Bars x56.1) h63 (.same rfl rfl)) zB))) ?_
  refine zA (fun u64 h65=>?_)
  refine zIA (ix:=s34.2.2) (enc:=(Pack.enc true)) (b:=({Name:=x60.Name,Version:=x60.Version,Size:=x60.Size,Provides:=x60.Provides,Needs:=x60.Needs,Bars:=x62.2}:Pack)) 0 7 1 h61 rfl rfl rfl rfl (zCN h65) (Nat.le_of_ble_eq_true rfl) ((List.length_map _).trans (zCN h65)) ?_
  refine zOj [(0,rr 0 (((((((s34.1.set s34.2.2.toNat ({Name:=x36,Version:=x38.Version,Size:=x38.Size,Provides:=x38.Provides,Needs:=x38.Needs,Bars:=x38.Bars}:Pack)).set s34.2.2.toNat ({Name:=x40.Name,Version:=({A:=w64 (s34.2.1+1),B:=x40.Version.B,C:=x40.Version.C}:Version),Size:=x40.Size,Provides:=x40.Provides,Needs:=x40.Needs,Bars:=x40.Bars}:Pack)).set s34.2.2.toNat ({Name:=x42.Name,Version:=({A:=x42.Version.A,B:=w64 ((w64 (s34.2.1+1))+1),C:=x42.Version.C}:Version),Size:=x42.Size,Provides:=x42.Provides,Needs:=x42.Needs,Bars:=x42.Bars}:Pack)).set s34.2.2.toNat ({Name:=x44.Name,Version:=({A:=x44.Version.A,B:=x44.Version.B,C:=w64 ((w64 ((w64 (s34.2.1+1))+1))+1)}:Version),Size:=x44.Size,Provides:=x44.Provides,Needs:=x44.Needs,Bars:=x44.Bars}:Pack)).set s34.2.2.toNat ({Name:=x46.Name,Version:=x46.Version,Size:=w64 ((w64 ((w64 ((w64 (s34.2.1+1))+1))+1))+1),Provides:=x46.Provides,Needs:=x46.Needs,Bars:=x46.Bars}:Pack)).set s34.2.2.toNat ({Name:=x48.Name,Version:=x48.Version,Size:=x48.Size,Provides:=x50.2,Needs:=x48.Needs,Bars:=x48.Bars}:Pack)).set s34.2.2.toNat ({Name:=x54.Name,Version:=x54.Version,Size:=x54.Size,Provides:=x54.Provides,Needs:=x56.2,Bars:=x54.Bars}:Pack))),(1,iv x62.1),(5,iv s34.2.2)] [(0,rE 8 (Pack.enc true) ((((((((s34.1.set s34.2.2.toNat ({Name:=x36,Version:=x38.Version,Size:=x38.Size,Provides:=x38.Provides,Needs:=x38.Needs,Bars:=x38.Bars}:Pack)).set s34.2.2.toNat ({Name:=x40.Name,Version:=({A:=w64 (s34.2.1+1),B:=x40.Version.B,C:=x40.Version.C}:Version),Size:=x40.Size,Provides:=x40.Provides,Needs:=x40.Needs,Bars:=x40.Bars}:Pack)).set s34.2.2.toNat ({Name:=x42.Name,Version:=({A:=x42.Version.A,B:=w64 ((w64 (s34.2.1+1))+1),C:=x42.Version.C}:Version),Size:=x42.Size,Provides:=x42.Provides,Needs:=x42.Needs,Bars:=x42.Bars}:Pack)).set s34.2.2.toNat ({Name:=x44.Name,Version:=({A:=x44.Version.A,B:=x44.Version.B,C:=w64 ((w64 ((w64 (s34.2.1+1))+1))+1)}:Version),Size:=x44.Size,Provides:=x44.Provides,Needs:=x44.Needs,Bars:=x44.Bars}:Pack)).set s34.2.2.toNat ({Name:=x46.Name,Version:=x46.Version,Size:=w64 ((w64 ((w64 ((w64 (s34.2.1+1))+1))+1))+1),Provides:=x46.Provides,Needs:=x46.Needs,Bars:=x46.Bars}:Pack)).set s34.2.2.toNat ({Name:=x48.Name,Version:=x48.Version,Size:=x48.Size,Provides:=x50.2,Needs:=x48.Needs,Bars:=x48.Bars}:Pack)).set s34.2.2.toNat ({Name:=x54.Name,Version:=x54.Version,Size:=x54.Size,Provides:=x54.Provides,Needs:=x56.2,Bars:=x54.Bars}:Pack)).set s34.2.2.toNat ({Name:=x60.Name,Version:=x60.Version,Size:=x60.Size,Provides:=x60.Provides,Needs:=x60.Needs,Bars:=x62.2}:Pack)))] (by kernel_rfl) ?_
  refine zGK (σ':=St.mk' [(0,rr 0 ((((((((s34.1.set s34.2.2.toNat ({Name:=x36,Version:=x38.Version,Size:=x38.Size,Provides:=x38.Provides,Needs:=x38.Needs,Bars:=x38.Bars}:Pack)).set s34.2.2.toNat ({Name:=x40.Name,Version:=({A:=w64 (s34.2.1+1),B:=x40.Version.B,C:=x40.Version.C}:Version),Size:=x40.Size,Provides:=x40.Provides,Needs:=x40.Needs,Bars:=x40.Bars}:Pack)).set s34.2.2.toNat ({Name:=x42.Name,Version:=({A:=x42.Version.A,B:=w64 ((w64 (s34.2.1+1))+1),C:=x42.Version.C}:Version),Size:=x42.Size,Provides:=x42.Provides,Needs:=x42.Needs,Bars:=x42.Bars}:Pack)).set s34.2.2.toNat ({Name:=x44.Name,Version:=({A:=x44.Version.A,B:=x44.Version.B,C:=w64 ((w64 ((w64 (s34.2.1+1))+1))+1)}:Version),Size:=x44.Size,Provides:=x44.Provides,Needs:=x44.Needs,Bars:=x44.Bars}:Pack)).set s34.2.2.toNat ({Name:=x46.Name,Version:=x46.Version,Size:=w64 ((w64 ((w64 ((w64 (s34.2.1+1))+1))+1))+1),Provides:=x46.Provides,Needs:=x46.Needs,Bars:=x46.Bars}:Pack)).set s34.2.2.toNat ({Name:=x48.Name,Version:=x48.Version,Size:=x48.Size,Provides:=x50.2,Needs:=x48.Needs,Bars:=x48.Bars}:Pack)).set s34.2.2.toNat ({Name:=x54.Name,Version:=x54.Version,Size:=x54.Size,Provides:=x54.Provides,Needs:=x56.2,Bars:=x54.Bars}:Pack)).set s34.2.2.toNat ({Name:=x60.Name,Version:=x60.Version,Size:=x60.Size,Provides:=x60.Provides,Needs:=x60.Needs,Bars:=x62.2}:Pack))),(1,iv x62.1),(5,iv s34.2.2)] [(0,rE 8 (Pack.enc true) ((((((((s34.1.set s34.2.2.toNat ({Name:=x36,Version:=x38.Version,Size:=x38.Size,Provides:=x38.Provides,Needs:=x38.Needs,Bars:=x38.Bars}:Pack)).set s34.2.2.toNat ({Name:=x40.Name,Version:=({A:=w64 (s34.2.1+1),B:=x40.Version.B,C:=x40.Version.C}:Version),Size:=x40.Size,Provides:=x40.Provides,Needs:=x40.Needs,Bars:=x40.Bars}:Pack)).set s34.2.2.toNat ({Name:=x42.Name,Version:=({A:=x42.Version.A,B:=w64 ((w64 (s34.2.1+1))+1),C:=x42.Version.C}:Version),Size:=x42.Size,Provides:=x42.Provides,Needs:=x42.Needs,Bars:=x42.Bars}:Pack)).set s34.2.2.toNat ({Name:=x44.Name,Version:=({A:=x44.Version.A,B:=x44.Version.B,C:=w64 ((w64 ((w64 (s34.2.1+1))+1))+1)}:Version),Size:=x44.Size,Provides:=x44.Provides,Needs:=x44.Needs,Bars:=x44.Bars}:Pack)).set s34.2.2.toNat ({Name:=x46.Name,Version:=x46.Version,Size:=w64 ((w64 ((w64 ((w64 (s34.2.1+1))+1))+1))+1),Provides:=x46.Provides,Needs:=x46.Needs,Bars:=x46.Bars}:Pack)).set s34.2.2.toNat ({Name:=x48.Name,Version:=x48.Version,Size:=x48.Size,Provides:=x50.2,Needs:=x48.Needs,Bars:=x48.Bars}:Pack)).set s34.2.2.toNat ({Name:=x54.Name,Version:=x54.Version,Size:=x54.Size,Provides:=x54.Provides,Needs:=x56.2,Bars:=x54.Bars}:Pack)).set s34.2.2.toNat ({Name:=x60.Name,Version:=x60.Version,Size:=x60.Size,Provides:=x60.Provides,Needs:=x60.Needs,Bars:=x62.2}:Pack)))]) (by simp only [rr,List.length_set]) ?_
  refine J_d 211 [] [5] [(5,iv (w64 (s34.2.2+1)))] [] [] zB ?_
  exact J_q (J_b (ih ((((((((s34.1.set s34.2.2.toNat ({Name:=x36,Version:=x38.Version,Size:=x38.Size,Provides:=x38.Provides,Needs:=x38.Needs,Bars:=x38.Bars}:Pack)).set s34.2.2.toNat ({Name:=x40.Name,Version:=({A:=w64 (s34.2.1+1),B:=x40.Version.B,C:=x40.Version.C}:Version),Size:=x40.Size,Provides:=x40.Provides,Needs:=x40.Needs,Bars:=x40.Bars}:Pack)).set s34.2.2.toNat ({Name:=x42.Name,Version:=({A:=x42.Version.A,B:=w64 ((w64 (s34.2.1+1))+1),C:=x42.Version.C}:Version),Size:=x42.Size,Provides:=x42.Provides,Needs:=x42.Needs,Bars:=x42.Bars}:Pack)).set s34.2.2.toNat ({Name:=x44.Name,Version:=({A:=x44.Version.A,B:=x44.Version.B,C:=w64 ((w64 ((w64 (s34.2.1+1))+1))+1)}:Version),Size:=x44.Size,Provides:=x44.Provides,Needs:=x44.Needs,Bars:=x44.Bars}:Pack)).set s34.2.2.toNat ({Name:=x46.Name,Version:=x46.Version,Size:=w64 ((w64 ((w64 ((w64 (s34.2.1+1))+1))+1))+1),Provides:=x46.Provides,Needs:=x46.Needs,Bars:=x46.Bars}:Pack)).set s34.2.2.toNat ({Name:=x48.Name,Version:=x48.Version,Size:=x48.Size,Provides:=x50.2,Needs:=x48.Needs,Bars:=x48.Bars}:Pack)).set s34.2.2.toNat ({Name:=x54.Name,Version:=x54.Version,Size:=x54.Size,Provides:=x54.Provides,Needs:=x56.2,Bars:=x54.Bars}:Pack)).set s34.2.2.toNat ({Name:=x60.Name,Version:=x60.Version,Size:=x60.Size,Provides:=x60.Provides,Needs:=x60.Needs,Bars:=x62.2}:Pack),x62.1,w64 (s34.2.2+1)))) rfl
 ·exact yN (hk (s34.1,s34.2.1)) rfl
theorem zA7.ok (a1:(List Pack)) (a2:Int):Ok Tryz.prog 24 [rr 0 a1,iv a2] [rE 8 (Pack.enc true) a1] ((zA7 a1 a2).map fun r=>(iv r.1,[rE 8 (Pack.enc true) r.2])):=by
 refine zH c24 Tryz.f24 1 73 (fun q=>?_)
 unfold zA7
 refine J_g 2 [] [(0,rr 0 a1),(1,iv a2)] [(0,rE 8 (Pack.enc true) a1)] zB ?_
 refine J_d 12 [] [5] [(5,iv 0)] [] [] zB ?_
 refine zFJ (zBo.ok q _ (fun v66=>J_j ?_) (a1,a2,0))
 refine J_d 14 [] [1,4] [(4,iv v66.2)] [] [] zB ?_
 exact zM rfl
noncomputable def zSu:Code:=(Tryz.f147.body).getD .skip
theorem zBe.ok (q:Wd) (kn:((List Int)×Int)→Option (D×List Ent)) (hk:∀v:((List Int)×Int),J (q.g Tryz.prog 147 1 20) zSu (atI zSu 7) (St.mk' [(1,iv v.2)] [(0,rE 1 eU8 v.1)]) (some v) kn):
  ∀s6:((List Int)×Int×Int),J (q.g Tryz.prog 147 1 20) zSu (atI zSu 52) (St.mk' [(0,rr 0 s6.1),(1,iv s6.2.1),(5,iv s6.2.2)] [(0,rE 1 eU8 s6.1)]) (zBe s6) kn:=by
 refine tQ (fun g ih s6=>?_)
 unfold zAx
 refine J_d 208 [] [9] [(9,bv (decide (s6.2.2< (s6.1.length:Int))))] [] [] zB ?_
 refine zG 9 (fun h7=>?_) (fun h7=>?_)
 ·refine zA (fun x8 h9=>?_)
  refine J_g 840 [] [(0,rr 0 s6.1),(1,iv s6.2.1),(5,iv s6.2.2)] [(0,rE 1 eU8 (s6.1.set s6.2.2.toNat (IntKind.u8.wrap (s6.2.1))))] (zF 4 (zAv (kk:=.i64) 121 5 1 0 eU8 (.tmp 12) (.tmp 13) h9) (zHK 5 (zJn (b:=IntKind.u8.wrap (s6.2.1)) 5 1 0 0 eU8 (uv (IntKind.u8.wrap (s6.2.1))) (.tmp 16) (.tmp 15) h9 rfl) zB)) ?_
  refine zGK (σ':=St.mk' [(0,rr 0 (s6.1.set s6.2.2.toNat (IntKind.u8.wrap (s6.2.1)))),(1,iv s6.2.1),(5,iv s6.2.2)] [(0,rE 1 eU8 (s6.1.set s6.2.2.toNat (IntKind.u8.wrap (s6.2.1))))]) (by simp only [rr,List.length_set]) ?_
  refine J_g 841 [] [(0,rr 0 (s6.1.set s6.2.2.toNat (IntKind.u8.wrap (s6.2.1)))),(1,iv (w64 (s6.2.1+1))),(5,iv s6.2.2)] [(0,rE 1 eU8 (s6.1.set s6.2.2.toNat (IntKind.u8.wrap (s6.2.1))))] zB ?_
  refine J_d 211 [] [5] [(5,iv (w64 (s6.2.2+1)))] [] [] zB ?_
  exact J_q (J_b (ih (s6.1.set s6.2.2.toNat (IntKind.u8.wrap (s6.2.1)),w64 (s6.2.1+1),w64 (s6.2.2+1)))) rfl
 ·exact yN (hk (s6.1,s6.2.1)) rfl
theorem zAp.ok (a1:(List Int)) (a2:Int):Ok Tryz.prog 147 [rr 0 a1,iv a2] [rE 1 eU8 a1] ((zAp a1 a2).map fun r=>(iv r.1,[rE 1 eU8 r.2])):=by
 refine zH zSu Tryz.f147 1 20 (fun q=>?_)
 unfold zAp
 refine J_g 2 [] [(0,rr 0 a1),(1,iv a2)] [(0,rE 1 eU8 a1)] zB ?_
 refine J_d 12 [] [5] [(5,iv 0)] [] [] zB ?_
 refine zFJ (zBe.ok q _ (fun v10=>J_j ?_) (a1,a2,0))
 refine J_g 14 [] [(4,iv v10.2)] [(0,rE 1 eU8 v10.1)] zB ?_
 exact zM rfl
noncomputable def c75:Code:=(Tryz.f75.body).getD .skip
theorem zAX.ok (q:Wd) (kn:((List File)×Int)→Option (D×List Ent)) (hk:∀v:((List File)×Int),J (q.g Tryz.prog 75 1 28) c75 (atI c75 7) (St.mk' [(1,iv v.2)] [(0,rE 2 (File.enc true) v.1)]) (some v) kn):
  ∀s14:((List File)×Int×Int),J (q.g Tryz.prog 75 1 28) c75 (atI c75 52) (St.mk' [(0,rr 0 s14.1),(1,iv s14.2.1),(5,iv s14.2.2)] [(0,rE 2 (File.enc true) s14.1)]) (zAX s14) kn:=by
 refine tQ (fun g ih s14=>?_)
 unfold zAz
 refine J_d 208 [] [9] [(9,bv (decide (s14.2.2< (s14.1.length:Int))))] [] [] zB ?_
 refine zG 9 (fun h15=>?_) (fun h15=>?_)
 ·refine zA (fun x16 h17=>?_)
  refine zA (fun x18 h19=>?_)
  refine J_g 840 [] [(0,rr 0 s14.1),(1,iv s14.2.1),(5,iv s14.2.2)] [(0,rE 2 (File.enc true) (s14.1.set s14.2.2.toNat ({Path:=x16,Data:=x18.Data}:File)))] (zF 3 (xC [(.tmp 14)] [3] (xE.ok s14.2.1) h17) (zF 4 (zAv (kk:=.i64) 31 138 2 0 (File.enc true) (.tmp 12) (.tmp 13) h19) (zHK 6 (zJn (b:=({Path:=x16,Data:=x18.Data}:File)) 9 2 0 0 (File.enc true) (sv x16) (.tmp 17) (.tmp 15) h19 rfl) zB))) ?_
  refine zGK (σ':=St.mk' [(0,rr 0 (s14.1.set s14.2.2.toNat ({Path:=x16,Data:=x18.Data}:File))),(1,iv s14.2.1),(5,iv s14.2.2)] [(0,rE 2 (File.enc true) (s14.1.set s14.2.2.toNat ({Path:=x16,Data:=x18.Data}:File)))]) (by simp only [rr,List.length_set]) ?_
  refine J_d 1682 [] [1] [(1,iv (w64 (s14.2.1+1)))] [] [] zB ?_
  refine zA (fun x20 h21=>?_)
  refine zII (ix:=s14.2.2) (enc:=(File.enc true)) 0 1 1 h21 rfl rfl (by kernel_rfl) ?_
  refine zOj [(0,rr 0 (s14.1.set s14.2.2.toNat ({Path:=x16,Data:=x18.Data}:File))),(1,iv (w64 (s14.2.1+1))),(5,iv s14.2.2)] [(0,.lent 2 ((s14.1.set s14.2.2.toNat ({Path:=x16,Data:=x18.Data}:File)).map (File.enc true)) s14.2.2.toNat 1 1 x20.Data.length),(1,rE 1 eU8 x20.Data)] (by kernel_rfl) ?_
  refine zA (fun x22 h23=>?_)
  refine J_g 1683 [] [(0,rr 0 (s14.1.set s14.2.2.toNat ({Path:=x16,Data:=x18.Data}:File))),(1,iv x22.1),(5,iv s14.2.2)] [(0,.lent 2 ((s14.1.set s14.2.2.toNat ({Path:=x16,Data:=x18.Data}:File)).map (File.enc true)) s14.2.2.toNat 1 1 x20.Data.length),(1,rE 1 eU8 x22.2)] (zF 2 (zOV (kk:=.i64) 31 138 2 0 (File.enc true) (.tmp 20) (.tmp 21) s14.2.2.toNat 1 1 x20.Data.length h21) (zF 4 (zPr 121 0 (.tmp 23) 2 (File.enc true) (s14.1.set s14.2.2.toNat ({Path:=x16,Data:=x18.Data}:File)) s14.2.2.toNat 1 1 x20.Data.length) (zF 6 (vQ («as»:=[rr 1 x20.Data,iv (w64 (s14.2.1+1))]) [(.tmp 24),(.tmp 25)] [121,3] false [(1,rE 1 eU8 x20.Data)] [1] (.cons (.rf rfl) (.cons (.same rfl) (.nil))) (zAp.ok x20.Data (w64 (s14.2.1+1))) h23 (.same rfl rfl)) zB))) ?_
  refine zA (fun u24 h25=>?_)
  refine zIA (ix:=s14.2.2) (enc:=(File.enc true)) (b:=({Path:=x20.Path,Data:=x22.2}:File)) 0 1 1 h21 rfl rfl rfl rfl (zCN h25) (Nat.le_of_ble_eq_true rfl) ((List.length_map _).trans (zCN h25)) ?_
  refine zOj [(0,rr 0 (s14.1.set s14.2.2.toNat ({Path:=x16,Data:=x18.Data}:File))),(1,iv x22.1),(5,iv s14.2.2)] [(0,rE 2 (File.enc true) ((s14.1.set s14.2.2.toNat ({Path:=x16,Data:=x18.Data}:File)).set s14.2.2.toNat ({Path:=x20.Path,Data:=x22.2}:File)))] (by kernel_rfl) ?_
  refine zGK (σ':=St.mk' [(0,rr 0 ((s14.1.set s14.2.2.toNat ({Path:=x16,Data:=x18.Data}:File)).set s14.2.2.toNat ({Path:=x20.Path,Data:=x22.2}:File))),(1,iv x22.1),(5,iv s14.2.2)] [(0,rE 2 (File.enc true) ((s14.1.set s14.2.2.toNat ({Path:=x16,Data:=x18.Data}:File)).set s14.2.2.toNat ({Path:=x20.Path,Data:=x22.2}:File)))]) (by simp only [rr,List.length_set]) ?_
  refine J_d 211 [] [5] [(5,iv (w64 (s14.2.2+1)))] [] [] zB ?_
  exact J_q (J_b (ih ((s14.1.set s14.2.2.toNat ({Path:=x16,Data:=x18.Data}:File)).set s14.2.2.toNat ({Path:=x20.Path,Data:=x22.2}:File),x22.1,w64 (s14.2.2+1)))) rfl
 ·exact yN (hk (s14.1,s14.2.1)) rfl
theorem zAC.ok (a1:(List File)) (a2:Int):Ok Tryz.prog 75 [rr 0 a1,iv a2] [rE 2 (File.enc true) a1] ((zAC a1 a2).map fun r=>(iv r.1,[rE 2 (File.enc true) r.2])):=by
 refine zH c75 Tryz.f75 1 28 (fun q=>?_)
 unfold zAC
 refine J_g 2 [] [(0,rr 0 a1),(1,iv a2)] [(0,rE 2 (File.enc true) a1)] zB ?_
 refine J_d 12 [] [5] [(5,iv 0)] [] [] zB ?_
 refine zFJ (zAX.ok q _ (fun v26=>J_j ?_) (a1,a2,0))
 refine J_d 14 [] [1,4] [(4,iv v26.2)] [] [] zB ?_
 exact zM rfl
noncomputable def c25:Code:=(Tryz.f25.body).getD .skip
theorem zBx.ok (a1:zD) (a2:Int):Ok Tryz.prog 25 [.ag [rr 0 a1.Files,iv a1.Budget,iv a1.Writes,iv a1.Stop,bv a1.Down],iv a2] [rE 2 (File.enc true) a1.Files] ((zBx a1 a2).map fun r=>(iv r.1,[rE 2 (File.enc true) r.2])):=by
 refine zH c25 Tryz.f25 1 10 (fun q=>?_)
 unfold zBx
 refine J_d 2 [(0,1)] [0,2] [(2,pp 1)] [1] [(1,.box [rr 0 a1.Files,iv a1.Budget,iv a1.Writes,iv a1.Stop,bv a1.Down])] zB ?_
 refine zA (fun x3 h4=>?_)
 refine J_g 6 [] [(1,iv x3.1)] [(0,rE 2 (File.enc true) x3.2)] (zF 3 (vQ («as»:=[rr 0 a1.Files,iv a2]) [(.tmp 6),(.tmp 7)] [31,3] false [(0,rE 2 (File.enc true) a1.Files)] [0] (.cons (.rf rfl) (.cons (.same rfl) (.nil))) (zAC.ok a1.Files a2) h4 (.same rfl rfl)) zB) ?_
 refine zA (fun u5 h6=>?_)
 refine J_d 14 [] [1,4] [(4,iv x3.1)] [] [] zB ?_
 exact zM rfl
noncomputable def c34:Code:=(Tryz.f34.body).getD .skip
theorem vX.ok (a1:System) (a2:Int):Ok Tryz.prog 34 [.ag [rr 0 a1.Catalog,rr 1 a1.zD.Files,iv a1.zD.Budget,iv a1.zD.Writes,iv a1.zD.Stop,bv a1.zD.Down],iv a2] [rE 8 (Pack.enc true) a1.Catalog,rE 2 (File.enc true) a1.zD.Files] ((vX a1 a2).map fun r=>(iv r.1,[rE 8 (Pack.enc true) r.2.1,rE 2 (File.enc true) r.2.2])):=by
 refine zH c34 Tryz.f34 2 14 (fun q=>?_)
 unfold vX
 refine J_d 2 [(0,2)] [0,2] [(2,pp 2)] [2] [(2,.box [rr 0 a1.Catalog,rr 1 a1.zD.Files,iv a1.zD.Budget,iv a1.zD.Writes,iv a1.zD.Stop,bv a1.zD.Down])] zB ?_
 refine zA (fun x3 h4=>?_)
 refine J_g 6 [] [(1,iv x3.1),(2,pp 2)] [(0,rE 8 (Pack.enc true) x3.2),(1,rE 2 (File.enc true) a1.zD.Files),(2,.box [rr 0 a1.Catalog,rr 1 a1.zD.Files,iv a1.zD.Budget,iv a1.zD.Writes,iv a1.zD.Stop,bv a1.zD.Down])] (zF 3 (vQ («as»:=[rr 0 a1.Catalog,iv a2]) [(.tmp 6),(.tmp 7)] [30,3] false [(0,rE 8 (Pack.enc true) a1.Catalog)] [0] (.cons (.rf rfl) (.cons (.same rfl) (.nil))) (zA7.ok a1.Catalog a2) h4 (.same rfl rfl)) zB) ?_
 refine zA (fun u5 h6=>?_)
 refine zGK (σ':=St.mk' [(1,iv x3.1),(2,pp 2)] [(0,rE 8 (Pack.enc true) x3.2),(1,rE 2 (File.enc true) a1.zD.Files),(2,.box [rr 0 x3.2,rr 1 a1.zD.Files,iv a1.zD.Budget,iv a1.zD.Writes,iv a1.zD.Stop,bv a1.zD.Down])]) (by simp only [rr,zCN h6]) ?_
 refine zA (fun x7 h8=>?_)
 refine J_g 14 [] [(1,iv x7.1)] [(0,rE 8 (Pack.enc true) x3.2),(1,rE 2 (File.enc true) x7.2)] (zF 3 (vQ («as»:=[.ag [rr 1 a1.zD.Files,iv a1.zD.Budget,iv a1.zD.Writes,iv a1.zD.Stop,bv a1.zD.Down],iv x3.1]) [(.tmp 10),(.tmp 11)] [33,3] false [(1,rE 2 (File.enc true) a1.zD.Files)] [1] (.cons (.ag (.cons (.rf rfl) (.cons (.same rfl) (.cons (.same rfl) (.cons (.same rfl) (.cons (.same rfl) (.nil))))))) (.cons (.same rfl) (.nil))) (zBx.ok a1.zD x3.1) h8 (.same rfl rfl)) zB) ?_
 refine zA (fun u9 h10=>?_)
 refine J_d 30 [] [1,4] [(4,iv x7.1)] [] [] zB ?_
 exact zM rfl
noncomputable def c40:Code:=(Tryz.f40.body).getD .skip
theorem vF.ok (a1:zC) (a2:Int):Ok Tryz.prog 40 [.ag [iv a1.Code,iv a1.Choices,rr 0 a1.System.Catalog,rr 1 a1.System.zD.Files,iv a1.System.zD.Budget,iv a1.System.zD.Writes,iv a1.System.zD.Stop,bv a1.System.zD.Down],iv a2] [rE 8 (Pack.enc true) a1.System.Catalog,rE 2 (File.enc true) a1.System.zD.Files] ((vF a1 a2).map fun r=>(iv r.1,[rE 8 (Pack.enc true) r.2.1,rE 2 (File.enc true) r.2.2])):=by
 refine zH c40 Tryz.f40 2 10 (fun q=>?_)
 unfold vF
 refine J_d 2 [(0,2)] [0,2] [(2,pp 2)] [2] [(2,.box [iv a1.Code,iv a1.Choices,rr 0 a1.System.Catalog,rr 1 a1.System.zD.Files,iv a1.System.zD.Budget,iv a1.System.zD.Writes,iv a1.System.zD.Stop,bv a1.System.zD.Down])] zB ?_
 refine zA (fun x3 h4=>?_)
 refine J_g 6 [] [(1,iv x3.1)] [(0,rE 8 (Pack.enc true) x3.2.1),(1,rE 2 (File.enc true) x3.2.2)] (zF 3 (vQ («as»:=[.ag [rr 0 a1.System.Catalog,rr 1 a1.System.zD.Files,iv a1.System.zD.Budget,iv a1.System.zD.Writes,iv a1.System.zD.Stop,bv a1.System.zD.Down],iv a2]) [(.tmp 6),(.tmp 7)] [35,3] false [(0,rE 8 (Pack.enc true) a1.System.Catalog),(1,rE 2 (File.enc true) a1.System.zD.Files)] [0,1] (.cons (.ag (.cons (.rf rfl) (.cons (.rf rfl) (.cons (.same rfl) (.cons (.same rfl) (.cons (.same rfl) (.cons (.same rfl) (.nil)))))))) (.cons (.same rfl) (.nil))) (vX.ok a1.System a2) h4 (.same rfl rfl)) zB) ?_
 refine zA (fun u5 h6=>?_)
 refine zA (fun u7 h8=>?_)
 refine J_d 14 [] [1,4] [(4,iv x3.1)] [] [] zB ?_
 exact zM rfl
noncomputable def zSy:Code:=(Tryz.f225.body).getD .skip
theorem zAu.ok (a1:(List ByteArray)) (q:Wd) (kn:Int→Option (D×List Ent)) (hk:∀v:Int,J (q.g Tryz.prog 225 0 22) zSy (atI zSy 7) (St.mk' [(1,iv v)] []) (some v) kn):
  ∀s9:(Int×Int),J (q.g Tryz.prog 225 0 22) zSy (atI zSy 52) (St.mk' [(0,sl 1 eStr a1),(1,iv s9.1),(5,iv s9.2)] []) (zAu a1 s9) (Fl.go (fun r:Int=>some (iv r,[])) kn):=by
 refine tQ (fun g ih s9=>?_)
 unfold kD
 refine J_d 208 [] [9] [(9,bv (decide (s9.2< (a1.length:Int))))] [] [] zB ?_
 refine zG 9 (fun h10=>?_) (fun h10=>?_)
 ·refine zA (fun x11 h12=>?_)
  refine zA (fun x13 h14=>?_)
  refine J_d 1680 [] [9,18] [(18,bv (!(seq x11 x13)))] [] [] (zF 2 (vI (kk:=.i64) 86 9 1 eStr (.tmp 12) (.tmp 13) h12) (zF 5 (xC [(.tmp 16)] [3] (xE.ok s9.1) h14) zB)) ?_
  refine zG 18 (fun h15=>?_) (fun h15=>?_)
  ·refine J_g 6724 [] [(4,iv (-1))] [] zB ?_
   exact zM rfl
  ·refine J_g 841 [] [(0,sl 1 eStr a1),(1,iv (w64 (s9.1+1))),(5,iv s9.2)] [] zB ?_
   refine J_d 211 [] [5] [(5,iv (w64 (s9.2+1)))] [] [] zB ?_
   exact J_q (J_b (ih (w64 (s9.1+1),w64 (s9.2+1)))) rfl
 ·exact yN (hk s9.1) rfl
theorem jV.ok (a1:(List ByteArray)) (a2:Int):Ok Tryz.prog 225 [sl 1 eStr a1,iv a2] [] ((jV a1 a2).map fun r=>(iv r,[])):=by
 refine zH zSy Tryz.f225 0 22 (fun q=>?_)
 unfold jV
 refine J_g 2 [] [(0,sl 1 eStr a1),(1,iv a2)] [] zB ?_
 refine J_d 12 [] [5] [(5,iv 0)] [] [] zB ?_
 refine vZ (K0:=(fun r:Int=>some (iv r,[]))) (fun _=>rfl) (zAu.ok a1 q _ (fun v16=>J_j ?_) (a2,0))
 refine J_g 14 [] [(4,iv v16)] [] zB ?_
 exact zM rfl
noncomputable def c227:Code:=(Tryz.f227.body).getD .skip
theorem zCa.ok (a1:(List Term)) (q:Wd) (kn:Int→Option (D×List Ent)) (hk:∀v:Int,J (q.g Tryz.prog 227 0 83) c227 (atI c227 7) (St.mk' [(1,iv v)] []) (some v) kn):
  ∀s27:(Int×Int),J (q.g Tryz.prog 227 0 83) c227 (atI c227 52) (St.mk' [(0,sl 7 Term.enc a1),(1,iv s27.1),(5,iv s27.2)] []) (zCa a1 s27) (Fl.go (fun r:Int=>some (iv r,[])) kn):=by
 refine tQ (fun g ih s27=>?_)
 unfold zBm
 refine J_d 208 [] [9] [(9,bv (decide (s27.2< (a1.length:Int))))] [] [] zB ?_
 refine zG 9 (fun h28=>?_) (fun h28=>?_)
 ·refine zA (fun x29 h30=>?_)
  refine zA (fun x31 h32=>?_)
  refine J_d 1680 [] [9,19] [(19,bv (!(seq x29.Name x31)))] [] [] (zF 2 (vI (kk:=.i64) 75 149 7 Term.enc (.tmp 12) (.tmp 13) h30) (zF 6 (xC [(.tmp 17)] [3] (xE.ok s27.1) h32) zB)) ?_
  refine zG 19 (fun h33=>?_) (fun h33=>?_)
  ·refine J_g 6724 [] [(4,iv (-1))] [] zB ?_
   exact zM rfl
  ·refine J_d 1682 [] [1,19] [(1,iv (w64 (s27.1+1)))] [] [] zB ?_
   refine zA (fun x34 h35=>?_)
   refine J_d 6732 [] [29] [(29,bv (x34.Low.A !=(w64 (s27.1+1))))] [] [] (zF 2 (vI (kk:=.i64) 75 149 7 Term.enc (.tmp 22) (.tmp 23) h35) zB) ?_
   refine zG 29 (fun h36=>?_) (fun h36=>?_)
   ·refine J_g 26932 [] [(4,iv (-1))] [] zB ?_
    exact zM rfl
   ·refine J_d 6734 [] [1,29] [(1,iv (w64 ((w64 (s27.1+1))+1)))] [] [] zB ?_
    refine zA (fun x37 h38=>?_)
    refine J_d 26940 [] [39] [(39,bv (x37.Low.B !=(w64 ((w64 (s27.1+1))+1))))] [] [] (zF 2 (vI (kk:=.i64) 75 149 7 Term.enc (.tmp 32) (.tmp 33) h38) zB) ?_
    refine zG 39 (fun h39=>?_) (fun h39=>?_)
    ·refine J_g 107764 [] [(4,iv (-1))] [] zB ?_
     exact zM rfl
    ·refine J_d 26942 [] [1,39] [(1,iv (w64 ((w64 ((w64 (s27.1+1))+1))+1)))] [] [] zB ?_
     refine zA (fun x40 h41=>?_)
     refine J_d 107772 [] [49] [(49,bv (x40.Low.C !=(w64 ((w64 ((w64 (s27.1+1))+1))+1))))] [] [] (zF 2 (vI (kk:=.i64) 75 149 7 Term.enc (.tmp 42) (.tmp 43) h41) zB) ?_
     refine zG 49 (fun h42=>?_) (fun h42=>?_)
     ·refine J_g 431092 [] [(4,iv (-1))] [] zB ?_
      exact zM rfl
     ·refine J_d 107774 [] [1,49] [(1,iv (w64 ((w64 ((w64 ((w64 (s27.1+1))+1))+1))+1)))] [] [] zB ?_
      refine zA (fun x43 h44=>?_)
      refine J_d 431100 [] [59] [(59,bv (x43.High.A !=(w64 ((w64 ((w64 ((w64 (s27.1+1))+1))+1))+1))))] [] [] (zF 2 (vI (kk:=.i64) 75 149 7 Term.enc (.tmp 52) (.tmp 53) h44) zB) ?_
      refine zG 59 (fun h45=>?_) (fun h45=>?_)
      ·refine J_g 1724404 [] [(4,iv (-1))] [] zB ?_
       exact zM rfl
      ·refine J_d 431102 [] [1,59] [(1,iv (w64 ((w64 ((w64 ((w64 ((w64 (s27.1+1))+1))+1))+1))+1)))] [] [] zB ?_
       refine zA (fun x46 h47=>?_)
       refine J_d 1724412 [] [69] [(69,bv (x46.High.B !=(w64 ((w64 ((w64 ((w64 ((w64 (s27.1+1))+1))+1))+1))+1))))] [] [] (zF 2 (vI (kk:=.i64) 75 149 7 Term.enc (.tmp 62) (.tmp 63) h47) zB) ?_
       refine zG 69 (fun h48=>?_) (fun h48=>?_)
       ·refine J_g 6897652 [] [(4,iv (-1))] [] zB ?_
        exact zM rfl
       ·refine J_d 1724414 [] [1,69] [(1,iv (w64 ((w64 ((w64 ((w64 ((w64 ((w64 (s27.1+1))+1))+1))+1))+1))+1)))] [] [] zB ?_
        refine zA (fun x49 h50=>?_)
        refine J_d 6897660 [] [79] [(79,bv (x49.High.C !=(w64 ((w64 ((w64 ((w64 ((w64 ((w64 (s27.1+1))+1))+1))+1))+1))+1))))] [] [] (zF 2 (vI (kk:=.i64) 75 149 7 Term.enc (.tmp 72) (.tmp 73) h50) zB) ?_
        refine zG 79 (fun h51=>?_) (fun h51=>?_)
        ·refine J_g 27590644 [] [(4,iv (-1))] [] zB ?_
         exact zM rfl
        ·refine J_g 3448831 [] [(0,sl 7 Term.enc a1),(1,iv (w64 ((w64 ((w64 ((w64 ((w64 ((w64 ((w64 (s27.1+1))+1))+1))+1))+1))+1))+1))),(5,iv s27.2)] [] zB ?_
         refine J_d 211 [] [5] [(5,iv (w64 (s27.2+1)))] [] [] zB ?_
         exact J_q (J_b (ih (w64 ((w64 ((w64 ((w64 ((w64 ((w64 ((w64 (s27.1+1))+1))+1))+1))+1))+1))+1),w64 (s27.2+1)))) rfl
 ·exact yN (hk s27.1) rfl
theorem tZ.ok (a1:(List Term)) (a2:Int):Ok Tryz.prog 227 [sl 7 Term.enc a1,iv a2] [] ((tZ a1 a2).map fun r=>(iv r,[])):=by
 refine zH c227 Tryz.f227 0 83 (fun q=>?_)
 unfold tZ
 refine J_g 2 [] [(0,sl 7 Term.enc a1),(1,iv a2)] [] zB ?_
 refine J_d 12 [] [5] [(5,iv 0)] [] [] zB ?_
 refine vZ (K0:=(fun r:Int=>some (iv r,[]))) (fun _=>rfl) (zCa.ok a1 q _ (fun v52=>J_j ?_) (a2,0))
 refine J_g 14 [] [(4,iv v52)] [] zB ?_
 exact zM rfl
noncomputable def c226:Code:=(Tryz.f226.body).getD .skip
theorem zAU.ok (a1:(List (List Term))) (q:Wd) (kn:Int→Option (D×List Ent)) (hk:∀v:Int,J (q.g Tryz.prog 226 0 21) c226 (atI c226 7) (St.mk' [(1,iv v)] []) (some v) kn):
  ∀s9:(Int×Int),J (q.g Tryz.prog 226 0 21) c226 (atI c226 52) (St.mk' [(0,sl 1 (eSl false 7 Term.enc) a1),(1,iv s9.1),(5,iv s9.2)] []) (zAU a1 s9) (Fl.go (fun r:Int=>some (iv r,[])) kn):=by
 refine tQ (fun g ih s9=>?_)
 unfold zA0
 refine J_d 208 [] [9] [(9,bv (decide (s9.2< (a1.length:Int))))] [] [] zB ?_
 refine zG 9 (fun h10=>?_) (fun h10=>?_)
 ·refine zA (fun x11 h12=>?_)
  refine zA (fun x13 h14=>?_)
  refine J_g 840 [] [(0,sl 1 (eSl false 7 Term.enc) a1),(1,iv x13),(5,iv s9.2)] [] (zF 2 (vI (kk:=.i64) 100 75 1 (eSl false 7 Term.enc) (.tmp 12) (.tmp 13) h12) (zF 5 (xC [(.tmp 15),(.tmp 16)] [75,3] (tZ.ok x11 s9.1) h14) zB)) ?_
  refine J_d 1682 [] [19] [(19,bv (decide (x13<0)))] [] [] zB ?_
  refine zG 19 (fun h15=>?_) (fun h15=>?_)
  ·refine J_g 6732 [] [(4,iv (-1))] [] zB ?_
   exact zM rfl
  ·refine J_d 211 [] [5,19] [(5,iv (w64 (s9.2+1)))] [] [] zB ?_
   exact J_q (J_b (ih (x13,w64 (s9.2+1)))) rfl
 ·exact yN (hk s9.1) rfl
theorem zA4.ok (a1:(List (List Term))) (a2:Int):Ok Tryz.prog 226 [sl 1 (eSl false 7 Term.enc) a1,iv a2] [] ((zA4 a1 a2).map fun r=>(iv r,[])):=by
 refine zH c226 Tryz.f226 0 21 (fun q=>?_)
 unfold zA4
 refine J_g 2 [] [(0,sl 1 (eSl false 7 Term.enc) a1),(1,iv a2)] [] zB ?_
 refine J_d 12 [] [5] [(5,iv 0)] [] [] zB ?_
 refine vZ (K0:=(fun r:Int=>some (iv r,[]))) (fun _=>rfl) (zAU.ok a1 q _ (fun v16=>J_j ?_) (a2,0))
 refine J_g 14 [] [(4,iv v16)] [] zB ?_
 exact zM rfl
noncomputable def zRI:Code:=(Tryz.f161.body).getD .skip
theorem zBQ.ok (a1:(List Pack)) (q:Wd) (kn:Int→Option (D×List Ent)) (hk:∀v:Int,J (q.g Tryz.prog 161 0 89) zRI (atI zRI 7) (St.mk' [(1,iv v)] []) (some v) kn):
  ∀s36:(Int×Int),J (q.g Tryz.prog 161 0 89) zRI (atI zRI 52) (St.mk' [(0,sl 8 (Pack.enc false) a1),(1,iv s36.1),(5,iv s36.2)] []) (zBQ a1 s36) (Fl.go (fun r:Int=>some (iv r,[])) kn):=by
 refine tQ (fun g ih s36=>?_)
 unfold zAO
 refine J_d 208 [] [9] [(9,bv (decide (s36.2< (a1.length:Int))))] [] [] zB ?_
 refine zG 9 (fun h37=>?_) (fun h37=>?_)
 ·refine zA (fun x38 h39=>?_)
  refine zA (fun x40 h41=>?_)
  refine J_d 1680 [] [9,19] [(19,bv (!(seq x38.Name x40)))] [] [] (zF 2 (vI (kk:=.i64) 30 102 8 (Pack.enc false) (.tmp 12) (.tmp 13) h39) (zF 6 (xC [(.tmp 17)] [3] (xE.ok s36.1) h41) zB)) ?_
  refine zG 19 (fun h42=>?_) (fun h42=>?_)
  ·refine J_g 6724 [] [(4,iv (-1))] [] zB ?_
   exact zM rfl
  ·refine J_d 1682 [] [1,19] [(1,iv (w64 (s36.1+1)))] [] [] zB ?_
   refine zA (fun x43 h44=>?_)
   refine J_d 6732 [] [29] [(29,bv (x43.Version.A !=(w64 (s36.1+1))))] [] [] (zF 2 (vI (kk:=.i64) 30 102 8 (Pack.enc false) (.tmp 22) (.tmp 23) h44) zB) ?_
   refine zG 29 (fun h45=>?_) (fun h45=>?_)
   ·refine J_g 26932 [] [(4,iv (-1))] [] zB ?_
    exact zM rfl
   ·refine J_d 6734 [] [1,29] [(1,iv (w64 ((w64 (s36.1+1))+1)))] [] [] zB ?_
    refine zA (fun x46 h47=>?_)
    refine J_d 26940 [] [39] [(39,bv (x46.Version.B !=(w64 ((w64 (s36.1+1))+1))))] [] [] (zF 2 (vI (kk:=.i64) 30 102 8 (Pack.enc false) (.tmp 32) (.tmp 33) h47) zB) ?_
    refine zG 39 (fun h48=>?_) (fun h48=>?_)
    ·refine J_g 107764 [] [(4,iv (-1))] [] zB ?_
     exact zM rfl
    ·refine J_d 26942 [] [1,39] [(1,iv (w64 ((w64 ((w64 (s36.1+1))+1))+1)))] [] [] zB ?_
     refine zA (fun x49 h50=>?_)
     refine J_d 107772 [] [49] [(49,bv (x49.Version.C !=(w64 ((w64 ((w64 (s36.1+1))+1))+1))))] [] [] (zF 2 (vI (kk:=.i64) 30 102 8 (Pack.enc false) (.tmp 42) (.tmp 43) h50) zB) ?_
     refine zG 49 (fun h51=>?_) (fun h51=>?_)
     ·refine J_g 431092 [] [(4,iv (-1))] [] zB ?_
      exact zM rfl
     ·refine J_d 107774 [] [1,49] [(1,iv (w64 ((w64 ((w64 ((w64 (s36.1+1))+1))+1))+1)))] [] [] zB ?_
      refine zA (fun x52 h53=>?_)
      refine J_d 431100 [] [58] [(58,bv (x52.Size !=(w64 ((w64 ((w64 ((w64 (s36.1+1))+1))+1))+1))))] [] [] (zF 2 (vI (kk:=.i64) 30 102 8 (Pack.enc false) (.tmp 52) (.tmp 53) h53) zB) ?_
      refine zG 58 (fun h54=>?_) (fun h54=>?_)
      ·refine J_g 1724404 [] [(4,iv (-1))] [] zB ?_
       exact zM rfl
      ·refine J_d 431102 [] [1,58] [(1,iv (w64 ((w64 ((w64 ((w64 ((w64 (s36.1+1))+1))+1))+1))+1)))] [] [] zB ?_
       refine zA (fun x55 h56=>?_)
       refine zA (fun x57 h58=>?_)
       refine J_g 862206 [] [(0,sl 8 (Pack.enc false) a1),(1,iv x57),(5,iv s36.2)] [] (zF 2 (vI (kk:=.i64) 30 102 8 (Pack.enc false) (.tmp 61) (.tmp 62) h56) (zF 6 (xC [(.tmp 65),(.tmp 66)] [86,3] (jV.ok x55.Provides (w64 ((w64 ((w64 ((w64 ((w64 (s36.1+1))+1))+1))+1))+1))) h58) zB)) ?_
       refine J_d 3448828 [] [69] [(69,bv (decide (x57<0)))] [] [] zB ?_
       refine zG 69 (fun h59=>?_) (fun h59=>?_)
       ·refine J_g 13795316 [] [(4,iv (-1))] [] zB ?_
        exact zM rfl
       ·refine zA (fun x60 h61=>?_)
        refine zA (fun x62 h63=>?_)
        refine J_g 3448830 [] [(0,sl 8 (Pack.enc false) a1),(1,iv x62),(5,iv s36.2)] [] (zF 2 (vI (kk:=.i64) 30 102 8 (Pack.enc false) (.tmp 70) (.tmp 71) h61) (zF 6 (xC [(.tmp 74),(.tmp 75)] [100,3] (zA4.ok x60.Needs x57) h63) zB)) ?_
        refine J_d 13795324 [] [78] [(78,bv (decide (x62<0)))] [] [] zB ?_
        refine zG 78 (fun h64=>?_) (fun h64=>?_)
        ·refine J_g 55181300 [] [(4,iv (-1))] [] zB ?_
         exact zM rfl
        ·refine zA (fun x65 h66=>?_)
         refine zA (fun x67 h68=>?_)
         refine J_g 13795326 [] [(0,sl 8 (Pack.enc false) a1),(1,iv x67),(5,iv s36.2)] [] (zF 2 (vI (kk:=.i64) 30 102 8 (Pack.enc false) (.tmp 79) (.tmp 80) h66) (zF 6 (xC [(.tmp 83),(.tmp 84)] [75,3] (tZ.ok x65.Bars x62) h68) zB)) ?_
         refine J_d 27590654 [] [87] [(87,bv (decide (x67<0)))] [] [] zB ?_
         refine zG 87 (fun h69=>?_) (fun h69=>?_)
         ·refine J_g 110362620 [] [(4,iv (-1))] [] zB ?_
          exact zM rfl
         ·refine J_d 211 [] [5,87] [(5,iv (w64 (s36.2+1)))] [] [] zB ?_
          exact J_q (J_b (ih (x67,w64 (s36.2+1)))) rfl
 ·exact yN (hk s36.1) rfl
theorem zB9.ok (a1:(List Pack)) (a2:Int):Ok Tryz.prog 161 [sl 8 (Pack.enc false) a1,iv a2] [] ((zB9 a1 a2).map fun r=>(iv r,[])):=by
 refine zH zRI Tryz.f161 0 89 (fun q=>?_)
 unfold zB9
 refine J_g 2 [] [(0,sl 8 (Pack.enc false) a1),(1,iv a2)] [] zB ?_
 refine J_d 12 [] [5] [(5,iv 0)] [] [] zB ?_
 refine vZ (K0:=(fun r:Int=>some (iv r,[]))) (fun _=>rfl) (zBQ.ok a1 q _ (fun v70=>J_j ?_) (a2,0))
 refine J_g 14 [] [(4,iv v70)] [] zB ?_
 exact zM rfl
noncomputable def zSf:Code:=(Tryz.f215.body).getD .skip
theorem zBF.ok (a1:(List Int)) (q:Wd) (kn:Int→Option (D×List Ent)) (hk:∀v:Int,J (q.g Tryz.prog 215 0 22) zSf (atI zSf 7) (St.mk' [(1,iv v)] []) (some v) kn):
  ∀s7:(Int×Int),J (q.g Tryz.prog 215 0 22) zSf (atI zSf 52) (St.mk' [(0,sl 1 eU8 a1),(1,iv s7.1),(5,iv s7.2)] []) (zBF a1 s7) (Fl.go (fun r:Int=>some (iv r,[])) kn):=by
 refine tQ (fun g ih s7=>?_)
 unfold zBl
 refine J_d 208 [] [9] [(9,bv (decide (s7.2< (a1.length:Int))))] [] [] zB ?_
 refine zG 9 (fun h8=>?_) (fun h8=>?_)
 ·refine zA (fun x9 h10=>?_)
  refine J_d 1680 [] [9,18] [(18,bv (x9 !=(IntKind.u8.wrap (s7.1))))] [] [] (zF 2 (vI (kk:=.i64) 121 5 1 eU8 (.tmp 12) (.tmp 13) h10) zB) ?_
  refine zG 18 (fun h11=>?_) (fun h11=>?_)
  ·refine J_g 6724 [] [(4,iv (-1))] [] zB ?_
   exact zM rfl
  ·refine J_g 841 [] [(0,sl 1 eU8 a1),(1,iv (w64 (s7.1+1))),(5,iv s7.2)] [] zB ?_
   refine J_d 211 [] [5] [(5,iv (w64 (s7.2+1)))] [] [] zB ?_
   exact J_q (J_b (ih (w64 (s7.1+1),w64 (s7.2+1)))) rfl
 ·exact yN (hk s7.1) rfl
theorem zB7.ok (a1:(List Int)) (a2:Int):Ok Tryz.prog 215 [sl 1 eU8 a1,iv a2] [] ((zB7 a1 a2).map fun r=>(iv r,[])):=by
 refine zH zSf Tryz.f215 0 22 (fun q=>?_)
 unfold zB7
 refine J_g 2 [] [(0,sl 1 eU8 a1),(1,iv a2)] [] zB ?_
 refine J_d 12 [] [5] [(5,iv 0)] [] [] zB ?_
 refine vZ (K0:=(fun r:Int=>some (iv r,[]))) (fun _=>rfl) (zBF.ok a1 q _ (fun v12=>J_j ?_) (a2,0))
 refine J_g 14 [] [(4,iv v12)] [] zB ?_
 exact zM rfl
noncomputable def c148:Code:=(Tryz.f148.body).getD .skip
theorem zCd.ok (a1:(List File)) (q:Wd) (kn:Int→Option (D×List Ent)) (hk:∀v:Int,J (q.g Tryz.prog 148 0 32) c148 (atI c148 7) (St.mk' [(1,iv v)] []) (some v) kn):
  ∀s14:(Int×Int),J (q.g Tryz.prog 148 0 32) c148 (atI c148 52) (St.mk' [(0,sl 2 (File.enc false) a1),(1,iv s14.1),(5,iv s14.2)] []) (zCd a1 s14) (Fl.go (fun r:Int=>some (iv r,[])) kn):=by
 refine tQ (fun g ih s14=>?_)
 unfold zBi
 refine J_d 208 [] [9] [(9,bv (decide (s14.2< (a1.length:Int))))] [] [] zB ?_
 refine zG 9 (fun h15=>?_) (fun h15=>?_)
 ·refine zA (fun x16 h17=>?_)
  refine zA (fun x18 h19=>?_)
  refine J_d 1680 [] [9,19] [(19,bv (!(seq x16.Path x18)))] [] [] (zF 2 (vI (kk:=.i64) 31 138 2 (File.enc false) (.tmp 12) (.tmp 13) h17) (zF 6 (xC [(.tmp 17)] [3] (xE.ok s14.1) h19) zB)) ?_
  refine zG 19 (fun h20=>?_) (fun h20=>?_)
  ·refine J_g 6724 [] [(4,iv (-1))] [] zB ?_
   exact zM rfl
  ·refine J_d 1682 [] [1,19] [(1,iv (w64 (s14.1+1)))] [] [] zB ?_
   refine zA (fun x21 h22=>?_)
   refine zA (fun x23 h24=>?_)
   refine J_g 3366 [] [(0,sl 2 (File.enc false) a1),(1,iv x23),(5,iv s14.2)] [] (zF 2 (vI (kk:=.i64) 31 138 2 (File.enc false) (.tmp 22) (.tmp 23) h22) (zF 6 (xC [(.tmp 26),(.tmp 27)] [121,3] (zB7.ok x21.Data (w64 (s14.1+1))) h24) zB)) ?_
   refine J_d 6734 [] [30] [(30,bv (decide (x23<0)))] [] [] zB ?_
   refine zG 30 (fun h25=>?_) (fun h25=>?_)
   ·refine J_g 26940 [] [(4,iv (-1))] [] zB ?_
    exact zM rfl
   ·refine J_d 211 [] [5,30] [(5,iv (w64 (s14.2+1)))] [] [] zB ?_
    exact J_q (J_b (ih (x23,w64 (s14.2+1)))) rfl
 ·exact yN (hk s14.1) rfl
theorem zBy.ok (a1:(List File)) (a2:Int):Ok Tryz.prog 148 [sl 2 (File.enc false) a1,iv a2] [] ((zBy a1 a2).map fun r=>(iv r,[])):=by
 refine zH c148 Tryz.f148 0 32 (fun q=>?_)
 unfold zBy
 refine J_g 2 [] [(0,sl 2 (File.enc false) a1),(1,iv a2)] [] zB ?_
 refine J_d 12 [] [5] [(5,iv 0)] [] [] zB ?_
 refine vZ (K0:=(fun r:Int=>some (iv r,[]))) (fun _=>rfl) (zCd.ok a1 q _ (fun v26=>J_j ?_) (a2,0))
 refine J_g 14 [] [(4,iv v26)] [] zB ?_
 exact zM rfl
noncomputable def c76:Code:=(Tryz.f76.body).getD .skip
theorem zCq.ok (a1:zD) (a2:Int):Ok Tryz.prog 76 [.ag (zD.enc false a1),iv a2] [] ((zCq a1 a2).map fun r=>(iv r,[])):=by
 refine zH c76 Tryz.f76 0 12 (fun q=>?_)
 unfold zCq
 refine J_g 2 [(0,0)] [(1,iv a2),(2,pp 0)] [(0,.box (zD.enc false a1))] zB ?_
 refine zA (fun x3 h4=>?_)
 refine J_g 6 [] [(1,iv x3)] [] (zF 3 (xC [(.tmp 6),(.tmp 7)] [31,3] (zBy.ok a1.Files a2) h4) zB) ?_
 refine J_g 28 [] [(1,iv x3),(10,bv (decide (x3<0)))] [] zB ?_
 refine zG 10 (fun h5=>?_) (fun h5=>?_)
 ·refine J_g 116 [] [(4,iv (-1))] [] zB ?_
  exact zM rfl
 ·refine J_g 30 [] [(4,iv x3)] [] zB ?_
  exact zM rfl
noncomputable def c89:Code:=(Tryz.f89.body).getD .skip
theorem zA8.ok (a1:System) (a2:Int):Ok Tryz.prog 89 [.ag (System.enc false a1),iv a2] [] ((zA8 a1 a2).map fun r=>(iv r,[])):=by
 refine zH c89 Tryz.f89 0 18 (fun q=>?_)
 unfold zA8
 refine J_g 2 [(0,0)] [(1,iv a2),(2,pp 0)] [(0,.box (System.enc false a1))] zB ?_
 refine zA (fun x3 h4=>?_)
 refine J_g 6 [] [(1,iv x3),(2,pp 0)] [(0,.box (System.enc false a1))] (zF 3 (xC [(.tmp 6),(.tmp 7)] [30,3] (zB9.ok a1.Catalog a2) h4) zB) ?_
 refine J_d 28 [] [10] [(10,bv (decide (x3<0)))] [] [] zB ?_
 refine zG 10 (fun h5=>?_) (fun h5=>?_)
 ·refine J_g 116 [] [(4,iv (-1))] [] zB ?_
  exact zM rfl
 ·refine zA (fun x6 h7=>?_)
  refine J_g 30 [] [(1,iv x6)] [] (zF 3 (xC [(.tmp 12),(.tmp 13)] [33,3] (zCq.ok a1.zD x3) h7) zB) ?_
  refine J_g 124 [] [(1,iv x6),(16,bv (decide (x6<0)))] [] zB ?_
  refine zG 16 (fun h8=>?_) (fun h8=>?_)
  ·refine J_g 500 [] [(4,iv (-1))] [] zB ?_
   exact zM rfl
  ·refine J_g 126 [] [(4,iv x6)] [] zB ?_
   exact zM rfl
noncomputable def c41:Code:=(Tryz.f41.body).getD .skip
theorem wO.ok (a1:zC) (a2:Int):Ok Tryz.prog 41 [.ag (zC.enc false a1),iv a2] [] ((wO a1 a2).map fun r=>(iv r,[])):=by
 refine zH c41 Tryz.f41 0 12 (fun q=>?_)
 unfold wO
 refine J_g 2 [(0,0)] [(1,iv a2),(2,pp 0)] [(0,.box (zC.enc false a1))] zB ?_
 refine zA (fun x3 h4=>?_)
 refine J_g 6 [] [(1,iv x3)] [] (zF 3 (xC [(.tmp 6),(.tmp 7)] [35,3] (zA8.ok a1.System a2) h4) zB) ?_
 refine J_g 28 [] [(1,iv x3),(10,bv (decide (x3<0)))] [] zB ?_
 refine zG 10 (fun h5=>?_) (fun h5=>?_)
 ·refine J_g 116 [] [(4,iv (-1))] [] zB ?_
  exact zM rfl
 ·refine J_g 30 [] [(4,iv x3)] [] zB ?_
  exact zM rfl
noncomputable def c7:Code:=(Tryz.f7.body).getD .skip
theorem vH.ok (a1:System):Ok Tryz.prog 7 [.ag (System.enc false a1)] [] ((vH a1).map fun r=>(bv r,[])):=by
 refine zH c7 Tryz.f7 0 69 (fun q=>?_)
 unfold vH
 refine J_g 2 [(0,0)] [(1,pp 0)] [(0,.box (System.enc false a1))] zB ?_
 refine J_d 6 [] [3] [(3,iv 1048576)] [] [] zB ?_
 refine zA (fun x2 h3=>?_)
 refine J_g 14 [] [(1,pp 0),(3,iv x2)] [(0,.box (System.enc false a1))] (zF 2 (xC [(.tmp 11),(.tmp 12)] [27,3] (zCm.ok a1 1048576) h3) zB) ?_
 refine J_d 60 [] [3,15] [(15,bv (decide (x2<0)))] [] [] zB ?_
 refine zG 15 (fun h4=>?_) (fun h4=>?_)
 ·refine J_g 244 [] [(2,bv true)] [] zB ?_
  exact zM rfl
 ·refine zA (fun x5 h6=>?_)
  refine zA (fun x7 h8=>?_)
  refine J_d 62 [(3,5)] [4,15] [(4,pp 5)] [3,4,5] [(3,rE 8 (Pack.enc true) x7.System.Catalog),(4,rE 2 (File.enc true) x7.System.zD.Files),(5,.box [iv x7.Code,iv x7.Choices,rr 3 x7.System.Catalog,rr 4 x7.System.zD.Files,iv x7.System.zD.Budget,iv x7.System.zD.Writes,iv x7.System.zD.Stop,bv x7.System.zD.Down])] (zF 1 (vQ («as»:=[.ag (System.enc false a1)]) [(.tmp 16)] [27] false [] [] (.cons (.same rfl) (.nil)) (vK.ok a1) h6 (.ag (.cons (.own 1) (.cons (.own 2) (.cons (.same rfl rfl) (.cons (.same rfl rfl) (.cons (.same rfl rfl) (.cons (.same rfl rfl) (.nil))))))))) (zF 2 (vQ («as»:=[.ag [rr 1 x5.Catalog,rr 2 x5.zD.Files,iv x5.zD.Budget,iv x5.zD.Writes,iv x5.zD.Stop,bv x5.zD.Down]]) [(.tmp 17)] [35] true [(1,rE 8 (Pack.enc true) x5.Catalog),(2,rE 2 (File.enc true) x5.zD.Files)] [] (.cons (.ag (.cons (zFE (.head _) (Pack.ro true) rfl) (.cons (zFE (.tail _ (.head _)) (File.ro true) rfl) (.cons (.same rfl) (.cons (.same rfl) (.cons (.same rfl) (.cons (.same rfl) (.nil)))))))) (.nil)) (kV.ok x5) h8 (.ag (.cons (.same rfl rfl) (.cons (.same rfl rfl) (.cons (.own 3) (.cons (.own 4) (.cons (.same rfl rfl) (.cons (.same rfl rfl) (.cons (.same rfl rfl) (.cons (.same rfl rfl) (.nil)))))))))) (hbor:=fun _=>⟨fhN,(zML (zC.fl _))⟩)) zB)) ?_
  refine zA (fun x9 h10=>?_)
  refine J_d 126 [(2,8)] [5] [(5,pp 8)] [6,7,8] [(6,rE 8 (Pack.enc true) x9.Catalog),(7,rE 2 (File.enc true) x9.zD.Files),(8,.box [rr 6 x9.Catalog,rr 7 x9.zD.Files,iv x9.zD.Budget,iv x9.zD.Writes,iv x9.zD.Stop,bv x9.zD.Down])] (zF 1 (vQ («as»:=[.ag (System.enc false a1)]) [(.tmp 19)] [27] false [] [] (.cons (.same rfl) (.nil)) (vK.ok a1) h10 (.ag (.cons (.own 6) (.cons (.own 7) (.cons (.same rfl rfl) (.cons (.same rfl rfl) (.cons (.same rfl rfl) (.cons (.same rfl rfl) (.nil))))))))) zB) ?_
  refine zA (fun x11 h12=>?_)
  refine J_d 254 [(2,11)] [6] [(6,pp 11)] [9,10,11] [(9,rE 8 (Pack.enc true) x11.System.Catalog),(10,rE 2 (File.enc true) x11.System.zD.Files),(11,.box [iv x11.Code,iv x11.Choices,rr 9 x11.System.Catalog,rr 10 x11.System.zD.Files,iv x11.System.zD.Budget,iv x11.System.zD.Writes,iv x11.System.zD.Stop,bv x11.System.zD.Down])] (zF 1 (vQ («as»:=[.ag [rr 6 x9.Catalog,rr 7 x9.zD.Files,iv x9.zD.Budget,iv x9.zD.Writes,iv x9.zD.Stop,bv x9.zD.Down]]) [(.tmp 21)] [35] true [(6,rE 8 (Pack.enc true) x9.Catalog),(7,rE 2 (File.enc true) x9.zD.Files)] [] (.cons (.ag (.cons (zFE (.head _) (Pack.ro true) rfl) (.cons (zFE (.tail _ (.head _)) (File.ro true) rfl) (.cons (.same rfl) (.cons (.same rfl) (.cons (.same rfl) (.cons (.same rfl) (.nil)))))))) (.nil)) (uG.ok x9) h12 (.ag (.cons (.same rfl rfl) (.cons (.same rfl rfl) (.cons (.own 9) (.cons (.own 10) (.cons (.same rfl rfl) (.cons (.same rfl rfl) (.cons (.same rfl rfl) (.cons (.same rfl rfl) (.nil)))))))))) (hbor:=fun _=>⟨fhN,(zML (zC.fl _))⟩)) zB) ?_
  refine zA (fun x13 h14=>?_)
  refine J_d 1020 [] [26] [(26,bv (!x13))] [] [] (zF 2 (vQ («as»:=[.ag [iv x11.Code,iv x11.Choices,rr 9 x11.System.Catalog,rr 10 x11.System.zD.Files,iv x11.System.zD.Budget,iv x11.System.zD.Writes,iv x11.System.zD.Stop,bv x11.System.zD.Down],.ag [iv x7.Code,iv x7.Choices,rr 3 x7.System.Catalog,rr 4 x7.System.zD.Files,iv x7.System.zD.Budget,iv x7.System.zD.Writes,iv x7.System.zD.Stop,bv x7.System.zD.Down]]) [(.tmp 23),(.tmp 24)] [66,66] true [(9,rE 8 (Pack.enc true) x11.System.Catalog),(10,rE 2 (File.enc true) x11.System.zD.Files),(3,rE 8 (Pack.enc true) x7.System.Catalog),(4,rE 2 (File.enc true) x7.System.zD.Files)] [] (.cons (.ag (.cons (.same rfl) (.cons (.same rfl) (.cons (zFE (.head _) (Pack.ro true) rfl) (.cons (zFE (.tail _ (.head _)) (File.ro true) rfl) (.cons (.same rfl) (.cons (.same rfl) (.cons (.same rfl) (.cons (.same rfl) (.nil)))))))))) (.cons (.ag (.cons (.same rfl) (.cons (.same rfl) (.cons (zFE (.tail _ (.tail _ (.head _))) (Pack.ro true) rfl) (.cons (zFE (.tail _ (.tail _ (.tail _ (.head _)))) (File.ro true) rfl) (.cons (.same rfl) (.cons (.same rfl) (.cons (.same rfl) (.cons (.same rfl) (.nil)))))))))) (.nil))) (wL.ok x11 x7) h14 (.same rfl rfl) (hbor:=fun _=>⟨fhN,zQ⟩)) zB) ?_
  refine zG 26 (fun h15=>?_) (fun h15=>?_)
  ·refine J_g 4084 [] [(2,bv false)] [] zB ?_
   exact zM rfl
  ·refine zA (fun x16 h17=>?_)
   refine zA (fun x18 h19=>?_)
   refine J_d 2044 [] [26,31] [(31,bv (!x18))] [] [] (zF 2 (vQ («as»:=[.ag (System.enc false a1)]) [(.tmp 28)] [27] false [] [] (.cons (.same rfl) (.nil)) (vK.ok a1) h17 (.ag (.cons (.own 12) (.cons (.own 13) (.cons (.same rfl rfl) (.cons (.same rfl rfl) (.cons (.same rfl rfl) (.cons (.same rfl rfl) (.nil))))))))) (zF 3 (vQ («as»:=[.ag [rr 6 x9.Catalog,rr 7 x9.zD.Files,iv x9.zD.Budget,iv x9.zD.Writes,iv x9.zD.Stop,bv x9.zD.Down],.ag [rr 12 x16.Catalog,rr 13 x16.zD.Files,iv x16.zD.Budget,iv x16.zD.Writes,iv x16.zD.Stop,bv x16.zD.Down]]) [(.tmp 27),(.tmp 29)] [35,35] true [(6,rE 8 (Pack.enc true) x9.Catalog),(7,rE 2 (File.enc true) x9.zD.Files),(12,rE 8 (Pack.enc true) x16.Catalog),(13,rE 2 (File.enc true) x16.zD.Files)] [] (.cons (.ag (.cons (zFE (.head _) (Pack.ro true) rfl) (.cons (zFE (.tail _ (.head _)) (File.ro true) rfl) (.cons (.same rfl) (.cons (.same rfl) (.cons (.same rfl) (.cons (.same rfl) (.nil)))))))) (.cons (.ag (.cons (zFE (.tail _ (.tail _ (.head _))) (Pack.ro true) rfl) (.cons (zFE (.tail _ (.tail _ (.tail _ (.head _)))) (File.ro true) rfl) (.cons (.same rfl) (.cons (.same rfl) (.cons (.same rfl) (.cons (.same rfl) (.nil)))))))) (.nil))) (kM.ok x9 x16) h19 (.same rfl rfl) (hbor:=fun _=>⟨fhN,zQ⟩)) zB)) ?_
   refine zG 31 (fun h20=>?_) (fun h20=>?_)
   ·refine J_g 8180 [] [(2,bv false)] [] zB ?_
    exact zM rfl
   ·refine J_d 2046 [] [7,31] [(7,iv 1)] [] [] zB ?_
    refine zA (fun x21 h22=>?_)
    refine J_g 4094 [] [(1,pp 0),(4,pp 5),(6,pp 11),(7,iv x21.1)] [(0,.box (System.enc false a1)),(3,rE 8 (Pack.enc true) x7.System.Catalog),(4,rE 2 (File.enc true) x7.System.zD.Files),(5,.box [iv x7.Code,iv x7.Choices,rr 3 x7.System.Catalog,rr 4 x7.System.zD.Files,iv x7.System.zD.Budget,iv x7.System.zD.Writes,iv x7.System.zD.Stop,bv x7.System.zD.Down]),(9,rE 8 (Pack.enc true) x11.System.Catalog),(10,rE 2 (File.enc true) x11.System.zD.Files),(11,.box [iv x11.Code,iv x11.Choices,rr 9 x11.System.Catalog,rr 10 x11.System.zD.Files,iv x11.System.zD.Budget,iv x11.System.zD.Writes,iv x11.System.zD.Stop,bv x11.System.zD.Down])] (zF 2 (vQ («as»:=[.ag [rr 6 x9.Catalog,rr 7 x9.zD.Files,iv x9.zD.Budget,iv x9.zD.Writes,iv x9.zD.Stop,bv x9.zD.Down],iv 1]) [(.tmp 32),(.tmp 33)] [35,3] false [(6,rE 8 (Pack.enc true) x9.Catalog),(7,rE 2 (File.enc true) x9.zD.Files)] [6,7] (.cons (.ag (.cons (.rf rfl) (.cons (.rf rfl) (.cons (.same rfl) (.cons (.same rfl) (.cons (.same rfl) (.cons (.same rfl) (.nil)))))))) (.cons (.same rfl) (.nil))) (vX.ok x9 1) h22 (.same rfl rfl)) zB) ?_
    refine wH (atI c7 16381) (fun v26:Bool=>St.mk' [(1,pp 0),(4,pp 5),(6,pp 11),(42,bv v26)] [(0,.box (System.enc false a1)),(3,rE 8 (Pack.enc true) x7.System.Catalog),(4,rE 2 (File.enc true) x7.System.zD.Files),(5,.box [iv x7.Code,iv x7.Choices,rr 3 x7.System.Catalog,rr 4 x7.System.zD.Files,iv x7.System.zD.Budget,iv x7.System.zD.Writes,iv x7.System.zD.Stop,bv x7.System.zD.Down]),(9,rE 8 (Pack.enc true) x11.System.Catalog),(10,rE 2 (File.enc true) x11.System.zD.Files),(11,.box [iv x11.Code,iv x11.Choices,rr 9 x11.System.Catalog,rr 10 x11.System.zD.Files,iv x11.System.zD.Budget,iv x11.System.zD.Writes,iv x11.System.zD.Stop,bv x11.System.zD.Down])]) (fun v26=>?_) (fun jv26=>?_)
    ·refine zG 42 (fun h27=>?_) (fun h27=>?_)
     ·refine J_g 65524 [] [(2,bv false)] [] zB ?_
      exact zM rfl
     ·refine J_d 16382 [] [8,42] [(8,iv 1)] [] [] zB ?_
      refine zA (fun x28 h29=>?_)
      refine J_g 32766 [] [(1,pp 0),(4,pp 5),(6,pp 11),(8,iv x28.1)] [(0,.box (System.enc false a1)),(3,rE 8 (Pack.enc true) x7.System.Catalog),(4,rE 2 (File.enc true) x7.System.zD.Files),(5,.box [iv x7.Code,iv x7.Choices,rr 3 x7.System.Catalog,rr 4 x7.System.zD.Files,iv x7.System.zD.Budget,iv x7.System.zD.Writes,iv x7.System.zD.Stop,bv x7.System.zD.Down]),(9,rE 8 (Pack.enc true) x28.2.1),(10,rE 2 (File.enc true) x28.2.2),(11,.box [iv x11.Code,iv x11.Choices,rr 9 x11.System.Catalog,rr 10 x11.System.zD.Files,iv x11.System.zD.Budget,iv x11.System.zD.Writes,iv x11.System.zD.Stop,bv x11.System.zD.Down])] (zF 2 (vQ («as»:=[.ag [iv x11.Code,iv x11.Choices,rr 9 x11.System.Catalog,rr 10 x11.System.zD.Files,iv x11.System.zD.Budget,iv x11.System.zD.Writes,iv x11.System.zD.Stop,bv x11.System.zD.Down],iv 1]) [(.tmp 43),(.tmp 44)] [66,3] false [(9,rE 8 (Pack.enc true) x11.System.Catalog),(10,rE 2 (File.enc true) x11.System.zD.Files)] [9,10] (.cons (.ag (.cons (.same rfl) (.cons (.same rfl) (.cons (.rf rfl) (.cons (.rf rfl) (.cons (.same rfl) (.cons (.same rfl) (.cons (.same rfl) (.cons (.same rfl) (.nil)))))))))) (.cons (.same rfl) (.nil))) (vF.ok x11 1) h29 (.same rfl rfl)) zB) ?_
      refine zA (fun u30 h31=>?_)
      refine zA (fun u32 h33=>?_)
      refine zGK (σ':=St.mk' [(1,pp 0),(4,pp 5),(6,pp 11),(8,iv x28.1)] [(0,.box (System.enc false a1)),(3,rE 8 (Pack.enc true) x7.System.Catalog),(4,rE 2 (File.enc true) x7.System.zD.Files),(5,.box [iv x7.Code,iv x7.Choices,rr 3 x7.System.Catalog,rr 4 x7.System.zD.Files,iv x7.System.zD.Budget,iv x7.System.zD.Writes,iv x7.System.zD.Stop,bv x7.System.zD.Down]),(9,rE 8 (Pack.enc true) x28.2.1),(10,rE 2 (File.enc true) x28.2.2),(11,.box [iv x11.Code,iv x11.Choices,rr 9 x28.2.1,rr 10 x28.2.2,iv x11.System.zD.Budget,iv x11.System.zD.Writes,iv x11.System.zD.Stop,bv x11.System.zD.Down])]) (by simp only [rr,zCN h31,zCN h33]) ?_
      refine J_d 65534 [] [9] [(9,iv 1)] [] [] zB ?_
      refine zA (fun x34 h35=>?_)
      refine J_g 131070 [] [(1,pp 0),(4,pp 5),(6,pp 11),(8,iv x28.1),(9,iv x34)] [(0,.box (System.enc false a1)),(3,rE 8 (Pack.enc true) x7.System.Catalog),(4,rE 2 (File.enc true) x7.System.zD.Files),(5,.box [iv x7.Code,iv x7.Choices,rr 3 x7.System.Catalog,rr 4 x7.System.zD.Files,iv x7.System.zD.Budget,iv x7.System.zD.Writes,iv x7.System.zD.Stop,bv x7.System.zD.Down]),(9,rE 8 (Pack.enc true) x28.2.1),(10,rE 2 (File.enc true) x28.2.2),(11,.box [iv x11.Code,iv x11.Choices,rr 9 x28.2.1,rr 10 x28.2.2,iv x11.System.zD.Budget,iv x11.System.zD.Writes,iv x11.System.zD.Stop,bv x11.System.zD.Down])] (zF 2 (vQ («as»:=[.ag [iv x11.Code,iv x11.Choices,rr 9 x28.2.1,rr 10 x28.2.2,iv x11.System.zD.Budget,iv x11.System.zD.Writes,iv x11.System.zD.Stop,bv x11.System.zD.Down],iv 1]) [(.tmp 46),(.tmp 47)] [66,3] true [(9,rE 8 (Pack.enc true) x28.2.1),(10,rE 2 (File.enc true) x28.2.2)] [] (.cons (.ag (.cons (.same rfl) (.cons (.same rfl) (.cons (zFE (.head _) (Pack.ro true) rfl) (.cons (zFE (.tail _ (.head _)) (File.ro true) rfl) (.cons (.same rfl) (.cons (.same rfl) (.cons (.same rfl) (.cons (.same rfl) (.nil)))))))))) (.cons (.same rfl) (.nil))) (wO.ok ({Code:=x11.Code,Choices:=x11.Choices,System:=({Catalog:=x28.2.1,zD:=({Files:=x28.2.2,Budget:=x11.System.zD.Budget,Writes:=x11.System.zD.Writes,Stop:=x11.System.zD.Stop,Down:=x11.System.zD.Down}:zD)}:System)}:zC) 1) h35 (.same rfl rfl) (hbor:=fun _=>⟨fhN,zQ⟩)) zB) ?_
      refine J_d 524284 [] [50] [(50,bv (decide (x34<0)))] [] [] zB ?_
      refine zG 50 (fun h36=>?_) (fun h36=>?_)
      ·refine J_g 2097140 [] [(2,bv false)] [] zB ?_
       exact zM rfl
      ·refine J_d 1048572 [] [9,50,53] [(53,bv (x34 !=x28.1))] [] [] zB ?_
       refine zG 53 (fun h37=>?_) (fun h37=>?_)
       ·refine J_g 4194292 [] [(2,bv false)] [] zB ?_
        exact zM rfl
       ·refine zA (fun x38 h39=>?_)
        refine zA (fun x40 h41=>?_)
        refine J_d 1048574 [(3,16)] [1,10,53] [(10,pp 16)] [0,14,15,16] [(14,rE 8 (Pack.enc true) x40.System.Catalog),(15,rE 2 (File.enc true) x40.System.zD.Files),(16,.box [iv x40.Code,iv x40.Choices,rr 14 x40.System.Catalog,rr 15 x40.System.zD.Files,iv x40.System.zD.Budget,iv x40.System.zD.Writes,iv x40.System.zD.Stop,bv x40.System.zD.Down])] (zF 1 (vQ («as»:=[.ag (System.enc false a1)]) [(.tmp 54)] [27] false [] [] (.cons (.same rfl) (.nil)) (vK.ok a1) h39 (.ag (.cons (.own 12) (.cons (.own 13) (.cons (.same rfl rfl) (.cons (.same rfl rfl) (.cons (.same rfl rfl) (.cons (.same rfl rfl) (.nil))))))))) (zF 2 (vQ («as»:=[.ag [rr 12 x38.Catalog,rr 13 x38.zD.Files,iv x38.zD.Budget,iv x38.zD.Writes,iv x38.zD.Stop,bv x38.zD.Down]]) [(.tmp 55)] [35] true [(12,rE 8 (Pack.enc true) x38.Catalog),(13,rE 2 (File.enc true) x38.zD.Files)] [] (.cons (.ag (.cons (zFE (.head _) (Pack.ro true) rfl) (.cons (zFE (.tail _ (.head _)) (File.ro true) rfl) (.cons (.same rfl) (.cons (.same rfl) (.cons (.same rfl) (.cons (.same rfl) (.nil)))))))) (.nil)) (uG.ok x38) h41 (.ag (.cons (.same rfl rfl) (.cons (.same rfl rfl) (.cons (.own 14) (.cons (.own 15) (.cons (.same rfl rfl) (.cons (.same rfl rfl) (.cons (.same rfl rfl) (.cons (.same rfl rfl) (.nil)))))))))) (hbor:=fun _=>⟨fhN,(zML (zC.fl _))⟩)) zB)) ?_
        refine zA (fun x42 h43=>?_)
        refine J_d 4194300 [] [4,10,60] [(60,bv (!x42))] [3,4,5,14,15,16] [] (zF 2 (vQ («as»:=[.ag [iv x40.Code,iv x40.Choices,rr 14 x40.System.Catalog,rr 15 x40.System.zD.Files,iv x40.System.zD.Budget,iv x40.System.zD.Writes,iv x40.System.zD.Stop,bv x40.System.zD.Down],.ag [iv x7.Code,iv x7.Choices,rr 3 x7.System.Catalog,rr 4 x7.System.zD.Files,iv x7.System.zD.Budget,iv x7.System.zD.Writes,iv x7.System.zD.Stop,bv x7.System.zD.Down]]) [(.tmp 57),(.tmp 58)] [66,66] true [(14,rE 8 (Pack.enc true) x40.System.Catalog),(15,rE 2 (File.enc true) x40.System.zD.Files),(3,rE 8 (Pack.enc true) x7.System.Catalog),(4,rE 2 (File.enc true) x7.System.zD.Files)] [] (.cons (.ag (.cons (.same rfl) (.cons (.same rfl) (.cons (zFE (.head _) (Pack.ro true) rfl) (.cons (zFE (.tail _ (.head _)) (File.ro true) rfl) (.cons (.same rfl) (.cons (.same rfl) (.cons (.same rfl) (.cons (.same rfl) (.nil)))))))))) (.cons (.ag (.cons (.same rfl) (.cons (.same rfl) (.cons (zFE (.tail _ (.tail _ (.head _))) (Pack.ro true) rfl) (.cons (zFE (.tail _ (.tail _ (.tail _ (.head _)))) (File.ro true) rfl) (.cons (.same rfl) (.cons (.same rfl) (.cons (.same rfl) (.cons (.same rfl) (.nil)))))))))) (.nil))) (wL.ok x40 x7) h43 (.same rfl rfl) (hbor:=fun _=>⟨fhN,zQ⟩)) zB) ?_
        refine zG 60 (fun h44=>?_) (fun h44=>?_)
        ·refine J_g 16777204 [] [(2,bv false)] [] zB ?_
         exact zM rfl
        ·refine J_d 4194302 [] [9,60] [(9,iv 1)] [] [] zB ?_
         refine zA (fun x45 h46=>?_)
         refine J_g 8388606 [] [(8,iv x28.1),(9,iv x45)] [] (zF 2 (vQ («as»:=[.ag [iv x11.Code,iv x11.Choices,rr 9 x28.2.1,rr 10 x28.2.2,iv x11.System.zD.Budget,iv x11.System.zD.Writes,iv x11.System.zD.Stop,bv x11.System.zD.Down],iv 1]) [(.tmp 61),(.tmp 62)] [66,3] true [(9,rE 8 (Pack.enc true) x28.2.1),(10,rE 2 (File.enc true) x28.2.2)] [] (.cons (.ag (.cons (.same rfl) (.cons (.same rfl) (.cons (zFE (.head _) (Pack.ro true) rfl) (.cons (zFE (.tail _ (.head _)) (File.ro true) rfl) (.cons (.same rfl) (.cons (.same rfl) (.cons (.same rfl) (.cons (.same rfl) (.nil)))))))))) (.cons (.same rfl) (.nil))) (wO.ok ({Code:=x11.Code,Choices:=x11.Choices,System:=({Catalog:=x28.2.1,zD:=({Files:=x28.2.2,Budget:=x11.System.zD.Budget,Writes:=x11.System.zD.Writes,Stop:=x11.System.zD.Stop,Down:=x11.System.zD.Down}:zD)}:System)}:zC) 1) h46 (.same rfl rfl) (hbor:=fun _=>⟨fhN,zQ⟩)) zB) ?_
         refine J_d 33554428 [] [65] [(65,bv (decide (x45<0)))] [] [] zB ?_
         refine zG 65 (fun h47=>?_) (fun h47=>?_)
         ·refine J_g 134217716 [] [(2,bv false)] [] zB ?_
          exact zM rfl
         ·refine J_g 67108860 [] [(68,bv (x45 !=x28.1))] [] zB ?_
          refine zG 68 (fun h48=>?_) (fun h48=>?_)
          ·refine J_g 268435444 [] [(2,bv false)] [] zB ?_
           exact zM rfl
          ·refine J_g 67108862 [] [(2,bv true)] [] zB ?_
           exact zM rfl
    ·refine wT (fun h23=>?_) (fun h23=>?_)
     ·refine J_d 16380 [] [7,42] [(42,bv true)] [] [] (wE 2 [(36,bv (decide (x21.1<0)))] [] h23 zB) ?_
      exact yN (J_j (jv26 true)) rfl
     ·refine zA (fun x24 h25=>?_)
      refine J_d 16380 [] [7,42] [(42,bv (!x24))] [] [] (wE 2 [(36,bv (decide (x21.1<0)))] [] h23 (zBr 5 2 37 false (vQ («as»:=[.ag [iv x11.Code,iv x11.Choices,rr 9 x11.System.Catalog,rr 10 x11.System.zD.Files,iv x11.System.zD.Budget,iv x11.System.zD.Writes,iv x11.System.zD.Stop,bv x11.System.zD.Down],.ag [iv x7.Code,iv x7.Choices,rr 3 x7.System.Catalog,rr 4 x7.System.zD.Files,iv x7.System.zD.Budget,iv x7.System.zD.Writes,iv x7.System.zD.Stop,bv x7.System.zD.Down]]) [(.tmp 38),(.tmp 39)] [66,66] true [(9,rE 8 (Pack.enc true) x11.System.Catalog),(10,rE 2 (File.enc true) x11.System.zD.Files),(3,rE 8 (Pack.enc true) x7.System.Catalog),(4,rE 2 (File.enc true) x7.System.zD.Files)] [] (.cons (.ag (.cons (.same rfl) (.cons (.same rfl) (.cons (zFE (.head _) (Pack.ro true) rfl) (.cons (zFE (.tail _ (.head _)) (File.ro true) rfl) (.cons (.same rfl) (.cons (.same rfl) (.cons (.same rfl) (.cons (.same rfl) (.nil)))))))))) (.cons (.ag (.cons (.same rfl) (.cons (.same rfl) (.cons (zFE (.tail _ (.tail _ (.head _))) (Pack.ro true) rfl) (.cons (zFE (.tail _ (.tail _ (.tail _ (.head _)))) (File.ro true) rfl) (.cons (.same rfl) (.cons (.same rfl) (.cons (.same rfl) (.cons (.same rfl) (.nil)))))))))) (.nil))) (wL.ok x11 x7) h25 (.same rfl rfl) (hbor:=fun _=>⟨fhN,zQ⟩)) zB)) ?_
      exact yN (J_j (jv26 (!x24))) rfl
end Go.Told

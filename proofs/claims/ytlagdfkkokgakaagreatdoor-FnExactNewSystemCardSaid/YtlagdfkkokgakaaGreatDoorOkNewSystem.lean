import Derived.Test.YtlagdfkkokgakaaGreatDoorOkNewSystemx1
set_option linter.unusedVariables false
set_option maxRecDepth 4000
namespace Go.Told
open Go Go.Im Go.Proofs
noncomputable def c15:Code:=(Tryz.f15.body).getD .skip
theorem uR.ok (q:Wd) (kn:((List Pack)×Int)→Option (D×List Ent)) (hk:∀v:((List Pack)×Int),J (q.g Tryz.prog 15 1 73) c15 (atI c15 7) (St.mk' [(1,iv v.2)] [(0,rE 8 (Pack.enc true) v.1)]) (some v) kn):
  ∀s34:((List Pack)×Int×Int),J (q.g Tryz.prog 15 1 73) c15 (atI c15 52) (St.mk' [(0,rr 0 s34.1),(1,iv s34.2.1),(5,iv s34.2.2)] [(0,rE 8 (Pack.enc true) s34.1)]) (uR s34) kn:=by
 refine zAV (fun g ih s34=>?_)
 unfold vN
 refine J_d 208 [] [9] [(9,bv (decide (s34.2.2< (s34.1.length:Int))))] [] [] zB ?_
 refine zG 9 (fun h35=>?_) (fun h35=>?_)
 ·refine zA (fun x36 h37=>?_)
  refine zA (fun x38 h39=>?_)
  refine J_g 840 [] [(0,rr 0 s34.1),(1,iv s34.2.1),(5,iv s34.2.2)] [(0,rE 8 (Pack.enc true) (s34.1.set s34.2.2.toNat ({Name:=x36,Version:=x38.Version,Size:=x38.Size,Provides:=x38.Provides,Needs:=x38.Needs,Bars:=x38.Bars}:Pack)))] (zK 3 (xP [(.tmp 14)] [3] (zT.ok s34.2.1) h37) (zK 4 (zBk (kk:=.i64) 24 89 8 0 (Pack.enc true) (.tmp 12) (.tmp 13) h39) (zD3 6 (zEu (b:=({Name:=x36,Version:=x38.Version,Size:=x38.Size,Provides:=x38.Provides,Needs:=x38.Needs,Bars:=x38.Bars}:Pack)) 9 8 0 0 (Pack.enc true) (sv x36) (.tmp 17) (.tmp 15) h39 rfl) zB))) ?_
  refine zCj (σ':=St.mk' [(0,rr 0 (s34.1.set s34.2.2.toNat ({Name:=x36,Version:=x38.Version,Size:=x38.Size,Provides:=x38.Provides,Needs:=x38.Needs,Bars:=x38.Bars}:Pack))),(1,iv s34.2.1),(5,iv s34.2.2)] [(0,rE 8 (Pack.enc true) (s34.1.set s34.2.2.toNat ({Name:=x36,Version:=x38.Version,Size:=x38.Size,Provides:=x38.Provides,Needs:=x38.Needs,Bars:=x38.Bars}:Pack)))]) (by simp only [rr,List.length_set]) ?_
  refine J_d 1682 [] [1] [(1,iv (w64 (s34.2.1+1)))] [] [] zB ?_
  refine zA (fun x40 h41=>?_)
  refine J_g 3366 [] [(0,rr 0 (s34.1.set s34.2.2.toNat ({Name:=x36,Version:=x38.Version,Size:=x38.Size,Provides:=x38.Provides,Needs:=x38.Needs,Bars:=x38.Bars}:Pack))),(1,iv (w64 (s34.2.1+1))),(5,iv s34.2.2)] [(0,rE 8 (Pack.enc true) ((s34.1.set s34.2.2.toNat ({Name:=x36,Version:=x38.Version,Size:=x38.Size,Provides:=x38.Provides,Needs:=x38.Needs,Bars:=x38.Bars}:Pack)).set s34.2.2.toNat ({Name:=x40.Name,Version:=({A:=w64 (s34.2.1+1),B:=x40.Version.B,C:=x40.Version.C}:Version),Size:=x40.Size,Provides:=x40.Provides,Needs:=x40.Needs,Bars:=x40.Bars}:Pack)))] (zK 3 (zBk (kk:=.i64) 24 89 8 0 (Pack.enc true) (.tmp 20) (.tmp 21) h41) (zD3 6 (zEu (b:=({Name:=x40.Name,Version:=({A:=w64 (s34.2.1+1),B:=x40.Version.B,C:=x40.Version.C}:Version),Size:=x40.Size,Provides:=x40.Provides,Needs:=x40.Needs,Bars:=x40.Bars}:Pack)) 2 8 0 1 (Pack.enc true) (iv (w64 (s34.2.1+1))) (.tmp 25) (.tmp 22) h41 rfl) zB)) ?_
  refine zCj (σ':=St.mk' [(0,rr 0 ((s34.1.set s34.2.2.toNat ({Name:=x36,Version:=x38.Version,Size:=x38.Size,Provides:=x38.Provides,Needs:=x38.Needs,Bars:=x38.Bars}:Pack)).set s34.2.2.toNat ({Name:=x40.Name,Version:=({A:=w64 (s34.2.1+1),B:=x40.Version.B,C:=x40.Version.C}:Version),Size:=x40.Size,Provides:=x40.Provides,Needs:=x40.Needs,Bars:=x40.Bars}:Pack))),(1,iv (w64 (s34.2.1+1))),(5,iv s34.2.2)] [(0,rE 8 (Pack.enc true) ((s34.1.set s34.2.2.toNat ({Name:=x36,Version:=x38.Version,Size:=x38.Size,Provides:=x38.Provides,Needs:=x38.Needs,Bars:=x38.Bars}:Pack)).set s34.2.2.toNat ({Name:=x40.Name,Version:=({A:=w64 (s34.2.1+1),B:=x40.Version.B,C:=x40.Version.C}:Version),Size:=x40.Size,Provides:=x40.Provides,Needs:=x40.Needs,Bars:=x40.Bars}:Pack)))]) (by simp only [rr,List.length_set]) ?_
  refine J_d 6734 [] [1] [(1,iv (w64 ((w64 (s34.2.1+1))+1)))] [] [] zB ?_
  refine zA (fun x42 h43=>?_)
  refine J_g 13470 [] [(0,rr 0 ((s34.1.set s34.2.2.toNat ({Name:=x36,Version:=x38.Version,Size:=x38.Size,Provides:=x38.Provides,Needs:=x38.Needs,Bars:=x38.Bars}:Pack)).set s34.2.2.toNat ({Name:=x40.Name,Version:=({A:=w64 (s34.2.1+1),B:=x40.Version.B,C:=x40.Version.C}:Version),Size:=x40.Size,Provides:=x40.Provides,Needs:=x40.Needs,Bars:=x40.Bars}:Pack))),(1,iv (w64 ((w64 (s34.2.1+1))+1))),(5,iv s34.2.2)] [(0,rE 8 (Pack.enc true) (((s34.1.set s34.2.2.toNat ({Name:=x36,Version:=x38.Version,Size:=x38.Size,Provides:=x38.Provides,Needs:=x38.Needs,Bars:=x38.Bars}:Pack)).set s34.2.2.toNat ({Name:=x40.Name,Version:=({A:=w64 (s34.2.1+1),B:=x40.Version.B,C:=x40.Version.C}:Version),Size:=x40.Size,Provides:=x40.Provides,Needs:=x40.Needs,Bars:=x40.Bars}:Pack)).set s34.2.2.toNat ({Name:=x42.Name,Version:=({A:=x42.Version.A,B:=w64 ((w64 (s34.2.1+1))+1),C:=x42.Version.C}:Version),Size:=x42.Size,Provides:=x42.Provides,Needs:=x42.Needs,Bars:=x42.Bars}:Pack)))] (zK 3 (zBk (kk:=.i64) 24 89 8 0 (Pack.enc true) (.tmp 28) (.tmp 29) h43) (zD3 6 (zEu (b:=({Name:=x42.Name,Version:=({A:=x42.Version.A,B:=w64 ((w64 (s34.2.1+1))+1),C:=x42.Version.C}:Version),Size:=x42.Size,Provides:=x42.Provides,Needs:=x42.Needs,Bars:=x42.Bars}:Pack)) 2 8 0 2 (Pack.enc true) (iv (w64 ((w64 (s34.2.1+1))+1))) (.tmp 33) (.tmp 30) h43 rfl) zB)) ?_
  refine zCj (σ':=St.mk' [(0,rr 0 (((s34.1.set s34.2.2.toNat ({Name:=x36,Version:=x38.Version,Size:=x38.Size,Provides:=x38.Provides,Needs:=x38.Needs,Bars:=x38.Bars}:Pack)).set s34.2.2.toNat ({Name:=x40.Name,Version:=({A:=w64 (s34.2.1+1),B:=x40.Version.B,C:=x40.Version.C}:Version),Size:=x40.Size,Provides:=x40.Provides,Needs:=x40.Needs,Bars:=x40.Bars}:Pack)).set s34.2.2.toNat ({Name:=x42.Name,Version:=({A:=x42.Version.A,B:=w64 ((w64 (s34.2.1+1))+1),C:=x42.Version.C}:Version),Size:=x42.Size,Provides:=x42.Provides,Needs:=x42.Needs,Bars:=x42.Bars}:Pack))),(1,iv (w64 ((w64 (s34.2.1+1))+1))),(5,iv s34.2.2)] [(0,rE 8 (Pack.enc true) (((s34.1.set s34.2.2.toNat ({Name:=x36,Version:=x38.Version,Size:=x38.Size,Provides:=x38.Provides,Needs:=x38.Needs,Bars:=x38.Bars}:Pack)).set s34.2.2.toNat ({Name:=x40.Name,Version:=({A:=w64 (s34.2.1+1),B:=x40.Version.B,C:=x40.Version.C}:Version),Size:=x40.Size,Provides:=x40.Provides,Needs:=x40.Needs,Bars:=x40.Bars}:Pack)).set s34.2.2.toNat ({Name:=x42.Name,Version:=({A:=x42.Version.A,B:=w64 ((w64 (s34.2.1+1))+1),C:=x42.Version.C}:Version),Size:=x42.Size,Provides:=x42.Provides,Needs:=x42.Needs,Bars:=x42.Bars}:Pack)))]) (by simp only [rr,List.length_set]) ?_
  refine J_d 26942 [] [1] [(1,iv (w64 ((w64 ((w64 (s34.2.1+1))+1))+1)))] [] [] zB ?_
  refine zA (fun x44 h45=>?_)
  refine J_g 53886 [] [(0,rr 0 (((s34.1.set s34.2.2.toNat ({Name:=x36,Version:=x38.Version,Size:=x38.Size,Provides:=x38.Provides,Needs:=x38.Needs,Bars:=x38.Bars}:Pack)).set s34.2.2.toNat ({Name:=x40.Name,Version:=({A:=w64 (s34.2.1+1),B:=x40.Version.B,C:=x40.Version.C}:Version),Size:=x40.Size,Provides:=x40.Provides,Needs:=x40.Needs,Bars:=x40.Bars}:Pack)).set s34.2.2.toNat ({Name:=x42.Name,Version:=({A:=x42.Version.A,B:=w64 ((w64 (s34.2.1+1))+1),C:=x42.Version.C}:Version),Size:=x42.Size,Provides:=x42.Provides,Needs:=x42.Needs,Bars:=x42.Bars}:Pack))),(1,iv (w64 ((w64 ((w64 (s34.2.1+1))+1))+1))),(5,iv s34.2.2)] [(0,rE 8 (Pack.enc true) ((((s34.1.set s34.2.2.toNat ({Name:=x36,Version:=x38.Version,Size:=x38.Size,Provides:=x38.Provides,Needs:=x38.Needs,Bars:=x38.Bars}:Pack)).set s34.2.2.toNat ({Name:=x40.Name,Version:=({A:=w64 (s34.2.1+1),B:=x40.Version.B,C:=x40.Version.C}:Version),Size:=x40.Size,Provides:=x40.Provides,Needs:=x40.Needs,Bars:=x40.Bars}:Pack)).set s34.2.2.toNat ({Name:=x42.Name,Version:=({A:=x42.Version.A,B:=w64 ((w64 (s34.2.1+1))+1),C:=x42.Version.C}:Version),Size:=x42.Size,Provides:=x42.Provides,Needs:=x42.Needs,Bars:=x42.Bars}:Pack)).set s34.2.2.toNat ({Name:=x44.Name,Version:=({A:=x44.Version.A,B:=x44.Version.B,C:=w64 ((w64 ((w64 (s34.2.1+1))+1))+1)}:Version),Size:=x44.Size,Provides:=x44.Provides,Needs:=x44.Needs,Bars:=x44.Bars}:Pack)))] (zK 3 (zBk (kk:=.i64) 24 89 8 0 (Pack.enc true) (.tmp 36) (.tmp 37) h45) (zD3 6 (zEu (b:=({Name:=x44.Name,Version:=({A:=x44.Version.A,B:=x44.Version.B,C:=w64 ((w64 ((w64 (s34.2.1+1))+1))+1)}:Version),Size:=x44.Size,Provides:=x44.Provides,Needs:=x44.Needs,Bars:=x44.Bars}:Pack)) 2 8 0 3 (Pack.enc true) (iv (w64 ((w64 ((w64 (s34.2.1+1))+1))+1))) (.tmp 41) (.tmp 38) h45 rfl) zB)) ?_
  refine zCj (σ':=St.mk' [(0,rr 0 ((((s34.1.set s34.2.2.toNat ({Name:=x36,Version:=x38.Version,Size:=x38.Size,Provides:=x38.Provides,Needs:=x38.Needs,Bars:=x38.Bars}:Pack)).set s34.2.2.toNat ({Name:=x40.Name,Version:=({A:=w64 (s34.2.1+1),B:=x40.Version.B,C:=x40.Version.C}:Version),Size:=x40.Size,Provides:=x40.Provides,Needs:=x40.Needs,Bars:=x40.Bars}:Pack)).set s34.2.2.toNat ({Name:=x42.Name,Version:=({A:=x42.Version.A,B:=w64 ((w64 (s34.2.1+1))+1),C:=x42.Version.C}:Version),Size:=x42.Size,Provides:=x42.Provides,Needs:=x42.Needs,Bars:=x42.Bars}:Pack)).set s34.2.2.toNat ({Name:=x44.Name,Version:=({A:=x44.Version.A,B:=x44.Version.B,C:=w64 ((w64 ((w64 (s34.2.1+1))+1))+1)}:Version),Size:=x44.Size,Provides:=x44.Provides,Needs:=x44.Needs,Bars:=x44.Bars}:Pack))),(1,iv (w64 ((w64 ((w64 (s34.2.1+1))+1))+1))),(5,iv s34.2.2)] [(0,rE 8 (Pack.enc true) ((((s34.1.set s34.2.2.toNat ({Name:=x36,Version:=x38.Version,Size:=x38.Size,Provides:=x38.Provides,Needs:=x38.Needs,Bars:=x38.Bars}:Pack)).set s34.2.2.toNat ({Name:=x40.Name,Version:=({A:=w64 (s34.2.1+1),B:=x40.Version.B,C:=x40.Version.C}:Version),Size:=x40.Size,Provides:=x40.Provides,Needs:=x40.Needs,Bars:=x40.Bars}:Pack)).set s34.2.2.toNat ({Name:=x42.Name,Version:=({A:=x42.Version.A,B:=w64 ((w64 (s34.2.1+1))+1),C:=x42.Version.C}:Version),Size:=x42.Size,Provides:=x42.Provides,Needs:=x42.Needs,Bars:=x42.Bars}:Pack)).set s34.2.2.toNat ({Name:=x44.Name,Version:=({A:=x44.Version.A,B:=x44.Version.B,C:=w64 ((w64 ((w64 (s34.2.1+1))+1))+1)}:Version),Size:=x44.Size,Provides:=x44.Provides,Needs:=x44.Needs,Bars:=x44.Bars}:Pack)))]) (by simp only [rr,List.length_set]) ?_
  refine J_d 107774 [] [1] [(1,iv (w64 ((w64 ((w64 ((w64 (s34.2.1+1))+1))+1))+1)))] [] [] zB ?_
  refine zA (fun x46 h47=>?_)
  refine J_g 215550 [] [(0,rr 0 ((((s34.1.set s34.2.2.toNat ({Name:=x36,Version:=x38.Version,Size:=x38.Size,Provides:=x38.Provides,Needs:=x38.Needs,Bars:=x38.Bars}:Pack)).set s34.2.2.toNat ({Name:=x40.Name,Version:=({A:=w64 (s34.2.1+1),B:=x40.Version.B,C:=x40.Version.C}:Version),Size:=x40.Size,Provides:=x40.Provides,Needs:=x40.Needs,Bars:=x40.Bars}:Pack)).set s34.2.2.toNat ({Name:=x42.Name,Version:=({A:=x42.Version.A,B:=w64 ((w64 (s34.2.1+1))+1),C:=x42.Version.C}:Version),Size:=x42.Size,Provides:=x42.Provides,Needs:=x42.Needs,Bars:=x42.Bars}:Pack)).set s34.2.2.toNat ({Name:=x44.Name,Version:=({A:=x44.Version.A,B:=x44.Version.B,C:=w64 ((w64 ((w64 (s34.2.1+1))+1))+1)}:Version),Size:=x44.Size,Provides:=x44.Provides,Needs:=x44.Needs,Bars:=x44.Bars}:Pack))),(1,iv (w64 ((w64 ((w64 ((w64 (s34.2.1+1))+1))+1))+1))),(5,iv s34.2.2)] [(0,rE 8 (Pack.enc true) (((((s34.1.set s34.2.2.toNat ({Name:=x36,Version:=x38.Version,Size:=x38.Size,Provides:=x38.Provides,Needs:=x38.Needs,Bars:=x38.Bars}:Pack)).set s34.2.2.toNat ({Name:=x40.Name,Version:=({A:=w64 (s34.2.1+1),B:=x40.Version.B,C:=x40.Version.C}:Version),Size:=x40.Size,Provides:=x40.Provides,Needs:=x40.Needs,Bars:=x40.Bars}:Pack)).set s34.2.2.toNat ({Name:=x42.Name,Version:=({A:=x42.Version.A,B:=w64 ((w64 (s34.2.1+1))+1),C:=x42.Version.C}:Version),Size:=x42.Size,Provides:=x42.Provides,Needs:=x42.Needs,Bars:=x42.Bars}:Pack)).set s34.2.2.toNat ({Name:=x44.Name,Version:=({A:=x44.Version.A,B:=x44.Version.B,C:=w64 ((w64 ((w64 (s34.2.1+1))+1))+1)}:Version),Size:=x44.Size,Provides:=x44.Provides,Needs:=x44.Needs,Bars:=x44.Bars}:Pack)).set s34.2.2.toNat ({Name:=x46.Name,Version:=x46.Version,Size:=w64 ((w64 ((w64 ((w64 (s34.2.1+1))+1))+1))+1),Provides:=x46.Provides,Needs:=x46.Needs,Bars:=x46.Bars}:Pack)))] (zK 3 (zBk (kk:=.i64) 24 89 8 0 (Pack.enc true) (.tmp 44) (.tmp 45) h47) (zD3 5 (zEu (b:=({Name:=x46.Name,Version:=x46.Version,Size:=w64 ((w64 ((w64 ((w64 (s34.2.1+1))+1))+1))+1),Provides:=x46.Provides,Needs:=x46.Needs,Bars:=x46.Bars}:Pack)) 2 8 0 4 (Pack.enc true) (iv (w64 ((w64 ((w64 ((w64 (s34.2.1+1))+1))+1))+1))) (.tmp 48) (.tmp 46) h47 rfl) zB)) ?_
  refine zCj (σ':=St.mk' [(0,rr 0 (((((s34.1.set s34.2.2.toNat ({Name:=x36,Version:=x38.Version,Size:=x38.Size,Provides:=x38.Provides,Needs:=x38.Needs,Bars:=x38.Bars}:Pack)).set s34.2.2.toNat ({Name:=x40.Name,Version:=({A:=w64 (s34.2.1+1),B:=x40.Version.B,C:=x40.Version.C}:Version),Size:=x40.Size,Provides:=x40.Provides,Needs:=x40.Needs,Bars:=x40.Bars}:Pack)).set s34.2.2.toNat ({Name:=x42.Name,Version:=({A:=x42.Version.A,B:=w64 ((w64 (s34.2.1+1))+1),C:=x42.Version.C}:Version),Size:=x42.Size,Provides:=x42.Provides,Needs:=x42.Needs,Bars:=x42.Bars}:Pack)).set s34.2.2.toNat ({Name:=x44.Name,Version:=({A:=x44.Version.A,B:=x44.Version.B,C:=w64 ((w64 ((w64 (s34.2.1+1))+1))+1)}:Version),Size:=x44.Size,Provides:=x44.Provides,Needs:=x44.Needs,Bars:=x44.Bars}:Pack)).set s34.2.2.toNat ({Name:=x46.Name,Version:=x46.Version,Size:=w64 ((w64 ((w64 ((w64 (s34.2.1+1))+1))+1))+1),Provides:=x46.Provides,Needs:=x46.Needs,Bars:=x46.Bars}:Pack))),(1,iv (w64 ((w64 ((w64 ((w64 (s34.2.1+1))+1))+1))+1))),(5,iv s34.2.2)] [(0,rE 8 (Pack.enc true) (((((s34.1.set s34.2.2.toNat ({Name:=x36,Version:=x38.Version,Size:=x38.Size,Provides:=x38.Provides,Needs:=x38.Needs,Bars:=x38.Bars}:Pack)).set s34.2.2.toNat ({Name:=x40.Name,Version:=({A:=w64 (s34.2.1+1),B:=x40.Version.B,C:=x40.Version.C}:Version),Size:=x40.Size,Provides:=x40.Provides,Needs:=x40.Needs,Bars:=x40.Bars}:Pack)).set s34.2.2.toNat ({Name:=x42.Name,Version:=({A:=x42.Version.A,B:=w64 ((w64 (s34.2.1+1))+1),C:=x42.Version.C}:Version),Size:=x42.Size,Provides:=x42.Provides,Needs:=x42.Needs,Bars:=x42.Bars}:Pack)).set s34.2.2.toNat ({Name:=x44.Name,Version:=({A:=x44.Version.A,B:=x44.Version.B,C:=w64 ((w64 ((w64 (s34.2.1+1))+1))+1)}:Version),Size:=x44.Size,Provides:=x44.Provides,Needs:=x44.Needs,Bars:=x44.Bars}:Pack)).set s34.2.2.toNat ({Name:=x46.Name,Version:=x46.Version,Size:=w64 ((w64 ((w64 ((w64 (s34.2.1+1))+1))+1))+1),Provides:=x46.Provides,Needs:=x46.Needs,Bars:=x46.Bars}:Pack)))]) (by simp only [rr,List.length_set]) ?_
  refine J_d 431102 [] [1] [(1,iv (w64 ((w64 ((w64 ((w64 ((w64 (s34.2.1+1))+1))+1))+1))+1)))] [] [] zB ?_
  refine zA (fun x48 h49=>?_)
  refine zCY (ix:=s34.2.2) (enc:=(Pack.enc true)) 0 5 1 h49 rfl rfl (by kernel_rfl) ?_
  refine zDr [(0,rr 0 (((((s34.1.set s34.2.2.toNat ({Name:=x36,Version:=x38.Version,Size:=x38.Size,Provides:=x38.Provides,Needs:=x38.Needs,Bars:=x38.Bars}:Pack)).set s34.2.2.toNat ({Name:=x40.Name,Version:=({A:=w64 (s34.2.1+1),B:=x40.Version.B,C:=x40.Version.C}:Version),Size:=x40.Size,Provides:=x40.Provides,Needs:=x40.Needs,Bars:=x40.Bars}:Pack)).set s34.2.2.toNat ({Name:=x42.Name,Version:=({A:=x42.Version.A,B:=w64 ((w64 (s34.2.1+1))+1),C:=x42.Version.C}:Version),Size:=x42.Size,Provides:=x42.Provides,Needs:=x42.Needs,Bars:=x42.Bars}:Pack)).set s34.2.2.toNat ({Name:=x44.Name,Version:=({A:=x44.Version.A,B:=x44.Version.B,C:=w64 ((w64 ((w64 (s34.2.1+1))+1))+1)}:Version),Size:=x44.Size,Provides:=x44.Provides,Needs:=x44.Needs,Bars:=x44.Bars}:Pack)).set s34.2.2.toNat ({Name:=x46.Name,Version:=x46.Version,Size:=w64 ((w64 ((w64 ((w64 (s34.2.1+1))+1))+1))+1),Provides:=x46.Provides,Needs:=x46.Needs,Bars:=x46.Bars}:Pack))),(1,iv (w64 ((w64 ((w64 ((w64 ((w64 (s34.2.1+1))+1))+1))+1))+1))),(5,iv s34.2.2)] [(0,.lent 8 ((((((s34.1.set s34.2.2.toNat ({Name:=x36,Version:=x38.Version,Size:=x38.Size,Provides:=x38.Provides,Needs:=x38.Needs,Bars:=x38.Bars}:Pack)).set s34.2.2.toNat ({Name:=x40.Name,Version:=({A:=w64 (s34.2.1+1),B:=x40.Version.B,C:=x40.Version.C}:Version),Size:=x40.Size,Provides:=x40.Provides,Needs:=x40.Needs,Bars:=x40.Bars}:Pack)).set s34.2.2.toNat ({Name:=x42.Name,Version:=({A:=x42.Version.A,B:=w64 ((w64 (s34.2.1+1))+1),C:=x42.Version.C}:Version),Size:=x42.Size,Provides:=x42.Provides,Needs:=x42.Needs,Bars:=x42.Bars}:Pack)).set s34.2.2.toNat ({Name:=x44.Name,Version:=({A:=x44.Version.A,B:=x44.Version.B,C:=w64 ((w64 ((w64 (s34.2.1+1))+1))+1)}:Version),Size:=x44.Size,Provides:=x44.Provides,Needs:=x44.Needs,Bars:=x44.Bars}:Pack)).set s34.2.2.toNat ({Name:=x46.Name,Version:=x46.Version,Size:=w64 ((w64 ((w64 ((w64 (s34.2.1+1))+1))+1))+1),Provides:=x46.Provides,Needs:=x46.Needs,Bars:=x46.Bars}:Pack)).map (Pack.enc true)) s34.2.2.toNat 5 1 x48.Provides.length),(1,rE 1 eStr x48.Provides)] (by kernel_rfl) ?_
  refine zA (fun x50 h51=>?_)
  refine J_g 862206 [] [(0,rr 0 (((((s34.1.set s34.2.2.toNat ({Name:=x36,Version:=x38.Version,Size:=x38.Size,Provides:=x38.Provides,Needs:=x38.Needs,Bars:=x38.Bars}:Pack)).set s34.2.2.toNat ({Name:=x40.Name,Version:=({A:=w64 (s34.2.1+1),B:=x40.Version.B,C:=x40.Version.C}:Version),Size:=x40.Size,Provides:=x40.Provides,Needs:=x40.Needs,Bars:=x40.Bars}:Pack)).set s34.2.2.toNat ({Name:=x42.Name,Version:=({A:=x42.Version.A,B:=w64 ((w64 (s34.2.1+1))+1),C:=x42.Version.C}:Version),Size:=x42.Size,Provides:=x42.Provides,Needs:=x42.Needs,Bars:=x42.Bars}:Pack)).set s34.2.2.toNat ({Name:=x44.Name,Version:=({A:=x44.Version.A,B:=x44.Version.B,C:=w64 ((w64 ((w64 (s34.2.1+1))+1))+1)}:Version),Size:=x44.Size,Provides:=x44.Provides,Needs:=x44.Needs,Bars:=x44.Bars}:Pack)).set s34.2.2.toNat ({Name:=x46.Name,Version:=x46.Version,Size:=w64 ((w64 ((w64 ((w64 (s34.2.1+1))+1))+1))+1),Provides:=x46.Provides,Needs:=x46.Needs,Bars:=x46.Bars}:Pack))),(1,iv x50.1),(5,iv s34.2.2)] [(0,.lent 8 ((((((s34.1.set s34.2.2.toNat ({Name:=x36,Version:=x38.Version,Size:=x38.Size,Provides:=x38.Provides,Needs:=x38.Needs,Bars:=x38.Bars}:Pack)).set s34.2.2.toNat ({Name:=x40.Name,Version:=({A:=w64 (s34.2.1+1),B:=x40.Version.B,C:=x40.Version.C}:Version),Size:=x40.Size,Provides:=x40.Provides,Needs:=x40.Needs,Bars:=x40.Bars}:Pack)).set s34.2.2.toNat ({Name:=x42.Name,Version:=({A:=x42.Version.A,B:=w64 ((w64 (s34.2.1+1))+1),C:=x42.Version.C}:Version),Size:=x42.Size,Provides:=x42.Provides,Needs:=x42.Needs,Bars:=x42.Bars}:Pack)).set s34.2.2.toNat ({Name:=x44.Name,Version:=({A:=x44.Version.A,B:=x44.Version.B,C:=w64 ((w64 ((w64 (s34.2.1+1))+1))+1)}:Version),Size:=x44.Size,Provides:=x44.Provides,Needs:=x44.Needs,Bars:=x44.Bars}:Pack)).set s34.2.2.toNat ({Name:=x46.Name,Version:=x46.Version,Size:=w64 ((w64 ((w64 ((w64 (s34.2.1+1))+1))+1))+1),Provides:=x46.Provides,Needs:=x46.Needs,Bars:=x46.Bars}:Pack)).map (Pack.enc true)) s34.2.2.toNat 5 1 x48.Provides.length),(1,rE 1 eStr x50.2)] (zK 2 (zGn (kk:=.i64) 24 89 8 0 (Pack.enc true) (.tmp 51) (.tmp 52) s34.2.2.toNat 5 1 x48.Provides.length h49) (zK 4 (zGA 70 0 (.tmp 54) 8 (Pack.enc true) (((((s34.1.set s34.2.2.toNat ({Name:=x36,Version:=x38.Version,Size:=x38.Size,Provides:=x38.Provides,Needs:=x38.Needs,Bars:=x38.Bars}:Pack)).set s34.2.2.toNat ({Name:=x40.Name,Version:=({A:=w64 (s34.2.1+1),B:=x40.Version.B,C:=x40.Version.C}:Version),Size:=x40.Size,Provides:=x40.Provides,Needs:=x40.Needs,Bars:=x40.Bars}:Pack)).set s34.2.2.toNat ({Name:=x42.Name,Version:=({A:=x42.Version.A,B:=w64 ((w64 (s34.2.1+1))+1),C:=x42.Version.C}:Version),Size:=x42.Size,Provides:=x42.Provides,Needs:=x42.Needs,Bars:=x42.Bars}:Pack)).set s34.2.2.toNat ({Name:=x44.Name,Version:=({A:=x44.Version.A,B:=x44.Version.B,C:=w64 ((w64 ((w64 (s34.2.1+1))+1))+1)}:Version),Size:=x44.Size,Provides:=x44.Provides,Needs:=x44.Needs,Bars:=x44.Bars}:Pack)).set s34.2.2.toNat ({Name:=x46.Name,Version:=x46.Version,Size:=w64 ((w64 ((w64 ((w64 (s34.2.1+1))+1))+1))+1),Provides:=x46.Provides,Needs:=x46.Needs,Bars:=x46.Bars}:Pack)) s34.2.2.toNat 5 1 x48.Provides.length) (zK 6 (zAQ («as»:=[rr 1 x48.Provides,iv (w64 ((w64 ((w64 ((w64 ((w64 (s34.2.1+1))+1))+1))+1))+1))]) [(.tmp 55),(.tmp 56)] [70,3] false [(1,rE 1 eStr x48.Provides)] [1] (.cons (.rf rfl) (.cons (.same rfl) (.nil))) (xU.ok x48.Provides (w64 ((w64 ((w64 ((w64 ((w64 (s34.2.1+1))+1))+1))+1))+1))) h51 (.same rfl rfl)) zB))) ?_
  refine zA (fun u52 h53=>?_)
  refine zCJ (ix:=s34.2.2) (enc:=(Pack.enc true)) (b:=({Name:=x48.Name,Version:=x48.Version,Size:=x48.Size,Provides:=x50.2,Needs:=x48.Needs,Bars:=x48.Bars}:Pack)) 0 5 1 h49 rfl rfl rfl rfl (zAp h53) (Nat.le_of_ble_eq_true rfl) ((List.length_map _).trans (zAp h53)) ?_
  refine zDr [(0,rr 0 (((((s34.1.set s34.2.2.toNat ({Name:=x36,Version:=x38.Version,Size:=x38.Size,Provides:=x38.Provides,Needs:=x38.Needs,Bars:=x38.Bars}:Pack)).set s34.2.2.toNat ({Name:=x40.Name,Version:=({A:=w64 (s34.2.1+1),B:=x40.Version.B,C:=x40.Version.C}:Version),Size:=x40.Size,Provides:=x40.Provides,Needs:=x40.Needs,Bars:=x40.Bars}:Pack)).set s34.2.2.toNat ({Name:=x42.Name,Version:=({A:=x42.Version.A,B:=w64 ((w64 (s34.2.1+1))+1),C:=x42.Version.C}:Version),Size:=x42.Size,Provides:=x42.Provides,Needs:=x42.Needs,Bars:=x42.Bars}:Pack)).set s34.2.2.toNat ({Name:=x44.Name,Version:=({A:=x44.Version.A,B:=x44.Version.B,C:=w64 ((w64 ((w64 (s34.2.1+1))+1))+1)}:Version),Size:=x44.Size,Provides:=x44.Provides,Needs:=x44.Needs,Bars:=x44.Bars}:Pack)).set s34.2.2.toNat ({Name:=x46.Name,Version:=x46.Version,Size:=w64 ((w64 ((w64 ((w64 (s34.2.1+1))+1))+1))+1),Provides:=x46.Provides,Needs:=x46.Needs,Bars:=x46.Bars}:Pack))),(1,iv x50.1),(5,iv s34.2.2)] [(0,rE 8 (Pack.enc true) ((((((s34.1.set s34.2.2.toNat ({Name:=x36,Version:=x38.Version,Size:=x38.Size,Provides:=x38.Provides,Needs:=x38.Needs,Bars:=x38.Bars}:Pack)).set s34.2.2.toNat ({Name:=x40.Name,Version:=({A:=w64 (s34.2.1+1),B:=x40.Version.B,C:=x40.Version.C}:Version),Size:=x40.Size,Provides:=x40.Provides,Needs:=x40.Needs,Bars:=x40.Bars}:Pack)).set s34.2.2.toNat ({Name:=x42.Name,Version:=({A:=x42.Version.A,B:=w64 ((w64 (s34.2.1+1))+1),C:=x42.Version.C}:Version),Size:=x42.Size,Provides:=x42.Provides,Needs:=x42.Needs,Bars:=x42.Bars}:Pack)).set s34.2.2.toNat ({Name:=x44.Name,Version:=({A:=x44.Version.A,B:=x44.Version.B,C:=w64 ((w64 ((w64 (s34.2.1+1))+1))+1)}:Version),Size:=x44.Size,Provides:=x44.Provides,Needs:=x44.Needs,Bars:=x44.Bars}:Pack)).set s34.2.2.toNat ({Name:=x46.Name,Version:=x46.Version,Size:=w64 ((w64 ((w64 ((w64 (s34.2.1+1))+1))+1))+1),Provides:=x46.Provides,Needs:=x46.Needs,Bars:=x46.Bars}:Pack)).set s34.2.2.toNat ({Name:=x48.Name,Version:=x48.Version,Size:=x48.Size,Provides:=x50.2,Needs:=x48.Needs,Bars:=x48.Bars}:Pack)))] (by kernel_rfl) ?_
  refine zCj (σ':=St.mk' [(0,rr 0 ((((((s34.1.set s34.2.2.toNat ({Name:=x36,Version:=x38.Version,Size:=x38.Size,Provides:=x38.Provides,Needs:=x38.Needs,Bars:=x38.Bars}:Pack)).set s34.2.2.toNat ({Name:=x40.Name,Version:=({A:=w64 (s34.2.1+1),B:=x40.Version.B,C:=x40.Version.C}:Version),Size:=x40.Size,Provides:=x40.Provides,Needs:=x40.Needs,Bars:=x40.Bars}:Pack)).set s34.2.2.toNat ({Name:=x42.Name,Version:=({A:=x42.Version.A,B:=w64 ((w64 (s34.2.1+1))+1),C:=x42.Version.C}:Version),Size:=x42.Size,Provides:=x42.Provides,Needs:=x42.Needs,Bars:=x42.Bars}:Pack)).set s34.2.2.toNat ({Name:=x44.Name,Version:=({A:=x44.Version.A,B:=x44.Version.B,C:=w64 ((w64 ((w64 (s34.2.1+1))+1))+1)}:Version),Size:=x44.Size,Provides:=x44.Provides,Needs:=x44.Needs,Bars:=x44.Bars}:Pack)).set s34.2.2.toNat ({Name:=x46.Name,Version:=x46.Version,Size:=w64 ((w64 ((w64 ((w64 (s34.2.1+1))+1))+1))+1),Provides:=x46.Provides,Needs:=x46.Needs,Bars:=x46.Bars}:Pack)).set s34.2.2.toNat ({Name:=x48.Name,Version:=x48.Version,Size:=x48.Size,Provides:=x50.2,Needs:=x48.Needs,Bars:=x48.Bars}:Pack))),(1,iv x50.1),(5,iv s34.2.2)] [(0,rE 8 (Pack.enc true) ((((((s34.1.set s34.2.2.toNat ({Name:=x36,Version:=x38.Version,Size:=x38.Size,Provides:=x38.Provides,Needs:=x38.Needs,Bars:=x38.Bars}:Pack)).set s34.2.2.toNat ({Name:=x40.Name,Version:=({A:=w64 (s34.2.1+1),B:=x40.Version.B,C:=x40.Version.C}:Version),Size:=x40.Size,Provides:=x40.Provides,Needs:=x40.Needs,Bars:=x40.Bars}:Pack)).set s34.2.2.toNat ({Name:=x42.Name,Version:=({A:=x42.Version.A,B:=w64 ((w64 (s34.2.1+1))+1),C:=x42.Version.C}:Version),Size:=x42.Size,Provides:=x42.Provides,Needs:=x42.Needs,Bars:=x42.Bars}:Pack)).set s34.2.2.toNat ({Name:=x44.Name,Version:=({A:=x44.Version.A,B:=x44.Version.B,C:=w64 ((w64 ((w64 (s34.2.1+1))+1))+1)}:Version),Size:=x44.Size,Provides:=x44.Provides,Needs:=x44.Needs,Bars:=x44.Bars}:Pack)).set s34.2.2.toNat ({Name:=x46.Name,Version:=x46.Version,Size:=w64 ((w64 ((w64 ((w64 (s34.2.1+1))+1))+1))+1),Provides:=x46.Provides,Needs:=x46.Needs,Bars:=x46.Bars}:Pack)).set s34.2.2.toNat ({Name:=x48.Name,Version:=x48.Version,Size:=x48.Size,Provides:=x50.2,Needs:=x48.Needs,Bars:=x48.Bars}:Pack)))]) (by simp only [rr,List.length_set]) ?_
  refine zA (fun x54 h55=>?_)
  refine zCY (ix:=s34.2.2) (enc:=(Pack.enc true)) 0 6 1 h55 rfl rfl (by kernel_rfl) ?_
  refine zDr [(0,rr 0 ((((((s34.1.set s34.2.2.toNat ({Name:=x36,Version:=x38.Version,Size:=x38.Size,Provides:=x38.Provides,Needs:=x38.Needs,Bars:=x38.Bars}:Pack)).set s34.2.2.toNat ({Name:=x40.Name,Version:=({A:=w64 (s34.2.1+1),B:=x40.Version.B,C:=x40.Version.C}:Version),Size:=x40.Size,Provides:=x40.Provides,Needs:=x40.Needs,Bars:=x40.Bars}:Pack)).set s34.2.2.toNat ({Name:=x42.Name,Version:=({A:=x42.Version.A,B:=w64 ((w64 (s34.2.1+1))+1),C:=x42.Version.C}:Version),Size:=x42.Size,Provides:=x42.Provides,Needs:=x42.Needs,Bars:=x42.Bars}:Pack)).set s34.2.2.toNat ({Name:=x44.Name,Version:=({A:=x44.Version.A,B:=x44.Version.B,C:=w64 ((w64 ((w64 (s34.2.1+1))+1))+1)}:Version),Size:=x44.Size,Provides:=x44.Provides,Needs:=x44.Needs,Bars:=x44.Bars}:Pack)).set s34.2.2.toNat ({Name:=x46.Name,Version:=x46.Version,Size:=w64 ((w64 ((w64 ((w64 (s34.2.1+1))+1))+1))+1),Provides:=x46.Provides,Needs:=x46.Needs,Bars:=x46.Bars}:Pack)).set s34.2.2.toNat ({Name:=x48.Name,Version:=x48.Version,Size:=x48.Size,Provides:=x50.2,Needs:=x48.Needs,Bars:=x48.Bars}:Pack))),(1,iv x50.1),(5,iv s34.2.2)] [(0,.lent 8 (((((((s34.1.set s34.2.2.toNat ({Name:=x36,Version:=x38.Version,Size:=x38.Size,Provides:=x38.Provides,Needs:=x38.Needs,Bars:=x38.Bars}:Pack)).set s34.2.2.toNat ({Name:=x40.Name,Version:=({A:=w64 (s34.2.1+1),B:=x40.Version.B,C:=x40.Version.C}:Version),Size:=x40.Size,Provides:=x40.Provides,Needs:=x40.Needs,Bars:=x40.Bars}:Pack)).set s34.2.2.toNat ({Name:=x42.Name,Version:=({A:=x42.Version.A,B:=w64 ((w64 (s34.2.1+1))+1),C:=x42.Version.C}:Version),Size:=x42.Size,Provides:=x42.Provides,Needs:=x42.Needs,Bars:=x42.Bars}:Pack)).set s34.2.2.toNat ({Name:=x44.Name,Version:=({A:=x44.Version.A,B:=x44.Version.B,C:=w64 ((w64 ((w64 (s34.2.1+1))+1))+1)}:Version),Size:=x44.Size,Provides:=x44.Provides,Needs:=x44.Needs,Bars:=x44.Bars}:Pack)).set s34.2.2.toNat ({Name:=x46.Name,Version:=x46.Version,Size:=w64 ((w64 ((w64 ((w64 (s34.2.1+1))+1))+1))+1),Provides:=x46.Provides,Needs:=x46.Needs,Bars:=x46.Bars}:Pack)).set s34.2.2.toNat ({Name:=x48.Name,Version:=x48.Version,Size:=x48.Size,Provides:=x50.2,Needs:=x48.Needs,Bars:=x48.Bars}:Pack)).map (Pack.enc true)) s34.2.2.toNat 6 1 x54.Needs.length),(1,rE 1 (eSl true 7 Term.enc) x54.Needs)] (by kernel_rfl) ?_
  refine zA (fun x56 h57=>?_)
  refine J_g 1724414 [] [(0,rr 0 ((((((s34.1.set s34.2.2.toNat ({Name:=x36,Version:=x38.Version,Size:=x38.Size,Provides:=x38.Provides,Needs:=x38.Needs,Bars:=x38.Bars}:Pack)).set s34.2.2.toNat ({Name:=x40.Name,Version:=({A:=w64 (s34.2.1+1),B:=x40.Version.B,C:=x40.Version.C}:Version),Size:=x40.Size,Provides:=x40.Provides,Needs:=x40.Needs,Bars:=x40.Bars}:Pack)).set s34.2.2.toNat ({Name:=x42.Name,Version:=({A:=x42.Version.A,B:=w64 ((w64 (s34.2.1+1))+1),C:=x42.Version.C}:Version),Size:=x42.Size,Provides:=x42.Provides,Needs:=x42.Needs,Bars:=x42.Bars}:Pack)).set s34.2.2.toNat ({Name:=x44.Name,Version:=({A:=x44.Version.A,B:=x44.Version.B,C:=w64 ((w64 ((w64 (s34.2.1+1))+1))+1)}:Version),Size:=x44.Size,Provides:=x44.Provides,Needs:=x44.Needs,Bars:=x44.Bars}:Pack)).set s34.2.2.toNat ({Name:=x46.Name,Version:=x46.Version,Size:=w64 ((w64 ((w64 ((w64 (s34.2.1+1))+1))+1))+1),Provides:=x46.Provides,Needs:=x46.Needs,Bars:=x46.Bars}:Pack)).set s34.2.2.toNat ({Name:=x48.Name,Version:=x48.Version,Size:=x48.Size,Provides:=x50.2,Needs:=x48.Needs,Bars:=x48.Bars}:Pack))),(1,iv x56.1),(5,iv s34.2.2)] [(0,.lent 8 (((((((s34.1.set s34.2.2.toNat ({Name:=x36,Version:=x38.Version,Size:=x38.Size,Provides:=x38.Provides,Needs:=x38.Needs,Bars:=x38.Bars}:Pack)).set s34.2.2.toNat ({Name:=x40.Name,Version:=({A:=w64 (s34.2.1+1),B:=x40.Version.B,C:=x40.Version.C}:Version),Size:=x40.Size,Provides:=x40.Provides,Needs:=x40.Needs,Bars:=x40.Bars}:Pack)).set s34.2.2.toNat ({Name:=x42.Name,Version:=({A:=x42.Version.A,B:=w64 ((w64 (s34.2.1+1))+1),C:=x42.Version.C}:Version),Size:=x42.Size,Provides:=x42.Provides,Needs:=x42.Needs,Bars:=x42.Bars}:Pack)).set s34.2.2.toNat ({Name:=x44.Name,Version:=({A:=x44.Version.A,B:=x44.Version.B,C:=w64 ((w64 ((w64 (s34.2.1+1))+1))+1)}:Version),Size:=x44.Size,Provides:=x44.Provides,Needs:=x44.Needs,Bars:=x44.Bars}:Pack)).set s34.2.2.toNat ({Name:=x46.Name,Version:=x46.Version,Size:=w64 ((w64 ((w64 ((w64 (s34.2.1+1))+1))+1))+1),Provides:=x46.Provides,Needs:=x46.Needs,Bars:=x46.Bars}:Pack)).set s34.2.2.toNat ({Name:=x48.Name,Version:=x48.Version,Size:=x48.Size,Provides:=x50.2,Needs:=x48.Needs,Bars:=x48.Bars}:Pack)).map (Pack.enc true)) s34.2.2.toNat 6 1 x54.Needs.length),(1,rE 1 (eSl true 7 Term.enc) x56.2)] (zK 2 (zGn (kk:=.i64) 24 89 8 0 (Pack.enc true) (.tmp 58) (.tmp 59) s34.2.2.toNat 6 1 x54.Needs.length h55) (zK 4 (zGA 87 0 (.tmp 61) 8 (Pack.enc true) ((((((s34.1.set s34.2.2.toNat ({Name:=x36,Version:=x38.Version,Size:=x38.Size,Provides:=x38.Provides,Needs:=x38.Needs,Bars:=x38.Bars}:Pack)).set s34.2.2.toNat ({Name:=x40.Name,Version:=({A:=w64 (s34.2.1+1),B:=x40.Version.B,C:=x40.Version.C}:Version),Size:=x40.Size,Provides:=x40.Provides,Needs:=x40.Needs,Bars:=x40.Bars}:Pack)).set s34.2.2.toNat ({Name:=x42.Name,Version:=({A:=x42.Version.A,B:=w64 ((w64 (s34.2.1+1))+1),C:=x42.Version.C}:Version),Size:=x42.Size,Provides:=x42.Provides,Needs:=x42.Needs,Bars:=x42.Bars}:Pack)).set s34.2.2.toNat ({Name:=x44.Name,Version:=({A:=x44.Version.A,B:=x44.Version.B,C:=w64 ((w64 ((w64 (s34.2.1+1))+1))+1)}:Version),Size:=x44.Size,Provides:=x44.Provides,Needs:=x44.Needs,Bars:=x44.Bars}:Pack)).set s34.2.2.toNat ({Name:=x46.Name,Version:=x46.Version,Size:=w64 ((w64 ((w64 ((w64 (s34.2.1+1))+1))+1))+1),Provides:=x46.Provides,Needs:=x46.Needs,Bars:=x46.Bars}:Pack)).set s34.2.2.toNat ({Name:=x48.Name,Version:=x48.Version,Size:=x48.Size,Provides:=x50.2,Needs:=x48.Needs,Bars:=x48.Bars}:Pack)) s34.2.2.toNat 6 1 x54.Needs.length) (zK 6 (zAQ («as»:=[rr 1 x54.Needs,iv x50.1]) [(.tmp 62),(.tmp 63)] [87,3] false [(1,rE 1 (eSl true 7 Term.enc) x54.Needs)] [1] (.cons (.rf rfl) (.cons (.same rfl) (.nil))) (wG.ok x54.Needs x50.1) h57 (.same rfl rfl)) zB))) ?_
  refine zA (fun u58 h59=>?_)
  refine zCJ (ix:=s34.2.2) (enc:=(Pack.enc true)) (b:=({Name:=x54.Name,Version:=x54.Version,Size:=x54.Size,Provides:=x54.Provides,Needs:=x56.2,Bars:=x54.Bars}:Pack)) 0 6 1 h55 rfl rfl rfl rfl (zAp h59) (Nat.le_of_ble_eq_true rfl) ((List.length_map _).trans (zAp h59)) ?_
  refine zDr [(0,rr 0 ((((((s34.1.set s34.2.2.toNat ({Name:=x36,Version:=x38.Version,Size:=x38.Size,Provides:=x38.Provides,Needs:=x38.Needs,Bars:=x38.Bars}:Pack)).set s34.2.2.toNat ({Name:=x40.Name,Version:=({A:=w64 (s34.2.1+1),B:=x40.Version.B,C:=x40.Version.C}:Version),Size:=x40.Size,Provides:=x40.Provides,Needs:=x40.Needs,Bars:=x40.Bars}:Pack)).set s34.2.2.toNat ({Name:=x42.Name,Version:=({A:=x42.Version.A,B:=w64 ((w64 (s34.2.1+1))+1),C:=x42.Version.C}:Version),Size:=x42.Size,Provides:=x42.Provides,Needs:=x42.Needs,Bars:=x42.Bars}:Pack)).set s34.2.2.toNat ({Name:=x44.Name,Version:=({A:=x44.Version.A,B:=x44.Version.B,C:=w64 ((w64 ((w64 (s34.2.1+1))+1))+1)}:Version),Size:=x44.Size,Provides:=x44.Provides,Needs:=x44.Needs,Bars:=x44.Bars}:Pack)).set s34.2.2.toNat ({Name:=x46.Name,Version:=x46.Version,Size:=w64 ((w64 ((w64 ((w64 (s34.2.1+1))+1))+1))+1),Provides:=x46.Provides,Needs:=x46.Needs,Bars:=x46.Bars}:Pack)).set s34.2.2.toNat ({Name:=x48.Name,Version:=x48.Version,Size:=x48.Size,Provides:=x50.2,Needs:=x48.Needs,Bars:=x48.Bars}:Pack))),(1,iv x56.1),(5,iv s34.2.2)] [(0,rE 8 (Pack.enc true) (((((((s34.1.set s34.2.2.toNat ({Name:=x36,Version:=x38.Version,Size:=x38.Size,Provides:=x38.Provides,Needs:=x38.Needs,Bars:=x38.Bars}:Pack)).set s34.2.2.toNat ({Name:=x40.Name,Version:=({A:=w64 (s34.2.1+1),B:=x40.Version.B,C:=x40.Version.C}:Version),Size:=x40.Size,Provides:=x40.Provides,Needs:=x40.Needs,Bars:=x40.Bars}:Pack)).set s34.2.2.toNat ({Name:=x42.Name,Version:=({A:=x42.Version.A,B:=w64 ((w64 (s34.2.1+1))+1),C:=x42.Version.C}:Version),Size:=x42.Size,Provides:=x42.Provides,Needs:=x42.Needs,Bars:=x42.Bars}:Pack)).set s34.2.2.toNat ({Name:=x44.Name,Version:=({A:=x44.Version.A,B:=x44.Version.B,C:=w64 ((w64 ((w64 (s34.2.1+1))+1))+1)}:Version),Size:=x44.Size,Provides:=x44.Provides,Needs:=x44.Needs,Bars:=x44.Bars}:Pack)).set s34.2.2.toNat ({Name:=x46.Name,Version:=x46.Version,Size:=w64 ((w64 ((w64 ((w64 (s34.2.1+1))+1))+1))+1),Provides:=x46.Provides,Needs:=x46.Needs,Bars:=x46.Bars}:Pack)).set s34.2.2.toNat ({Name:=x48.Name,Version:=x48.Version,Size:=x48.Size,Provides:=x50.2,Needs:=x48.Needs,Bars:=x48.Bars}:Pack)).set s34.2.2.toNat ({Name:=x54.Name,Version:=x54.Version,Size:=x54.Size,Provides:=x54.Provides,Needs:=x56.2,Bars:=x54.Bars}:Pack)))] (by kernel_rfl) ?_
  refine zCj (σ':=St.mk' [(0,rr 0 (((((((s34.1.set s34.2.2.toNat ({Name:=x36,Version:=x38.Version,Size:=x38.Size,Provides:=x38.Provides,Needs:=x38.Needs,Bars:=x38.Bars}:Pack)).set s34.2.2.toNat ({Name:=x40.Name,Version:=({A:=w64 (s34.2.1+1),B:=x40.Version.B,C:=x40.Version.C}:Version),Size:=x40.Size,Provides:=x40.Provides,Needs:=x40.Needs,Bars:=x40.Bars}:Pack)).set s34.2.2.toNat ({Name:=x42.Name,Version:=({A:=x42.Version.A,B:=w64 ((w64 (s34.2.1+1))+1),C:=x42.Version.C}:Version),Size:=x42.Size,Provides:=x42.Provides,Needs:=x42.Needs,Bars:=x42.Bars}:Pack)).set s34.2.2.toNat ({Name:=x44.Name,Version:=({A:=x44.Version.A,B:=x44.Version.B,C:=w64 ((w64 ((w64 (s34.2.1+1))+1))+1)}:Version),Size:=x44.Size,Provides:=x44.Provides,Needs:=x44.Needs,Bars:=x44.Bars}:Pack)).set s34.2.2.toNat ({Name:=x46.Name,Version:=x46.Version,Size:=w64 ((w64 ((w64 ((w64 (s34.2.1+1))+1))+1))+1),Provides:=x46.Provides,Needs:=x46.Needs,Bars:=x46.Bars}:Pack)).set s34.2.2.toNat ({Name:=x48.Name,Version:=x48.Version,Size:=x48.Size,Provides:=x50.2,Needs:=x48.Needs,Bars:=x48.Bars}:Pack)).set s34.2.2.toNat ({Name:=x54.Name,Version:=x54.Version,Size:=x54.Size,Provides:=x54.Provides,Needs:=x56.2,Bars:=x54.Bars}:Pack))),(1,iv x56.1),(5,iv s34.2.2)] [(0,rE 8 (Pack.enc true) (((((((s34.1.set s34.2.2.toNat ({Name:=x36,Version:=x38.Version,Size:=x38.Size,Provides:=x38.Provides,Needs:=x38.Needs,Bars:=x38.Bars}:Pack)).set s34.2.2.toNat ({Name:=x40.Name,Version:=({A:=w64 (s34.2.1+1),B:=x40.Version.B,C:=x40.Version.C}:Version),Size:=x40.Size,Provides:=x40.Provides,Needs:=x40.Needs,Bars:=x40.Bars}:Pack)).set s34.2.2.toNat ({Name:=x42.Name,Version:=({A:=x42.Version.A,B:=w64 ((w64 (s34.2.1+1))+1),C:=x42.Version.C}:Version),Size:=x42.Size,Provides:=x42.Provides,Needs:=x42.Needs,Bars:=x42.Bars}:Pack)).set s34.2.2.toNat ({Name:=x44.Name,Version:=({A:=x44.Version.A,B:=x44.Version.B,C:=w64 ((w64 ((w64 (s34.2.1+1))+1))+1)}:Version),Size:=x44.Size,Provides:=x44.Provides,Needs:=x44.Needs,Bars:=x44.Bars}:Pack)).set s34.2.2.toNat ({Name:=x46.Name,Version:=x46.Version,Size:=w64 ((w64 ((w64 ((w64 (s34.2.1+1))+1))+1))+1),Provides:=x46.Provides,Needs:=x46.Needs,Bars:=x46.Bars}:Pack)).set s34.2.2.toNat ({Name:=x48.Name,Version:=x48.Version,Size:=x48.Size,Provides:=x50.2,Needs:=x48.Needs,Bars:=x48.Bars}:Pack)).set s34.2.2.toNat ({Name:=x54.Name,Version:=x54.Version,Size:=x54.Size,Provides:=x54.Provides,Needs:=x56.2,Bars:=x54.Bars}:Pack)))]) (by simp only [rr,List.length_set]) ?_
  refine zA (fun x60 h61=>?_)
  refine zCY (ix:=s34.2.2) (enc:=(Pack.enc true)) 0 7 1 h61 rfl rfl (by kernel_rfl) ?_
  refine zDr [(0,rr 0 (((((((s34.1.set s34.2.2.toNat ({Name:=x36,Version:=x38.Version,Size:=x38.Size,Provides:=x38.Provides,Needs:=x38.Needs,Bars:=x38.Bars}:Pack)).set s34.2.2.toNat ({Name:=x40.Name,Version:=({A:=w64 (s34.2.1+1),B:=x40.Version.B,C:=x40.Version.C}:Version),Size:=x40.Size,Provides:=x40.Provides,Needs:=x40.Needs,Bars:=x40.Bars}:Pack)).set s34.2.2.toNat ({Name:=x42.Name,Version:=({A:=x42.Version.A,B:=w64 ((w64 (s34.2.1+1))+1),C:=x42.Version.C}:Version),Size:=x42.Size,Provides:=x42.Provides,Needs:=x42.Needs,Bars:=x42.Bars}:Pack)).set s34.2.2.toNat ({Name:=x44.Name,Version:=({A:=x44.Version.A,B:=x44.Version.B,C:=w64 ((w64 ((w64 (s34.2.1+1))+1))+1)}:Version),Size:=x44.Size,Provides:=x44.Provides,Needs:=x44.Needs,Bars:=x44.Bars}:Pack)).set s34.2.2.toNat ({Name:=x46.Name,Version:=x46.Version,Size:=w64 ((w64 ((w64 ((w64 (s34.2.1+1))+1))+1))+1),Provides:=x46.Provides,Needs:=x46.Needs,Bars:=x46.Bars}:Pack)).set s34.2.2.toNat ({Name:=x48.Name,Version:=x48.Version,Size:=x48.Size,Provides:=x50.2,Needs:=x48.Needs,Bars:=x48.Bars}:Pack)).set s34.2.2.toNat ({Name:=x54.Name,Version:=x54.Version,Size:=x54.Size,Provides:=x54.Provides,Needs:=x56.2,Bars:=x54.Bars}:Pack))),(1,iv x56.1),(5,iv s34.2.2)] [(0,.lent 8 ((((((((s34.1.set s34.2.2.toNat ({Name:=x36,Version:=x38.Version,Size:=x38.Size,Provides:=x38.Provides,Needs:=x38.Needs,Bars:=x38.Bars}:Pack)).set s34.2.2.toNat ({Name:=x40.Name,Version:=({A:=w64 (s34.2.1+1),B:=x40.Version.B,C:=x40.Version.C}:Version),Size:=x40.Size,Provides:=x40.Provides,Needs:=x40.Needs,Bars:=x40.Bars}:Pack)).set s34.2.2.toNat ({Name:=x42.Name,Version:=({A:=x42.Version.A,B:=w64 ((w64 (s34.2.1+1))+1),C:=x42.Version.C}:Version),Size:=x42.Size,Provides:=x42.Provides,Needs:=x42.Needs,Bars:=x42.Bars}:Pack)).set s34.2.2.toNat ({Name:=x44.Name,Version:=({A:=x44.Version.A,B:=x44.Version.B,C:=w64 ((w64 ((w64 (s34.2.1+1))+1))+1)}:Version),Size:=x44.Size,Provides:=x44.Provides,Needs:=x44.Needs,Bars:=x44.Bars}:Pack)).set s34.2.2.toNat ({Name:=x46.Name,Version:=x46.Version,Size:=w64 ((w64 ((w64 ((w64 (s34.2.1+1))+1))+1))+1),Provides:=x46.Provides,Needs:=x46.Needs,Bars:=x46.Bars}:Pack)).set s34.2.2.toNat ({Name:=x48.Name,Version:=x48.Version,Size:=x48.Size,Provides:=x50.2,Needs:=x48.Needs,Bars:=x48.Bars}:Pack)).set s34.2.2.toNat ({Name:=x54.Name,Version:=x54.Version,Size:=x54.Size,Provides:=x54.Provides,Needs:=x56.2,Bars:=x54.Bars}:Pack)).map (Pack.enc true)) s34.2.2.toNat 7 1 x60.Bars.length),(1,rE 7 Term.enc x60.Bars)] (by kernel_rfl) ?_
  refine zA (fun x62 h63=>?_)
  refine J_g 1724415 [] [(0,rr 0 (((((((s34.1.set s34.2.2.toNat ({Name:=x36,Version:=x38.Version,Size:=x38.Size,Provides:=x38.Provides,Needs:=x38.Needs,Bars:=x38.Bars}:Pack)).set s34.2.2.toNat ({Name:=x40.Name,Version:=({A:=w64 (s34.2.1+1),B:=x40.Version.B,C:=x40.Version.C}:Version),Size:=x40.Size,Provides:=x40.Provides,Needs:=x40.Needs,Bars:=x40.Bars}:Pack)).set s34.2.2.toNat ({Name:=x42.Name,Version:=({A:=x42.Version.A,B:=w64 ((w64 (s34.2.1+1))+1),C:=x42.Version.C}:Version),Size:=x42.Size,Provides:=x42.Provides,Needs:=x42.Needs,Bars:=x42.Bars}:Pack)).set s34.2.2.toNat ({Name:=x44.Name,Version:=({A:=x44.Version.A,B:=x44.Version.B,C:=w64 ((w64 ((w64 (s34.2.1+1))+1))+1)}:Version),Size:=x44.Size,Provides:=x44.Provides,Needs:=x44.Needs,Bars:=x44.Bars}:Pack)).set s34.2.2.toNat ({Name:=x46.Name,Version:=x46.Version,Size:=w64 ((w64 ((w64 ((w64 (s34.2.1+1))+1))+1))+1),Provides:=x46.Provides,Needs:=x46.Needs,Bars:=x46.Bars}:Pack)).set s34.2.2.toNat ({Name:=x48.Name,Version:=x48.Version,Size:=x48.Size,Provides:=x50.2,Needs:=x48.Needs,Bars:=x48.Bars}:Pack)).set s34.2.2.toNat ({Name:=x54.Name,Version:=x54.Version,Size:=x54.Size,Provides:=x54.Provides,Needs:=x56.2,Bars:=x54.Bars}:Pack))),(1,iv x62.1),(5,iv s34.2.2)] [(0,.lent 8 ((((((((s34.1.set s34.2.2.toNat ({Name:=x36,Version:=x38.Version,Size:=x38.Size,Provides:=x38.Provides,Needs:=x38.Needs,Bars:=x38.Bars}:Pack)).set s34.2.2.toNat ({Name:=x40.Name,Version:=({A:=w64 (s34.2.1+1),B:=x40.Version.B,C:=x40.Version.C}:Version),Size:=x40.Size,Provides:=x40.Provides,Needs:=x40.Needs,Bars:=x40.Bars}:Pack)).set s34.2.2.toNat ({Name:=x42.Name,Version:=({A:=x42.Version.A,B:=w64 ((w64 (s34.2.1+1))+1),C:=x42.Version.C}:Version),Size:=x42.Size,Provides:=x42.Provides,Needs:=x42.Needs,Bars:=x42.Bars}:Pack)).set s34.2.2.toNat ({Name:=x44.Name,Version:=({A:=x44.Version.A,B:=x44.Version.B,C:=w64 ((w64 ((w64 (s34.2.1+1))+1))+1)}:Version),Size:=x44.Size,Provides:=x44.Provides,Needs:=x44.Needs,Bars:=x44.Bars}:Pack)).set s34.2.2.toNat ({Name:=x46.Name,Version:=x46.Version,Size:=w64 ((w64 ((w64 ((w64 (s34.2.1+1))+1))+1))+1),Provides:=x46.Provides,Needs:=x46.Needs,Bars:=x46.Bars}:Pack)).set s34.2.2.toNat ({Name:=x48.Name,Version:=x48.Version,Size:=x48.Size,Provides:=x50.2,Needs:=x48.Needs,Bars:=x48.Bars}:Pack)).set s34.2.2.toNat ({Name:=x54.Name,Version:=x54.Version,Size:=x54.Size,Provides:=x54.Provides,Needs:=x56.2,Bars:=x54.Bars}:Pack)).map (Pack.enc true)) s34.2.2.toNat 7 1 x60.Bars.length),(1,rE 7 Term.enc x62.2)] (zK 2 (zGn (kk:=.i64) 24 89 8 0 (Pack.enc true) (.tmp 65) (.tmp 66) s34.2.2.toNat 7 1 x60.Bars.length h61) (zK 4 (zGA 53 0 (.tmp 68) 8 (Pack.enc true) (((((((s34.1.set s34.2.2.toNat ({Name:=x36,Version:=x38.Version,Size:=x38.Size,Provides:=x38.Provides,Needs:=x38.Needs,Bars:=x38.Bars}:Pack)).set s34.2.2.toNat ({Name:=x40.Name,Version:=({A:=w64 (s34.2.1+1),B:=x40.Version.B,C:=x40.Version.C}:Version),Size:=x40.Size,Provides:=x40.Provides,Needs:=x40.Needs,Bars:=x40.Bars}:Pack)).set s34.2.2.toNat ({Name:=x42.Name,Version:=({A:=x42.Version.A,B:=w64 ((w64 (s34.2.1+1))+1),C:=x42.Version.C}:Version),Size:=x42.Size,Provides:=x42.Provides,Needs:=x42.Needs,Bars:=x42.Bars}:Pack)).set s34.2.2.toNat ({Name:=x44.Name,Version:=({A:=x44.Version.A,B:=x44.Version.B,C:=w64 ((w64 ((w64 (s34.2.1+1))+1))+1)}:Version),Size:=x44.Size,Provides:=x44.Provides,Needs:=x44.Needs,Bars:=x44.Bars}:Pack)).set s34.2.2.toNat ({Name:=x46.Name,Version:=x46.Version,Size:=w64 ((w64 ((w64 ((w64 (s34.2.1+1))+1))+1))+1),Provides:=x46.Provides,Needs:=x46.Needs,Bars:=x46.Bars}:Pack)).set s34.2.2.toNat ({Name:=x48.Name,Version:=x48.Version,Size:=x48.Size,Provides:=x50.2,Needs:=x48.Needs,Bars:=x48.Bars}:Pack)).set s34.2.2.toNat ({Name:=x54.Name,Version:=x54.Version,Size:=x54.Size,Provides:=x54.Provides,Needs:=x56.2,Bars:=x54.Bars}:Pack)) s34.2.2.toNat 7 1 x60.Bars.length) (zK 6 (zAQ («as»:=[rr 1 x60.Bars,iv x56.1]) [(.tmp 69),(.tmp 70)] [53,3] false [(1,rE 7 Term.enc x60.Bars)] [1] (.cons (.rf rfl) (.cons (.same rfl) (.nil))) (xJ.ok x60.Bars x56.1) h63 (.same rfl rfl)) zB))) ?_
  refine zA (fun u64 h65=>?_)
  refine zCJ (ix:=s34.2.2) (enc:=(Pack.enc true)) (b:=({Name:=x60.Name,Version:=x60.Version,Size:=x60.Size,Provides:=x60.Provides,Needs:=x60.Needs,Bars:=x62.2}:Pack)) 0 7 1 h61 rfl rfl rfl rfl (zAp h65) (Nat.le_of_ble_eq_true rfl) ((List.length_map _).trans (zAp h65)) ?_
  refine zDr [(0,rr 0 (((((((s34.1.set s34.2.2.toNat ({Name:=x36,Version:=x38.Version,Size:=x38.Size,Provides:=x38.Provides,Needs:=x38.Needs,Bars:=x38.Bars}:Pack)).set s34.2.2.toNat ({Name:=x40.Name,Version:=({A:=w64 (s34.2.1+1),B:=x40.Version.B,C:=x40.Version.C}:Version),Size:=x40.Size,Provides:=x40.Provides,Needs:=x40.Needs,Bars:=x40.Bars}:Pack)).set s34.2.2.toNat ({Name:=x42.Name,Version:=({A:=x42.Version.A,B:=w64 ((w64 (s34.2.1+1))+1),C:=x42.Version.C}:Version),Size:=x42.Size,Provides:=x42.Provides,Needs:=x42.Needs,Bars:=x42.Bars}:Pack)).set s34.2.2.toNat ({Name:=x44.Name,Version:=({A:=x44.Version.A,B:=x44.Version.B,C:=w64 ((w64 ((w64 (s34.2.1+1))+1))+1)}:Version),Size:=x44.Size,Provides:=x44.Provides,Needs:=x44.Needs,Bars:=x44.Bars}:Pack)).set s34.2.2.toNat ({Name:=x46.Name,Version:=x46.Version,Size:=w64 ((w64 ((w64 ((w64 (s34.2.1+1))+1))+1))+1),Provides:=x46.Provides,Needs:=x46.Needs,Bars:=x46.Bars}:Pack)).set s34.2.2.toNat ({Name:=x48.Name,Version:=x48.Version,Size:=x48.Size,Provides:=x50.2,Needs:=x48.Needs,Bars:=x48.Bars}:Pack)).set s34.2.2.toNat ({Name:=x54.Name,Version:=x54.Version,Size:=x54.Size,Provides:=x54.Provides,Needs:=x56.2,Bars:=x54.Bars}:Pack))),(1,iv x62.1),(5,iv s34.2.2)] [(0,rE 8 (Pack.enc true) ((((((((s34.1.set s34.2.2.toNat ({Name:=x36,Version:=x38.Version,Size:=x38.Size,Provides:=x38.Provides,Needs:=x38.Needs,Bars:=x38.Bars}:Pack)).set s34.2.2.toNat ({Name:=x40.Name,Version:=({A:=w64 (s34.2.1+1),B:=x40.Version.B,C:=x40.Version.C}:Version),Size:=x40.Size,Provides:=x40.Provides,Needs:=x40.Needs,Bars:=x40.Bars}:Pack)).set s34.2.2.toNat ({Name:=x42.Name,Version:=({A:=x42.Version.A,B:=w64 ((w64 (s34.2.1+1))+1),C:=x42.Version.C}:Version),Size:=x42.Size,Provides:=x42.Provides,Needs:=x42.Needs,Bars:=x42.Bars}:Pack)).set s34.2.2.toNat ({Name:=x44.Name,Version:=({A:=x44.Version.A,B:=x44.Version.B,C:=w64 ((w64 ((w64 (s34.2.1+1))+1))+1)}:Version),Size:=x44.Size,Provides:=x44.Provides,Needs:=x44.Needs,Bars:=x44.Bars}:Pack)).set s34.2.2.toNat ({Name:=x46.Name,Version:=x46.Version,Size:=w64 ((w64 ((w64 ((w64 (s34.2.1+1))+1))+1))+1),Provides:=x46.Provides,Needs:=x46.Needs,Bars:=x46.Bars}:Pack)).set s34.2.2.toNat ({Name:=x48.Name,Version:=x48.Version,Size:=x48.Size,Provides:=x50.2,Needs:=x48.Needs,Bars:=x48.Bars}:Pack)).set s34.2.2.toNat ({Name:=x54.Name,Version:=x54.Version,Size:=x54.Size,Provides:=x54.Provides,Needs:=x56.2,Bars:=x54.Bars}:Pack)).set s34.2.2.toNat ({Name:=x60.Name,Version:=x60.Version,Size:=x60.Size,Provides:=x60.Provides,Needs:=x60.Needs,Bars:=x62.2}:Pack)))] (by kernel_rfl) ?_
  refine zCj (σ':=St.mk' [(0,rr 0 ((((((((s34.1.set s34.2.2.toNat ({Name:=x36,Version:=x38.Version,Size:=x38.Size,Provides:=x38.Provides,Needs:=x38.Needs,Bars:=x38.Bars}:Pack)).set s34.2.2.toNat ({Name:=x40.Name,Version:=({A:=w64 (s34.2.1+1),B:=x40.Version.B,C:=x40.Version.C}:Version),Size:=x40.Size,Provides:=x40.Provides,Needs:=x40.Needs,Bars:=x40.Bars}:Pack)).set s34.2.2.toNat ({Name:=x42.Name,Version:=({A:=x42.Version.A,B:=w64 ((w64 (s34.2.1+1))+1),C:=x42.Version.C}:Version),Size:=x42.Size,Provides:=x42.Provides,Needs:=x42.Needs,Bars:=x42.Bars}:Pack)).set s34.2.2.toNat ({Name:=x44.Name,Version:=({A:=x44.Version.A,B:=x44.Version.B,C:=w64 ((w64 ((w64 (s34.2.1+1))+1))+1)}:Version),Size:=x44.Size,Provides:=x44.Provides,Needs:=x44.Needs,Bars:=x44.Bars}:Pack)).set s34.2.2.toNat ({Name:=x46.Name,Version:=x46.Version,Size:=w64 ((w64 ((w64 ((w64 (s34.2.1+1))+1))+1))+1),Provides:=x46.Provides,Needs:=x46.Needs,Bars:=x46.Bars}:Pack)).set s34.2.2.toNat ({Name:=x48.Name,Version:=x48.Version,Size:=x48.Size,Provides:=x50.2,Needs:=x48.Needs,Bars:=x48.Bars}:Pack)).set s34.2.2.toNat ({Name:=x54.Name,Version:=x54.Version,Size:=x54.Size,Provides:=x54.Provides,Needs:=x56.2,Bars:=x54.Bars}:Pack)).set s34.2.2.toNat ({Name:=x60.Name,Version:=x60.Version,Size:=x60.Size,Provides:=x60.Provides,Needs:=x60.Needs,Bars:=x62.2}:Pack))),(1,iv x62.1),(5,iv s34.2.2)] [(0,rE 8 (Pack.enc true) ((((((((s34.1.set s34.2.2.toNat ({Name:=x36,Version:=x38.Version,Size:=x38.Size,Provides:=x38.Provides,Needs:=x38.Needs,Bars:=x38.Bars}:Pack)).set s34.2.2.toNat ({Name:=x40.Name,Version:=({A:=w64 (s34.2.1+1),B:=x40.Version.B,C:=x40.Version.C}:Version),Size:=x40.Size,Provides:=x40.Provides,Needs:=x40.Needs,Bars:=x40.Bars}:Pack)).set s34.2.2.toNat ({Name:=x42.Name,Version:=({A:=x42.Version.A,B:=w64 ((w64 (s34.2.1+1))+1),C:=x42.Version.C}:Version),Size:=x42.Size,Provides:=x42.Provides,Needs:=x42.Needs,Bars:=x42.Bars}:Pack)).set s34.2.2.toNat ({Name:=x44.Name,Version:=({A:=x44.Version.A,B:=x44.Version.B,C:=w64 ((w64 ((w64 (s34.2.1+1))+1))+1)}:Version),Size:=x44.Size,Provides:=x44.Provides,Needs:=x44.Needs,Bars:=x44.Bars}:Pack)).set s34.2.2.toNat ({Name:=x46.Name,Version:=x46.Version,Size:=w64 ((w64 ((w64 ((w64 (s34.2.1+1))+1))+1))+1),Provides:=x46.Provides,Needs:=x46.Needs,Bars:=x46.Bars}:Pack)).set s34.2.2.toNat ({Name:=x48.Name,Version:=x48.Version,Size:=x48.Size,Provides:=x50.2,Needs:=x48.Needs,Bars:=x48.Bars}:Pack)).set s34.2.2.toNat ({Name:=x54.Name,Version:=x54.Version,Size:=x54.Size,Provides:=x54.Provides,Needs:=x56.2,Bars:=x54.Bars}:Pack)).set s34.2.2.toNat ({Name:=x60.Name,Version:=x60.Version,Size:=x60.Size,Provides:=x60.Provides,Needs:=x60.Needs,Bars:=x62.2}:Pack)))]) (by simp only [rr,List.length_set]) ?_
  refine J_d 211 [] [5] [(5,iv (w64 (s34.2.2+1)))] [] [] zB ?_
  exact J_q (J_b (ih ((((((((s34.1.set s34.2.2.toNat ({Name:=x36,Version:=x38.Version,Size:=x38.Size,Provides:=x38.Provides,Needs:=x38.Needs,Bars:=x38.Bars}:Pack)).set s34.2.2.toNat ({Name:=x40.Name,Version:=({A:=w64 (s34.2.1+1),B:=x40.Version.B,C:=x40.Version.C}:Version),Size:=x40.Size,Provides:=x40.Provides,Needs:=x40.Needs,Bars:=x40.Bars}:Pack)).set s34.2.2.toNat ({Name:=x42.Name,Version:=({A:=x42.Version.A,B:=w64 ((w64 (s34.2.1+1))+1),C:=x42.Version.C}:Version),Size:=x42.Size,Provides:=x42.Provides,Needs:=x42.Needs,Bars:=x42.Bars}:Pack)).set s34.2.2.toNat ({Name:=x44.Name,Version:=({A:=x44.Version.A,B:=x44.Version.B,C:=w64 ((w64 ((w64 (s34.2.1+1))+1))+1)}:Version),Size:=x44.Size,Provides:=x44.Provides,Needs:=x44.Needs,Bars:=x44.Bars}:Pack)).set s34.2.2.toNat ({Name:=x46.Name,Version:=x46.Version,Size:=w64 ((w64 ((w64 ((w64 (s34.2.1+1))+1))+1))+1),Provides:=x46.Provides,Needs:=x46.Needs,Bars:=x46.Bars}:Pack)).set s34.2.2.toNat ({Name:=x48.Name,Version:=x48.Version,Size:=x48.Size,Provides:=x50.2,Needs:=x48.Needs,Bars:=x48.Bars}:Pack)).set s34.2.2.toNat ({Name:=x54.Name,Version:=x54.Version,Size:=x54.Size,Provides:=x54.Provides,Needs:=x56.2,Bars:=x54.Bars}:Pack)).set s34.2.2.toNat ({Name:=x60.Name,Version:=x60.Version,Size:=x60.Size,Provides:=x60.Provides,Needs:=x60.Needs,Bars:=x62.2}:Pack),x62.1,w64 (s34.2.2+1)))) rfl
 ·exact vX (hk (s34.1,s34.2.1)) rfl
theorem xK.ok (a1:(List Pack)) (a2:Int):Ok Tryz.prog 15 [rr 0 a1,iv a2] [rE 8 (Pack.enc true) a1] ((xK a1 a2).map fun r=>(iv r.1,[rE 8 (Pack.enc true) r.2])):=by
 refine zL c15 Tryz.f15 1 73 (fun q=>?_)
 unfold xK
 refine J_g 2 [] [(0,rr 0 a1),(1,iv a2)] [(0,rE 8 (Pack.enc true) a1)] zB ?_
 refine J_d 12 [] [5] [(5,iv 0)] [] [] zB ?_
 refine zES (uR.ok q _ (fun v66=>J_j ?_) (a1,a2,0))
 refine J_d 14 [] [1,4] [(4,iv v66.2)] [] [] zB ?_
 exact zU rfl
noncomputable def c164:Code:=(Tryz.f164.body).getD .skip
theorem uE.ok (q:Wd) (kn:((List Int)×Int)→Option (D×List Ent)) (hk:∀v:((List Int)×Int),J (q.g Tryz.prog 164 1 20) c164 (atI c164 7) (St.mk' [(1,iv v.2)] [(0,rE 1 eU8 v.1)]) (some v) kn):
  ∀s6:((List Int)×Int×Int),J (q.g Tryz.prog 164 1 20) c164 (atI c164 52) (St.mk' [(0,rr 0 s6.1),(1,iv s6.2.1),(5,iv s6.2.2)] [(0,rE 1 eU8 s6.1)]) (uE s6) kn:=by
 refine zAV (fun g ih s6=>?_)
 unfold vT
 refine J_d 208 [] [9] [(9,bv (decide (s6.2.2< (s6.1.length:Int))))] [] [] zB ?_
 refine zG 9 (fun h7=>?_) (fun h7=>?_)
 ·refine zA (fun x8 h9=>?_)
  refine J_g 840 [] [(0,rr 0 s6.1),(1,iv s6.2.1),(5,iv s6.2.2)] [(0,rE 1 eU8 (s6.1.set s6.2.2.toNat (IntKind.u8.wrap (s6.2.1))))] (zK 4 (zBk (kk:=.i64) 111 5 1 0 eU8 (.tmp 12) (.tmp 13) h9) (zD3 5 (zEu (b:=IntKind.u8.wrap (s6.2.1)) 5 1 0 0 eU8 (uv (IntKind.u8.wrap (s6.2.1))) (.tmp 16) (.tmp 15) h9 rfl) zB)) ?_
  refine zCj (σ':=St.mk' [(0,rr 0 (s6.1.set s6.2.2.toNat (IntKind.u8.wrap (s6.2.1)))),(1,iv s6.2.1),(5,iv s6.2.2)] [(0,rE 1 eU8 (s6.1.set s6.2.2.toNat (IntKind.u8.wrap (s6.2.1))))]) (by simp only [rr,List.length_set]) ?_
  refine J_g 841 [] [(0,rr 0 (s6.1.set s6.2.2.toNat (IntKind.u8.wrap (s6.2.1)))),(1,iv (w64 (s6.2.1+1))),(5,iv s6.2.2)] [(0,rE 1 eU8 (s6.1.set s6.2.2.toNat (IntKind.u8.wrap (s6.2.1))))] zB ?_
  refine J_d 211 [] [5] [(5,iv (w64 (s6.2.2+1)))] [] [] zB ?_
  exact J_q (J_b (ih (s6.1.set s6.2.2.toNat (IntKind.u8.wrap (s6.2.1)),w64 (s6.2.1+1),w64 (s6.2.2+1)))) rfl
 ·exact vX (hk (s6.1,s6.2.1)) rfl
theorem vU.ok (a1:(List Int)) (a2:Int):Ok Tryz.prog 164 [rr 0 a1,iv a2] [rE 1 eU8 a1] ((vU a1 a2).map fun r=>(iv r.1,[rE 1 eU8 r.2])):=by
 refine zL c164 Tryz.f164 1 20 (fun q=>?_)
 unfold vU
 refine J_g 2 [] [(0,rr 0 a1),(1,iv a2)] [(0,rE 1 eU8 a1)] zB ?_
 refine J_d 12 [] [5] [(5,iv 0)] [] [] zB ?_
 refine zES (uE.ok q _ (fun v10=>J_j ?_) (a1,a2,0))
 refine J_g 14 [] [(4,iv v10.2)] [(0,rE 1 eU8 v10.1)] zB ?_
 exact zU rfl
noncomputable def c88:Code:=(Tryz.f88.body).getD .skip
theorem vZ.ok (q:Wd) (kn:((List File)×Int)→Option (D×List Ent)) (hk:∀v:((List File)×Int),J (q.g Tryz.prog 88 1 28) c88 (atI c88 7) (St.mk' [(1,iv v.2)] [(0,rE 2 (File.enc true) v.1)]) (some v) kn):
  ∀s14:((List File)×Int×Int),J (q.g Tryz.prog 88 1 28) c88 (atI c88 52) (St.mk' [(0,rr 0 s14.1),(1,iv s14.2.1),(5,iv s14.2.2)] [(0,rE 2 (File.enc true) s14.1)]) (vZ s14) kn:=by
 refine zAV (fun g ih s14=>?_)
 unfold vQ
 refine J_d 208 [] [9] [(9,bv (decide (s14.2.2< (s14.1.length:Int))))] [] [] zB ?_
 refine zG 9 (fun h15=>?_) (fun h15=>?_)
 ·refine zA (fun x16 h17=>?_)
  refine zA (fun x18 h19=>?_)
  refine J_g 840 [] [(0,rr 0 s14.1),(1,iv s14.2.1),(5,iv s14.2.2)] [(0,rE 2 (File.enc true) (s14.1.set s14.2.2.toNat ({Path:=x16,Data:=x18.Data}:File)))] (zK 3 (xP [(.tmp 14)] [3] (zT.ok s14.2.1) h17) (zK 4 (zBk (kk:=.i64) 25 113 2 0 (File.enc true) (.tmp 12) (.tmp 13) h19) (zD3 6 (zEu (b:=({Path:=x16,Data:=x18.Data}:File)) 9 2 0 0 (File.enc true) (sv x16) (.tmp 17) (.tmp 15) h19 rfl) zB))) ?_
  refine zCj (σ':=St.mk' [(0,rr 0 (s14.1.set s14.2.2.toNat ({Path:=x16,Data:=x18.Data}:File))),(1,iv s14.2.1),(5,iv s14.2.2)] [(0,rE 2 (File.enc true) (s14.1.set s14.2.2.toNat ({Path:=x16,Data:=x18.Data}:File)))]) (by simp only [rr,List.length_set]) ?_
  refine J_d 1682 [] [1] [(1,iv (w64 (s14.2.1+1)))] [] [] zB ?_
  refine zA (fun x20 h21=>?_)
  refine zCY (ix:=s14.2.2) (enc:=(File.enc true)) 0 1 1 h21 rfl rfl (by kernel_rfl) ?_
  refine zDr [(0,rr 0 (s14.1.set s14.2.2.toNat ({Path:=x16,Data:=x18.Data}:File))),(1,iv (w64 (s14.2.1+1))),(5,iv s14.2.2)] [(0,.lent 2 ((s14.1.set s14.2.2.toNat ({Path:=x16,Data:=x18.Data}:File)).map (File.enc true)) s14.2.2.toNat 1 1 x20.Data.length),(1,rE 1 eU8 x20.Data)] (by kernel_rfl) ?_
  refine zA (fun x22 h23=>?_)
  refine J_g 1683 [] [(0,rr 0 (s14.1.set s14.2.2.toNat ({Path:=x16,Data:=x18.Data}:File))),(1,iv x22.1),(5,iv s14.2.2)] [(0,.lent 2 ((s14.1.set s14.2.2.toNat ({Path:=x16,Data:=x18.Data}:File)).map (File.enc true)) s14.2.2.toNat 1 1 x20.Data.length),(1,rE 1 eU8 x22.2)] (zK 2 (zGn (kk:=.i64) 25 113 2 0 (File.enc true) (.tmp 20) (.tmp 21) s14.2.2.toNat 1 1 x20.Data.length h21) (zK 4 (zGA 111 0 (.tmp 23) 2 (File.enc true) (s14.1.set s14.2.2.toNat ({Path:=x16,Data:=x18.Data}:File)) s14.2.2.toNat 1 1 x20.Data.length) (zK 6 (zAQ («as»:=[rr 1 x20.Data,iv (w64 (s14.2.1+1))]) [(.tmp 24),(.tmp 25)] [111,3] false [(1,rE 1 eU8 x20.Data)] [1] (.cons (.rf rfl) (.cons (.same rfl) (.nil))) (vU.ok x20.Data (w64 (s14.2.1+1))) h23 (.same rfl rfl)) zB))) ?_
  refine zA (fun u24 h25=>?_)
  refine zCJ (ix:=s14.2.2) (enc:=(File.enc true)) (b:=({Path:=x20.Path,Data:=x22.2}:File)) 0 1 1 h21 rfl rfl rfl rfl (zAp h25) (Nat.le_of_ble_eq_true rfl) ((List.length_map _).trans (zAp h25)) ?_
  refine zDr [(0,rr 0 (s14.1.set s14.2.2.toNat ({Path:=x16,Data:=x18.Data}:File))),(1,iv x22.1),(5,iv s14.2.2)] [(0,rE 2 (File.enc true) ((s14.1.set s14.2.2.toNat ({Path:=x16,Data:=x18.Data}:File)).set s14.2.2.toNat ({Path:=x20.Path,Data:=x22.2}:File)))] (by kernel_rfl) ?_
  refine zCj (σ':=St.mk' [(0,rr 0 ((s14.1.set s14.2.2.toNat ({Path:=x16,Data:=x18.Data}:File)).set s14.2.2.toNat ({Path:=x20.Path,Data:=x22.2}:File))),(1,iv x22.1),(5,iv s14.2.2)] [(0,rE 2 (File.enc true) ((s14.1.set s14.2.2.toNat ({Path:=x16,Data:=x18.Data}:File)).set s14.2.2.toNat ({Path:=x20.Path,Data:=x22.2}:File)))]) (by simp only [rr,List.length_set]) ?_
  refine J_d 211 [] [5] [(5,iv (w64 (s14.2.2+1)))] [] [] zB ?_
  exact J_q (J_b (ih ((s14.1.set s14.2.2.toNat ({Path:=x16,Data:=x18.Data}:File)).set s14.2.2.toNat ({Path:=x20.Path,Data:=x22.2}:File),x22.1,w64 (s14.2.2+1)))) rfl
 ·exact vX (hk (s14.1,s14.2.1)) rfl
theorem vO.ok (a1:(List File)) (a2:Int):Ok Tryz.prog 88 [rr 0 a1,iv a2] [rE 2 (File.enc true) a1] ((vO a1 a2).map fun r=>(iv r.1,[rE 2 (File.enc true) r.2])):=by
 refine zL c88 Tryz.f88 1 28 (fun q=>?_)
 unfold vO
 refine J_g 2 [] [(0,rr 0 a1),(1,iv a2)] [(0,rE 2 (File.enc true) a1)] zB ?_
 refine J_d 12 [] [5] [(5,iv 0)] [] [] zB ?_
 refine zES (vZ.ok q _ (fun v26=>J_j ?_) (a1,a2,0))
 refine J_d 14 [] [1,4] [(4,iv v26.2)] [] [] zB ?_
 exact zU rfl
noncomputable def c34:Code:=(Tryz.f34.body).getD .skip
theorem tJ.ok (a1:zC) (a2:Int):Ok Tryz.prog 34 [.ag [rr 0 a1.Files,iv a1.Budget,iv a1.Writes,iv a1.Stop,bv a1.Down],iv a2] [rE 2 (File.enc true) a1.Files] ((tJ a1 a2).map fun r=>(iv r.1,[rE 2 (File.enc true) r.2])):=by
 refine zL c34 Tryz.f34 1 10 (fun q=>?_)
 unfold tJ
 refine J_d 2 [(0,1)] [0,2] [(2,pp 1)] [1] [(1,.box [rr 0 a1.Files,iv a1.Budget,iv a1.Writes,iv a1.Stop,bv a1.Down])] zB ?_
 refine zA (fun x3 h4=>?_)
 refine J_g 6 [] [(1,iv x3.1)] [(0,rE 2 (File.enc true) x3.2)] (zK 3 (zAQ («as»:=[rr 0 a1.Files,iv a2]) [(.tmp 6),(.tmp 7)] [25,3] false [(0,rE 2 (File.enc true) a1.Files)] [0] (.cons (.rf rfl) (.cons (.same rfl) (.nil))) (vO.ok a1.Files a2) h4 (.same rfl rfl)) zB) ?_
 refine zA (fun u5 h6=>?_)
 refine J_d 14 [] [1,4] [(4,iv x3.1)] [] [] zB ?_
 exact zU rfl
noncomputable def c59:Code:=(Tryz.f59.body).getD .skip
theorem wJ.ok (a1:System) (a2:Int):Ok Tryz.prog 59 [.ag [rr 0 a1.Catalog,rr 1 a1.zC.Files,iv a1.zC.Budget,iv a1.zC.Writes,iv a1.zC.Stop,bv a1.zC.Down],iv a2] [rE 8 (Pack.enc true) a1.Catalog,rE 2 (File.enc true) a1.zC.Files] ((wJ a1 a2).map fun r=>(iv r.1,[rE 8 (Pack.enc true) r.2.1,rE 2 (File.enc true) r.2.2])):=by
 refine zL c59 Tryz.f59 2 14 (fun q=>?_)
 unfold wJ
 refine J_d 2 [(0,2)] [0,2] [(2,pp 2)] [2] [(2,.box [rr 0 a1.Catalog,rr 1 a1.zC.Files,iv a1.zC.Budget,iv a1.zC.Writes,iv a1.zC.Stop,bv a1.zC.Down])] zB ?_
 refine zA (fun x3 h4=>?_)
 refine J_g 6 [] [(1,iv x3.1),(2,pp 2)] [(0,rE 8 (Pack.enc true) x3.2),(1,rE 2 (File.enc true) a1.zC.Files),(2,.box [rr 0 a1.Catalog,rr 1 a1.zC.Files,iv a1.zC.Budget,iv a1.zC.Writes,iv a1.zC.Stop,bv a1.zC.Down])] (zK 3 (zAQ («as»:=[rr 0 a1.Catalog,iv a2]) [(.tmp 6),(.tmp 7)] [24,3] false [(0,rE 8 (Pack.enc true) a1.Catalog)] [0] (.cons (.rf rfl) (.cons (.same rfl) (.nil))) (xK.ok a1.Catalog a2) h4 (.same rfl rfl)) zB) ?_
 refine zA (fun u5 h6=>?_)
 refine zCj (σ':=St.mk' [(1,iv x3.1),(2,pp 2)] [(0,rE 8 (Pack.enc true) x3.2),(1,rE 2 (File.enc true) a1.zC.Files),(2,.box [rr 0 x3.2,rr 1 a1.zC.Files,iv a1.zC.Budget,iv a1.zC.Writes,iv a1.zC.Stop,bv a1.zC.Down])]) (by simp only [rr,zAp h6]) ?_
 refine zA (fun x7 h8=>?_)
 refine J_g 14 [] [(1,iv x7.1)] [(0,rE 8 (Pack.enc true) x3.2),(1,rE 2 (File.enc true) x7.2)] (zK 3 (zAQ («as»:=[.ag [rr 1 a1.zC.Files,iv a1.zC.Budget,iv a1.zC.Writes,iv a1.zC.Stop,bv a1.zC.Down],iv x3.1]) [(.tmp 10),(.tmp 11)] [27,3] false [(1,rE 2 (File.enc true) a1.zC.Files)] [1] (.cons (.ag (.cons (.rf rfl) (.cons (.same rfl) (.cons (.same rfl) (.cons (.same rfl) (.cons (.same rfl) (.nil))))))) (.cons (.same rfl) (.nil))) (tJ.ok a1.zC x3.1) h8 (.same rfl rfl)) zB) ?_
 refine zA (fun u9 h10=>?_)
 refine J_d 30 [] [1,4] [(4,iv x7.1)] [] [] zB ?_
 exact zU rfl
noncomputable def c16:Code:=(Tryz.f16.body).getD .skip
theorem yM.ok (a1:zD) (a2:Int):Ok Tryz.prog 16 [.ag [iv a1.Code,iv a1.Choices,rr 0 a1.System.Catalog,rr 1 a1.System.zC.Files,iv a1.System.zC.Budget,iv a1.System.zC.Writes,iv a1.System.zC.Stop,bv a1.System.zC.Down],iv a2] [rE 8 (Pack.enc true) a1.System.Catalog,rE 2 (File.enc true) a1.System.zC.Files] ((yM a1 a2).map fun r=>(iv r.1,[rE 8 (Pack.enc true) r.2.1,rE 2 (File.enc true) r.2.2])):=by
 refine zL c16 Tryz.f16 2 10 (fun q=>?_)
 unfold yM
 refine J_d 2 [(0,2)] [0,2] [(2,pp 2)] [2] [(2,.box [iv a1.Code,iv a1.Choices,rr 0 a1.System.Catalog,rr 1 a1.System.zC.Files,iv a1.System.zC.Budget,iv a1.System.zC.Writes,iv a1.System.zC.Stop,bv a1.System.zC.Down])] zB ?_
 refine zA (fun x3 h4=>?_)
 refine J_g 6 [] [(1,iv x3.1)] [(0,rE 8 (Pack.enc true) x3.2.1),(1,rE 2 (File.enc true) x3.2.2)] (zK 3 (zAQ («as»:=[.ag [rr 0 a1.System.Catalog,rr 1 a1.System.zC.Files,iv a1.System.zC.Budget,iv a1.System.zC.Writes,iv a1.System.zC.Stop,bv a1.System.zC.Down],iv a2]) [(.tmp 6),(.tmp 7)] [29,3] false [(0,rE 8 (Pack.enc true) a1.System.Catalog),(1,rE 2 (File.enc true) a1.System.zC.Files)] [0,1] (.cons (.ag (.cons (.rf rfl) (.cons (.rf rfl) (.cons (.same rfl) (.cons (.same rfl) (.cons (.same rfl) (.cons (.same rfl) (.nil)))))))) (.cons (.same rfl) (.nil))) (wJ.ok a1.System a2) h4 (.same rfl rfl)) zB) ?_
 refine zA (fun u5 h6=>?_)
 refine zA (fun u7 h8=>?_)
 refine J_d 14 [] [1,4] [(4,iv x3.1)] [] [] zB ?_
 exact zU rfl
noncomputable def c99:Code:=(Tryz.f99.body).getD .skip
theorem vJ.ok (a1:(List ByteArray)) (q:Wd) (kn:Int→Option (D×List Ent)) (hk:∀v:Int,J (q.g Tryz.prog 99 0 22) c99 (atI c99 7) (St.mk' [(1,iv v)] []) (some v) kn):
  ∀s9:(Int×Int),J (q.g Tryz.prog 99 0 22) c99 (atI c99 52) (St.mk' [(0,sl 1 eStr a1),(1,iv s9.1),(5,iv s9.2)] []) (vJ a1 s9) (Fl.go (fun r:Int=>some (iv r,[])) kn):=by
 refine zAV (fun g ih s9=>?_)
 unfold wQ
 refine J_d 208 [] [9] [(9,bv (decide (s9.2< (a1.length:Int))))] [] [] zB ?_
 refine zG 9 (fun h10=>?_) (fun h10=>?_)
 ·refine zA (fun x11 h12=>?_)
  refine zA (fun x13 h14=>?_)
  refine J_d 1680 [] [9,18] [(18,bv (!(seq x11 x13)))] [] [] (zK 2 (kQ (kk:=.i64) 70 9 1 eStr (.tmp 12) (.tmp 13) h12) (zK 5 (xP [(.tmp 16)] [3] (zT.ok s9.1) h14) zB)) ?_
  refine zG 18 (fun h15=>?_) (fun h15=>?_)
  ·refine J_g 6724 [] [(4,iv (-1))] [] zB ?_
   exact zU rfl
  ·refine J_g 841 [] [(0,sl 1 eStr a1),(1,iv (w64 (s9.1+1))),(5,iv s9.2)] [] zB ?_
   refine J_d 211 [] [5] [(5,iv (w64 (s9.2+1)))] [] [] zB ?_
   exact J_q (J_b (ih (w64 (s9.1+1),w64 (s9.2+1)))) rfl
 ·exact vX (hk s9.1) rfl
theorem wK.ok (a1:(List ByteArray)) (a2:Int):Ok Tryz.prog 99 [sl 1 eStr a1,iv a2] [] ((wK a1 a2).map fun r=>(iv r,[])):=by
 refine zL c99 Tryz.f99 0 22 (fun q=>?_)
 unfold wK
 refine J_g 2 [] [(0,sl 1 eStr a1),(1,iv a2)] [] zB ?_
 refine J_d 12 [] [5] [(5,iv 0)] [] [] zB ?_
 refine zAt (K0:=(fun r:Int=>some (iv r,[]))) (fun _=>rfl) (vJ.ok a1 q _ (fun v16=>J_j ?_) (a2,0))
 refine J_g 14 [] [(4,iv v16)] [] zB ?_
 exact zU rfl
noncomputable def c79:Code:=(Tryz.f79.body).getD .skip
theorem jA.ok (a1:(List Term)) (q:Wd) (kn:Int→Option (D×List Ent)) (hk:∀v:Int,J (q.g Tryz.prog 79 0 83) c79 (atI c79 7) (St.mk' [(1,iv v)] []) (some v) kn):
  ∀s27:(Int×Int),J (q.g Tryz.prog 79 0 83) c79 (atI c79 52) (St.mk' [(0,sl 7 Term.enc a1),(1,iv s27.1),(5,iv s27.2)] []) (jA a1 s27) (Fl.go (fun r:Int=>some (iv r,[])) kn):=by
 refine zAV (fun g ih s27=>?_)
 unfold uJ
 refine J_d 208 [] [9] [(9,bv (decide (s27.2< (a1.length:Int))))] [] [] zB ?_
 refine zG 9 (fun h28=>?_) (fun h28=>?_)
 ·refine zA (fun x29 h30=>?_)
  refine zA (fun x31 h32=>?_)
  refine J_d 1680 [] [9,19] [(19,bv (!(seq x29.Name x31)))] [] [] (zK 2 (kQ (kk:=.i64) 53 153 7 Term.enc (.tmp 12) (.tmp 13) h30) (zK 6 (xP [(.tmp 17)] [3] (zT.ok s27.1) h32) zB)) ?_
  refine zG 19 (fun h33=>?_) (fun h33=>?_)
  ·refine J_g 6724 [] [(4,iv (-1))] [] zB ?_
   exact zU rfl
  ·refine J_d 1682 [] [1,19] [(1,iv (w64 (s27.1+1)))] [] [] zB ?_
   refine zA (fun x34 h35=>?_)
   refine J_d 6732 [] [29] [(29,bv (x34.Low.A !=(w64 (s27.1+1))))] [] [] (zK 2 (kQ (kk:=.i64) 53 153 7 Term.enc (.tmp 22) (.tmp 23) h35) zB) ?_
   refine zG 29 (fun h36=>?_) (fun h36=>?_)
   ·refine J_g 26932 [] [(4,iv (-1))] [] zB ?_
    exact zU rfl
   ·refine J_d 6734 [] [1,29] [(1,iv (w64 ((w64 (s27.1+1))+1)))] [] [] zB ?_
    refine zA (fun x37 h38=>?_)
    refine J_d 26940 [] [39] [(39,bv (x37.Low.B !=(w64 ((w64 (s27.1+1))+1))))] [] [] (zK 2 (kQ (kk:=.i64) 53 153 7 Term.enc (.tmp 32) (.tmp 33) h38) zB) ?_
    refine zG 39 (fun h39=>?_) (fun h39=>?_)
    ·refine J_g 107764 [] [(4,iv (-1))] [] zB ?_
     exact zU rfl
    ·refine J_d 26942 [] [1,39] [(1,iv (w64 ((w64 ((w64 (s27.1+1))+1))+1)))] [] [] zB ?_
     refine zA (fun x40 h41=>?_)
     refine J_d 107772 [] [49] [(49,bv (x40.Low.C !=(w64 ((w64 ((w64 (s27.1+1))+1))+1))))] [] [] (zK 2 (kQ (kk:=.i64) 53 153 7 Term.enc (.tmp 42) (.tmp 43) h41) zB) ?_
     refine zG 49 (fun h42=>?_) (fun h42=>?_)
     ·refine J_g 431092 [] [(4,iv (-1))] [] zB ?_
      exact zU rfl
     ·refine J_d 107774 [] [1,49] [(1,iv (w64 ((w64 ((w64 ((w64 (s27.1+1))+1))+1))+1)))] [] [] zB ?_
      refine zA (fun x43 h44=>?_)
      refine J_d 431100 [] [59] [(59,bv (x43.High.A !=(w64 ((w64 ((w64 ((w64 (s27.1+1))+1))+1))+1))))] [] [] (zK 2 (kQ (kk:=.i64) 53 153 7 Term.enc (.tmp 52) (.tmp 53) h44) zB) ?_
      refine zG 59 (fun h45=>?_) (fun h45=>?_)
      ·refine J_g 1724404 [] [(4,iv (-1))] [] zB ?_
       exact zU rfl
      ·refine J_d 431102 [] [1,59] [(1,iv (w64 ((w64 ((w64 ((w64 ((w64 (s27.1+1))+1))+1))+1))+1)))] [] [] zB ?_
       refine zA (fun x46 h47=>?_)
       refine J_d 1724412 [] [69] [(69,bv (x46.High.B !=(w64 ((w64 ((w64 ((w64 ((w64 (s27.1+1))+1))+1))+1))+1))))] [] [] (zK 2 (kQ (kk:=.i64) 53 153 7 Term.enc (.tmp 62) (.tmp 63) h47) zB) ?_
       refine zG 69 (fun h48=>?_) (fun h48=>?_)
       ·refine J_g 6897652 [] [(4,iv (-1))] [] zB ?_
        exact zU rfl
       ·refine J_d 1724414 [] [1,69] [(1,iv (w64 ((w64 ((w64 ((w64 ((w64 ((w64 (s27.1+1))+1))+1))+1))+1))+1)))] [] [] zB ?_
        refine zA (fun x49 h50=>?_)
        refine J_d 6897660 [] [79] [(79,bv (x49.High.C !=(w64 ((w64 ((w64 ((w64 ((w64 ((w64 (s27.1+1))+1))+1))+1))+1))+1))))] [] [] (zK 2 (kQ (kk:=.i64) 53 153 7 Term.enc (.tmp 72) (.tmp 73) h50) zB) ?_
        refine zG 79 (fun h51=>?_) (fun h51=>?_)
        ·refine J_g 27590644 [] [(4,iv (-1))] [] zB ?_
         exact zU rfl
        ·refine J_g 3448831 [] [(0,sl 7 Term.enc a1),(1,iv (w64 ((w64 ((w64 ((w64 ((w64 ((w64 ((w64 (s27.1+1))+1))+1))+1))+1))+1))+1))),(5,iv s27.2)] [] zB ?_
         refine J_d 211 [] [5] [(5,iv (w64 (s27.2+1)))] [] [] zB ?_
         exact J_q (J_b (ih (w64 ((w64 ((w64 ((w64 ((w64 ((w64 ((w64 (s27.1+1))+1))+1))+1))+1))+1))+1),w64 (s27.2+1)))) rfl
 ·exact vX (hk s27.1) rfl
theorem xZ.ok (a1:(List Term)) (a2:Int):Ok Tryz.prog 79 [sl 7 Term.enc a1,iv a2] [] ((xZ a1 a2).map fun r=>(iv r,[])):=by
 refine zL c79 Tryz.f79 0 83 (fun q=>?_)
 unfold xZ
 refine J_g 2 [] [(0,sl 7 Term.enc a1),(1,iv a2)] [] zB ?_
 refine J_d 12 [] [5] [(5,iv 0)] [] [] zB ?_
 refine zAt (K0:=(fun r:Int=>some (iv r,[]))) (fun _=>rfl) (jA.ok a1 q _ (fun v52=>J_j ?_) (a2,0))
 refine J_g 14 [] [(4,iv v52)] [] zB ?_
 exact zU rfl
noncomputable def zIG:Code:=(Tryz.f199.body).getD .skip
theorem uG.ok (a1:(List (List Term))) (q:Wd) (kn:Int→Option (D×List Ent)) (hk:∀v:Int,J (q.g Tryz.prog 199 0 21) zIG (atI zIG 7) (St.mk' [(1,iv v)] []) (some v) kn):
  ∀s9:(Int×Int),J (q.g Tryz.prog 199 0 21) zIG (atI zIG 52) (St.mk' [(0,sl 1 (eSl false 7 Term.enc) a1),(1,iv s9.1),(5,iv s9.2)] []) (uG a1 s9) (Fl.go (fun r:Int=>some (iv r,[])) kn):=by
 refine zAV (fun g ih s9=>?_)
 unfold vG
 refine J_d 208 [] [9] [(9,bv (decide (s9.2< (a1.length:Int))))] [] [] zB ?_
 refine zG 9 (fun h10=>?_) (fun h10=>?_)
 ·refine zA (fun x11 h12=>?_)
  refine zA (fun x13 h14=>?_)
  refine J_g 840 [] [(0,sl 1 (eSl false 7 Term.enc) a1),(1,iv x13),(5,iv s9.2)] [] (zK 2 (kQ (kk:=.i64) 87 53 1 (eSl false 7 Term.enc) (.tmp 12) (.tmp 13) h12) (zK 5 (xP [(.tmp 15),(.tmp 16)] [53,3] (xZ.ok x11 s9.1) h14) zB)) ?_
  refine J_d 1682 [] [19] [(19,bv (decide (x13<0)))] [] [] zB ?_
  refine zG 19 (fun h15=>?_) (fun h15=>?_)
  ·refine J_g 6732 [] [(4,iv (-1))] [] zB ?_
   exact zU rfl
  ·refine J_d 211 [] [5,19] [(5,iv (w64 (s9.2+1)))] [] [] zB ?_
   exact J_q (J_b (ih (x13,w64 (s9.2+1)))) rfl
 ·exact vX (hk s9.1) rfl
theorem vM.ok (a1:(List (List Term))) (a2:Int):Ok Tryz.prog 199 [sl 1 (eSl false 7 Term.enc) a1,iv a2] [] ((vM a1 a2).map fun r=>(iv r,[])):=by
 refine zL zIG Tryz.f199 0 21 (fun q=>?_)
 unfold vM
 refine J_g 2 [] [(0,sl 1 (eSl false 7 Term.enc) a1),(1,iv a2)] [] zB ?_
 refine J_d 12 [] [5] [(5,iv 0)] [] [] zB ?_
 refine zAt (K0:=(fun r:Int=>some (iv r,[]))) (fun _=>rfl) (uG.ok a1 q _ (fun v16=>J_j ?_) (a2,0))
 refine J_g 14 [] [(4,iv v16)] [] zB ?_
 exact zU rfl
noncomputable def zII:Code:=(Tryz.f121.body).getD .skip
theorem jD.ok (a1:(List Pack)) (q:Wd) (kn:Int→Option (D×List Ent)) (hk:∀v:Int,J (q.g Tryz.prog 121 0 89) zII (atI zII 7) (St.mk' [(1,iv v)] []) (some v) kn):
  ∀s36:(Int×Int),J (q.g Tryz.prog 121 0 89) zII (atI zII 52) (St.mk' [(0,sl 8 (Pack.enc false) a1),(1,iv s36.1),(5,iv s36.2)] []) (jD a1 s36) (Fl.go (fun r:Int=>some (iv r,[])) kn):=by
 refine zAV (fun g ih s36=>?_)
 unfold uI
 refine J_d 208 [] [9] [(9,bv (decide (s36.2< (a1.length:Int))))] [] [] zB ?_
 refine zG 9 (fun h37=>?_) (fun h37=>?_)
 ·refine zA (fun x38 h39=>?_)
  refine zA (fun x40 h41=>?_)
  refine J_d 1680 [] [9,19] [(19,bv (!(seq x38.Name x40)))] [] [] (zK 2 (kQ (kk:=.i64) 24 89 8 (Pack.enc false) (.tmp 12) (.tmp 13) h39) (zK 6 (xP [(.tmp 17)] [3] (zT.ok s36.1) h41) zB)) ?_
  refine zG 19 (fun h42=>?_) (fun h42=>?_)
  ·refine J_g 6724 [] [(4,iv (-1))] [] zB ?_
   exact zU rfl
  ·refine J_d 1682 [] [1,19] [(1,iv (w64 (s36.1+1)))] [] [] zB ?_
   refine zA (fun x43 h44=>?_)
   refine J_d 6732 [] [29] [(29,bv (x43.Version.A !=(w64 (s36.1+1))))] [] [] (zK 2 (kQ (kk:=.i64) 24 89 8 (Pack.enc false) (.tmp 22) (.tmp 23) h44) zB) ?_
   refine zG 29 (fun h45=>?_) (fun h45=>?_)
   ·refine J_g 26932 [] [(4,iv (-1))] [] zB ?_
    exact zU rfl
   ·refine J_d 6734 [] [1,29] [(1,iv (w64 ((w64 (s36.1+1))+1)))] [] [] zB ?_
    refine zA (fun x46 h47=>?_)
    refine J_d 26940 [] [39] [(39,bv (x46.Version.B !=(w64 ((w64 (s36.1+1))+1))))] [] [] (zK 2 (kQ (kk:=.i64) 24 89 8 (Pack.enc false) (.tmp 32) (.tmp 33) h47) zB) ?_
    refine zG 39 (fun h48=>?_) (fun h48=>?_)
    ·refine J_g 107764 [] [(4,iv (-1))] [] zB ?_
     exact zU rfl
    ·refine J_d 26942 [] [1,39] [(1,iv (w64 ((w64 ((w64 (s36.1+1))+1))+1)))] [] [] zB ?_
     refine zA (fun x49 h50=>?_)
     refine J_d 107772 [] [49] [(49,bv (x49.Version.C !=(w64 ((w64 ((w64 (s36.1+1))+1))+1))))] [] [] (zK 2 (kQ (kk:=.i64) 24 89 8 (Pack.enc false) (.tmp 42) (.tmp 43) h50) zB) ?_
     refine zG 49 (fun h51=>?_) (fun h51=>?_)
     ·refine J_g 431092 [] [(4,iv (-1))] [] zB ?_
      exact zU rfl
     ·refine J_d 107774 [] [1,49] [(1,iv (w64 ((w64 ((w64 ((w64 (s36.1+1))+1))+1))+1)))] [] [] zB ?_
      refine zA (fun x52 h53=>?_)
      refine J_d 431100 [] [58] [(58,bv (x52.Size !=(w64 ((w64 ((w64 ((w64 (s36.1+1))+1))+1))+1))))] [] [] (zK 2 (kQ (kk:=.i64) 24 89 8 (Pack.enc false) (.tmp 52) (.tmp 53) h53) zB) ?_
      refine zG 58 (fun h54=>?_) (fun h54=>?_)
      ·refine J_g 1724404 [] [(4,iv (-1))] [] zB ?_
       exact zU rfl
      ·refine J_d 431102 [] [1,58] [(1,iv (w64 ((w64 ((w64 ((w64 ((w64 (s36.1+1))+1))+1))+1))+1)))] [] [] zB ?_
       refine zA (fun x55 h56=>?_)
       refine zA (fun x57 h58=>?_)
       refine J_g 862206 [] [(0,sl 8 (Pack.enc false) a1),(1,iv x57),(5,iv s36.2)] [] (zK 2 (kQ (kk:=.i64) 24 89 8 (Pack.enc false) (.tmp 61) (.tmp 62) h56) (zK 6 (xP [(.tmp 65),(.tmp 66)] [70,3] (wK.ok x55.Provides (w64 ((w64 ((w64 ((w64 ((w64 (s36.1+1))+1))+1))+1))+1))) h58) zB)) ?_
       refine J_d 3448828 [] [69] [(69,bv (decide (x57<0)))] [] [] zB ?_
       refine zG 69 (fun h59=>?_) (fun h59=>?_)
       ·refine J_g 13795316 [] [(4,iv (-1))] [] zB ?_
        exact zU rfl
       ·refine zA (fun x60 h61=>?_)
        refine zA (fun x62 h63=>?_)
        refine J_g 3448830 [] [(0,sl 8 (Pack.enc false) a1),(1,iv x62),(5,iv s36.2)] [] (zK 2 (kQ (kk:=.i64) 24 89 8 (Pack.enc false) (.tmp 70) (.tmp 71) h61) (zK 6 (xP [(.tmp 74),(.tmp 75)] [87,3] (vM.ok x60.Needs x57) h63) zB)) ?_
        refine J_d 13795324 [] [78] [(78,bv (decide (x62<0)))] [] [] zB ?_
        refine zG 78 (fun h64=>?_) (fun h64=>?_)
        ·refine J_g 55181300 [] [(4,iv (-1))] [] zB ?_
         exact zU rfl
        ·refine zA (fun x65 h66=>?_)
         refine zA (fun x67 h68=>?_)
         refine J_g 13795326 [] [(0,sl 8 (Pack.enc false) a1),(1,iv x67),(5,iv s36.2)] [] (zK 2 (kQ (kk:=.i64) 24 89 8 (Pack.enc false) (.tmp 79) (.tmp 80) h66) (zK 6 (xP [(.tmp 83),(.tmp 84)] [53,3] (xZ.ok x65.Bars x62) h68) zB)) ?_
         refine J_d 27590654 [] [87] [(87,bv (decide (x67<0)))] [] [] zB ?_
         refine zG 87 (fun h69=>?_) (fun h69=>?_)
         ·refine J_g 110362620 [] [(4,iv (-1))] [] zB ?_
          exact zU rfl
         ·refine J_d 211 [] [5,87] [(5,iv (w64 (s36.2+1)))] [] [] zB ?_
          exact J_q (J_b (ih (x67,w64 (s36.2+1)))) rfl
 ·exact vX (hk s36.1) rfl
theorem tK.ok (a1:(List Pack)) (a2:Int):Ok Tryz.prog 121 [sl 8 (Pack.enc false) a1,iv a2] [] ((tK a1 a2).map fun r=>(iv r,[])):=by
 refine zL zII Tryz.f121 0 89 (fun q=>?_)
 unfold tK
 refine J_g 2 [] [(0,sl 8 (Pack.enc false) a1),(1,iv a2)] [] zB ?_
 refine J_d 12 [] [5] [(5,iv 0)] [] [] zB ?_
 refine zAt (K0:=(fun r:Int=>some (iv r,[]))) (fun _=>rfl) (jD.ok a1 q _ (fun v70=>J_j ?_) (a2,0))
 refine J_g 14 [] [(4,iv v70)] [] zB ?_
 exact zU rfl
noncomputable def zIF:Code:=(Tryz.f246.body).getD .skip
theorem jJ.ok (a1:(List Int)) (q:Wd) (kn:Int→Option (D×List Ent)) (hk:∀v:Int,J (q.g Tryz.prog 246 0 22) zIF (atI zIF 7) (St.mk' [(1,iv v)] []) (some v) kn):
  ∀s7:(Int×Int),J (q.g Tryz.prog 246 0 22) zIF (atI zIF 52) (St.mk' [(0,sl 1 eU8 a1),(1,iv s7.1),(5,iv s7.2)] []) (jJ a1 s7) (Fl.go (fun r:Int=>some (iv r,[])) kn):=by
 refine zAV (fun g ih s7=>?_)
 unfold vY
 refine J_d 208 [] [9] [(9,bv (decide (s7.2< (a1.length:Int))))] [] [] zB ?_
 refine zG 9 (fun h8=>?_) (fun h8=>?_)
 ·refine zA (fun x9 h10=>?_)
  refine J_d 1680 [] [9,18] [(18,bv (x9 !=(IntKind.u8.wrap (s7.1))))] [] [] (zK 2 (kQ (kk:=.i64) 111 5 1 eU8 (.tmp 12) (.tmp 13) h10) zB) ?_
  refine zG 18 (fun h11=>?_) (fun h11=>?_)
  ·refine J_g 6724 [] [(4,iv (-1))] [] zB ?_
   exact zU rfl
  ·refine J_g 841 [] [(0,sl 1 eU8 a1),(1,iv (w64 (s7.1+1))),(5,iv s7.2)] [] zB ?_
   refine J_d 211 [] [5] [(5,iv (w64 (s7.2+1)))] [] [] zB ?_
   exact J_q (J_b (ih (w64 (s7.1+1),w64 (s7.2+1)))) rfl
 ·exact vX (hk s7.1) rfl
theorem tO.ok (a1:(List Int)) (a2:Int):Ok Tryz.prog 246 [sl 1 eU8 a1,iv a2] [] ((tO a1 a2).map fun r=>(iv r,[])):=by
 refine zL zIF Tryz.f246 0 22 (fun q=>?_)
 unfold tO
 refine J_g 2 [] [(0,sl 1 eU8 a1),(1,iv a2)] [] zB ?_
 refine J_d 12 [] [5] [(5,iv 0)] [] [] zB ?_
 refine zAt (K0:=(fun r:Int=>some (iv r,[]))) (fun _=>rfl) (jJ.ok a1 q _ (fun v12=>J_j ?_) (a2,0))
 refine J_g 14 [] [(4,iv v12)] [] zB ?_
 exact zU rfl
noncomputable def zIH:Code:=(Tryz.f165.body).getD .skip
theorem jC.ok (a1:(List File)) (q:Wd) (kn:Int→Option (D×List Ent)) (hk:∀v:Int,J (q.g Tryz.prog 165 0 32) zIH (atI zIH 7) (St.mk' [(1,iv v)] []) (some v) kn):
  ∀s14:(Int×Int),J (q.g Tryz.prog 165 0 32) zIH (atI zIH 52) (St.mk' [(0,sl 2 (File.enc false) a1),(1,iv s14.1),(5,iv s14.2)] []) (jC a1 s14) (Fl.go (fun r:Int=>some (iv r,[])) kn):=by
 refine zAV (fun g ih s14=>?_)
 unfold uO
 refine J_d 208 [] [9] [(9,bv (decide (s14.2< (a1.length:Int))))] [] [] zB ?_
 refine zG 9 (fun h15=>?_) (fun h15=>?_)
 ·refine zA (fun x16 h17=>?_)
  refine zA (fun x18 h19=>?_)
  refine J_d 1680 [] [9,19] [(19,bv (!(seq x16.Path x18)))] [] [] (zK 2 (kQ (kk:=.i64) 25 113 2 (File.enc false) (.tmp 12) (.tmp 13) h17) (zK 6 (xP [(.tmp 17)] [3] (zT.ok s14.1) h19) zB)) ?_
  refine zG 19 (fun h20=>?_) (fun h20=>?_)
  ·refine J_g 6724 [] [(4,iv (-1))] [] zB ?_
   exact zU rfl
  ·refine J_d 1682 [] [1,19] [(1,iv (w64 (s14.1+1)))] [] [] zB ?_
   refine zA (fun x21 h22=>?_)
   refine zA (fun x23 h24=>?_)
   refine J_g 3366 [] [(0,sl 2 (File.enc false) a1),(1,iv x23),(5,iv s14.2)] [] (zK 2 (kQ (kk:=.i64) 25 113 2 (File.enc false) (.tmp 22) (.tmp 23) h22) (zK 6 (xP [(.tmp 26),(.tmp 27)] [111,3] (tO.ok x21.Data (w64 (s14.1+1))) h24) zB)) ?_
   refine J_d 6734 [] [30] [(30,bv (decide (x23<0)))] [] [] zB ?_
   refine zG 30 (fun h25=>?_) (fun h25=>?_)
   ·refine J_g 26940 [] [(4,iv (-1))] [] zB ?_
    exact zU rfl
   ·refine J_d 211 [] [5,30] [(5,iv (w64 (s14.2+1)))] [] [] zB ?_
    exact J_q (J_b (ih (x23,w64 (s14.2+1)))) rfl
 ·exact vX (hk s14.1) rfl
theorem tF.ok (a1:(List File)) (a2:Int):Ok Tryz.prog 165 [sl 2 (File.enc false) a1,iv a2] [] ((tF a1 a2).map fun r=>(iv r,[])):=by
 refine zL zIH Tryz.f165 0 32 (fun q=>?_)
 unfold tF
 refine J_g 2 [] [(0,sl 2 (File.enc false) a1),(1,iv a2)] [] zB ?_
 refine J_d 12 [] [5] [(5,iv 0)] [] [] zB ?_
 refine zAt (K0:=(fun r:Int=>some (iv r,[]))) (fun _=>rfl) (jC.ok a1 q _ (fun v26=>J_j ?_) (a2,0))
 refine J_g 14 [] [(4,iv v26)] [] zB ?_
 exact zU rfl
noncomputable def c89:Code:=(Tryz.f89.body).getD .skip
theorem jP.ok (a1:zC) (a2:Int):Ok Tryz.prog 89 [.ag (zC.enc false a1),iv a2] [] ((jP a1 a2).map fun r=>(iv r,[])):=by
 refine zL c89 Tryz.f89 0 12 (fun q=>?_)
 unfold jP
 refine J_g 2 [(0,0)] [(1,iv a2),(2,pp 0)] [(0,.box (zC.enc false a1))] zB ?_
 refine zA (fun x3 h4=>?_)
 refine J_g 6 [] [(1,iv x3)] [] (zK 3 (xP [(.tmp 6),(.tmp 7)] [25,3] (tF.ok a1.Files a2) h4) zB) ?_
 refine J_g 28 [] [(1,iv x3),(10,bv (decide (x3<0)))] [] zB ?_
 refine zG 10 (fun h5=>?_) (fun h5=>?_)
 ·refine J_g 116 [] [(4,iv (-1))] [] zB ?_
  exact zU rfl
 ·refine J_g 30 [] [(4,iv x3)] [] zB ?_
  exact zU rfl
noncomputable def c60:Code:=(Tryz.f60.body).getD .skip
theorem vD.ok (a1:System) (a2:Int):Ok Tryz.prog 60 [.ag (System.enc false a1),iv a2] [] ((vD a1 a2).map fun r=>(iv r,[])):=by
 refine zL c60 Tryz.f60 0 18 (fun q=>?_)
 unfold vD
 refine J_g 2 [(0,0)] [(1,iv a2),(2,pp 0)] [(0,.box (System.enc false a1))] zB ?_
 refine zA (fun x3 h4=>?_)
 refine J_g 6 [] [(1,iv x3),(2,pp 0)] [(0,.box (System.enc false a1))] (zK 3 (xP [(.tmp 6),(.tmp 7)] [24,3] (tK.ok a1.Catalog a2) h4) zB) ?_
 refine J_d 28 [] [10] [(10,bv (decide (x3<0)))] [] [] zB ?_
 refine zG 10 (fun h5=>?_) (fun h5=>?_)
 ·refine J_g 116 [] [(4,iv (-1))] [] zB ?_
  exact zU rfl
 ·refine zA (fun x6 h7=>?_)
  refine J_g 30 [] [(1,iv x6)] [] (zK 3 (xP [(.tmp 12),(.tmp 13)] [27,3] (jP.ok a1.zC x3) h7) zB) ?_
  refine J_g 124 [] [(1,iv x6),(16,bv (decide (x6<0)))] [] zB ?_
  refine zG 16 (fun h8=>?_) (fun h8=>?_)
  ·refine J_g 500 [] [(4,iv (-1))] [] zB ?_
   exact zU rfl
  ·refine J_g 126 [] [(4,iv x6)] [] zB ?_
   exact zU rfl
noncomputable def c17:Code:=(Tryz.f17.body).getD .skip
theorem yE.ok (a1:zD) (a2:Int):Ok Tryz.prog 17 [.ag (zD.enc false a1),iv a2] [] ((yE a1 a2).map fun r=>(iv r,[])):=by
 refine zL c17 Tryz.f17 0 12 (fun q=>?_)
 unfold yE
 refine J_g 2 [(0,0)] [(1,iv a2),(2,pp 0)] [(0,.box (zD.enc false a1))] zB ?_
 refine zA (fun x3 h4=>?_)
 refine J_g 6 [] [(1,iv x3)] [] (zK 3 (xP [(.tmp 6),(.tmp 7)] [29,3] (vD.ok a1.System a2) h4) zB) ?_
 refine J_g 28 [] [(1,iv x3),(10,bv (decide (x3<0)))] [] zB ?_
 refine zG 10 (fun h5=>?_) (fun h5=>?_)
 ·refine J_g 116 [] [(4,iv (-1))] [] zB ?_
  exact zU rfl
 ·refine J_g 30 [] [(4,iv x3)] [] zB ?_
  exact zU rfl
noncomputable def c3:Code:=(Tryz.f3.body).getD .skip
theorem yP.ok (a1:(List Pack)) (a2:Int):Ok Tryz.prog 3 [sl 8 (Pack.enc false) a1,iv a2] [] ((yP a1 a2).map fun r=>(bv r,[])):=by
 refine zL c3 Tryz.f3 0 74 (fun q=>?_)
 unfold yP
 refine J_g 2 [] [(0,sl 8 (Pack.enc false) a1),(1,iv a2)] [] zB ?_
 refine J_d 6 [] [5] [(5,iv 1048576)] [] [] zB ?_
 refine zA (fun x3 h4=>?_)
 refine J_g 14 [] [(0,sl 8 (Pack.enc false) a1),(1,iv a2),(5,iv x3)] [] (zK 2 (xP [(.tmp 13),(.tmp 14)] [22,3] (zAd.ok a1 1048576) h4) zB) ?_
 refine J_d 60 [] [5,17] [(17,bv (decide (x3<0)))] [] [] zB ?_
 refine zG 17 (fun h5=>?_) (fun h5=>?_)
 ·refine J_g 244 [] [(4,bv true)] [] zB ?_
  exact zU rfl
 ·refine zA (fun x6 h7=>?_)
  refine zA (fun x8 h9=>?_)
  refine J_d 62 [(4,3)] [6,17] [(6,pp 3)] [1,2,3] [(1,rE 8 (Pack.enc true) x8.System.Catalog),(2,rE 2 (File.enc false) x8.System.zC.Files),(3,.box [iv x8.Code,iv x8.Choices,rr 1 x8.System.Catalog,rr 2 x8.System.zC.Files,iv x8.System.zC.Budget,iv x8.System.zC.Writes,iv x8.System.zC.Stop,bv x8.System.zC.Down])] (zK 1 (zKe (d2:=sl 8 (Pack.enc false) x6) (zAQ («as»:=[sl 8 (Pack.enc false) a1]) [(.tmp 18)] [22] false [] [] (.cons (.same rfl) (.nil)) (xD.ok a1) h7 (.own 0)) (.rf (Nat.le_of_eq (by simp)) (zHH (enc:=(Pack.enc true)) (enc':=(Pack.enc false)) (Pack.ro true) x6 rfl rfl))) (zK 3 (zAQ («as»:=[sl 8 (Pack.enc false) x6,iv a2]) [(.tmp 19),(.tmp 20)] [24,2] false [] [] (.cons (.same rfl) (.cons (.same rfl) (.nil))) (wU.ok x6 a2) h9 (.ag (.cons (.same rfl rfl) (.cons (.same rfl rfl) (.cons (.own 1) (.cons (.own 2) (.cons (.same rfl rfl) (.cons (.same rfl rfl) (.cons (.same rfl rfl) (.cons (.same rfl rfl) (.nil))))))))))) zB)) ?_
  refine zA (fun x10 h11=>?_)
  refine J_d 126 [] [7] [(7,rr 4 x10)] [4] [(4,rE 8 (Pack.enc true) x10)] (zK 1 (zAQ («as»:=[sl 8 (Pack.enc false) a1]) [(.tmp 22)] [22] false [] [] (.cons (.same rfl) (.nil)) (xD.ok a1) h11 (.own 4)) zB) ?_
  refine zA (fun x12 h13=>?_)
  refine J_d 254 [(3,7)] [8] [(8,pp 7)] [5,6,7] [(5,rE 8 (Pack.enc true) x12.System.Catalog),(6,rE 2 (File.enc true) x12.System.zC.Files),(7,.box [iv x12.Code,iv x12.Choices,rr 5 x12.System.Catalog,rr 6 x12.System.zC.Files,iv x12.System.zC.Budget,iv x12.System.zC.Writes,iv x12.System.zC.Stop,bv x12.System.zC.Down])] (zK 2 (zAQ («as»:=[rr 4 x10,iv a2]) [(.tmp 24),(.tmp 25)] [24,2] true [(4,rE 8 (Pack.enc true) x10)] [] (.cons (zCA (.head _) (Pack.ro true) rfl) (.cons (.same rfl) (.nil))) (xG.ok x10 a2) h13 (.ag (.cons (.same rfl rfl) (.cons (.same rfl rfl) (.cons (.own 5) (.cons (.own 6) (.cons (.same rfl rfl) (.cons (.same rfl rfl) (.cons (.same rfl rfl) (.cons (.same rfl rfl) (.nil)))))))))) (hbor:=fun _=>⟨fhN,(zGw (zD.fl _))⟩)) zB) ?_
  refine zA (fun x14 h15=>?_)
  refine J_d 1020 [] [30] [(30,bv (!x14))] [] [] (zK 2 (zAQ («as»:=[.ag [iv x12.Code,iv x12.Choices,rr 5 x12.System.Catalog,rr 6 x12.System.zC.Files,iv x12.System.zC.Budget,iv x12.System.zC.Writes,iv x12.System.zC.Stop,bv x12.System.zC.Down],.ag [iv x8.Code,iv x8.Choices,rr 1 x8.System.Catalog,rr 2 x8.System.zC.Files,iv x8.System.zC.Budget,iv x8.System.zC.Writes,iv x8.System.zC.Stop,bv x8.System.zC.Down]]) [(.tmp 27),(.tmp 28)] [31,31] true [(5,rE 8 (Pack.enc true) x12.System.Catalog),(6,rE 2 (File.enc true) x12.System.zC.Files),(1,rE 8 (Pack.enc true) x8.System.Catalog),(2,rE 2 (File.enc false) x8.System.zC.Files)] [] (.cons (.ag (.cons (.same rfl) (.cons (.same rfl) (.cons (zCA (.head _) (Pack.ro true) rfl) (.cons (zCA (.tail _ (.head _)) (File.ro true) rfl) (.cons (.same rfl) (.cons (.same rfl) (.cons (.same rfl) (.cons (.same rfl) (.nil)))))))))) (.cons (.ag (.cons (.same rfl) (.cons (.same rfl) (.cons (zCA (.tail _ (.tail _ (.head _))) (Pack.ro true) rfl) (.cons (zCA (.tail _ (.tail _ (.tail _ (.head _)))) (File.ro false) rfl) (.cons (.same rfl) (.cons (.same rfl) (.cons (.same rfl) (.cons (.same rfl) (.nil)))))))))) (.nil))) (yC.ok x12 x8) h15 (.same rfl rfl) (hbor:=fun _=>⟨fhN,yD⟩)) zB) ?_
  refine zG 30 (fun h16=>?_) (fun h16=>?_)
  ·refine J_g 4084 [] [(4,bv false)] [] zB ?_
   exact zU rfl
  ·refine zA (fun x17 h18=>?_)
   refine zA (fun x19 h20=>?_)
   refine J_d 2044 [] [30,35] [(35,bv (!x19))] [] [] (zK 2 (zAQ («as»:=[sl 8 (Pack.enc false) a1]) [(.tmp 32)] [22] false [] [] (.cons (.same rfl) (.nil)) (xD.ok a1) h18 (.own 8)) (zK 3 (zAQ («as»:=[rr 4 x10,rr 8 x17]) [(.tmp 31),(.tmp 33)] [24,24] true [(4,rE 8 (Pack.enc true) x10),(8,rE 8 (Pack.enc true) x17)] [] (.cons (zCA (.head _) (Pack.ro true) rfl) (.cons (zCA (.tail _ (.head _)) (Pack.ro true) rfl) (.nil))) (uS.ok x10 x17) h20 (.same rfl rfl) (hbor:=fun _=>⟨fhN,yD⟩)) zB)) ?_
   refine zG 35 (fun h21=>?_) (fun h21=>?_)
   ·refine J_g 8180 [] [(4,bv false)] [] zB ?_
    exact zU rfl
   ·refine J_d 2046 [] [9,35] [(9,iv 1)] [] [] zB ?_
    refine zA (fun x22 h23=>?_)
    refine J_g 4094 [] [(0,sl 8 (Pack.enc false) a1),(1,iv a2),(6,pp 3),(8,pp 7),(9,iv x22.1)] [(1,rE 8 (Pack.enc true) x8.System.Catalog),(2,rE 2 (File.enc false) x8.System.zC.Files),(3,.box [iv x8.Code,iv x8.Choices,rr 1 x8.System.Catalog,rr 2 x8.System.zC.Files,iv x8.System.zC.Budget,iv x8.System.zC.Writes,iv x8.System.zC.Stop,bv x8.System.zC.Down]),(5,rE 8 (Pack.enc true) x12.System.Catalog),(6,rE 2 (File.enc true) x12.System.zC.Files),(7,.box [iv x12.Code,iv x12.Choices,rr 5 x12.System.Catalog,rr 6 x12.System.zC.Files,iv x12.System.zC.Budget,iv x12.System.zC.Writes,iv x12.System.zC.Stop,bv x12.System.zC.Down])] (zK 2 (zAQ («as»:=[rr 4 x10,iv 1]) [(.tmp 36),(.tmp 37)] [24,3] false [(4,rE 8 (Pack.enc true) x10)] [4] (.cons (.rf rfl) (.cons (.same rfl) (.nil))) (xK.ok x10 1) h23 (.same rfl rfl)) zB) ?_
    refine zAZ (atI c3 16381) (fun v27:Bool=>St.mk' [(0,sl 8 (Pack.enc false) a1),(1,iv a2),(6,pp 3),(8,pp 7),(46,bv v27)] [(1,rE 8 (Pack.enc true) x8.System.Catalog),(2,rE 2 (File.enc false) x8.System.zC.Files),(3,.box [iv x8.Code,iv x8.Choices,rr 1 x8.System.Catalog,rr 2 x8.System.zC.Files,iv x8.System.zC.Budget,iv x8.System.zC.Writes,iv x8.System.zC.Stop,bv x8.System.zC.Down]),(5,rE 8 (Pack.enc true) x12.System.Catalog),(6,rE 2 (File.enc true) x12.System.zC.Files),(7,.box [iv x12.Code,iv x12.Choices,rr 5 x12.System.Catalog,rr 6 x12.System.zC.Files,iv x12.System.zC.Budget,iv x12.System.zC.Writes,iv x12.System.zC.Stop,bv x12.System.zC.Down])]) (fun v27=>?_) (fun jv27=>?_)
    ·refine zG 46 (fun h28=>?_) (fun h28=>?_)
     ·refine J_g 65524 [] [(4,bv false)] [] zB ?_
      exact zU rfl
     ·refine J_d 16382 [] [10,46] [(10,iv 1)] [] [] zB ?_
      refine zA (fun x29 h30=>?_)
      refine J_g 32766 [] [(0,sl 8 (Pack.enc false) a1),(1,iv a2),(6,pp 3),(8,pp 7),(10,iv x29.1)] [(1,rE 8 (Pack.enc true) x8.System.Catalog),(2,rE 2 (File.enc false) x8.System.zC.Files),(3,.box [iv x8.Code,iv x8.Choices,rr 1 x8.System.Catalog,rr 2 x8.System.zC.Files,iv x8.System.zC.Budget,iv x8.System.zC.Writes,iv x8.System.zC.Stop,bv x8.System.zC.Down]),(5,rE 8 (Pack.enc true) x29.2.1),(6,rE 2 (File.enc true) x29.2.2),(7,.box [iv x12.Code,iv x12.Choices,rr 5 x12.System.Catalog,rr 6 x12.System.zC.Files,iv x12.System.zC.Budget,iv x12.System.zC.Writes,iv x12.System.zC.Stop,bv x12.System.zC.Down])] (zK 2 (zAQ («as»:=[.ag [iv x12.Code,iv x12.Choices,rr 5 x12.System.Catalog,rr 6 x12.System.zC.Files,iv x12.System.zC.Budget,iv x12.System.zC.Writes,iv x12.System.zC.Stop,bv x12.System.zC.Down],iv 1]) [(.tmp 47),(.tmp 48)] [31,3] false [(5,rE 8 (Pack.enc true) x12.System.Catalog),(6,rE 2 (File.enc true) x12.System.zC.Files)] [5,6] (.cons (.ag (.cons (.same rfl) (.cons (.same rfl) (.cons (.rf rfl) (.cons (.rf rfl) (.cons (.same rfl) (.cons (.same rfl) (.cons (.same rfl) (.cons (.same rfl) (.nil)))))))))) (.cons (.same rfl) (.nil))) (yM.ok x12 1) h30 (.same rfl rfl)) zB) ?_
      refine zA (fun u31 h32=>?_)
      refine zA (fun u33 h34=>?_)
      refine zCj (σ':=St.mk' [(0,sl 8 (Pack.enc false) a1),(1,iv a2),(6,pp 3),(8,pp 7),(10,iv x29.1)] [(1,rE 8 (Pack.enc true) x8.System.Catalog),(2,rE 2 (File.enc false) x8.System.zC.Files),(3,.box [iv x8.Code,iv x8.Choices,rr 1 x8.System.Catalog,rr 2 x8.System.zC.Files,iv x8.System.zC.Budget,iv x8.System.zC.Writes,iv x8.System.zC.Stop,bv x8.System.zC.Down]),(5,rE 8 (Pack.enc true) x29.2.1),(6,rE 2 (File.enc true) x29.2.2),(7,.box [iv x12.Code,iv x12.Choices,rr 5 x29.2.1,rr 6 x29.2.2,iv x12.System.zC.Budget,iv x12.System.zC.Writes,iv x12.System.zC.Stop,bv x12.System.zC.Down])]) (by simp only [rr,zAp h32,zAp h34]) ?_
      refine J_d 65534 [] [11] [(11,iv 1)] [] [] zB ?_
      refine zA (fun x35 h36=>?_)
      refine J_g 131070 [] [(0,sl 8 (Pack.enc false) a1),(1,iv a2),(6,pp 3),(8,pp 7),(10,iv x29.1),(11,iv x35)] [(1,rE 8 (Pack.enc true) x8.System.Catalog),(2,rE 2 (File.enc false) x8.System.zC.Files),(3,.box [iv x8.Code,iv x8.Choices,rr 1 x8.System.Catalog,rr 2 x8.System.zC.Files,iv x8.System.zC.Budget,iv x8.System.zC.Writes,iv x8.System.zC.Stop,bv x8.System.zC.Down]),(5,rE 8 (Pack.enc true) x29.2.1),(6,rE 2 (File.enc true) x29.2.2),(7,.box [iv x12.Code,iv x12.Choices,rr 5 x29.2.1,rr 6 x29.2.2,iv x12.System.zC.Budget,iv x12.System.zC.Writes,iv x12.System.zC.Stop,bv x12.System.zC.Down])] (zK 2 (zAQ («as»:=[.ag [iv x12.Code,iv x12.Choices,rr 5 x29.2.1,rr 6 x29.2.2,iv x12.System.zC.Budget,iv x12.System.zC.Writes,iv x12.System.zC.Stop,bv x12.System.zC.Down],iv 1]) [(.tmp 50),(.tmp 51)] [31,3] true [(5,rE 8 (Pack.enc true) x29.2.1),(6,rE 2 (File.enc true) x29.2.2)] [] (.cons (.ag (.cons (.same rfl) (.cons (.same rfl) (.cons (zCA (.head _) (Pack.ro true) rfl) (.cons (zCA (.tail _ (.head _)) (File.ro true) rfl) (.cons (.same rfl) (.cons (.same rfl) (.cons (.same rfl) (.cons (.same rfl) (.nil)))))))))) (.cons (.same rfl) (.nil))) (yE.ok ({Code:=x12.Code,Choices:=x12.Choices,System:=({Catalog:=x29.2.1,zC:=({Files:=x29.2.2,Budget:=x12.System.zC.Budget,Writes:=x12.System.zC.Writes,Stop:=x12.System.zC.Stop,Down:=x12.System.zC.Down}:zC)}:System)}:zD) 1) h36 (.same rfl rfl) (hbor:=fun _=>⟨fhN,yD⟩)) zB) ?_
      refine J_d 524284 [] [54] [(54,bv (decide (x35<0)))] [] [] zB ?_
      refine zG 54 (fun h37=>?_) (fun h37=>?_)
      ·refine J_g 2097140 [] [(4,bv false)] [] zB ?_
       exact zU rfl
      ·refine J_d 1048572 [] [11,54,57] [(57,bv (x35 !=x29.1))] [] [] zB ?_
       refine zG 57 (fun h38=>?_) (fun h38=>?_)
       ·refine J_g 4194292 [] [(4,bv false)] [] zB ?_
        exact zU rfl
       ·refine zA (fun x39 h40=>?_)
        refine zA (fun x41 h42=>?_)
        refine J_d 1048574 [(4,11)] [0,1,12,57] [(12,pp 11)] [9,10,11] [(9,rE 8 (Pack.enc true) x41.System.Catalog),(10,rE 2 (File.enc true) x41.System.zC.Files),(11,.box [iv x41.Code,iv x41.Choices,rr 9 x41.System.Catalog,rr 10 x41.System.zC.Files,iv x41.System.zC.Budget,iv x41.System.zC.Writes,iv x41.System.zC.Stop,bv x41.System.zC.Down])] (zK 1 (zAQ («as»:=[sl 8 (Pack.enc false) a1]) [(.tmp 58)] [22] false [] [] (.cons (.same rfl) (.nil)) (xD.ok a1) h40 (.own 8)) (zK 3 (zAQ («as»:=[rr 8 x39,iv a2]) [(.tmp 59),(.tmp 60)] [24,2] true [(8,rE 8 (Pack.enc true) x39)] [] (.cons (zCA (.head _) (Pack.ro true) rfl) (.cons (.same rfl) (.nil))) (xG.ok x39 a2) h42 (.ag (.cons (.same rfl rfl) (.cons (.same rfl rfl) (.cons (.own 9) (.cons (.own 10) (.cons (.same rfl rfl) (.cons (.same rfl rfl) (.cons (.same rfl rfl) (.cons (.same rfl rfl) (.nil)))))))))) (hbor:=fun _=>⟨fhN,(zGw (zD.fl _))⟩)) zB)) ?_
        refine zA (fun x43 h44=>?_)
        refine J_d 4194300 [] [6,12,65] [(65,bv (!x43))] [1,2,3,9,10,11] [] (zK 2 (zAQ («as»:=[.ag [iv x41.Code,iv x41.Choices,rr 9 x41.System.Catalog,rr 10 x41.System.zC.Files,iv x41.System.zC.Budget,iv x41.System.zC.Writes,iv x41.System.zC.Stop,bv x41.System.zC.Down],.ag [iv x8.Code,iv x8.Choices,rr 1 x8.System.Catalog,rr 2 x8.System.zC.Files,iv x8.System.zC.Budget,iv x8.System.zC.Writes,iv x8.System.zC.Stop,bv x8.System.zC.Down]]) [(.tmp 62),(.tmp 63)] [31,31] true [(9,rE 8 (Pack.enc true) x41.System.Catalog),(10,rE 2 (File.enc true) x41.System.zC.Files),(1,rE 8 (Pack.enc true) x8.System.Catalog),(2,rE 2 (File.enc false) x8.System.zC.Files)] [] (.cons (.ag (.cons (.same rfl) (.cons (.same rfl) (.cons (zCA (.head _) (Pack.ro true) rfl) (.cons (zCA (.tail _ (.head _)) (File.ro true) rfl) (.cons (.same rfl) (.cons (.same rfl) (.cons (.same rfl) (.cons (.same rfl) (.nil)))))))))) (.cons (.ag (.cons (.same rfl) (.cons (.same rfl) (.cons (zCA (.tail _ (.tail _ (.head _))) (Pack.ro true) rfl) (.cons (zCA (.tail _ (.tail _ (.tail _ (.head _)))) (File.ro false) rfl) (.cons (.same rfl) (.cons (.same rfl) (.cons (.same rfl) (.cons (.same rfl) (.nil)))))))))) (.nil))) (yC.ok x41 x8) h44 (.same rfl rfl) (hbor:=fun _=>⟨fhN,yD⟩)) zB) ?_
        refine zG 65 (fun h45=>?_) (fun h45=>?_)
        ·refine J_g 16777204 [] [(4,bv false)] [] zB ?_
         exact zU rfl
        ·refine J_d 4194302 [] [11,65] [(11,iv 1)] [] [] zB ?_
         refine zA (fun x46 h47=>?_)
         refine J_g 8388606 [] [(10,iv x29.1),(11,iv x46)] [] (zK 2 (zAQ («as»:=[.ag [iv x12.Code,iv x12.Choices,rr 5 x29.2.1,rr 6 x29.2.2,iv x12.System.zC.Budget,iv x12.System.zC.Writes,iv x12.System.zC.Stop,bv x12.System.zC.Down],iv 1]) [(.tmp 66),(.tmp 67)] [31,3] true [(5,rE 8 (Pack.enc true) x29.2.1),(6,rE 2 (File.enc true) x29.2.2)] [] (.cons (.ag (.cons (.same rfl) (.cons (.same rfl) (.cons (zCA (.head _) (Pack.ro true) rfl) (.cons (zCA (.tail _ (.head _)) (File.ro true) rfl) (.cons (.same rfl) (.cons (.same rfl) (.cons (.same rfl) (.cons (.same rfl) (.nil)))))))))) (.cons (.same rfl) (.nil))) (yE.ok ({Code:=x12.Code,Choices:=x12.Choices,System:=({Catalog:=x29.2.1,zC:=({Files:=x29.2.2,Budget:=x12.System.zC.Budget,Writes:=x12.System.zC.Writes,Stop:=x12.System.zC.Stop,Down:=x12.System.zC.Down}:zC)}:System)}:zD) 1) h47 (.same rfl rfl) (hbor:=fun _=>⟨fhN,yD⟩)) zB) ?_
         refine J_d 33554428 [] [70] [(70,bv (decide (x46<0)))] [] [] zB ?_
         refine zG 70 (fun h48=>?_) (fun h48=>?_)
         ·refine J_g 134217716 [] [(4,bv false)] [] zB ?_
          exact zU rfl
         ·refine J_g 67108860 [] [(73,bv (x46 !=x29.1))] [] zB ?_
          refine zG 73 (fun h49=>?_) (fun h49=>?_)
          ·refine J_g 268435444 [] [(4,bv false)] [] zB ?_
           exact zU rfl
          ·refine J_g 67108862 [] [(4,bv true)] [] zB ?_
           exact zU rfl
    ·refine kI (fun h24=>?_) (fun h24=>?_)
     ·refine J_d 16380 [] [9,46] [(46,bv true)] [] [] (vV 2 [(40,bv (decide (x22.1<0)))] [] h24 zB) ?_
      exact vX (J_j (jv27 true)) rfl
     ·refine zA (fun x25 h26=>?_)
      refine J_d 16380 [] [9,46] [(46,bv (!x25))] [] [] (vV 2 [(40,bv (decide (x22.1<0)))] [] h24 (zCk 5 2 41 false (zAQ («as»:=[.ag [iv x12.Code,iv x12.Choices,rr 5 x12.System.Catalog,rr 6 x12.System.zC.Files,iv x12.System.zC.Budget,iv x12.System.zC.Writes,iv x12.System.zC.Stop,bv x12.System.zC.Down],.ag [iv x8.Code,iv x8.Choices,rr 1 x8.System.Catalog,rr 2 x8.System.zC.Files,iv x8.System.zC.Budget,iv x8.System.zC.Writes,iv x8.System.zC.Stop,bv x8.System.zC.Down]]) [(.tmp 42),(.tmp 43)] [31,31] true [(5,rE 8 (Pack.enc true) x12.System.Catalog),(6,rE 2 (File.enc true) x12.System.zC.Files),(1,rE 8 (Pack.enc true) x8.System.Catalog),(2,rE 2 (File.enc false) x8.System.zC.Files)] [] (.cons (.ag (.cons (.same rfl) (.cons (.same rfl) (.cons (zCA (.head _) (Pack.ro true) rfl) (.cons (zCA (.tail _ (.head _)) (File.ro true) rfl) (.cons (.same rfl) (.cons (.same rfl) (.cons (.same rfl) (.cons (.same rfl) (.nil)))))))))) (.cons (.ag (.cons (.same rfl) (.cons (.same rfl) (.cons (zCA (.tail _ (.tail _ (.head _))) (Pack.ro true) rfl) (.cons (zCA (.tail _ (.tail _ (.tail _ (.head _)))) (File.ro false) rfl) (.cons (.same rfl) (.cons (.same rfl) (.cons (.same rfl) (.cons (.same rfl) (.nil)))))))))) (.nil))) (yC.ok x12 x8) h26 (.same rfl rfl) (hbor:=fun _=>⟨fhN,yD⟩)) zB)) ?_
      exact vX (J_j (jv27 (!x25))) rfl
end Go.Told

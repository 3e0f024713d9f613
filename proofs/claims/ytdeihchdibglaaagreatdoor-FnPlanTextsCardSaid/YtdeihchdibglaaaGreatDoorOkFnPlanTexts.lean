import Derived.Test.YtdeihchdibglaaaGreatDoorOkFnPlanTextsx2
set_option linter.unusedVariables false
set_option maxRecDepth 4000
namespace Go.Told
open Go Go.Im Go.Proofs
noncomputable section
def c13:Code:=cdB Tryz.f13
theorem zDV.ok (a1:zC) (a2:(List Pack)) (a3:zP):Ok Tryz.prog 13 [pp 0,sl 8 (Pack.enc false) a2,pp 1] [.box (zC.enc false a1),.box (zP.enc false a3)] ((zDV a1 a2 a3).map fun r=>(so 1 (eSl false 1 zF) r.1,[.box (zC.enc false r.2),.box (zP.enc false a3)])):=by
 refine zJ c13 Tryz.f13 2 68 (fun q=>?_)
 unfold zDV
 refine J_d 2 [] [] [] [] [] zB ?_
 refine zA (fun x4 h5=>?_)
 refine J_d 12 [] [16] [(16,bv (x4 !=0))] [] [] (zD 4 (yG [(.tmp 11),(.tmp 14)] [24,39] (zDa.ok a2 a3) h5) zB) ?_
 refine zG 16 (fun h6=>?_) (fun h6=>?_)
 ·refine J_d 52 [] [0,1,2,6,16] [(6,nv)] [] [] zB ?_
  exact zEO (ds:=[nv]) (ds':=[so 1 (eSl false 1 zF) ([]:List (List Int))]) (.cons (.cell (.nilsl true 1 (.nil))) (.nil) (by decide)) rfl
 ·refine zA (fun x7 h8=>?_)
  refine J_d 14 [(3,2)] [2,7,16] [(7,pp 2)] [2] [(2,.box (wB.enc false x7))] (zD 2 (zH7 [(1,.box (zP.enc false a3))] [] (xH («as»:=[sl 8 (Pack.enc false) a2,pp 1]) [(.tmp 17),(.tmp 18)] [24,43] false [(1,.box (zP.enc false a3))] [1] (.cons (.same rfl) (.cons (.pt rfl) (.nil))) (zCL.ok a2 a3) h8 (.ag (.cons (.same rfl rfl) (.cons (.same rfl rfl) (.cons (.same rfl rfl) (.nil))))))) zB) ?_
  refine zA (fun x9 h10=>?_)
  refine zA (fun x11 h12=>?_)
  refine J_d 30 [(7,5)] [8] [(8,pp 5)] [0,4,5] [(0,.box (zC.enc false x9.2)),(4,rE 1 zF x11.Set),(5,.box [iv x11.Code,iv x11.Choices,rr 4 x11.Set])] (zD 3 (xH («as»:=[pp 0,sl 8 (Pack.enc false) a2]) [(.tmp 21),(.tmp 22)] [35,24] false [(0,.box (zC.enc false a1))] [0] (.cons (.pt rfl) (.cons (.same rfl) (.nil))) (vP.ok a1 a2) h10 (.own 3)) (zD 6 (xH («as»:=[sl 8 (Pack.enc false) a2,rr 3 x9.1,sl 1 zF x7.Set,iv 60]) [(.tmp 20),(.tmp 23),(.tmp 25),(.const (.int .i64 60))] [24,25,34,2] true [(3,rE 7 Term.enc x9.1)] [] (.cons (.same rfl) (.cons (zFJ (.head _) (fun _=>rfl) rfl) (.cons (.same rfl) (.cons (.same rfl) (.nil))))) (vN.ok a2 x9.1 x7.Set 60) h12 (.ag (.cons (.same rfl rfl) (.cons (.same rfl rfl) (.cons (.own 4) (.nil))))) (hbor:=fun _=>⟨fhN,(zMm (SolveResult.fl _))⟩)) zB)) ?_
  refine zU (atI c13 125) (fun v17:Bool=>St.mk' [(0,pp 0),(1,sl 8 (Pack.enc false) a2),(7,pp 2),(8,pp 5),(41,bv v17)] [(0,.box (zC.enc false x9.2)),(1,.box (zP.enc false a3)),(2,.box (wB.enc false x7)),(4,rE 1 zF x11.Set),(5,.box [iv x11.Code,iv x11.Choices,rr 4 x11.Set])]) (fun v17=>?_) (fun jv17=>?_)
  ·refine zG 41 (fun h18=>?_) (fun h18=>?_)
   ·refine J_d 500 [] [0,1,6,7,8,41] [(6,nv)] [2,4,5] [] zB ?_
    exact zEO (ds:=[nv]) (ds':=[so 1 (eSl false 1 zF) ([]:List (List Int))]) (.cons (.cell (.nilsl true 1 (.nil))) (.nil) (by decide)) rfl
   ·refine zA (fun x19 h20=>?_)
    refine J_d 126 [] [7,8,10,41] [(10,rr 7 x19.2)] [2,4,5,7] [(7,rE 1 (eSl false 1 zF) x19.2)] (zD 5 (zH7 [(4,rE 1 zF x11.Set)] [(6,rE 1 (eSl true 1 eStr) x19.1),(7,rE 1 (eSl false 1 zF) x19.2)] (xH («as»:=[sl 8 (Pack.enc false) a2,sl 1 zF x7.Set,rr 4 x11.Set]) [(.tmp 43),(.tmp 45),(.tmp 47)] [24,34,34] false [(4,rE 1 zF x11.Set)] [4] (.cons (.same rfl) (.cons (.same rfl) (.cons (.rf rfl) (.nil)))) (zIL.ok a2 x7.Set x11.Set) h20 (.tu (.cons (.own 6) (.cons (.own 7) (.nil)))))) zB) ?_
    refine zU (atI c13 509) (fun v24:((List Int)×Int×Bool)=>St.mk' [(0,pp 0),(1,sl 8 (Pack.enc false) a2),(10,rr 7 x19.2),(57,bv v24.2.2)] [(0,.box [sl 1 eU8 v24.1,iv v24.2.1]),(1,.box (zP.enc false a3)),(7,rE 1 (eSl false 1 zF) x19.2)]) (fun v24=>?_) (fun jv24=>?_)
    ·refine zU (atI c13 255) (fun v32:((List Int)×Int×(List (List Int)))=>St.mk' [(10,rr 9 v32.2.2)] [(0,.box [sl 1 eU8 v32.1,iv v32.2.1]),(1,.box (zP.enc false a3)),(9,rE 1 (eSl false 1 zF) v32.2.2)]) (fun v32=>?_) (fun jv32=>?_)
     ·refine J_g 510 [] [(6,rr 9 v32.2.2)] [(0,.box [sl 1 eU8 v32.1,iv v32.2.1]),(1,.box (zP.enc false a3)),(9,rE 1 (eSl false 1 zF) v32.2.2)] zB ?_
      exact zEO (ds:=[rr 9 v32.2.2]) (ds':=[so 1 (eSl false 1 zF) v32.2.2]) (.cons (.cell (.move (.tail _ (.tail _ (.head _))) (qC _) (by decide) (.nil))) (.nil) (by decide)) rfl
     ·refine zG 57 (fun h25=>?_) (fun h25=>?_)
      ·refine zA (fun x26 h27=>?_)
       refine zA (fun x28 h29=>?_)
       refine zA (fun x30 h31=>?_)
       refine J_g 1018 [] [(10,rr 9 x30)] [(0,.box (zC.enc false x28.2)),(1,.box (zP.enc false a3)),(9,rE 1 (eSl false 1 zF) x30)] (zD 2 (zAb (kk:=.i64) 26 34 1 7 (eSl false 1 zF) (.tmp 59) (.const (.int .i64 0)) h27) (zD 3 (zAa (d:=sl 1 zF x26) 34 1 7 0 (eSl false 1 zF) (.tmp 60) h27 (by kernel_rfl)) (zD 6 (xH («as»:=[pp 0,sl 8 (Pack.enc false) a2]) [(.tmp 62),(.tmp 63)] [35,24] false [(0,.box [sl 1 eU8 v24.1,iv v24.2.1])] [0] (.cons (.pt rfl) (.cons (.same rfl) (.nil))) (wX.ok ({Code:=v24.1,At:=v24.2.1}:zC) a2) h29 (.same rfl rfl)) (zD 7 (vM 26 34 1 8 (eSl false 1 zF) [x26,x28.1] [0,1] [(.tmp 61),(.tmp 64)] [sl 1 zF x26,sl 1 zF x28.1]) (zD 8 (zEQ 26 26 34 34 1 24 9 7 8 (eSl false 1 zF) (.tmp 58) (.tmp 65) h31) zB))))) ?_
       exact zN (J_j (jv32 (x28.2.Code,x28.2.At,x30))) rfl
      ·refine xV 7 9 (qB rfl) (qB rfl) ?_
       exact zN (J_j (jv32 (v24.1,v24.2.1,x19.2))) rfl
    ·refine xB (fun h21=>?_) (fun h21=>?_)
     ·refine zA (fun x22 h23=>?_)
      refine J_d 508 [] [57] [(57,bv x22.1)] [0] [(0,.box (zC.enc false x22.2))] (yO 3 [(53,bv (decide ((x19.2.length:Int)>0)))] [] h21 (uD 5 3 54 true (xH («as»:=[pp 0,iv 8]) [(.tmp 55),(.const (.int .i64 8))] [35,2] false [(0,.box (zC.enc false x9.2))] [0] (.cons (.pt rfl) (.cons (.same rfl) (.nil))) (zI.ok x9.2 8) h23 (.same rfl rfl)) zB)) ?_
      exact zN (J_j (jv24 (x22.2.Code,x22.2.At,x22.1))) rfl
     ·refine J_d 508 [] [57] [(57,bv false)] [] [] (yO 3 [(53,bv (decide ((x19.2.length:Int)>0)))] [] h21 zB) ?_
      exact zN (J_j (jv24 (x9.2.Code,x9.2.At,false))) rfl
  ·refine xB (fun h13=>?_) (fun h13=>?_)
   ·refine J_d 124 [] [41] [(41,bv true)] [] [] (yO 3 [(29,bv (x7.Code !=0))] [] h13 zB) ?_
    exact zN (J_j (jv17 true)) rfl
   ·refine xB (fun h14=>?_) (fun h14=>?_)
    ·refine J_d 124 [] [41] [(41,bv true)] [] [] (yO 3 [(29,bv (x7.Code !=0))] [] h13 (yO 8 [(34,bv (x11.Code !=0))] [] h14 zB)) ?_
     exact zN (J_j (jv17 true)) rfl
    ·refine zA (fun x15 h16=>?_)
     refine J_d 124 [] [41] [(41,bv (!x15))] [] [] (yO 3 [(29,bv (x7.Code !=0))] [] h13 (yO 8 [(34,bv (x11.Code !=0))] [] h14 (uD 12 8 35 false (yG [(.tmp 36),(.tmp 38)] [24,34] (kQ.ok a2 x7.Set) h16) zB))) ?_
     exact zN (J_j (jv17 (!x15))) rfl
def c14:Code:=cdB Tryz.f14
theorem zD9.ok (q:Wd) (kn:((List Int)×Int×(List Term))→Option (D×List Ent)) (hk:∀v:((List Int)×Int×(List Term)),J (q.g Tryz.prog 14 1 26) c14 (atI c14 15) (St.mk' [(0,pp 0),(3,rr 1 v.2.2)] [(0,.box [sl 1 eU8 v.1,iv v.2.1]),(1,rE 7 Term.enc v.2.2)]) (some v) kn):
  ∀s9:((List Int)×Int×(List Term)×Int),J (q.g Tryz.prog 14 1 26) c14 (atI c14 116) (St.mk' [(0,pp 0),(3,rr 1 s9.2.2.1),(4,iv s9.2.2.2)] [(0,.box [sl 1 eU8 s9.1,iv s9.2.1]),(1,rE 7 Term.enc s9.2.2.1)]) (zD9 s9) kn:=by
 refine uM (fun g ih s9=>?_)
 unfold zCQ
 refine J_d 464 [] [10] [(10,bv (decide (s9.2.2.2>0)))] [] [] zB ?_
 refine zG 10 (fun h10=>?_) (fun h10=>?_)
 ·refine zA (fun x11 h12=>?_)
  refine zA (fun x13 h14=>?_)
  refine J_g 932 [] [(0,pp 0),(3,rr 3 x13),(4,iv s9.2.2.2)] [(0,.box (zC.enc false x11.2)),(3,rE 7 Term.enc x13)] (zD 2 (xH («as»:=[pp 0]) [(.tmp 14)] [35] false [(0,.box [sl 1 eU8 s9.1,iv s9.2.1])] [0] (.cons (.pt rfl) (.nil)) (wP.ok ({Code:=s9.1,At:=s9.2.1}:zC)) h12 (.ag (.cons (.same rfl rfl) (.cons (.same rfl rfl) (.cons (.same rfl rfl) (.cons (.same rfl rfl) (.cons (.same rfl rfl) (.cons (.same rfl rfl) (.cons (.same rfl rfl) (.nil)))))))))) (zD 3 (vM 25 85 7 2 Term.enc [x11.1] [0] [(.tmp 15)] [.ag (Term.enc x11.1)]) (zD 4 (zEQ 25 25 85 85 7 64 3 1 2 Term.enc (.tmp 13) (.tmp 16) h14) zB))) ?_
  refine J_d 467 [] [4] [(4,iv (w64 (s9.2.2.2-1)))] [] [] zB ?_
  refine xV 3 1 (qB rfl) (qB rfl) ?_
  exact J_q (J_b (ih (x11.2.Code,x11.2.At,x13,w64 (s9.2.2.2-1)))) rfl
 ·exact zN (hk (s9.1,s9.2.1,s9.2.2.1)) rfl
theorem zDY.ok (a1:zC):Ok Tryz.prog 14 [pp 0] [.box (zC.enc false a1)] ((zDY a1).map fun r=>(so 7 Term.enc r.1,[.box (zC.enc false r.2)])):=by
 refine zJ c14 Tryz.f14 1 26 (fun q=>?_)
 unfold zDY
 refine J_g 2 [] [(0,pp 0)] [(0,.box (zC.enc false a1))] zB ?_
 refine J_d 6 [] [3] [(3,rr 1 ([]:List Term))] [1] [(1,rE 7 Term.enc ([]:List Term))] (zD 0 (vM 25 85 7 1 Term.enc ([]:List Term) [] [] []) zB) ?_
 refine zA (fun x2 h3=>?_)
 refine J_d 28 [] [4] [(4,iv x2.1)] [0] [(0,.box (zC.enc false x2.2))] (zD 1 (vM 34 2 1 2 zF [0,1,1,2,3] [0,1,2,3,4] [(.const (.int .i64 0)),(.const (.int .i64 1)),(.const (.int .i64 1)),(.const (.int .i64 2)),(.const (.int .i64 3))] [iv 0,iv 1,iv 1,iv 2,iv 3]) (zD 2 (xH («as»:=[pp 0,rr 2 [0,1,1,2,3]]) [(.tmp 6),(.tmp 7)] [35,34] false [(0,.box (zC.enc false a1)),(2,rE 1 zF [0,1,1,2,3])] [0,2] (.cons (.pt rfl) (.cons (.rf rfl) (.nil))) (zT.ok a1 [0,1,1,2,3]) h3 (.same rfl rfl)) zB)) ?_
 refine zEx (zD9.ok q _ (fun v15=>J_j ?_) (x2.2.Code,x2.2.At,([]:List Term),x2.1))
 refine zA (fun x16 h17=>?_)
 refine J_d 60 [] [19] [(19,bv x16.1)] [0] [(0,.box (zC.enc false x16.2))] (zD 1 (xH («as»:=[pp 0,iv 24]) [(.tmp 18),(.const (.int .i64 24))] [35,2] false [(0,.box [sl 1 eU8 v15.1,iv v15.2.1])] [0] (.cons (.pt rfl) (.cons (.same rfl) (.nil))) (zI.ok ({Code:=v15.1,At:=v15.2.1}:zC) 24) h17 (.same rfl rfl)) zB) ?_
 refine zU (atI c14 31) (fun v23:((List Int)×Int×(List Term))=>St.mk' [(3,rr 3 v23.2.2)] [(0,.box [sl 1 eU8 v23.1,iv v23.2.1]),(3,rE 7 Term.enc v23.2.2)]) (fun v23=>?_) (fun jv23=>?_)
 ·refine J_g 62 [] [(2,rr 3 v23.2.2)] [(0,.box [sl 1 eU8 v23.1,iv v23.2.1]),(3,rE 7 Term.enc v23.2.2)] zB ?_
  exact zEO (ds:=[rr 3 v23.2.2]) (ds':=[so 7 Term.enc v23.2.2]) (.cons (.cell (.move (.tail _ (.head _)) (qC _) (by decide) (.nil))) (.nil) (by decide)) rfl
 ·refine zG 19 (fun h18=>?_) (fun h18=>?_)
  ·refine zA (fun x19 h20=>?_)
   refine zA (fun x21 h22=>?_)
   refine J_g 122 [] [(3,rr 3 x21)] [(0,.box (zC.enc false x19.2)),(3,rE 7 Term.enc x21)] (zD 2 (xH («as»:=[pp 0]) [(.tmp 21)] [35] false [(0,.box (zC.enc false x16.2))] [0] (.cons (.pt rfl) (.nil)) (wI.ok x16.2) h20 (.ag (.cons (.same rfl rfl) (.cons (.same rfl rfl) (.cons (.same rfl rfl) (.cons (.same rfl rfl) (.cons (.same rfl rfl) (.cons (.same rfl rfl) (.cons (.same rfl rfl) (.nil)))))))))) (zD 3 (vM 25 85 7 2 Term.enc [x19.1] [0] [(.tmp 22)] [.ag (Term.enc x19.1)]) (zD 4 (zEQ 25 25 85 85 7 64 3 1 2 Term.enc (.tmp 20) (.tmp 23) h22) zB))) ?_
   exact zN (J_j (jv23 (x19.2.Code,x19.2.At,x21))) rfl
  ·refine xV 1 3 (qB rfl) (qB rfl) ?_
   exact zN (J_j (jv23 (x16.2.Code,x16.2.At,v15.2.2))) rfl
def c5:Code:=cdB Tryz.f5
theorem vT.ok (a1:(List Int)):Ok Tryz.prog 5 [sl 1 eU8 a1] [] ((vT a1).map fun r=>(.tu [sl 8 (Pack.enc false) r.1,so 7 Term.enc r.2.1,so 1 (eSl false 1 zF) r.2.2],[])):=by
 refine zJ c5 Tryz.f5 0 23 (fun q=>?_)
 unfold vT
 refine J_g 2 [] [(0,sl 1 eU8 a1)] [] zB ?_
 refine zA (fun x2 h3=>?_)
 refine J_g 6 [] [(5,pp 0)] [(0,.box (zC.enc false x2))] (zD 1 (xH («as»:=[sl 1 eU8 a1]) [(.tmp 9)] [22] false [] [] (.cons (.same rfl) (.nil)) (zB5.ok a1) h3 (.po 0 rfl)) zB) ?_
 refine zA (fun x4 h5=>?_)
 refine J_g 14 [(5,1)] [(5,pp 0),(6,sl 8 (Pack.enc false) x4.1),(7,pp 1)] [(0,.box (zC.enc false x4.2.2)),(1,.box (zP.enc false x4.2.1))] (zD 1 (xH («as»:=[pp 0]) [(.tmp 12)] [35] false [(0,.box (zC.enc false x2))] [0] (.cons (.pt rfl) (.nil)) (zDS.ok x2) h5 (.tu (.cons (.same rfl rfl) (.cons (.ag (.cons (.same rfl rfl) (.cons (.same rfl rfl) (.cons (.same rfl rfl) (.cons (.same rfl rfl) (.cons (.same rfl rfl) (.nil))))))) (.nil))))) zB) ?_
 refine zA (fun x6 h7=>?_)
 refine J_d 30 [] [7,8] [(8,rr 2 x6.1)] [0,1,2] [(0,.box (zC.enc false x6.2)),(2,rE 1 (eSl false 1 zF) x6.1)] (zD 2 (xH («as»:=[pp 0,sl 8 (Pack.enc false) x4.1,pp 1]) [(.tmp 16),(.tmp 17),(.tmp 7)] [35,24,43] false [(0,.box (zC.enc false x4.2.2)),(1,.box (zP.enc false x4.2.1))] [0,1] (.cons (.pt rfl) (.cons (.same rfl) (.cons (.pt rfl) (.nil)))) (zDV.ok x4.2.2 x4.1 x4.2.1) h7 (.own 2)) zB) ?_
 refine zA (fun x8 h9=>?_)
 refine J_g 62 [] [(2,sl 8 (Pack.enc false) x4.1),(3,rr 3 x8.1),(4,rr 2 x6.1)] [(2,rE 1 (eSl false 1 zF) x6.1),(3,rE 7 Term.enc x8.1)] (zD 2 (xH («as»:=[pp 0]) [(.tmp 20)] [35] false [(0,.box (zC.enc false x6.2))] [0] (.cons (.pt rfl) (.nil)) (zDY.ok x6.2) h9 (.own 3)) zB) ?_
 exact zEO (ds:=[sl 8 (Pack.enc false) x4.1,rr 3 x8.1,rr 2 x6.1]) (ds':=[sl 8 (Pack.enc false) x4.1,so 7 Term.enc x8.1,so 1 (eSl false 1 zF) x6.1]) (.cons (.cell (.keep rfl (.nil))) (.cons (.cell (.move (.tail _ (.head _)) (qC _) (by decide) (.nil))) (.cons (.cell (.move (.head _) (qC _) (by decide) (.nil))) (.nil) (by decide)) (by decide)) (by decide)) rfl
def zTp:Code:=cdB Tryz.f115
theorem uF.ok (a1:Int):Ok Tryz.prog 115 [uv a1] [] ((uF a1).map fun r=>(bv r,[])):=by
 refine zJ zTp Tryz.f115 0 21 (fun q=>?_)
 unfold uF
 refine J_g 2 [] [(0,uv a1)] [] zB ?_
 refine xB (fun h2=>?_) (fun h2=>?_)
 ·refine xB (fun h3=>?_) (fun h3=>?_)
  ·refine J_g 6 [] [(2,bv true)] [] (yO 2 [(4,bv (decide (a1≥97)))] [] h2 (yO 6 [(8,bv (decide (a1≤122)))] [] h3 (zIv 9 (zIo (i:=9) (g:=6) (t:=9) (b:=false) (v:=(.bool true)) (.inl rfl) (by kernel_rfl) (by kernel_rfl)) (zIv 10 (zIo (i:=10) (g:=9) (t:=12) (b:=true) (v:=undef) (.inr rfl) (by kernel_rfl) (by kernel_rfl)) (zIv 11 (zIo (i:=11) (g:=9) (t:=12) (b:=true) (v:=undef) (.inr rfl) (by kernel_rfl) (by kernel_rfl)) zB))))) ?_
   exact yA rfl
  ·refine xB (fun h4=>?_) (fun h4=>?_)
   ·refine xB (fun h5=>?_) (fun h5=>?_)
    ·refine J_g 6 [] [(2,bv true)] [] (yO 2 [(4,bv (decide (a1≥97)))] [] h2 (yO 6 [(8,bv (decide (a1≤122)))] [] h3 (zH6 9 6 9 false [(11,bv (decide (a1≥48)))] [] h4 (yO 14 [(16,bv (decide (a1≤57)))] [] h5 zB)))) ?_
     exact yA rfl
    ·refine J_g 6 [] [(2,bv (a1==95))] [] (yO 2 [(4,bv (decide (a1≥97)))] [] h2 (yO 6 [(8,bv (decide (a1≤122)))] [] h3 (zH6 9 6 9 false [(11,bv (decide (a1≥48)))] [] h4 (yO 14 [(16,bv (decide (a1≤57)))] [] h5 zB)))) ?_
     exact yA rfl
   ·refine J_g 6 [] [(2,bv (a1==95))] [] (yO 2 [(4,bv (decide (a1≥97)))] [] h2 (yO 6 [(8,bv (decide (a1≤122)))] [] h3 (zH6 9 6 9 false [(11,bv (decide (a1≥48)))] [] h4 zB))) ?_
    exact yA rfl
 ·refine xB (fun h6=>?_) (fun h6=>?_)
  ·refine xB (fun h7=>?_) (fun h7=>?_)
   ·refine J_g 6 [] [(2,bv true)] [] (yO 2 [(4,bv (decide (a1≥97)))] [] h2 (zH6 9 6 9 false [(11,bv (decide (a1≥48)))] [] h6 (yO 14 [(16,bv (decide (a1≤57)))] [] h7 zB))) ?_
    exact yA rfl
   ·refine J_g 6 [] [(2,bv (a1==95))] [] (yO 2 [(4,bv (decide (a1≥97)))] [] h2 (zH6 9 6 9 false [(11,bv (decide (a1≥48)))] [] h6 (yO 14 [(16,bv (decide (a1≤57)))] [] h7 zB))) ?_
    exact yA rfl
  ·refine J_g 6 [] [(2,bv (a1==95))] [] (yO 2 [(4,bv (decide (a1≥97)))] [] h2 (zH6 9 6 9 false [(11,bv (decide (a1≥48)))] [] h6 zB)) ?_
   exact yA rfl
def zRn:Code:=cdB Tryz.f100
theorem kL.ok (a1:ByteArray) (q:Wd) (kn:Unit→Option (D×List Ent)) (hk:∀v:Unit,J (q.g Tryz.prog 100 0 33) zRn (atI zRn 15) (St.mk' [] []) (some v) kn):
  ∀s17:Int,J (q.g Tryz.prog 100 0 33) zRn (atI zRn 116) (St.mk' [(0,sv a1),(23,iv (a1.size:Int)),(24,iv s17)] []) (kL a1 s17) (Fl.go (fun r:Int=>some (iv r,[])) kn):=by
 refine uM (fun g ih s17=>?_)
 unfold zC0
 refine J_d 232 [] [25] [(25,bv (decide (s17< (a1.size:Int))))] [] [] zB ?_
 refine zG 25 (fun h18=>?_) (fun h18=>?_)
 ·refine J_d 3736 [] [3,25] [(3,iv s17)] [] [] zB ?_
  refine zA (fun x19 h20=>?_)
  refine zA (fun x21 h22=>?_)
  refine J_d 7474 [] [3,31] [(31,bv (!x21))] [] [] (zD 2 (zKZ (kk:=.i64) 9 (.tmp 27) (.tmp 28) h20) (zD 3 (yG [(.tmp 29)] [5] (uF.ok x19) h22) zB)) ?_
  refine zG 31 (fun h23=>?_) (fun h23=>?_)
  ·refine J_g 29900 [] [(2,iv 5)] [] zB ?_
   exact yA rfl
  ·refine J_d 935 [] [24,31] [(24,iv (w64 (s17+1)))] [] [] zB ?_
   exact J_q (J_b (ih (w64 (s17+1)))) rfl
 ·exact zN (hk ()) rfl
theorem wR.ok (a1:ByteArray):Ok Tryz.prog 100 [sv a1] [] ((wR a1).map fun r=>(iv r,[])):=by
 refine zJ zRn Tryz.f100 0 33 (fun q=>?_)
 unfold wR
 refine J_g 2 [] [(0,sv a1)] [] zB ?_
 refine zU (atI zRn 13) (fun v9:Bool=>St.mk' [(0,sv a1),(21,bv v9)] []) (fun v9=>?_) (fun jv9=>?_)
 ·refine zG 21 (fun h10=>?_) (fun h10=>?_)
  ·refine J_g 52 [] [(2,iv 5)] [] zB ?_
   exact yA rfl
  ·refine J_g 28 [] [(0,sv a1),(23,iv (a1.size:Int)),(24,iv 0)] [] zB ?_
   refine uL (K0:=(fun r:Int=>some (iv r,[]))) (fun _=>rfl) (kL.ok a1 q _ (fun v24=>J_j ?_) 0)
   refine J_g 30 [] [(2,iv 0)] [] zB ?_
   exact yA rfl
 ·refine xB (fun h2=>?_) (fun h2=>?_)
  ·refine J_g 12 [] [(0,sv a1),(21,bv true)] [] (yO 3 [(6,bv (decide ((a1.size:Int)<1)))] [] h2 zB) ?_
   exact zN (J_j (jv9 true)) rfl
  ·refine xB (fun h3=>?_) (fun h3=>?_)
   ·refine J_g 12 [] [(0,sv a1),(21,bv true)] [] (yO 3 [(6,bv (decide ((a1.size:Int)<1)))] [] h2 (yO 8 [(11,bv (decide ((a1.size:Int)>12)))] [] h3 zB)) ?_
    exact zN (J_j (jv9 true)) rfl
   ·refine zA (fun x4 h5=>?_)
    refine xB (fun h6=>?_) (fun h6=>?_)
    ·refine J_g 12 [] [(0,sv a1),(21,bv true)] [] (yO 3 [(6,bv (decide ((a1.size:Int)<1)))] [] h2 (yO 8 [(11,bv (decide ((a1.size:Int)>12)))] [] h3 (uD 10 8 12 false (zKZ (kk:=.i64) 9 (.tmp 13) (.const (.int .i64 0)) h5) (yO 13 [(16,bv (decide (x4<97)))] [] h6 zB)))) ?_
     exact zN (J_j (jv9 true)) rfl
    ·refine zA (fun x7 h8=>?_)
     refine J_g 12 [] [(0,sv a1),(21,bv (decide (x7>122)))] [] (yO 3 [(6,bv (decide ((a1.size:Int)<1)))] [] h2 (yO 8 [(11,bv (decide ((a1.size:Int)>12)))] [] h3 (uD 10 8 12 false (zKZ (kk:=.i64) 9 (.tmp 13) (.const (.int .i64 0)) h5) (yO 13 [(16,bv (decide (x4<97)))] [] h6 (uD 15 13 17 false (zKZ (kk:=.i64) 9 (.tmp 18) (.const (.int .i64 0)) h8) zB))))) ?_
     exact zN (J_j (jv9 (decide (x7>122)))) rfl
def zTz:Code:=cdB Tryz.f102
theorem wU.ok (a1:Int) (a2:Int) (a3:Int):Ok Tryz.prog 102 [iv a1,iv a2,iv a3] [] ((wU a1 a2 a3).map fun r=>(bv r,[])):=by
 refine zJ zTz Tryz.f102 0 15 (fun q=>?_)
 unfold wU
 refine J_d 2 [] [] [] [] [] zB ?_
 refine xB (fun h4=>?_) (fun h4=>?_)
 ·refine J_g 6 [] [(6,bv (decide (a1≤a3)))] [] (yO 3 [(9,bv (decide (a2≤a1)))] [] h4 zB) ?_
  exact yA rfl
 ·refine J_g 6 [] [(6,bv false)] [] (yO 3 [(9,bv (decide (a2≤a1)))] [] h4 zB) ?_
  exact yA rfl
def zSS:Code:=cdB Tryz.f101
theorem wE.ok (a1:Version):Ok Tryz.prog 101 [.ag (Version.enc a1)] [] ((wE a1).map fun r=>(iv r,[])):=by
 refine zJ zSS Tryz.f101 0 19 (fun q=>?_)
 unfold wE
 refine J_g 2 [(0,0)] [(1,pp 0)] [(0,.box (Version.enc a1))] zB ?_
 refine zA (fun x2 h3=>?_)
 refine zU (atI zSS 13) (fun v10:Bool=>St.mk' [(18,bv v10)] []) (fun v10=>?_) (fun jv10=>?_)
 ·refine zG 18 (fun h11=>?_) (fun h11=>?_)
  ·refine J_g 52 [] [(2,iv 3)] [] zB ?_
   exact yA rfl
  ·refine J_g 14 [] [(2,iv 0)] [] zB ?_
   exact yA rfl
 ·refine xB (fun h4=>?_) (fun h4=>?_)
  ·refine J_g 12 [] [(18,bv true)] [] (zD 2 (yG [(.tmp 4),(.const (.int .i64 0)),(.const (.int .i64 999))] [2,2,2] (wU.ok a1.A 0 999) h3) (yO 4 [(6,bv (!x2))] [] h4 zB)) ?_
   exact zN (J_j (jv10 true)) rfl
  ·refine zA (fun x5 h6=>?_)
   refine xB (fun h7=>?_) (fun h7=>?_)
   ·refine J_g 12 [] [(18,bv true)] [] (zD 2 (yG [(.tmp 4),(.const (.int .i64 0)),(.const (.int .i64 999))] [2,2,2] (wU.ok a1.A 0 999) h3) (yO 4 [(6,bv (!x2))] [] h4 (uD 7 4 7 false (yG [(.tmp 9),(.const (.int .i64 0)),(.const (.int .i64 999))] [2,2,2] (wU.ok a1.B 0 999) h6) (yO 10 [(12,bv (!x5))] [] h7 zB)))) ?_
    exact zN (J_j (jv10 true)) rfl
   ·refine zA (fun x8 h9=>?_)
    refine J_g 12 [] [(18,bv (!x8))] [] (zD 2 (yG [(.tmp 4),(.const (.int .i64 0)),(.const (.int .i64 999))] [2,2,2] (wU.ok a1.A 0 999) h3) (yO 4 [(6,bv (!x2))] [] h4 (uD 7 4 7 false (yG [(.tmp 9),(.const (.int .i64 0)),(.const (.int .i64 999))] [2,2,2] (wU.ok a1.B 0 999) h6) (yO 10 [(12,bv (!x5))] [] h7 (uD 13 10 13 false (yG [(.tmp 15),(.const (.int .i64 0)),(.const (.int .i64 999))] [2,2,2] (wU.ok a1.C 0 999) h9) zB))))) ?_
    exact zN (J_j (jv10 (!x8))) rfl
def c99:Code:=cdB Tryz.f99
theorem zBf.ok (a1:(List Int)) (q:Wd) (kn:Unit→Option (D×List Ent)) (hk:∀v:Unit,J (q.g Tryz.prog 99 0 15) c99 (atI c99 7) (St.mk' [] []) (some v) kn):
  ∀s6:Int,J (q.g Tryz.prog 99 0 15) c99 (atI c99 52) (St.mk' [(5,sl 1 zF a1),(6,iv (a1.length:Int)),(7,iv s6)] []) (zBf a1 s6) (Fl.go (fun r:Int=>some (iv r,[])) kn):=by
 refine uM (fun g ih s6=>?_)
 unfold zAr
 refine J_d 104 [] [8] [(8,bv (decide (s6< (a1.length:Int))))] [] [] zB ?_
 refine zG 8 (fun h7=>?_) (fun h7=>?_)
 ·refine zA (fun x8 h9=>?_)
  refine J_g 1688 [] [(4,iv x8),(5,sl 1 zF a1),(6,iv (a1.length:Int)),(7,iv s6)] [] (zD 0 (wM (kk:=.i64) 34 2 1 zF (.tmp 5) (.tmp 7) h9) zB) ?_
  refine J_d 3378 [] [12] [(12,bv (x8 !=0))] [] [] zB ?_
  refine zG 12 (fun h10=>?_) (fun h10=>?_)
  ·refine J_g 13516 [] [(2,iv x8)] [] zB ?_
   exact yA rfl
  ·refine J_d 423 [] [4,7,12] [(7,iv (w64 (s6+1)))] [] [] zB ?_
   exact J_q (J_b (ih (w64 (s6+1)))) rfl
 ·exact zN (hk ()) rfl
theorem zAQ.ok (a1:(List Int)):Ok Tryz.prog 99 [sl 1 zF a1] [] ((zAQ a1).map fun r=>(iv r,[])):=by
 refine zJ c99 Tryz.f99 0 15 (fun q=>?_)
 unfold zAQ
 refine J_g 2 [] [(0,sl 1 zF a1)] [] zB ?_
 refine J_g 12 [] [(5,sl 1 zF a1),(6,iv (a1.length:Int)),(7,iv 0)] [] zB ?_
 refine uL (K0:=(fun r:Int=>some (iv r,[]))) (fun _=>rfl) (zBf.ok a1 q _ (fun v11=>J_j ?_) 0)
 refine J_g 14 [] [(2,iv 0)] [] zB ?_
 exact yA rfl
def zTa:Code:=cdB Tryz.f104
theorem zAd.ok (a1:(List Term)):Ok Tryz.prog 104 [sl 7 Term.enc a1] [] ((zAd a1).map fun r=>(bv r,[])):=by
 refine zJ zTa Tryz.f104 0 6 (fun q=>?_)
 unfold zAd
 refine J_g 2 [] [(0,sl 7 Term.enc a1)] [] zB ?_
 refine J_g 6 [] [(2,bv (decide ((a1.length:Int)>4)))] [] zB ?_
 exact yA rfl
def zRB:Code:=cdB Tryz.f147
theorem yF.ok (a1:(List (List Term))) (q:Wd) (kn:Unit→Option (D×List Ent)) (hk:∀v:Unit,J (q.g Tryz.prog 147 0 19) zRB (atI zRB 7) (St.mk' [] []) (some v) kn):
  ∀s8:Int,J (q.g Tryz.prog 147 0 19) zRB (atI zRB 52) (St.mk' [(0,sl 1 (eSl false 7 Term.enc) a1),(1,.fn 104 []),(7,iv (a1.length:Int)),(8,iv s8)] []) (yF a1 s8) (Fl.go (fun r:Int=>some (iv r,[])) kn):=by
 refine uM (fun g ih s8=>?_)
 unfold yE
 refine J_d 104 [] [9] [(9,bv (decide (s8< (a1.length:Int))))] [] [] zB ?_
 refine zG 9 (fun h9=>?_) (fun h9=>?_)
 ·refine J_d 1688 [] [5,9] [(5,iv s8)] [] [] zB ?_
  refine zA (fun x10 h11=>?_)
  refine zA (fun x12 h13=>?_)
  refine J_d 3378 [] [16] [(16,bv x12)] [] [] (zD 3 (wM (kk:=.i64) 87 25 1 (eSl false 7 Term.enc) (.tmp 12) (.tmp 13) h11) (zD 5 (zSz («as»:=[sl 7 Term.enc x10]) (caps:=[]) 11 [(.tmp 15)] [25] (zAd.ok x10) h13) zB)) ?_
  refine zG 16 (fun h14=>?_) (fun h14=>?_)
  ·refine J_g 13516 [] [(4,iv s8)] [] zB ?_
   exact yA rfl
  ·refine J_d 423 [] [5,8,16] [(8,iv (w64 (s8+1)))] [] [] zB ?_
   exact J_q (J_b (ih (w64 (s8+1)))) rfl
 ·exact zN (hk ()) rfl
theorem yB.ok (a1:(List (List Term))):Ok Tryz.prog 147 [sl 1 (eSl false 7 Term.enc) a1,.fn 104 []] [] ((yB a1).map fun r=>(iv r,[])):=by
 refine zJ zRB Tryz.f147 0 19 (fun q=>?_)
 unfold yB
 refine J_g 2 [] [(0,sl 1 (eSl false 7 Term.enc) a1),(1,.fn 104 [])] [] zB ?_
 refine J_d 12 [] [7,8] [(7,iv (a1.length:Int)),(8,iv 0)] [] [] zB ?_
 refine uL (K0:=(fun r:Int=>some (iv r,[]))) (fun _=>rfl) (yF.ok a1 q _ (fun v15=>J_j ?_) 0)
 refine J_g 14 [] [(4,iv (-1))] [] zB ?_
 exact yA rfl
def zTe:Code:=cdB Tryz.f103
theorem zR.ok (a1:(List (List Term))):Ok Tryz.prog 103 [sl 1 (eSl false 7 Term.enc) a1,.fn 104 []] [] ((zR a1).map fun r=>(bv r,[])):=by
 refine zJ zTe Tryz.f103 0 9 (fun q=>?_)
 unfold zR
 refine J_d 2 [] [] [] [] [] zB ?_
 refine zA (fun x2 h3=>?_)
 refine J_g 6 [] [(4,bv (decide (x2≥0)))] [] (zD 2 (xH («as»:=[sl 1 (eSl false 7 Term.enc) a1,.fn 104 []]) [(.tmp 5),(.tmp 6)] [87,104] false [] [] (.cons (.same rfl) (.cons (.fn (.nil)) (.nil))) (yB.ok a1) h3 (.same rfl rfl)) zB) ?_
 exact yA rfl
def c148:Code:=cdB Tryz.f148
theorem vZ.ok (a1:(List ByteArray)) (a2:ByteArray) (q:Wd) (kn:Unit→Option (D×List Ent)) (hk:∀v:Unit,J (q.g Tryz.prog 148 0 19) c148 (atI c148 7) (St.mk' [] []) (some v) kn):
  ∀s7:Int,J (q.g Tryz.prog 148 0 19) c148 (atI c148 52) (St.mk' [(0,sl 1 eStr a1),(1,sv a2),(7,iv (a1.length:Int)),(8,iv s7)] []) (vZ a1 a2 s7) (Fl.go (fun r:Int=>some (iv r,[])) kn):=by
 refine uM (fun g ih s7=>?_)
 unfold vR
 refine J_d 104 [] [9] [(9,bv (decide (s7< (a1.length:Int))))] [] [] zB ?_
 refine zG 9 (fun h8=>?_) (fun h8=>?_)
 ·refine J_d 1688 [] [5,9] [(5,iv s7)] [] [] zB ?_
  refine zA (fun x9 h10=>?_)
  refine J_d 3378 [] [16] [(16,bv (seq a2 x9))] [] [] (zD 3 (wM (kk:=.i64) 69 9 1 eStr (.tmp 12) (.tmp 13) h10) zB) ?_
  refine zG 16 (fun h11=>?_) (fun h11=>?_)
  ·refine J_g 13516 [] [(4,iv s7)] [] zB ?_
   exact yA rfl
  ·refine J_d 423 [] [5,8,16] [(8,iv (w64 (s7+1)))] [] [] zB ?_
   exact J_q (J_b (ih (w64 (s7+1)))) rfl
 ·exact zN (hk ()) rfl
theorem uJ.ok (a1:(List ByteArray)) (a2:ByteArray):Ok Tryz.prog 148 [sl 1 eStr a1,sv a2] [] ((uJ a1 a2).map fun r=>(iv r,[])):=by
 refine zJ c148 Tryz.f148 0 19 (fun q=>?_)
 unfold uJ
 refine J_g 2 [] [(0,sl 1 eStr a1),(1,sv a2)] [] zB ?_
 refine J_d 12 [] [7,8] [(7,iv (a1.length:Int)),(8,iv 0)] [] [] zB ?_
 refine uL (K0:=(fun r:Int=>some (iv r,[]))) (fun _=>rfl) (vZ.ok a1 a2 q _ (fun v12=>J_j ?_) 0)
 refine J_g 14 [] [(4,iv (-1))] [] zB ?_
 exact yA rfl
def c105:Code:=cdB Tryz.f105
theorem wQ.ok (a1:(List ByteArray)) (a2:ByteArray):Ok Tryz.prog 105 [sl 1 eStr a1,sv a2] [] ((wQ a1 a2).map fun r=>(bv r,[])):=by
 refine zJ c105 Tryz.f105 0 9 (fun q=>?_)
 unfold wQ
 refine J_d 2 [] [] [] [] [] zB ?_
 refine zA (fun x3 h4=>?_)
 refine J_g 6 [] [(4,bv (decide (x3≥0)))] [] (zD 2 (yG [(.tmp 5),(.tmp 6)] [69,9] (uJ.ok a1 a2) h4) zB) ?_
 exact yA rfl
def zTg:Code:=cdB Tryz.f108
theorem zDr.ok:Ok Tryz.prog 108 [] [] ((zDr).map fun r=>(.ag (Version.enc r),[])):=by
 refine zJ zTg Tryz.f108 0 2 (fun q=>?_)
 unfold zDr
 refine J_g 2 [(0,0)] [(0,pp 0)] [(0,.box [iv 0,iv 0,iv 0])] zB ?_
 refine J_g 6 [] [(0,pp 0)] [(0,.box [iv 1000,iv 0,iv 0])] zB ?_
 exact yA rfl
def c173:Code:=cdB Tryz.f173
theorem tH.ok (a1:Int):Ok Tryz.prog 173 [iv a1] [] ((tH a1).map fun r=>(bv r,[])):=by
 refine zJ c173 Tryz.f173 0 6 (fun q=>?_)
 unfold tH
 refine J_g 2 [] [(0,iv a1)] [] zB ?_
 refine J_g 6 [] [(2,bv (a1 !=a1))] [] zB ?_
 exact yA rfl
def zTl:Code:=cdB Tryz.f150
theorem wF.ok (a1:Int) (a2:Int):Ok Tryz.prog 150 [iv a1,iv a2] [] ((wF a1 a2).map fun r=>(iv r,[])):=by
 refine zJ zTl Tryz.f150 0 20 (fun q=>?_)
 unfold wF
 refine J_d 2 [] [] [] [] [] zB ?_
 refine zA (fun x3 h4=>?_)
 refine J_d 6 [] [5] [(5,bv x3)] [] [] (zD 1 (yG [(.tmp 7)] [2] (tH.ok a1) h4) zB) ?_
 refine zA (fun x5 h6=>?_)
 refine J_g 14 [] [(0,iv a1),(1,iv a2),(5,bv x3),(6,bv x5)] [] (zD 1 (yG [(.tmp 9)] [2] (tH.ok a2) h6) zB) ?_
 refine J_d 60 [] [5,11] [(11,bv x3)] [] [] zB ?_
 refine zG 11 (fun h7=>?_) (fun h7=>?_)
 ·refine J_g 488 [] [(12,bv x5)] [] zB ?_
  refine zG 12 (fun h8=>?_) (fun h8=>?_)
  ·refine J_g 1956 [] [(4,iv 0)] [] zB ?_
   exact yA rfl
  ·refine J_g 490 [] [(4,iv (-1))] [] zB ?_
   exact yA rfl
 ·refine J_g 124 [] [(0,iv a1),(1,iv a2),(13,bv x5)] [] zB ?_
  refine zG 13 (fun h9=>?_) (fun h9=>?_)
  ·refine J_g 500 [] [(4,iv 1)] [] zB ?_
   exact yA rfl
  ·refine J_d 252 [] [13,16] [(16,bv (decide (a1<a2)))] [] [] zB ?_
   refine zG 16 (fun h10=>?_) (fun h10=>?_)
   ·refine J_g 1012 [] [(4,iv (-1))] [] zB ?_
    exact yA rfl
   ·refine J_g 508 [] [(19,bv (decide (a1>a2)))] [] zB ?_
    refine zG 19 (fun h11=>?_) (fun h11=>?_)
    ·refine J_g 2036 [] [(4,iv 1)] [] zB ?_
     exact yA rfl
    ·refine J_g 510 [] [(4,iv 0)] [] zB ?_
     exact yA rfl
def zR8:Code:=cdB Tryz.f149
theorem zEo.ok (a1:(List Int)) (q:Wd) (kn:Unit→Option (D×List Ent)) (hk:∀v:Unit,J (q.g Tryz.prog 149 0 18) zR8 (atI zR8 15) (St.mk' [(3,iv 0)] []) (some v) kn):
  ∀s6:Int,J (q.g Tryz.prog 149 0 18) zR8 (atI zR8 116) (St.mk' [(3,iv 0),(6,sl 1 zF a1),(7,iv (a1.length:Int)),(8,iv s6)] []) (zEo a1 s6) (Fl.go (fun r:Int=>some (iv r,[])) kn):=by
 refine uM (fun g ih s6=>?_)
 unfold zD3
 refine J_d 232 [] [9] [(9,bv (decide (s6< (a1.length:Int))))] [] [] zB ?_
 refine zG 9 (fun h7=>?_) (fun h7=>?_)
 ·refine zA (fun x8 h9=>?_)
  refine J_g 3736 [] [(3,iv 0),(5,iv x8),(6,sl 1 zF a1),(7,iv (a1.length:Int)),(8,iv s6)] [] (zD 0 (wM (kk:=.i64) 199 3 1 zF (.tmp 6) (.tmp 8) h9) zB) ?_
  refine J_d 7474 [] [14] [(14,bv (x8 !=0))] [] [] zB ?_
  refine zG 14 (fun h10=>?_) (fun h10=>?_)
  ·refine J_g 29900 [] [(2,iv x8)] [] zB ?_
   exact yA rfl
  ·refine J_d 935 [] [5,8,14] [(8,iv (w64 (s6+1)))] [] [] zB ?_
   exact J_q (J_b (ih (w64 (s6+1)))) rfl
 ·exact zN (hk ()) rfl
theorem zFe.ok (a1:(List Int)):Ok Tryz.prog 149 [sl 1 zF a1] [] ((zFe a1).map fun r=>(iv r,[])):=by
 refine zJ zR8 Tryz.f149 0 18 (fun q=>?_)
 unfold zFe
 refine J_g 2 [] [(0,sl 1 zF a1)] [] zB ?_
 refine J_g 6 [] [(0,sl 1 zF a1),(3,iv 0)] [] zB ?_
 refine J_g 28 [] [(3,iv 0),(6,sl 1 zF a1),(7,iv (a1.length:Int)),(8,iv 0)] [] zB ?_
 refine uL (K0:=(fun r:Int=>some (iv r,[]))) (fun _=>rfl) (zEo.ok a1 q _ (fun v11=>J_j ?_) 0)
 refine J_g 30 [] [(2,iv 0)] [] zB ?_
 exact yA rfl
def c109:Code:=cdB Tryz.f109
theorem zDf.ok (a1:Version) (a2:Version):Ok Tryz.prog 109 [.ag (Version.enc a1),.ag (Version.enc a2)] [] ((zDf a1 a2).map fun r=>(iv r,[])):=by
 refine zJ c109 Tryz.f109 0 22 (fun q=>?_)
 unfold zDf
 refine J_g 2 [(0,0),(1,1)] [(2,pp 0),(3,pp 1)] [(0,.box (Version.enc a1)),(1,.box (Version.enc a2))] zB ?_
 refine zA (fun x3 h4=>?_)
 refine zA (fun x5 h6=>?_)
 refine zA (fun x7 h8=>?_)
 refine zA (fun x9 h10=>?_)
 refine J_g 6 [] [(4,iv x9)] [] (zD 4 (yG [(.tmp 6),(.tmp 8)] [2,2] (wF.ok a1.A a2.A) h4) (zD 9 (yG [(.tmp 11),(.tmp 13)] [2,2] (wF.ok a1.B a2.B) h6) (zD 14 (yG [(.tmp 16),(.tmp 18)] [2,2] (wF.ok a1.C a2.C) h8) (zD 15 (vM 199 3 1 2 zF [x3,x5,x7] [0,1,2] [(.tmp 9),(.tmp 14),(.tmp 19)] [iv x3,iv x5,iv x7]) (zD 16 (xH («as»:=[rr 2 [x3,x5,x7]]) [(.tmp 20)] [199] true [(2,rE 1 zF [x3,x5,x7])] [] (.cons (zFJ (.head _) (fun _=>rfl) rfl) (.nil)) (zFe.ok [x3,x5,x7]) h10 (.same rfl rfl) (hbor:=fun _=>⟨fhN,wV⟩)) zB))))) ?_
 exact yA rfl
def c47:Code:=cdB Tryz.f47
theorem wW.ok (a1:Term):Ok Tryz.prog 47 [.ag (Term.enc a1)] [] ((wW a1).map fun r=>(iv r,[])):=by
 refine zJ c47 Tryz.f47 0 35 (fun q=>?_)
 unfold wW
 refine J_g 2 [(0,0)] [(1,pp 0)] [(0,.box (Term.enc a1))] zB ?_
 refine zA (fun x2 h3=>?_)
 refine J_g 12 [] [(1,pp 0),(3,iv x2)] [(0,.box (Term.enc a1))] (zD 2 (yG [(.tmp 6)] [9] (wR.ok a1.Name) h3) zB) ?_
 refine J_d 26 [] [9] [(9,bv (x2 !=0))] [] [] zB ?_
 refine zG 9 (fun h4=>?_) (fun h4=>?_)
 ·refine J_g 108 [] [(2,iv x2)] [] zB ?_
  exact yA rfl
 ·refine zA (fun x5 h6=>?_)
  refine J_g 28 [] [(1,pp 0),(4,iv x5)] [(0,.box (Term.enc a1))] (zD 2 (yG [(.tmp 12)] [83] (wE.ok a1.Low) h6) zB) ?_
  refine J_d 58 [] [15] [(15,bv (x5 !=0))] [] [] zB ?_
  refine zG 15 (fun h7=>?_) (fun h7=>?_)
  ·refine J_g 236 [] [(2,iv x5)] [] zB ?_
   exact yA rfl
  ·refine zA (fun x8 h9=>?_)
   refine zU (atI c47 121) (fun v13:Bool=>St.mk' [(1,pp 0),(17,bv v13)] [(0,.box (Term.enc a1))]) (fun v13=>?_) (fun jv13=>?_)
   ·refine zG 17 (fun h14=>?_) (fun h14=>?_)
    ·refine J_g 484 [] [(2,iv 3)] [] zB ?_
     exact yA rfl
    ·refine zA (fun x15 h16=>?_)
     refine J_g 486 [] [(28,bv (decide (x15≥0)))] [] (zD 4 (yG [(.tmp 30),(.tmp 32)] [83,83] (zDf.ok a1.Low a1.High) h16) zB) ?_
     refine zG 28 (fun h17=>?_) (fun h17=>?_)
     ·refine J_g 1948 [] [(2,iv 1)] [] zB ?_
      exact yA rfl
     ·refine J_g 62 [] [(2,iv 0)] [] zB ?_
      exact yA rfl
   ·refine xB (fun h10=>?_) (fun h10=>?_)
    ·refine zA (fun x11 h12=>?_)
     refine J_d 120 [] [4,15,17] [(17,bv (x11 !=0))] [] [] (zD 2 (yG [] [] (zDr.ok) h9) (zD 3 (zLA (b:=.neq) (r:=(a1.High.A==x8.A&&(a1.High.B==x8.B&&(a1.High.C==x8.C&&true)))) 83 83 (.tmp 19) (.tmp 20) [.int .i64 a1.High.A,.int .i64 a1.High.B,.int .i64 a1.High.C] [.int .i64 x8.A,.int .i64 x8.B,.int .i64 x8.C] (.inr ⟨rfl,rfl⟩)) (yO 4 [(21,bv (!(a1.High.A==x8.A&&(a1.High.B==x8.B&&(a1.High.C==x8.C&&true)))))] [] h10 (uD 7 4 22 true (yG [(.tmp 24)] [83] (wE.ok a1.High) h12) zB)))) ?_
     exact zN (J_j (jv13 (x11 !=0))) rfl
    ·refine J_d 120 [] [4,15,17] [(17,bv false)] [] [] (zD 2 (yG [] [] (zDr.ok) h9) (zD 3 (zLA (b:=.neq) (r:=(a1.High.A==x8.A&&(a1.High.B==x8.B&&(a1.High.C==x8.C&&true)))) 83 83 (.tmp 19) (.tmp 20) [.int .i64 a1.High.A,.int .i64 a1.High.B,.int .i64 a1.High.C] [.int .i64 x8.A,.int .i64 x8.B,.int .i64 x8.C] (.inr ⟨rfl,rfl⟩)) (yO 4 [(21,bv (!(a1.High.A==x8.A&&(a1.High.B==x8.B&&(a1.High.C==x8.C&&true)))))] [] h10 zB))) ?_
     exact zN (J_j (jv13 false)) rfl
def c16:Code:=cdB Tryz.f16
theorem zAm.ok (a1:(List Term)) (q:Wd) (kn:Unit→Option (D×List Ent)) (hk:∀v:Unit,J (q.g Tryz.prog 16 0 18) c16 (atI c16 7) (St.mk' [] []) (some v) kn):
  ∀s8:Int,J (q.g Tryz.prog 16 0 18) c16 (atI c16 52) (St.mk' [(6,sl 7 Term.enc a1),(7,iv (a1.length:Int)),(8,iv s8)] []) (zAm a1 s8) (Fl.go (fun r:Int=>some (iv r,[])) kn):=by
 refine uM (fun g ih s8=>?_)
 unfold kP
 refine J_d 104 [] [9] [(9,bv (decide (s8< (a1.length:Int))))] [] [] zB ?_
 refine zG 9 (fun h9=>?_) (fun h9=>?_)
 ·refine zA (fun x10 h11=>?_)
  refine J_d 1688 [(2,0)] [4,9] [(4,pp 0)] [0] [(0,.box (Term.enc x10))] (zD 0 (wM (kk:=.i64) 25 85 7 Term.enc (.tmp 6) (.tmp 8) h11) zB) ?_
  refine zA (fun x12 h13=>?_)
  refine J_g 3378 [] [(5,iv x12),(6,sl 7 Term.enc a1),(7,iv (a1.length:Int)),(8,iv s8)] [] (zD 1 (yG [(.tmp 12)] [85] (wW.ok x10) h13) zB) ?_
  refine J_d 6758 [] [15] [(15,bv (x12 !=0))] [] [] zB ?_
  refine zG 15 (fun h14=>?_) (fun h14=>?_)
  ·refine J_g 27036 [] [(2,iv x12)] [] zB ?_
   exact yA rfl
  ·refine J_d 423 [] [5,8,15] [(8,iv (w64 (s8+1)))] [] [] zB ?_
   exact J_q (J_b (ih (w64 (s8+1)))) rfl
 ·exact zN (hk ()) rfl
theorem wG.ok (a1:(List Term)):Ok Tryz.prog 16 [sl 7 Term.enc a1] [] ((wG a1).map fun r=>(iv r,[])):=by
 refine zJ c16 Tryz.f16 0 18 (fun q=>?_)
 unfold wG
 refine J_g 2 [] [(0,sl 7 Term.enc a1)] [] zB ?_
 refine J_g 12 [] [(6,sl 7 Term.enc a1),(7,iv (a1.length:Int)),(8,iv 0)] [] zB ?_
 refine uL (K0:=(fun r:Int=>some (iv r,[]))) (fun _=>rfl) (zAm.ok a1 q _ (fun v15=>J_j ?_) 0)
 refine J_g 14 [] [(2,iv 0)] [] zB ?_
 exact yA rfl
def c45:Code:=cdB Tryz.f45
theorem jZ.ok (a1:Pack) (q:Wd) (kn:Unit→Option (D×List Ent)) (hk:∀v:Unit,J (q.g Tryz.prog 45 0 93) c45 (atI c45 63) (St.mk' [(1,pp 0)] [(0,.box (Pack.enc false a1))]) (some v) kn):
  ∀s54:Int,J (q.g Tryz.prog 45 0 93) c45 (atI c45 500) (St.mk' [(1,pp 0),(75,sl 1 (eSl false 7 Term.enc) a1.Needs),(76,iv (a1.Needs.length:Int)),(77,iv s54)] [(0,.box (Pack.enc false a1))]) (jZ a1 s54) (Fl.go (fun r:Int=>some (iv r,[])) kn):=by
 refine uM (fun g ih s54=>?_)
 unfold zAn
 refine J_d 1000 [] [78] [(78,bv (decide (s54< (a1.Needs.length:Int))))] [] [] zB ?_
 refine zG 78 (fun h55=>?_) (fun h55=>?_)
 ·refine zA (fun x56 h57=>?_)
  refine J_g 16024 [] [(1,pp 0),(8,sl 7 Term.enc x56),(75,sl 1 (eSl false 7 Term.enc) a1.Needs),(76,iv (a1.Needs.length:Int)),(77,iv s54)] [(0,.box (Pack.enc false a1))] (zD 0 (wM (kk:=.i64) 87 25 1 (eSl false 7 Term.enc) (.tmp 75) (.tmp 77) h57) zB) ?_
  refine J_d 64100 [] [83] [(83,bv ((x56.length:Int)==0))] [] [] zB ?_
  refine zG 83 (fun h58=>?_) (fun h58=>?_)
  ·refine J_g 256404 [] [(2,iv 1)] [] zB ?_
   exact yA rfl
  ·refine zA (fun x59 h60=>?_)
   refine J_g 64102 [] [(1,pp 0),(9,iv x59),(75,sl 1 (eSl false 7 Term.enc) a1.Needs),(76,iv (a1.Needs.length:Int)),(77,iv s54)] [(0,.box (Pack.enc false a1))] (zD 1 (yG [(.tmp 84)] [25] (wG.ok x56) h60) zB) ?_
   refine J_d 128206 [] [87] [(87,bv (x59 !=0))] [] [] zB ?_
   refine zG 87 (fun h61=>?_) (fun h61=>?_)
   ·refine J_g 512828 [] [(2,iv x59)] [] zB ?_
    exact yA rfl
   ·refine J_d 4007 [] [9,77,87] [(77,iv (w64 (s54+1)))] [] [] zB ?_
    exact J_q (J_b (ih (w64 (s54+1)))) rfl
 ·exact zN (hk ()) rfl
theorem kH.ok (a1:Pack) (q:Wd) (kn:Unit→Option (D×List Ent)) (hk:∀v:Unit,J (q.g Tryz.prog 45 0 93) c45 (atI c45 31) (St.mk' [(1,pp 0)] [(0,.box (Pack.enc false a1))]) (some v) kn):
  ∀s32:Int,J (q.g Tryz.prog 45 0 93) c45 (atI c45 244) (St.mk' [(1,pp 0),(49,sl 1 eStr a1.Provides),(50,iv (a1.Provides.length:Int)),(51,iv s32)] [(0,.box (Pack.enc false a1))]) (kH a1 s32) (Fl.go (fun r:Int=>some (iv r,[])) kn):=by
 refine uM (fun g ih s32=>?_)
 unfold zA1
 refine J_d 488 [] [52] [(52,bv (decide (s32< (a1.Provides.length:Int))))] [] [] zB ?_
 refine zG 52 (fun h33=>?_) (fun h33=>?_)
 ·refine zA (fun x34 h35=>?_)
  refine J_d 7832 [] [4,5,52] [(4,iv s32),(5,sv x34)] [] [] (zD 1 (wM (kk:=.i64) 69 9 1 eStr (.tmp 49) (.tmp 51) h35) zB) ?_
  refine zA (fun x36 h37=>?_)
  refine J_g 31332 [] [(1,pp 0),(4,iv s32),(5,sv x34),(6,iv x36),(49,sl 1 eStr a1.Provides),(50,iv (a1.Provides.length:Int)),(51,iv s32)] [(0,.box (Pack.enc false a1))] (zD 1 (yG [(.tmp 56)] [9] (wR.ok x34) h37) zB) ?_
  refine J_d 62666 [] [59] [(59,bv (x36 !=0))] [] [] zB ?_
  refine zG 59 (fun h38=>?_) (fun h38=>?_)
  ·refine J_g 250668 [] [(2,iv x36)] [] zB ?_
   exact yA rfl
  ·refine zU (atI c45 31335) (fun v44:Bool=>St.mk' [(1,pp 0),(49,sl 1 eStr a1.Provides),(50,iv (a1.Provides.length:Int)),(51,iv s32),(72,bv v44)] [(0,.box (Pack.enc false a1))]) (fun v44=>?_) (fun jv44=>?_)
   ·refine zG 72 (fun h45=>?_) (fun h45=>?_)
    ·refine J_g 125340 [] [(2,iv 6)] [] zB ?_
     exact yA rfl
    ·refine J_d 1959 [] [51,72] [(51,iv (w64 (s32+1)))] [] [] zB ?_
     exact J_q (J_b (ih (w64 (s32+1)))) rfl
   ·refine xB (fun h39=>?_) (fun h39=>?_)
    ·refine J_d 31334 [] [4,5,6,59,72] [(72,bv true)] [] [] (yO 4 [(64,bv (seq x34 a1.Name))] [] h39 zB) ?_
     exact zN (J_j (jv44 true)) rfl
    ·refine zA (fun x40 h41=>?_)
     refine zA (fun x42 h43=>?_)
     refine J_d 31334 [] [4,5,6,59,72] [(72,bv x42)] [] [] (yO 4 [(64,bv (seq x34 a1.Name))] [] h39 (uD 8 4 65 false (zQw 69 9 1 eStr (.tmp 67) none (some (.tmp 68)) h41) (uD 10 4 65 false (yG [(.tmp 69),(.tmp 70)] [69,9] (wQ.ok x40 x34) h43) zB))) ?_
     exact zN (J_j (jv44 x42)) rfl
 ·exact zN (hk ()) rfl
theorem zAD.ok (a1:Pack):Ok Tryz.prog 45 [.ag (Pack.enc false a1)] [] ((zAD a1).map fun r=>(iv r,[])):=by
 refine zJ c45 Tryz.f45 0 93 (fun q=>?_)
 unfold zAD
 refine J_g 2 [(0,0)] [(1,pp 0)] [(0,.box (Pack.enc false a1))] zB ?_
 refine zA (fun x2 h3=>?_)
 refine zA (fun x4 h5=>?_)
 refine zA (fun x6 h7=>?_)
 refine J_g 12 [] [(1,pp 0),(3,iv x6)] [(0,.box (Pack.enc false a1))] (zD 2 (yG [(.tmp 11)] [9] (wR.ok a1.Name) h3) (zD 5 (yG [(.tmp 14)] [83] (wE.ok a1.Version) h5) (zD 6 (vM 34 2 1 1 zF [x2,x4] [0,1] [(.tmp 12),(.tmp 15)] [iv x2,iv x4]) (zD 7 (xH («as»:=[rr 1 [x2,x4]]) [(.tmp 16)] [34] true [(1,rE 1 zF [x2,x4])] [] (.cons (zFJ (.head _) (fun _=>rfl) rfl) (.nil)) (zAQ.ok [x2,x4]) h7 (.same rfl rfl) (hbor:=fun _=>⟨fhN,wV⟩)) zB)))) ?_
 refine J_d 26 [] [19] [(19,bv (x6 !=0))] [] [] zB ?_
 refine zG 19 (fun h8=>?_) (fun h8=>?_)
 ·refine J_g 108 [] [(2,iv x6)] [] zB ?_
  exact yA rfl
 ·refine zA (fun x9 h10=>?_)
  refine J_d 56 [] [3,19,21] [(21,bv (!x9))] [] [] (zD 2 (yG [(.tmp 23),(.const (.int .i64 1)),(.const (.int .i64 200))] [2,2,2] (wU.ok a1.Size 1 200) h10) zB) ?_
  refine zG 21 (fun h11=>?_) (fun h11=>?_)
  ·refine J_g 228 [] [(2,iv 3)] [] zB ?_
   exact yA rfl
  ·refine zU (atI c45 231) (fun v17:Bool=>St.mk' [(1,pp 0),(26,bv v17)] [(0,.box (Pack.enc false a1))]) (fun v17=>?_) (fun jv17=>?_)
   ·refine zG 26 (fun h18=>?_) (fun h18=>?_)
    ·refine J_g 924 [] [(2,iv 2)] [] zB ?_
     exact yA rfl
    ·refine J_d 60 [] [26,49,50,51] [(49,sl 1 eStr a1.Provides),(50,iv (a1.Provides.length:Int)),(51,iv 0)] [] [] zB ?_
     refine uL (K0:=(fun r:Int=>some (iv r,[]))) (fun _=>rfl) (kH.ok a1 q _ (fun v46=>J_j ?_) 0)
     refine J_d 124 [] [75,76,77] [(75,sl 1 (eSl false 7 Term.enc) a1.Needs),(76,iv (a1.Needs.length:Int)),(77,iv 0)] [] [] zB ?_
     refine uL (K0:=(fun r:Int=>some (iv r,[]))) (fun _=>rfl) (jZ.ok a1 q _ (fun v62=>J_j ?_) 0)
     refine zA (fun x63 h64=>?_)
     refine J_g 126 [] [(2,iv x63)] [] (zD 2 (yG [(.tmp 91)] [25] (wG.ok a1.Bars) h64) zB) ?_
     exact yA rfl
   ·refine xB (fun h12=>?_) (fun h12=>?_)
    ·refine J_d 230 [] [21,26] [(26,bv true)] [] [] (yO 4 [(30,bv (decide ((a1.Provides.length:Int)>4)))] [] h12 zB) ?_
     exact zN (J_j (jv17 true)) rfl
    ·refine xB (fun h13=>?_) (fun h13=>?_)
     ·refine J_d 230 [] [21,26] [(26,bv true)] [] [] (yO 4 [(30,bv (decide ((a1.Provides.length:Int)>4)))] [] h12 (yO 10 [(36,bv (decide ((a1.Needs.length:Int)>4)))] [] h13 zB)) ?_
      exact zN (J_j (jv17 true)) rfl
     ·refine xB (fun h14=>?_) (fun h14=>?_)
      ·refine J_d 230 [] [21,26] [(26,bv true)] [] [] (yO 4 [(30,bv (decide ((a1.Provides.length:Int)>4)))] [] h12 (yO 10 [(36,bv (decide ((a1.Needs.length:Int)>4)))] [] h13 (yO 16 [(42,bv (decide ((a1.Bars.length:Int)>4)))] [] h14 zB))) ?_
       exact zN (J_j (jv17 true)) rfl
      ·refine zA (fun x15 h16=>?_)
       refine J_d 230 [] [21,26] [(26,bv x15)] [] [] (yO 4 [(30,bv (decide ((a1.Provides.length:Int)>4)))] [] h12 (yO 10 [(36,bv (decide ((a1.Needs.length:Int)>4)))] [] h13 (yO 16 [(42,bv (decide ((a1.Bars.length:Int)>4)))] [] h14 (uD 19 16 43 false (xH («as»:=[sl 1 (eSl false 7 Term.enc) a1.Needs,.fn 104 []]) [(.tmp 45),(.func 104)] [87,104] false [] [] (.cons (.same rfl) (.cons (.fn (.nil)) (.nil))) (zR.ok a1.Needs) h16 (.same rfl rfl)) zB)))) ?_
       exact zN (J_j (jv17 x15)) rfl
def c107:Code:=cdB Tryz.f107
theorem zE8.ok (a1:Pack) (a2:ByteArray) (a3:Version):Ok Tryz.prog 107 [.ag (Pack.enc false a1),pp 0,pp 1] [.box [sv a2],.box (Version.enc a3)] ((zE8 a1 a2 a3).map fun r=>(bv r,[.box [sv a2],.box (Version.enc a3)])):=by
 refine zJ c107 Tryz.f107 2 15 (fun q=>?_)
 unfold zE8
 refine J_d 2 [(0,2)] [0,3] [(3,pp 2)] [2] [(2,.box (Pack.enc false a1))] zB ?_
 refine xB (fun h4=>?_) (fun h4=>?_)
 ·refine J_d 6 [] [1,2,3,4] [(4,bv (a1.Version.A==a3.A&&(a1.Version.B==a3.B&&(a1.Version.C==a3.C&&true))))] [2] [] (yO 4 [(8,bv (seq a1.Name a2))] [] h4 (uD 8 4 9 true (zLA (b:=.eql) (r:=(a1.Version.A==a3.A&&(a1.Version.B==a3.B&&(a1.Version.C==a3.C&&true)))) 83 83 (.tmp 11) (.tmp 12) [.int .i64 a1.Version.A,.int .i64 a1.Version.B,.int .i64 a1.Version.C] [.int .i64 a3.A,.int .i64 a3.B,.int .i64 a3.C] (.inl ⟨rfl,rfl⟩)) zB)) ?_
  exact yA rfl
 ·refine J_d 6 [] [1,2,3,4] [(4,bv false)] [2] [] (yO 4 [(8,bv (seq a1.Name a2))] [] h4 zB) ?_
  exact yA rfl
def zRT:Code:=cdB Tryz.f106
theorem yY.ok (a1:(List Pack)) (a2:ByteArray) (a3:Version) (q:Wd) (kn:Unit→Option (D×List Ent)) (hk:∀v:Unit,J (q.g Tryz.prog 106 2 19) zRT (atI zRT 7) (St.mk' [] [(0,.box [sv a2]),(1,.box (Version.enc a3))]) (some v) kn):
  ∀s10:Int,J (q.g Tryz.prog 106 2 19) zRT (atI zRT 52) (St.mk' [(0,sl 8 (Pack.enc false) a1),(1,.fn 107 [pp 0,pp 1]),(7,iv (a1.length:Int)),(8,iv s10)] [(0,.box [sv a2]),(1,.box (Version.enc a3))]) (yY a1 a2 a3 s10) (Fl.go (fun r:Int=>some (iv r,[.box [sv a2],.box (Version.enc a3)])) kn):=by
 refine uM (fun g ih s10=>?_)
 unfold yV
 refine J_d 104 [] [9] [(9,bv (decide (s10< (a1.length:Int))))] [] [] zB ?_
 refine zG 9 (fun h11=>?_) (fun h11=>?_)
 ·refine J_d 1688 [] [5,9] [(5,iv s10)] [] [] zB ?_
  refine zA (fun x12 h13=>?_)
  refine zA (fun x14 h15=>?_)
  refine J_d 3378 [] [16] [(16,bv x14)] [] [] (zD 3 (wM (kk:=.i64) 24 89 8 (Pack.enc false) (.tmp 12) (.tmp 13) h13) (zD 5 (zH7 [(0,.box [sv a2]),(1,.box (Version.enc a3))] [] (zPB 11 [(.tmp 15)] [89] false [(0,.box [sv a2]),(1,.box (Version.enc a3))] [0,1] [.ag (Pack.enc false x12)] [pp 0,pp 1] (.cons (.same rfl) (.cons (.pt rfl) (.cons (.pt rfl) (.nil)))) (zE8.ok x12 a2 a3) h15 (.same rfl rfl))) zB)) ?_
  refine zG 16 (fun h16=>?_) (fun h16=>?_)
  ·refine J_d 13516 [] [0,1,4,5,7,8,16] [(4,iv s10)] [] [] zB ?_
   exact yA rfl
  ·refine J_d 423 [] [5,8,16] [(8,iv (w64 (s10+1)))] [] [] zB ?_
   exact J_q (J_b (ih (w64 (s10+1)))) rfl
 ·exact zN (hk ()) rfl
theorem yN.ok (a1:(List Pack)) (a2:ByteArray) (a3:Version):Ok Tryz.prog 106 [sl 8 (Pack.enc false) a1,.fn 107 [pp 0,pp 1]] [.box [sv a2],.box (Version.enc a3)] ((yN a1 a2 a3).map fun r=>(iv r,[.box [sv a2],.box (Version.enc a3)])):=by
 refine zJ zRT Tryz.f106 2 19 (fun q=>?_)
 unfold yN
 refine J_g 2 [] [(0,sl 8 (Pack.enc false) a1),(1,.fn 107 [pp 0,pp 1])] [(0,.box [sv a2]),(1,.box (Version.enc a3))] zB ?_
 refine J_d 12 [] [7,8] [(7,iv (a1.length:Int)),(8,iv 0)] [] [] zB ?_
 refine uL (K0:=(fun r:Int=>some (iv r,[.box [sv a2],.box (Version.enc a3)]))) (fun _=>rfl) (yY.ok a1 a2 a3 q _ (fun v17=>J_j ?_) 0)
 refine J_d 14 [] [4] [(4,iv (-1))] [] [] zB ?_
 exact yA rfl
def c46:Code:=cdB Tryz.f46
theorem zDE.ok (a1:(List Pack)) (a2:ByteArray) (a3:Version):Ok Tryz.prog 46 [sl 8 (Pack.enc false) a1,sv a2,.ag (Version.enc a3)] [] ((zDE a1 a2 a3).map fun r=>(iv r,[])):=by
 refine zJ c46 Tryz.f46 0 10 (fun q=>?_)
 unfold zDE
 refine J_d 2 [(0,0),(1,1)] [1,2,4,5] [(4,pp 0),(5,pp 1)] [0,1] [(0,.box [sv a2]),(1,.box (Version.enc a3))] zB ?_
 refine zA (fun x4 h5=>?_)
 refine J_g 6 [] [(6,iv x4)] [] (zD 2 (zH7 [(0,.box [sv a2]),(1,.box (Version.enc a3))] [] (xH («as»:=[sl 8 (Pack.enc false) a1,.fn 107 [pp 0,pp 1]]) [(.tmp 7),(.tmp 8)] [24,147] false [(0,.box [sv a2]),(1,.box (Version.enc a3))] [0,1] (.cons (.same rfl) (.cons (.fn (.cons (.pt rfl) (.cons (.pt rfl) (.nil)))) (.nil))) (yN.ok a1 a2 a3) h5 (.same rfl rfl))) zB) ?_
 exact yA rfl
def c15:Code:=cdB Tryz.f15
theorem jL.ok (a1:(List Pack)) (q:Wd) (kn:Unit→Option (D×List Ent)) (hk:∀v:Unit,J (q.g Tryz.prog 15 0 31) c15 (atI c15 15) (St.mk' [] []) (some v) kn):
  ∀s14:Int,J (q.g Tryz.prog 15 0 31) c15 (atI c15 116) (St.mk' [(0,sl 8 (Pack.enc false) a1),(9,sl 8 (Pack.enc false) a1),(10,iv (a1.length:Int)),(11,iv s14)] []) (jL a1 s14) (Fl.go (fun r:Int=>some (iv r,[])) kn):=by
 refine uM (fun g ih s14=>?_)
 unfold tX
 refine J_d 232 [] [12] [(12,bv (decide (s14< (a1.length:Int))))] [] [] zB ?_
 refine zG 12 (fun h15=>?_) (fun h15=>?_)
 ·refine zA (fun x16 h17=>?_)
  refine J_d 3736 [(3,0)] [3,4,12] [(3,iv s14),(4,pp 0)] [0] [(0,.box (Pack.enc false x16))] (zD 1 (wM (kk:=.i64) 24 89 8 (Pack.enc false) (.tmp 9) (.tmp 11) h17) zB) ?_
  refine zA (fun x18 h19=>?_)
  refine J_g 14948 [] [(0,sl 8 (Pack.enc false) a1),(3,iv s14),(4,pp 0),(5,iv x18),(9,sl 8 (Pack.enc false) a1),(10,iv (a1.length:Int)),(11,iv s14)] [(0,.box (Pack.enc false x16))] (zD 1 (yG [(.tmp 16)] [89] (zAD.ok x16) h19) zB) ?_
  refine J_d 29898 [] [19] [(19,bv (x18 !=0))] [] [] zB ?_
  refine zG 19 (fun h20=>?_) (fun h20=>?_)
  ·refine J_g 119596 [] [(2,iv x18)] [] zB ?_
   exact yA rfl
  ·refine zA (fun x21 h22=>?_)
   refine zA (fun x23 h24=>?_)
   refine J_d 14950 [] [3,4,5,19,29] [(29,bv (decide (x23≥0)))] [0] [] (zD 2 (zQw 24 89 8 (Pack.enc false) (.tmp 21) none (some (.tmp 22)) h22) (zD 7 (yG [(.tmp 23),(.tmp 25),(.tmp 27)] [24,9,83] (zDE.ok x21 x16.Name x16.Version) h24) zB)) ?_
   refine zG 29 (fun h25=>?_) (fun h25=>?_)
   ·refine J_g 59804 [] [(2,iv 6)] [] zB ?_
    exact yA rfl
   ·refine J_d 935 [] [11,29] [(11,iv (w64 (s14+1)))] [] [] zB ?_
    exact J_q (J_b (ih (w64 (s14+1)))) rfl
 ·exact zN (hk ()) rfl
theorem xL.ok (a1:(List Pack)):Ok Tryz.prog 15 [sl 8 (Pack.enc false) a1] [] ((xL a1).map fun r=>(iv r,[])):=by
 refine zJ c15 Tryz.f15 0 31 (fun q=>?_)
 unfold xL
 refine J_g 2 [] [(0,sl 8 (Pack.enc false) a1)] [] zB ?_
 refine J_d 12 [] [8] [(8,bv (decide ((a1.length:Int)>24)))] [] [] zB ?_
 refine zG 8 (fun h2=>?_) (fun h2=>?_)
 ·refine J_g 52 [] [(2,iv 2)] [] zB ?_
  exact yA rfl
 ·refine J_d 28 [] [8,9,10,11] [(9,sl 8 (Pack.enc false) a1),(10,iv (a1.length:Int)),(11,iv 0)] [] [] zB ?_
  refine uL (K0:=(fun r:Int=>some (iv r,[]))) (fun _=>rfl) (jL.ok a1 q _ (fun v26=>J_j ?_) 0)
  refine J_g 30 [] [(2,iv 0)] [] zB ?_
  exact yA rfl
def zTo:Code:=cdB Tryz.f111
theorem zAe.ok (a1:Int) (a2:(List Pack)):Ok Tryz.prog 111 [iv a1,pp 0] [.box [sl 8 (Pack.enc false) a2]] ((zAe a1 a2).map fun r=>(bv r,[.box [sl 8 (Pack.enc false) a2]])):=by
 refine zJ zTo Tryz.f111 1 10 (fun q=>?_)
 unfold zAe
 refine J_d 2 [] [] [] [] [] zB ?_
 refine zA (fun x3 h4=>?_)
 refine J_d 6 [] [0,1,3] [(3,bv (!x3))] [] [] (zD 4 (yG [(.tmp 4),(.const (.int .i64 0)),(.tmp 7)] [2,2,2] (wU.ok a1 0 (w64 ((a2.length:Int)-1))) h4) zB) ?_
 exact yA rfl
def zRu:Code:=cdB Tryz.f151
theorem yR.ok (a1:(List Int)) (a2:(List Pack)) (q:Wd) (kn:Unit→Option (D×List Ent)) (hk:∀v:Unit,J (q.g Tryz.prog 151 1 19) zRu (atI zRu 7) (St.mk' [] [(0,.box [sl 8 (Pack.enc false) a2])]) (some v) kn):
  ∀s9:Int,J (q.g Tryz.prog 151 1 19) zRu (atI zRu 52) (St.mk' [(0,sl 1 zF a1),(1,.fn 111 [pp 0]),(7,iv (a1.length:Int)),(8,iv s9)] [(0,.box [sl 8 (Pack.enc false) a2])]) (yR a1 a2 s9) (Fl.go (fun r:Int=>some (iv r,[.box [sl 8 (Pack.enc false) a2]])) kn):=by
 refine uM (fun g ih s9=>?_)
 unfold yM
 refine J_d 104 [] [9] [(9,bv (decide (s9< (a1.length:Int))))] [] [] zB ?_
 refine zG 9 (fun h10=>?_) (fun h10=>?_)
 ·refine J_d 1688 [] [5,9] [(5,iv s9)] [] [] zB ?_
  refine zA (fun x11 h12=>?_)
  refine zA (fun x13 h14=>?_)
  refine J_d 3378 [] [16] [(16,bv x13)] [] [] (zD 3 (wM (kk:=.i64) 34 2 1 zF (.tmp 12) (.tmp 13) h12) (zD 5 (zH7 [(0,.box [sl 8 (Pack.enc false) a2])] [] (zPB 11 [(.tmp 15)] [2] false [(0,.box [sl 8 (Pack.enc false) a2])] [0] [iv x11] [pp 0] (.cons (.same rfl) (.cons (.pt rfl) (.nil))) (zAe.ok x11 a2) h14 (.same rfl rfl))) zB)) ?_
  refine zG 16 (fun h15=>?_) (fun h15=>?_)
  ·refine J_g 13516 [] [(4,iv s9)] [(0,.box [sl 8 (Pack.enc false) a2])] zB ?_
   exact yA rfl
  ·refine J_d 423 [] [5,8,16] [(8,iv (w64 (s9+1)))] [] [] zB ?_
   exact J_q (J_b (ih (w64 (s9+1)))) rfl
 ·exact zN (hk ()) rfl
theorem yH.ok (a1:(List Int)) (a2:(List Pack)):Ok Tryz.prog 151 [sl 1 zF a1,.fn 111 [pp 0]] [.box [sl 8 (Pack.enc false) a2]] ((yH a1 a2).map fun r=>(iv r,[.box [sl 8 (Pack.enc false) a2]])):=by
 refine zJ zRu Tryz.f151 1 19 (fun q=>?_)
 unfold yH
 refine J_g 2 [] [(0,sl 1 zF a1),(1,.fn 111 [pp 0])] [(0,.box [sl 8 (Pack.enc false) a2])] zB ?_
 refine J_d 12 [] [7,8] [(7,iv (a1.length:Int)),(8,iv 0)] [] [] zB ?_
 refine uL (K0:=(fun r:Int=>some (iv r,[.box [sl 8 (Pack.enc false) a2]]))) (fun _=>rfl) (yR.ok a1 a2 q _ (fun v16=>J_j ?_) 0)
 refine J_d 14 [] [4] [(4,iv (-1))] [] [] zB ?_
 exact yA rfl
def zTc:Code:=cdB Tryz.f110
theorem yC.ok (a1:(List Int)) (a2:(List Pack)):Ok Tryz.prog 110 [sl 1 zF a1,.fn 111 [pp 0]] [.box [sl 8 (Pack.enc false) a2]] ((yC a1 a2).map fun r=>(bv r,[.box [sl 8 (Pack.enc false) a2]])):=by
 refine zJ zTc Tryz.f110 1 9 (fun q=>?_)
 unfold yC
 refine J_d 2 [] [] [] [] [] zB ?_
 refine zA (fun x3 h4=>?_)
 refine J_d 6 [] [0,1,4] [(4,bv (decide (x3≥0)))] [] [] (zD 2 (zH7 [(0,.box [sl 8 (Pack.enc false) a2])] [] (xH («as»:=[sl 1 zF a1,.fn 111 [pp 0]]) [(.tmp 5),(.tmp 6)] [34,151] false [(0,.box [sl 8 (Pack.enc false) a2])] [0] (.cons (.same rfl) (.cons (.fn (.cons (.pt rfl) (.nil))) (.nil))) (yH.ok a1 a2) h4 (.same rfl rfl))) zB) ?_
 exact yA rfl
def c49:Code:=cdB Tryz.f49
theorem zAM.ok (a1:(List Pack)) (a2:(List Int)):Ok Tryz.prog 49 [sl 8 (Pack.enc false) a1,sl 1 zF a2] [] ((zAM a1 a2).map fun r=>(bv r,[])):=by
 refine zJ c49 Tryz.f49 0 9 (fun q=>?_)
 unfold zAM
 refine J_g 2 [(0,0)] [(1,sl 1 zF a2),(2,pp 0)] [(0,.box [sl 8 (Pack.enc false) a1])] zB ?_
 refine zA (fun x3 h4=>?_)
 refine J_g 6 [] [(4,bv (!x3))] [] (zD 2 (zH7 [(0,.box [sl 8 (Pack.enc false) a1])] [] (xH («as»:=[sl 1 zF a2,.fn 111 [pp 0]]) [(.tmp 5),(.tmp 6)] [34,151] false [(0,.box [sl 8 (Pack.enc false) a1])] [0] (.cons (.same rfl) (.cons (.fn (.cons (.pt rfl) (.nil))) (.nil))) (yC.ok a2 a1) h4 (.same rfl rfl))) zB) ?_
 exact yA rfl
def c19:Code:=cdB Tryz.f19
theorem zAk.ok (a1:(List Pack)) (a2:(List Int)) (q:Wd) (kn:Unit→Option (D×List Ent)) (hk:∀v:Unit,J (q.g Tryz.prog 19 0 32) c19 (atI c19 15) (St.mk' [(0,sl 8 (Pack.enc false) a1),(1,sl 1 zF a2)] []) (some v) kn):
  ∀s12:Int,J (q.g Tryz.prog 19 0 32) c19 (atI c19 116) (St.mk' [(0,sl 8 (Pack.enc false) a1),(1,sl 1 zF a2),(6,iv s12)] []) (zAk a1 a2 s12) (Fl.go (fun r:Int=>some (iv r,[])) kn):=by
 refine uM (fun g ih s12=>?_)
 unfold vQ
 refine J_d 464 [] [15] [(15,bv (decide (s12< (a2.length:Int))))] [] [] zB ?_
 refine zG 15 (fun h13=>?_) (fun h13=>?_)
 ·refine zA (fun x14 h15=>?_)
  refine zA (fun x16 h17=>?_)
  refine J_d 1864 [] [15,27] [(27,bv (decide (x14≤x16)))] [] [] (zD 2 (wM (kk:=.i64) 34 2 1 zF (.tmp 18) (.tmp 19) h15) (zD 7 (wM (kk:=.i64) 34 2 1 zF (.tmp 22) (.tmp 24) h17) zB)) ?_
  refine zG 27 (fun h18=>?_) (fun h18=>?_)
  ·refine J_g 7460 [] [(4,iv 1)] [] zB ?_
   exact yA rfl
  ·refine J_d 467 [] [6,27] [(6,iv (w64 (s12+1)))] [] [] zB ?_
   exact J_q (J_b (ih (w64 (s12+1)))) rfl
 ·exact zN (hk ()) rfl
theorem zBD.ok (a1:(List Pack)) (a2:(List Int)):Ok Tryz.prog 19 [sl 8 (Pack.enc false) a1,sl 1 zF a2] [] ((zBD a1 a2).map fun r=>(iv r,[])):=by
 refine zJ c19 Tryz.f19 0 32 (fun q=>?_)
 unfold zBD
 refine J_d 2 [] [] [] [] [] zB ?_
 refine zA (fun x3 h4=>?_)
 refine J_g 12 [] [(0,sl 8 (Pack.enc false) a1),(1,sl 1 zF a2),(5,iv x3)] [] (zD 1 (yG [(.tmp 7)] [24] (xL.ok a1) h4) zB) ?_
 refine J_d 26 [] [10] [(10,bv (x3 !=0))] [] [] zB ?_
 refine zG 10 (fun h5=>?_) (fun h5=>?_)
 ·refine J_g 108 [] [(4,iv x3)] [] zB ?_
  exact yA rfl
 ·refine J_d 28 [] [5,6,10] [(6,iv 1)] [] [] zB ?_
  refine uL (K0:=(fun r:Int=>some (iv r,[]))) (fun _=>rfl) (zAk.ok a1 a2 q _ (fun v19=>J_j ?_) 1)
  refine zA (fun x20 h21=>?_)
  refine J_g 60 [] [(31,bv (!x20))] [] (zD 2 (yG [(.tmp 28),(.tmp 29)] [24,34] (zAM.ok a1 a2) h21) zB) ?_
  refine zG 31 (fun h22=>?_) (fun h22=>?_)
  ·refine J_g 244 [] [(4,iv 1)] [] zB ?_
   exact yA rfl
  ·refine J_g 62 [] [(4,iv 0)] [] zB ?_
   exact yA rfl
def c18:Code:=cdB Tryz.f18
theorem zBp.ok (a1:(List Int)) (a2:(List Pack)):Ok Tryz.prog 18 [sl 1 zF a1,pp 0] [.box [sl 8 (Pack.enc false) a2]] ((zBp a1 a2).map fun r=>(bv r,[.box [sl 8 (Pack.enc false) a2]])):=by
 refine zJ c18 Tryz.f18 1 8 (fun q=>?_)
 unfold zBp
 refine J_d 2 [] [] [] [] [] zB ?_
 refine zA (fun x3 h4=>?_)
 refine J_d 6 [] [0,1,3] [(3,bv (x3 !=0))] [] [] (zD 2 (yG [(.tmp 4),(.tmp 5)] [24,34] (zBD.ok a2 a1) h4) zB) ?_
 exact yA rfl
def c48:Code:=cdB Tryz.f48
theorem yQ.ok (a1:(List (List Int))) (a2:(List Pack)) (q:Wd) (kn:Unit→Option (D×List Ent)) (hk:∀v:Unit,J (q.g Tryz.prog 48 1 19) c48 (atI c48 7) (St.mk' [] [(0,.box [sl 8 (Pack.enc false) a2])]) (some v) kn):
  ∀s9:Int,J (q.g Tryz.prog 48 1 19) c48 (atI c48 52) (St.mk' [(0,sl 1 (eSl false 1 zF) a1),(1,.fn 18 [pp 0]),(7,iv (a1.length:Int)),(8,iv s9)] [(0,.box [sl 8 (Pack.enc false) a2])]) (yQ a1 a2 s9) (Fl.go (fun r:Int=>some (iv r,[.box [sl 8 (Pack.enc false) a2]])) kn):=by
 refine uM (fun g ih s9=>?_)
 unfold yL
 refine J_d 104 [] [9] [(9,bv (decide (s9< (a1.length:Int))))] [] [] zB ?_
 refine zG 9 (fun h10=>?_) (fun h10=>?_)
 ·refine J_d 1688 [] [5,9] [(5,iv s9)] [] [] zB ?_
  refine zA (fun x11 h12=>?_)
  refine zA (fun x13 h14=>?_)
  refine J_d 3378 [] [16] [(16,bv x13)] [] [] (zD 3 (wM (kk:=.i64) 26 34 1 (eSl false 1 zF) (.tmp 12) (.tmp 13) h12) (zD 5 (zH7 [(0,.box [sl 8 (Pack.enc false) a2])] [] (zPB 11 [(.tmp 15)] [34] false [(0,.box [sl 8 (Pack.enc false) a2])] [0] [sl 1 zF x11] [pp 0] (.cons (.same rfl) (.cons (.pt rfl) (.nil))) (zBp.ok x11 a2) h14 (.same rfl rfl))) zB)) ?_
  refine zG 16 (fun h15=>?_) (fun h15=>?_)
  ·refine J_g 13516 [] [(4,iv s9)] [(0,.box [sl 8 (Pack.enc false) a2])] zB ?_
   exact yA rfl
  ·refine J_d 423 [] [5,8,16] [(8,iv (w64 (s9+1)))] [] [] zB ?_
   exact J_q (J_b (ih (w64 (s9+1)))) rfl
 ·exact zN (hk ()) rfl
theorem yI.ok (a1:(List (List Int))) (a2:(List Pack)):Ok Tryz.prog 48 [sl 1 (eSl false 1 zF) a1,.fn 18 [pp 0]] [.box [sl 8 (Pack.enc false) a2]] ((yI a1 a2).map fun r=>(iv r,[.box [sl 8 (Pack.enc false) a2]])):=by
 refine zJ c48 Tryz.f48 1 19 (fun q=>?_)
 unfold yI
 refine J_g 2 [] [(0,sl 1 (eSl false 1 zF) a1),(1,.fn 18 [pp 0])] [(0,.box [sl 8 (Pack.enc false) a2])] zB ?_
 refine J_d 12 [] [7,8] [(7,iv (a1.length:Int)),(8,iv 0)] [] [] zB ?_
 refine uL (K0:=(fun r:Int=>some (iv r,[.box [sl 8 (Pack.enc false) a2]]))) (fun _=>rfl) (yQ.ok a1 a2 q _ (fun v16=>J_j ?_) 0)
 refine J_d 14 [] [4] [(4,iv (-1))] [] [] zB ?_
 exact yA rfl
def c17:Code:=cdB Tryz.f17
theorem zX.ok (a1:(List (List Int))) (a2:(List Pack)):Ok Tryz.prog 17 [sl 1 (eSl false 1 zF) a1,.fn 18 [pp 0]] [.box [sl 8 (Pack.enc false) a2]] ((zX a1 a2).map fun r=>(bv r,[.box [sl 8 (Pack.enc false) a2]])):=by
 refine zJ c17 Tryz.f17 1 9 (fun q=>?_)
 unfold zX
 refine J_d 2 [] [] [] [] [] zB ?_
 refine zA (fun x3 h4=>?_)
 refine J_d 6 [] [0,1,4] [(4,bv (decide (x3≥0)))] [] [] (zD 2 (zH7 [(0,.box [sl 8 (Pack.enc false) a2])] [] (xH («as»:=[sl 1 (eSl false 1 zF) a1,.fn 18 [pp 0]]) [(.tmp 5),(.tmp 6)] [26,49] false [(0,.box [sl 8 (Pack.enc false) a2])] [0] (.cons (.same rfl) (.cons (.fn (.cons (.pt rfl) (.nil))) (.nil))) (yI.ok a1 a2) h4 (.same rfl rfl))) zB) ?_
 exact yA rfl
theorem uS.ok (a1 a2:Int):Ok Tryz.prog 174 [iv a1,iv a2] [] ((uS a1 a2).map fun r=>(sv r,[])):=by
 unfold uS
 split
 ·rename_i h
  obtain ⟨rfl,h0,h1⟩:=h
  exact zRd (vs:=[.int .i64 a1,.int .i64 10]) (fun w hG=>Tryz.strconv_FormatInt_10 a1 h0 h1 w (zPH (g:=3) hG (by kernel_rfl) (by kernel_rfl)))
 ·exact fun _ h=>by cases h
def c152:Code:=cdB Tryz.f152
theorem zEz.ok (a1:Int):Ok Tryz.prog 152 [iv a1] [] ((zEz a1).map fun r=>(sv r,[])):=by
 refine zJ c152 Tryz.f152 0 5 (fun q=>?_)
 unfold zEz
 refine J_g 2 [] [(0,iv a1)] [] zB ?_
 refine zA (fun x2 h3=>?_)
 refine J_g 6 [] [(2,sv x2)] [] (zD 1 (yG [(.tmp 3),(.const (.int .i64 10))] [2,3] (uS.ok a1 10) h3) zB) ?_
 exact yA rfl
def zTx:Code:=cdB Tryz.f112
theorem xK.ok (a1:Version):Ok Tryz.prog 112 [.ag (Version.enc a1)] [] ((xK a1).map fun r=>(sv r,[])):=by
 refine zJ zTx Tryz.f112 0 16 (fun q=>?_)
 unfold xK
 refine J_g 2 [(0,0)] [(1,pp 0)] [(0,.box (Version.enc a1))] zB ?_
 refine zA (fun x2 h3=>?_)
 refine zA (fun x4 h5=>?_)
 refine zA (fun x6 h7=>?_)
 refine zA (fun x8 h9=>?_)
 refine zA (fun x10 h11=>?_)
 refine zA (fun x12 h13=>?_)
 refine zA (fun x14 h15=>?_)
 refine J_g 6 [] [(2,sv x14)] [] (zD 2 (yG [(.tmp 4)] [2] (zEz.ok a1.A) h3) (zD 3 (zAJ 9 9 (.tmp 5) (.const (.string (bs [46]))) h5) (zD 6 (yG [(.tmp 8)] [2] (zEz.ok a1.B) h7) (zD 7 (zAJ 9 9 (.tmp 6) (.tmp 9) h9) (zD 8 (zAJ 9 9 (.tmp 10) (.const (.string (bs [46]))) h11) (zD 11 (yG [(.tmp 13)] [2] (zEz.ok a1.C) h13) (zD 12 (zAJ 9 9 (.tmp 11) (.tmp 14) h15) zB))))))) ?_
 exact yA rfl
def c50:Code:=cdB Tryz.f50
theorem kX.ok (a1:Term):Ok Tryz.prog 50 [.ag (Term.enc a1)] [] ((kX a1).map fun r=>(sv r,[])):=by
 refine zJ c50 Tryz.f50 0 30 (fun q=>?_)
 unfold kX
 refine J_g 2 [(0,0)] [(1,pp 0)] [(0,.box (Term.enc a1))] zB ?_
 refine zA (fun x2 h3=>?_)
 refine J_d 12 [] [6] [(6,bv (x2 !=0))] [] [] (zD 1 (yG [(.tmp 4)] [85] (wW.ok a1) h3) zB) ?_
 refine zG 6 (fun h4=>?_) (fun h4=>?_)
 ·refine J_g 52 [] [(2,sv (bs []))] [] zB ?_
  exact yA rfl
 ·refine J_g 14 [] [(1,pp 0),(3,sv a1.Name)] [(0,.box (Term.enc a1))] zB ?_
  refine J_d 60 [] [12] [(12,bv (!(a1.Low.A==0&&(a1.Low.B==0&&(a1.Low.C==0&&true)))))] [] [] (zD 3 (zLA (b:=.neq) (r:=(a1.Low.A==0&&(a1.Low.B==0&&(a1.Low.C==0&&true)))) 83 83 (.tmp 10) (.tmp 11) [.int .i64 a1.Low.A,.int .i64 a1.Low.B,.int .i64 a1.Low.C] [.int .i64 0,.int .i64 0,.int .i64 0] (.inr ⟨rfl,rfl⟩)) zB) ?_
  refine zU (atI c50 31) (fun v12:ByteArray=>St.mk' [(1,pp 0),(3,sv v12)] [(0,.box (Term.enc a1))]) (fun v12=>?_) (fun jv12=>?_)
  ·refine zA (fun x13 h14=>?_)
   refine J_d 124 [] [22] [(22,bv (!(a1.High.A==x13.A&&(a1.High.B==x13.B&&(a1.High.C==x13.C&&true)))))] [] [] (zD 2 (yG [] [] (zDr.ok) h14) (zD 3 (zLA (b:=.neq) (r:=(a1.High.A==x13.A&&(a1.High.B==x13.B&&(a1.High.C==x13.C&&true)))) 83 83 (.tmp 20) (.tmp 21) [.int .i64 a1.High.A,.int .i64 a1.High.B,.int .i64 a1.High.C] [.int .i64 x13.A,.int .i64 x13.B,.int .i64 x13.C] (.inr ⟨rfl,rfl⟩)) zB)) ?_
   refine zU (atI c50 63) (fun v22:ByteArray=>St.mk' [(3,sv v22)] []) (fun v22=>?_) (fun jv22=>?_)
   ·refine J_g 126 [] [(2,sv v22)] [] zB ?_
    exact yA rfl
   ·refine zG 22 (fun h15=>?_) (fun h15=>?_)
    ·refine zA (fun x16 h17=>?_)
     refine zA (fun x18 h19=>?_)
     refine zA (fun x20 h21=>?_)
     refine J_g 250 [] [(3,sv x20)] [] (zD 3 (yG [(.tmp 25)] [83] (xK.ok a1.High) h17) (zD 4 (zAJ 9 9 (.const (.string (bs [60]))) (.tmp 26) h19) (zD 5 (zAJ 9 9 (.tmp 23) (.tmp 27) h21) zB))) ?_
     exact zN (J_j (jv22 x20)) rfl
    ·exact zN (J_j (jv22 v12)) rfl
  ·refine zG 12 (fun h5=>?_) (fun h5=>?_)
   ·refine zA (fun x6 h7=>?_)
    refine zA (fun x8 h9=>?_)
    refine zA (fun x10 h11=>?_)
    refine J_d 122 [] [3,12] [(3,sv x10)] [] [] (zD 3 (yG [(.tmp 15)] [83] (xK.ok a1.Low) h7) (zD 4 (zAJ 9 9 (.const (.string (bs [62,61]))) (.tmp 16) h9) (zD 5 (zAJ 9 9 (.tmp 13) (.tmp 17) h11) zB))) ?_
    exact zN (J_j (jv12 x10)) rfl
   ·exact zN (J_j (jv12 a1.Name)) rfl
theorem strings_Join.ok (a1:List ByteArray) (a2:ByteArray):Ok Tryz.prog 153 [sl 1 eStr a1,sv a2] [] ((strings_Join a1 a2).map fun r=>(sv r,[])):=by
 unfold strings_Join
 split
 ·rename_i h
  exact zQC (fun h=>⟨by subst h; rfl,fun a c w=>Tryz.strings_Join_none a c a2 w⟩) (fun bk o c w hc hb hcap=>Tryz.strings_Join bk o c a1 a2 w hc hb h.1 hcap h.2)
 ·exact fun _ h=>by cases h
def zSZ:Code:=cdB Tryz.f113
theorem zEe.ok (a1:(List ByteArray)):Ok Tryz.prog 113 [sl 1 eStr a1] [] ((zEe a1).map fun r=>(sv r,[])):=by
 refine zJ zSZ Tryz.f113 0 5 (fun q=>?_)
 unfold zEe
 refine J_d 2 [] [] [] [] [] zB ?_
 refine zA (fun x2 h3=>?_)
 refine J_g 6 [] [(2,sv x2)] [] (zD 1 (yG [(.tmp 3),(.const (.string (bs [32])))] [69,9] (strings_Join.ok a1 (bs [32])) h3) zB) ?_
 exact yA rfl
def c51:Code:=cdB Tryz.f51
theorem zCB.ok (a1:(List Pack)) (a2:(List Int)) (q:Wd) (kn:ByteArray→Option (D×List Ent)) (hk:∀v:ByteArray,J (q.g Tryz.prog 51 0 32) c51 (atI c51 15) (St.mk' [(5,sv v)] []) (some v) kn):
  ∀s18:(ByteArray×Int),J (q.g Tryz.prog 51 0 32) c51 (atI c51 116) (St.mk' [(0,sl 8 (Pack.enc false) a1),(5,sv s18.1),(8,sl 1 zF a2),(9,iv (a2.length:Int)),(10,iv s18.2)] []) (zCB a1 a2 s18) kn:=by
 refine uM (fun g ih s18=>?_)
 unfold zCk
 refine J_d 232 [] [11] [(11,bv (decide (s18.2< (a2.length:Int))))] [] [] zB ?_
 refine zG 11 (fun h19=>?_) (fun h19=>?_)
 ·refine zA (fun x20 h21=>?_)
  refine J_d 3736 [] [7,11] [(7,iv x20)] [] [] (zD 0 (wM (kk:=.i64) 34 2 1 zF (.tmp 8) (.tmp 10) h21) zB) ?_
  refine zA (fun x22 h23=>?_)
  refine zA (fun x24 h25=>?_)
  refine zA (fun x26 h27=>?_)
  refine zA (fun x28 h29=>?_)
  refine zA (fun x30 h31=>?_)
  refine zA (fun x32 h33=>?_)
  refine J_g 3737 [] [(0,sl 8 (Pack.enc false) a1),(5,sv x32),(8,sl 1 zF a2),(9,iv (a2.length:Int)),(10,iv s18.2)] [] (zD 3 (wM (kk:=.i64) 24 89 8 (Pack.enc false) (.tmp 15) (.tmp 16) h23) (zD 8 (wM (kk:=.i64) 24 89 8 (Pack.enc false) (.tmp 20) (.tmp 21) h25) (zD 11 (yG [(.tmp 24)] [83] (xK.ok x24.Version) h27) (zD 12 (vM 69 9 1 0 eStr [x22.Name,x26] [0,1] [(.tmp 19),(.tmp 25)] [sv x22.Name,sv x26]) (zD 13 (xH («as»:=[rr 0 [x22.Name,x26]]) [(.tmp 26)] [69] true [(0,rE 1 eStr [x22.Name,x26])] [] (.cons (zFJ (.head _) (fun _=>rfl) rfl) (.nil)) (zEe.ok [x22.Name,x26]) h29 (.same rfl rfl) (hbor:=fun _=>⟨fhN,wV⟩)) (zD 14 (zAJ 9 9 (.tmp 27) (.const (.string (bs [10]))) h31) (zD 15 (zAJ 9 9 (.tmp 14) (.tmp 28) h33) zB))))))) ?_
  refine J_d 935 [] [10] [(10,iv (w64 (s18.2+1)))] [] [] zB ?_
  exact J_q (J_b (ih (x32,w64 (s18.2+1)))) rfl
 ·exact zN (hk s18.1) rfl
theorem zDi.ok (a1:(List Pack)) (a2:(List Int)):Ok Tryz.prog 51 [sl 8 (Pack.enc false) a1,sl 1 zF a2] [] ((zDi a1 a2).map fun r=>(sv r,[])):=by
 refine zJ c51 Tryz.f51 0 32 (fun q=>?_)
 unfold zDi
 refine J_g 2 [] [(0,sl 8 (Pack.enc false) a1),(1,sl 1 zF a2)] [] zB ?_
 refine J_g 6 [] [(0,sl 8 (Pack.enc false) a1),(1,sl 1 zF a2),(5,sv (bs []))] [] zB ?_
 refine J_d 28 [] [1,8,9,10] [(8,sl 1 zF a2),(9,iv (a2.length:Int)),(10,iv 0)] [] [] zB ?_
 refine zEx (zCB.ok a1 a2 q _ (fun v34=>J_j ?_) (bs [],0))
 refine J_g 30 [] [(4,sv v34)] [] zB ?_
 exact yA rfl
def c20:Code:=cdB Tryz.f20
theorem zCm.ok (a1:(List Pack)) (a3:(List (List Int))) (q:Wd) (kn:ByteArray→Option (D×List Ent)) (hk:∀v:ByteArray,J (q.g Tryz.prog 20 0 39) c20 (atI c20 31) (St.mk' [(7,sv v)] []) (some v) kn):
  ∀s37:(ByteArray×Int),J (q.g Tryz.prog 20 0 39) c20 (atI c20 244) (St.mk' [(0,sl 8 (Pack.enc false) a1),(7,sv s37.1),(25,sl 1 (eSl false 1 zF) a3),(26,iv (a3.length:Int)),(27,iv s37.2)] []) (zCm a1 a3 s37) kn:=by
 refine uM (fun g ih s37=>?_)
 unfold zBs
 refine J_d 488 [] [28] [(28,bv (decide (s37.2< (a3.length:Int))))] [] [] zB ?_
 refine zG 28 (fun h38=>?_) (fun h38=>?_)
 ·refine zA (fun x39 h40=>?_)
  refine J_d 7832 [] [11,28] [(11,sl 1 zF x39)] [] [] (zD 0 (wM (kk:=.i64) 26 34 1 (eSl false 1 zF) (.tmp 25) (.tmp 27) h40) zB) ?_
  refine zA (fun x41 h42=>?_)
  refine zA (fun x43 h44=>?_)
  refine zA (fun x45 h46=>?_)
  refine J_g 7833 [] [(0,sl 8 (Pack.enc false) a1),(7,sv x45),(25,sl 1 (eSl false 1 zF) a3),(26,iv (a3.length:Int)),(27,iv s37.2)] [] (zD 3 (yG [(.tmp 32),(.tmp 33)] [24,34] (zDi.ok a1 x39) h42) (zD 4 (zAJ 9 9 (.const (.string (bs [115,116,101,112,10]))) (.tmp 34) h44) (zD 5 (zAJ 9 9 (.tmp 31) (.tmp 35) h46) zB))) ?_
  refine J_d 1959 [] [27] [(27,iv (w64 (s37.2+1)))] [] [] zB ?_
  exact J_q (J_b (ih (x45,w64 (s37.2+1)))) rfl
 ·exact zN (hk s37.1) rfl
theorem zBK.ok (a1:(List Pack)) (a2:(List Term)) (a3:(List (List Int))) (q:Wd) (kn:ByteArray→Option (D×List Ent)) (hk:∀v:ByteArray,J (q.g Tryz.prog 20 0 39) c20 (atI c20 15) (St.mk' [(0,sl 8 (Pack.enc false) a1),(2,sl 1 (eSl false 1 zF) a3),(7,sv v)] []) (some v) kn):
  ∀s15:(ByteArray×Int),J (q.g Tryz.prog 20 0 39) c20 (atI c20 116) (St.mk' [(0,sl 8 (Pack.enc false) a1),(2,sl 1 (eSl false 1 zF) a3),(7,sv s15.1),(12,sl 7 Term.enc a2),(13,iv (a2.length:Int)),(14,iv s15.2)] []) (zBK a1 a2 a3 s15) kn:=by
 refine uM (fun g ih s15=>?_)
 unfold zBr
 refine J_d 232 [] [15] [(15,bv (decide (s15.2< (a2.length:Int))))] [] [] zB ?_
 refine zG 15 (fun h16=>?_) (fun h16=>?_)
 ·refine zA (fun x17 h18=>?_)
  refine J_d 3736 [(2,0)] [9,15] [(9,pp 0)] [0] [(0,.box (Term.enc x17))] (zD 0 (wM (kk:=.i64) 25 85 7 Term.enc (.tmp 12) (.tmp 14) h18) zB) ?_
  refine zA (fun x19 h20=>?_)
  refine zA (fun x21 h22=>?_)
  refine zA (fun x23 h24=>?_)
  refine zA (fun x25 h26=>?_)
  refine J_g 3737 [] [(0,sl 8 (Pack.enc false) a1),(2,sl 1 (eSl false 1 zF) a3),(7,sv x25),(12,sl 7 Term.enc a2),(13,iv (a2.length:Int)),(14,iv s15.2)] [] (zD 2 (yG [(.tmp 19)] [85] (kX.ok x17) h20) (zD 3 (zAJ 9 9 (.const (.string (bs [114,111,111,116,32]))) (.tmp 20) h22) (zD 4 (zAJ 9 9 (.tmp 21) (.const (.string (bs [10]))) h24) (zD 5 (zAJ 9 9 (.tmp 18) (.tmp 22) h26) zB)))) ?_
  refine J_d 935 [] [14] [(14,iv (w64 (s15.2+1)))] [] [] zB ?_
  exact J_q (J_b (ih (x25,w64 (s15.2+1)))) rfl
 ·exact zN (hk s15.1) rfl
theorem zBB.ok (a1:(List Pack)) (a2:(List Term)) (a3:(List (List Int))):Ok Tryz.prog 20 [sl 8 (Pack.enc false) a1,sl 7 Term.enc a2,sl 1 (eSl false 1 zF) a3] [] ((zBB a1 a2 a3).map fun r=>(sv r,[])):=by
 refine zJ c20 Tryz.f20 0 39 (fun q=>?_)
 unfold zBB
 refine J_g 2 [] [(0,sl 8 (Pack.enc false) a1),(1,sl 7 Term.enc a2),(2,sl 1 (eSl false 1 zF) a3)] [] zB ?_
 refine J_g 6 [] [(0,sl 8 (Pack.enc false) a1),(1,sl 7 Term.enc a2),(2,sl 1 (eSl false 1 zF) a3),(7,sv (bs []))] [] zB ?_
 refine J_d 28 [] [1,12,13,14] [(12,sl 7 Term.enc a2),(13,iv (a2.length:Int)),(14,iv 0)] [] [] zB ?_
 refine zEx (zBK.ok a1 a2 a3 q _ (fun v27=>J_j ?_) (bs [],0))
 refine J_d 60 [] [2,25,26,27] [(25,sl 1 (eSl false 1 zF) a3),(26,iv (a3.length:Int)),(27,iv 0)] [] [] zB ?_
 refine zEx (zCm.ok a1 a3 q _ (fun v47=>J_j ?_) (v27,0))
 refine J_g 62 [] [(6,sv v47)] [] zB ?_
 exact yA rfl
def c6:Code:=cdB Tryz.f6
theorem uH.ok (a1:(List Pack)) (a2:(List Term)) (a3:(List (List Int))):Ok Tryz.prog 6 [sl 8 (Pack.enc false) a1,sl 7 Term.enc a2,sl 1 (eSl false 1 zF) a3] [] ((uH a1 a2 a3).map fun r=>(sv r,[])):=by
 refine zJ c6 Tryz.f6 0 24 (fun q=>?_)
 unfold uH
 refine J_d 2 [(0,0)] [0,3] [(3,pp 0)] [0] [(0,.box [sl 8 (Pack.enc false) a1])] zB ?_
 refine zA (fun x4 h5=>?_)
 refine zU (atI c6 13) (fun v12:Bool=>St.mk' [(1,sl 7 Term.enc a2),(2,sl 1 (eSl false 1 zF) a3),(3,pp 0),(19,bv v12)] [(0,.box [sl 8 (Pack.enc false) a1])]) (fun v12=>?_) (fun jv12=>?_)
 ·refine zG 19 (fun h13=>?_) (fun h13=>?_)
  ·refine J_g 52 [] [(6,sv (bs []))] [] zB ?_
   exact yA rfl
  ·refine zA (fun x14 h15=>?_)
   refine J_g 14 [] [(6,sv x14)] [] (zD 3 (yG [(.tmp 20),(.tmp 21),(.tmp 22)] [24,25,26] (zBB.ok a1 a2 a3) h15) zB) ?_
   exact yA rfl
 ·refine xB (fun h6=>?_) (fun h6=>?_)
  ·refine J_d 12 [] [19] [(19,bv true)] [] [] (zD 1 (yG [(.tmp 7)] [24] (xL.ok a1) h5) (yO 3 [(9,bv (x4 !=0))] [] h6 zB)) ?_
   exact zN (J_j (jv12 true)) rfl
  ·refine zA (fun x7 h8=>?_)
   refine xB (fun h9=>?_) (fun h9=>?_)
   ·refine J_d 12 [] [19] [(19,bv true)] [] [] (zD 1 (yG [(.tmp 7)] [24] (xL.ok a1) h5) (yO 3 [(9,bv (x4 !=0))] [] h6 (uD 5 3 10 false (yG [(.tmp 11)] [25] (wG.ok a2) h8) (yO 8 [(14,bv (x7 !=0))] [] h9 zB)))) ?_
    exact zN (J_j (jv12 true)) rfl
   ·refine zA (fun x10 h11=>?_)
    refine J_d 12 [] [19] [(19,bv x10)] [] [] (zD 1 (yG [(.tmp 7)] [24] (xL.ok a1) h5) (yO 3 [(9,bv (x4 !=0))] [] h6 (uD 5 3 10 false (yG [(.tmp 11)] [25] (wG.ok a2) h8) (yO 8 [(14,bv (x7 !=0))] [] h9 (uD 11 8 15 false (zH7 [(0,.box [sl 8 (Pack.enc false) a1])] [] (xH («as»:=[sl 1 (eSl false 1 zF) a3,.fn 18 [pp 0]]) [(.tmp 16),(.tmp 17)] [26,49] false [(0,.box [sl 8 (Pack.enc false) a1])] [0] (.cons (.same rfl) (.cons (.fn (.cons (.pt rfl) (.nil))) (.nil))) (zX.ok a3 a1) h11 (.same rfl rfl))) zB))))) ?_
    exact zN (J_j (jv12 x10)) rfl
theorem strings_Split.ok (a1 a2:ByteArray):Ok Tryz.prog 56 [sv a1,sv a2] [] ((strings_Split a1 a2).map fun r=>(so 1 eStr r,[])):=by
 unfold strings_Split
 split
 ·rename_i h
  refine zPS (t:=9) (fun w hG=>?_)
  obtain ⟨m,hm⟩:=zOT (g:=0) hG (by kernel_rfl)
  rw [Lib.splitB_all a2 h.2 0 _ a1 rfl]
  exact Tryz.strings_Split a1 a2 m w h.1 hm h.2
 ·exact fun _ h=>by cases h
def c52:Code:=cdB Tryz.f52
theorem zDl.ok (a1:ByteArray):Ok Tryz.prog 52 [sv a1] [] ((zDl a1).map fun r=>(sl 1 eStr r,[])):=by
 refine zJ c52 Tryz.f52 0 19 (fun q=>?_)
 unfold zDl
 refine J_g 2 [] [(0,sv a1)] [] zB ?_
 refine zA (fun x2 h3=>?_)
 refine J_g 6 [] [(3,rr 0 x2)] [(0,rE 1 eStr x2)] (zD 1 (xH («as»:=[sv a1,sv (bs [10])]) [(.tmp 4),(.const (.string (bs [10])))] [9,9] false [] [] (.cons (.same rfl) (.cons (.same rfl) (.nil))) (strings_Split.ok a1 (bs [10])) h3 (.own 0)) zB) ?_
 refine zA (fun x4 h5=>?_)
 refine J_d 28 [] [12] [(12,bv (seq x4 (bs [])))] [] [] (zD 4 (zAb (kk:=.i64) 69 9 1 0 eStr (.tmp 6) (.tmp 9) h5) (zD 5 (zAa (d:=sv x4) 9 1 0 0 eStr (.tmp 10) h5 (by kernel_rfl)) zB)) ?_
 refine zU (atI c52 15) (fun v9:(List ByteArray)=>St.mk' [(3,rr 1 v9)] [(1,rE 1 eStr v9)]) (fun v9=>?_) (fun jv9=>?_)
 ·refine J_g 30 [] [(2,rr 1 v9)] [(1,rE 1 eStr v9)] zB ?_
  refine vB [(2,rr 1 v9)] [(1,rE 1 eStr v9)] (by kernel_rfl) ?_
  refine zEc 1 (z:=1) (xs:=v9.map eStr) (tm2:=[(2,sl 1 eStr v9)]) (hp2:=[]) (.cons (.rf (by simp) (jG (enc:=eStr) (enc':=eStr) (fun _=>rfl) v9 rfl rfl)) (.nil)) (.nil) rfl ?_
  exact yA rfl
 ·refine zG 12 (fun h6=>?_) (fun h6=>?_)
  ·refine zA (fun x7 h8=>?_)
   refine J_g 58 [] [(3,rr 1 x7)] [(1,rE 1 eStr x7)] (zD 4 (zQK 69 9 1 0 1 eStr (.tmp 13) none (some (.tmp 16)) h8) zB) ?_
   exact zN (J_j (jv9 x7)) rfl
  ·refine xV 0 1 (qB rfl) (qB rfl) ?_
   exact zN (J_j (jv9 x2)) rfl
def c154:Code:=cdB Tryz.f154
theorem xQ.ok (a1:ByteArray) (a2:ByteArray):Ok Tryz.prog 154 [sv a1,sv a2] [] ((xQ a1 a2).map fun r=>(bv r,[])):=by
 refine zJ c154 Tryz.f154 0 18 (fun q=>?_)
 unfold xQ
 refine J_d 2 [] [] [] [] [] zB ?_
 refine xB (fun h3=>?_) (fun h3=>?_)
 ·refine zA (fun x4 h5=>?_)
  refine J_g 6 [] [(4,bv (seq x4 a2))] [] (yO 5 [(9,bv (decide ((a1.size:Int)≥(a2.size:Int))))] [] h3 (uD 9 5 10 true (zKY 9 (.tmp 11) none (some (.tmp 13)) h5) zB)) ?_
  exact yA rfl
 ·refine J_g 6 [] [(4,bv false)] [] (yO 5 [(9,bv (decide ((a1.size:Int)≥(a2.size:Int))))] [] h3 zB) ?_
  exact yA rfl
def zTy:Code:=cdB Tryz.f114
theorem xR.ok (a1:ByteArray) (a2:ByteArray):Ok Tryz.prog 114 [sv a1,sv a2] [] ((xR a1 a2).map fun r=>(.tu [sv r.1,bv r.2],[])):=by
 refine zJ zTy Tryz.f114 0 15 (fun q=>?_)
 unfold xR
 refine J_d 2 [] [] [] [] [] zB ?_
 refine zA (fun x3 h4=>?_)
 refine J_d 12 [] [9] [(9,bv (!x3))] [] [] (zD 2 (yG [(.tmp 6),(.tmp 7)] [9,9] (xQ.ok a1 a2) h4) zB) ?_
 refine zG 9 (fun h5=>?_) (fun h5=>?_)
 ·refine J_g 52 [] [(4,sv a1),(5,bv false)] [] zB ?_
  exact zPj rfl
 ·refine zA (fun x6 h7=>?_)
  refine J_g 14 [] [(4,sv x6),(5,bv true)] [] (zD 3 (zKY 9 (.tmp 11) (some (.tmp 13)) none h7) zB) ?_
  exact zPj rfl
def c53:Code:=cdB Tryz.f53
theorem strings_CutPrefix.ok (a1:ByteArray) (a2:ByteArray):Ok Tryz.prog 53 [sv a1,sv a2] [] ((strings_CutPrefix a1 a2).map fun r=>(.tu [sv r.1,bv r.2],[])):=by
 refine zJ c53 Tryz.f53 0 11 (fun q=>?_)
 unfold strings_CutPrefix
 refine J_d 2 [] [] [] [] [] zB ?_
 refine zA (fun x3 h4=>?_)
 refine J_g 6 [] [(4,sv x3.1),(5,bv x3.2)] [] (zD 2 (yG [(.tmp 6),(.tmp 7)] [9,9] (xR.ok a1 a2) h4) zB) ?_
 exact zPj rfl
def c116:Code:=cdB Tryz.f116
theorem zEm.ok (a1:ByteArray):Ok Tryz.prog 116 [sv a1] [] ((zEm a1).map fun r=>(.ag (Term.enc r),[])):=by
 refine zJ c116 Tryz.f116 0 6 (fun q=>?_)
 unfold zEm
 refine J_g 2 [(0,0)] [(0,sv a1),(2,pp 0)] [(0,.box [sv ByteArray.empty,iv 0,iv 0,iv 0,iv 0,iv 0,iv 0])] zB ?_
 refine zA (fun x2 h3=>?_)
 refine J_g 6 [] [(2,pp 0)] [(0,.box [sv a1,iv 0,iv 0,iv 0,iv x2.A,iv x2.B,iv x2.C])] (zD 1 (yG [] [] (zDr.ok) h3) zB) ?_
 exact yA rfl
theorem strings_IndexByte.ok (a1:ByteArray) (a2:Int):Ok Tryz.prog 117 [sv a1,uv a2] [] ((strings_IndexByte a1 a2).map fun r=>(iv r,[])):=
 zSE (vs:=[.string a1,.int .u8 a2]) (fun w=>Tryz.strings_IndexByte a1 a2 w)
def c156:Code:=cdB Tryz.f156
theorem zDI.ok (a1:ByteArray) (q:Wd) (kn:Int→Option (D×List Ent)) (hk:∀v:Int,J (q.g Tryz.prog 156 0 40) c156 (atI c156 31) (St.mk' [(5,iv v)] []) (some v) kn):
  ∀s16:(Int×Int),J (q.g Tryz.prog 156 0 40) c156 (atI c156 244) (St.mk' [(0,sv a1),(5,iv s16.1),(16,iv (a1.size:Int)),(17,iv s16.2)] []) (zDI a1 s16) (Fl.go (fun r:Int=>some (iv r,[])) kn):=by
 refine uM (fun g ih s16=>?_)
 unfold zC7
 refine J_d 488 [] [18] [(18,bv (decide (s16.2< (a1.size:Int))))] [] [] zB ?_
 refine zG 18 (fun h17=>?_) (fun h17=>?_)
 ·refine J_d 7832 [] [6,18] [(6,iv s16.2)] [] [] zB ?_
  refine zA (fun x18 h19=>?_)
  refine zU (atI c156 31333) (fun v23:Bool=>St.mk' [(0,sv a1),(5,iv s16.1),(6,iv s16.2),(16,iv (a1.size:Int)),(17,iv s16.2),(29,bv v23)] []) (fun v23=>?_) (fun jv23=>?_)
  ·refine zG 29 (fun h24=>?_) (fun h24=>?_)
   ·refine J_g 125332 [] [(4,iv (-1))] [] zB ?_
    exact yA rfl
   ·refine zA (fun x25 h26=>?_)
    refine J_g 15667 [] [(0,sv a1),(5,iv (w64 ((w64 (10*s16.1))+(w64 (IntKind.u8.wrap (x25-48)))))),(16,iv (a1.size:Int)),(17,iv s16.2)] [] (zD 4 (zKZ (kk:=.i64) 9 (.tmp 32) (.tmp 33) h26) zB) ?_
    refine J_d 1959 [] [17] [(17,iv (w64 (s16.2+1)))] [] [] zB ?_
    exact J_q (J_b (ih (w64 ((w64 (10*s16.1))+(w64 (IntKind.u8.wrap (x25-48)))),w64 (s16.2+1)))) rfl
  ·refine xB (fun h20=>?_) (fun h20=>?_)
   ·refine J_d 31332 [] [29] [(29,bv true)] [] [] (zD 2 (zKZ (kk:=.i64) 9 (.tmp 20) (.tmp 21) h19) (yO 4 [(23,bv (decide (x18<48)))] [] h20 zB)) ?_
    exact zN (J_j (jv23 true)) rfl
   ·refine zA (fun x21 h22=>?_)
    refine J_d 31332 [] [29] [(29,bv (decide (x21>57)))] [] [] (zD 2 (zKZ (kk:=.i64) 9 (.tmp 20) (.tmp 21) h19) (yO 4 [(23,bv (decide (x18<48)))] [] h20 (uD 7 4 24 false (zKZ (kk:=.i64) 9 (.tmp 25) (.tmp 26) h22) zB))) ?_
    exact zN (J_j (jv23 (decide (x21>57)))) rfl
 ·exact zN (hk s16.1) rfl
theorem zEf.ok (a1:ByteArray) (a2:Int):Ok Tryz.prog 156 [sv a1,iv a2] [] ((zEf a1 a2).map fun r=>(iv r,[])):=by
 refine zJ c156 Tryz.f156 0 40 (fun q=>?_)
 unfold zEf
 refine J_d 2 [] [] [] [] [] zB ?_
 refine zU (atI c156 13) (fun v4:Bool=>St.mk' [(0,sv a1),(14,bv v4)] []) (fun v4=>?_) (fun jv4=>?_)
 ·refine zG 14 (fun h5=>?_) (fun h5=>?_)
  ·refine J_g 52 [] [(4,iv (-1))] [] zB ?_
   exact yA rfl
  ·refine J_g 14 [] [(0,sv a1),(5,iv 0)] [] zB ?_
   refine J_d 60 [] [16,17] [(16,iv (a1.size:Int)),(17,iv 0)] [] [] zB ?_
   refine uL (K0:=(fun r:Int=>some (iv r,[]))) (fun _=>rfl) (zDI.ok a1 q _ (fun v27=>J_j ?_) (0,0))
   refine J_g 62 [] [(4,iv v27)] [] zB ?_
   exact yA rfl
 ·refine xB (fun h3=>?_) (fun h3=>?_)
  ·refine J_g 12 [] [(0,sv a1),(14,bv true)] [] (yO 2 [(8,bv (seq a1 (bs [])))] [] h3 zB) ?_
   exact zN (J_j (jv4 true)) rfl
  ·refine J_g 12 [] [(0,sv a1),(14,bv (decide ((a1.size:Int)>a2)))] [] (yO 2 [(8,bv (seq a1 (bs [])))] [] h3 zB) ?_
   exact zN (J_j (jv4 (decide ((a1.size:Int)>a2)))) rfl
def zR1:Code:=cdB Tryz.f118
theorem jI.ok (x2:(List ByteArray)) (q:Wd) (kn:(List Int)→Option (D×List Ent)) (hk:∀v:(List Int),J (q.g Tryz.prog 118 0 39) zR1 (atI zR1 63) (St.mk' [(2,pp 0),(4,pp 2)] [(0,.box [iv 0,iv 0,iv 0,iv 0]),(2,rE 1 zF v)]) (some v) kn):
  ∀s15:((List Int)×Int),J (q.g Tryz.prog 118 0 39) zR1 (atI zR1 500) (St.mk' [(2,pp 0),(4,pp 2),(14,rr 1 x2),(15,iv (x2.length:Int)),(16,iv s15.2)] [(0,.box [iv 0,iv 0,iv 0,iv 0]),(1,rE 1 eStr x2),(2,rE 1 zF s15.1)]) (jI x2 s15) (Fl.go (fun r:zQ=>some (.ag (zQ.enc r),[])) kn):=by
 refine uM (fun g ih s15=>?_)
 unfold jA
 refine J_d 1000 [] [17] [(17,bv (decide (s15.2< (x2.length:Int))))] [] [] zB ?_
 refine zG 17 (fun h16=>?_) (fun h16=>?_)
 ·refine zA (fun x17 h18=>?_)
  refine J_d 16024 [] [5,6,17] [(5,iv s15.2),(6,sv x17)] [] [] (zD 1 (zAb (kk:=.i64) 69 9 1 1 eStr (.tmp 14) (.tmp 16) h18) (zD 2 (zAa (d:=sv x17) 9 1 1 0 eStr (.tmp 19) h18 (by kernel_rfl)) zB)) ?_
  refine zA (fun x19 h20=>?_)
  refine zA (fun x21 h22=>?_)
  refine J_d 32050 [] [6] [] [2] [(2,rE 1 zF (s15.1.set s15.2.toNat x19))] (zD 2 (yG [(.tmp 22),(.const (.int .i64 3))] [9,3] (zEf.ok x17 3) h20) (zD 3 (zOU (kk:=.i64) 187 2 1 2 zF (.tmp 4) (.tmp 21) 3 h22) (zRG 4 (zSm (b:=x19) 2 1 2 0 zF (iv x19) (.tmp 24) (.tmp 23) (zHk h22) rfl) zB))) ?_
  refine zA (fun x23 h24=>?_)
  refine J_d 64102 [] [5,28] [(28,bv (decide (x23<0)))] [] [] (zD 1 (zOU (kk:=.i64) 187 2 1 2 zF (.tmp 4) (.tmp 25) 3 h24) (zD 2 (zAa (d:=iv x23) 2 1 2 0 zF (.tmp 26) (zHk h24) (by kernel_rfl)) zB)) ?_
  refine zG 28 (fun h25=>?_) (fun h25=>?_)
  ·refine J_g 256412 [] [(2,pp 0)] [(0,.box [iv 5,iv 0,iv 0,iv 0])] zB ?_
   exact yA rfl
  ·refine J_d 4007 [] [16,28] [(16,iv (w64 (s15.2+1)))] [] [] zB ?_
   exact J_q (J_b (ih (s15.1.set s15.2.toNat x19,w64 (s15.2+1)))) rfl
 ·exact zN (hk s15.1) rfl
theorem wH.ok (a1:ByteArray):Ok Tryz.prog 118 [sv a1] [] ((wH a1).map fun r=>(.ag (zQ.enc r),[])):=by
 refine zJ zR1 Tryz.f118 0 39 (fun q=>?_)
 unfold wH
 refine J_g 2 [(0,0)] [(0,sv a1),(2,pp 0)] [(0,.box [iv 0,iv 0,iv 0,iv 0])] zB ?_
 refine zA (fun x2 h3=>?_)
 refine J_g 6 [] [(2,pp 0),(3,rr 1 x2)] [(0,.box [iv 0,iv 0,iv 0,iv 0]),(1,rE 1 eStr x2)] (zD 1 (xH («as»:=[sv a1,sv (bs [46])]) [(.tmp 7),(.const (.string (bs [46])))] [9,9] false [] [] (.cons (.same rfl) (.cons (.same rfl) (.nil))) (strings_Split.ok a1 (bs [46])) h3 (.own 1)) zB) ?_
 refine J_g 14 [(1,2)] [(2,pp 0),(3,rr 1 x2),(4,pp 2)] [(0,.box [iv 0,iv 0,iv 0,iv 0]),(1,rE 1 eStr x2),(2,.box [iv 0,iv 0,iv 0])] (zD 0 (zPv 187 [.int .i64 0,.int .i64 0,.int .i64 0]) zB) ?_
 refine vB [(2,pp 0),(3,rr 1 x2),(4,pp 2)] [(2,.box [iv 0,iv 0,iv 0]),(0,.box [iv 0,iv 0,iv 0,iv 0]),(1,rE 1 eStr x2)] (by kernel_rfl) ?_
 refine zPN 2 (z:=1) (xs:=([0,0,0]:(List Int)).map zF) (by kernel_rfl) (by kernel_rfl) (by kernel_rfl) (by kernel_rfl) rfl ?_
 refine vB [(2,pp 0),(3,rr 1 x2),(4,pp 2)] [(0,.box [iv 0,iv 0,iv 0,iv 0]),(1,rE 1 eStr x2),(2,rE 1 zF ([0,0,0]:(List Int)))] (by kernel_rfl) ?_
 refine J_d 60 [] [12] [(12,bv (decide ((x2.length:Int)>3)))] [] [] zB ?_
 refine zG 12 (fun h4=>?_) (fun h4=>?_)
 ·refine J_g 244 [] [(2,pp 0)] [(0,.box [iv 5,iv 0,iv 0,iv 0])] zB ?_
  exact yA rfl
 ·refine J_d 124 [] [3,12,14,15,16] [(14,rr 1 x2),(15,iv (x2.length:Int)),(16,iv 0)] [] [] zB ?_
  refine uL (K0:=(fun r:zQ=>some (.ag (zQ.enc r),[]))) (fun _=>rfl) (jI.ok x2 q _ (fun v26=>J_j ?_) (([0,0,0]:(List Int)),0))
  refine zA (fun x27 h28=>?_)
  refine zA (fun x29 h30=>?_)
  refine zA (fun x31 h32=>?_)
  refine J_g 126 [] [(2,pp 0)] [(0,.box [iv 0,iv x27,iv x29,iv x31])] (zD 0 (zOU (kk:=.i64) 187 2 1 2 zF (.tmp 4) (.const (.int .i64 0)) 3 h28) (zD 1 (zAa (d:=iv x27) 2 1 2 0 zF (.tmp 31) (zHk h28) (by kernel_rfl)) (zD 2 (zOU (kk:=.i64) 187 2 1 2 zF (.tmp 4) (.const (.int .i64 1)) 3 h30) (zD 3 (zAa (d:=iv x29) 2 1 2 0 zF (.tmp 33) (zHk h30) (by kernel_rfl)) (zD 4 (zOU (kk:=.i64) 187 2 1 2 zF (.tmp 4) (.const (.int .i64 2)) 3 h32) (zD 5 (zAa (d:=iv x31) 2 1 2 0 zF (.tmp 35) (zHk h32) (by kernel_rfl)) zB)))))) ?_
  exact yA rfl
def c54:Code:=cdB Tryz.f54
theorem kF.ok (a1:ByteArray) (q:Wd) (kn:Int→Option (D×List Ent)) (hk:∀v:Int,J (q.g Tryz.prog 54 0 90) c54 (atI c54 15) (St.mk' [(0,sv a1),(2,pp 0),(3,iv v)] [(0,.box [iv 0,sv ByteArray.empty,iv 0,iv 0,iv 0,iv 0,iv 0,iv 0])]) (some v) kn):
  ∀s9:Int,J (q.g Tryz.prog 54 0 90) c54 (atI c54 56) (St.mk' [(0,sv a1),(2,pp 0),(3,iv s9)] [(0,.box [iv 0,sv ByteArray.empty,iv 0,iv 0,iv 0,iv 0,iv 0,iv 0])]) (kF a1 s9) kn:=by
 refine uM (fun g ih s9=>?_)
 unfold zCx
 refine zU (atI c54 225) (fun v15:Bool=>St.mk' [(0,sv a1),(2,pp 0),(3,iv s9),(23,bv v15)] [(0,.box [iv 0,sv ByteArray.empty,iv 0,iv 0,iv 0,iv 0,iv 0,iv 0])]) (fun v15=>?_) (fun jv15=>?_)
 ·refine zG 23 (fun h16=>?_) (fun h16=>?_)
  ·refine J_d 226 [] [3,23] [(3,iv (w64 (s9+1)))] [] [] zB ?_
   exact J_q (J_b (ih (w64 (s9+1)))) rfl
  ·exact zN (hk s9) rfl
 ·refine xB (fun h10=>?_) (fun h10=>?_)
  ·refine zA (fun x11 h12=>?_)
   refine zA (fun x13 h14=>?_)
   refine J_d 224 [] [23] [(23,bv x13)] [] [] (yO 4 [(17,bv (decide (s9< (a1.size:Int))))] [] h10 (uD 7 4 18 true (zKZ (kk:=.i64) 9 (.tmp 19) (.tmp 20) h12) (uD 8 4 18 true (yG [(.tmp 21)] [5] (uF.ok x11) h14) zB))) ?_
   exact zN (J_j (jv15 x13)) rfl
  ·refine J_d 224 [] [23] [(23,bv false)] [] [] (yO 4 [(17,bv (decide (s9< (a1.size:Int))))] [] h10 zB) ?_
   exact zN (J_j (jv15 false)) rfl
theorem zAP.ok (a1:ByteArray):Ok Tryz.prog 54 [sv a1] [] ((zAP a1).map fun r=>(.ag (xC.enc r),[])):=by
 refine zJ c54 Tryz.f54 0 90 (fun q=>?_)
 unfold zAP
 refine J_g 2 [(0,0)] [(0,sv a1),(2,pp 0)] [(0,.box [iv 0,sv ByteArray.empty,iv 0,iv 0,iv 0,iv 0,iv 0,iv 0])] zB ?_
 refine J_d 6 [] [3] [(3,iv 0)] [] [] zB ?_
 refine zEx (kF.ok a1 q _ (fun v17=>J_j ?_) 0)
 refine zA (fun x18 h19=>?_)
 refine zA (fun x20 h21=>?_)
 refine J_d 30 [(4,1)] [4] [(4,pp 1)] [1] [(1,.box (Term.enc x20))] (zD 2 (zKY 9 (.tmp 26) none (some (.tmp 27)) h19) (zD 3 (yG [(.tmp 28)] [9] (zEm.ok x18) h21) zB)) ?_
 refine zA (fun x22 h23=>?_)
 refine J_d 62 [] [0,3,5] [(5,sv x22)] [] [] (zD 2 (zKY 9 (.tmp 30) (some (.tmp 31)) none h23) zB) ?_
 refine zA (fun x24 h25=>?_)
 refine J_d 252 [] [36] [(36,bv (x24 !=0))] [] [] (zD 2 (yG [(.tmp 34)] [9] (wR.ok x20.Name) h25) zB) ?_
 refine zG 36 (fun h26=>?_) (fun h26=>?_)
 ·refine J_g 1012 [] [(2,pp 0)] [(0,.box [iv 5,sv ByteArray.empty,iv 0,iv 0,iv 0,iv 0,iv 0,iv 0])] zB ?_
  exact yA rfl
 ·refine zA (fun x27 h28=>?_)
  refine J_g 508 [] [(2,pp 0),(4,pp 1),(5,sv x22),(6,sv x27.1),(7,bv x27.2)] [(0,.box [iv 0,sv ByteArray.empty,iv 0,iv 0,iv 0,iv 0,iv 0,iv 0]),(1,.box (Term.enc x20))] (zD 1 (yG [(.tmp 39),(.const (.string (bs [62,61])))] [9,9] (strings_CutPrefix.ok x22 (bs [62,61])) h28) zB) ?_
  refine J_d 1018 [] [7,43] [(43,bv x27.2)] [] [] zB ?_
  refine zK3 (atI c54 255) (fun v41:(Int×Int×Int×ByteArray)=>St.mk' [(2,pp 0),(4,pp 1),(5,sv v41.2.2.2)] [(0,.box [iv 0,sv ByteArray.empty,iv 0,iv 0,iv 0,iv 0,iv 0,iv 0]),(1,.box [sv x20.Name,iv v41.1,iv v41.2.1,iv v41.2.2.1,iv x20.High.A,iv x20.High.B,iv x20.High.C])]) (fun v41=>?_) (fun jv41=>?_)
  ·refine zA (fun x42 h43=>?_)
   refine J_g 1020 [] [(2,pp 0),(4,pp 1),(5,sv v41.2.2.2),(10,sv x42.1),(11,bv x42.2)] [(0,.box [iv 0,sv ByteArray.empty,iv 0,iv 0,iv 0,iv 0,iv 0,iv 0]),(1,.box [sv x20.Name,iv v41.1,iv v41.2.1,iv v41.2.2.1,iv x20.High.A,iv x20.High.B,iv x20.High.C])] (zD 1 (yG [(.tmp 65),(.const (.string (bs [60])))] [9,9] (strings_CutPrefix.ok v41.2.2.2 (bs [60])) h43) zB) ?_
   refine J_d 2042 [] [11,69] [(69,bv x42.2)] [] [] zB ?_
   refine zK3 (atI c54 511) (fun v48:(Int×Int×Int×ByteArray)=>St.mk' [(2,pp 0),(4,pp 1),(5,sv v48.2.2.2)] [(0,.box [iv 0,sv ByteArray.empty,iv 0,iv 0,iv 0,iv 0,iv 0,iv 0]),(1,.box [sv x20.Name,iv v41.1,iv v41.2.1,iv v41.2.2.1,iv v48.1,iv v48.2.1,iv v48.2.2.1])]) (fun v48=>?_) (fun jv48=>?_)
   ·refine J_d 2044 [] [5,80] [(80,bv (!(seq v48.2.2.2 (bs []))))] [] [] zB ?_
    refine zG 80 (fun h49=>?_) (fun h49=>?_)
    ·refine J_g 8180 [] [(2,pp 0)] [(0,.box [iv 5,sv ByteArray.empty,iv 0,iv 0,iv 0,iv 0,iv 0,iv 0])] zB ?_
     exact yA rfl
    ·refine zA (fun x50 h51=>?_)
     refine J_g 4092 [] [(2,pp 0),(4,pp 1),(13,iv x50)] [(0,.box [iv 0,sv ByteArray.empty,iv 0,iv 0,iv 0,iv 0,iv 0,iv 0]),(1,.box [sv x20.Name,iv v41.1,iv v41.2.1,iv v41.2.2.1,iv v48.1,iv v48.2.1,iv v48.2.2.1])] (zD 1 (yG [(.tmp 82)] [85] (wW.ok ({Name:=x20.Name,Low:=({A:=v41.1,B:=v41.2.1,C:=v41.2.2.1}:Version),High:=({A:=v48.1,B:=v48.2.1,C:=v48.2.2.1}:Version)}:Term)) h51) zB) ?_
     refine J_d 8186 [] [85] [(85,bv (x50 !=0))] [] [] zB ?_
     refine zG 85 (fun h52=>?_) (fun h52=>?_)
     ·refine J_g 32748 [] [(2,pp 0)] [(0,.box [iv x50,sv ByteArray.empty,iv 0,iv 0,iv 0,iv 0,iv 0,iv 0])] zB ?_
      exact yA rfl
     ·refine J_g 4094 [] [(2,pp 0)] [(0,.box [iv 0,sv x20.Name,iv v41.1,iv v41.2.1,iv v41.2.2.1,iv v48.1,iv v48.2.1,iv v48.2.2.1])] zB ?_
      exact yA rfl
   ·refine zG 69 (fun h44=>?_) (fun h44=>?_)
    ·refine zA (fun x45 h46=>?_)
     refine J_g 8172 [(2,2)] [(2,pp 0),(4,pp 1),(12,pp 2)] [(0,.box [iv 0,sv ByteArray.empty,iv 0,iv 0,iv 0,iv 0,iv 0,iv 0]),(1,.box [sv x20.Name,iv v41.1,iv v41.2.1,iv v41.2.2.1,iv x20.High.A,iv x20.High.B,iv x20.High.C]),(2,.box (zQ.enc x45))] (zD 1 (yG [(.tmp 70)] [9] (wH.ok x42.1) h46) zB) ?_
     refine J_d 32692 [] [74] [(74,bv (x45.Code !=0))] [] [] zB ?_
     refine zG 74 (fun h47=>?_) (fun h47=>?_)
     ·refine J_g 130772 [] [(2,pp 0)] [(0,.box [iv 5,sv ByteArray.empty,iv 0,iv 0,iv 0,iv 0,iv 0,iv 0])] zB ?_
      exact yA rfl
     ·refine J_d 16347 [] [5,12,74] [(5,sv (bs []))] [1,2] [(1,.box [sv x20.Name,iv v41.1,iv v41.2.1,iv v41.2.2.1,iv x45.Version.A,iv x45.Version.B,iv x45.Version.C])] zB ?_
      exact zN (J_j (jv48 (x45.Version.A,x45.Version.B,x45.Version.C,bs []))) rfl
    ·exact zN (J_j (jv48 (x20.High.A,x20.High.B,x20.High.C,v41.2.2.2))) rfl
  ·refine zG 43 (fun h29=>?_) (fun h29=>?_)
   ·refine zA (fun x30 h31=>?_)
    refine J_g 4076 [] [(2,pp 0),(4,pp 1),(6,sv x27.1),(8,iv x30)] [(0,.box [iv 0,sv ByteArray.empty,iv 0,iv 0,iv 0,iv 0,iv 0,iv 0]),(1,.box (Term.enc x20))] (zD 1 (yG [(.tmp 44),(.const (.int .u8 60))] [9,5] (strings_IndexByte.ok x27.1 60) h31) zB) ?_
    refine J_d 16308 [] [47] [(47,bv (decide (x30<0)))] [] [] zB ?_
    refine zU (atI c54 8155) (fun v33:Int=>St.mk' [(2,pp 0),(4,pp 1),(6,sv x27.1),(8,iv v33)] [(0,.box [iv 0,sv ByteArray.empty,iv 0,iv 0,iv 0,iv 0,iv 0,iv 0]),(1,.box (Term.enc x20))]) (fun v33=>?_) (fun jv33=>?_)
    ·refine zA (fun x34 h35=>?_)
     refine zA (fun x36 h37=>?_)
     refine J_g 16310 [(4,2)] [(2,pp 0),(4,pp 1),(6,sv x27.1),(8,iv v33),(9,pp 2)] [(0,.box [iv 0,sv ByteArray.empty,iv 0,iv 0,iv 0,iv 0,iv 0,iv 0]),(1,.box (Term.enc x20)),(2,.box (zQ.enc x36))] (zD 2 (zKY 9 (.tmp 50) none (some (.tmp 51)) h35) (zD 3 (yG [(.tmp 52)] [9] (wH.ok x34) h37) zB)) ?_
     refine J_d 65244 [] [56] [(56,bv (x36.Code !=0))] [] [] zB ?_
     refine zG 56 (fun h38=>?_) (fun h38=>?_)
     ·refine J_g 260980 [] [(2,pp 0)] [(0,.box [iv 5,sv ByteArray.empty,iv 0,iv 0,iv 0,iv 0,iv 0,iv 0])] zB ?_
      exact yA rfl
     ·refine zA (fun x39 h40=>?_)
      refine J_d 32623 [] [5,6,8,9,56] [(5,sv x39)] [1,2] [(1,.box [sv x20.Name,iv x36.Version.A,iv x36.Version.B,iv x36.Version.C,iv x20.High.A,iv x20.High.B,iv x20.High.C])] (zD 4 (zKY 9 (.tmp 60) (some (.tmp 61)) none h40) zB) ?_
      exact zN (J_j (jv41 (x36.Version.A,x36.Version.B,x36.Version.C,x39))) rfl
    ·refine zG 47 (fun h32=>?_) (fun h32=>?_)
     ·refine J_d 32618 [] [8,47] [(8,iv (x27.1.size:Int))] [] [] zB ?_
      exact zN (J_j (jv33 (x27.1.size:Int))) rfl
     ·exact zN (J_j (jv33 x30)) rfl
   ·exact zN (J_j (jv41 (x20.Low.A,x20.Low.B,x20.Low.C,x22))) rfl
def c55:Code:=cdB Tryz.f55
theorem zB3.ok (a1:(List Pack)) (a2:(List ByteArray)):Ok Tryz.prog 55 [sl 8 (Pack.enc false) a1,sl 1 eStr a2] [] ((zB3 a1 a2).map fun r=>(iv r,[])):=by
 refine zJ c55 Tryz.f55 0 23 (fun q=>?_)
 unfold zB3
 refine J_g 2 [] [(0,sl 8 (Pack.enc false) a1),(1,sl 1 eStr a2)] [] zB ?_
 refine J_d 12 [] [8] [(8,bv ((a2.length:Int) !=2))] [] [] zB ?_
 refine zG 8 (fun h3=>?_) (fun h3=>?_)
 ·refine J_g 52 [] [(4,iv (-1))] [] zB ?_
  exact yA rfl
 ·refine zA (fun x4 h5=>?_)
  refine zA (fun x6 h7=>?_)
  refine J_g 14 [(4,0)] [(0,sl 8 (Pack.enc false) a1),(1,sl 1 eStr a2),(5,pp 0)] [(0,.box (zQ.enc x6))] (zD 1 (wM (kk:=.i64) 69 9 1 eStr (.tmp 9) (.const (.int .i64 1)) h5) (zD 3 (yG [(.tmp 11)] [9] (wH.ok x4) h7) zB)) ?_
  refine J_d 60 [] [15] [(15,bv (x6.Code !=0))] [] [] zB ?_
  refine zG 15 (fun h8=>?_) (fun h8=>?_)
  ·refine J_g 244 [] [(4,iv (-1))] [] zB ?_
   exact yA rfl
  ·refine zA (fun x9 h10=>?_)
   refine zA (fun x11 h12=>?_)
   refine J_g 62 [] [(4,iv x11)] [] (zD 2 (wM (kk:=.i64) 69 9 1 eStr (.tmp 17) (.const (.int .i64 0)) h10) (zD 6 (yG [(.tmp 16),(.tmp 19),(.tmp 21)] [24,9,83] (zDE.ok a1 x9 x6.Version) h12) zB)) ?_
   exact yA rfl
def zTs:Code:=cdB Tryz.f121
theorem zBz.ok (a1:Term) (a2:Term):Ok Tryz.prog 121 [.ag (Term.enc a1),pp 0] [.box (Term.enc a2)] ((zBz a1 a2).map fun r=>(bv r,[.box (Term.enc a2)])):=by
 refine zJ zTs Tryz.f121 1 9 (fun q=>?_)
 unfold zBz
 refine J_g 2 [(0,1)] [(1,pp 0),(2,pp 1)] [(0,.box (Term.enc a2)),(1,.box (Term.enc a1))] zB ?_
 refine J_g 6 [] [(3,bv (seq a1.Name a2.Name))] [(0,.box (Term.enc a2))] zB ?_
 exact yA rfl
def c160:Code:=cdB Tryz.f160
theorem yK.ok (a1:(List Term)) (a2:Term) (q:Wd) (kn:Unit→Option (D×List Ent)) (hk:∀v:Unit,J (q.g Tryz.prog 160 1 19) c160 (atI c160 7) (St.mk' [] [(0,.box (Term.enc a2))]) (some v) kn):
  ∀s9:Int,J (q.g Tryz.prog 160 1 19) c160 (atI c160 52) (St.mk' [(0,sl 7 Term.enc a1),(1,.fn 121 [pp 0]),(7,iv (a1.length:Int)),(8,iv s9)] [(0,.box (Term.enc a2))]) (yK a1 a2 s9) (Fl.go (fun r:Int=>some (iv r,[.box (Term.enc a2)])) kn):=by
 refine uM (fun g ih s9=>?_)
 unfold yJ
 refine J_d 104 [] [9] [(9,bv (decide (s9< (a1.length:Int))))] [] [] zB ?_
 refine zG 9 (fun h10=>?_) (fun h10=>?_)
 ·refine J_d 1688 [] [5,9] [(5,iv s9)] [] [] zB ?_
  refine zA (fun x11 h12=>?_)
  refine zA (fun x13 h14=>?_)
  refine J_d 3378 [] [16] [(16,bv x13)] [] [] (zD 3 (wM (kk:=.i64) 25 85 7 Term.enc (.tmp 12) (.tmp 13) h12) (zD 5 (zH7 [(0,.box (Term.enc a2))] [] (zPB 11 [(.tmp 15)] [85] false [(0,.box (Term.enc a2))] [0] [.ag (Term.enc x11)] [pp 0] (.cons (.same rfl) (.cons (.pt rfl) (.nil))) (zBz.ok x11 a2) h14 (.same rfl rfl))) zB)) ?_
  refine zG 16 (fun h15=>?_) (fun h15=>?_)
  ·refine J_g 13516 [] [(4,iv s9)] [(0,.box (Term.enc a2))] zB ?_
   exact yA rfl
  ·refine J_d 423 [] [5,8,16] [(8,iv (w64 (s9+1)))] [] [] zB ?_
   exact J_q (J_b (ih (w64 (s9+1)))) rfl
 ·exact zN (hk ()) rfl
theorem yD.ok (a1:(List Term)) (a2:Term):Ok Tryz.prog 160 [sl 7 Term.enc a1,.fn 121 [pp 0]] [.box (Term.enc a2)] ((yD a1 a2).map fun r=>(iv r,[.box (Term.enc a2)])):=by
 refine zJ c160 Tryz.f160 1 19 (fun q=>?_)
 unfold yD
 refine J_g 2 [] [(0,sl 7 Term.enc a1),(1,.fn 121 [pp 0])] [(0,.box (Term.enc a2))] zB ?_
 refine J_d 12 [] [7,8] [(7,iv (a1.length:Int)),(8,iv 0)] [] [] zB ?_
 refine uL (K0:=(fun r:Int=>some (iv r,[.box (Term.enc a2)]))) (fun _=>rfl) (yK.ok a1 a2 q _ (fun v16=>J_j ?_) 0)
 refine J_d 14 [] [4] [(4,iv (-1))] [] [] zB ?_
 exact yA rfl
def zSX:Code:=cdB Tryz.f120
theorem zV.ok (a1:(List Term)) (a2:Term):Ok Tryz.prog 120 [sl 7 Term.enc a1,.fn 121 [pp 0]] [.box (Term.enc a2)] ((zV a1 a2).map fun r=>(bv r,[.box (Term.enc a2)])):=by
 refine zJ zSX Tryz.f120 1 9 (fun q=>?_)
 unfold zV
 refine J_d 2 [] [] [] [] [] zB ?_
 refine zA (fun x3 h4=>?_)
 refine J_g 6 [] [(4,bv (decide (x3≥0)))] [(0,.box (Term.enc a2))] (zD 2 (zH7 [(0,.box (Term.enc a2))] [] (xH («as»:=[sl 7 Term.enc a1,.fn 121 [pp 0]]) [(.tmp 5),(.tmp 6)] [25,161] false [(0,.box (Term.enc a2))] [0] (.cons (.same rfl) (.cons (.fn (.cons (.pt rfl) (.nil))) (.nil))) (yD.ok a1 a2) h4 (.same rfl rfl))) zB) ?_
 exact yA rfl
def c57:Code:=cdB Tryz.f57
theorem zBT.ok (a1:(List Term)) (q:Wd) (kn:Unit→Option (D×List Ent)) (hk:∀v:Unit,J (q.g Tryz.prog 57 0 18) c57 (atI c57 7) (St.mk' [] []) (some v) kn):
  ∀s10:Int,J (q.g Tryz.prog 57 0 18) c57 (atI c57 52) (St.mk' [(0,sl 7 Term.enc a1),(5,sl 7 Term.enc a1),(6,iv (a1.length:Int)),(7,iv s10)] []) (zBT a1 s10) (Fl.go (fun r:Bool=>some (bv r,[])) kn):=by
 refine uM (fun g ih s10=>?_)
 unfold kC
 refine J_d 104 [] [8] [(8,bv (decide (s10< (a1.length:Int))))] [] [] zB ?_
 refine zG 8 (fun h11=>?_) (fun h11=>?_)
 ·refine zA (fun x12 h13=>?_)
  refine J_d 1688 [(3,0)] [3,4,8] [(3,iv s10),(4,pp 0)] [0] [(0,.box (Term.enc x12))] (zD 1 (wM (kk:=.i64) 25 85 7 Term.enc (.tmp 5) (.tmp 7) h13) zB) ?_
  refine zA (fun x14 h15=>?_)
  refine zA (fun x16 h17=>?_)
  refine J_d 3378 [] [3,4,16] [(16,bv x16)] [0] [] (zD 2 (zQw 25 85 7 Term.enc (.tmp 12) none (some (.tmp 13)) h15) (zD 4 (zH7 [(0,.box (Term.enc x12))] [] (xH («as»:=[sl 7 Term.enc x14,.fn 121 [pp 0]]) [(.tmp 14),(.tmp 15)] [25,161] false [(0,.box (Term.enc x12))] [0] (.cons (.same rfl) (.cons (.fn (.cons (.pt rfl) (.nil))) (.nil))) (zV.ok x14 x12) h17 (.same rfl rfl))) zB)) ?_
  refine zG 16 (fun h18=>?_) (fun h18=>?_)
  ·refine J_g 13516 [] [(2,bv true)] [] zB ?_
   exact yA rfl
  ·refine J_d 423 [] [7,16] [(7,iv (w64 (s10+1)))] [] [] zB ?_
   exact J_q (J_b (ih (w64 (s10+1)))) rfl
 ·exact zN (hk ()) rfl
theorem zA0.ok (a1:(List Term)):Ok Tryz.prog 57 [sl 7 Term.enc a1] [] ((zA0 a1).map fun r=>(bv r,[])):=by
 refine zJ c57 Tryz.f57 0 18 (fun q=>?_)
 unfold zA0
 refine J_g 2 [] [(0,sl 7 Term.enc a1)] [] zB ?_
 refine J_g 12 [] [(0,sl 7 Term.enc a1),(5,sl 7 Term.enc a1),(6,iv (a1.length:Int)),(7,iv 0)] [] zB ?_
 refine uL (K0:=(fun r:Bool=>some (bv r,[]))) (fun _=>rfl) (zBT.ok a1 q _ (fun v19=>J_j ?_) 0)
 refine J_g 14 [] [(2,bv false)] [] zB ?_
 exact yA rfl
def c21:Code:=cdB Tryz.f21
theorem zCd.ok (a1:(List Pack)) (a2:ByteArray) (x3:(List ByteArray)) (q:Wd) (kn:((List Term)×(List (List Int)))→Option (D×List Ent)) (hk:∀v:((List Term)×(List (List Int))),J (q.g Tryz.prog 21 0 94) c21 (atI c21 15) (St.mk' [(0,sl 8 (Pack.enc false) a1),(1,sv a2),(7,rr 0 v.1),(8,rr 1 v.2)] [(0,rE 7 Term.enc v.1),(1,rE 1 (eSl true 1 zF) v.2)]) (some v) kn):
  ∀s55:((List Term)×(List (List Int))×Int),J (q.g Tryz.prog 21 0 94) c21 (atI c21 116) (St.mk' [(0,sl 8 (Pack.enc false) a1),(1,sv a2),(7,rr 0 s55.1),(8,rr 1 s55.2.1),(18,sl 1 eStr x3),(19,iv (x3.length:Int)),(20,iv s55.2.2)] [(0,rE 7 Term.enc s55.1),(1,rE 1 (eSl true 1 zF) s55.2.1)]) (zCd a1 a2 x3 s55) (Fl.go (fun r:((List Term)×(List (List Int))×Int)=>some (.tu [sl 7 Term.enc r.1,sl 1 (eSl false 1 zF) r.2.1,iv r.2.2],[])) kn):=by
 refine uM (fun g ih s55=>?_)
 unfold zBb
 refine J_d 232 [] [21] [(21,bv (decide (s55.2.2< (x3.length:Int))))] [] [] zB ?_
 refine zG 21 (fun h56=>?_) (fun h56=>?_)
 ·refine zA (fun x57 h58=>?_)
  refine J_d 3736 [] [10,21] [(10,sv x57)] [] [] (zD 0 (wM (kk:=.i64) 69 9 1 eStr (.tmp 18) (.tmp 20) h58) zB) ?_
  refine zA (fun x59 h60=>?_)
  refine J_g 14948 [] [(0,sl 8 (Pack.enc false) a1),(1,sv a2),(7,rr 0 s55.1),(8,rr 1 s55.2.1),(10,sv x57),(11,sv x59.1),(12,bv x59.2),(18,sl 1 eStr x3),(19,iv (x3.length:Int)),(20,iv s55.2.2)] [(0,rE 7 Term.enc s55.1),(1,rE 1 (eSl true 1 zF) s55.2.1)] (zD 1 (yG [(.tmp 25),(.const (.string (bs [114,111,111,116,32])))] [9,9] (strings_CutPrefix.ok x57 (bs [114,111,111,116,32])) h60) zB) ?_
  refine J_d 29898 [] [12,29] [(29,bv x59.2)] [] [] zB ?_
  refine zG 29 (fun h61=>?_) (fun h61=>?_)
  ·refine zA (fun x62 h63=>?_)
   refine J_g 119596 [(2,2)] [(0,sl 8 (Pack.enc false) a1),(1,sv a2),(7,rr 0 s55.1),(8,rr 1 s55.2.1),(13,pp 2),(18,sl 1 eStr x3),(19,iv (x3.length:Int)),(20,iv s55.2.2)] [(0,rE 7 Term.enc s55.1),(1,rE 1 (eSl true 1 zF) s55.2.1),(2,.box (xC.enc x62))] (zD 1 (yG [(.tmp 30)] [9] (zAP.ok x59.1) h63) zB) ?_
   refine J_d 478388 [] [34] [(34,bv (x62.Code !=0))] [] [] zB ?_
   refine zG 34 (fun h64=>?_) (fun h64=>?_)
   ·refine J_g 1913556 [] [(4,nv),(5,nv),(6,iv 5)] [] zB ?_
    exact zEO (ds:=[nv,nv,iv 5]) (ds':=[sl 7 Term.enc ([]:List Term),sl 1 (eSl false 1 zF) ([]:List (List Int)),iv 5]) (.cons (.cell (.nilsl false 7 (.nil))) (.cons (.cell (.nilsl false 1 (.nil))) (.cons (.cell (.keep rfl (.nil))) (.nil) (by decide)) (by decide)) (by decide)) rfl
   ·refine zA (fun x65 h66=>?_)
    refine J_g 478390 [] [(0,sl 8 (Pack.enc false) a1),(1,sv a2),(7,rr 4 x65),(8,rr 1 s55.2.1),(18,sl 1 eStr x3),(19,iv (x3.length:Int)),(20,iv s55.2.2)] [(1,rE 1 (eSl true 1 zF) s55.2.1),(4,rE 7 Term.enc x65)] (zD 3 (vM 25 85 7 3 Term.enc [x62.Term] [0] [(.tmp 37)] [.ag (Term.enc x62.Term)]) (zD 4 (zEQ 25 25 85 85 7 64 4 0 3 Term.enc (.tmp 35) (.tmp 38) h66) zB)) ?_
    refine J_d 935 [] [20] [(20,iv (w64 (s55.2.2+1)))] [] [] zB ?_
    refine xV 4 0 (qB rfl) (qB rfl) ?_
    exact J_q (J_b (ih (x65,s55.2.1,w64 (s55.2.2+1)))) rfl
  ·refine J_d 29900 [] [11,29,41] [(41,bv (seq x57 (bs [115,116,101,112])))] [] [] zB ?_
   refine zG 41 (fun h67=>?_) (fun h67=>?_)
   ·refine zA (fun x68 h69=>?_)
    refine J_g 119604 [] [(0,sl 8 (Pack.enc false) a1),(1,sv a2),(7,rr 0 s55.1),(8,rr 4 x68),(18,sl 1 eStr x3),(19,iv (x3.length:Int)),(20,iv s55.2.2)] [(0,rE 7 Term.enc s55.1),(4,rE 1 (eSl true 1 zF) x68)] (zD 1 (vM 34 2 1 2 zF ([]:List Int) [] [] []) (zD 2 (zPl (ds:=[rr 2 ([]:List Int)]) (ts:=[2]) 26 34 1 3 (eSl true 1 zF) [([]:List Int)] [0] [(.tmp 43)] [rr 2 ([]:List Int)] [(2,rE 1 zF ([]:List Int))] (.move (.head _) (qC _) (by decide) (.nil))) (zD 3 (zEQ 26 26 34 34 1 24 4 1 3 (eSl true 1 zF) (.tmp 42) (.tmp 44) h69) zB))) ?_
    refine J_d 935 [] [20] [(20,iv (w64 (s55.2.2+1)))] [] [] zB ?_
    refine xV 4 1 (qB rfl) (qB rfl) ?_
    exact J_q (J_b (ih (s55.1,x68,w64 (s55.2.2+1)))) rfl
   ·refine zA (fun x70 h71=>?_)
    refine zA (fun x72 h73=>?_)
    refine J_d 29902 [] [10,14,41] [(14,iv x72)] [] [] (zD 2 (xH («as»:=[sv x57,sv (bs [32])]) [(.tmp 47),(.const (.string (bs [32])))] [9,9] false [] [] (.cons (.same rfl) (.cons (.same rfl) (.nil))) (strings_Split.ok x57 (bs [32])) h71 (.own 2)) (zD 3 (xH («as»:=[sl 8 (Pack.enc false) a1,rr 2 x70]) [(.tmp 46),(.tmp 48)] [24,69] true [(2,rE 1 eStr x70)] [] (.cons (.same rfl) (.cons (zFJ (.head _) (fun _=>rfl) rfl) (.nil))) (zB3.ok a1 x70) h73 (.same rfl rfl) (hbor:=fun _=>⟨fhN,wV⟩)) zB)) ?_
    refine zU (atI c21 119613) (fun v75:Bool=>St.mk' [(0,sl 8 (Pack.enc false) a1),(1,sv a2),(7,rr 0 s55.1),(8,rr 1 s55.2.1),(14,iv x72),(18,sl 1 eStr x3),(19,iv (x3.length:Int)),(20,iv s55.2.2),(56,bv v75)] [(0,rE 7 Term.enc s55.1),(1,rE 1 (eSl true 1 zF) s55.2.1)]) (fun v75=>?_) (fun jv75=>?_)
    ·refine zG 56 (fun h76=>?_) (fun h76=>?_)
     ·refine J_g 478452 [] [(4,nv),(5,nv),(6,iv 5)] [] zB ?_
      exact zEO (ds:=[nv,nv,iv 5]) (ds':=[sl 7 Term.enc ([]:List Term),sl 1 (eSl false 1 zF) ([]:List (List Int)),iv 5]) (.cons (.cell (.nilsl false 7 (.nil))) (.cons (.cell (.nilsl false 1 (.nil))) (.cons (.cell (.keep rfl (.nil))) (.nil) (by decide)) (by decide)) (by decide)) rfl
     ·refine zA (fun x77 h78=>?_)
      refine zQG (ix:=(w64 ((s55.2.1.length:Int)-1))) (enc:=(eSl true 1 zF)) 1 0 2 h78 rfl rfl (by kernel_rfl) ?_
      refine vB [(0,sl 8 (Pack.enc false) a1),(1,sv a2),(7,rr 0 s55.1),(8,rr 1 s55.2.1),(14,iv x72),(18,sl 1 eStr x3),(19,iv (x3.length:Int)),(20,iv s55.2.2),(56,bv false)] [(0,rE 7 Term.enc s55.1),(1,.lent 1 (s55.2.1.map (eSl true 1 zF)) ((w64 ((s55.2.1.length:Int)-1)).toNat) 0 2 x77.length),(2,rE 1 zF x77)] (by kernel_rfl) ?_
      refine zA (fun x79 h80=>?_)
      refine zA (fun x81 h82=>?_)
      refine J_g 59807 [] [(0,sl 8 (Pack.enc false) a1),(1,sv a2),(7,rr 0 s55.1),(8,rr 1 s55.2.1),(18,sl 1 eStr x3),(19,iv (x3.length:Int)),(20,iv s55.2.2)] [(0,rE 7 Term.enc s55.1),(1,rE 1 (eSl true 1 zF) (s55.2.1.set ((w64 ((s55.2.1.length:Int)-1)).toNat) x79))] (zD 8 (zRZ (kk:=.i64) 26 34 1 1 (eSl true 1 zF) (.tmp 61) (.tmp 64) ((w64 ((s55.2.1.length:Int)-1)).toNat) 0 2 x77.length h78) (zD 9 (zSC 34 1 (.tmp 65) 1 (eSl true 1 zF) s55.2.1 ((w64 ((s55.2.1.length:Int)-1)).toNat) 0 2 x77.length) (zD 11 (vM 34 2 1 3 zF [x72] [0] [(.tmp 67)] [iv x72]) (zD 12 (zEQ 34 34 2 2 1 8 4 2 3 zF (.tmp 66) (.tmp 68) h80) (zD 13 (zRZ (kk:=.i64) 26 34 1 1 (eSl true 1 zF) (.tmp 57) (.tmp 60) ((w64 ((s55.2.1.length:Int)-1)).toNat) 0 2 x77.length h82) (zRG 14 (zSB (b:=x79) (zs:=x79) 34 1 1 0 2 x77.length 4 1 (eSl true 1 zF) zF (.tmp 70) (.tmp 69) h78 rfl) zB)))))) ?_
      refine zSo (σ':=St.mk' [(0,sl 8 (Pack.enc false) a1),(1,sv a2),(7,rr 0 s55.1),(8,rr 1 (s55.2.1.set ((w64 ((s55.2.1.length:Int)-1)).toNat) x79)),(18,sl 1 eStr x3),(19,iv (x3.length:Int)),(20,iv s55.2.2)] [(0,rE 7 Term.enc s55.1),(1,rE 1 (eSl true 1 zF) (s55.2.1.set ((w64 ((s55.2.1.length:Int)-1)).toNat) x79))]) (by simp only [rr,List.length_set]) ?_
      refine J_d 935 [] [20] [(20,iv (w64 (s55.2.2+1)))] [] [] zB ?_
      exact J_q (J_b (ih (s55.1,s55.2.1.set ((w64 ((s55.2.1.length:Int)-1)).toNat) x79,w64 (s55.2.2+1)))) rfl
    ·refine xB (fun h74=>?_) (fun h74=>?_)
     ·refine J_d 119612 [] [56] [(56,bv true)] [] [] (yO 2 [(51,bv (decide (x72<0)))] [] h74 zB) ?_
      exact zN (J_j (jv75 true)) rfl
     ·refine J_d 119612 [] [56] [(56,bv ((s55.2.1.length:Int)==0))] [] [] (yO 2 [(51,bv (decide (x72<0)))] [] h74 zB) ?_
      exact zN (J_j (jv75 ((s55.2.1.length:Int)==0))) rfl
 ·exact zN (hk (s55.1,s55.2.1)) rfl
theorem zB9.ok (a1:(List Pack)) (a2:ByteArray):Ok Tryz.prog 21 [sl 8 (Pack.enc false) a1,sv a2] [] ((zB9 a1 a2).map fun r=>(.tu [sl 7 Term.enc r.1,sl 1 (eSl false 1 zF) r.2.1,iv r.2.2],[])):=by
 refine zJ c21 Tryz.f21 0 94 (fun q=>?_)
 unfold zB9
 refine J_g 2 [] [(0,sl 8 (Pack.enc false) a1),(1,sv a2)] [] zB ?_
 refine J_d 6 [] [7,8] [(7,rr 0 ([]:List Term)),(8,rr 1 ([]:List (List Int)))] [0,1] [(0,rE 7 Term.enc ([]:List Term)),(1,rE 1 (eSl false 1 zF) ([]:List (List Int)))] (zD 0 (vM 25 85 7 0 Term.enc ([]:List Term) [] [] []) (zD 1 (vM 26 34 1 1 (eSl false 1 zF) ([]:List (List Int)) [] [] []) zB)) ?_
 refine zA (fun x3 h4=>?_)
 refine J_d 28 [] [18,19,20] [(18,sl 1 eStr x3),(19,iv (x3.length:Int)),(20,iv 0)] [] [] (zD 1 (yG [(.tmp 17)] [9] (zDl.ok a2) h4) zB) ?_
 refine vB [(0,sl 8 (Pack.enc false) a1),(1,sv a2),(7,rr 0 ([]:List Term)),(8,rr 1 ([]:List (List Int))),(18,sl 1 eStr x3),(19,iv (x3.length:Int)),(20,iv 0)] [(0,rE 7 Term.enc ([]:List Term)),(1,rE 1 (eSl true 1 zF) ([]:List (List Int)))] (by kernel_rfl) ?_
 refine uL (K0:=(fun r:((List Term)×(List (List Int))×Int)=>some (.tu [sl 7 Term.enc r.1,sl 1 (eSl false 1 zF) r.2.1,iv r.2.2],[]))) (fun _=>rfl) (zCd.ok a1 a2 x3 q _ (fun v83=>J_j ?_) (([]:List Term),([]:List (List Int)),0))
 refine zU (atI c21 61) (fun v91:Bool=>St.mk' [(7,rr 0 v83.1),(8,rr 1 v83.2),(91,bv v91)] [(0,rE 7 Term.enc v83.1),(1,rE 1 (eSl true 1 zF) v83.2)]) (fun v91=>?_) (fun jv91=>?_)
 ·refine zG 91 (fun h92=>?_) (fun h92=>?_)
  ·refine J_g 244 [] [(4,nv),(5,nv),(6,iv 5)] [] zB ?_
   exact zEO (ds:=[nv,nv,iv 5]) (ds':=[sl 7 Term.enc ([]:List Term),sl 1 (eSl false 1 zF) ([]:List (List Int)),iv 5]) (.cons (.cell (.nilsl false 7 (.nil))) (.cons (.cell (.nilsl false 1 (.nil))) (.cons (.cell (.keep rfl (.nil))) (.nil) (by decide)) (by decide)) (by decide)) rfl
  ·refine J_g 62 [] [(4,rr 0 v83.1),(5,rr 1 v83.2),(6,iv 0)] [(0,rE 7 Term.enc v83.1),(1,rE 1 (eSl true 1 zF) v83.2)] zB ?_
   refine vB [(4,rr 0 v83.1),(5,rr 1 v83.2),(6,iv 0)] [(0,rE 7 Term.enc v83.1),(1,rE 1 (eSl true 1 zF) v83.2)] (by kernel_rfl) ?_
   refine zEc 0 (z:=7) (xs:=v83.1.map Term.enc) (tm2:=[(4,sl 7 Term.enc v83.1),(5,rr 1 v83.2),(6,iv 0)]) (hp2:=[(1,rE 1 (eSl true 1 zF) v83.2)]) (.cons (.rf (by simp) (jG (enc:=Term.enc) (enc':=Term.enc) (fun _=>rfl) v83.1 rfl rfl)) (.cons (.keep rfl) (.cons (.keep rfl) (.nil)))) (.keep rfl (.nil)) rfl ?_
   refine vB [(4,sl 7 Term.enc v83.1),(5,rr 1 v83.2),(6,iv 0)] [(1,rE 1 (eSl true 1 zF) v83.2)] (by kernel_rfl) ?_
   refine zEc 1 (z:=1) (xs:=v83.2.map (eSl true 1 zF)) (tm2:=[(4,sl 7 Term.enc v83.1),(5,sl 1 (eSl false 1 zF) v83.2),(6,iv 0)]) (hp2:=[]) (.cons (.keep rfl) (.cons (.rf (by simp) (jG (enc:=(eSl true 1 zF)) (enc':=(eSl false 1 zF)) (zE7 (fun _=>rfl)) v83.2 rfl rfl)) (.cons (.keep rfl) (.nil)))) (.nil) rfl ?_
   exact zPj rfl
 ·refine xB (fun h84=>?_) (fun h84=>?_)
  ·refine J_d 60 [] [0,1,91] [(91,bv true)] [] [] (yO 3 [(74,bv ((v83.2.length:Int)==0))] [] h84 zB) ?_
   exact zN (J_j (jv91 true)) rfl
  ·refine xB (fun h85=>?_) (fun h85=>?_)
   ·refine J_d 60 [] [0,1,91] [(91,bv true)] [] [] (yO 3 [(74,bv ((v83.2.length:Int)==0))] [] h84 (yO 8 [(79,bv (decide ((v83.1.length:Int)>8)))] [] h85 zB)) ?_
    exact zN (J_j (jv91 true)) rfl
   ·refine zA (fun x86 h87=>?_)
    refine xB (fun h88=>?_) (fun h88=>?_)
    ·refine J_d 60 [] [0,1,91] [(91,bv true)] [] [] (yO 3 [(74,bv ((v83.2.length:Int)==0))] [] h84 (yO 8 [(79,bv (decide ((v83.1.length:Int)>8)))] [] h85 (uD 10 8 80 false (xH («as»:=[rr 0 v83.1]) [(.tmp 81)] [25] true [(0,rE 7 Term.enc v83.1)] [] (.cons (zFJ (.head _) (fun _=>rfl) rfl) (.nil)) (zA0.ok v83.1) h87 (.same rfl rfl) (hbor:=fun _=>⟨fhN,wV⟩)) (yO 12 [(83,bv x86)] [] h88 zB)))) ?_
     exact zN (J_j (jv91 true)) rfl
    ·refine zA (fun x89 h90=>?_)
     refine J_d 60 [] [0,1,91] [(91,bv (!(seq x89 a2)))] [] [] (yO 3 [(74,bv ((v83.2.length:Int)==0))] [] h84 (yO 8 [(79,bv (decide ((v83.1.length:Int)>8)))] [] h85 (uD 10 8 80 false (xH («as»:=[rr 0 v83.1]) [(.tmp 81)] [25] true [(0,rE 7 Term.enc v83.1)] [] (.cons (zFJ (.head _) (fun _=>rfl) rfl) (.nil)) (zA0.ok v83.1) h87 (.same rfl rfl) (hbor:=fun _=>⟨fhN,wV⟩)) (yO 12 [(83,bv x86)] [] h88 (uD 16 12 84 false (xH («as»:=[sl 8 (Pack.enc false) a1,rr 0 v83.1,rr 1 v83.2]) [(.tmp 85),(.tmp 86),(.tmp 87)] [24,25,26] true [(0,rE 7 Term.enc v83.1),(1,rE 1 (eSl true 1 zF) v83.2)] [] (.cons (.same rfl) (.cons (zFJ (.head _) (fun _=>rfl) rfl) (.cons (zFJ (.tail _ (.head _)) (zE7 (fun _=>rfl)) rfl) (.nil)))) (uH.ok a1 v83.1 v83.2) h90 (.same rfl rfl) (hbor:=fun _=>⟨fhN,wV⟩)) zB))))) ?_
     exact zN (J_j (jv91 (!(seq x89 a2)))) rfl
def c7:Code:=cdB Tryz.f7
theorem jS.ok (a1:(List Pack)) (a2:ByteArray):Ok Tryz.prog 7 [sl 8 (Pack.enc false) a1,sv a2] [] ((jS a1 a2).map fun r=>(.ag (xA.enc false r),[])):=by
 refine zJ c7 Tryz.f7 0 26 (fun q=>?_)
 unfold jS
 refine J_d 2 [(0,0)] [4] [(4,pp 0)] [0] [(0,.box [iv 0,nv,nv])] zB ?_
 refine zA (fun x3 h4=>?_)
 refine J_g 12 [] [(0,sl 8 (Pack.enc false) a1),(1,sv a2),(4,pp 0),(5,iv x3)] [(0,.box [iv 0,nv,nv])] (zD 1 (yG [(.tmp 9)] [24] (xL.ok a1) h4) zB) ?_
 refine J_d 26 [] [12] [(12,bv (x3 !=0))] [] [] zB ?_
 refine zG 12 (fun h5=>?_) (fun h5=>?_)
 ·refine J_g 108 [] [(4,pp 0)] [(0,.box [iv x3,nv,nv])] zB ?_
  exact zEO (ds:=[.ag [iv x3,nv,nv]]) (ds':=[.ag [iv x3,sl 7 Term.enc ([]:List Term),sl 1 (eSl false 1 zF) ([]:List (List Int))]]) (.cons (.ag (.keep rfl (.nilsl false 7 (.nilsl false 1 (.nil))))) (.nil) (by decide)) rfl
 ·refine zA (fun x6 h7=>?_)
  refine J_g 14 [] [(4,pp 0),(6,sl 7 Term.enc x6.1),(7,sl 1 (eSl false 1 zF) x6.2.1),(8,iv x6.2.2)] [(0,.box [iv 0,nv,nv])] (zD 2 (yG [(.tmp 16),(.tmp 17)] [24,9] (zB9.ok a1 a2) h7) zB) ?_
  refine J_g 30 [] [(4,pp 0)] [(0,.box [iv x6.2.2,sl 7 Term.enc x6.1,sl 1 (eSl false 1 zF) x6.2.1])] zB ?_
  exact yA rfl
def c25:Code:=cdB Tryz.f25
theorem zDH.ok (a1:(List Pack)) (a3:(List (List Int))) (q:Wd) (kn:ByteArray→Option (D×List Ent)) (hk:∀v:ByteArray,J (q.g Tryz.prog 25 0 41) c25 (atI c25 31) (St.mk' [(7,sv v)] []) (some v) kn):
  ∀s37:(ByteArray×Int),J (q.g Tryz.prog 25 0 41) c25 (atI c25 244) (St.mk' [(0,sl 8 (Pack.enc false) a1),(2,sl 1 (eSl false 1 zF) a3),(7,sv s37.1),(9,iv s37.2)] []) (zDH a1 a3 s37) kn:=by
 refine uM (fun g ih s37=>?_)
 unfold zCV
 refine J_d 976 [] [28] [(28,bv (decide (s37.2< (a3.length:Int))))] [] [] zB ?_
 refine zG 28 (fun h38=>?_) (fun h38=>?_)
 ·refine zA (fun x39 h40=>?_)
  refine zA (fun x41 h42=>?_)
  refine zA (fun x43 h44=>?_)
  refine zA (fun x45 h46=>?_)
  refine J_g 1956 [] [(0,sl 8 (Pack.enc false) a1),(2,sl 1 (eSl false 1 zF) a3),(7,sv x45),(9,iv s37.2)] [] (zD 1 (zAJ 9 9 (.tmp 31) (.const (.string (bs [115,116,101,112,10]))) h40) (zD 5 (wM (kk:=.i64) 26 34 1 (eSl false 1 zF) (.tmp 34) (.tmp 35) h42) (zD 7 (yG [(.tmp 33),(.tmp 37)] [24,34] (zBG.ok a1 x41) h44) (zD 8 (zAJ 9 9 (.tmp 32) (.tmp 38) h46) zB)))) ?_
  refine J_d 979 [] [9] [(9,iv (w64 (s37.2+1)))] [] [] zB ?_
  exact J_q (J_b (ih (x45,w64 (s37.2+1)))) rfl
 ·exact zN (hk s37.1) rfl
theorem zDJ.ok (a1:(List Pack)) (a2:(List Term)) (a3:(List (List Int))) (q:Wd) (kn:ByteArray→Option (D×List Ent)) (hk:∀v:ByteArray,J (q.g Tryz.prog 25 0 41) c25 (atI c25 15) (St.mk' [(0,sl 8 (Pack.enc false) a1),(2,sl 1 (eSl false 1 zF) a3),(7,sv v)] []) (some v) kn):
  ∀s15:(ByteArray×Int),J (q.g Tryz.prog 25 0 41) c25 (atI c25 116) (St.mk' [(0,sl 8 (Pack.enc false) a1),(1,sl 7 Term.enc a2),(2,sl 1 (eSl false 1 zF) a3),(7,sv s15.1),(8,iv s15.2)] []) (zDJ a1 a2 a3 s15) kn:=by
 refine uM (fun g ih s15=>?_)
 unfold zCG
 refine J_d 464 [] [13] [(13,bv (decide (s15.2< (a2.length:Int))))] [] [] zB ?_
 refine zG 13 (fun h16=>?_) (fun h16=>?_)
 ·refine zA (fun x17 h18=>?_)
  refine zA (fun x19 h20=>?_)
  refine zA (fun x21 h22=>?_)
  refine zA (fun x23 h24=>?_)
  refine zA (fun x25 h26=>?_)
  refine J_g 932 [] [(0,sl 8 (Pack.enc false) a1),(1,sl 7 Term.enc a2),(2,sl 1 (eSl false 1 zF) a3),(7,sv x25),(8,iv s15.2)] [] (zD 1 (zAJ 9 9 (.tmp 16) (.const (.string (bs [114,111,111,116,32]))) h18) (zD 4 (wM (kk:=.i64) 25 85 7 Term.enc (.tmp 18) (.tmp 19) h20) (zD 6 (yG [(.tmp 21)] [85] (vY.ok x19) h22) (zD 7 (zAJ 9 9 (.tmp 17) (.tmp 22) h24) (zD 8 (zAJ 9 9 (.tmp 23) (.const (.string (bs [10]))) h26) zB))))) ?_
  refine J_d 467 [] [8] [(8,iv (w64 (s15.2+1)))] [] [] zB ?_
  exact J_q (J_b (ih (x25,w64 (s15.2+1)))) rfl
 ·exact zN (hk s15.1) rfl
theorem zB8.ok (a1:(List Pack)) (a2:(List Term)) (a3:(List (List Int))):Ok Tryz.prog 25 [sl 8 (Pack.enc false) a1,sl 7 Term.enc a2,sl 1 (eSl false 1 zF) a3] [] ((zB8 a1 a2 a3).map fun r=>(sv r,[])):=by
 refine zJ c25 Tryz.f25 0 41 (fun q=>?_)
 unfold zB8
 refine J_g 2 [] [(0,sl 8 (Pack.enc false) a1),(1,sl 7 Term.enc a2),(2,sl 1 (eSl false 1 zF) a3)] [] zB ?_
 refine J_g 6 [] [(0,sl 8 (Pack.enc false) a1),(1,sl 7 Term.enc a2),(2,sl 1 (eSl false 1 zF) a3),(7,sv (bs []))] [] zB ?_
 refine J_d 28 [] [8] [(8,iv 0)] [] [] zB ?_
 refine zEx (zDJ.ok a1 a2 a3 q _ (fun v27=>J_j ?_) (bs [],0))
 refine J_d 60 [] [9] [(9,iv 0)] [] [] zB ?_
 refine zEx (zDH.ok a1 a3 q _ (fun v47=>J_j ?_) (v27,0))
 refine J_g 62 [] [(6,sv v47)] [] zB ?_
 exact yA rfl
def c8:Code:=cdB Tryz.f8
theorem zCg.ok (a1:(List Pack)) (a2:(List Term)) (a3:(List (List Int))) (q:Wd) (kn:Unit→Option (D×List Ent)) (hk:∀v:Unit,J (q.g Tryz.prog 8 0 33) c8 (atI c8 15) (St.mk' [(0,sl 8 (Pack.enc false) a1),(1,sl 7 Term.enc a2),(2,sl 1 (eSl false 1 zF) a3)] []) (some v) kn):
  ∀s17:Int,J (q.g Tryz.prog 8 0 33) c8 (atI c8 116) (St.mk' [(0,sl 8 (Pack.enc false) a1),(1,sl 7 Term.enc a2),(2,sl 1 (eSl false 1 zF) a3),(7,iv s17)] []) (zCg a1 a2 a3 s17) (Fl.go (fun r:ByteArray=>some (sv r,[])) kn):=by
 refine uM (fun g ih s17=>?_)
 unfold zBk
 refine J_d 464 [] [19] [(19,bv (decide (s17< (a3.length:Int))))] [] [] zB ?_
 refine zG 19 (fun h18=>?_) (fun h18=>?_)
 ·refine zA (fun x19 h20=>?_)
  refine zA (fun x21 h22=>?_)
  refine J_d 1864 [] [19,28] [(28,bv (!x21))] [] [] (zD 3 (wM (kk:=.i64) 26 34 1 (eSl false 1 zF) (.tmp 23) (.tmp 24) h20) (zD 5 (yG [(.tmp 22),(.tmp 26)] [24,34] (jD.ok a1 x19) h22) zB)) ?_
  refine zG 28 (fun h23=>?_) (fun h23=>?_)
  ·refine J_g 7460 [] [(6,sv (bs []))] [] zB ?_
   exact yA rfl
  ·refine J_d 467 [] [7,28] [(7,iv (w64 (s17+1)))] [] [] zB ?_
   exact J_q (J_b (ih (w64 (s17+1)))) rfl
 ·exact zN (hk ()) rfl
theorem zAA.ok (a1:(List Pack)) (a2:(List Term)) (a3:(List (List Int))):Ok Tryz.prog 8 [sl 8 (Pack.enc false) a1,sl 7 Term.enc a2,sl 1 (eSl false 1 zF) a3] [] ((zAA a1 a2 a3).map fun r=>(sv r,[])):=by
 refine zJ c8 Tryz.f8 0 33 (fun q=>?_)
 unfold zAA
 refine J_d 2 [] [] [] [] [] zB ?_
 refine zA (fun x4 h5=>?_)
 refine zU (atI c8 13) (fun v9:Bool=>St.mk' [(0,sl 8 (Pack.enc false) a1),(1,sl 7 Term.enc a2),(2,sl 1 (eSl false 1 zF) a3),(15,bv v9)] []) (fun v9=>?_) (fun jv9=>?_)
 ·refine zG 15 (fun h10=>?_) (fun h10=>?_)
  ·refine J_g 52 [] [(6,sv (bs []))] [] zB ?_
   exact yA rfl
  ·refine J_d 28 [] [7,15] [(7,iv 0)] [] [] zB ?_
   refine uL (K0:=(fun r:ByteArray=>some (sv r,[]))) (fun _=>rfl) (zCg.ok a1 a2 a3 q _ (fun v24=>J_j ?_) 0)
   refine zA (fun x25 h26=>?_)
   refine J_g 30 [] [(6,sv x25)] [] (zD 3 (yG [(.tmp 29),(.tmp 30),(.tmp 31)] [24,25,26] (zB8.ok a1 a2 a3) h26) zB) ?_
   exact yA rfl
 ·refine xB (fun h6=>?_) (fun h6=>?_)
  ·refine J_d 12 [] [15] [(15,bv true)] [] [] (zD 1 (yG [(.tmp 8)] [24] (zY.ok a1) h5) (yO 3 [(10,bv (x4 !=0))] [] h6 zB)) ?_
   exact zN (J_j (jv9 true)) rfl
  ·refine zA (fun x7 h8=>?_)
   refine J_d 12 [] [15] [(15,bv (x7 !=0))] [] [] (zD 1 (yG [(.tmp 8)] [24] (zY.ok a1) h5) (yO 3 [(10,bv (x4 !=0))] [] h6 (uD 5 3 11 false (yG [(.tmp 12)] [25] (uP.ok a2) h8) zB))) ?_
   exact zN (J_j (jv9 (x7 !=0))) rfl
def zNg:Code:=cdB Tryz.f128
theorem jY.ok (x20:Term) (x25:ByteArray) (q:Wd) (kn:Int→Option (D×List Ent)) (hk:∀v:Int,J (q.g Tryz.prog 128 0 97) zNg (atI zNg 1023) (St.mk' [(2,pp 0),(4,pp 1),(5,sv x25),(7,iv v)] [(0,.box [iv 0,sv ByteArray.empty,iv 0,iv 0,iv 0,iv 0,iv 0,iv 0]),(1,.box (Term.enc x20))]) (some v) kn):
  ∀s32:Int,J (q.g Tryz.prog 128 0 97) zNg (atI zNg 4088) (St.mk' [(2,pp 0),(4,pp 1),(5,sv x25),(7,iv s32)] [(0,.box [iv 0,sv ByteArray.empty,iv 0,iv 0,iv 0,iv 0,iv 0,iv 0]),(1,.box (Term.enc x20))]) (jY x20 x25 s32) kn:=by
 refine uM (fun g ih s32=>?_)
 unfold zCy
 refine zU (atI zNg 16353) (fun v36:Bool=>St.mk' [(2,pp 0),(4,pp 1),(5,sv x25),(7,iv s32),(45,bv v36)] [(0,.box [iv 0,sv ByteArray.empty,iv 0,iv 0,iv 0,iv 0,iv 0,iv 0]),(1,.box (Term.enc x20))]) (fun v36=>?_) (fun jv36=>?_)
 ·refine zG 45 (fun h37=>?_) (fun h37=>?_)
  ·refine J_d 16354 [] [7,45] [(7,iv (w64 (s32+1)))] [] [] zB ?_
   exact J_q (J_b (ih (w64 (s32+1)))) rfl
  ·exact zN (hk s32) rfl
 ·refine xB (fun h33=>?_) (fun h33=>?_)
  ·refine zA (fun x34 h35=>?_)
   refine J_d 16352 [] [45] [(45,bv (x34 !=60))] [] [] (yO 4 [(39,bv (decide (s32< (x25.size:Int))))] [] h33 (uD 7 4 40 true (zKZ (kk:=.i64) 9 (.tmp 41) (.tmp 42) h35) zB)) ?_
   exact zN (J_j (jv36 (x34 !=60))) rfl
  ·refine J_d 16352 [] [45] [(45,bv false)] [] [] (yO 4 [(39,bv (decide (s32< (x25.size:Int))))] [] h33 zB) ?_
   exact zN (J_j (jv36 false)) rfl
theorem kJ.ok (a1:ByteArray) (q:Wd) (kn:Int→Option (D×List Ent)) (hk:∀v:Int,J (q.g Tryz.prog 128 0 97) zNg (atI zNg 15) (St.mk' [(0,sv a1),(2,pp 0),(3,iv v)] [(0,.box [iv 0,sv ByteArray.empty,iv 0,iv 0,iv 0,iv 0,iv 0,iv 0])]) (some v) kn):
  ∀s9:Int,J (q.g Tryz.prog 128 0 97) zNg (atI zNg 56) (St.mk' [(0,sv a1),(2,pp 0),(3,iv s9)] [(0,.box [iv 0,sv ByteArray.empty,iv 0,iv 0,iv 0,iv 0,iv 0,iv 0])]) (kJ a1 s9) kn:=by
 refine uM (fun g ih s9=>?_)
 unfold zCz
 refine zU (atI zNg 225) (fun v15:Bool=>St.mk' [(0,sv a1),(2,pp 0),(3,iv s9),(21,bv v15)] [(0,.box [iv 0,sv ByteArray.empty,iv 0,iv 0,iv 0,iv 0,iv 0,iv 0])]) (fun v15=>?_) (fun jv15=>?_)
 ·refine zG 21 (fun h16=>?_) (fun h16=>?_)
  ·refine J_d 226 [] [3,21] [(3,iv (w64 (s9+1)))] [] [] zB ?_
   exact J_q (J_b (ih (w64 (s9+1)))) rfl
  ·exact zN (hk s9) rfl
 ·refine xB (fun h10=>?_) (fun h10=>?_)
  ·refine zA (fun x11 h12=>?_)
   refine zA (fun x13 h14=>?_)
   refine J_d 224 [] [21] [(21,bv x13)] [] [] (yO 4 [(15,bv (decide (s9< (a1.size:Int))))] [] h10 (uD 7 4 16 true (zKZ (kk:=.i64) 9 (.tmp 17) (.tmp 18) h12) (uD 8 4 16 true (yG [(.tmp 19)] [5] (vE.ok x11) h14) zB))) ?_
   exact zN (J_j (jv15 x13)) rfl
  ·refine J_d 224 [] [21] [(21,bv false)] [] [] (yO 4 [(15,bv (decide (s9< (a1.size:Int))))] [] h10 zB) ?_
   exact zN (J_j (jv15 false)) rfl
theorem zAF.ok (a1:ByteArray):Ok Tryz.prog 128 [sv a1] [] ((zAF a1).map fun r=>(.ag (xC.enc r),[])):=by
 refine zJ zNg Tryz.f128 0 97 (fun q=>?_)
 unfold zAF
 refine J_g 2 [(0,0)] [(0,sv a1),(2,pp 0)] [(0,.box [iv 0,sv ByteArray.empty,iv 0,iv 0,iv 0,iv 0,iv 0,iv 0])] zB ?_
 refine J_d 6 [] [3] [(3,iv 0)] [] [] zB ?_
 refine zEx (kJ.ok a1 q _ (fun v17=>J_j ?_) 0)
 refine zA (fun x18 h19=>?_)
 refine zA (fun x20 h21=>?_)
 refine J_d 30 [(4,1)] [4] [(4,pp 1)] [1] [(1,.box (Term.enc x20))] (zD 2 (zKY 9 (.tmp 24) none (some (.tmp 25)) h19) (zD 3 (yG [(.tmp 26)] [9] (wT.ok x18) h21) zB)) ?_
 refine zA (fun x22 h23=>?_)
 refine J_d 124 [] [31] [(31,bv (x22 !=0))] [] [] (zD 2 (yG [(.tmp 29)] [9] (wS.ok x20.Name) h23) zB) ?_
 refine zG 31 (fun h24=>?_) (fun h24=>?_)
 ·refine J_g 500 [] [(2,pp 0)] [(0,.box [iv 5,sv ByteArray.empty,iv 0,iv 0,iv 0,iv 0,iv 0,iv 0])] zB ?_
  exact yA rfl
 ·refine zA (fun x25 h26=>?_)
  refine J_g 126 [] [(2,pp 0),(4,pp 1),(5,sv x25)] [(0,.box [iv 0,sv ByteArray.empty,iv 0,iv 0,iv 0,iv 0,iv 0,iv 0]),(1,.box (Term.enc x20))] (zD 2 (zKY 9 (.tmp 33) (some (.tmp 34)) none h26) zB) ?_
  refine J_g 254 [] [(2,pp 0),(4,pp 1),(5,sv x25)] [(0,.box [iv 0,sv ByteArray.empty,iv 0,iv 0,iv 0,iv 0,iv 0,iv 0]),(1,.box (Term.enc x20))] zB ?_
  refine J_d 510 [] [7] [(7,iv 0)] [] [] zB ?_
  refine zEx (jY.ok x20 x25 q _ (fun v38=>J_j ?_) 0)
  refine J_d 4092 [] [51] [(51,bv (decide (v38< (x25.size:Int))))] [] [] zB ?_
  refine zK3 (atI zNg 2047) (fun v45:(Int×Int×Int)=>St.mk' [(2,pp 0),(4,pp 1),(5,sv x25),(7,iv v38)] [(0,.box [iv 0,sv ByteArray.empty,iv 0,iv 0,iv 0,iv 0,iv 0,iv 0]),(1,.box [sv x20.Name,iv x20.Low.A,iv x20.Low.B,iv x20.Low.C,iv v45.1,iv v45.2.1,iv v45.2.2])]) (fun v45=>?_) (fun jv45=>?_)
  ·refine zA (fun x46 h47=>?_)
   refine J_g 4094 [] [(2,pp 0),(4,pp 1),(9,sv x46)] [(0,.box [iv 0,sv ByteArray.empty,iv 0,iv 0,iv 0,iv 0,iv 0,iv 0]),(1,.box [sv x20.Name,iv x20.Low.A,iv x20.Low.B,iv x20.Low.C,iv v45.1,iv v45.2.1,iv v45.2.2])] (zD 2 (zKY 9 (.tmp 65) none (some (.tmp 66)) h47) zB) ?_
   refine J_d 16380 [] [69] [(69,bv (!(seq x46 (bs []))))] [] [] zB ?_
   refine zK3 (atI zNg 8191) (fun v59:(Int×Int×Int)=>St.mk' [(2,pp 0),(4,pp 1)] [(0,.box [iv 0,sv ByteArray.empty,iv 0,iv 0,iv 0,iv 0,iv 0,iv 0]),(1,.box [sv x20.Name,iv v59.1,iv v59.2.1,iv v59.2.2,iv v45.1,iv v45.2.1,iv v45.2.2])]) (fun v59=>?_) (fun jv59=>?_)
   ·refine zA (fun x60 h61=>?_)
    refine J_g 32764 [] [(2,pp 0),(4,pp 1),(11,iv x60)] [(0,.box [iv 0,sv ByteArray.empty,iv 0,iv 0,iv 0,iv 0,iv 0,iv 0]),(1,.box [sv x20.Name,iv v59.1,iv v59.2.1,iv v59.2.2,iv v45.1,iv v45.2.1,iv v45.2.2])] (zD 1 (yG [(.tmp 89)] [85] (vG.ok ({Name:=x20.Name,Low:=({A:=v59.1,B:=v59.2.1,C:=v59.2.2}:Version),High:=({A:=v45.1,B:=v45.2.1,C:=v45.2.2}:Version)}:Term)) h61) zB) ?_
    refine J_d 65530 [] [92] [(92,bv (x60 !=0))] [] [] zB ?_
    refine zG 92 (fun h62=>?_) (fun h62=>?_)
    ·refine J_g 262124 [] [(2,pp 0)] [(0,.box [iv x60,sv ByteArray.empty,iv 0,iv 0,iv 0,iv 0,iv 0,iv 0])] zB ?_
     exact yA rfl
    ·refine J_g 32766 [] [(2,pp 0)] [(0,.box [iv 0,sv x20.Name,iv v59.1,iv v59.2.1,iv v59.2.2,iv v45.1,iv v45.2.1,iv v45.2.2])] zB ?_
     exact yA rfl
   ·refine zG 69 (fun h48=>?_) (fun h48=>?_)
    ·refine zU (atI zNg 131049) (fun v52:Bool=>St.mk' [(2,pp 0),(4,pp 1),(9,sv x46),(77,bv v52)] [(0,.box [iv 0,sv ByteArray.empty,iv 0,iv 0,iv 0,iv 0,iv 0,iv 0]),(1,.box [sv x20.Name,iv x20.Low.A,iv x20.Low.B,iv x20.Low.C,iv v45.1,iv v45.2.1,iv v45.2.2])]) (fun v52=>?_) (fun jv52=>?_)
     ·refine zG 77 (fun h53=>?_) (fun h53=>?_)
      ·refine J_g 524196 [] [(2,pp 0)] [(0,.box [iv 5,sv ByteArray.empty,iv 0,iv 0,iv 0,iv 0,iv 0,iv 0])] zB ?_
       exact yA rfl
      ·refine zA (fun x54 h55=>?_)
       refine zA (fun x56 h57=>?_)
       refine J_g 131050 [(3,2)] [(2,pp 0),(4,pp 1),(10,pp 2)] [(0,.box [iv 0,sv ByteArray.empty,iv 0,iv 0,iv 0,iv 0,iv 0,iv 0]),(1,.box [sv x20.Name,iv x20.Low.A,iv x20.Low.B,iv x20.Low.C,iv v45.1,iv v45.2.1,iv v45.2.2]),(2,.box (zQ.enc x56))] (zD 1 (zKY 9 (.tmp 79) (some (.const (.int .i64 2))) none h55) (zD 2 (yG [(.tmp 80)] [9] (xD.ok x54) h57) zB)) ?_
       refine J_d 524204 [] [84] [(84,bv (x56.Code !=0))] [] [] zB ?_
       refine zG 84 (fun h58=>?_) (fun h58=>?_)
       ·refine J_g 2096820 [] [(2,pp 0)] [(0,.box [iv 5,sv ByteArray.empty,iv 0,iv 0,iv 0,iv 0,iv 0,iv 0])] zB ?_
        exact yA rfl
       ·refine J_d 262103 [] [10,84] [] [1,2] [(1,.box [sv x20.Name,iv x56.Version.A,iv x56.Version.B,iv x56.Version.C,iv v45.1,iv v45.2.1,iv v45.2.2])] zB ?_
        exact zN (J_j (jv59 (x56.Version.A,x56.Version.B,x56.Version.C))) rfl
     ·refine xB (fun h49=>?_) (fun h49=>?_)
      ·refine J_d 131048 [] [69,77] [(77,bv true)] [] [] (yO 3 [(72,bv (decide ((x46.size:Int)<2)))] [] h49 zB) ?_
       exact zN (J_j (jv52 true)) rfl
      ·refine zA (fun x50 h51=>?_)
       refine J_d 131048 [] [69,77] [(77,bv (!(seq x50 (bs [62,61]))))] [] [] (yO 3 [(72,bv (decide ((x46.size:Int)<2)))] [] h49 (uD 5 3 73 false (zKY 9 (.tmp 74) none (some (.const (.int .i64 2))) h51) zB)) ?_
       exact zN (J_j (jv52 (!(seq x50 (bs [62,61]))))) rfl
    ·exact zN (J_j (jv59 (x20.Low.A,x20.Low.B,x20.Low.C))) rfl
  ·refine zG 51 (fun h39=>?_) (fun h39=>?_)
   ·refine zA (fun x40 h41=>?_)
    refine J_d 16372 [] [6,51] [(6,sv x40)] [] [] (zD 3 (zKY 9 (.tmp 52) (some (.tmp 54)) none h41) zB) ?_
    refine zA (fun x42 h43=>?_)
    refine J_g 32746 [(2,2)] [(2,pp 0),(4,pp 1),(5,sv x25),(7,iv v38),(8,pp 2)] [(0,.box [iv 0,sv ByteArray.empty,iv 0,iv 0,iv 0,iv 0,iv 0,iv 0]),(1,.box (Term.enc x20)),(2,.box (zQ.enc x42))] (zD 1 (yG [(.tmp 56)] [9] (xD.ok x40) h43) zB) ?_
    refine J_d 130988 [] [60] [(60,bv (x42.Code !=0))] [] [] zB ?_
    refine zG 60 (fun h44=>?_) (fun h44=>?_)
    ·refine J_g 523956 [] [(2,pp 0)] [(0,.box [iv 5,sv ByteArray.empty,iv 0,iv 0,iv 0,iv 0,iv 0,iv 0])] zB ?_
     exact yA rfl
    ·refine J_d 65495 [] [8,60] [] [1,2] [(1,.box [sv x20.Name,iv x20.Low.A,iv x20.Low.B,iv x20.Low.C,iv x42.Version.A,iv x42.Version.B,iv x42.Version.C])] zB ?_
     exact zN (J_j (jv45 (x42.Version.A,x42.Version.B,x42.Version.C))) rfl
   ·exact zN (J_j (jv45 (x20.High.A,x20.High.B,x20.High.C))) rfl
def c66:Code:=cdB Tryz.f66
theorem zC5.ok (a1:ByteArray) (x2:(List ByteArray)) (s22:((List Term)×Int)) (x26:xC) (q:Wd) (kn:Unit→Option (D×List Ent)) (hk:∀v:Unit,J (q.g Tryz.prog 66 0 58) c66 (atI c66 15655) (St.mk' [(0,sv a1),(4,sl 1 eStr x2),(5,rr 0 s22.1),(6,iv s22.2),(7,pp 1)] [(0,rE 7 Term.enc s22.1),(1,.box (xC.enc x26))]) (some v) kn):
  ∀s33:Int,J (q.g Tryz.prog 66 0 58) c66 (atI c66 125236) (St.mk' [(0,sv a1),(4,sl 1 eStr x2),(5,rr 0 s22.1),(6,iv s22.2),(7,pp 1),(8,iv s33)] [(0,rE 7 Term.enc s22.1),(1,.box (xC.enc x26))]) (zC5 a1 x2 s22 x26 s33) (Fl.go (fun r:((List Term)×Bool)=>some (.tu [so 7 Term.enc r.1,bv r.2],[])) kn):=by
 refine uM (fun g ih s33=>?_)
 unfold zBN
 refine J_d 500944 [] [30] [(30,bv (decide (s33< (s22.1.length:Int))))] [] [] zB ?_
 refine zG 30 (fun h34=>?_) (fun h34=>?_)
 ·refine zA (fun x35 h36=>?_)
  refine J_d 2003784 [] [30,41] [(41,bv (seq x35.Name x26.Term.Name))] [] [] (zD 2 (zAb (kk:=.i64) 25 85 7 0 Term.enc (.tmp 33) (.tmp 34) h36) (zD 4 (zAa (d:=sv x35.Name) 9 7 0 0 Term.enc (.tmp 36) h36 (by kernel_rfl)) zB)) ?_
  refine zG 41 (fun h37=>?_) (fun h37=>?_)
  ·refine J_g 8015140 [] [(2,rr 0 s22.1),(3,bv false)] [(0,rE 7 Term.enc s22.1)] zB ?_
   exact zEO (ds:=[rr 0 s22.1,bv false]) (ds':=[so 7 Term.enc s22.1,bv false]) (.cons (.cell (.move (.head _) (qC _) (by decide) (.nil))) (.cons (.cell (.keep rfl (.nil))) (.nil) (by decide)) (by decide)) rfl
  ·refine J_d 500947 [] [8,41] [(8,iv (w64 (s33+1)))] [] [] zB ?_
   exact J_q (J_b (ih (w64 (s33+1)))) rfl
 ·exact zN (hk ()) rfl
theorem zC6.ok (a1:ByteArray) (x2:(List ByteArray)) (q:Wd) (kn:(List Term)→Option (D×List Ent)) (hk:∀v:(List Term),J (q.g Tryz.prog 66 0 58) c66 (atI c66 31) (St.mk' [(0,sv a1),(5,rr 0 v)] [(0,rE 7 Term.enc v)]) (some v) kn):
  ∀s22:((List Term)×Int),J (q.g Tryz.prog 66 0 58) c66 (atI c66 244) (St.mk' [(0,sv a1),(4,sl 1 eStr x2),(5,rr 0 s22.1),(6,iv s22.2)] [(0,rE 7 Term.enc s22.1)]) (zC6 a1 x2 s22) (Fl.go (fun r:((List Term)×Bool)=>some (.tu [so 7 Term.enc r.1,bv r.2],[])) kn):=by
 refine uM (fun g ih s22=>?_)
 unfold zBL
 refine J_d 976 [] [15] [(15,bv (decide (s22.2< (x2.length:Int))))] [] [] zB ?_
 refine zG 15 (fun h23=>?_) (fun h23=>?_)
 ·refine zA (fun x24 h25=>?_)
  refine zA (fun x26 h27=>?_)
  refine J_g 3912 [(5,1)] [(0,sv a1),(4,sl 1 eStr x2),(5,rr 0 s22.1),(6,iv s22.2),(7,pp 1)] [(0,rE 7 Term.enc s22.1),(1,.box (xC.enc x26))] (zD 2 (wM (kk:=.i64) 69 9 1 eStr (.tmp 18) (.tmp 19) h25) (zD 4 (yG [(.tmp 21)] [9] (zAF.ok x24) h27) zB)) ?_
  refine J_d 15652 [] [25] [(25,bv (x26.Code !=0))] [] [] zB ?_
  refine zG 25 (fun h28=>?_) (fun h28=>?_)
  ·refine J_g 62612 [] [(2,rr 0 s22.1),(3,bv false)] [(0,rE 7 Term.enc s22.1)] zB ?_
   exact zEO (ds:=[rr 0 s22.1,bv false]) (ds':=[so 7 Term.enc s22.1,bv false]) (.cons (.cell (.move (.head _) (qC _) (by decide) (.nil))) (.cons (.cell (.keep rfl (.nil))) (.nil) (by decide)) (by decide)) rfl
  ·refine J_d 31308 [] [8,25] [(8,iv 0)] [] [] zB ?_
   refine uL (K0:=(fun r:((List Term)×Bool)=>some (.tu [so 7 Term.enc r.1,bv r.2],[]))) (fun _=>rfl) (zC5.ok a1 x2 s22 x26 q _ (fun v38=>J_j ?_) 0)
   refine zA (fun x39 h40=>?_)
   refine J_g 15655 [] [(0,sv a1),(4,sl 1 eStr x2),(5,rr 3 x39),(6,iv s22.2)] [(3,rE 7 Term.enc x39)] (zD 3 (vM 25 85 7 2 Term.enc [x26.Term] [0] [(.tmp 45)] [.ag (Term.enc x26.Term)]) (zD 4 (zEQ 25 25 85 85 7 64 3 0 2 Term.enc (.tmp 43) (.tmp 46) h40) zB)) ?_
   refine J_d 979 [] [6] [(6,iv (w64 (s22.2+1)))] [] [] zB ?_
   refine xV 3 0 (qB rfl) (qB rfl) ?_
   exact J_q (J_b (ih (x39,w64 (s22.2+1)))) rfl
 ·exact zN (hk s22.1) rfl
theorem zDe.ok (a1:ByteArray):Ok Tryz.prog 66 [sv a1] [] ((zDe a1).map fun r=>(.tu [so 7 Term.enc r.1,bv r.2],[])):=by
 refine zJ c66 Tryz.f66 0 58 (fun q=>?_)
 unfold zDe
 refine J_g 2 [] [(0,sv a1)] [] zB ?_
 refine zA (fun x2 h3=>?_)
 refine J_g 6 [] [(0,sv a1),(4,sl 1 eStr x2)] [] (zD 1 (yG [(.tmp 9)] [9] (tO.ok a1) h3) zB) ?_
 refine J_g 14 [] [(0,sv a1),(4,sl 1 eStr x2),(5,rr 0 ([]:List Term))] [(0,rE 7 Term.enc ([]:List Term))] (zD 0 (vM 25 85 7 0 Term.enc ([]:List Term) [] [] []) zB) ?_
 refine J_d 60 [] [6] [(6,iv 0)] [] [] zB ?_
 refine uL (K0:=(fun r:((List Term)×Bool)=>some (.tu [so 7 Term.enc r.1,bv r.2],[]))) (fun _=>rfl) (zC6.ok a1 x2 q _ (fun v41=>J_j ?_) (([]:List Term),0))
 refine xB (fun h42=>?_) (fun h42=>?_)
 ·refine zA (fun x43 h44=>?_)
  refine J_g 62 [] [(2,rr 0 v41),(3,bv (seq x43 a1))] [(0,rE 7 Term.enc v41)] (yO 4 [(51,bv (decide ((v41.length:Int)≤8)))] [] h42 (uD 6 4 52 true (xH («as»:=[rr 0 v41]) [(.tmp 53)] [25] true [(0,rE 7 Term.enc v41)] [] (.cons (zFJ (.head _) (fun _=>rfl) rfl) (.nil)) (zAH.ok v41) h44 (.same rfl rfl) (hbor:=fun _=>⟨fhN,wV⟩)) zB)) ?_
  exact zEO (ds:=[rr 0 v41,bv (seq x43 a1)]) (ds':=[so 7 Term.enc v41,bv (seq x43 a1)]) (.cons (.cell (.move (.head _) (qC _) (by decide) (.nil))) (.cons (.cell (.keep rfl (.nil))) (.nil) (by decide)) (by decide)) rfl
 ·refine J_g 62 [] [(2,rr 0 v41),(3,bv false)] [(0,rE 7 Term.enc v41)] (yO 4 [(51,bv (decide ((v41.length:Int)≤8)))] [] h42 zB) ?_
  exact zEO (ds:=[rr 0 v41,bv false]) (ds':=[so 7 Term.enc v41,bv false]) (.cons (.cell (.move (.head _) (qC _) (by decide) (.nil))) (.cons (.cell (.keep rfl (.nil))) (.nil) (by decide)) (by decide)) rfl
def c26:Code:=cdB Tryz.f26
theorem zEN.ok (a1:(List Pack)) (a2:ByteArray) (x3:(List ByteArray)) (x37:((List Term)×Bool)) (q:Wd) (kn:(Int×ByteArray)→Option (D×List Ent)) (hk:∀v:(Int×ByteArray),J (q.g Tryz.prog 26 0 109) c26 (atI c26 523823) (St.mk' [(0,sl 8 (Pack.enc false) a1),(1,sv a2),(4,pp 0),(6,pp 1),(7,sl 1 eStr x3),(9,iv v.1),(12,sv v.2)] [(0,.box [iv 0,nv,nv]),(1,.box [iv 0,rr 2 x37.1,nv]),(2,rE 7 Term.enc x37.1)]) (some v) kn):
  ∀s84:(Int×ByteArray),J (q.g Tryz.prog 26 0 109) c26 (atI c26 2095288) (St.mk' [(0,sl 8 (Pack.enc false) a1),(1,sv a2),(4,pp 0),(6,pp 1),(7,sl 1 eStr x3),(9,iv s84.1),(12,sv s84.2)] [(0,.box [iv 0,nv,nv]),(1,.box [iv 0,rr 2 x37.1,nv]),(2,rE 7 Term.enc x37.1)]) (zEN a1 a2 x3 x37 s84) kn:=by
 refine uM (fun g ih s84=>?_)
 unfold zGl
 refine zU (atI c26 8381153) (fun v88:Bool=>St.mk' [(0,sl 8 (Pack.enc false) a1),(1,sv a2),(4,pp 0),(6,pp 1),(7,sl 1 eStr x3),(9,iv s84.1),(12,sv s84.2),(70,bv v88)] [(0,.box [iv 0,nv,nv]),(1,.box [iv 0,rr 2 x37.1,nv]),(2,rE 7 Term.enc x37.1)]) (fun v88=>?_) (fun jv88=>?_)
 ·refine zG 70 (fun h89=>?_) (fun h89=>?_)
  ·refine zA (fun x90 h91=>?_)
   refine zA (fun x92 h93=>?_)
   refine zA (fun x94 h95=>?_)
   refine J_g 16762308 [] [(0,sl 8 (Pack.enc false) a1),(1,sv a2),(4,pp 0),(6,pp 1),(7,sl 1 eStr x3),(9,iv s84.1),(12,sv x94)] [(0,.box [iv 0,nv,nv]),(1,.box [iv 0,rr 2 x37.1,nv]),(2,rE 7 Term.enc x37.1)] (zD 3 (wM (kk:=.i64) 69 9 1 eStr (.tmp 72) (.tmp 73) h91) (zD 5 (zAJ 9 9 (.tmp 71) (.tmp 75) h93) (zD 6 (zAJ 9 9 (.tmp 76) (.const (.string (bs [10]))) h95) zB))) ?_
   refine J_d 16762309 [] [9] [(9,iv (w64 (s84.1+1)))] [] [] zB ?_
   exact J_q (J_b (ih (w64 (s84.1+1),x94))) rfl
  ·exact zN (hk (s84.1,s84.2)) rfl
 ·refine xB (fun h85=>?_) (fun h85=>?_)
  ·refine zA (fun x86 h87=>?_)
   refine J_d 8381152 [] [70] [(70,bv (!(seq x86 (bs [115,116,101,112]))))] [] [] (yO 4 [(63,bv (decide (s84.1< (x3.length:Int))))] [] h85 (uD 7 4 64 true (wM (kk:=.i64) 69 9 1 eStr (.tmp 65) (.tmp 66) h87) zB)) ?_
   exact zN (J_j (jv88 (!(seq x86 (bs [115,116,101,112]))))) rfl
  ·refine J_d 8381152 [] [70] [(70,bv false)] [] [] (yO 4 [(63,bv (decide (s84.1< (x3.length:Int))))] [] h85 zB) ?_
   exact zN (J_j (jv88 false)) rfl
theorem jX.ok (a1:(List Pack)) (a2:ByteArray) (x3:(List ByteArray)) (v36:(ByteArray×Int)) (x37:((List Term)×Bool)) (q:Wd) (kn:Unit→Option (D×List Ent)) (hk:∀v:Unit,J (q.g Tryz.prog 26 0 109) c26 (atI c26 2047) (St.mk' [(0,sl 8 (Pack.enc false) a1),(1,sv a2),(4,pp 0),(6,pp 1)] [(0,.box [iv 0,nv,nv]),(1,.box [iv 0,rr 2 x37.1,nv]),(2,rE 7 Term.enc x37.1)]) (some v) kn):
  ∀s68:Unit,J (q.g Tryz.prog 26 0 109) c26 (atI c26 8184) (St.mk' [(0,sl 8 (Pack.enc false) a1),(1,sv a2),(4,pp 0),(6,pp 1),(7,sl 1 eStr x3),(9,iv v36.2)] [(0,.box [iv 0,nv,nv]),(1,.box [iv 0,rr 2 x37.1,nv]),(2,rE 7 Term.enc x37.1)]) (jX a1 a2 x3 v36 x37 s68) (Fl.go (fun r:(xA×Bool)=>some (.tu [.ag [iv r.1.Code,so 7 Term.enc r.1.Asks,so 1 (eSl true 1 zF) r.1.Sets],bv r.2],[])) kn):=by
 refine uM (fun g ih s68=>?_)
 unfold zFn
 refine J_d 32736 [] [51] [(51,bv (decide (v36.2< (x3.length:Int))))] [] [] zB ?_
 refine zG 51 (fun h69=>?_) (fun h69=>?_)
 ·refine zA (fun x70 h71=>?_)
  refine J_d 130952 [] [51,56] [(56,bv (!(seq x70 (bs [115,116,101,112]))))] [] [] (zD 2 (wM (kk:=.i64) 69 9 1 eStr (.tmp 52) (.tmp 53) h71) zB) ?_
  refine zG 56 (fun h72=>?_) (fun h72=>?_)
  ·refine J_g 523812 [] [(4,pp 0),(5,bv false)] [(0,.box [iv 0,rr 2 x37.1,nv]),(2,rE 7 Term.enc x37.1)] zB ?_
   exact zEO (ds:=[.ag [iv 0,rr 2 x37.1,nv],bv false]) (ds':=[.ag [iv 0,so 7 Term.enc x37.1,so 1 (eSl true 1 zF) ([]:List (List Int))],bv false]) (.cons (.ag (.keep rfl (.move (.tail _ (.head _)) (qC _) (by decide) (.nilsl true 1 (.nil))))) (.cons (.cell (.keep rfl (.nil))) (.nil) (by decide)) (by decide)) rfl
  ·refine J_g 130954 [] [(0,sl 8 (Pack.enc false) a1),(1,sv a2),(4,pp 0),(6,pp 1),(7,sl 1 eStr x3),(9,iv (w64 (v36.2+1)))] [(0,.box [iv 0,nv,nv]),(1,.box [iv 0,rr 2 x37.1,nv]),(2,rE 7 Term.enc x37.1)] zB ?_
   refine J_d 261910 [] [12] [(12,sv (bs []))] [] [] zB ?_
   refine zEx (zEN.ok a1 a2 x3 x37 q _ (fun v96=>J_j ?_) (w64 (v36.2+1),bs []))
   exact zQt
 ·exact zN (hk ()) rfl
theorem zAL.ok (a1:(List Pack)) (a2:ByteArray) (x3:(List ByteArray)) (q:Wd) (kn:(ByteArray×Int)→Option (D×List Ent)) (hk:∀v:(ByteArray×Int),J (q.g Tryz.prog 26 0 109) c26 (atI c26 127) (St.mk' [(0,sl 8 (Pack.enc false) a1),(1,sv a2),(4,pp 0),(6,pp 1),(7,sl 1 eStr x3),(8,sv v.1),(9,iv v.2)] [(0,.box [iv 0,nv,nv]),(1,.box [iv 0,nv,nv])]) (some v) kn):
  ∀s20:(ByteArray×Int),J (q.g Tryz.prog 26 0 109) c26 (atI c26 504) (St.mk' [(0,sl 8 (Pack.enc false) a1),(1,sv a2),(4,pp 0),(6,pp 1),(7,sl 1 eStr x3),(8,sv s20.1),(9,iv s20.2)] [(0,.box [iv 0,nv,nv]),(1,.box [iv 0,nv,nv])]) (zAL a1 a2 x3 s20) kn:=by
 refine uM (fun g ih s20=>?_)
 unfold zDg
 refine zU (atI c26 2017) (fun v26:Bool=>St.mk' [(0,sl 8 (Pack.enc false) a1),(1,sv a2),(4,pp 0),(6,pp 1),(7,sl 1 eStr x3),(8,sv s20.1),(9,iv s20.2),(27,bv v26)] [(0,.box [iv 0,nv,nv]),(1,.box [iv 0,nv,nv])]) (fun v26=>?_) (fun jv26=>?_)
 ·refine zG 27 (fun h27=>?_) (fun h27=>?_)
  ·refine zA (fun x28 h29=>?_)
   refine zA (fun x30 h31=>?_)
   refine zA (fun x32 h33=>?_)
   refine zA (fun x34 h35=>?_)
   refine J_g 4036 [] [(0,sl 8 (Pack.enc false) a1),(1,sv a2),(4,pp 0),(6,pp 1),(7,sl 1 eStr x3),(8,sv x34),(9,iv s20.2)] [(0,.box [iv 0,nv,nv]),(1,.box [iv 0,nv,nv])] (zD 3 (wM (kk:=.i64) 69 9 1 eStr (.tmp 29) (.tmp 30) h29) (zD 5 (zKY 9 (.tmp 32) (some (.const (.int .i64 5))) none h31) (zD 6 (zAJ 9 9 (.tmp 28) (.tmp 33) h33) (zD 7 (zAJ 9 9 (.tmp 34) (.const (.string (bs [10]))) h35) zB)))) ?_
   refine J_d 4037 [] [9] [(9,iv (w64 (s20.2+1)))] [] [] zB ?_
   exact J_q (J_b (ih (x34,w64 (s20.2+1)))) rfl
  ·exact zN (hk (s20.1,s20.2)) rfl
 ·refine xB (fun h21=>?_) (fun h21=>?_)
  ·refine zA (fun x22 h23=>?_)
   refine zA (fun x24 h25=>?_)
   refine J_d 2016 [] [27] [(27,bv x24)] [] [] (yO 4 [(20,bv (decide (s20.2< (x3.length:Int))))] [] h21 (uD 7 4 21 true (wM (kk:=.i64) 69 9 1 eStr (.tmp 22) (.tmp 23) h23) (uD 9 4 21 true (yG [(.tmp 25),(.const (.string (bs [114,111,111,116,32])))] [9,9] (tC.ok x22 (bs [114,111,111,116,32])) h25) zB))) ?_
   exact zN (J_j (jv26 x24)) rfl
  ·refine J_d 2016 [] [27] [(27,bv false)] [] [] (yO 4 [(20,bv (decide (s20.2< (x3.length:Int))))] [] h21 zB) ?_
   exact zN (J_j (jv26 false)) rfl
theorem zDU.ok (a1:(List Pack)) (a2:ByteArray):Ok Tryz.prog 26 [sl 8 (Pack.enc false) a1,sv a2] [] ((zDU a1 a2).map fun r=>(.tu [.ag [iv r.1.Code,so 7 Term.enc r.1.Asks,so 1 (eSl true 1 zF) r.1.Sets],bv r.2],[])):=by
 refine zJ c26 Tryz.f26 0 109 (fun q=>?_)
 unfold zDU
 refine J_g 2 [(0,0)] [(0,sl 8 (Pack.enc false) a1),(1,sv a2),(4,pp 0)] [(0,.box [iv 0,nv,nv])] zB ?_
 refine J_d 6 [(1,1)] [6] [(6,pp 1)] [1] [(1,.box [iv 0,nv,nv])] zB ?_
 refine zA (fun x3 h4=>?_)
 refine J_g 14 [] [(0,sl 8 (Pack.enc false) a1),(1,sv a2),(4,pp 0),(6,pp 1),(7,sl 1 eStr x3)] [(0,.box [iv 0,nv,nv]),(1,.box [iv 0,nv,nv])] (zD 1 (yG [(.tmp 15)] [9] (tO.ok a2) h4) zB) ?_
 refine J_g 30 [] [(0,sl 8 (Pack.enc false) a1),(1,sv a2),(4,pp 0),(6,pp 1),(7,sl 1 eStr x3),(8,sv (bs []))] [(0,.box [iv 0,nv,nv]),(1,.box [iv 0,nv,nv])] zB ?_
 refine J_d 62 [] [9] [(9,iv 0)] [] [] zB ?_
 refine zEx (zAL.ok a1 a2 x3 q _ (fun v36=>J_j ?_) (bs [],0))
 refine zA (fun x37 h38=>?_)
 refine J_g 254 [] [(0,sl 8 (Pack.enc false) a1),(1,sv a2),(4,pp 0),(6,pp 1),(7,sl 1 eStr x3),(9,iv v36.2),(10,rr 2 x37.1),(11,bv x37.2)] [(0,.box [iv 0,nv,nv]),(1,.box [iv 0,nv,nv]),(2,rE 7 Term.enc x37.1)] (zD 1 (xH («as»:=[sv v36.1]) [(.tmp 39)] [9] false [] [] (.cons (.same rfl) (.nil)) (zDe.ok v36.1) h38 (.tu (.cons (.own 2) (.cons (.same rfl rfl) (.nil))))) zB) ?_
 refine J_d 1020 [] [11,44] [(44,bv (!x37.2))] [] [] zB ?_
 refine zG 44 (fun h39=>?_) (fun h39=>?_)
 ·refine J_g 4084 [] [(4,pp 0),(5,bv false)] [(0,.box [iv 0,nv,nv])] zB ?_
  exact zEO (ds:=[.ag [iv 0,nv,nv],bv false]) (ds':=[.ag [iv 0,so 7 Term.enc ([]:List Term),so 1 (eSl true 1 zF) ([]:List (List Int))],bv false]) (.cons (.ag (.keep rfl (.nilsl true 7 (.nilsl true 1 (.nil))))) (.cons (.cell (.keep rfl (.nil))) (.nil) (by decide)) (by decide)) rfl
 ·refine J_d 1022 [] [10,44] [] [1] [(1,.box [iv 0,rr 2 x37.1,nv])] zB ?_
  refine uL (K0:=(fun r:(xA×Bool)=>some (.tu [.ag [iv r.1.Code,so 7 Term.enc r.1.Asks,so 1 (eSl true 1 zF) r.1.Sets],bv r.2],[]))) (fun _=>rfl) (jX.ok a1 a2 x3 v36 x37 q _ (fun v97=>J_j ?_) ())
  refine xB (fun h98=>?_) (fun h98=>?_)
  ·refine zA (fun x99 h100=>?_)
   refine J_g 4094 [] [(4,pp 0),(5,bv (seq x99 a2))] [(0,.box [iv 0,rr 2 x37.1,nv]),(2,rE 7 Term.enc x37.1)] (yO 5 [(98,bv (decide (0>0)))] [] h98 (uD 11 5 99 true (xH («as»:=[sl 8 (Pack.enc false) a1,rr 2 x37.1,nv]) [(.tmp 100),(.tmp 102),(.tmp 104)] [24,25,26] true [(2,rE 7 Term.enc x37.1)] [] (.cons (.same rfl) (.cons (zFJ (.head _) (fun _=>rfl) rfl) (.cons (.nil false 1) (.nil)))) (zB8.ok a1 x37.1 ([]:List (List Int))) h100 (.same rfl rfl) (hbor:=fun _=>⟨fhN,wV⟩)) zB)) ?_
   exact zEO (ds:=[.ag [iv 0,rr 2 x37.1,nv],bv (seq x99 a2)]) (ds':=[.ag [iv 0,so 7 Term.enc x37.1,so 1 (eSl true 1 zF) ([]:List (List Int))],bv (seq x99 a2)]) (.cons (.ag (.keep rfl (.move (.tail _ (.head _)) (qC _) (by decide) (.nilsl true 1 (.nil))))) (.cons (.cell (.keep rfl (.nil))) (.nil) (by decide)) (by decide)) rfl
  ·refine J_g 4094 [] [(4,pp 0),(5,bv false)] [(0,.box [iv 0,rr 2 x37.1,nv]),(2,rE 7 Term.enc x37.1)] (yO 5 [(98,bv (decide (0>0)))] [] h98 zB) ?_
   exact zEO (ds:=[.ag [iv 0,rr 2 x37.1,nv],bv false]) (ds':=[.ag [iv 0,so 7 Term.enc x37.1,so 1 (eSl true 1 zF) ([]:List (List Int))],bv false]) (.cons (.ag (.keep rfl (.move (.tail _ (.head _)) (qC _) (by decide) (.nilsl true 1 (.nil))))) (.cons (.cell (.keep rfl (.nil))) (.nil) (by decide)) (by decide)) rfl
def c9:Code:=cdB Tryz.f9
theorem jT.ok (a1:(List Pack)) (a2:ByteArray):Ok Tryz.prog 9 [sl 8 (Pack.enc false) a1,sv a2] [] ((jT a1 a2).map fun r=>(.ag [iv r.Code,so 7 Term.enc r.Asks,so 1 (eSl true 1 zF) r.Sets],[])):=by
 refine zJ c9 Tryz.f9 0 24 (fun q=>?_)
 unfold jT
 refine J_d 2 [(0,0)] [4] [(4,pp 0)] [0] [(0,.box [iv 0,nv,nv])] zB ?_
 refine zA (fun x3 h4=>?_)
 refine J_g 12 [] [(0,sl 8 (Pack.enc false) a1),(1,sv a2),(4,pp 0),(5,iv x3)] [(0,.box [iv 0,nv,nv])] (zD 1 (yG [(.tmp 8)] [24] (zY.ok a1) h4) zB) ?_
 refine J_d 26 [] [11] [(11,bv (x3 !=0))] [] [] zB ?_
 refine zG 11 (fun h5=>?_) (fun h5=>?_)
 ·refine J_g 108 [] [(4,pp 0)] [(0,.box [iv x3,nv,nv])] zB ?_
  exact zEO (ds:=[.ag [iv x3,nv,nv]]) (ds':=[.ag [iv x3,so 7 Term.enc ([]:List Term),so 1 (eSl true 1 zF) ([]:List (List Int))]]) (.cons (.ag (.keep rfl (.nilsl true 7 (.nilsl true 1 (.nil))))) (.nil) (by decide)) rfl
 ·refine zA (fun x6 h7=>?_)
  refine J_g 14 [(6,3)] [(4,pp 0),(6,pp 3),(7,bv x6.2)] [(0,.box [iv 0,nv,nv]),(1,rE 7 Term.enc x6.1.Asks),(2,rE 1 (eSl true 1 zF) x6.1.Sets),(3,.box [iv x6.1.Code,rr 1 x6.1.Asks,rr 2 x6.1.Sets])] (zD 2 (xH («as»:=[sl 8 (Pack.enc false) a1,sv a2]) [(.tmp 15),(.tmp 16)] [24,9] false [] [] (.cons (.same rfl) (.cons (.same rfl) (.nil))) (zDU.ok a1 a2) h7 (.tu (.cons (.ag (.cons (.same rfl rfl) (.cons (.own 1) (.cons (.own 2) (.nil))))) (.cons (.same rfl rfl) (.nil))))) zB) ?_
  refine J_d 60 [] [7,21] [(21,bv (!x6.2))] [] [] zB ?_
  refine zG 21 (fun h8=>?_) (fun h8=>?_)
  ·refine J_g 244 [] [(4,pp 0)] [(0,.box [iv 5,nv,nv])] zB ?_
   exact zEO (ds:=[.ag [iv 5,nv,nv]]) (ds':=[.ag [iv 5,so 7 Term.enc ([]:List Term),so 1 (eSl true 1 zF) ([]:List (List Int))]]) (.cons (.ag (.keep rfl (.nilsl true 7 (.nilsl true 1 (.nil))))) (.nil) (by decide)) rfl
  ·refine J_g 62 [] [(4,pp 0)] [(0,.box [iv x6.1.Code,rr 1 x6.1.Asks,rr 2 x6.1.Sets]),(1,rE 7 Term.enc x6.1.Asks),(2,rE 1 (eSl true 1 zF) x6.1.Sets)] zB ?_
   exact zEO (ds:=[.ag [iv x6.1.Code,rr 1 x6.1.Asks,rr 2 x6.1.Sets]]) (ds':=[.ag [iv x6.1.Code,so 7 Term.enc x6.1.Asks,so 1 (eSl true 1 zF) x6.1.Sets]]) (.cons (.ag (.keep rfl (.move (.tail _ (.head _)) (qC _) (by decide) (.move (.tail _ (.tail _ (.head _))) (qC _) (by decide) (.nil))))) (.nil) (by decide)) rfl
def c10:Code:=cdB Tryz.f10
theorem zCp.ok (a1:(List Int)) (a2:(List Int)) (q:Wd) (kn:Unit→Option (D×List Ent)) (hk:∀v:Unit,J (q.g Tryz.prog 10 0 26) c10 (atI c10 15) (St.mk' [] []) (some v) kn):
  ∀s10:Int,J (q.g Tryz.prog 10 0 26) c10 (atI c10 116) (St.mk' [(0,sl 1 zF a1),(1,sl 1 zF a2),(5,iv s10)] []) (zCp a1 a2 s10) (Fl.go (fun r:Bool=>some (bv r,[])) kn):=by
 refine uM (fun g ih s10=>?_)
 unfold zE5
 refine J_d 464 [] [14] [(14,bv (decide (s10< (a1.length:Int))))] [] [] zB ?_
 refine zG 14 (fun h11=>?_) (fun h11=>?_)
 ·refine zA (fun x12 h13=>?_)
  refine zA (fun x14 h15=>?_)
  refine J_d 1864 [] [14,25] [(25,bv (x12 !=x14))] [] [] (zD 2 (wM (kk:=.i64) 34 2 1 zF (.tmp 17) (.tmp 18) h13) (zD 6 (wM (kk:=.i64) 34 2 1 zF (.tmp 21) (.tmp 22) h15) zB)) ?_
  refine zG 25 (fun h16=>?_) (fun h16=>?_)
  ·refine J_g 7460 [] [(4,bv false)] [] zB ?_
   exact yA rfl
  ·refine J_d 467 [] [5,25] [(5,iv (w64 (s10+1)))] [] [] zB ?_
   exact J_q (J_b (ih (w64 (s10+1)))) rfl
 ·exact zN (hk ()) rfl
theorem zDZ.ok (a1:(List Int)) (a2:(List Int)):Ok Tryz.prog 10 [sl 1 zF a1,sl 1 zF a2] [] ((zDZ a1 a2).map fun r=>(bv r,[])):=by
 refine zJ c10 Tryz.f10 0 26 (fun q=>?_)
 unfold zDZ
 refine J_g 2 [] [(0,sl 1 zF a1),(1,sl 1 zF a2)] [] zB ?_
 refine J_d 12 [] [10] [(10,bv ((a1.length:Int) !=(a2.length:Int)))] [] [] zB ?_
 refine zG 10 (fun h3=>?_) (fun h3=>?_)
 ·refine J_g 52 [] [(4,bv false)] [] zB ?_
  exact yA rfl
 ·refine J_d 28 [] [5,10] [(5,iv 0)] [] [] zB ?_
  refine uL (K0:=(fun r:Bool=>some (bv r,[]))) (fun _=>rfl) (zCp.ok a1 a2 q _ (fun v17=>J_j ?_) 0)
  refine J_g 30 [] [(4,bv true)] [] zB ?_
  exact yA rfl
def c3:Code:=cdB Tryz.f3
theorem uT.ok (x5:((List Pack)×(List Term)×(List (List Int)))) (x7:ByteArray) (x9:xA) (q:Wd) (kn:Unit→Option (D×List Ent)) (hk:∀v:Unit,J (q.g Tryz.prog 3 0 85) c3 (atI c3 511) (St.mk' [(3,sl 8 (Pack.enc false) x5.1),(6,sv x7),(7,pp 2)] [(2,.box (xA.enc false x9))]) (some v) kn):
  ∀s30:Int,J (q.g Tryz.prog 3 0 85) c3 (atI c3 4084) (St.mk' [(3,sl 8 (Pack.enc false) x5.1),(5,rr 1 x5.2.2),(6,sv x7),(7,pp 2),(8,iv s30)] [(1,rE 1 (eSl false 1 zF) x5.2.2),(2,.box (xA.enc false x9))]) (uT x5 x7 x9 s30) (Fl.go (fun r:Bool=>some (bv r,[])) kn):=by
 refine uM (fun g ih s30=>?_)
 unfold zAU
 refine J_d 16336 [] [63] [(63,bv (decide (s30< (x5.2.2.length:Int))))] [] [] zB ?_
 refine zG 63 (fun h31=>?_) (fun h31=>?_)
 ·refine zA (fun x32 h33=>?_)
  refine zA (fun x34 h35=>?_)
  refine zA (fun x36 h37=>?_)
  refine J_d 65352 [] [63,76] [(76,bv (!x36))] [] [] (zD 3 (wM (kk:=.i64) 26 34 1 (eSl false 1 zF) (.tmp 67) (.tmp 68) h33) (zD 7 (zAb (kk:=.i64) 26 34 1 1 (eSl false 1 zF) (.tmp 71) (.tmp 72) h35) (zD 8 (zAa (d:=sl 1 zF x34) 34 1 1 0 (eSl false 1 zF) (.tmp 73) h35 (by kernel_rfl)) (zD 9 (yG [(.tmp 70),(.tmp 74)] [34,34] (zDZ.ok x32 x34) h37) zB)))) ?_
  refine zG 76 (fun h38=>?_) (fun h38=>?_)
  ·refine J_g 261412 [] [(2,bv false)] [] zB ?_
   exact yA rfl
  ·refine J_d 16339 [] [8,76] [(8,iv (w64 (s30+1)))] [] [] zB ?_
   exact J_q (J_b (ih (w64 (s30+1)))) rfl
 ·exact zN (hk ()) rfl
theorem uO.ok (a1:(List Int)):Ok Tryz.prog 3 [sl 1 eU8 a1] [] ((uO a1).map fun r=>(bv r,[])):=by
 refine zJ c3 Tryz.f3 0 85 (fun q=>?_)
 unfold uO
 refine J_g 2 [] [(0,sl 1 eU8 a1)] [] zB ?_
 refine zA (fun x2 h3=>?_)
 refine J_g 12 [] [(0,sl 1 eU8 a1),(10,bv x2)] [] (zD 1 (yG [(.tmp 9)] [22] (zEk.ok a1) h3) zB) ?_
 refine zG 10 (fun h4=>?_) (fun h4=>?_)
 ·refine J_g 52 [] [(2,bv true)] [] zB ?_
  exact yA rfl
 ·refine zA (fun x5 h6=>?_)
  refine J_g 14 [] [(3,sl 8 (Pack.enc false) x5.1),(4,rr 0 x5.2.1),(5,rr 1 x5.2.2)] [(0,rE 7 Term.enc x5.2.1),(1,rE 1 (eSl false 1 zF) x5.2.2)] (zD 1 (xH («as»:=[sl 1 eU8 a1]) [(.tmp 12)] [22] false [] [] (.cons (.same rfl) (.nil)) (vT.ok a1) h6 (.tu (.cons (.same rfl rfl) (.cons (.own 0) (.cons (.own 1) (.nil)))))) zB) ?_
  refine zA (fun x7 h8=>?_)
  refine J_d 30 [] [6] [(6,sv x7)] [] [] (zD 3 (xH («as»:=[sl 8 (Pack.enc false) x5.1,rr 0 x5.2.1,rr 1 x5.2.2]) [(.tmp 17),(.tmp 18),(.tmp 19)] [24,25,26] true [(0,rE 7 Term.enc x5.2.1),(1,rE 1 (eSl false 1 zF) x5.2.2)] [] (.cons (.same rfl) (.cons (zFJ (.head _) (fun _=>rfl) rfl) (.cons (zFJ (.tail _ (.head _)) (zE7 (fun _=>rfl)) rfl) (.nil)))) (uH.ok x5.1 x5.2.1 x5.2.2) h8 (.same rfl rfl) (hbor:=fun _=>⟨fhN,wV⟩)) zB) ?_
  refine zA (fun x9 h10=>?_)
  refine J_d 62 [(3,2)] [7] [(7,pp 2)] [2] [(2,.box (xA.enc false x9))] (zD 2 (yG [(.tmp 21),(.tmp 22)] [24,9] (jS.ok x5.1 x7) h10) zB) ?_
  refine zU (atI c3 253) (fun v12:Bool=>St.mk' [(3,sl 8 (Pack.enc false) x5.1),(4,rr 0 x5.2.1),(5,rr 1 x5.2.2),(6,sv x7),(7,pp 2),(30,bv v12)] [(0,rE 7 Term.enc x5.2.1),(1,rE 1 (eSl false 1 zF) x5.2.2),(2,.box (xA.enc false x9))]) (fun v12=>?_) (fun jv12=>?_)
  ·refine zG 30 (fun h13=>?_) (fun h13=>?_)
   ·refine zA (fun x14 h15=>?_)
    refine xB (fun h16=>?_) (fun h16=>?_)
    ·refine zA (fun x17 h18=>?_)
     refine J_g 1012 [] [(2,bv (x17.Code==x9.Code))] [] (zD 3 (xH («as»:=[sl 8 (Pack.enc false) x5.1,rr 0 x5.2.1,rr 1 x5.2.2]) [(.tmp 31),(.tmp 32),(.tmp 33)] [24,25,26] true [(0,rE 7 Term.enc x5.2.1),(1,rE 1 (eSl false 1 zF) x5.2.2)] [] (.cons (.same rfl) (.cons (zFJ (.head _) (fun _=>rfl) rfl) (.cons (zFJ (.tail _ (.head _)) (zE7 (fun _=>rfl)) rfl) (.nil)))) (zAA.ok x5.1 x5.2.1 x5.2.2) h15 (.same rfl rfl) (hbor:=fun _=>⟨fhN,wV⟩)) (yO 6 [(36,bv (seq x14 x7))] [] h16 (uD 9 6 37 true (xH («as»:=[sl 8 (Pack.enc false) x5.1,sv x7]) [(.tmp 38),(.tmp 39)] [24,9] false [] [] (.cons (.same rfl) (.cons (.same rfl) (.nil))) (jT.ok x5.1 x7) h18 (.ag (.cons (.same rfl rfl) (.cons (.own 3) (.cons (.own 4) (.nil)))))) zB))) ?_
     exact yA rfl
    ·refine J_g 1012 [] [(2,bv false)] [] (zD 3 (xH («as»:=[sl 8 (Pack.enc false) x5.1,rr 0 x5.2.1,rr 1 x5.2.2]) [(.tmp 31),(.tmp 32),(.tmp 33)] [24,25,26] true [(0,rE 7 Term.enc x5.2.1),(1,rE 1 (eSl false 1 zF) x5.2.2)] [] (.cons (.same rfl) (.cons (zFJ (.head _) (fun _=>rfl) rfl) (.cons (zFJ (.tail _ (.head _)) (zE7 (fun _=>rfl)) rfl) (.nil)))) (zAA.ok x5.1 x5.2.1 x5.2.2) h15 (.same rfl rfl) (hbor:=fun _=>⟨fhN,wV⟩)) (yO 6 [(36,bv (seq x14 x7))] [] h16 zB)) ?_
     exact yA rfl
   ·refine zU (atI c3 509) (fun v20:Bool=>St.mk' [(3,sl 8 (Pack.enc false) x5.1),(5,rr 1 x5.2.2),(6,sv x7),(7,pp 2),(59,bv v20)] [(1,rE 1 (eSl false 1 zF) x5.2.2),(2,.box (xA.enc false x9))]) (fun v20=>?_) (fun jv20=>?_)
    ·refine zG 59 (fun h21=>?_) (fun h21=>?_)
     ·refine J_g 2036 [] [(2,bv false)] [] zB ?_
      exact yA rfl
     ·refine J_d 1020 [] [8,59] [(8,iv 0)] [] [] zB ?_
      refine uL (K0:=(fun r:Bool=>some (bv r,[]))) (fun _=>rfl) (uT.ok x5 x7 x9 q _ (fun v39=>J_j ?_) 0)
      refine zA (fun x40 h41=>?_)
      refine J_g 1022 [] [(2,bv (seq x40 x7))] [] (zD 5 (yG [(.tmp 77),(.tmp 79),(.tmp 81)] [24,25,26] (uH.ok x5.1 x9.Asks x9.Sets) h41) zB) ?_
      exact yA rfl
    ·refine xB (fun h19=>?_) (fun h19=>?_)
     ·refine J_d 508 [] [4,30,59] [(59,bv true)] [0] [] (yO 6 [(51,bv ((x9.Sets.length:Int) !=(x5.2.2.length:Int)))] [] h19 zB) ?_
      exact zN (J_j (jv20 true)) rfl
     ·refine J_d 508 [] [4,30,59] [(59,bv ((x9.Asks.length:Int) !=(x5.2.1.length:Int)))] [0] [] (yO 6 [(51,bv ((x9.Sets.length:Int) !=(x5.2.2.length:Int)))] [] h19 zB) ?_
      exact zN (J_j (jv20 ((x9.Asks.length:Int) !=(x5.2.1.length:Int)))) rfl
  ·refine xB (fun h11=>?_) (fun h11=>?_)
   ·refine J_d 252 [] [30] [(30,bv true)] [] [] (yO 2 [(25,bv (seq x7 (bs [])))] [] h11 zB) ?_
    exact zN (J_j (jv12 true)) rfl
   ·refine J_d 252 [] [30] [(30,bv (x9.Code !=0))] [] [] (yO 2 [(25,bv (seq x7 (bs [])))] [] h11 zB) ?_
    exact zN (J_j (jv12 (x9.Code !=0))) rfl
end
end Go.Told

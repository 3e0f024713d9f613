import Derived.Test.YtdeihchdibglaaaGreatDoorToldFnPlanTexts
import Derived.Test.YtdeihchdibglaaaGreatDoorShelfFnPlanTexts
import Derived.Test.YtdeihchdibglaaaGreatDoorProg
set_option linter.unusedVariables false
set_option maxRecDepth 4000
namespace Go.Told
open Go Go.Im Go.Proofs
noncomputable section
def c4:Code:=cdB Tryz.f4
theorem zEk.ok (a1:(List Int)):Ok Tryz.prog 4 [sl 1 eU8 a1] [] ((zEk a1).map fun r=>(bv r,[])):=by
 refine zJ c4 Tryz.f4 0 6 (fun q=>?_)
 unfold zEk
 refine J_g 2 [] [(0,sl 1 eU8 a1)] [] zB ?_
 refine J_g 6 [] [(2,bv (decide ((a1.length:Int)>1048576)))] [] zB ?_
 exact yA rfl
def c11:Code:=cdB Tryz.f11
theorem zB5.ok (a1:(List Int)):Ok Tryz.prog 11 [sl 1 eU8 a1] [] ((zB5 a1).map fun r=>(.po [sl 1 eU8 r.Code,iv r.At],[])):=by
 refine zJ c11 Tryz.f11 0 6 (fun q=>?_)
 unfold zB5
 refine J_g 2 [] [(0,sl 1 eU8 a1)] [] zB ?_
 refine J_g 6 [(2,0)] [(2,pp 0)] [(0,.box [sl 1 eU8 a1,iv 0])] zB ?_
 exact zEO (ds:=[pp 0]) (ds':=[.po [sl 1 eU8 a1,iv 0]]) (.cons (.po (.head _)) (.nil) (by decide)) rfl
def c35:Code:=cdB Tryz.f35
theorem zH.ok (a1:zC) (a2:Int):Ok Tryz.prog 35 [pp 0,iv a2] [.box (zC.enc false a1)] ((zH a1 a2).map fun r=>(iv r.1,[.box (zC.enc false r.2)])):=by
 refine zJ c35 Tryz.f35 1 71 (fun q=>?_)
 unfold zH
 refine J_g 2 [] [(0,pp 0),(1,iv a2)] [(0,.box (zC.enc false a1))] zB ?_
 refine J_g 6 [] [(0,pp 0),(1,iv a2)] [(0,.box [sl 1 eU8 a1.Code,iv (w64 (a1.At+1))])] zB ?_
 refine J_d 28 [] [17] [(17,bv (decide (a2<1)))] [] [] zB ?_
 refine zG 17 (fun h3=>?_) (fun h3=>?_)
 ·refine J_d 116 [] [0,1,4,17] [(4,iv 0)] [] [] zB ?_
  exact yA rfl
 ·refine J_g 30 [] [(0,pp 0),(1,iv a2),(5,iv (w64 ((w64 (a1.At+1))-1)))] [(0,.box [sl 1 eU8 a1.Code,iv (w64 (a1.At+1))])] zB ?_
  refine J_g 62 [] [(0,pp 0),(1,iv a2),(5,iv (w64 ((w64 (a1.At+1))-1))),(6,iv (a1.Code.length:Int))] [(0,.box [sl 1 eU8 a1.Code,iv (w64 (a1.At+1))])] zB ?_
  refine J_d 252 [] [29] [(29,bv ((a1.Code.length:Int)==0))] [] [] zB ?_
  refine zG 29 (fun h4=>?_) (fun h4=>?_)
  ·refine zA (fun x5 h6=>?_)
   refine J_d 1012 [] [0,1,4,5,6,29] [(4,iv x5)] [] [] (zD 3 (zPy (k:=.i64) 2 2 (.tmp 31) (.tmp 32) h6) zB) ?_
   exact yA rfl
  ·refine zA (fun x7 h8=>?_)
   refine zA (fun x9 h10=>?_)
   refine zA (fun x11 h12=>?_)
   refine J_g 254 [] [(0,pp 0),(1,iv a2),(5,iv (w64 ((w64 (a1.At+1))-1))),(6,iv (a1.Code.length:Int)),(7,iv (w64 ((w64 (x9))+(w64 (x11*37)))))] [(0,.box [sl 1 eU8 a1.Code,iv (w64 (a1.At+1))])] (zD 6 (zPy (k:=.i64) 2 2 (.tmp 38) (.tmp 39) h8) (zD 7 (wM (kk:=.i64) 22 5 1 eU8 (.tmp 37) (.tmp 40) h10) (zD 12 (zSy (k:=.i64) 2 2 (.tmp 44) (.tmp 45) h12) zB))) ?_
   refine J_d 1020 [] [50] [(50,bv (decide (a2>200)))] [] [] zB ?_
   refine zU (atI c35 511) (fun v18:Int=>St.mk' [(1,iv a2),(7,iv v18)] [(0,.box [sl 1 eU8 a1.Code,iv (w64 (a1.At+1))])]) (fun v18=>?_) (fun jv18=>?_)
   ·refine zA (fun x19 h20=>?_)
    refine J_d 1022 [] [1,4,7] [(4,iv x19)] [] [] (zD 2 (zPy (k:=.i64) 2 2 (.tmp 68) (.tmp 69) h20) zB) ?_
    exact yA rfl
   ·refine zG 50 (fun h13=>?_) (fun h13=>?_)
    ·refine zA (fun x14 h15=>?_)
     refine zA (fun x16 h17=>?_)
     refine J_d 2042 [] [0,5,6,7,50] [(7,iv (w64 ((w64 ((w64 ((w64 ((w64 (x9))+(w64 (x11*37))))*251))+(w64 ((w64 (x16))*13))))+(w64 ((w64 (a1.At+1))-1)))))] [] [] (zD 9 (zPy (k:=.i64) 2 2 (.tmp 58) (.tmp 59) h15) (zD 10 (wM (kk:=.i64) 22 5 1 eU8 (.tmp 56) (.tmp 60) h17) zB)) ?_
     exact zN (J_j (jv18 (w64 ((w64 ((w64 ((w64 ((w64 (x9))+(w64 (x11*37))))*251))+(w64 ((w64 (x16))*13))))+(w64 ((w64 (a1.At+1))-1)))))) rfl
    ·exact zN (J_j (jv18 (w64 ((w64 (x9))+(w64 (x11*37)))))) rfl
def c29:Code:=cdB Tryz.f29
theorem zT.ok (a1:zC) (a2:(List Int)):Ok Tryz.prog 29 [pp 0,rr 1 a2] [.box (zC.enc false a1),rE 1 zF a2] ((zT a1 a2).map fun r=>(iv r.1,[.box (zC.enc false r.2),rE 1 zF a2])):=by
 refine zJ c29 Tryz.f29 2 12 (fun q=>?_)
 unfold zT
 refine J_d 2 [] [] [] [] [] zB ?_
 refine zA (fun x3 h4=>?_)
 refine zA (fun x5 h6=>?_)
 refine J_g 6 [] [(4,iv x5)] [(0,.box (zC.enc false x3.2)),(1,rE 1 zF a2)] (zD 4 (xH («as»:=[pp 0,iv (a2.length:Int)]) [(.tmp 6),(.tmp 8)] [35,2] false [(0,.box (zC.enc false a1))] [0] (.cons (.pt rfl) (.cons (.same rfl) (.nil))) (zH.ok a1 (a2.length:Int)) h4 (.same rfl rfl)) (zD 5 (zAb (kk:=.i64) 34 2 1 1 zF (.tmp 5) (.tmp 9) h6) (zD 6 (zAa (d:=iv x5) 2 1 1 0 zF (.tmp 10) h6 (by kernel_rfl)) zB))) ?_
 exact yA rfl
def c95:Code:=cdB Tryz.f95
theorem wJ.ok (a1:zC):Ok Tryz.prog 95 [pp 0] [.box (zC.enc false a1)] ((wJ a1).map fun r=>(sv r.1,[.box (zC.enc false r.2)])):=by
 refine zJ c95 Tryz.f95 1 8 (fun q=>?_)
 unfold wJ
 refine J_d 2 [] [] [] [] [] zB ?_
 refine zA (fun x2 h3=>?_)
 refine zA (fun x4 h5=>?_)
 refine J_g 6 [] [(2,sv x4)] [(0,.box (zC.enc false x2.2))] (zD 0 (vM 69 9 1 1 eStr [bs [97],bs [98],bs [99],bs [100],bs [108,105,98],bs [119,101,98]] [0,1,2,3,4,5] [(.const (.string (bs [97]))),(.const (.string (bs [98]))),(.const (.string (bs [99]))),(.const (.string (bs [100]))),(.const (.string (bs [108,105,98]))),(.const (.string (bs [119,101,98])))] [sv (bs [97]),sv (bs [98]),sv (bs [99]),sv (bs [100]),sv (bs [108,105,98]),sv (bs [119,101,98])]) (zD 2 (xH («as»:=[pp 0,iv 6]) [(.tmp 4),(.const (.int .i64 6))] [35,2] false [(0,.box (zC.enc false a1))] [0] (.cons (.pt rfl) (.cons (.same rfl) (.nil))) (zH.ok a1 6) h3 (.same rfl rfl)) (zD 3 (zAb (kk:=.i64) 69 9 1 1 eStr (.tmp 3) (.tmp 5) h5) (zD 4 (zAa (d:=sv x4) 9 1 1 0 eStr (.tmp 6) h5 (by kernel_rfl)) zB)))) ?_
 exact yA rfl
def c30:Code:=cdB Tryz.f30
theorem zI.ok (a1:zC) (a2:Int):Ok Tryz.prog 30 [pp 0,iv a2] [.box (zC.enc false a1)] ((zI a1 a2).map fun r=>(bv r.1,[.box (zC.enc false r.2)])):=by
 refine zJ c30 Tryz.f30 1 9 (fun q=>?_)
 unfold zI
 refine J_d 2 [] [] [] [] [] zB ?_
 refine zA (fun x3 h4=>?_)
 refine J_g 6 [] [(4,bv (x3.1==0))] [(0,.box (zC.enc false x3.2))] (zD 2 (xH («as»:=[pp 0,iv a2]) [(.tmp 5),(.tmp 6)] [35,2] false [(0,.box (zC.enc false a1))] [0] (.cons (.pt rfl) (.cons (.same rfl) (.nil))) (zH.ok a1 a2) h4 (.same rfl rfl)) zB) ?_
 exact yA rfl
def zTr:Code:=cdB Tryz.f125
theorem uK.ok:Ok Tryz.prog 125 [] [] ((uK).map fun r=>(.ag (Version.enc r),[])):=by
 refine zJ zTr Tryz.f125 0 2 (fun q=>?_)
 unfold uK
 refine J_g 2 [(0,0)] [(0,pp 0)] [(0,.box [iv 0,iv 0,iv 0])] zB ?_
 refine J_g 6 [] [(0,pp 0)] [(0,.box [iv 1000,iv 0,iv 0])] zB ?_
 exact yA rfl
def c79:Code:=cdB Tryz.f79
theorem wT.ok (a1:ByteArray):Ok Tryz.prog 79 [sv a1] [] ((wT a1).map fun r=>(.ag (Term.enc r),[])):=by
 refine zJ c79 Tryz.f79 0 6 (fun q=>?_)
 unfold wT
 refine J_g 2 [(0,0)] [(0,sv a1),(2,pp 0)] [(0,.box [sv ByteArray.empty,iv 0,iv 0,iv 0,iv 0,iv 0,iv 0])] zB ?_
 refine zA (fun x2 h3=>?_)
 refine J_g 6 [] [(2,pp 0)] [(0,.box [sv a1,iv 0,iv 0,iv 0,iv x2.A,iv x2.B,iv x2.C])] (zD 1 (yG [] [] (uK.ok) h3) zB) ?_
 exact yA rfl
def c96:Code:=cdB Tryz.f96
theorem vX.ok (a1:zC):Ok Tryz.prog 96 [pp 0] [.box (zC.enc false a1)] ((vX a1).map fun r=>(.ag (Version.enc r.1),[.box (zC.enc false r.2)])):=by
 refine zJ c96 Tryz.f96 1 16 (fun q=>?_)
 unfold vX
 refine J_d 2 [(0,1)] [2] [(2,pp 1)] [1] [(1,.box [iv 0,iv 0,iv 0])] zB ?_
 refine zA (fun x2 h3=>?_)
 refine zA (fun x4 h5=>?_)
 refine zA (fun x6 h7=>?_)
 refine zA (fun x8 h9=>?_)
 refine zA (fun x10 h11=>?_)
 refine J_g 6 [] [(2,pp 1)] [(0,.box (zC.enc false x10.2)),(1,.box [iv x2.1,iv x6.1,iv x10.1])] (zD 1 (xH («as»:=[pp 0,iv 4]) [(.tmp 3),(.const (.int .i64 4))] [35,2] false [(0,.box (zC.enc false a1))] [0] (.cons (.pt rfl) (.cons (.same rfl) (.nil))) (zH.ok a1 4) h3 (.same rfl rfl)) (zD 4 (xH («as»:=[pp 0,iv 3]) [(.tmp 6),(.const (.int .i64 3))] [35,2] false [(0,.box (zC.enc false x2.2))] [0] (.cons (.pt rfl) (.cons (.same rfl) (.nil))) (zH.ok x2.2 3) h5 (.same rfl rfl)) (zD 5 (vM 34 2 1 2 zF [0,0,x4.1] [0,1,2] [(.const (.int .i64 0)),(.const (.int .i64 0)),(.tmp 7)] [iv 0,iv 0,iv x4.1]) (zD 6 (xH («as»:=[pp 0,rr 2 [0,0,x4.1]]) [(.tmp 5),(.tmp 8)] [35,34] false [(0,.box (zC.enc false x4.2)),(2,rE 1 zF [0,0,x4.1])] [0,2] (.cons (.pt rfl) (.cons (.rf rfl) (.nil))) (zT.ok x4.2 [0,0,x4.1]) h7 (.same rfl rfl)) (zD 9 (xH («as»:=[pp 0,iv 3]) [(.tmp 11),(.const (.int .i64 3))] [35,2] false [(0,.box (zC.enc false x6.2))] [0] (.cons (.pt rfl) (.cons (.same rfl) (.nil))) (zH.ok x6.2 3) h9 (.same rfl rfl)) (zD 10 (vM 34 2 1 3 zF [0,0,0,x8.1] [0,1,2,3] [(.const (.int .i64 0)),(.const (.int .i64 0)),(.const (.int .i64 0)),(.tmp 12)] [iv 0,iv 0,iv 0,iv x8.1]) (zD 11 (xH («as»:=[pp 0,rr 3 [0,0,0,x8.1]]) [(.tmp 10),(.tmp 13)] [35,34] false [(0,.box (zC.enc false x8.2)),(3,rE 1 zF [0,0,0,x8.1])] [0,3] (.cons (.pt rfl) (.cons (.rf rfl) (.nil))) (zT.ok x8.2 [0,0,0,x8.1]) h11 (.same rfl rfl)) zB))))))) ?_
 exact yA rfl
def c43:Code:=cdB Tryz.f43
theorem wP.ok (a1:zC):Ok Tryz.prog 43 [pp 0] [.box (zC.enc false a1)] ((wP a1).map fun r=>(.ag (Term.enc r.1),[.box (zC.enc false r.2)])):=by
 refine zJ c43 Tryz.f43 1 24 (fun q=>?_)
 unfold wP
 refine J_d 2 [(0,1)] [2] [(2,pp 1)] [1] [(1,.box [sv ByteArray.empty,iv 0,iv 0,iv 0,iv 0,iv 0,iv 0])] zB ?_
 refine zA (fun x2 h3=>?_)
 refine zA (fun x4 h5=>?_)
 refine J_d 6 [(3,2)] [3] [(3,pp 2)] [0,2] [(0,.box (zC.enc false x2.2)),(2,.box (Term.enc x4))] (zD 1 (xH («as»:=[pp 0]) [(.tmp 4)] [35] false [(0,.box (zC.enc false a1))] [0] (.cons (.pt rfl) (.nil)) (wJ.ok a1) h3 (.same rfl rfl)) (zD 2 (yG [(.tmp 5)] [9] (wT.ok x2.1) h5) zB)) ?_
 refine zA (fun x6 h7=>?_)
 refine J_d 28 [] [8] [(8,bv x6.1)] [0] [(0,.box (zC.enc false x6.2))] (zD 1 (xH («as»:=[pp 0,iv 2]) [(.tmp 7),(.const (.int .i64 2))] [35,2] false [(0,.box (zC.enc false x2.2))] [0] (.cons (.pt rfl) (.cons (.same rfl) (.nil))) (zI.ok x2.2 2) h7 (.same rfl rfl)) zB) ?_
 refine zU (atI c43 15) (fun v11:((List Int)×Int×Int×Int×Int)=>St.mk' [(0,pp 0),(2,pp 1),(3,pp 2)] [(0,.box [sl 1 eU8 v11.1,iv v11.2.1]),(1,.box [sv ByteArray.empty,iv 0,iv 0,iv 0,iv 0,iv 0,iv 0]),(2,.box [sv x4.Name,iv v11.2.2.1,iv v11.2.2.2.1,iv v11.2.2.2.2,iv x4.High.A,iv x4.High.B,iv x4.High.C])]) (fun v11=>?_) (fun jv11=>?_)
 ·refine zA (fun x12 h13=>?_)
  refine J_d 60 [] [13] [(13,bv x12.1)] [0] [(0,.box (zC.enc false x12.2))] (zD 1 (xH («as»:=[pp 0,iv 3]) [(.tmp 12),(.const (.int .i64 3))] [35,2] false [(0,.box [sl 1 eU8 v11.1,iv v11.2.1])] [0] (.cons (.pt rfl) (.cons (.same rfl) (.nil))) (zI.ok ({Code:=v11.1,At:=v11.2.1}:zC) 3) h13 (.same rfl rfl)) zB) ?_
  refine zU (atI c43 31) (fun v17:((List Int)×Int×Int×Int×Int)=>St.mk' [(2,pp 1),(3,pp 2)] [(0,.box [sl 1 eU8 v17.1,iv v17.2.1]),(1,.box [sv ByteArray.empty,iv 0,iv 0,iv 0,iv 0,iv 0,iv 0]),(2,.box [sv x4.Name,iv v11.2.2.1,iv v11.2.2.2.1,iv v11.2.2.2.2,iv v17.2.2.1,iv v17.2.2.2.1,iv v17.2.2.2.2])]) (fun v17=>?_) (fun jv17=>?_)
  ·refine J_g 62 [] [(2,pp 1)] [(0,.box [sl 1 eU8 v17.1,iv v17.2.1]),(1,.box [sv x4.Name,iv v11.2.2.1,iv v11.2.2.2.1,iv v11.2.2.2.2,iv v17.2.2.1,iv v17.2.2.2.1,iv v17.2.2.2.2])] zB ?_
   exact yA rfl
  ·refine zG 13 (fun h14=>?_) (fun h14=>?_)
   ·refine zA (fun x15 h16=>?_)
    refine J_d 122 [] [0,13] [] [0,2] [(0,.box (zC.enc false x15.2)),(2,.box [sv x4.Name,iv v11.2.2.1,iv v11.2.2.2.1,iv v11.2.2.2.2,iv (w64 ((w64 (v11.2.2.1+1))+x15.1)),iv 0,iv 0])] (zD 5 (xH («as»:=[pp 0,iv 2]) [(.tmp 18),(.const (.int .i64 2))] [35,2] false [(0,.box (zC.enc false x12.2))] [0] (.cons (.pt rfl) (.cons (.same rfl) (.nil))) (zH.ok x12.2 2) h16 (.same rfl rfl)) zB) ?_
    exact zN (J_j (jv17 (x15.2.Code,x15.2.At,w64 ((w64 (v11.2.2.1+1))+x15.1),0,0))) rfl
   ·exact zN (J_j (jv17 (x12.2.Code,x12.2.At,x4.High.A,x4.High.B,x4.High.C))) rfl
 ·refine zG 8 (fun h8=>?_) (fun h8=>?_)
  ·refine zA (fun x9 h10=>?_)
   refine J_d 58 [] [8] [] [0,2] [(0,.box (zC.enc false x9.2)),(2,.box [sv x4.Name,iv x9.1.A,iv x9.1.B,iv x9.1.C,iv x4.High.A,iv x4.High.B,iv x4.High.C])] (zD 1 (xH («as»:=[pp 0]) [(.tmp 9)] [35] false [(0,.box (zC.enc false x6.2))] [0] (.cons (.pt rfl) (.nil)) (vX.ok x6.2) h10 (.ag (.cons (.same rfl rfl) (.cons (.same rfl rfl) (.cons (.same rfl rfl) (.nil)))))) zB) ?_
   exact zN (J_j (jv11 (x9.2.Code,x9.2.At,x9.1.A,x9.1.B,x9.1.C))) rfl
  ·exact zN (J_j (jv11 (x6.2.Code,x6.2.At,x4.Low.A,x4.Low.B,x4.Low.C))) rfl
def zP4:Code:=cdB Tryz.f133
theorem zDB.ok (x2:(ByteArray×zC)) (x4:(Int×zC)) (x6:(Int×zC)) (v15:((List Int)×Int×(List ByteArray))) (q:Wd) (kn:((List Int)×Int×(List (List Term)))→Option (D×List Ent)) (hk:∀v:((List Int)×Int×(List (List Term))),J (q.g Tryz.prog 133 1 63) zP4 (atI zP4 31) (St.mk' [(0,pp 0),(2,pp 1),(3,pp 2)] [(0,.box [sl 1 eU8 v.1,iv v.2.1]),(1,.box [sv ByteArray.empty,iv 0,iv 0,iv 0,iv 0,nv,nv,nv]),(2,.box [sv x2.1,iv (w64 (1+x4.1)),iv 0,iv 0,iv (w64 (1+x6.1)),rr 4 v15.2.2,rr 5 v.2.2,nv]),(4,rE 1 eStr v15.2.2),(5,rE 1 (eSl true 7 Term.enc) v.2.2)]) (some v) kn):
  ∀s60:((List Int)×Int×(List (List Term))×Int),J (q.g Tryz.prog 133 1 63) zP4 (atI zP4 244) (St.mk' [(0,pp 0),(2,pp 1),(3,pp 2),(4,iv s60.2.2.2)] [(0,.box [sl 1 eU8 s60.1,iv s60.2.1]),(1,.box [sv ByteArray.empty,iv 0,iv 0,iv 0,iv 0,nv,nv,nv]),(2,.box [sv x2.1,iv (w64 (1+x4.1)),iv 0,iv 0,iv (w64 (1+x6.1)),rr 4 v15.2.2,rr 5 s60.2.2.1,nv]),(4,rE 1 eStr v15.2.2),(5,rE 1 (eSl true 7 Term.enc) s60.2.2.1)]) (zDB x2 x4 x6 v15 s60) kn:=by
 refine uM (fun g ih s60=>?_)
 unfold zCY
 refine J_d 976 [] [29] [(29,bv (decide (s60.2.2.2>0)))] [] [] zB ?_
 refine zG 29 (fun h61=>?_) (fun h61=>?_)
 ·refine zA (fun x62 h63=>?_)
  refine J_d 3912 [] [5,29] [(5,rr 6 [x62.1])] [0,6] [(0,.box (zC.enc false x62.2)),(6,rE 7 Term.enc [x62.1])] (zD 1 (xH («as»:=[pp 0]) [(.tmp 32)] [35] false [(0,.box [sl 1 eU8 s60.1,iv s60.2.1])] [0] (.cons (.pt rfl) (.nil)) (wP.ok ({Code:=s60.1,At:=s60.2.1}:zC)) h63 (.ag (.cons (.same rfl rfl) (.cons (.same rfl rfl) (.cons (.same rfl rfl) (.cons (.same rfl rfl) (.cons (.same rfl rfl) (.cons (.same rfl rfl) (.cons (.same rfl rfl) (.nil)))))))))) (zD 2 (vM 25 85 7 6 Term.enc [x62.1] [0] [(.tmp 33)] [.ag (Term.enc x62.1)]) zB)) ?_
  refine zA (fun x64 h65=>?_)
  refine J_d 15652 [] [36] [(36,bv x64.1)] [0] [(0,.box (zC.enc false x64.2))] (zD 1 (xH («as»:=[pp 0,iv 3]) [(.tmp 35),(.const (.int .i64 3))] [35,2] false [(0,.box (zC.enc false x62.2))] [0] (.cons (.pt rfl) (.cons (.same rfl) (.nil))) (zI.ok x62.2 3) h65 (.same rfl rfl)) zB) ?_
  refine zU (atI zP4 7827) (fun v71:((List Int)×Int×(List Term))=>St.mk' [(0,pp 0),(2,pp 1),(3,pp 2),(4,iv s60.2.2.2),(5,rr 8 v71.2.2)] [(0,.box [sl 1 eU8 v71.1,iv v71.2.1]),(1,.box [sv ByteArray.empty,iv 0,iv 0,iv 0,iv 0,nv,nv,nv]),(2,.box [sv x2.1,iv (w64 (1+x4.1)),iv 0,iv 0,iv (w64 (1+x6.1)),rr 4 v15.2.2,rr 5 s60.2.2.1,nv]),(4,rE 1 eStr v15.2.2),(5,rE 1 (eSl true 7 Term.enc) s60.2.2.1),(8,rE 7 Term.enc v71.2.2)]) (fun v71=>?_) (fun jv71=>?_)
  ·refine zA (fun x72 h73=>?_)
   refine J_d 31308 [] [43] [(43,bv x72.1)] [0] [(0,.box (zC.enc false x72.2))] (zD 1 (xH («as»:=[pp 0,iv 8]) [(.tmp 42),(.const (.int .i64 8))] [35,2] false [(0,.box [sl 1 eU8 v71.1,iv v71.2.1])] [0] (.cons (.pt rfl) (.cons (.same rfl) (.nil))) (zI.ok ({Code:=v71.1,At:=v71.2.1}:zC) 8) h73 (.same rfl rfl)) zB) ?_
   refine zU (atI zP4 15655) (fun v79:(List Term)=>St.mk' [(0,pp 0),(2,pp 1),(3,pp 2),(4,iv s60.2.2.2),(5,rr 8 v79)] [(0,.box (zC.enc false x72.2)),(1,.box [sv ByteArray.empty,iv 0,iv 0,iv 0,iv 0,nv,nv,nv]),(2,.box [sv x2.1,iv (w64 (1+x4.1)),iv 0,iv 0,iv (w64 (1+x6.1)),rr 4 v15.2.2,rr 5 s60.2.2.1,nv]),(4,rE 1 eStr v15.2.2),(5,rE 1 (eSl true 7 Term.enc) s60.2.2.1),(8,rE 7 Term.enc v79)]) (fun v79=>?_) (fun jv79=>?_)
   ·refine zA (fun x80 h81=>?_)
    refine J_g 15655 [] [(0,pp 0),(2,pp 1),(3,pp 2),(4,iv s60.2.2.2)] [(0,.box (zC.enc false x72.2)),(1,.box [sv ByteArray.empty,iv 0,iv 0,iv 0,iv 0,nv,nv,nv]),(2,.box [sv x2.1,iv (w64 (1+x4.1)),iv 0,iv 0,iv (w64 (1+x6.1)),rr 4 v15.2.2,rr 10 x80,nv]),(4,rE 1 eStr v15.2.2),(10,rE 1 (eSl true 7 Term.enc) x80)] (zD 3 (zPl (ds:=[rr 8 v79]) (ts:=[8]) 87 25 1 9 (eSl true 7 Term.enc) [v79] [0] [(.tmp 49)] [rr 8 v79] [(8,rE 7 Term.enc v79)] (.move (.head _) (qC _) (by decide) (.nil))) (zD 4 (zEQ 87 87 25 25 1 24 10 5 9 (eSl true 7 Term.enc) (.tmp 48) (.tmp 50) h81) zB)) ?_
    refine J_d 979 [] [4] [(4,iv (w64 (s60.2.2.2-1)))] [] [] zB ?_
    refine xV 10 5 (qB rfl) (qB rfl) ?_
    exact J_q (J_b (ih (x72.2.Code,x72.2.At,x80,w64 (s60.2.2.2-1)))) rfl
   ·refine zG 43 (fun h74=>?_) (fun h74=>?_)
    ·refine zA (fun x75 h76=>?_)
     refine zA (fun x77 h78=>?_)
     refine J_g 62618 [] [(0,pp 0),(2,pp 1),(3,pp 2),(4,iv s60.2.2.2),(5,rr 8 v71.2.2)] [(0,.box (zC.enc false x72.2)),(1,.box [sv ByteArray.empty,iv 0,iv 0,iv 0,iv 0,nv,nv,nv]),(2,.box [sv x2.1,iv (w64 (1+x4.1)),iv 0,iv 0,iv (w64 (1+x6.1)),rr 4 v15.2.2,rr 5 s60.2.2.1,nv]),(4,rE 1 eStr v15.2.2),(5,rE 1 (eSl true 7 Term.enc) s60.2.2.1),(8,rE 7 Term.enc (v71.2.2.set ((0:Int).toNat) x75))] (zD 1 (yG [(.const (.string (bs [109,97,105,108])))] [9] (wT.ok (bs [109,97,105,108])) h76) (zD 2 (zAb (kk:=.i64) 25 85 7 8 Term.enc (.tmp 44) (.const (.int .i64 0)) h78) (zRG 3 (zSm (b:=x75) 85 7 8 0 Term.enc (.ag (Term.enc x75)) (.tmp 46) (.tmp 45) h78 rfl) zB))) ?_
     refine zSo (σ':=St.mk' [(0,pp 0),(2,pp 1),(3,pp 2),(4,iv s60.2.2.2),(5,rr 8 (v71.2.2.set ((0:Int).toNat) x75))] [(0,.box (zC.enc false x72.2)),(1,.box [sv ByteArray.empty,iv 0,iv 0,iv 0,iv 0,nv,nv,nv]),(2,.box [sv x2.1,iv (w64 (1+x4.1)),iv 0,iv 0,iv (w64 (1+x6.1)),rr 4 v15.2.2,rr 5 s60.2.2.1,nv]),(4,rE 1 eStr v15.2.2),(5,rE 1 (eSl true 7 Term.enc) s60.2.2.1),(8,rE 7 Term.enc (v71.2.2.set ((0:Int).toNat) x75))]) (by simp only [rr,List.length_set]) ?_
     exact zN (J_j (jv79 (v71.2.2.set ((0:Int).toNat) x75))) rfl
    ·exact zN (J_j (jv79 v71.2.2)) rfl
  ·refine zG 36 (fun h66=>?_) (fun h66=>?_)
   ·refine zA (fun x67 h68=>?_)
    refine zA (fun x69 h70=>?_)
    refine J_d 31306 [] [5,36] [(5,rr 8 x69)] [0,6,8] [(0,.box (zC.enc false x67.2)),(8,rE 7 Term.enc x69)] (zD 2 (xH («as»:=[pp 0]) [(.tmp 38)] [35] false [(0,.box (zC.enc false x64.2))] [0] (.cons (.pt rfl) (.nil)) (wP.ok x64.2) h68 (.ag (.cons (.same rfl rfl) (.cons (.same rfl rfl) (.cons (.same rfl rfl) (.cons (.same rfl rfl) (.cons (.same rfl rfl) (.cons (.same rfl rfl) (.cons (.same rfl rfl) (.nil)))))))))) (zD 3 (vM 25 85 7 7 Term.enc [x67.1] [0] [(.tmp 39)] [.ag (Term.enc x67.1)]) (zD 4 (zEQ 25 25 85 85 7 64 8 6 7 Term.enc (.tmp 37) (.tmp 40) h70) zB))) ?_
    exact zN (J_j (jv71 (x67.2.Code,x67.2.At,x69))) rfl
   ·refine xV 6 8 (qB rfl) (qB rfl) ?_
    exact zN (J_j (jv71 (x64.2.Code,x64.2.At,[x62.1]))) rfl
 ·exact zN (hk (s60.1,s60.2.1,s60.2.2.1)) rfl
theorem zAE.ok (a1:zC):Ok Tryz.prog 133 [pp 0] [.box (zC.enc false a1)] ((zAE a1).map fun r=>(.ag [sv r.1.Name,iv r.1.Version.A,iv r.1.Version.B,iv r.1.Version.C,iv r.1.Size,so 1 eStr r.1.Provides,so 1 (eSl true 7 Term.enc) r.1.Needs,so 7 Term.enc r.1.Bars],[.box (zC.enc false r.2)])):=by
 refine zJ zP4 Tryz.f133 1 63 (fun q=>?_)
 unfold zAE
 refine J_d 2 [(0,1)] [2] [(2,pp 1)] [1] [(1,.box [sv ByteArray.empty,iv 0,iv 0,iv 0,iv 0,nv,nv,nv])] zB ?_
 refine zA (fun x2 h3=>?_)
 refine zA (fun x4 h5=>?_)
 refine zA (fun x6 h7=>?_)
 refine J_d 6 [(10,2)] [3] [(3,pp 2)] [0,2] [(0,.box (zC.enc false x6.2)),(2,.box [sv x2.1,iv (w64 (1+x4.1)),iv 0,iv 0,iv (w64 (1+x6.1)),nv,nv,nv])] (zD 1 (xH («as»:=[pp 0]) [(.tmp 6)] [35] false [(0,.box (zC.enc false a1))] [0] (.cons (.pt rfl) (.nil)) (wJ.ok a1) h3 (.same rfl rfl)) (zD 3 (xH («as»:=[pp 0,iv 3]) [(.tmp 8),(.const (.int .i64 3))] [35,2] false [(0,.box (zC.enc false x2.2))] [0] (.cons (.pt rfl) (.cons (.same rfl) (.nil))) (zH.ok x2.2 3) h5 (.same rfl rfl)) (zD 7 (xH («as»:=[pp 0,iv 9]) [(.tmp 12),(.const (.int .i64 9))] [35,2] false [(0,.box (zC.enc false x4.2))] [0] (.cons (.pt rfl) (.cons (.same rfl) (.nil))) (zH.ok x4.2 9) h7 (.same rfl rfl)) zB))) ?_
 refine zA (fun x8 h9=>?_)
 refine J_d 28 [] [17] [(17,bv x8.1)] [0] [(0,.box (zC.enc false x8.2))] (zD 1 (xH («as»:=[pp 0,iv 5]) [(.tmp 16),(.const (.int .i64 5))] [35,2] false [(0,.box (zC.enc false x6.2))] [0] (.cons (.pt rfl) (.cons (.same rfl) (.nil))) (zI.ok x6.2 5) h9 (.same rfl rfl)) zB) ?_
 refine zU (atI zP4 15) (fun v15:((List Int)×Int×(List ByteArray))=>St.mk' [(0,pp 0),(2,pp 1),(3,pp 2)] [(0,.box [sl 1 eU8 v15.1,iv v15.2.1]),(1,.box [sv ByteArray.empty,iv 0,iv 0,iv 0,iv 0,nv,nv,nv]),(2,.box [sv x2.1,iv (w64 (1+x4.1)),iv 0,iv 0,iv (w64 (1+x6.1)),rr 4 v15.2.2,nv,nv]),(4,rE 1 eStr v15.2.2)]) (fun v15=>?_) (fun jv15=>?_)
 ·refine zA (fun x16 h17=>?_)
  refine J_d 60 [] [4] [(4,iv x16.1)] [0] [(0,.box (zC.enc false x16.2))] (zD 1 (vM 34 2 1 5 zF [0,0,1,1,2] [0,1,2,3,4] [(.const (.int .i64 0)),(.const (.int .i64 0)),(.const (.int .i64 1)),(.const (.int .i64 1)),(.const (.int .i64 2))] [iv 0,iv 0,iv 1,iv 1,iv 2]) (zD 2 (xH («as»:=[pp 0,rr 5 [0,0,1,1,2]]) [(.tmp 25),(.tmp 26)] [35,34] false [(0,.box [sl 1 eU8 v15.1,iv v15.2.1]),(5,rE 1 zF [0,0,1,1,2])] [0,5] (.cons (.pt rfl) (.cons (.rf rfl) (.nil))) (zT.ok ({Code:=v15.1,At:=v15.2.1}:zC) [0,0,1,1,2]) h17 (.same rfl rfl)) zB)) ?_
  refine zOw 2 6 5 1 rfl rfl (qB rfl) (by kernel_rfl) ?_
  refine zEx (zDB.ok x2 x4 x6 v15 q _ (fun v82=>J_j ?_) (x16.2.Code,x16.2.At,([]:List (List Term)),x16.1))
  refine zA (fun x83 h84=>?_)
  refine J_d 124 [] [54] [(54,bv x83.1)] [0] [(0,.box (zC.enc false x83.2))] (zD 1 (xH («as»:=[pp 0,iv 6]) [(.tmp 53),(.const (.int .i64 6))] [35,2] false [(0,.box [sl 1 eU8 v82.1,iv v82.2.1])] [0] (.cons (.pt rfl) (.cons (.same rfl) (.nil))) (zI.ok ({Code:=v82.1,At:=v82.2.1}:zC) 6) h84 (.same rfl rfl)) zB) ?_
  refine zU (atI zP4 63) (fun v90:((List Int)×Int×(List Term))=>St.mk' [(2,pp 1),(3,pp 2)] [(0,.box [sl 1 eU8 v90.1,iv v90.2.1]),(1,.box [sv ByteArray.empty,iv 0,iv 0,iv 0,iv 0,nv,nv,nv]),(2,.box [sv x2.1,iv (w64 (1+x4.1)),iv 0,iv 0,iv (w64 (1+x6.1)),rr 4 v15.2.2,rr 5 v82.2.2,rr 7 v90.2.2]),(4,rE 1 eStr v15.2.2),(5,rE 1 (eSl true 7 Term.enc) v82.2.2),(7,rE 7 Term.enc v90.2.2)]) (fun v90=>?_) (fun jv90=>?_)
  ·refine J_g 126 [] [(2,pp 1)] [(0,.box [sl 1 eU8 v90.1,iv v90.2.1]),(1,.box [sv x2.1,iv (w64 (1+x4.1)),iv 0,iv 0,iv (w64 (1+x6.1)),rr 4 v15.2.2,rr 5 v82.2.2,rr 7 v90.2.2]),(4,rE 1 eStr v15.2.2),(5,rE 1 (eSl true 7 Term.enc) v82.2.2),(7,rE 7 Term.enc v90.2.2)] zB ?_
   exact zEO (ds:=[.ag [sv x2.1,iv (w64 (1+x4.1)),iv 0,iv 0,iv (w64 (1+x6.1)),rr 4 v15.2.2,rr 5 v82.2.2,rr 7 v90.2.2]]) (ds':=[.ag [sv x2.1,iv (w64 (1+x4.1)),iv 0,iv 0,iv (w64 (1+x6.1)),so 1 eStr v15.2.2,so 1 (eSl true 7 Term.enc) v82.2.2,so 7 Term.enc v90.2.2]]) (.cons (.ag (.keep rfl (.keep rfl (.keep rfl (.keep rfl (.keep rfl (.move (.tail _ (.tail _ (.head _))) (qC _) (by decide) (.move (.tail _ (.tail _ (.tail _ (.head _)))) (qC _) (by decide) (.move (.tail _ (.tail _ (.tail _ (.tail _ (.head _))))) (qC _) (by decide) (.nil)))))))))) (.nil) (by decide)) rfl
  ·refine zG 54 (fun h85=>?_) (fun h85=>?_)
   ·refine zA (fun x86 h87=>?_)
    refine zA (fun x88 h89=>?_)
    refine J_d 250 [] [0,54] [] [0,2,7] [(0,.box (zC.enc false x86.2)),(2,.box [sv x2.1,iv (w64 (1+x4.1)),iv 0,iv 0,iv (w64 (1+x6.1)),rr 4 v15.2.2,rr 5 v82.2.2,rr 7 x88]),(7,rE 7 Term.enc x88)] (zD 3 (xH («as»:=[pp 0]) [(.tmp 57)] [35] false [(0,.box (zC.enc false x83.2))] [0] (.cons (.pt rfl) (.nil)) (wP.ok x83.2) h87 (.ag (.cons (.same rfl rfl) (.cons (.same rfl rfl) (.cons (.same rfl rfl) (.cons (.same rfl rfl) (.cons (.same rfl rfl) (.cons (.same rfl rfl) (.cons (.same rfl rfl) (.nil)))))))))) (zD 4 (vM 25 85 7 6 Term.enc [x86.1] [0] [(.tmp 58)] [.ag (Term.enc x86.1)]) (zD 5 (zSN 25 25 85 85 7 64 7 6 Term.enc (.tmp 56) (.tmp 59) h89) zB))) ?_
    exact zN (J_j (jv90 (x86.2.Code,x86.2.At,x88))) rfl
   ·refine zOw 2 7 6 7 rfl rfl (qB rfl) (by kernel_rfl) ?_
    refine xV 6 7 (qB rfl) (qB rfl) ?_
    exact zN (J_j (jv90 (x83.2.Code,x83.2.At,([]:List Term)))) rfl
 ·refine zG 17 (fun h10=>?_) (fun h10=>?_)
  ·refine zA (fun x11 h12=>?_)
   refine zA (fun x13 h14=>?_)
   refine J_d 58 [] [17] [] [0,2,4] [(0,.box (zC.enc false x11.2)),(2,.box [sv x2.1,iv (w64 (1+x4.1)),iv 0,iv 0,iv (w64 (1+x6.1)),rr 4 [x13],nv,nv]),(4,rE 1 eStr [x13])] (zD 0 (vM 69 9 1 3 eStr [bs [109,97,105,108],bs [100,98]] [0,1] [(.const (.string (bs [109,97,105,108]))),(.const (.string (bs [100,98])))] [sv (bs [109,97,105,108]),sv (bs [100,98])]) (zD 2 (xH («as»:=[pp 0,iv 2]) [(.tmp 19),(.const (.int .i64 2))] [35,2] false [(0,.box (zC.enc false x8.2))] [0] (.cons (.pt rfl) (.cons (.same rfl) (.nil))) (zH.ok x8.2 2) h12 (.same rfl rfl)) (zD 3 (zAb (kk:=.i64) 69 9 1 3 eStr (.tmp 18) (.tmp 20) h14) (zD 4 (zAa (d:=sv x13) 9 1 3 0 eStr (.tmp 21) h14 (by kernel_rfl)) (zD 5 (vM 69 9 1 4 eStr [x13] [0] [(.tmp 22)] [sv x13]) zB))))) ?_
   exact zN (J_j (jv15 (x11.2.Code,x11.2.At,[x13]))) rfl
  ·refine zOw 2 5 3 1 rfl rfl (qB rfl) (by kernel_rfl) ?_
   refine xV 3 4 (qB rfl) (qB rfl) ?_
   exact zN (J_j (jv15 (x8.2.Code,x8.2.At,([]:List ByteArray)))) rfl
def zTh:Code:=cdB Tryz.f163
theorem kY.ok (a1:Int) (a2:Int):Ok Tryz.prog 163 [iv a1,iv a2] [] ((kY a1 a2).map fun r=>(iv r,[])):=by
 refine zJ zTh Tryz.f163 0 11 (fun q=>?_)
 unfold kY
 refine J_g 2 [] [(0,iv a1),(1,iv a2)] [] zB ?_
 refine J_d 12 [] [7] [(7,bv (decide (a1<a2)))] [] [] zB ?_
 refine zG 7 (fun h3=>?_) (fun h3=>?_)
 ·refine J_g 52 [] [(4,iv (-1))] [] zB ?_
  exact yA rfl
 ·refine J_g 28 [] [(10,bv (decide (a1>a2)))] [] zB ?_
  refine zG 10 (fun h4=>?_) (fun h4=>?_)
  ·refine J_g 116 [] [(4,iv 1)] [] zB ?_
   exact yA rfl
  ·refine J_g 30 [] [(4,iv 0)] [] zB ?_
   exact yA rfl
def c124:Code:=cdB Tryz.f124
theorem zW.ok (a1:Version) (a2:Version):Ok Tryz.prog 124 [.ag (Version.enc a1),.ag (Version.enc a2)] [] ((zW a1 a2).map fun r=>(iv r,[])):=by
 refine zJ c124 Tryz.f124 0 28 (fun q=>?_)
 unfold zW
 refine J_g 2 [(0,0),(1,1)] [(2,pp 0),(3,pp 1)] [(0,.box (Version.enc a1)),(1,.box (Version.enc a2))] zB ?_
 refine zA (fun x3 h4=>?_)
 refine J_g 12 [] [(2,pp 0),(3,pp 1),(5,iv x3)] [(0,.box (Version.enc a1)),(1,.box (Version.enc a2))] (zD 4 (yG [(.tmp 8),(.tmp 10)] [2,2] (kY.ok a1.A a2.A) h4) zB) ?_
 refine J_d 26 [] [13] [(13,bv (x3 !=0))] [] [] zB ?_
 refine zG 13 (fun h5=>?_) (fun h5=>?_)
 ·refine J_g 108 [] [(4,iv x3)] [] zB ?_
  exact yA rfl
 ·refine zA (fun x6 h7=>?_)
  refine J_g 28 [] [(2,pp 0),(3,pp 1),(6,iv x6)] [(0,.box (Version.enc a1)),(1,.box (Version.enc a2))] (zD 4 (yG [(.tmp 16),(.tmp 18)] [2,2] (kY.ok a1.B a2.B) h7) zB) ?_
  refine J_d 58 [] [21] [(21,bv (x6 !=0))] [] [] zB ?_
  refine zG 21 (fun h8=>?_) (fun h8=>?_)
  ·refine J_g 236 [] [(4,iv x6)] [] zB ?_
   exact yA rfl
  ·refine zA (fun x9 h10=>?_)
   refine J_g 30 [] [(4,iv x9)] [] (zD 4 (yG [(.tmp 24),(.tmp 26)] [2,2] (kY.ok a1.C a2.C) h10) zB) ?_
   exact yA rfl
def c59:Code:=cdB Tryz.f59
theorem zDC.ok (a1:(List Pack)) (a2:ByteArray) (a3:Version) (q:Wd) (kn:Unit→Option (D×List Ent)) (hk:∀v:Unit,J (q.g Tryz.prog 59 0 32) c59 (atI c59 7) (St.mk' [] []) (some v) kn):
  ∀s14:Int,J (q.g Tryz.prog 59 0 32) c59 (atI c59 52) (St.mk' [(0,sl 8 (Pack.enc false) a1),(1,sv a2),(5,pp 0),(7,iv s14)] [(0,.box (Version.enc a3))]) (zDC a1 a2 a3 s14) (Fl.go (fun r:Int=>some (iv r,[])) kn):=by
 refine uM (fun g ih s14=>?_)
 unfold zCU
 refine J_d 208 [] [11] [(11,bv (decide (s14< (a1.length:Int))))] [] [] zB ?_
 refine zG 11 (fun h15=>?_) (fun h15=>?_)
 ·refine zA (fun x16 h17=>?_)
  refine zU (atI c59 841) (fun v23:Bool=>St.mk' [(0,sl 8 (Pack.enc false) a1),(1,sv a2),(5,pp 0),(7,iv s14),(30,bv v23)] [(0,.box (Version.enc a3))]) (fun v23=>?_) (fun jv23=>?_)
  ·refine zG 30 (fun h24=>?_) (fun h24=>?_)
   ·refine J_g 3364 [] [(6,iv s14)] [] zB ?_
    exact yA rfl
   ·refine J_d 211 [] [7,30] [(7,iv (w64 (s14+1)))] [] [] zB ?_
    exact J_q (J_b (ih (w64 (s14+1)))) rfl
  ·refine xB (fun h18=>?_) (fun h18=>?_)
   ·refine zA (fun x19 h20=>?_)
    refine zA (fun x21 h22=>?_)
    refine J_d 840 [] [11,30] [(30,bv (x21==0))] [] [] (zD 2 (wM (kk:=.i64) 24 89 8 (Pack.enc false) (.tmp 14) (.tmp 15) h17) (yO 7 [(20,bv (seq x16.Name a2))] [] h18 (uD 10 7 21 true (wM (kk:=.i64) 24 89 8 (Pack.enc false) (.tmp 22) (.tmp 23) h20) (uD 14 7 21 true (yG [(.tmp 26),(.tmp 27)] [83,83] (zW.ok x19.Version a3) h22) zB)))) ?_
    exact zN (J_j (jv23 (x21==0))) rfl
   ·refine J_d 840 [] [11,30] [(30,bv false)] [] [] (zD 2 (wM (kk:=.i64) 24 89 8 (Pack.enc false) (.tmp 14) (.tmp 15) h17) (yO 7 [(20,bv (seq x16.Name a2))] [] h18 zB)) ?_
    exact zN (J_j (jv23 false)) rfl
 ·exact zN (hk ()) rfl
theorem uV.ok (a1:(List Pack)) (a2:ByteArray) (a3:Version):Ok Tryz.prog 59 [sl 8 (Pack.enc false) a1,sv a2,.ag (Version.enc a3)] [] ((uV a1 a2 a3).map fun r=>(iv r,[])):=by
 refine zJ c59 Tryz.f59 0 32 (fun q=>?_)
 unfold uV
 refine J_g 2 [(0,0)] [(0,sl 8 (Pack.enc false) a1),(1,sv a2),(5,pp 0)] [(0,.box (Version.enc a3))] zB ?_
 refine J_d 12 [] [7] [(7,iv 0)] [] [] zB ?_
 refine uL (K0:=(fun r:Int=>some (iv r,[]))) (fun _=>rfl) (zDC.ok a1 a2 a3 q _ (fun v25=>J_j ?_) 0)
 refine J_g 14 [] [(6,iv (-1))] [] zB ?_
 exact yA rfl
def c97:Code:=cdB Tryz.f97
theorem wK.ok (a1:zC):Ok Tryz.prog 97 [pp 0] [.box (zC.enc false a1)] ((wK a1).map fun r=>(sv r.1,[.box (zC.enc false r.2)])):=by
 refine zJ c97 Tryz.f97 1 12 (fun q=>?_)
 unfold wK
 refine J_d 2 [] [] [] [] [] zB ?_
 refine zA (fun x2 h3=>?_)
 refine J_g 12 [] [(0,pp 0),(4,bv x2.1)] [(0,.box (zC.enc false x2.2))] (zD 1 (xH («as»:=[pp 0,iv 14]) [(.tmp 3),(.const (.int .i64 14))] [35,2] false [(0,.box (zC.enc false a1))] [0] (.cons (.pt rfl) (.cons (.same rfl) (.nil))) (zI.ok a1 14) h3 (.same rfl rfl)) zB) ?_
 refine zG 4 (fun h4=>?_) (fun h4=>?_)
 ·refine zA (fun x5 h6=>?_)
  refine zA (fun x7 h8=>?_)
  refine J_g 52 [] [(2,sv x7)] [(0,.box (zC.enc false x5.2))] (zD 0 (vM 69 9 1 1 eStr [bs [],bs [49,97],bs [65],bs [97,98,99,100,101,102,103,104,105,106,107,108,109],bs [97,98,99,100,101,102,103,104,105,106,107,108],bs [97,32,98],bs [97,45],bs [95,97],bs [97,95,49]] [0,1,2,3,4,5,6,7,8] [(.const (.string (bs []))),(.const (.string (bs [49,97]))),(.const (.string (bs [65]))),(.const (.string (bs [97,98,99,100,101,102,103,104,105,106,107,108,109]))),(.const (.string (bs [97,98,99,100,101,102,103,104,105,106,107,108]))),(.const (.string (bs [97,32,98]))),(.const (.string (bs [97,45]))),(.const (.string (bs [95,97]))),(.const (.string (bs [97,95,49])))] [sv (bs []),sv (bs [49,97]),sv (bs [65]),sv (bs [97,98,99,100,101,102,103,104,105,106,107,108,109]),sv (bs [97,98,99,100,101,102,103,104,105,106,107,108]),sv (bs [97,32,98]),sv (bs [97,45]),sv (bs [95,97]),sv (bs [97,95,49])]) (zD 2 (xH («as»:=[pp 0,iv 9]) [(.tmp 6),(.const (.int .i64 9))] [35,2] false [(0,.box (zC.enc false x2.2))] [0] (.cons (.pt rfl) (.cons (.same rfl) (.nil))) (zH.ok x2.2 9) h6 (.same rfl rfl)) (zD 3 (zAb (kk:=.i64) 69 9 1 1 eStr (.tmp 5) (.tmp 7) h8) (zD 4 (zAa (d:=sv x7) 9 1 1 0 eStr (.tmp 8) h8 (by kernel_rfl)) zB)))) ?_
  exact yA rfl
 ·refine zA (fun x9 h10=>?_)
  refine J_g 14 [] [(2,sv x9.1)] [(0,.box (zC.enc false x9.2))] (zD 1 (xH («as»:=[pp 0]) [(.tmp 10)] [35] false [(0,.box (zC.enc false x2.2))] [0] (.cons (.pt rfl) (.nil)) (wJ.ok x2.2) h10 (.same rfl rfl)) zB) ?_
  exact yA rfl
def c98:Code:=cdB Tryz.f98
theorem xW.ok (a1:zC):Ok Tryz.prog 98 [pp 0] [.box (zC.enc false a1)] ((xW a1).map fun r=>(.ag (Version.enc r.1),[.box (zC.enc false r.2)])):=by
 refine zJ c98 Tryz.f98 1 27 (fun q=>?_)
 unfold xW
 refine J_d 2 [(0,1)] [2] [(2,pp 1)] [1] [(1,.box [iv 0,iv 0,iv 0])] zB ?_
 refine zA (fun x2 h3=>?_)
 refine J_d 6 [(2,2)] [3] [(3,pp 2)] [0,2] [(0,.box (zC.enc false x2.2)),(2,.box (Version.enc x2.1))] (zD 1 (xH («as»:=[pp 0]) [(.tmp 4)] [35] false [(0,.box (zC.enc false a1))] [0] (.cons (.pt rfl) (.nil)) (vX.ok a1) h3 (.ag (.cons (.same rfl rfl) (.cons (.same rfl rfl) (.cons (.same rfl rfl) (.nil)))))) zB) ?_
 refine zA (fun x4 h5=>?_)
 refine J_g 28 [] [(0,pp 0),(2,pp 1),(3,pp 2),(7,iv x4.1)] [(0,.box (zC.enc false x4.2)),(1,.box [iv 0,iv 0,iv 0]),(2,.box (Version.enc x2.1))] (zD 1 (xH («as»:=[pp 0,iv 14]) [(.tmp 6),(.const (.int .i64 14))] [35,2] false [(0,.box (zC.enc false x2.2))] [0] (.cons (.pt rfl) (.cons (.same rfl) (.nil))) (zH.ok x2.2 14) h5 (.same rfl rfl)) zB) ?_
 refine J_d 116 [] [8] [(8,bv (x4.1==0))] [] [] zB ?_
 refine zU (aft c98 58) (fun v15:((List Int)×Int×Int×Int×Int)=>St.mk' [(2,pp 1),(3,pp 2)] [(0,.box [sl 1 eU8 v15.1,iv v15.2.1]),(1,.box [iv 0,iv 0,iv 0]),(2,.box [iv v15.2.2.1,iv v15.2.2.2.1,iv v15.2.2.2.2])]) (fun v15=>?_) (fun jv15=>?_)
 ·refine J_g 30 [] [(2,pp 1)] [(0,.box [sl 1 eU8 v15.1,iv v15.2.1]),(1,.box [iv v15.2.2.1,iv v15.2.2.2.1,iv v15.2.2.2.2])] zB ?_
  exact yA rfl
 ·refine zG 8 (fun h6=>?_) (fun h6=>?_)
  ·refine zA (fun x7 h8=>?_)
   refine J_d 234 [] [0,7,8] [] [0,2] [(0,.box (zC.enc false x7.2)),(2,.box [iv x7.1,iv x2.1.B,iv x2.1.C])] (zD 1 (vM 34 2 1 3 zF [(-1),999,1000] [0,1,2] [(.const (.int .i64 (-1))),(.const (.int .i64 999)),(.const (.int .i64 1000))] [iv (-1),iv 999,iv 1000]) (zD 2 (xH («as»:=[pp 0,rr 3 [(-1),999,1000]]) [(.tmp 10),(.tmp 11)] [35,34] false [(0,.box (zC.enc false x4.2)),(3,rE 1 zF [(-1),999,1000])] [0,3] (.cons (.pt rfl) (.cons (.rf rfl) (.nil))) (zT.ok x4.2 [(-1),999,1000]) h8 (.same rfl rfl)) zB)) ?_
   exact zN (J_j (jv15 (x7.2.Code,x7.2.At,x7.1,x2.1.B,x2.1.C))) rfl
  ·refine J_d 470 [] [8,14] [(14,bv (x4.1==1))] [] [] zB ?_
   refine zG 14 (fun h9=>?_) (fun h9=>?_)
   ·refine zA (fun x10 h11=>?_)
    refine J_d 942 [] [0,7,14] [] [0,2] [(0,.box (zC.enc false x10.2)),(2,.box [iv x2.1.A,iv x10.1,iv x2.1.C])] (zD 1 (vM 34 2 1 3 zF [(-1),999,1000] [0,1,2] [(.const (.int .i64 (-1))),(.const (.int .i64 999)),(.const (.int .i64 1000))] [iv (-1),iv 999,iv 1000]) (zD 2 (xH («as»:=[pp 0,rr 3 [(-1),999,1000]]) [(.tmp 16),(.tmp 17)] [35,34] false [(0,.box (zC.enc false x4.2)),(3,rE 1 zF [(-1),999,1000])] [0,3] (.cons (.pt rfl) (.cons (.rf rfl) (.nil))) (zT.ok x4.2 [(-1),999,1000]) h11 (.same rfl rfl)) zB)) ?_
    exact zN (J_j (jv15 (x10.2.Code,x10.2.At,x2.1.A,x10.1,x2.1.C))) rfl
   ·refine J_d 1886 [] [7,14,20] [(20,bv (x4.1==2))] [] [] zB ?_
    refine zG 20 (fun h12=>?_) (fun h12=>?_)
    ·refine zA (fun x13 h14=>?_)
     refine J_d 3774 [] [0,20] [] [0,2] [(0,.box (zC.enc false x13.2)),(2,.box [iv x2.1.A,iv x2.1.B,iv x13.1])] (zD 1 (vM 34 2 1 3 zF [(-1),999,1000,4611686018427387904] [0,1,2,3] [(.const (.int .i64 (-1))),(.const (.int .i64 999)),(.const (.int .i64 1000)),(.const (.int .i64 4611686018427387904))] [iv (-1),iv 999,iv 1000,iv 4611686018427387904]) (zD 2 (xH («as»:=[pp 0,rr 3 [(-1),999,1000,4611686018427387904]]) [(.tmp 22),(.tmp 23)] [35,34] false [(0,.box (zC.enc false x4.2)),(3,rE 1 zF [(-1),999,1000,4611686018427387904])] [0,3] (.cons (.pt rfl) (.cons (.rf rfl) (.nil))) (zT.ok x4.2 [(-1),999,1000,4611686018427387904]) h14 (.same rfl rfl)) zB)) ?_
     exact zN (J_j (jv15 (x13.2.Code,x13.2.At,x2.1.A,x2.1.B,x13.1))) rfl
    ·exact zN (J_j (jv15 (x4.2.Code,x4.2.At,x2.1.A,x2.1.B,x2.1.C))) rfl
def c44:Code:=cdB Tryz.f44
theorem wI.ok (a1:zC):Ok Tryz.prog 44 [pp 0] [.box (zC.enc false a1)] ((wI a1).map fun r=>(.ag (Term.enc r.1),[.box (zC.enc false r.2)])):=by
 refine zJ c44 Tryz.f44 1 29 (fun q=>?_)
 unfold wI
 refine J_d 2 [(0,1)] [2] [(2,pp 1)] [1] [(1,.box [sv ByteArray.empty,iv 0,iv 0,iv 0,iv 0,iv 0,iv 0])] zB ?_
 refine zA (fun x2 h3=>?_)
 refine J_d 6 [(2,2)] [3] [(3,pp 2)] [0,2] [(0,.box (zC.enc false x2.2)),(2,.box (Term.enc x2.1))] (zD 1 (xH («as»:=[pp 0]) [(.tmp 4)] [35] false [(0,.box (zC.enc false a1))] [0] (.cons (.pt rfl) (.nil)) (wP.ok a1) h3 (.ag (.cons (.same rfl rfl) (.cons (.same rfl rfl) (.cons (.same rfl rfl) (.cons (.same rfl rfl) (.cons (.same rfl rfl) (.cons (.same rfl rfl) (.cons (.same rfl rfl) (.nil)))))))))) zB) ?_
 refine zA (fun x4 h5=>?_)
 refine J_g 28 [] [(0,pp 0),(2,pp 1),(3,pp 2),(7,iv x4.1)] [(0,.box (zC.enc false x4.2)),(1,.box [sv ByteArray.empty,iv 0,iv 0,iv 0,iv 0,iv 0,iv 0]),(2,.box (Term.enc x2.1))] (zD 1 (xH («as»:=[pp 0,iv 14]) [(.tmp 6),(.const (.int .i64 14))] [35,2] false [(0,.box (zC.enc false x2.2))] [0] (.cons (.pt rfl) (.cons (.same rfl) (.nil))) (zH.ok x2.2 14) h5 (.same rfl rfl)) zB) ?_
 refine J_d 116 [] [8] [(8,bv (x4.1==0))] [] [] zB ?_
 refine zU (aft c44 58) (fun v16:((List Int)×Int×ByteArray×Int×Int×Int×Int×Int×Int)=>St.mk' [(2,pp 1),(3,pp 2)] [(0,.box [sl 1 eU8 v16.1,iv v16.2.1]),(1,.box [sv ByteArray.empty,iv 0,iv 0,iv 0,iv 0,iv 0,iv 0]),(2,.box [sv v16.2.2.1,iv v16.2.2.2.1,iv v16.2.2.2.2.1,iv v16.2.2.2.2.2.1,iv v16.2.2.2.2.2.2.1,iv v16.2.2.2.2.2.2.2.1,iv v16.2.2.2.2.2.2.2.2])]) (fun v16=>?_) (fun jv16=>?_)
 ·refine J_g 30 [] [(2,pp 1)] [(0,.box [sl 1 eU8 v16.1,iv v16.2.1]),(1,.box [sv v16.2.2.1,iv v16.2.2.2.1,iv v16.2.2.2.2.1,iv v16.2.2.2.2.2.1,iv v16.2.2.2.2.2.2.1,iv v16.2.2.2.2.2.2.2.1,iv v16.2.2.2.2.2.2.2.2])] zB ?_
  exact yA rfl
 ·refine zG 8 (fun h6=>?_) (fun h6=>?_)
  ·refine zA (fun x7 h8=>?_)
   refine J_d 234 [] [0,7,8] [] [0,2] [(0,.box (zC.enc false x7.2)),(2,.box [sv x7.1,iv x2.1.Low.A,iv x2.1.Low.B,iv x2.1.Low.C,iv x2.1.High.A,iv x2.1.High.B,iv x2.1.High.C])] (zD 1 (xH («as»:=[pp 0]) [(.tmp 10)] [35] false [(0,.box (zC.enc false x4.2))] [0] (.cons (.pt rfl) (.nil)) (wK.ok x4.2) h8 (.same rfl rfl)) zB) ?_
   exact zN (J_j (jv16 (x7.2.Code,x7.2.At,x7.1,x2.1.Low.A,x2.1.Low.B,x2.1.Low.C,x2.1.High.A,x2.1.High.B,x2.1.High.C))) rfl
  ·refine J_d 470 [] [8,13] [(13,bv (x4.1==1))] [] [] zB ?_
   refine zG 13 (fun h9=>?_) (fun h9=>?_)
   ·refine zA (fun x10 h11=>?_)
    refine J_d 942 [] [0,7,13] [] [0,2] [(0,.box (zC.enc false x10.2)),(2,.box [sv x2.1.Name,iv x10.1.A,iv x10.1.B,iv x10.1.C,iv x2.1.High.A,iv x2.1.High.B,iv x2.1.High.C])] (zD 1 (xH («as»:=[pp 0]) [(.tmp 15)] [35] false [(0,.box (zC.enc false x4.2))] [0] (.cons (.pt rfl) (.nil)) (xW.ok x4.2) h11 (.ag (.cons (.same rfl rfl) (.cons (.same rfl rfl) (.cons (.same rfl rfl) (.nil)))))) zB) ?_
    exact zN (J_j (jv16 (x10.2.Code,x10.2.At,x2.1.Name,x10.1.A,x10.1.B,x10.1.C,x2.1.High.A,x2.1.High.B,x2.1.High.C))) rfl
   ·refine J_d 1886 [] [13,18] [(18,bv (x4.1==2))] [] [] zB ?_
    refine zG 18 (fun h12=>?_) (fun h12=>?_)
    ·refine zA (fun x13 h14=>?_)
     refine J_d 3774 [] [0,7,18] [] [0,2] [(0,.box (zC.enc false x13.2)),(2,.box [sv x2.1.Name,iv x2.1.Low.A,iv x2.1.Low.B,iv x2.1.Low.C,iv x13.1.A,iv x13.1.B,iv x13.1.C])] (zD 1 (xH («as»:=[pp 0]) [(.tmp 20)] [35] false [(0,.box (zC.enc false x4.2))] [0] (.cons (.pt rfl) (.nil)) (xW.ok x4.2) h14 (.ag (.cons (.same rfl rfl) (.cons (.same rfl rfl) (.cons (.same rfl rfl) (.nil)))))) zB) ?_
     exact zN (J_j (jv16 (x13.2.Code,x13.2.At,x2.1.Name,x2.1.Low.A,x2.1.Low.B,x2.1.Low.C,x13.1.A,x13.1.B,x13.1.C))) rfl
    ·refine J_d 7550 [] [0,7,18,23] [(23,bv (x4.1==3))] [] [] zB ?_
     refine zG 23 (fun h15=>?_) (fun h15=>?_)
     ·refine J_d 15102 [] [23] [] [2] [(2,.box [sv x2.1.Name,iv x2.1.Low.A,iv x2.1.Low.B,iv x2.1.Low.C,iv x2.1.Low.A,iv x2.1.Low.B,iv x2.1.Low.C])] zB ?_
      exact zN (J_j (jv16 (x4.2.Code,x4.2.At,x2.1.Name,x2.1.Low.A,x2.1.Low.B,x2.1.Low.C,x2.1.Low.A,x2.1.Low.B,x2.1.Low.C))) rfl
     ·exact zN (J_j (jv16 (x4.2.Code,x4.2.At,x2.1.Name,x2.1.Low.A,x2.1.Low.B,x2.1.Low.C,x2.1.High.A,x2.1.High.B,x2.1.High.C))) rfl
def zST:Code:=cdB Tryz.f134
theorem kS.ok (a1:zC):Ok Tryz.prog 134 [pp 0] [.box (zC.enc false a1)] ((kS a1).map fun r=>(.ag (Pack.enc false r.1),[.box (zC.enc false r.2)])):=by
 refine zJ zST Tryz.f134 1 76 (fun q=>?_)
 unfold kS
 refine J_d 2 [(0,1)] [2] [(2,pp 1)] [1] [(1,.box [sv ByteArray.empty,iv 0,iv 0,iv 0,iv 0,nv,nv,nv])] zB ?_
 refine zA (fun x2 h3=>?_)
 refine J_d 6 [(2,5)] [3] [(3,pp 5)] [0,2,3,4,5] [(0,.box (zC.enc false x2.2)),(2,rE 1 eStr x2.1.Provides),(3,rE 1 (eSl true 7 Term.enc) x2.1.Needs),(4,rE 7 Term.enc x2.1.Bars),(5,.box [sv x2.1.Name,iv x2.1.Version.A,iv x2.1.Version.B,iv x2.1.Version.C,iv x2.1.Size,rr 2 x2.1.Provides,rr 3 x2.1.Needs,rr 4 x2.1.Bars])] (zD 1 (xH («as»:=[pp 0]) [(.tmp 4)] [35] false [(0,.box (zC.enc false a1))] [0] (.cons (.pt rfl) (.nil)) (zAE.ok a1) h3 (.ag (.cons (.same rfl rfl) (.cons (.same rfl rfl) (.cons (.same rfl rfl) (.cons (.same rfl rfl) (.cons (.same rfl rfl) (.cons (.own 2) (.cons (.own 3) (.cons (.own 4) (.nil))))))))))) zB) ?_
 refine zA (fun x4 h5=>?_)
 refine J_g 28 [] [(0,pp 0),(2,pp 1),(3,pp 5),(7,iv x4.1)] [(0,.box (zC.enc false x4.2)),(1,.box [sv ByteArray.empty,iv 0,iv 0,iv 0,iv 0,nv,nv,nv]),(2,rE 1 eStr x2.1.Provides),(3,rE 1 (eSl true 7 Term.enc) x2.1.Needs),(4,rE 7 Term.enc x2.1.Bars),(5,.box [sv x2.1.Name,iv x2.1.Version.A,iv x2.1.Version.B,iv x2.1.Version.C,iv x2.1.Size,rr 2 x2.1.Provides,rr 3 x2.1.Needs,rr 4 x2.1.Bars])] (zD 1 (xH («as»:=[pp 0,iv 24]) [(.tmp 6),(.const (.int .i64 24))] [35,2] false [(0,.box (zC.enc false x2.2))] [0] (.cons (.pt rfl) (.cons (.same rfl) (.nil))) (zH.ok x2.2 24) h5 (.same rfl rfl)) zB) ?_
 refine J_d 116 [] [8] [(8,bv (x4.1==0))] [] [] zB ?_
 refine zU (aft zST 58) (fun v43:((List Int)×Int×ByteArray×Int×Int×Int×Int×(List ByteArray)×(List (List Term))×(List Term))=>St.mk' [(2,pp 1),(3,pp 5)] [(0,.box [sl 1 eU8 v43.1,iv v43.2.1]),(1,.box [sv ByteArray.empty,iv 0,iv 0,iv 0,iv 0,nv,nv,nv]),(2,rE 1 eStr v43.2.2.2.2.2.2.2.1),(3,rE 1 (eSl false 7 Term.enc) v43.2.2.2.2.2.2.2.2.1),(4,rE 7 Term.enc v43.2.2.2.2.2.2.2.2.2),(5,.box [sv v43.2.2.1,iv v43.2.2.2.1,iv v43.2.2.2.2.1,iv v43.2.2.2.2.2.1,iv v43.2.2.2.2.2.2.1,rr 2 v43.2.2.2.2.2.2.2.1,rr 3 v43.2.2.2.2.2.2.2.2.1,rr 4 v43.2.2.2.2.2.2.2.2.2])]) (fun v43=>?_) (fun jv43=>?_)
 ·refine J_g 30 [] [(2,pp 1)] [(0,.box [sl 1 eU8 v43.1,iv v43.2.1]),(1,.box [sv v43.2.2.1,iv v43.2.2.2.1,iv v43.2.2.2.2.1,iv v43.2.2.2.2.2.1,iv v43.2.2.2.2.2.2.1,rr 2 v43.2.2.2.2.2.2.2.1,rr 3 v43.2.2.2.2.2.2.2.2.1,rr 4 v43.2.2.2.2.2.2.2.2.2]),(2,rE 1 eStr v43.2.2.2.2.2.2.2.1),(3,rE 1 (eSl false 7 Term.enc) v43.2.2.2.2.2.2.2.2.1),(4,rE 7 Term.enc v43.2.2.2.2.2.2.2.2.2)] zB ?_
  refine vB [(2,pp 1)] [(2,rE 1 eStr v43.2.2.2.2.2.2.2.1),(0,.box [sl 1 eU8 v43.1,iv v43.2.1]),(1,.box [sv v43.2.2.1,iv v43.2.2.2.1,iv v43.2.2.2.2.1,iv v43.2.2.2.2.2.1,iv v43.2.2.2.2.2.2.1,rr 2 v43.2.2.2.2.2.2.2.1,rr 3 v43.2.2.2.2.2.2.2.2.1,rr 4 v43.2.2.2.2.2.2.2.2.2]),(3,rE 1 (eSl false 7 Term.enc) v43.2.2.2.2.2.2.2.2.1),(4,rE 7 Term.enc v43.2.2.2.2.2.2.2.2.2)] (by kernel_rfl) ?_
  refine zEc 2 (z:=1) (xs:=v43.2.2.2.2.2.2.2.1.map eStr) (tm2:=[(2,pp 1)]) (hp2:=[(0,.box [sl 1 eU8 v43.1,iv v43.2.1]),(1,.box [sv v43.2.2.1,iv v43.2.2.2.1,iv v43.2.2.2.2.1,iv v43.2.2.2.2.2.1,iv v43.2.2.2.2.2.2.1,sl 1 eStr v43.2.2.2.2.2.2.2.1,rr 3 v43.2.2.2.2.2.2.2.2.1,rr 4 v43.2.2.2.2.2.2.2.2.2]),(3,rE 1 (eSl false 7 Term.enc) v43.2.2.2.2.2.2.2.2.1),(4,rE 7 Term.enc v43.2.2.2.2.2.2.2.2.2)]) (.cons (.keep rfl) (.nil)) (.keep rfl (.box rfl (.cons (.keep rfl) (.cons (.keep rfl) (.cons (.keep rfl) (.cons (.keep rfl) (.cons (.keep rfl) (.cons (.rf (by simp) (jG (enc:=eStr) (enc':=eStr) (fun _=>rfl) v43.2.2.2.2.2.2.2.1 rfl rfl)) (.cons (.keep rfl) (.cons (.keep rfl) (.nil))))))))) (.keep rfl (.keep rfl (.nil))))) rfl ?_
  refine vB [(2,pp 1)] [(3,rE 1 (eSl false 7 Term.enc) v43.2.2.2.2.2.2.2.2.1),(0,.box [sl 1 eU8 v43.1,iv v43.2.1]),(1,.box [sv v43.2.2.1,iv v43.2.2.2.1,iv v43.2.2.2.2.1,iv v43.2.2.2.2.2.1,iv v43.2.2.2.2.2.2.1,sl 1 eStr v43.2.2.2.2.2.2.2.1,rr 3 v43.2.2.2.2.2.2.2.2.1,rr 4 v43.2.2.2.2.2.2.2.2.2]),(4,rE 7 Term.enc v43.2.2.2.2.2.2.2.2.2)] (by kernel_rfl) ?_
  refine zEc 3 (z:=1) (xs:=v43.2.2.2.2.2.2.2.2.1.map (eSl false 7 Term.enc)) (tm2:=[(2,pp 1)]) (hp2:=[(0,.box [sl 1 eU8 v43.1,iv v43.2.1]),(1,.box [sv v43.2.2.1,iv v43.2.2.2.1,iv v43.2.2.2.2.1,iv v43.2.2.2.2.2.1,iv v43.2.2.2.2.2.2.1,sl 1 eStr v43.2.2.2.2.2.2.2.1,sl 1 (eSl false 7 Term.enc) v43.2.2.2.2.2.2.2.2.1,rr 4 v43.2.2.2.2.2.2.2.2.2]),(4,rE 7 Term.enc v43.2.2.2.2.2.2.2.2.2)]) (.cons (.keep rfl) (.nil)) (.keep rfl (.box rfl (.cons (.keep rfl) (.cons (.keep rfl) (.cons (.keep rfl) (.cons (.keep rfl) (.cons (.keep rfl) (.cons (.keep rfl) (.cons (.rf (by simp) (jG (enc:=(eSl false 7 Term.enc)) (enc':=(eSl false 7 Term.enc)) (zE7 (fun _=>rfl)) v43.2.2.2.2.2.2.2.2.1 rfl rfl)) (.cons (.keep rfl) (.nil))))))))) (.keep rfl (.nil)))) rfl ?_
  refine vB [(2,pp 1)] [(4,rE 7 Term.enc v43.2.2.2.2.2.2.2.2.2),(0,.box [sl 1 eU8 v43.1,iv v43.2.1]),(1,.box [sv v43.2.2.1,iv v43.2.2.2.1,iv v43.2.2.2.2.1,iv v43.2.2.2.2.2.1,iv v43.2.2.2.2.2.2.1,sl 1 eStr v43.2.2.2.2.2.2.2.1,sl 1 (eSl false 7 Term.enc) v43.2.2.2.2.2.2.2.2.1,rr 4 v43.2.2.2.2.2.2.2.2.2])] (by kernel_rfl) ?_
  refine zEc 4 (z:=7) (xs:=v43.2.2.2.2.2.2.2.2.2.map Term.enc) (tm2:=[(2,pp 1)]) (hp2:=[(0,.box [sl 1 eU8 v43.1,iv v43.2.1]),(1,.box [sv v43.2.2.1,iv v43.2.2.2.1,iv v43.2.2.2.2.1,iv v43.2.2.2.2.2.1,iv v43.2.2.2.2.2.2.1,sl 1 eStr v43.2.2.2.2.2.2.2.1,sl 1 (eSl false 7 Term.enc) v43.2.2.2.2.2.2.2.2.1,sl 7 Term.enc v43.2.2.2.2.2.2.2.2.2])]) (.cons (.keep rfl) (.nil)) (.keep rfl (.box rfl (.cons (.keep rfl) (.cons (.keep rfl) (.cons (.keep rfl) (.cons (.keep rfl) (.cons (.keep rfl) (.cons (.keep rfl) (.cons (.keep rfl) (.cons (.rf (by simp) (jG (enc:=Term.enc) (enc':=Term.enc) (fun _=>rfl) v43.2.2.2.2.2.2.2.2.2 rfl rfl)) (.nil))))))))) (.nil))) rfl ?_
  exact yA rfl
 ·refine zG 8 (fun h6=>?_) (fun h6=>?_)
  ·refine zA (fun x7 h8=>?_)
   refine J_d 234 [] [0,7,8] [] [0,5] [(0,.box (zC.enc false x7.2)),(5,.box [sv x7.1,iv x2.1.Version.A,iv x2.1.Version.B,iv x2.1.Version.C,iv x2.1.Size,rr 2 x2.1.Provides,rr 3 x2.1.Needs,rr 4 x2.1.Bars])] (zD 1 (xH («as»:=[pp 0]) [(.tmp 10)] [35] false [(0,.box (zC.enc false x4.2))] [0] (.cons (.pt rfl) (.nil)) (wK.ok x4.2) h8 (.same rfl rfl)) zB) ?_
   refine vB [(2,pp 1),(3,pp 5)] [(3,rE 1 (eSl true 7 Term.enc) x2.1.Needs),(0,.box (zC.enc false x7.2)),(1,.box [sv ByteArray.empty,iv 0,iv 0,iv 0,iv 0,nv,nv,nv]),(2,rE 1 eStr x2.1.Provides),(4,rE 7 Term.enc x2.1.Bars),(5,.box [sv x7.1,iv x2.1.Version.A,iv x2.1.Version.B,iv x2.1.Version.C,iv x2.1.Size,rr 2 x2.1.Provides,rr 3 x2.1.Needs,rr 4 x2.1.Bars])] (by kernel_rfl) ?_
   refine zFB 3 (tQ (enc:=(eSl true 7 Term.enc)) (enc':=(eSl false 7 Term.enc)) (zE7 (fun _=>rfl)) _) ?_
   refine vB [(2,pp 1),(3,pp 5)] [(0,.box (zC.enc false x7.2)),(1,.box [sv ByteArray.empty,iv 0,iv 0,iv 0,iv 0,nv,nv,nv]),(2,rE 1 eStr x2.1.Provides),(3,rE 1 (eSl false 7 Term.enc) x2.1.Needs),(4,rE 7 Term.enc x2.1.Bars),(5,.box [sv x7.1,iv x2.1.Version.A,iv x2.1.Version.B,iv x2.1.Version.C,iv x2.1.Size,rr 2 x2.1.Provides,rr 3 x2.1.Needs,rr 4 x2.1.Bars])] (by kernel_rfl) ?_
   exact zN (J_j (jv43 (x7.2.Code,x7.2.At,x7.1,x2.1.Version.A,x2.1.Version.B,x2.1.Version.C,x2.1.Size,x2.1.Provides,x2.1.Needs,x2.1.Bars))) rfl
  ·refine J_d 470 [] [8,13] [(13,bv (x4.1==1))] [] [] zB ?_
   refine zG 13 (fun h9=>?_) (fun h9=>?_)
   ·refine zA (fun x10 h11=>?_)
    refine J_d 942 [] [0,7,13] [] [0,5] [(0,.box (zC.enc false x10.2)),(5,.box [sv x2.1.Name,iv x10.1.A,iv x10.1.B,iv x10.1.C,iv x2.1.Size,rr 2 x2.1.Provides,rr 3 x2.1.Needs,rr 4 x2.1.Bars])] (zD 1 (xH («as»:=[pp 0]) [(.tmp 15)] [35] false [(0,.box (zC.enc false x4.2))] [0] (.cons (.pt rfl) (.nil)) (xW.ok x4.2) h11 (.ag (.cons (.same rfl rfl) (.cons (.same rfl rfl) (.cons (.same rfl rfl) (.nil)))))) zB) ?_
    refine vB [(2,pp 1),(3,pp 5)] [(3,rE 1 (eSl true 7 Term.enc) x2.1.Needs),(0,.box (zC.enc false x10.2)),(1,.box [sv ByteArray.empty,iv 0,iv 0,iv 0,iv 0,nv,nv,nv]),(2,rE 1 eStr x2.1.Provides),(4,rE 7 Term.enc x2.1.Bars),(5,.box [sv x2.1.Name,iv x10.1.A,iv x10.1.B,iv x10.1.C,iv x2.1.Size,rr 2 x2.1.Provides,rr 3 x2.1.Needs,rr 4 x2.1.Bars])] (by kernel_rfl) ?_
    refine zFB 3 (tQ (enc:=(eSl true 7 Term.enc)) (enc':=(eSl false 7 Term.enc)) (zE7 (fun _=>rfl)) _) ?_
    refine vB [(2,pp 1),(3,pp 5)] [(0,.box (zC.enc false x10.2)),(1,.box [sv ByteArray.empty,iv 0,iv 0,iv 0,iv 0,nv,nv,nv]),(2,rE 1 eStr x2.1.Provides),(3,rE 1 (eSl false 7 Term.enc) x2.1.Needs),(4,rE 7 Term.enc x2.1.Bars),(5,.box [sv x2.1.Name,iv x10.1.A,iv x10.1.B,iv x10.1.C,iv x2.1.Size,rr 2 x2.1.Provides,rr 3 x2.1.Needs,rr 4 x2.1.Bars])] (by kernel_rfl) ?_
    exact zN (J_j (jv43 (x10.2.Code,x10.2.At,x2.1.Name,x10.1.A,x10.1.B,x10.1.C,x2.1.Size,x2.1.Provides,x2.1.Needs,x2.1.Bars))) rfl
   ·refine J_d 1886 [] [13,18] [(18,bv (x4.1==2))] [] [] zB ?_
    refine zG 18 (fun h12=>?_) (fun h12=>?_)
    ·refine zA (fun x13 h14=>?_)
     refine J_d 3774 [] [0,7,18] [] [0,5] [(0,.box (zC.enc false x13.2)),(5,.box [sv x2.1.Name,iv x2.1.Version.A,iv x2.1.Version.B,iv x2.1.Version.C,iv x13.1,rr 2 x2.1.Provides,rr 3 x2.1.Needs,rr 4 x2.1.Bars])] (zD 1 (vM 34 2 1 6 zF [0,200,201] [0,1,2] [(.const (.int .i64 0)),(.const (.int .i64 200)),(.const (.int .i64 201))] [iv 0,iv 200,iv 201]) (zD 2 (xH («as»:=[pp 0,rr 6 [0,200,201]]) [(.tmp 20),(.tmp 21)] [35,34] false [(0,.box (zC.enc false x4.2)),(6,rE 1 zF [0,200,201])] [0,6] (.cons (.pt rfl) (.cons (.rf rfl) (.nil))) (zT.ok x4.2 [0,200,201]) h14 (.same rfl rfl)) zB)) ?_
     refine vB [(2,pp 1),(3,pp 5)] [(3,rE 1 (eSl true 7 Term.enc) x2.1.Needs),(0,.box (zC.enc false x13.2)),(1,.box [sv ByteArray.empty,iv 0,iv 0,iv 0,iv 0,nv,nv,nv]),(2,rE 1 eStr x2.1.Provides),(4,rE 7 Term.enc x2.1.Bars),(5,.box [sv x2.1.Name,iv x2.1.Version.A,iv x2.1.Version.B,iv x2.1.Version.C,iv x13.1,rr 2 x2.1.Provides,rr 3 x2.1.Needs,rr 4 x2.1.Bars])] (by kernel_rfl) ?_
     refine zFB 3 (tQ (enc:=(eSl true 7 Term.enc)) (enc':=(eSl false 7 Term.enc)) (zE7 (fun _=>rfl)) _) ?_
     refine vB [(2,pp 1),(3,pp 5)] [(0,.box (zC.enc false x13.2)),(1,.box [sv ByteArray.empty,iv 0,iv 0,iv 0,iv 0,nv,nv,nv]),(2,rE 1 eStr x2.1.Provides),(3,rE 1 (eSl false 7 Term.enc) x2.1.Needs),(4,rE 7 Term.enc x2.1.Bars),(5,.box [sv x2.1.Name,iv x2.1.Version.A,iv x2.1.Version.B,iv x2.1.Version.C,iv x13.1,rr 2 x2.1.Provides,rr 3 x2.1.Needs,rr 4 x2.1.Bars])] (by kernel_rfl) ?_
     exact zN (J_j (jv43 (x13.2.Code,x13.2.At,x2.1.Name,x2.1.Version.A,x2.1.Version.B,x2.1.Version.C,x13.1,x2.1.Provides,x2.1.Needs,x2.1.Bars))) rfl
    ·refine J_d 7550 [] [18,24] [(24,bv (x4.1==3))] [] [] zB ?_
     refine zG 24 (fun h15=>?_) (fun h15=>?_)
     ·refine zA (fun x16 h17=>?_)
      refine zA (fun x18 h19=>?_)
      refine J_d 15102 [] [0,7,24] [] [0,2,5,7] [(0,.box (zC.enc false x16.2)),(5,.box [sv x2.1.Name,iv x2.1.Version.A,iv x2.1.Version.B,iv x2.1.Version.C,iv x2.1.Size,rr 7 x18,rr 3 x2.1.Needs,rr 4 x2.1.Bars]),(7,rE 1 eStr x18)] (zD 3 (xH («as»:=[pp 0]) [(.tmp 28)] [35] false [(0,.box (zC.enc false x4.2))] [0] (.cons (.pt rfl) (.nil)) (wK.ok x4.2) h17 (.same rfl rfl)) (zD 6 (vM 69 9 1 6 eStr [x16.1,x2.1.Name] [0,1] [(.tmp 29),(.tmp 31)] [sv x16.1,sv x2.1.Name]) (zD 7 (zEQ 69 69 9 9 1 16 7 2 6 eStr (.tmp 27) (.tmp 32) h19) zB))) ?_
      refine vB [(2,pp 1),(3,pp 5)] [(3,rE 1 (eSl true 7 Term.enc) x2.1.Needs),(0,.box (zC.enc false x16.2)),(1,.box [sv ByteArray.empty,iv 0,iv 0,iv 0,iv 0,nv,nv,nv]),(4,rE 7 Term.enc x2.1.Bars),(5,.box [sv x2.1.Name,iv x2.1.Version.A,iv x2.1.Version.B,iv x2.1.Version.C,iv x2.1.Size,rr 7 x18,rr 3 x2.1.Needs,rr 4 x2.1.Bars]),(7,rE 1 eStr x18)] (by kernel_rfl) ?_
      refine zFB 3 (tQ (enc:=(eSl true 7 Term.enc)) (enc':=(eSl false 7 Term.enc)) (zE7 (fun _=>rfl)) _) ?_
      refine vB [(2,pp 1),(3,pp 5)] [(0,.box (zC.enc false x16.2)),(1,.box [sv ByteArray.empty,iv 0,iv 0,iv 0,iv 0,nv,nv,nv]),(3,rE 1 (eSl false 7 Term.enc) x2.1.Needs),(4,rE 7 Term.enc x2.1.Bars),(5,.box [sv x2.1.Name,iv x2.1.Version.A,iv x2.1.Version.B,iv x2.1.Version.C,iv x2.1.Size,rr 7 x18,rr 3 x2.1.Needs,rr 4 x2.1.Bars]),(7,rE 1 eStr x18)] (by kernel_rfl) ?_
      refine xV 7 2 (qB rfl) (qB rfl) ?_
      exact zN (J_j (jv43 (x16.2.Code,x16.2.At,x2.1.Name,x2.1.Version.A,x2.1.Version.B,x2.1.Version.C,x2.1.Size,x18,x2.1.Needs,x2.1.Bars))) rfl
     ·refine J_d 30206 [] [24,35] [(35,bv (x4.1==4))] [] [] zB ?_
      refine zG 35 (fun h20=>?_) (fun h20=>?_)
      ·refine vB [(0,pp 0),(2,pp 1),(3,pp 5),(7,iv x4.1),(35,bv true)] [(3,rE 1 (eSl true 7 Term.enc) x2.1.Needs),(0,.box (zC.enc false x4.2)),(1,.box [sv ByteArray.empty,iv 0,iv 0,iv 0,iv 0,nv,nv,nv]),(2,rE 1 eStr x2.1.Provides),(4,rE 7 Term.enc x2.1.Bars),(5,.box [sv x2.1.Name,iv x2.1.Version.A,iv x2.1.Version.B,iv x2.1.Version.C,iv x2.1.Size,rr 2 x2.1.Provides,rr 3 x2.1.Needs,rr 4 x2.1.Bars])] (by kernel_rfl) ?_
       refine zFB 3 (tQ (enc:=(eSl true 7 Term.enc)) (enc':=(eSl false 7 Term.enc)) (zE7 (fun _=>rfl)) _) ?_
       refine vB [(0,pp 0),(2,pp 1),(3,pp 5),(7,iv x4.1),(35,bv true)] [(0,.box (zC.enc false x4.2)),(1,.box [sv ByteArray.empty,iv 0,iv 0,iv 0,iv 0,nv,nv,nv]),(2,rE 1 eStr x2.1.Provides),(3,rE 1 (eSl false 7 Term.enc) x2.1.Needs),(4,rE 7 Term.enc x2.1.Bars),(5,.box [sv x2.1.Name,iv x2.1.Version.A,iv x2.1.Version.B,iv x2.1.Version.C,iv x2.1.Size,rr 2 x2.1.Provides,rr 3 x2.1.Needs,rr 4 x2.1.Bars])] (by kernel_rfl) ?_
       refine zA (fun x21 h22=>?_)
       refine J_d 60414 [] [0,7,35] [] [3,5,7] [(5,.box [sv x2.1.Name,iv x2.1.Version.A,iv x2.1.Version.B,iv x2.1.Version.C,iv x2.1.Size,rr 2 x2.1.Provides,rr 7 x21,rr 4 x2.1.Bars]),(7,rE 1 (eSl false 7 Term.enc) x21)] (zD 2 (zPl (ds:=[nv]) (ts:=[]) 87 25 1 6 (eSl false 7 Term.enc) [([]:List Term)] [0] [(.const (.slice none 0 0))] [nv] [] (.nilsl false 7 (.nil))) (zD 3 (zEQ 87 87 25 25 1 24 7 3 6 (eSl false 7 Term.enc) (.tmp 38) (.tmp 39) h22) zB)) ?_
       refine xV 7 3 (qB rfl) (qB rfl) ?_
       exact zN (J_j (jv43 (x4.2.Code,x4.2.At,x2.1.Name,x2.1.Version.A,x2.1.Version.B,x2.1.Version.C,x2.1.Size,x2.1.Provides,x21,x2.1.Bars))) rfl
      ·refine J_d 120830 [] [35,42] [(42,bv (x4.1==5))] [] [] zB ?_
       refine zG 42 (fun h23=>?_) (fun h23=>?_)
       ·refine zA (fun x24 h25=>?_)
        refine zA (fun x26 h27=>?_)
        refine zA (fun x28 h29=>?_)
        refine J_d 241662 [] [0,7,42] [] [0,3,5,8] [(0,.box (zC.enc false x26.2)),(5,.box [sv x2.1.Name,iv x2.1.Version.A,iv x2.1.Version.B,iv x2.1.Version.C,iv x2.1.Size,rr 2 x2.1.Provides,rr 8 x28,rr 4 x2.1.Bars]),(8,rE 1 (eSl true 7 Term.enc) x28)] (zD 3 (xH («as»:=[pp 0]) [(.tmp 46)] [35] false [(0,.box (zC.enc false x4.2))] [0] (.cons (.pt rfl) (.nil)) (wI.ok x4.2) h25 (.ag (.cons (.same rfl rfl) (.cons (.same rfl rfl) (.cons (.same rfl rfl) (.cons (.same rfl rfl) (.cons (.same rfl rfl) (.cons (.same rfl rfl) (.cons (.same rfl rfl) (.nil)))))))))) (zD 5 (xH («as»:=[pp 0]) [(.tmp 48)] [35] false [(0,.box (zC.enc false x24.2))] [0] (.cons (.pt rfl) (.nil)) (wI.ok x24.2) h27 (.ag (.cons (.same rfl rfl) (.cons (.same rfl rfl) (.cons (.same rfl rfl) (.cons (.same rfl rfl) (.cons (.same rfl rfl) (.cons (.same rfl rfl) (.cons (.same rfl rfl) (.nil)))))))))) (zD 6 (vM 25 85 7 6 Term.enc [x24.1,x26.1] [0,1] [(.tmp 47),(.tmp 49)] [.ag (Term.enc x24.1),.ag (Term.enc x26.1)]) (zD 7 (zPl (ds:=[rr 6 [x24.1,x26.1]]) (ts:=[6]) 87 25 1 7 (eSl true 7 Term.enc) [[x24.1,x26.1]] [0] [(.tmp 50)] [rr 6 [x24.1,x26.1]] [(6,rE 7 Term.enc [x24.1,x26.1])] (.move (.head _) (qC _) (by decide) (.nil))) (zD 8 (zEQ 87 87 25 25 1 24 8 3 7 (eSl true 7 Term.enc) (.tmp 45) (.tmp 51) h29) zB))))) ?_
        refine vB [(2,pp 1),(3,pp 5)] [(8,rE 1 (eSl true 7 Term.enc) x28),(0,.box (zC.enc false x26.2)),(1,.box [sv ByteArray.empty,iv 0,iv 0,iv 0,iv 0,nv,nv,nv]),(2,rE 1 eStr x2.1.Provides),(4,rE 7 Term.enc x2.1.Bars),(5,.box [sv x2.1.Name,iv x2.1.Version.A,iv x2.1.Version.B,iv x2.1.Version.C,iv x2.1.Size,rr 2 x2.1.Provides,rr 8 x28,rr 4 x2.1.Bars])] (by kernel_rfl) ?_
        refine zFB 8 (tQ (enc:=(eSl true 7 Term.enc)) (enc':=(eSl false 7 Term.enc)) (zE7 (fun _=>rfl)) _) ?_
        refine vB [(2,pp 1),(3,pp 5)] [(0,.box (zC.enc false x26.2)),(1,.box [sv ByteArray.empty,iv 0,iv 0,iv 0,iv 0,nv,nv,nv]),(2,rE 1 eStr x2.1.Provides),(4,rE 7 Term.enc x2.1.Bars),(5,.box [sv x2.1.Name,iv x2.1.Version.A,iv x2.1.Version.B,iv x2.1.Version.C,iv x2.1.Size,rr 2 x2.1.Provides,rr 8 x28,rr 4 x2.1.Bars]),(8,rE 1 (eSl false 7 Term.enc) x28)] (by kernel_rfl) ?_
        refine xV 8 3 (qB rfl) (qB rfl) ?_
        exact zN (J_j (jv43 (x26.2.Code,x26.2.At,x2.1.Name,x2.1.Version.A,x2.1.Version.B,x2.1.Version.C,x2.1.Size,x2.1.Provides,x28,x2.1.Bars))) rfl
       ·refine J_d 483326 [] [42,54] [(54,bv (x4.1==6))] [] [] zB ?_
        refine zG 54 (fun h30=>?_) (fun h30=>?_)
        ·refine zA (fun x31 h32=>?_)
         refine zA (fun x33 h34=>?_)
         refine J_d 966654 [] [0,7,54] [] [0,4,5,7] [(0,.box (zC.enc false x31.2)),(5,.box [sv x2.1.Name,iv x2.1.Version.A,iv x2.1.Version.B,iv x2.1.Version.C,iv x2.1.Size,rr 2 x2.1.Provides,rr 3 x2.1.Needs,rr 7 x33]),(7,rE 7 Term.enc x33)] (zD 3 (xH («as»:=[pp 0]) [(.tmp 58)] [35] false [(0,.box (zC.enc false x4.2))] [0] (.cons (.pt rfl) (.nil)) (wI.ok x4.2) h32 (.ag (.cons (.same rfl rfl) (.cons (.same rfl rfl) (.cons (.same rfl rfl) (.cons (.same rfl rfl) (.cons (.same rfl rfl) (.cons (.same rfl rfl) (.cons (.same rfl rfl) (.nil)))))))))) (zD 4 (vM 25 85 7 6 Term.enc [x31.1] [0] [(.tmp 59)] [.ag (Term.enc x31.1)]) (zD 5 (zEQ 25 25 85 85 7 64 7 4 6 Term.enc (.tmp 57) (.tmp 60) h34) zB))) ?_
         refine vB [(2,pp 1),(3,pp 5)] [(3,rE 1 (eSl true 7 Term.enc) x2.1.Needs),(0,.box (zC.enc false x31.2)),(1,.box [sv ByteArray.empty,iv 0,iv 0,iv 0,iv 0,nv,nv,nv]),(2,rE 1 eStr x2.1.Provides),(5,.box [sv x2.1.Name,iv x2.1.Version.A,iv x2.1.Version.B,iv x2.1.Version.C,iv x2.1.Size,rr 2 x2.1.Provides,rr 3 x2.1.Needs,rr 7 x33]),(7,rE 7 Term.enc x33)] (by kernel_rfl) ?_
         refine zFB 3 (tQ (enc:=(eSl true 7 Term.enc)) (enc':=(eSl false 7 Term.enc)) (zE7 (fun _=>rfl)) _) ?_
         refine vB [(2,pp 1),(3,pp 5)] [(0,.box (zC.enc false x31.2)),(1,.box [sv ByteArray.empty,iv 0,iv 0,iv 0,iv 0,nv,nv,nv]),(2,rE 1 eStr x2.1.Provides),(3,rE 1 (eSl false 7 Term.enc) x2.1.Needs),(5,.box [sv x2.1.Name,iv x2.1.Version.A,iv x2.1.Version.B,iv x2.1.Version.C,iv x2.1.Size,rr 2 x2.1.Provides,rr 3 x2.1.Needs,rr 7 x33]),(7,rE 7 Term.enc x33)] (by kernel_rfl) ?_
         refine xV 7 4 (qB rfl) (qB rfl) ?_
         exact zN (J_j (jv43 (x31.2.Code,x31.2.At,x2.1.Name,x2.1.Version.A,x2.1.Version.B,x2.1.Version.C,x2.1.Size,x2.1.Provides,x2.1.Needs,x33))) rfl
        ·refine J_d 1933310 [] [0,54,63] [(63,bv (x4.1==7))] [] [] zB ?_
         refine zG 63 (fun h35=>?_) (fun h35=>?_)
         ·refine zA (fun x36 h37=>?_)
          refine J_d 3866622 [] [7,63] [] [4,5,6] [(5,.box [sv x2.1.Name,iv x2.1.Version.A,iv x2.1.Version.B,iv x2.1.Version.C,iv x2.1.Size,rr 2 x2.1.Provides,rr 3 x2.1.Needs,rr 6 x36]),(6,rE 7 Term.enc x36)] (zD 0 (zSg 25 85 7 64 6 Term.enc ({Name:=ByteArray.empty,Low:=({A:=0,B:=0,C:=0}:Version),High:=({A:=0,B:=0,C:=0}:Version)}:Term) (.const (.int .i64 5)) h37 (.keep rfl (.keep rfl (.keep rfl (.keep rfl (.keep rfl (.keep rfl (.keep rfl (.nil))))))))) zB) ?_
          refine vB [(2,pp 1),(3,pp 5)] [(3,rE 1 (eSl true 7 Term.enc) x2.1.Needs),(0,.box (zC.enc false x4.2)),(1,.box [sv ByteArray.empty,iv 0,iv 0,iv 0,iv 0,nv,nv,nv]),(2,rE 1 eStr x2.1.Provides),(5,.box [sv x2.1.Name,iv x2.1.Version.A,iv x2.1.Version.B,iv x2.1.Version.C,iv x2.1.Size,rr 2 x2.1.Provides,rr 3 x2.1.Needs,rr 6 x36]),(6,rE 7 Term.enc x36)] (by kernel_rfl) ?_
          refine zFB 3 (tQ (enc:=(eSl true 7 Term.enc)) (enc':=(eSl false 7 Term.enc)) (zE7 (fun _=>rfl)) _) ?_
          refine vB [(2,pp 1),(3,pp 5)] [(0,.box (zC.enc false x4.2)),(1,.box [sv ByteArray.empty,iv 0,iv 0,iv 0,iv 0,nv,nv,nv]),(2,rE 1 eStr x2.1.Provides),(3,rE 1 (eSl false 7 Term.enc) x2.1.Needs),(5,.box [sv x2.1.Name,iv x2.1.Version.A,iv x2.1.Version.B,iv x2.1.Version.C,iv x2.1.Size,rr 2 x2.1.Provides,rr 3 x2.1.Needs,rr 6 x36]),(6,rE 7 Term.enc x36)] (by kernel_rfl) ?_
          refine xV 6 4 (qB rfl) (qB rfl) ?_
          exact zN (J_j (jv43 (x4.2.Code,x4.2.At,x2.1.Name,x2.1.Version.A,x2.1.Version.B,x2.1.Version.C,x2.1.Size,x2.1.Provides,x2.1.Needs,x36))) rfl
         ·refine J_d 7733246 [] [7,63,67] [(67,bv (x4.1==8))] [] [] zB ?_
          refine zG 67 (fun h38=>?_) (fun h38=>?_)
          ·refine zA (fun x39 h40=>?_)
           refine zA (fun x41 h42=>?_)
           refine J_d 15466494 [] [67] [] [3,5,8] [(5,.box [sv x2.1.Name,iv x2.1.Version.A,iv x2.1.Version.B,iv x2.1.Version.C,iv x2.1.Size,rr 2 x2.1.Provides,rr 8 x41,rr 4 x2.1.Bars]),(8,rE 1 (eSl true 7 Term.enc) x41)] (zD 2 (zSg 25 85 7 64 6 Term.enc ({Name:=ByteArray.empty,Low:=({A:=0,B:=0,C:=0}:Version),High:=({A:=0,B:=0,C:=0}:Version)}:Term) (.const (.int .i64 5)) h40 (.keep rfl (.keep rfl (.keep rfl (.keep rfl (.keep rfl (.keep rfl (.keep rfl (.nil))))))))) (zD 3 (zPl (ds:=[rr 6 x39]) (ts:=[6]) 87 25 1 7 (eSl true 7 Term.enc) [x39] [0] [(.tmp 71)] [rr 6 x39] [(6,rE 7 Term.enc x39)] (.move (.head _) (qC _) (by decide) (.nil))) (zD 4 (zEQ 87 87 25 25 1 24 8 3 7 (eSl true 7 Term.enc) (.tmp 70) (.tmp 72) h42) zB))) ?_
           refine vB [(2,pp 1),(3,pp 5)] [(8,rE 1 (eSl true 7 Term.enc) x41),(0,.box (zC.enc false x4.2)),(1,.box [sv ByteArray.empty,iv 0,iv 0,iv 0,iv 0,nv,nv,nv]),(2,rE 1 eStr x2.1.Provides),(4,rE 7 Term.enc x2.1.Bars),(5,.box [sv x2.1.Name,iv x2.1.Version.A,iv x2.1.Version.B,iv x2.1.Version.C,iv x2.1.Size,rr 2 x2.1.Provides,rr 8 x41,rr 4 x2.1.Bars])] (by kernel_rfl) ?_
           refine zFB 8 (tQ (enc:=(eSl true 7 Term.enc)) (enc':=(eSl false 7 Term.enc)) (zE7 (fun _=>rfl)) _) ?_
           refine vB [(2,pp 1),(3,pp 5)] [(0,.box (zC.enc false x4.2)),(1,.box [sv ByteArray.empty,iv 0,iv 0,iv 0,iv 0,nv,nv,nv]),(2,rE 1 eStr x2.1.Provides),(4,rE 7 Term.enc x2.1.Bars),(5,.box [sv x2.1.Name,iv x2.1.Version.A,iv x2.1.Version.B,iv x2.1.Version.C,iv x2.1.Size,rr 2 x2.1.Provides,rr 8 x41,rr 4 x2.1.Bars]),(8,rE 1 (eSl false 7 Term.enc) x41)] (by kernel_rfl) ?_
           refine xV 8 3 (qB rfl) (qB rfl) ?_
           exact zN (J_j (jv43 (x4.2.Code,x4.2.At,x2.1.Name,x2.1.Version.A,x2.1.Version.B,x2.1.Version.C,x2.1.Size,x2.1.Provides,x41,x2.1.Bars))) rfl
          ·refine vB [(2,pp 1),(3,pp 5),(67,bv false)] [(3,rE 1 (eSl true 7 Term.enc) x2.1.Needs),(0,.box (zC.enc false x4.2)),(1,.box [sv ByteArray.empty,iv 0,iv 0,iv 0,iv 0,nv,nv,nv]),(2,rE 1 eStr x2.1.Provides),(4,rE 7 Term.enc x2.1.Bars),(5,.box [sv x2.1.Name,iv x2.1.Version.A,iv x2.1.Version.B,iv x2.1.Version.C,iv x2.1.Size,rr 2 x2.1.Provides,rr 3 x2.1.Needs,rr 4 x2.1.Bars])] (by kernel_rfl) ?_
           refine zFB 3 (tQ (enc:=(eSl true 7 Term.enc)) (enc':=(eSl false 7 Term.enc)) (zE7 (fun _=>rfl)) _) ?_
           refine vB [(2,pp 1),(3,pp 5),(67,bv false)] [(0,.box (zC.enc false x4.2)),(1,.box [sv ByteArray.empty,iv 0,iv 0,iv 0,iv 0,nv,nv,nv]),(2,rE 1 eStr x2.1.Provides),(3,rE 1 (eSl false 7 Term.enc) x2.1.Needs),(4,rE 7 Term.enc x2.1.Bars),(5,.box [sv x2.1.Name,iv x2.1.Version.A,iv x2.1.Version.B,iv x2.1.Version.C,iv x2.1.Size,rr 2 x2.1.Provides,rr 3 x2.1.Needs,rr 4 x2.1.Bars])] (by kernel_rfl) ?_
           exact zN (J_j (jv43 (x4.2.Code,x4.2.At,x2.1.Name,x2.1.Version.A,x2.1.Version.B,x2.1.Version.C,x2.1.Size,x2.1.Provides,x2.1.Needs,x2.1.Bars))) rfl
def c68:Code:=cdB Tryz.f68
theorem zBn.ok (q:Wd) (kn:((List Int)×Int×(List Pack))→Option (D×List Ent)) (hk:∀v:((List Int)×Int×(List Pack)),J (q.g Tryz.prog 68 1 53) c68 (atI c68 15) (St.mk' [(0,pp 0),(3,rr 1 v.2.2)] [(0,.box [sl 1 eU8 v.1,iv v.2.1]),(1,rE 8 (Pack.enc true) v.2.2)]) (some v) kn):
  ∀s15:((List Int)×Int×(List Pack)×Int),J (q.g Tryz.prog 68 1 53) c68 (atI c68 116) (St.mk' [(0,pp 0),(3,rr 1 s15.2.2.1),(4,iv s15.2.2.2)] [(0,.box [sl 1 eU8 s15.1,iv s15.2.1]),(1,rE 8 (Pack.enc true) s15.2.2.1)]) (zBn s15) kn:=by
 refine uM (fun g ih s15=>?_)
 unfold zAo
 refine J_d 464 [] [13] [(13,bv (decide (s15.2.2.2>0)))] [] [] zB ?_
 refine zG 13 (fun h16=>?_) (fun h16=>?_)
 ·refine zA (fun x17 h18=>?_)
  refine J_d 1864 [(2,5)] [5,13] [(5,pp 5)] [0,2,3,4,5] [(0,.box (zC.enc false x17.2)),(2,rE 1 eStr x17.1.Provides),(3,rE 1 (eSl true 7 Term.enc) x17.1.Needs),(4,rE 7 Term.enc x17.1.Bars),(5,.box [sv x17.1.Name,iv x17.1.Version.A,iv x17.1.Version.B,iv x17.1.Version.C,iv x17.1.Size,rr 2 x17.1.Provides,rr 3 x17.1.Needs,rr 4 x17.1.Bars])] (zD 1 (xH («as»:=[pp 0]) [(.tmp 16)] [35] false [(0,.box [sl 1 eU8 s15.1,iv s15.2.1])] [0] (.cons (.pt rfl) (.nil)) (zAE.ok ({Code:=s15.1,At:=s15.2.1}:zC)) h18 (.ag (.cons (.same rfl rfl) (.cons (.same rfl rfl) (.cons (.same rfl rfl) (.cons (.same rfl rfl) (.cons (.same rfl rfl) (.cons (.own 2) (.cons (.own 3) (.cons (.own 4) (.nil))))))))))) zB) ?_
  refine zA (fun x19 h20=>?_)
  refine J_d 3730 [] [24] [(24,bv (decide (x19<0)))] [] [] (zD 5 (xH («as»:=[rr 1 s15.2.2.1,sv x17.1.Name,.ag (Version.enc x17.1.Version)]) [(.tmp 18),(.tmp 20),(.tmp 22)] [24,9,83] true [(1,rE 8 (Pack.enc true) s15.2.2.1)] [] (.cons (zFJ (.head _) (Pack.ro true) rfl) (.cons (.same rfl) (.cons (.same rfl) (.nil)))) (uV.ok s15.2.2.1 x17.1.Name x17.1.Version) h20 (.same rfl rfl) (hbor:=fun _=>⟨fhN,wV⟩)) zB) ?_
  refine zU (aft c68 932) (fun v24:(List Pack)=>St.mk' [(0,pp 0),(3,rr 7 v24),(4,iv s15.2.2.2)] [(0,.box (zC.enc false x17.2)),(7,rE 8 (Pack.enc true) v24)]) (fun v24=>?_) (fun jv24=>?_)
  ·refine J_d 467 [] [4] [(4,iv (w64 (s15.2.2.2-1)))] [] [] zB ?_
   refine xV 7 1 (qB rfl) (qB rfl) ?_
   exact J_q (J_b (ih (x17.2.Code,x17.2.At,v24,w64 (s15.2.2.2-1)))) rfl
  ·refine zG 24 (fun h21=>?_) (fun h21=>?_)
   ·refine zA (fun x22 h23=>?_)
    refine J_d 7462 [] [3,5,24] [(3,rr 7 x22)] [1,2,3,4,5,7] [(7,rE 8 (Pack.enc true) x22)] (zD 2 (zPl (ds:=[sv x17.1.Name,iv x17.1.Version.A,iv x17.1.Version.B,iv x17.1.Version.C,iv x17.1.Size,rr 2 x17.1.Provides,rr 3 x17.1.Needs,rr 4 x17.1.Bars]) (ts:=[2,3,4]) 24 89 8 6 (Pack.enc true) [x17.1] [0] [(.tmp 26)] [.ag [sv x17.1.Name,iv x17.1.Version.A,iv x17.1.Version.B,iv x17.1.Version.C,iv x17.1.Size,rr 2 x17.1.Provides,rr 3 x17.1.Needs,rr 4 x17.1.Bars]] [(2,rE 1 eStr x17.1.Provides),(3,rE 1 (eSl true 7 Term.enc) x17.1.Needs),(4,rE 7 Term.enc x17.1.Bars)] (.keep rfl (.keep rfl (.keep rfl (.keep rfl (.keep rfl (.move (.head _) (qC _) (by decide) (.move (.tail _ (.head _)) (qC _) (by decide) (.move (.tail _ (.tail _ (.head _))) (qC _) (by decide) (.nil)))))))))) (zD 3 (zEQ 24 24 89 89 8 120 7 1 6 (Pack.enc true) (.tmp 25) (.tmp 27) h23) zB)) ?_
    exact zN (J_j (jv24 x22)) rfl
   ·refine xV 1 7 (qB rfl) (qB rfl) ?_
    exact zN (J_j (jv24 s15.2.2.1)) rfl
 ·exact zN (hk (s15.1,s15.2.1,s15.2.2.1)) rfl
theorem zAN.ok (a1:zC):Ok Tryz.prog 68 [pp 0] [.box (zC.enc false a1)] ((zAN a1).map fun r=>(sl 8 (Pack.enc false) r.1,[.box (zC.enc false r.2)])):=by
 refine zJ c68 Tryz.f68 1 53 (fun q=>?_)
 unfold zAN
 refine J_g 2 [] [(0,pp 0)] [(0,.box (zC.enc false a1))] zB ?_
 refine J_d 6 [] [3] [(3,rr 1 ([]:List Pack))] [1] [(1,rE 8 (Pack.enc false) ([]:List Pack))] (zD 0 (vM 24 89 8 1 (Pack.enc false) ([]:List Pack) [] [] []) zB) ?_
 refine zA (fun x2 h3=>?_)
 refine zA (fun x4 h5=>?_)
 refine J_d 28 [] [4] [(4,iv x4.1)] [0] [(0,.box (zC.enc false x4.2))] (zD 2 (xH («as»:=[pp 0,iv 12]) [(.tmp 8),(.const (.int .i64 12))] [35,2] false [(0,.box (zC.enc false a1))] [0] (.cons (.pt rfl) (.cons (.same rfl) (.nil))) (zH.ok a1 12) h3 (.same rfl rfl)) (zD 3 (vM 34 2 1 2 zF [3,4,5,6,7,8,x2.1] [0,1,2,3,4,5,6] [(.const (.int .i64 3)),(.const (.int .i64 4)),(.const (.int .i64 5)),(.const (.int .i64 6)),(.const (.int .i64 7)),(.const (.int .i64 8)),(.tmp 9)] [iv 3,iv 4,iv 5,iv 6,iv 7,iv 8,iv x2.1]) (zD 4 (xH («as»:=[pp 0,rr 2 [3,4,5,6,7,8,x2.1]]) [(.tmp 7),(.tmp 10)] [35,34] false [(0,.box (zC.enc false x2.2)),(2,rE 1 zF [3,4,5,6,7,8,x2.1])] [0,2] (.cons (.pt rfl) (.cons (.rf rfl) (.nil))) (zT.ok x2.2 [3,4,5,6,7,8,x2.1]) h5 (.same rfl rfl)) zB))) ?_
 refine zEx (zBn.ok q _ (fun v25=>J_j ?_) (x4.2.Code,x4.2.At,([]:List Pack),x4.1))
 refine zA (fun x26 h27=>?_)
 refine J_g 60 [] [(0,pp 0),(3,rr 1 v25.2.2),(30,iv x26.1)] [(0,.box (zC.enc false x26.2)),(1,rE 8 (Pack.enc true) v25.2.2)] (zD 1 (xH («as»:=[pp 0,iv 40]) [(.tmp 29),(.const (.int .i64 40))] [35,2] false [(0,.box [sl 1 eU8 v25.1,iv v25.2.1])] [0] (.cons (.pt rfl) (.cons (.same rfl) (.nil))) (zH.ok ({Code:=v25.1,At:=v25.2.1}:zC) 40) h27 (.same rfl rfl)) zB) ?_
 refine J_d 244 [] [31] [(31,bv (x26.1==0))] [] [] zB ?_
 refine zU (aft c68 122) (fun v42:((List Int)×Int×(List Pack))=>St.mk' [(3,rr 3 v42.2.2)] [(0,.box [sl 1 eU8 v42.1,iv v42.2.1]),(3,rE 8 (Pack.enc false) v42.2.2)]) (fun v42=>?_) (fun jv42=>?_)
 ·refine J_g 62 [] [(2,rr 3 v42.2.2)] [(0,.box [sl 1 eU8 v42.1,iv v42.2.1]),(3,rE 8 (Pack.enc false) v42.2.2)] zB ?_
  refine vB [(2,rr 3 v42.2.2)] [(3,rE 8 (Pack.enc false) v42.2.2),(0,.box [sl 1 eU8 v42.1,iv v42.2.1])] (by kernel_rfl) ?_
  refine zEc 3 (z:=8) (xs:=v42.2.2.map (Pack.enc false)) (tm2:=[(2,sl 8 (Pack.enc false) v42.2.2)]) (hp2:=[(0,.box [sl 1 eU8 v42.1,iv v42.2.1])]) (.cons (.rf (by simp) (jG (enc:=(Pack.enc false)) (enc':=(Pack.enc false)) (Pack.ro false) v42.2.2 rfl rfl)) (.nil)) (.keep rfl (.nil)) rfl ?_
  exact yA rfl
 ·refine zG 31 (fun h28=>?_) (fun h28=>?_)
  ·refine zA (fun x29 h30=>?_)
   refine vB [(0,pp 0),(3,rr 1 v25.2.2),(30,iv x26.1),(31,bv true)] [(1,rE 8 (Pack.enc true) v25.2.2),(0,.box (zC.enc false x26.2))] (by kernel_rfl) ?_
   refine zFB 1 (tQ (enc:=(Pack.enc true)) (enc':=(Pack.enc false)) (Pack.ro true) _) ?_
   refine vB [(0,pp 0),(3,rr 1 v25.2.2),(30,iv x26.1),(31,bv true)] [(0,.box (zC.enc false x26.2)),(1,rE 8 (Pack.enc false) v25.2.2)] (by kernel_rfl) ?_
   refine zA (fun x31 h32=>?_)
   refine J_g 490 [] [(3,rr 3 x31)] [(0,.box (zC.enc false x29.2)),(3,rE 8 (Pack.enc false) x31)] (zD 2 (xH («as»:=[pp 0]) [(.tmp 34)] [35] false [(0,.box (zC.enc false x26.2))] [0] (.cons (.pt rfl) (.nil)) (kS.ok x26.2) h30 (.ag (.cons (.same rfl rfl) (.cons (.same rfl rfl) (.cons (.same rfl rfl) (.cons (.same rfl rfl) (.cons (.same rfl rfl) (.cons (.same rfl rfl) (.cons (.same rfl rfl) (.cons (.same rfl rfl) (.nil))))))))))) (zD 3 (vM 24 89 8 2 (Pack.enc false) [x29.1] [0] [(.tmp 35)] [.ag (Pack.enc false x29.1)]) (zD 4 (zEQ 24 24 89 89 8 120 3 1 2 (Pack.enc false) (.tmp 33) (.tmp 36) h32) zB))) ?_
   exact zN (J_j (jv42 (x29.2.Code,x29.2.At,x31))) rfl
  ·refine J_d 982 [] [0,31,38] [(38,bv (x26.1==1))] [] [] zB ?_
   refine zG 38 (fun h33=>?_) (fun h33=>?_)
   ·refine J_d 3932 [] [30,38,42] [(42,bv (decide ((v25.2.2.length:Int)>0)))] [] [] zB ?_
    refine zG 42 (fun h34=>?_) (fun h34=>?_)
    ·refine zA (fun x35 h36=>?_)
     refine vB [(3,rr 1 v25.2.2),(42,bv true)] [(1,rE 8 (Pack.enc true) v25.2.2),(0,.box (zC.enc false x26.2))] (by kernel_rfl) ?_
     refine zFB 1 (tQ (enc:=(Pack.enc true)) (enc':=(Pack.enc false)) (Pack.ro true) _) ?_
     refine vB [(3,rr 1 v25.2.2),(42,bv true)] [(0,.box (zC.enc false x26.2)),(1,rE 8 (Pack.enc false) v25.2.2)] (by kernel_rfl) ?_
     refine zA (fun x37 h38=>?_)
     refine J_d 7866 [] [3,42] [(3,rr 3 x37)] [1,3] [(3,rE 8 (Pack.enc false) x37)] (zD 2 (zAb (kk:=.i64) 24 89 8 1 (Pack.enc false) (.tmp 44) (.const (.int .i64 0)) h36) (zD 3 (zAa (d:=.ag (Pack.enc false x35)) 89 8 1 0 (Pack.enc false) (.tmp 45) h36 (by kernel_rfl)) (zD 4 (vM 24 89 8 2 (Pack.enc false) [x35] [0] [(.tmp 46)] [.ag (Pack.enc false x35)]) (zD 5 (zEQ 24 24 89 89 8 120 3 1 2 (Pack.enc false) (.tmp 43) (.tmp 47) h38) zB)))) ?_
     exact zN (J_j (jv42 (x26.2.Code,x26.2.At,x37))) rfl
    ·refine vB [(3,rr 1 v25.2.2),(42,bv false)] [(1,rE 8 (Pack.enc true) v25.2.2),(0,.box (zC.enc false x26.2))] (by kernel_rfl) ?_
     refine zFB 1 (tQ (enc:=(Pack.enc true)) (enc':=(Pack.enc false)) (Pack.ro true) _) ?_
     refine vB [(3,rr 1 v25.2.2),(42,bv false)] [(0,.box (zC.enc false x26.2)),(1,rE 8 (Pack.enc false) v25.2.2)] (by kernel_rfl) ?_
     refine xV 1 3 (qB rfl) (qB rfl) ?_
     exact zN (J_j (jv42 (x26.2.Code,x26.2.At,v25.2.2))) rfl
   ·refine J_d 3934 [] [30,38,49] [(49,bv (x26.1==2))] [] [] zB ?_
    refine zG 49 (fun h39=>?_) (fun h39=>?_)
    ·refine zA (fun x40 h41=>?_)
     refine J_d 7870 [] [3,49] [(3,rr 2 x40)] [1,2] [(2,rE 8 (Pack.enc true) x40)] (zD 0 (zSg 24 89 8 120 2 (Pack.enc true) ({Name:=ByteArray.empty,Version:=({A:=0,B:=0,C:=0}:Version),Size:=0,Provides:=([]:List ByteArray),Needs:=([]:List (List Term)),Bars:=([]:List Term)}:Pack) (.const (.int .i64 25)) h41 (.keep rfl (.keep rfl (.keep rfl (.keep rfl (.keep rfl (.nilsl true 1 (.nilsl true 1 (.nilsl true 7 (.nil)))))))))) zB) ?_
     refine vB [(3,rr 2 x40)] [(2,rE 8 (Pack.enc true) x40),(0,.box (zC.enc false x26.2))] (by kernel_rfl) ?_
     refine zFB 2 (tQ (enc:=(Pack.enc true)) (enc':=(Pack.enc false)) (Pack.ro true) _) ?_
     refine vB [(3,rr 2 x40)] [(0,.box (zC.enc false x26.2)),(2,rE 8 (Pack.enc false) x40)] (by kernel_rfl) ?_
     refine xV 2 3 (qB rfl) (qB rfl) ?_
     exact zN (J_j (jv42 (x26.2.Code,x26.2.At,x40))) rfl
    ·refine vB [(3,rr 1 v25.2.2),(49,bv false)] [(1,rE 8 (Pack.enc true) v25.2.2),(0,.box (zC.enc false x26.2))] (by kernel_rfl) ?_
     refine zFB 1 (tQ (enc:=(Pack.enc true)) (enc':=(Pack.enc false)) (Pack.ro true) _) ?_
     refine vB [(3,rr 1 v25.2.2),(49,bv false)] [(0,.box (zC.enc false x26.2)),(1,rE 8 (Pack.enc false) v25.2.2)] (by kernel_rfl) ?_
     refine xV 1 3 (qB rfl) (qB rfl) ?_
     exact zN (J_j (jv42 (x26.2.Code,x26.2.At,v25.2.2))) rfl
def zTk:Code:=cdB Tryz.f161
theorem vL.ok (a1:Int):Ok Tryz.prog 161 [uv a1] [] ((vL a1).map fun r=>(bv r,[])):=by
 refine zJ zTk Tryz.f161 0 9 (fun q=>?_)
 unfold vL
 refine J_g 2 [] [(0,uv a1)] [] zB ?_
 refine xB (fun h2=>?_) (fun h2=>?_)
 ·refine J_g 6 [] [(2,bv (decide (a1≤122)))] [] (yO 2 [(4,bv (decide (a1≥97)))] [] h2 zB) ?_
  exact yA rfl
 ·refine J_g 6 [] [(2,bv false)] [] (yO 2 [(4,bv (decide (a1≥97)))] [] h2 zB) ?_
  exact yA rfl
def zTw:Code:=cdB Tryz.f166
theorem vO.ok (a1:Int):Ok Tryz.prog 166 [uv a1] [] ((vO a1).map fun r=>(bv r,[])):=by
 refine zJ zTw Tryz.f166 0 9 (fun q=>?_)
 unfold vO
 refine J_g 2 [] [(0,uv a1)] [] zB ?_
 refine xB (fun h2=>?_) (fun h2=>?_)
 ·refine J_g 6 [] [(2,bv (decide (a1≤57)))] [] (yO 2 [(4,bv (decide (a1≥48)))] [] h2 zB) ?_
  exact yA rfl
 ·refine J_g 6 [] [(2,bv false)] [] (yO 2 [(4,bv (decide (a1≥48)))] [] h2 zB) ?_
  exact yA rfl
def c162:Code:=cdB Tryz.f162
theorem vE.ok (a1:Int):Ok Tryz.prog 162 [uv a1] [] ((vE a1).map fun r=>(bv r,[])):=by
 refine zJ c162 Tryz.f162 0 13 (fun q=>?_)
 unfold vE
 refine J_g 2 [] [(0,uv a1)] [] zB ?_
 refine zA (fun x2 h3=>?_)
 refine xB (fun h4=>?_) (fun h4=>?_)
 ·refine J_g 6 [] [(2,bv true)] [] (zD 1 (yG [(.tmp 3)] [5] (vL.ok a1) h3) (yO 2 [(4,bv x2)] [] h4 zB)) ?_
  exact yA rfl
 ·refine zA (fun x5 h6=>?_)
  refine xB (fun h7=>?_) (fun h7=>?_)
  ·refine J_g 6 [] [(2,bv true)] [] (zD 1 (yG [(.tmp 3)] [5] (vL.ok a1) h3) (yO 2 [(4,bv x2)] [] h4 (uD 4 2 5 false (yG [(.tmp 6)] [5] (vO.ok a1) h6) (yO 6 [(8,bv x5)] [] h7 zB)))) ?_
   exact yA rfl
  ·refine J_g 6 [] [(2,bv (a1==95))] [] (zD 1 (yG [(.tmp 3)] [5] (vL.ok a1) h3) (yO 2 [(4,bv x2)] [] h4 (uD 4 2 5 false (yG [(.tmp 6)] [5] (vO.ok a1) h6) (yO 6 [(8,bv x5)] [] h7 zB)))) ?_
   exact yA rfl
def zRt:Code:=cdB Tryz.f122
theorem kG.ok (a1:ByteArray) (q:Wd) (kn:Unit→Option (D×List Ent)) (hk:∀v:Unit,J (q.g Tryz.prog 122 0 29) zRt (atI zRt 15) (St.mk' [] []) (some v) kn):
  ∀s16:Int,J (q.g Tryz.prog 122 0 29) zRt (atI zRt 116) (St.mk' [(0,sv a1),(3,iv s16)] []) (kG a1 s16) (Fl.go (fun r:Int=>some (iv r,[])) kn):=by
 refine uM (fun g ih s16=>?_)
 unfold zCu
 refine J_d 464 [] [21] [(21,bv (decide (s16< (a1.size:Int))))] [] [] zB ?_
 refine zG 21 (fun h17=>?_) (fun h17=>?_)
 ·refine zA (fun x18 h19=>?_)
  refine zA (fun x20 h21=>?_)
  refine J_d 1864 [] [21,28] [(28,bv (!x20))] [] [] (zD 2 (zKZ (kk:=.i64) 9 (.tmp 24) (.tmp 25) h19) (zD 3 (yG [(.tmp 26)] [5] (vE.ok x18) h21) zB)) ?_
  refine zG 28 (fun h22=>?_) (fun h22=>?_)
  ·refine J_g 7460 [] [(2,iv 5)] [] zB ?_
   exact yA rfl
  ·refine J_g 467 [] [(0,sv a1),(3,iv (w64 (s16+1)))] [] zB ?_
   exact J_q (J_b (ih (w64 (s16+1)))) rfl
 ·exact zN (hk ()) rfl
theorem wS.ok (a1:ByteArray):Ok Tryz.prog 122 [sv a1] [] ((wS a1).map fun r=>(iv r,[])):=by
 refine zJ zRt Tryz.f122 0 29 (fun q=>?_)
 unfold wS
 refine J_g 2 [] [(0,sv a1)] [] zB ?_
 refine zU (atI zRt 13) (fun v8:Bool=>St.mk' [(0,sv a1),(17,bv v8)] []) (fun v8=>?_) (fun jv8=>?_)
 ·refine zG 17 (fun h9=>?_) (fun h9=>?_)
  ·refine J_g 52 [] [(2,iv 5)] [] zB ?_
   exact yA rfl
  ·refine J_g 28 [] [(0,sv a1),(3,iv 0)] [] zB ?_
   refine uL (K0:=(fun r:Int=>some (iv r,[]))) (fun _=>rfl) (kG.ok a1 q _ (fun v23=>J_j ?_) 0)
   refine J_g 30 [] [(2,iv 0)] [] zB ?_
   exact yA rfl
 ·refine xB (fun h2=>?_) (fun h2=>?_)
  ·refine J_g 12 [] [(0,sv a1),(17,bv true)] [] (yO 3 [(6,bv (decide ((a1.size:Int)<1)))] [] h2 zB) ?_
   exact zN (J_j (jv8 true)) rfl
  ·refine xB (fun h3=>?_) (fun h3=>?_)
   ·refine J_g 12 [] [(0,sv a1),(17,bv true)] [] (yO 3 [(6,bv (decide ((a1.size:Int)<1)))] [] h2 (yO 8 [(11,bv (decide ((a1.size:Int)>12)))] [] h3 zB)) ?_
    exact zN (J_j (jv8 true)) rfl
   ·refine zA (fun x4 h5=>?_)
    refine zA (fun x6 h7=>?_)
    refine J_g 12 [] [(0,sv a1),(17,bv (!x6))] [] (yO 3 [(6,bv (decide ((a1.size:Int)<1)))] [] h2 (yO 8 [(11,bv (decide ((a1.size:Int)>12)))] [] h3 (uD 10 8 12 false (zKZ (kk:=.i64) 9 (.tmp 13) (.const (.int .i64 0)) h5) (uD 11 8 12 false (yG [(.tmp 14)] [5] (vL.ok x4) h7) zB)))) ?_
    exact zN (J_j (jv8 (!x6))) rfl
def c61:Code:=cdB Tryz.f61
theorem yZ.ok (a1:Int) (a2:Int) (a3:Int):Ok Tryz.prog 61 [iv a1,iv a2,iv a3] [] ((yZ a1 a2 a3).map fun r=>(bv r,[])):=by
 refine zJ c61 Tryz.f61 0 15 (fun q=>?_)
 unfold yZ
 refine J_d 2 [] [] [] [] [] zB ?_
 refine xB (fun h4=>?_) (fun h4=>?_)
 ·refine J_g 6 [] [(6,bv (decide (a1≤a3)))] [] (yO 3 [(9,bv (decide (a1≥a2)))] [] h4 zB) ?_
  exact yA rfl
 ·refine J_g 6 [] [(6,bv false)] [] (yO 3 [(9,bv (decide (a1≥a2)))] [] h4 zB) ?_
  exact yA rfl
def zSW:Code:=cdB Tryz.f123
theorem xJ.ok (a1:Version):Ok Tryz.prog 123 [.ag (Version.enc a1)] [] ((xJ a1).map fun r=>(iv r,[])):=by
 refine zJ zSW Tryz.f123 0 19 (fun q=>?_)
 unfold xJ
 refine J_g 2 [(0,0)] [(1,pp 0)] [(0,.box (Version.enc a1))] zB ?_
 refine zA (fun x2 h3=>?_)
 refine zU (atI zSW 13) (fun v10:Bool=>St.mk' [(18,bv v10)] []) (fun v10=>?_) (fun jv10=>?_)
 ·refine zG 18 (fun h11=>?_) (fun h11=>?_)
  ·refine J_g 52 [] [(2,iv 3)] [] zB ?_
   exact yA rfl
  ·refine J_g 14 [] [(2,iv 0)] [] zB ?_
   exact yA rfl
 ·refine xB (fun h4=>?_) (fun h4=>?_)
  ·refine J_g 12 [] [(18,bv true)] [] (zD 2 (yG [(.tmp 4),(.const (.int .i64 0)),(.const (.int .i64 999))] [2,2,2] (yZ.ok a1.A 0 999) h3) (yO 4 [(6,bv (!x2))] [] h4 zB)) ?_
   exact zN (J_j (jv10 true)) rfl
  ·refine zA (fun x5 h6=>?_)
   refine xB (fun h7=>?_) (fun h7=>?_)
   ·refine J_g 12 [] [(18,bv true)] [] (zD 2 (yG [(.tmp 4),(.const (.int .i64 0)),(.const (.int .i64 999))] [2,2,2] (yZ.ok a1.A 0 999) h3) (yO 4 [(6,bv (!x2))] [] h4 (uD 7 4 7 false (yG [(.tmp 9),(.const (.int .i64 0)),(.const (.int .i64 999))] [2,2,2] (yZ.ok a1.B 0 999) h6) (yO 10 [(12,bv (!x5))] [] h7 zB)))) ?_
    exact zN (J_j (jv10 true)) rfl
   ·refine zA (fun x8 h9=>?_)
    refine J_g 12 [] [(18,bv (!x8))] [] (zD 2 (yG [(.tmp 4),(.const (.int .i64 0)),(.const (.int .i64 999))] [2,2,2] (yZ.ok a1.A 0 999) h3) (yO 4 [(6,bv (!x2))] [] h4 (uD 7 4 7 false (yG [(.tmp 9),(.const (.int .i64 0)),(.const (.int .i64 999))] [2,2,2] (yZ.ok a1.B 0 999) h6) (yO 10 [(12,bv (!x5))] [] h7 (uD 13 10 13 false (yG [(.tmp 15),(.const (.int .i64 0)),(.const (.int .i64 999))] [2,2,2] (yZ.ok a1.C 0 999) h9) zB))))) ?_
    exact zN (J_j (jv10 (!x8))) rfl
def c93:Code:=cdB Tryz.f93
theorem zCA.ok (a1:(List ByteArray)) (a2:ByteArray) (q:Wd) (kn:Unit→Option (D×List Ent)) (hk:∀v:Unit,J (q.g Tryz.prog 93 0 18) c93 (atI c93 7) (St.mk' [] []) (some v) kn):
  ∀s7:Int,J (q.g Tryz.prog 93 0 18) c93 (atI c93 52) (St.mk' [(0,sl 1 eStr a1),(1,sv a2),(5,iv s7)] []) (zCA a1 a2 s7) (Fl.go (fun r:Bool=>some (bv r,[])) kn):=by
 refine uM (fun g ih s7=>?_)
 unfold zCe
 refine J_d 208 [] [9] [(9,bv (decide (s7< (a1.length:Int))))] [] [] zB ?_
 refine zG 9 (fun h8=>?_) (fun h8=>?_)
 ·refine zA (fun x9 h10=>?_)
  refine J_d 840 [] [9,17] [(17,bv (seq x9 a2))] [] [] (zD 2 (wM (kk:=.i64) 69 9 1 eStr (.tmp 12) (.tmp 13) h10) zB) ?_
  refine zG 17 (fun h11=>?_) (fun h11=>?_)
  ·refine J_g 3364 [] [(4,bv true)] [] zB ?_
   exact yA rfl
  ·refine J_d 211 [] [5,17] [(5,iv (w64 (s7+1)))] [] [] zB ?_
   exact J_q (J_b (ih (w64 (s7+1)))) rfl
 ·exact zN (hk ()) rfl
theorem xG.ok (a1:(List ByteArray)) (a2:ByteArray):Ok Tryz.prog 93 [sl 1 eStr a1,sv a2] [] ((xG a1 a2).map fun r=>(bv r,[])):=by
 refine zJ c93 Tryz.f93 0 18 (fun q=>?_)
 unfold xG
 refine J_g 2 [] [(0,sl 1 eStr a1),(1,sv a2)] [] zB ?_
 refine J_d 12 [] [5] [(5,iv 0)] [] [] zB ?_
 refine uL (K0:=(fun r:Bool=>some (bv r,[]))) (fun _=>rfl) (zCA.ok a1 a2 q _ (fun v12=>J_j ?_) 0)
 refine J_g 14 [] [(4,bv false)] [] zB ?_
 exact yA rfl
def c60:Code:=cdB Tryz.f60
theorem vG.ok (a1:Term):Ok Tryz.prog 60 [.ag (Term.enc a1)] [] ((vG a1).map fun r=>(iv r,[])):=by
 refine zJ c60 Tryz.f60 0 33 (fun q=>?_)
 unfold vG
 refine J_g 2 [(0,0)] [(1,pp 0)] [(0,.box (Term.enc a1))] zB ?_
 refine zA (fun x2 h3=>?_)
 refine J_g 12 [] [(1,pp 0),(3,iv x2)] [(0,.box (Term.enc a1))] (zD 2 (yG [(.tmp 6)] [9] (wS.ok a1.Name) h3) zB) ?_
 refine J_d 26 [] [9] [(9,bv (x2 !=0))] [] [] zB ?_
 refine zG 9 (fun h4=>?_) (fun h4=>?_)
 ·refine J_g 108 [] [(2,iv x2)] [] zB ?_
  exact yA rfl
 ·refine zA (fun x5 h6=>?_)
  refine J_g 28 [] [(1,pp 0),(4,iv x5)] [(0,.box (Term.enc a1))] (zD 2 (yG [(.tmp 12)] [83] (xJ.ok a1.Low) h6) zB) ?_
  refine J_d 58 [] [15] [(15,bv (x5 !=0))] [] [] zB ?_
  refine zG 15 (fun h7=>?_) (fun h7=>?_)
  ·refine J_g 236 [] [(2,iv x5)] [] zB ?_
   exact yA rfl
  ·refine zA (fun x8 h9=>?_)
   refine zU (atI c60 61) (fun v13:Bool=>St.mk' [(1,pp 0),(26,bv v13)] [(0,.box (Term.enc a1))]) (fun v13=>?_) (fun jv13=>?_)
   ·refine zG 26 (fun h14=>?_) (fun h14=>?_)
    ·refine J_g 244 [] [(2,iv 3)] [] zB ?_
     exact yA rfl
    ·refine zA (fun x15 h16=>?_)
     refine J_g 124 [] [(32,bv (decide (x15≥0)))] [] (zD 4 (yG [(.tmp 28),(.tmp 30)] [83,83] (zW.ok a1.Low a1.High) h16) zB) ?_
     refine zG 32 (fun h17=>?_) (fun h17=>?_)
     ·refine J_g 500 [] [(2,iv 1)] [] zB ?_
      exact yA rfl
     ·refine J_g 126 [] [(2,iv 0)] [] zB ?_
      exact yA rfl
   ·refine xB (fun h10=>?_) (fun h10=>?_)
    ·refine zA (fun x11 h12=>?_)
     refine J_d 60 [] [4,15,26] [(26,bv (x11 !=0))] [] [] (zD 2 (yG [] [] (uK.ok) h9) (zD 3 (zLA (b:=.neq) (r:=(a1.High.A==x8.A&&(a1.High.B==x8.B&&(a1.High.C==x8.C&&true)))) 83 83 (.tmp 18) (.tmp 19) [.int .i64 a1.High.A,.int .i64 a1.High.B,.int .i64 a1.High.C] [.int .i64 x8.A,.int .i64 x8.B,.int .i64 x8.C] (.inr ⟨rfl,rfl⟩)) (yO 4 [(20,bv (!(a1.High.A==x8.A&&(a1.High.B==x8.B&&(a1.High.C==x8.C&&true)))))] [] h10 (uD 7 4 21 true (yG [(.tmp 23)] [83] (xJ.ok a1.High) h12) zB)))) ?_
     exact zN (J_j (jv13 (x11 !=0))) rfl
    ·refine J_d 60 [] [4,15,26] [(26,bv false)] [] [] (zD 2 (yG [] [] (uK.ok) h9) (zD 3 (zLA (b:=.neq) (r:=(a1.High.A==x8.A&&(a1.High.B==x8.B&&(a1.High.C==x8.C&&true)))) 83 83 (.tmp 18) (.tmp 19) [.int .i64 a1.High.A,.int .i64 a1.High.B,.int .i64 a1.High.C] [.int .i64 x8.A,.int .i64 x8.B,.int .i64 x8.C] (.inr ⟨rfl,rfl⟩)) (yO 4 [(20,bv (!(a1.High.A==x8.A&&(a1.High.B==x8.B&&(a1.High.C==x8.C&&true)))))] [] h10 zB))) ?_
     exact zN (J_j (jv13 false)) rfl
def c23:Code:=cdB Tryz.f23
theorem zCC.ok (a1:(List Term)) (q:Wd) (kn:Unit→Option (D×List Ent)) (hk:∀v:Unit,J (q.g Tryz.prog 23 0 19) c23 (atI c23 7) (St.mk' [] []) (some v) kn):
  ∀s8:Int,J (q.g Tryz.prog 23 0 19) c23 (atI c23 52) (St.mk' [(0,sl 7 Term.enc a1),(3,iv s8)] []) (zCC a1 s8) (Fl.go (fun r:Int=>some (iv r,[])) kn):=by
 refine uM (fun g ih s8=>?_)
 unfold zBY
 refine J_d 208 [] [8] [(8,bv (decide (s8< (a1.length:Int))))] [] [] zB ?_
 refine zG 8 (fun h9=>?_) (fun h9=>?_)
 ·refine zA (fun x10 h11=>?_)
  refine zA (fun x12 h13=>?_)
  refine J_g 840 [] [(0,sl 7 Term.enc a1),(3,iv s8),(4,iv x12)] [] (zD 2 (wM (kk:=.i64) 25 85 7 Term.enc (.tmp 11) (.tmp 12) h11) (zD 4 (yG [(.tmp 14)] [85] (vG.ok x10) h13) zB)) ?_
  refine J_d 1682 [] [17] [(17,bv (x12 !=0))] [] [] zB ?_
  refine zG 17 (fun h14=>?_) (fun h14=>?_)
  ·refine J_g 6732 [] [(2,iv x12)] [] zB ?_
   exact yA rfl
  ·refine J_g 211 [] [(0,sl 7 Term.enc a1),(3,iv (w64 (s8+1)))] [] zB ?_
   exact J_q (J_b (ih (w64 (s8+1)))) rfl
 ·exact zN (hk ()) rfl
theorem uP.ok (a1:(List Term)):Ok Tryz.prog 23 [sl 7 Term.enc a1] [] ((uP a1).map fun r=>(iv r,[])):=by
 refine zJ c23 Tryz.f23 0 19 (fun q=>?_)
 unfold uP
 refine J_g 2 [] [(0,sl 7 Term.enc a1)] [] zB ?_
 refine J_d 12 [] [3] [(3,iv 0)] [] [] zB ?_
 refine uL (K0:=(fun r:Int=>some (iv r,[]))) (fun _=>rfl) (zCC.ok a1 q _ (fun v15=>J_j ?_) 0)
 refine J_g 14 [] [(2,iv 0)] [] zB ?_
 exact yA rfl
def c58:Code:=cdB Tryz.f58
theorem kK.ok (a1:Pack) (q:Wd) (kn:Unit→Option (D×List Ent)) (hk:∀v:Unit,J (q.g Tryz.prog 58 0 118) c58 (atI c58 511) (St.mk' [(1,pp 0)] [(0,.box (Pack.enc false a1))]) (some v) kn):
  ∀s70:Int,J (q.g Tryz.prog 58 0 118) c58 (atI c58 4084) (St.mk' [(1,pp 0),(8,iv s70)] [(0,.box (Pack.enc false a1))]) (kK a1 s70) (Fl.go (fun r:Int=>some (iv r,[])) kn):=by
 refine uM (fun g ih s70=>?_)
 unfold zAB
 refine J_d 16336 [] [96] [(96,bv (decide (s70< (a1.Needs.length:Int))))] [] [] zB ?_
 refine zG 96 (fun h71=>?_) (fun h71=>?_)
 ·refine zA (fun x72 h73=>?_)
  refine J_d 130704 [] [96,105] [(105,bv ((x72.length:Int)==0))] [] [] (zD 3 (wM (kk:=.i64) 87 25 1 (eSl false 7 Term.enc) (.tmp 100) (.tmp 101) h73) zB) ?_
  refine zG 105 (fun h74=>?_) (fun h74=>?_)
  ·refine J_g 522820 [] [(2,iv 1)] [] zB ?_
   exact yA rfl
  ·refine zA (fun x75 h76=>?_)
   refine zA (fun x77 h78=>?_)
   refine J_g 130706 [] [(1,pp 0),(8,iv s70),(9,iv x77)] [(0,.box (Pack.enc false a1))] (zD 3 (wM (kk:=.i64) 87 25 1 (eSl false 7 Term.enc) (.tmp 107) (.tmp 108) h76) (zD 5 (yG [(.tmp 110)] [25] (uP.ok x75) h78) zB)) ?_
   refine J_d 261414 [] [113] [(113,bv (x77 !=0))] [] [] zB ?_
   refine zG 113 (fun h79=>?_) (fun h79=>?_)
   ·refine J_g 1045660 [] [(2,iv x77)] [] zB ?_
    exact yA rfl
   ·refine J_d 16339 [] [8,9,113] [(8,iv (w64 (s70+1)))] [] [] zB ?_
    exact J_q (J_b (ih (w64 (s70+1)))) rfl
 ·exact zN (hk ()) rfl
theorem kI.ok (a1:Pack) (q:Wd) (kn:Unit→Option (D×List Ent)) (hk:∀v:Unit,J (q.g Tryz.prog 58 0 118) c58 (atI c58 255) (St.mk' [(1,pp 0)] [(0,.box (Pack.enc false a1))]) (some v) kn):
  ∀s42:Int,J (q.g Tryz.prog 58 0 118) c58 (atI c58 2036) (St.mk' [(1,pp 0),(6,iv s42)] [(0,.box (Pack.enc false a1))]) (kI a1 s42) (Fl.go (fun r:Int=>some (iv r,[])) kn):=by
 refine uM (fun g ih s42=>?_)
 unfold zA5
 refine J_d 8144 [] [60] [(60,bv (decide (s42< (a1.Provides.length:Int))))] [] [] zB ?_
 refine zG 60 (fun h43=>?_) (fun h43=>?_)
 ·refine zA (fun x44 h45=>?_)
  refine zA (fun x46 h47=>?_)
  refine J_g 65168 [] [(1,pp 0),(6,iv s42),(7,iv x46)] [(0,.box (Pack.enc false a1))] (zD 3 (wM (kk:=.i64) 69 9 1 eStr (.tmp 64) (.tmp 65) h45) (zD 5 (yG [(.tmp 67)] [9] (wS.ok x44) h47) zB)) ?_
  refine J_d 130338 [] [70] [(70,bv (x46 !=0))] [] [] zB ?_
  refine zG 70 (fun h48=>?_) (fun h48=>?_)
  ·refine J_g 521356 [] [(2,iv x46)] [] zB ?_
   exact yA rfl
  ·refine zA (fun x49 h50=>?_)
   refine zU (atI c58 65171) (fun v58:Bool=>St.mk' [(1,pp 0),(6,iv s42),(91,bv v58)] [(0,.box (Pack.enc false a1))]) (fun v58=>?_) (fun jv58=>?_)
   ·refine zG 91 (fun h59=>?_) (fun h59=>?_)
    ·refine J_g 260684 [] [(2,iv 6)] [] zB ?_
     exact yA rfl
    ·refine J_d 8147 [] [6,91] [(6,iv (w64 (s42+1)))] [] [] zB ?_
     exact J_q (J_b (ih (w64 (s42+1)))) rfl
   ·refine xB (fun h51=>?_) (fun h51=>?_)
    ·refine J_d 65170 [] [7,70,91] [(91,bv true)] [] [] (zD 3 (wM (kk:=.i64) 69 9 1 eStr (.tmp 73) (.tmp 74) h50) (yO 8 [(79,bv (seq x49 a1.Name))] [] h51 zB)) ?_
     exact zN (J_j (jv58 true)) rfl
    ·refine zA (fun x52 h53=>?_)
     refine zA (fun x54 h55=>?_)
     refine zA (fun x56 h57=>?_)
     refine J_d 65170 [] [7,70,91] [(91,bv x56)] [] [] (zD 3 (wM (kk:=.i64) 69 9 1 eStr (.tmp 73) (.tmp 74) h50) (yO 8 [(79,bv (seq x49 a1.Name))] [] h51 (uD 12 8 80 false (zQw 69 9 1 eStr (.tmp 82) none (some (.tmp 83)) h53) (uD 16 8 80 false (wM (kk:=.i64) 69 9 1 eStr (.tmp 86) (.tmp 87) h55) (uD 18 8 80 false (yG [(.tmp 84),(.tmp 89)] [69,9] (xG.ok x52 x54) h57) zB))))) ?_
     exact zN (J_j (jv58 x56)) rfl
 ·exact zN (hk ()) rfl
theorem zBi.ok (a1:Pack) (q:Wd) (kn:Unit→Option (D×List Ent)) (hk:∀v:Unit,J (q.g Tryz.prog 58 0 118) c58 (atI c58 127) (St.mk' [(1,pp 0)] [(0,.box (Pack.enc false a1))]) (some v) kn):
  ∀s19:Int,J (q.g Tryz.prog 58 0 118) c58 (atI c58 1012) (St.mk' [(1,pp 0),(5,iv s19)] [(0,.box (Pack.enc false a1))]) (zBi a1 s19) (Fl.go (fun r:Int=>some (iv r,[])) kn):=by
 refine uM (fun g ih s19=>?_)
 unfold zA8
 refine J_d 4048 [] [46] [(46,bv (decide (s19< (a1.Needs.length:Int))))] [] [] zB ?_
 refine zG 46 (fun h20=>?_) (fun h20=>?_)
 ·refine zA (fun x21 h22=>?_)
  refine J_d 16200 [] [46,55] [(55,bv (decide ((x21.length:Int)>4)))] [] [] (zD 3 (wM (kk:=.i64) 87 25 1 (eSl false 7 Term.enc) (.tmp 50) (.tmp 51) h22) zB) ?_
  refine zG 55 (fun h23=>?_) (fun h23=>?_)
  ·refine J_g 64804 [] [(2,iv 2)] [] zB ?_
   exact yA rfl
  ·refine J_d 4051 [] [5,55] [(5,iv (w64 (s19+1)))] [] [] zB ?_
   exact J_q (J_b (ih (w64 (s19+1)))) rfl
 ·exact zN (hk ()) rfl
theorem zAK.ok (a1:Pack):Ok Tryz.prog 58 [.ag (Pack.enc false a1)] [] ((zAK a1).map fun r=>(iv r,[])):=by
 refine zJ c58 Tryz.f58 0 118 (fun q=>?_)
 unfold zAK
 refine J_g 2 [(0,0)] [(1,pp 0)] [(0,.box (Pack.enc false a1))] zB ?_
 refine zA (fun x2 h3=>?_)
 refine J_g 12 [] [(1,pp 0),(3,iv x2)] [(0,.box (Pack.enc false a1))] (zD 2 (yG [(.tmp 11)] [9] (wS.ok a1.Name) h3) zB) ?_
 refine J_d 26 [] [14] [(14,bv (x2 !=0))] [] [] zB ?_
 refine zG 14 (fun h4=>?_) (fun h4=>?_)
 ·refine J_g 108 [] [(2,iv x2)] [] zB ?_
  exact yA rfl
 ·refine zA (fun x5 h6=>?_)
  refine J_g 28 [] [(1,pp 0),(4,iv x5)] [(0,.box (Pack.enc false a1))] (zD 2 (yG [(.tmp 17)] [83] (xJ.ok a1.Version) h6) zB) ?_
  refine J_d 58 [] [20] [(20,bv (x5 !=0))] [] [] zB ?_
  refine zG 20 (fun h7=>?_) (fun h7=>?_)
  ·refine J_g 236 [] [(2,iv x5)] [] zB ?_
   exact yA rfl
  ·refine zA (fun x8 h9=>?_)
   refine J_d 60 [] [4,20,25] [(25,bv (!x8))] [] [] (zD 2 (yG [(.tmp 23),(.const (.int .i64 1)),(.const (.int .i64 200))] [2,2,2] (yZ.ok a1.Size 1 200) h9) zB) ?_
   refine zG 25 (fun h10=>?_) (fun h10=>?_)
   ·refine J_g 244 [] [(2,iv 3)] [] zB ?_
    exact yA rfl
   ·refine zU (atI c58 125) (fun v13:Bool=>St.mk' [(1,pp 0),(41,bv v13)] [(0,.box (Pack.enc false a1))]) (fun v13=>?_) (fun jv13=>?_)
    ·refine zG 41 (fun h14=>?_) (fun h14=>?_)
     ·refine J_g 500 [] [(2,iv 2)] [] zB ?_
      exact yA rfl
     ·refine J_d 252 [] [5,41] [(5,iv 0)] [] [] zB ?_
      refine uL (K0:=(fun r:Int=>some (iv r,[]))) (fun _=>rfl) (zBi.ok a1 q _ (fun v24=>J_j ?_) 0)
      refine J_d 508 [] [6] [(6,iv 0)] [] [] zB ?_
      refine uL (K0:=(fun r:Int=>some (iv r,[]))) (fun _=>rfl) (kI.ok a1 q _ (fun v60=>J_j ?_) 0)
      refine J_d 1020 [] [8] [(8,iv 0)] [] [] zB ?_
      refine uL (K0:=(fun r:Int=>some (iv r,[]))) (fun _=>rfl) (kK.ok a1 q _ (fun v80=>J_j ?_) 0)
      refine zA (fun x81 h82=>?_)
      refine J_g 1022 [] [(2,iv x81)] [] (zD 2 (yG [(.tmp 116)] [25] (uP.ok a1.Bars) h82) zB) ?_
      exact yA rfl
    ·refine xB (fun h11=>?_) (fun h11=>?_)
     ·refine J_d 124 [] [25,41] [(41,bv true)] [] [] (yO 4 [(29,bv (decide ((a1.Provides.length:Int)>4)))] [] h11 zB) ?_
      exact zN (J_j (jv13 true)) rfl
     ·refine xB (fun h12=>?_) (fun h12=>?_)
      ·refine J_d 124 [] [25,41] [(41,bv true)] [] [] (yO 4 [(29,bv (decide ((a1.Provides.length:Int)>4)))] [] h11 (yO 10 [(35,bv (decide ((a1.Needs.length:Int)>4)))] [] h12 zB)) ?_
       exact zN (J_j (jv13 true)) rfl
      ·refine J_d 124 [] [25,41] [(41,bv (decide ((a1.Bars.length:Int)>4)))] [] [] (yO 4 [(29,bv (decide ((a1.Provides.length:Int)>4)))] [] h11 (yO 10 [(35,bv (decide ((a1.Needs.length:Int)>4)))] [] h12 zB)) ?_
       exact zN (J_j (jv13 (decide ((a1.Bars.length:Int)>4)))) rfl
def c22:Code:=cdB Tryz.f22
theorem jK.ok (a1:(List Pack)) (q:Wd) (kn:Unit→Option (D×List Ent)) (hk:∀v:Unit,J (q.g Tryz.prog 22 0 37) c22 (atI c22 15) (St.mk' [] []) (some v) kn):
  ∀s18:Int,J (q.g Tryz.prog 22 0 37) c22 (atI c22 116) (St.mk' [(0,sl 8 (Pack.enc false) a1),(3,iv s18)] []) (jK a1 s18) (Fl.go (fun r:Int=>some (iv r,[])) kn):=by
 refine uM (fun g ih s18=>?_)
 unfold tL
 refine J_d 464 [] [11] [(11,bv (decide (s18< (a1.length:Int))))] [] [] zB ?_
 refine zG 11 (fun h19=>?_) (fun h19=>?_)
 ·refine zA (fun x20 h21=>?_)
  refine zA (fun x22 h23=>?_)
  refine J_g 3728 [] [(0,sl 8 (Pack.enc false) a1),(3,iv s18),(4,iv x22)] [] (zD 2 (wM (kk:=.i64) 24 89 8 (Pack.enc false) (.tmp 14) (.tmp 15) h21) (zD 4 (yG [(.tmp 17)] [89] (zAK.ok x20) h23) zB)) ?_
  refine J_d 7458 [] [20] [(20,bv (x22 !=0))] [] [] zB ?_
  refine zG 20 (fun h24=>?_) (fun h24=>?_)
  ·refine J_g 29836 [] [(2,iv x22)] [] zB ?_
   exact yA rfl
  ·refine zA (fun x25 h26=>?_)
   refine zA (fun x27 h28=>?_)
   refine zA (fun x29 h30=>?_)
   refine zA (fun x31 h32=>?_)
   refine J_d 3730 [] [4,20,36] [(36,bv (decide (x31≥0)))] [] [] (zD 2 (zQw 24 89 8 (Pack.enc false) (.tmp 22) none (some (.tmp 23)) h26) (zD 5 (wM (kk:=.i64) 24 89 8 (Pack.enc false) (.tmp 25) (.tmp 26) h28) (zD 10 (wM (kk:=.i64) 24 89 8 (Pack.enc false) (.tmp 30) (.tmp 31) h30) (zD 13 (yG [(.tmp 24),(.tmp 29),(.tmp 34)] [24,9,83] (uV.ok x25 x27.Name x29.Version) h32) zB)))) ?_
   refine zG 36 (fun h33=>?_) (fun h33=>?_)
   ·refine J_g 14924 [] [(2,iv 6)] [] zB ?_
    exact yA rfl
   ·refine J_d 467 [] [3,36] [(3,iv (w64 (s18+1)))] [] [] zB ?_
    exact J_q (J_b (ih (w64 (s18+1)))) rfl
 ·exact zN (hk ()) rfl
theorem zY.ok (a1:(List Pack)):Ok Tryz.prog 22 [sl 8 (Pack.enc false) a1] [] ((zY a1).map fun r=>(iv r,[])):=by
 refine zJ c22 Tryz.f22 0 37 (fun q=>?_)
 unfold zY
 refine J_g 2 [] [(0,sl 8 (Pack.enc false) a1)] [] zB ?_
 refine J_d 12 [] [7] [(7,bv (decide ((a1.length:Int)>24)))] [] [] zB ?_
 refine zG 7 (fun h2=>?_) (fun h2=>?_)
 ·refine J_g 52 [] [(2,iv 2)] [] zB ?_
  exact yA rfl
 ·refine J_d 28 [] [3,7] [(3,iv 0)] [] [] zB ?_
  refine uL (K0:=(fun r:Int=>some (iv r,[]))) (fun _=>rfl) (jK.ok a1 q _ (fun v34=>J_j ?_) 0)
  refine J_g 30 [] [(2,iv 0)] [] zB ?_
  exact yA rfl
def c34:Code:=cdB Tryz.f34
theorem zEs.ok (a2:(List Pack)) (q:Wd) (kn:((List Int)×Int×(List Term))→Option (D×List Ent)) (hk:∀v:((List Int)×Int×(List Term)),J (q.g Tryz.prog 34 1 33) c34 (atI c34 15) (St.mk' [(5,rr 1 v.2.2)] [(0,.box [sl 1 eU8 v.1,iv v.2.1]),(1,rE 7 Term.enc v.2.2)]) (some v) kn):
  ∀s16:((List Int)×Int×(List Term)×Int),J (q.g Tryz.prog 34 1 33) c34 (atI c34 116) (St.mk' [(0,pp 0),(1,sl 8 (Pack.enc false) a2),(5,rr 1 s16.2.2.1),(6,iv s16.2.2.2)] [(0,.box [sl 1 eU8 s16.1,iv s16.2.1]),(1,rE 7 Term.enc s16.2.2.1)]) (zEs a2 s16) kn:=by
 refine uM (fun g ih s16=>?_)
 unfold jV
 refine zU (atI c34 465) (fun v18:Bool=>St.mk' [(0,pp 0),(1,sl 8 (Pack.enc false) a2),(5,rr 1 s16.2.2.1),(6,iv s16.2.2.2),(17,bv v18)] [(0,.box [sl 1 eU8 s16.1,iv s16.2.1]),(1,rE 7 Term.enc s16.2.2.1)]) (fun v18=>?_) (fun jv18=>?_)
 ·refine zG 17 (fun h19=>?_) (fun h19=>?_)
  ·refine zA (fun x20 h21=>?_)
   refine zA (fun x22 h23=>?_)
   refine zA (fun x24 h25=>?_)
   refine zA (fun x26 h27=>?_)
   refine J_g 932 [] [(0,pp 0),(1,sl 8 (Pack.enc false) a2),(5,rr 3 x26),(6,iv s16.2.2.2)] [(0,.box (zC.enc false x20.2)),(3,rE 7 Term.enc x26)] (zD 5 (xH («as»:=[pp 0,iv (a2.length:Int)]) [(.tmp 22),(.tmp 24)] [35,2] false [(0,.box [sl 1 eU8 s16.1,iv s16.2.1])] [0] (.cons (.pt rfl) (.cons (.same rfl) (.nil))) (zH.ok ({Code:=s16.1,At:=s16.2.1}:zC) (a2.length:Int)) h21 (.same rfl rfl)) (zD 6 (wM (kk:=.i64) 24 89 8 (Pack.enc false) (.tmp 21) (.tmp 25) h23) (zD 9 (yG [(.tmp 28)] [9] (wT.ok x22.Name) h25) (zD 10 (vM 25 85 7 2 Term.enc [x24] [0] [(.tmp 29)] [.ag (Term.enc x24)]) (zD 11 (zEQ 25 25 85 85 7 64 3 1 2 Term.enc (.tmp 20) (.tmp 30) h27) zB))))) ?_
   refine J_d 467 [] [6] [(6,iv (w64 (s16.2.2.2-1)))] [] [] zB ?_
   refine xV 3 1 (qB rfl) (qB rfl) ?_
   exact J_q (J_b (ih (x20.2.Code,x20.2.At,x26,w64 (s16.2.2.2-1)))) rfl
  ·exact zN (hk (s16.1,s16.2.1,s16.2.2.1)) rfl
 ·refine xB (fun h17=>?_) (fun h17=>?_)
  ·refine J_d 464 [] [17] [(17,bv (decide ((a2.length:Int)>0)))] [] [] (yO 2 [(12,bv (decide (s16.2.2.2>0)))] [] h17 zB) ?_
   exact zN (J_j (jv18 (decide ((a2.length:Int)>0)))) rfl
  ·refine J_d 464 [] [17] [(17,bv false)] [] [] (yO 2 [(12,bv (decide (s16.2.2.2>0)))] [] h17 zB) ?_
   exact zN (J_j (jv18 false)) rfl
theorem vP.ok (a1:zC) (a2:(List Pack)):Ok Tryz.prog 34 [pp 0,sl 8 (Pack.enc false) a2] [.box (zC.enc false a1)] ((vP a1 a2).map fun r=>(so 7 Term.enc r.1,[.box (zC.enc false r.2)])):=by
 refine zJ c34 Tryz.f34 1 33 (fun q=>?_)
 unfold vP
 refine J_g 2 [] [(0,pp 0),(1,sl 8 (Pack.enc false) a2)] [(0,.box (zC.enc false a1))] zB ?_
 refine J_d 6 [] [5] [(5,rr 1 ([]:List Term))] [1] [(1,rE 7 Term.enc ([]:List Term))] (zD 0 (vM 25 85 7 1 Term.enc ([]:List Term) [] [] []) zB) ?_
 refine zA (fun x3 h4=>?_)
 refine J_d 28 [] [6] [(6,iv (w64 (1+x3.1)))] [0] [(0,.box (zC.enc false x3.2))] (zD 1 (xH («as»:=[pp 0,iv 3]) [(.tmp 8),(.const (.int .i64 3))] [35,2] false [(0,.box (zC.enc false a1))] [0] (.cons (.pt rfl) (.cons (.same rfl) (.nil))) (zH.ok a1 3) h4 (.same rfl rfl)) zB) ?_
 refine zEx (zEs.ok a2 q _ (fun v28=>J_j ?_) (x3.2.Code,x3.2.At,([]:List Term),w64 (1+x3.1)))
 refine J_g 30 [] [(4,rr 1 v28.2.2)] [(0,.box [sl 1 eU8 v28.1,iv v28.2.1]),(1,rE 7 Term.enc v28.2.2)] zB ?_
 exact zEO (ds:=[rr 1 v28.2.2]) (ds':=[so 7 Term.enc v28.2.2]) (.cons (.cell (.move (.tail _ (.head _)) (qC _) (by decide) (.nil))) (.nil) (by decide)) rfl
def c86:Code:=cdB Tryz.f86
theorem zCa.ok (a1:(List yS)) (q:Wd) (kn:(List Int)→Option (D×List Ent)) (hk:∀v:(List Int),J (q.g Tryz.prog 86 0 21) c86 (atI c86 15) (St.mk' [(3,rr 0 v)] [(0,rE 1 zF v)]) (some v) kn):
  ∀s7:((List Int)×Int),J (q.g Tryz.prog 86 0 21) c86 (atI c86 116) (St.mk' [(0,sl 2 (yS.enc false) a1),(3,rr 0 s7.1),(4,iv s7.2)] [(0,rE 1 zF s7.1)]) (zCa a1 s7) kn:=by
 refine uM (fun g ih s7=>?_)
 unfold zBg
 refine J_d 464 [] [9] [(9,bv (decide (s7.2< (a1.length:Int))))] [] [] zB ?_
 refine zG 9 (fun h8=>?_) (fun h8=>?_)
 ·refine zA (fun x9 h10=>?_)
  refine zA (fun x11 h12=>?_)
  refine J_g 932 [] [(0,sl 2 (yS.enc false) a1),(3,rr 2 x11),(4,iv s7.2)] [(2,rE 1 zF x11)] (zD 3 (wM (kk:=.i64) 126 132 2 (yS.enc false) (.tmp 13) (.tmp 14) h10) (zD 6 (vM 34 2 1 1 zF [x9.Pack] [0] [(.tmp 17)] [iv x9.Pack]) (zD 7 (zEQ 34 34 2 2 1 8 2 0 1 zF (.tmp 12) (.tmp 18) h12) zB))) ?_
  refine J_d 467 [] [4] [(4,iv (w64 (s7.2+1)))] [] [] zB ?_
  refine xV 2 0 (qB rfl) (qB rfl) ?_
  exact J_q (J_b (ih (x11,w64 (s7.2+1)))) rfl
 ·exact zN (hk s7.1) rfl
theorem zBC.ok (a1:(List yS)):Ok Tryz.prog 86 [sl 2 (yS.enc false) a1] [] ((zBC a1).map fun r=>(so 1 zF r,[])):=by
 refine zJ c86 Tryz.f86 0 21 (fun q=>?_)
 unfold zBC
 refine J_g 2 [] [(0,sl 2 (yS.enc false) a1)] [] zB ?_
 refine J_g 6 [] [(0,sl 2 (yS.enc false) a1),(3,rr 0 ([]:List Int))] [(0,rE 1 zF ([]:List Int))] (zD 0 (vM 34 2 1 0 zF ([]:List Int) [] [] []) zB) ?_
 refine J_d 28 [] [4] [(4,iv 0)] [] [] zB ?_
 refine zEx (zCa.ok a1 q _ (fun v13=>J_j ?_) (([]:List Int),0))
 refine J_g 30 [] [(2,rr 0 v13)] [(0,rE 1 zF v13)] zB ?_
 exact zEO (ds:=[rr 0 v13]) (ds':=[so 1 zF v13]) (.cons (.cell (.move (.head _) (qC _) (by decide) (.nil))) (.nil) (by decide)) rfl
def c167:Code:=cdB Tryz.f167
theorem jQ.ok (a1:Term) (a2:ByteArray) (a3:Version):Ok Tryz.prog 167 [.ag (Term.enc a1),sv a2,.ag (Version.enc a3)] [] ((jQ a1 a2 a3).map fun r=>(bv r,[])):=by
 refine zJ c167 Tryz.f167 0 25 (fun q=>?_)
 unfold jQ
 refine J_g 2 [(0,0),(1,1)] [(1,sv a2),(3,pp 0),(5,pp 1)] [(0,.box (Term.enc a1)),(1,.box (Version.enc a3))] zB ?_
 refine xB (fun h4=>?_) (fun h4=>?_)
 ·refine zA (fun x5 h6=>?_)
  refine xB (fun h7=>?_) (fun h7=>?_)
  ·refine zA (fun x8 h9=>?_)
   refine J_g 6 [] [(6,bv (decide (x8<0)))] [] (yO 4 [(10,bv (seq a1.Name a2))] [] h4 (uD 8 4 11 true (yG [(.tmp 12),(.tmp 14)] [83,83] (zW.ok a3 a1.Low) h6) (yO 11 [(17,bv (decide (x5≥0)))] [] h7 (uD 15 11 18 true (yG [(.tmp 19),(.tmp 21)] [83,83] (zW.ok a3 a1.High) h9) zB)))) ?_
   exact yA rfl
  ·refine J_g 6 [] [(6,bv false)] [] (yO 4 [(10,bv (seq a1.Name a2))] [] h4 (uD 8 4 11 true (yG [(.tmp 12),(.tmp 14)] [83,83] (zW.ok a3 a1.Low) h6) (yO 11 [(17,bv (decide (x5≥0)))] [] h7 zB))) ?_
   exact yA rfl
 ·refine J_g 6 [] [(6,bv false)] [] (yO 4 [(10,bv (seq a1.Name a2))] [] h4 zB) ?_
  exact yA rfl
def c139:Code:=cdB Tryz.f139
theorem tJ.ok (a1:Pack) (a2:Term):Ok Tryz.prog 139 [.ag (Pack.enc false a1),.ag (Term.enc a2)] [] ((tJ a1 a2).map fun r=>(bv r,[])):=by
 refine zJ c139 Tryz.f139 0 25 (fun q=>?_)
 unfold tJ
 refine J_g 2 [(0,0),(1,1)] [(2,pp 0),(3,pp 1)] [(0,.box (Pack.enc false a1)),(1,.box (Term.enc a2))] zB ?_
 refine xB (fun h3=>?_) (fun h3=>?_)
 ·refine zA (fun x4 h5=>?_)
  refine J_g 6 [] [(4,bv x4)] [] (yO 5 [(9,bv (seq a2.Name a1.Name))] [] h3 (uD 18 12 17 true (yG [(.tmp 18),(.tmp 20),(.tmp 22)] [85,9,83] (jQ.ok a2 a2.Name a1.Version) h5) zB)) ?_
  exact yA rfl
 ·refine zA (fun x6 h7=>?_)
  refine xB (fun h8=>?_) (fun h8=>?_)
  ·refine zA (fun x9 h10=>?_)
   refine J_g 6 [] [(4,bv x9)] [] (yO 5 [(9,bv (seq a2.Name a1.Name))] [] h3 (uD 10 5 10 false (yG [(.tmp 12),(.tmp 14)] [69,9] (xG.ok a1.Provides a2.Name) h7) (yO 12 [(16,bv x6)] [] h8 (uD 18 12 17 true (yG [(.tmp 18),(.tmp 20),(.tmp 22)] [85,9,83] (jQ.ok a2 a2.Name a1.Version) h10) zB)))) ?_
   exact yA rfl
  ·refine J_g 6 [] [(4,bv false)] [] (yO 5 [(9,bv (seq a2.Name a1.Name))] [] h3 (uD 10 5 10 false (yG [(.tmp 12),(.tmp 14)] [69,9] (xG.ok a1.Provides a2.Name) h7) (yO 12 [(16,bv x6)] [] h8 zB))) ?_
   exact yA rfl
def zRq:Code:=cdB Tryz.f142
theorem zCD.ok (a1:(List Pack)) (a2:(List Int)) (a3:Term) (a4:Int) (q:Wd) (kn:Unit→Option (D×List Ent)) (hk:∀v:Unit,J (q.g Tryz.prog 142 0 33) zRq (atI zRq 7) (St.mk' [] []) (some v) kn):
  ∀s17:Int,J (q.g Tryz.prog 142 0 33) zRq (atI zRq 52) (St.mk' [(0,sl 8 (Pack.enc false) a1),(1,sl 1 zF a2),(3,iv a4),(6,pp 0),(9,iv s17)] [(0,.box (Term.enc a3))]) (zCD a1 a2 a3 a4 s17) (Fl.go (fun r:Bool=>some (bv r,[])) kn):=by
 refine uM (fun g ih s17=>?_)
 unfold zCb
 refine J_d 208 [] [13] [(13,bv (decide (s17< (a2.length:Int))))] [] [] zB ?_
 refine zG 13 (fun h18=>?_) (fun h18=>?_)
 ·refine zA (fun x19 h20=>?_)
  refine zU (atI zRq 841) (fun v28:Bool=>St.mk' [(0,sl 8 (Pack.enc false) a1),(1,sl 1 zF a2),(3,iv a4),(6,pp 0),(9,iv s17),(32,bv v28)] [(0,.box (Term.enc a3))]) (fun v28=>?_) (fun jv28=>?_)
  ·refine zG 32 (fun h29=>?_) (fun h29=>?_)
   ·refine J_g 3364 [] [(8,bv true)] [] zB ?_
    exact yA rfl
   ·refine J_d 211 [] [9,32] [(9,iv (w64 (s17+1)))] [] [] zB ?_
    exact J_q (J_b (ih (w64 (s17+1)))) rfl
  ·refine xB (fun h21=>?_) (fun h21=>?_)
   ·refine zA (fun x22 h23=>?_)
    refine zA (fun x24 h25=>?_)
    refine zA (fun x26 h27=>?_)
    refine J_d 840 [] [13,32] [(32,bv x26)] [] [] (zD 2 (wM (kk:=.i64) 34 2 1 zF (.tmp 16) (.tmp 17) h20) (yO 6 [(21,bv (x19 !=a4))] [] h21 (uD 10 6 22 true (wM (kk:=.i64) 34 2 1 zF (.tmp 24) (.tmp 25) h23) (uD 12 6 22 true (wM (kk:=.i64) 24 89 8 (Pack.enc false) (.tmp 23) (.tmp 27) h25) (uD 15 6 22 true (yG [(.tmp 29),(.tmp 30)] [89,85] (tJ.ok x24 a3) h27) zB))))) ?_
    exact zN (J_j (jv28 x26)) rfl
   ·refine J_d 840 [] [13,32] [(32,bv false)] [] [] (zD 2 (wM (kk:=.i64) 34 2 1 zF (.tmp 16) (.tmp 17) h20) (yO 6 [(21,bv (x19 !=a4))] [] h21 zB)) ?_
    exact zN (J_j (jv28 false)) rfl
 ·exact zN (hk ()) rfl
theorem zAC.ok (a1:(List Pack)) (a2:(List Int)) (a3:Term) (a4:Int):Ok Tryz.prog 142 [sl 8 (Pack.enc false) a1,sl 1 zF a2,.ag (Term.enc a3),iv a4] [] ((zAC a1 a2 a3 a4).map fun r=>(bv r,[])):=by
 refine zJ zRq Tryz.f142 0 33 (fun q=>?_)
 unfold zAC
 refine J_g 2 [(0,0)] [(0,sl 8 (Pack.enc false) a1),(1,sl 1 zF a2),(3,iv a4),(6,pp 0)] [(0,.box (Term.enc a3))] zB ?_
 refine J_d 12 [] [9] [(9,iv 0)] [] [] zB ?_
 refine uL (K0:=(fun r:Bool=>some (bv r,[]))) (fun _=>rfl) (zCD.ok a1 a2 a3 a4 q _ (fun v30=>J_j ?_) 0)
 refine J_g 14 [] [(8,bv false)] [] zB ?_
 exact yA rfl
def c138:Code:=cdB Tryz.f138
theorem zE6.ok (a1:(List Pack)) (a2:(List Int)) (a3:(List Term)) (q:Wd) (kn:Unit→Option (D×List Ent)) (hk:∀v:Unit,J (q.g Tryz.prog 138 0 21) c138 (atI c138 7) (St.mk' [] []) (some v) kn):
  ∀s10:Int,J (q.g Tryz.prog 138 0 21) c138 (atI c138 52) (St.mk' [(0,sl 8 (Pack.enc false) a1),(1,sl 1 zF a2),(2,sl 7 Term.enc a3),(7,iv s10)] []) (zE6 a1 a2 a3 s10) (Fl.go (fun r:Bool=>some (bv r,[])) kn):=by
 refine uM (fun g ih s10=>?_)
 unfold zD1
 refine J_d 208 [] [11] [(11,bv (decide (s10< (a3.length:Int))))] [] [] zB ?_
 refine zG 11 (fun h11=>?_) (fun h11=>?_)
 ·refine zA (fun x12 h13=>?_)
  refine zA (fun x14 h15=>?_)
  refine J_d 840 [] [11,20] [(20,bv x14)] [] [] (zD 4 (wM (kk:=.i64) 25 85 7 Term.enc (.tmp 16) (.tmp 17) h13) (zD 6 (yG [(.tmp 14),(.tmp 15),(.tmp 19),(.const (.int .i64 (-1)))] [24,34,85,2] (zAC.ok a1 a2 x12 (-1)) h15) zB)) ?_
  refine zG 20 (fun h16=>?_) (fun h16=>?_)
  ·refine J_g 3364 [] [(6,bv true)] [] zB ?_
   exact yA rfl
  ·refine J_d 211 [] [7,20] [(7,iv (w64 (s10+1)))] [] [] zB ?_
   exact J_q (J_b (ih (w64 (s10+1)))) rfl
 ·exact zN (hk ()) rfl
theorem zBt.ok (a1:(List Pack)) (a2:(List Int)) (a3:(List Term)):Ok Tryz.prog 138 [sl 8 (Pack.enc false) a1,sl 1 zF a2,sl 7 Term.enc a3] [] ((zBt a1 a2 a3).map fun r=>(bv r,[])):=by
 refine zJ c138 Tryz.f138 0 21 (fun q=>?_)
 unfold zBt
 refine J_g 2 [] [(0,sl 8 (Pack.enc false) a1),(1,sl 1 zF a2),(2,sl 7 Term.enc a3)] [] zB ?_
 refine J_d 12 [] [7] [(7,iv 0)] [] [] zB ?_
 refine uL (K0:=(fun r:Bool=>some (bv r,[]))) (fun _=>rfl) (zE6.ok a1 a2 a3 q _ (fun v17=>J_j ?_) 0)
 refine J_g 14 [] [(6,bv false)] [] zB ?_
 exact yA rfl
def c87:Code:=cdB Tryz.f87
theorem zCn.ok (a1:(List Pack)) (a3:(List Int)) (s45:Int) (x49:Pack) (q:Wd) (kn:Unit→Option (D×List Ent)) (hk:∀v:Unit,J (q.g Tryz.prog 87 1 65) c87 (aft c87 932) (St.mk' [(0,sl 8 (Pack.enc false) a1),(2,rr 0 a3),(8,iv s45)] [(0,rE 1 zF a3)]) (some v) kn):
  ∀s59:Int,J (q.g Tryz.prog 87 1 65) c87 (atI c87 14924) (St.mk' [(0,sl 8 (Pack.enc false) a1),(2,rr 0 a3),(8,iv s45),(9,pp 1),(10,iv s59)] [(0,rE 1 zF a3),(1,.box (Pack.enc false x49))]) (zCn a1 a3 s45 x49 s59) (Fl.go (fun r:(List Term)=>some (sl 7 Term.enc r,[rE 1 zF a3])) kn):=by
 refine uM (fun g ih s59=>?_)
 unfold zBo
 refine J_d 59696 [] [48] [(48,bv (decide (s59< (x49.Needs.length:Int))))] [] [] zB ?_
 refine zG 48 (fun h60=>?_) (fun h60=>?_)
 ·refine zA (fun x61 h62=>?_)
  refine zA (fun x63 h64=>?_)
  refine J_d 238792 [] [48,59] [(59,bv (!x63))] [] [] (zD 5 (wM (kk:=.i64) 87 25 1 (eSl false 7 Term.enc) (.tmp 54) (.tmp 55) h62) (zD 7 (xH («as»:=[sl 8 (Pack.enc false) a1,rr 0 a3,sl 7 Term.enc x61]) [(.tmp 51),(.tmp 52),(.tmp 57)] [24,34,25] true [(0,rE 1 zF a3)] [] (.cons (.same rfl) (.cons (zFJ (.head _) (fun _=>rfl) rfl) (.cons (.same rfl) (.nil)))) (zBt.ok a1 a3 x61) h64 (.same rfl rfl) (hbor:=fun _=>⟨fhN,wV⟩)) zB)) ?_
  refine zG 59 (fun h65=>?_) (fun h65=>?_)
  ·refine zA (fun x66 h67=>?_)
   refine J_g 955172 [] [(6,sl 7 Term.enc x66)] [(0,rE 1 zF a3)] (zD 3 (wM (kk:=.i64) 87 25 1 (eSl false 7 Term.enc) (.tmp 61) (.tmp 62) h67) zB) ?_
   exact yA rfl
  ·refine J_d 59699 [] [10,59] [(10,iv (w64 (s59+1)))] [] [] zB ?_
   exact J_q (J_b (ih (w64 (s59+1)))) rfl
 ·exact zN (hk ()) rfl
theorem zCc.ok (a1:(List Pack)) (a3:(List Int)) (q:Wd) (kn:Unit→Option (D×List Ent)) (hk:∀v:Unit,J (q.g Tryz.prog 87 1 65) c87 (atI c87 15) (St.mk' [] [(0,rE 1 zF a3)]) (some v) kn):
  ∀s45:Int,J (q.g Tryz.prog 87 1 65) c87 (atI c87 116) (St.mk' [(0,sl 8 (Pack.enc false) a1),(2,rr 0 a3),(8,iv s45)] [(0,rE 1 zF a3)]) (zCc a1 a3 s45) (Fl.go (fun r:(List Term)=>some (sl 7 Term.enc r,[rE 1 zF a3])) kn):=by
 refine uM (fun g ih s45=>?_)
 unfold zBc
 refine J_d 464 [] [34] [(34,bv (decide (s45< (a3.length:Int))))] [] [] zB ?_
 refine zG 34 (fun h46=>?_) (fun h46=>?_)
 ·refine zA (fun x47 h48=>?_)
  refine zA (fun x49 h50=>?_)
  refine J_g 1864 [(7,1)] [(0,sl 8 (Pack.enc false) a1),(2,rr 0 a3),(8,iv s45),(9,pp 1)] [(0,rE 1 zF a3),(1,.box (Pack.enc false x49))] (zD 3 (zAb (kk:=.i64) 34 2 1 0 zF (.tmp 38) (.tmp 39) h48) (zD 4 (zAa (d:=iv x47) 2 1 0 0 zF (.tmp 40) h48 (by kernel_rfl)) (zD 5 (wM (kk:=.i64) 24 89 8 (Pack.enc false) (.tmp 37) (.tmp 41) h50) zB))) ?_
  refine J_d 3730 [] [10] [(10,iv 0)] [] [] zB ?_
  refine uL (K0:=(fun r:(List Term)=>some (sl 7 Term.enc r,[rE 1 zF a3]))) (fun _=>rfl) (zCn.ok a1 a3 s45 x49 q _ (fun v68=>J_j ?_) 0)
  refine J_d 467 [] [8] [(8,iv (w64 (s45+1)))] [] [] zB ?_
  exact J_q (J_b (ih (w64 (s45+1)))) rfl
 ·exact zN (hk ()) rfl
theorem zBJ.ok (a1:(List Pack)) (a2:(List Term)) (a3:(List Int)) (q:Wd) (kn:Unit→Option (D×List Ent)) (hk:∀v:Unit,J (q.g Tryz.prog 87 1 65) c87 (atI c87 7) (St.mk' [(0,sl 8 (Pack.enc false) a1),(2,rr 0 a3)] [(0,rE 1 zF a3)]) (some v) kn):
  ∀s12:Int,J (q.g Tryz.prog 87 1 65) c87 (atI c87 52) (St.mk' [(0,sl 8 (Pack.enc false) a1),(1,sl 7 Term.enc a2),(2,rr 0 a3),(7,iv s12)] [(0,rE 1 zF a3)]) (zBJ a1 a2 a3 s12) (Fl.go (fun r:(List Term)=>some (sl 7 Term.enc r,[rE 1 zF a3])) kn):=by
 refine uM (fun g ih s12=>?_)
 unfold zBd
 refine J_d 208 [] [14] [(14,bv (decide (s12< (a2.length:Int))))] [] [] zB ?_
 refine zG 14 (fun h13=>?_) (fun h13=>?_)
 ·refine zA (fun x14 h15=>?_)
  refine zA (fun x16 h17=>?_)
  refine J_d 840 [] [14,25] [(25,bv (!x16))] [] [] (zD 6 (zQw 25 85 7 Term.enc (.tmp 19) (some (.tmp 20)) (some (.tmp 22)) h15) (zD 7 (xH («as»:=[sl 8 (Pack.enc false) a1,rr 0 a3,sl 7 Term.enc x14]) [(.tmp 17),(.tmp 18),(.tmp 23)] [24,34,25] true [(0,rE 1 zF a3)] [] (.cons (.same rfl) (.cons (zFJ (.head _) (fun _=>rfl) rfl) (.cons (.same rfl) (.nil)))) (zBt.ok a1 a3 x14) h17 (.same rfl rfl) (hbor:=fun _=>⟨fhN,wV⟩)) zB)) ?_
  refine zG 25 (fun h18=>?_) (fun h18=>?_)
  ·refine zA (fun x19 h20=>?_)
   refine J_g 3364 [] [(6,sl 7 Term.enc x19)] [(0,rE 1 zF a3)] (zD 4 (zQw 25 85 7 Term.enc (.tmp 26) (some (.tmp 27)) (some (.tmp 29)) h20) zB) ?_
   exact yA rfl
  ·refine J_d 211 [] [7,25] [(7,iv (w64 (s12+1)))] [] [] zB ?_
   exact J_q (J_b (ih (w64 (s12+1)))) rfl
 ·exact zN (hk ()) rfl
theorem zB6.ok (a1:(List Pack)) (a2:(List Term)) (a3:(List Int)):Ok Tryz.prog 87 [sl 8 (Pack.enc false) a1,sl 7 Term.enc a2,rr 0 a3] [rE 1 zF a3] ((zB6 a1 a2 a3).map fun r=>(sl 7 Term.enc r,[rE 1 zF a3])):=by
 refine zJ c87 Tryz.f87 1 65 (fun q=>?_)
 unfold zB6
 refine J_g 2 [] [(0,sl 8 (Pack.enc false) a1),(1,sl 7 Term.enc a2),(2,rr 0 a3)] [(0,rE 1 zF a3)] zB ?_
 refine J_d 12 [] [7] [(7,iv 0)] [] [] zB ?_
 refine uL (K0:=(fun r:(List Term)=>some (sl 7 Term.enc r,[rE 1 zF a3]))) (fun _=>rfl) (zBJ.ok a1 a2 a3 q _ (fun v21=>J_j ?_) 0)
 refine J_d 28 [] [8] [(8,iv 0)] [] [] zB ?_
 refine uL (K0:=(fun r:(List Term)=>some (sl 7 Term.enc r,[rE 1 zF a3]))) (fun _=>rfl) (zCc.ok a1 a3 q _ (fun v69=>J_j ?_) 0)
 refine J_g 30 [] [(6,nv)] [(0,rE 1 zF a3)] zB ?_
 exact zEO (ds:=[nv]) (ds':=[sl 7 Term.enc ([]:List Term)]) (.cons (.cell (.nilsl false 7 (.nil))) (.nil) (by decide)) rfl
def zQl:Code:=cdB Tryz.f132
theorem zEr.ok (a1:(List Int)) (a2:Int) (q:Wd) (kn:((List Int)×Bool)→Option (D×List Ent)) (hk:∀v:((List Int)×Bool),J (q.g Tryz.prog 132 0 43) zQl (atI zQl 31) (St.mk' [(1,iv a2),(5,rr 0 v.1),(6,bv v.2)] [(0,rE 1 zF v.1)]) (some v) kn):
  ∀s16:((List Int)×Bool×Int),J (q.g Tryz.prog 132 0 43) zQl (atI zQl 244) (St.mk' [(0,sl 1 zF a1),(1,iv a2),(5,rr 0 s16.1),(6,bv s16.2.1),(7,iv s16.2.2)] [(0,rE 1 zF s16.1)]) (zEr a1 a2 s16) kn:=by
 refine uM (fun g ih s16=>?_)
 unfold zD7
 refine J_d 976 [] [12] [(12,bv (decide (s16.2.2< (a1.length:Int))))] [] [] zB ?_
 refine zG 12 (fun h17=>?_) (fun h17=>?_)
 ·refine zA (fun x18 h19=>?_)
  refine zU (atI zQl 7825) (fun v21:Bool=>St.mk' [(0,sl 1 zF a1),(1,iv a2),(5,rr 0 s16.1),(6,bv s16.2.1),(7,iv s16.2.2),(24,bv v21)] [(0,rE 1 zF s16.1)]) (fun v21=>?_) (fun jv21=>?_)
  ·refine zU (atI zQl 3913) (fun v25:((List Int)×Bool)=>St.mk' [(0,sl 1 zF a1),(1,iv a2),(5,rr 2 v25.1),(6,bv v25.2),(7,iv s16.2.2)] [(2,rE 1 zF v25.1)]) (fun v25=>?_) (fun jv25=>?_)
   ·refine zA (fun x26 h27=>?_)
    refine zA (fun x28 h29=>?_)
    refine J_g 3913 [] [(0,sl 1 zF a1),(1,iv a2),(5,rr 4 x28),(6,bv v25.2),(7,iv s16.2.2)] [(4,rE 1 zF x28)] (zD 3 (wM (kk:=.i64) 34 2 1 zF (.tmp 30) (.tmp 31) h27) (zD 5 (vM 34 2 1 3 zF [x26] [0] [(.tmp 33)] [iv x26]) (zD 6 (zEQ 34 34 2 2 1 8 4 2 3 zF (.tmp 29) (.tmp 34) h29) zB))) ?_
    refine J_d 979 [] [7] [(7,iv (w64 (s16.2.2+1)))] [] [] zB ?_
    refine xV 4 0 (qB rfl) (qB rfl) ?_
    exact J_q (J_b (ih (x28,v25.2,w64 (s16.2.2+1)))) rfl
   ·refine zG 24 (fun h22=>?_) (fun h22=>?_)
    ·refine zA (fun x23 h24=>?_)
     refine J_g 31300 [] [(0,sl 1 zF a1),(1,iv a2),(5,rr 2 x23),(7,iv s16.2.2)] [(2,rE 1 zF x23)] (zD 2 (vM 34 2 1 1 zF [a2] [0] [(.tmp 26)] [iv a2]) (zD 3 (zEQ 34 34 2 2 1 8 2 0 1 zF (.tmp 25) (.tmp 27) h24) zB)) ?_
     refine J_d 31301 [] [6] [(6,bv true)] [] [] zB ?_
     exact zN (J_j (jv25 (x23,true))) rfl
    ·refine xV 0 2 (qB rfl) (qB rfl) ?_
     exact zN (J_j (jv25 (s16.1,s16.2.1))) rfl
  ·refine xB (fun h20=>?_) (fun h20=>?_)
   ·refine J_d 7824 [] [12,24] [(24,bv (!s16.2.1))] [] [] (zD 2 (wM (kk:=.i64) 34 2 1 zF (.tmp 15) (.tmp 16) h19) (yO 6 [(20,bv (decide (x18>a2)))] [] h20 zB)) ?_
    exact zN (J_j (jv21 (!s16.2.1))) rfl
   ·refine J_d 7824 [] [12,24] [(24,bv false)] [] [] (zD 2 (wM (kk:=.i64) 34 2 1 zF (.tmp 15) (.tmp 16) h19) (yO 6 [(20,bv (decide (x18>a2)))] [] h20 zB)) ?_
    exact zN (J_j (jv21 false)) rfl
 ·exact zN (hk (s16.1,s16.2.1)) rfl
theorem zCo.ok (a1:(List Int)) (a2:Int):Ok Tryz.prog 132 [sl 1 zF a1,iv a2] [] ((zCo a1 a2).map fun r=>(so 1 zF r,[])):=by
 refine zJ zQl Tryz.f132 0 43 (fun q=>?_)
 unfold zCo
 refine J_g 2 [] [(0,sl 1 zF a1),(1,iv a2)] [] zB ?_
 refine J_g 6 [] [(0,sl 1 zF a1),(1,iv a2),(5,rr 0 ([]:List Int))] [(0,rE 1 zF ([]:List Int))] (zD 0 (vM 34 2 1 0 zF ([]:List Int) [] [] []) zB) ?_
 refine J_g 14 [] [(0,sl 1 zF a1),(1,iv a2),(5,rr 0 ([]:List Int)),(6,bv false)] [(0,rE 1 zF ([]:List Int))] zB ?_
 refine J_d 60 [] [7] [(7,iv 0)] [] [] zB ?_
 refine zEx (zEr.ok a1 a2 q _ (fun v30=>J_j ?_) (([]:List Int),false,0))
 refine J_d 124 [] [6,37] [(37,bv (!v30.2))] [] [] zB ?_
 refine zU (atI zQl 63) (fun v34:(List Int)=>St.mk' [(5,rr 2 v34)] [(2,rE 1 zF v34)]) (fun v34=>?_) (fun jv34=>?_)
 ·refine J_g 126 [] [(4,rr 2 v34)] [(2,rE 1 zF v34)] zB ?_
  exact zEO (ds:=[rr 2 v34]) (ds':=[so 1 zF v34]) (.cons (.cell (.move (.head _) (qC _) (by decide) (.nil))) (.nil) (by decide)) rfl
 ·refine zG 37 (fun h31=>?_) (fun h31=>?_)
  ·refine zA (fun x32 h33=>?_)
   refine J_g 250 [] [(5,rr 2 x32)] [(2,rE 1 zF x32)] (zD 2 (vM 34 2 1 1 zF [a2] [0] [(.tmp 39)] [iv a2]) (zD 3 (zEQ 34 34 2 2 1 8 2 0 1 zF (.tmp 38) (.tmp 40) h33) zB)) ?_
   exact zN (J_j (jv34 x32)) rfl
  ·refine xV 0 2 (qB rfl) (qB rfl) ?_
   exact zN (J_j (jv34 v30.1)) rfl
def c88:Code:=cdB Tryz.f88
theorem zCi.ok (a1:(List Int)) (q:Wd) (kn:(List Int)→Option (D×List Ent)) (hk:∀v:(List Int),J (q.g Tryz.prog 88 0 19) c88 (atI c88 15) (St.mk' [(3,rr 0 v)] [(0,rE 1 zF v)]) (some v) kn):
  ∀s7:((List Int)×Int),J (q.g Tryz.prog 88 0 19) c88 (atI c88 116) (St.mk' [(0,sl 1 zF a1),(3,rr 0 s7.1),(4,iv s7.2)] [(0,rE 1 zF s7.1)]) (zCi a1 s7) kn:=by
 refine uM (fun g ih s7=>?_)
 unfold zBy
 refine J_d 464 [] [9] [(9,bv (decide (s7.2< (a1.length:Int))))] [] [] zB ?_
 refine zG 9 (fun h8=>?_) (fun h8=>?_)
 ·refine zA (fun x9 h10=>?_)
  refine zA (fun x11 h12=>?_)
  refine J_g 932 [] [(0,sl 1 zF a1),(3,rr 1 x11),(4,iv s7.2)] [(1,rE 1 zF x11)] (zD 3 (wM (kk:=.i64) 34 2 1 zF (.tmp 13) (.tmp 14) h10) (zD 5 (xH («as»:=[rr 0 s7.1,iv x9]) [(.tmp 12),(.tmp 16)] [34,2] true [(0,rE 1 zF s7.1)] [] (.cons (zFJ (.head _) (fun _=>rfl) rfl) (.cons (.same rfl) (.nil))) (zCo.ok s7.1 x9) h12 (.own 1) (hbor:=fun _=>⟨fhN,(zFY (zHH (fun _=>(flatK wV zIs)) _))⟩)) zB)) ?_
  refine J_d 467 [] [4] [(4,iv (w64 (s7.2+1)))] [] [] zB ?_
  refine xV 1 0 (qB rfl) (qB rfl) ?_
  exact J_q (J_b (ih (x11,w64 (s7.2+1)))) rfl
 ·exact zN (hk s7.1) rfl
theorem zBA.ok (a1:(List Int)):Ok Tryz.prog 88 [sl 1 zF a1] [] ((zBA a1).map fun r=>(so 1 zF r,[])):=by
 refine zJ c88 Tryz.f88 0 19 (fun q=>?_)
 unfold zBA
 refine J_g 2 [] [(0,sl 1 zF a1)] [] zB ?_
 refine J_g 6 [] [(0,sl 1 zF a1),(3,rr 0 ([]:List Int))] [(0,rE 1 zF ([]:List Int))] (zD 0 (vM 34 2 1 0 zF ([]:List Int) [] [] []) zB) ?_
 refine J_d 28 [] [4] [(4,iv 0)] [] [] zB ?_
 refine zEx (zCi.ok a1 q _ (fun v13=>J_j ?_) (([]:List Int),0))
 refine J_g 30 [] [(2,rr 0 v13)] [(0,rE 1 zF v13)] zB ?_
 exact zEO (ds:=[rr 0 v13]) (ds':=[so 1 zF v13]) (.cons (.cell (.move (.head _) (qC _) (by decide) (.nil))) (.nil) (by decide)) rfl
def c131:Code:=cdB Tryz.f131
theorem zEy.ok (a1:(List Int)) (a2:Int) (q:Wd) (kn:Unit→Option (D×List Ent)) (hk:∀v:Unit,J (q.g Tryz.prog 131 0 18) c131 (atI c131 7) (St.mk' [] []) (some v) kn):
  ∀s7:Int,J (q.g Tryz.prog 131 0 18) c131 (atI c131 52) (St.mk' [(0,sl 1 zF a1),(1,iv a2),(5,iv s7)] []) (zEy a1 a2 s7) (Fl.go (fun r:Bool=>some (bv r,[])) kn):=by
 refine uM (fun g ih s7=>?_)
 unfold zD5
 refine J_d 208 [] [9] [(9,bv (decide (s7< (a1.length:Int))))] [] [] zB ?_
 refine zG 9 (fun h8=>?_) (fun h8=>?_)
 ·refine zA (fun x9 h10=>?_)
  refine J_d 840 [] [9,17] [(17,bv (x9==a2))] [] [] (zD 2 (wM (kk:=.i64) 34 2 1 zF (.tmp 12) (.tmp 13) h10) zB) ?_
  refine zG 17 (fun h11=>?_) (fun h11=>?_)
  ·refine J_g 3364 [] [(4,bv true)] [] zB ?_
   exact yA rfl
  ·refine J_d 211 [] [5,17] [(5,iv (w64 (s7+1)))] [] [] zB ?_
   exact J_q (J_b (ih (w64 (s7+1)))) rfl
 ·exact zN (hk ()) rfl
theorem yX.ok (a1:(List Int)) (a2:Int):Ok Tryz.prog 131 [sl 1 zF a1,iv a2] [] ((yX a1 a2).map fun r=>(bv r,[])):=by
 refine zJ c131 Tryz.f131 0 18 (fun q=>?_)
 unfold yX
 refine J_g 2 [] [(0,sl 1 zF a1),(1,iv a2)] [] zB ?_
 refine J_d 12 [] [5] [(5,iv 0)] [] [] zB ?_
 refine uL (K0:=(fun r:Bool=>some (bv r,[]))) (fun _=>rfl) (zEy.ok a1 a2 q _ (fun v12=>J_j ?_) 0)
 refine J_g 14 [] [(4,bv false)] [] zB ?_
 exact yA rfl
def c168:Code:=cdB Tryz.f168
theorem zBe.ok (a1:(List Pack)) (a2:(List Term)) (a3:Int) (q:Wd) (kn:Unit→Option (D×List Ent)) (hk:∀v:Unit,J (q.g Tryz.prog 168 0 23) c168 (atI c168 7) (St.mk' [] []) (some v) kn):
  ∀s12:Int,J (q.g Tryz.prog 168 0 23) c168 (atI c168 52) (St.mk' [(0,sl 8 (Pack.enc false) a1),(1,sl 7 Term.enc a2),(2,iv a3),(7,iv s12)] []) (zBe a1 a2 a3 s12) (Fl.go (fun r:Bool=>some (bv r,[])) kn):=by
 refine uM (fun g ih s12=>?_)
 unfold zAy
 refine J_d 208 [] [11] [(11,bv (decide (s12< (a2.length:Int))))] [] [] zB ?_
 refine zG 11 (fun h13=>?_) (fun h13=>?_)
 ·refine zA (fun x14 h15=>?_)
  refine zA (fun x16 h17=>?_)
  refine zA (fun x18 h19=>?_)
  refine J_d 840 [] [11,22] [(22,bv x18)] [] [] (zD 2 (wM (kk:=.i64) 24 89 8 (Pack.enc false) (.tmp 14) (.tmp 15) h15) (zD 6 (wM (kk:=.i64) 25 85 7 Term.enc (.tmp 18) (.tmp 19) h17) (zD 8 (yG [(.tmp 17),(.tmp 21)] [89,85] (tJ.ok x14 x16) h19) zB))) ?_
  refine zG 22 (fun h20=>?_) (fun h20=>?_)
  ·refine J_g 3364 [] [(6,bv true)] [] zB ?_
   exact yA rfl
  ·refine J_d 211 [] [7,22] [(7,iv (w64 (s12+1)))] [] [] zB ?_
   exact J_q (J_b (ih (w64 (s12+1)))) rfl
 ·exact zN (hk ()) rfl
theorem vW.ok (a1:(List Pack)) (a2:(List Term)) (a3:Int):Ok Tryz.prog 168 [sl 8 (Pack.enc false) a1,sl 7 Term.enc a2,iv a3] [] ((vW a1 a2 a3).map fun r=>(bv r,[])):=by
 refine zJ c168 Tryz.f168 0 23 (fun q=>?_)
 unfold vW
 refine J_g 2 [] [(0,sl 8 (Pack.enc false) a1),(1,sl 7 Term.enc a2),(2,iv a3)] [] zB ?_
 refine J_d 12 [] [7] [(7,iv 0)] [] [] zB ?_
 refine uL (K0:=(fun r:Bool=>some (bv r,[]))) (fun _=>rfl) (zBe.ok a1 a2 a3 q _ (fun v21=>J_j ?_) 0)
 refine J_g 14 [] [(6,bv false)] [] zB ?_
 exact yA rfl
def zRr:Code:=cdB Tryz.f140
theorem zD6.ok (a1:(List Pack)) (a2:(List Int)) (a3:Int) (q:Wd) (kn:Unit→Option (D×List Ent)) (hk:∀v:Unit,J (q.g Tryz.prog 140 0 54) zRr (atI zRr 7) (St.mk' [] []) (some v) kn):
  ∀s27:Int,J (q.g Tryz.prog 140 0 54) zRr (atI zRr 52) (St.mk' [(0,sl 8 (Pack.enc false) a1),(1,sl 1 zF a2),(2,iv a3),(7,iv s27)] []) (zD6 a1 a2 a3 s27) (Fl.go (fun r:Bool=>some (bv r,[])) kn):=by
 refine uM (fun g ih s27=>?_)
 unfold zCO
 refine J_d 208 [] [11] [(11,bv (decide (s27< (a2.length:Int))))] [] [] zB ?_
 refine zG 11 (fun h28=>?_) (fun h28=>?_)
 ·refine zA (fun x29 h30=>?_)
  refine zA (fun x31 h32=>?_)
  refine zA (fun x33 h34=>?_)
  refine zU (atI zRr 841) (fun v49:Bool=>St.mk' [(0,sl 8 (Pack.enc false) a1),(1,sl 1 zF a2),(2,iv a3),(7,iv s27),(53,bv v49)] []) (fun v49=>?_) (fun jv49=>?_)
  ·refine zG 53 (fun h50=>?_) (fun h50=>?_)
   ·refine J_g 3364 [] [(6,bv false)] [] zB ?_
    exact yA rfl
   ·refine J_d 211 [] [7,53] [(7,iv (w64 (s27+1)))] [] [] zB ?_
    exact J_q (J_b (ih (w64 (s27+1)))) rfl
  ·refine xB (fun h35=>?_) (fun h35=>?_)
   ·refine J_d 840 [] [11,53] [(53,bv true)] [] [] (zD 3 (wM (kk:=.i64) 34 2 1 zF (.tmp 15) (.tmp 16) h30) (zD 5 (wM (kk:=.i64) 24 89 8 (Pack.enc false) (.tmp 14) (.tmp 18) h32) (zD 10 (wM (kk:=.i64) 24 89 8 (Pack.enc false) (.tmp 22) (.tmp 23) h34) (yO 14 [(27,bv (seq x31.Name x33.Name))] [] h35 zB)))) ?_
    exact zN (J_j (jv49 true)) rfl
   ·refine zA (fun x36 h37=>?_)
    refine zA (fun x38 h39=>?_)
    refine zA (fun x40 h41=>?_)
    refine xB (fun h42=>?_) (fun h42=>?_)
    ·refine J_d 840 [] [11,53] [(53,bv true)] [] [] (zD 3 (wM (kk:=.i64) 34 2 1 zF (.tmp 15) (.tmp 16) h30) (zD 5 (wM (kk:=.i64) 24 89 8 (Pack.enc false) (.tmp 14) (.tmp 18) h32) (zD 10 (wM (kk:=.i64) 24 89 8 (Pack.enc false) (.tmp 22) (.tmp 23) h34) (yO 14 [(27,bv (seq x31.Name x33.Name))] [] h35 (uD 19 14 28 false (wM (kk:=.i64) 34 2 1 zF (.tmp 31) (.tmp 32) h37) (uD 21 14 28 false (wM (kk:=.i64) 24 89 8 (Pack.enc false) (.tmp 30) (.tmp 34) h39) (uD 25 14 28 false (yG [(.tmp 29),(.tmp 37),(.tmp 38)] [24,25,2] (vW.ok a1 x38.Bars a3) h41) (yO 27 [(40,bv x40)] [] h42 zB)))))))) ?_
     exact zN (J_j (jv49 true)) rfl
    ·refine zA (fun x43 h44=>?_)
     refine zA (fun x45 h46=>?_)
     refine zA (fun x47 h48=>?_)
     refine J_d 840 [] [11,53] [(53,bv x47)] [] [] (zD 3 (wM (kk:=.i64) 34 2 1 zF (.tmp 15) (.tmp 16) h30) (zD 5 (wM (kk:=.i64) 24 89 8 (Pack.enc false) (.tmp 14) (.tmp 18) h32) (zD 10 (wM (kk:=.i64) 24 89 8 (Pack.enc false) (.tmp 22) (.tmp 23) h34) (yO 14 [(27,bv (seq x31.Name x33.Name))] [] h35 (uD 19 14 28 false (wM (kk:=.i64) 34 2 1 zF (.tmp 31) (.tmp 32) h37) (uD 21 14 28 false (wM (kk:=.i64) 24 89 8 (Pack.enc false) (.tmp 30) (.tmp 34) h39) (uD 25 14 28 false (yG [(.tmp 29),(.tmp 37),(.tmp 38)] [24,25,2] (vW.ok a1 x38.Bars a3) h41) (yO 27 [(40,bv x40)] [] h42 (uD 31 27 41 false (wM (kk:=.i64) 24 89 8 (Pack.enc false) (.tmp 43) (.tmp 44) h44) (uD 36 27 41 false (wM (kk:=.i64) 34 2 1 zF (.tmp 48) (.tmp 49) h46) (uD 38 27 41 false (yG [(.tmp 42),(.tmp 47),(.tmp 51)] [24,25,2] (vW.ok a1 x43.Bars x45) h48) zB))))))))))) ?_
     exact zN (J_j (jv49 x47)) rfl
 ·exact zN (hk ()) rfl
theorem zDT.ok (a1:(List Pack)) (a2:(List Int)) (a3:Int):Ok Tryz.prog 140 [sl 8 (Pack.enc false) a1,sl 1 zF a2,iv a3] [] ((zDT a1 a2 a3).map fun r=>(bv r,[])):=by
 refine zJ zRr Tryz.f140 0 54 (fun q=>?_)
 unfold zDT
 refine J_g 2 [] [(0,sl 8 (Pack.enc false) a1),(1,sl 1 zF a2),(2,iv a3)] [] zB ?_
 refine J_d 12 [] [7] [(7,iv 0)] [] [] zB ?_
 refine uL (K0:=(fun r:Bool=>some (bv r,[]))) (fun _=>rfl) (zD6.ok a1 a2 a3 q _ (fun v51=>J_j ?_) 0)
 refine J_g 14 [] [(6,bv true)] [] zB ?_
 exact yA rfl
def c141:Code:=cdB Tryz.f141
theorem zCP.ok (a1:(List Pack)) (a2:(List Int)) (a3:Int) (a4:Int):Ok Tryz.prog 141 [sl 8 (Pack.enc false) a1,sl 1 zF a2,iv a3,iv a4] [] ((zCP a1 a2 a3 a4).map fun r=>(bv r,[])):=by
 refine zJ c141 Tryz.f141 0 38 (fun q=>?_)
 unfold zCP
 refine J_d 2 [] [] [] [] [] zB ?_
 refine zA (fun x5 h6=>?_)
 refine zA (fun x7 h8=>?_)
 refine J_d 12 [] [16] [(16,bv (!(x5==x7)))] [] [] (zD 2 (yG [(.tmp 10),(.tmp 11)] [34,2] (yX.ok a2 a3) h6) (zD 5 (yG [(.tmp 13),(.tmp 14)] [34,2] (yX.ok a2 a4) h8) zB)) ?_
 refine zG 16 (fun h9=>?_) (fun h9=>?_)
 ·refine zA (fun x10 h11=>?_)
  refine J_g 52 [] [(8,bv x10)] [] (zD 2 (yG [(.tmp 17),(.tmp 18)] [34,2] (yX.ok a2 a3) h11) zB) ?_
  exact yA rfl
 ·refine zA (fun x12 h13=>?_)
  refine zA (fun x14 h15=>?_)
  refine zA (fun x16 h17=>?_)
  refine J_g 28 [] [(2,iv a3),(3,iv a4),(9,iv x16)] [] (zD 2 (wM (kk:=.i64) 24 89 8 (Pack.enc false) (.tmp 20) (.tmp 21) h13) (zD 7 (wM (kk:=.i64) 24 89 8 (Pack.enc false) (.tmp 25) (.tmp 26) h15) (zD 10 (yG [(.tmp 24),(.tmp 29)] [83,83] (zW.ok x12.Version x14.Version) h17) zB))) ?_
  refine J_d 58 [] [32] [(32,bv (x16 !=0))] [] [] zB ?_
  refine zG 32 (fun h18=>?_) (fun h18=>?_)
  ·refine J_g 236 [] [(8,bv (decide (x16>0)))] [] zB ?_
   exact yA rfl
  ·refine J_g 30 [] [(8,bv (decide (a3<a4)))] [] zB ?_
   exact yA rfl
def c89:Code:=cdB Tryz.f89
theorem vD.ok (a1:(List Pack)) (a2:(List Term)) (a3:(List Int)) (a4:(List Int)) (a5:(List Int)) (s62:((List Int)×Int)) (q:Wd) (kn:Int→Option (D×List Ent)) (hk:∀v:Int,J (q.g Tryz.prog 89 0 90) c89 (atI c89 29855) (St.mk' [(0,sl 8 (Pack.enc false) a1),(1,sl 7 Term.enc a2),(2,sl 1 zF a3),(3,sl 1 zF a4),(4,sl 1 zF a5),(11,rr 0 s62.1),(12,iv s62.2),(15,iv v)] [(0,rE 1 zF s62.1)]) (some v) kn):
  ∀s100:Int,J (q.g Tryz.prog 89 0 90) c89 (atI c89 119416) (St.mk' [(0,sl 8 (Pack.enc false) a1),(1,sl 7 Term.enc a2),(2,sl 1 zF a3),(3,sl 1 zF a4),(4,sl 1 zF a5),(11,rr 0 s62.1),(12,iv s62.2),(15,iv s100)] [(0,rE 1 zF s62.1)]) (vD a1 a2 a3 a4 a5 s62 s100) kn:=by
 refine uM (fun g ih s100=>?_)
 unfold zAv
 refine zU (atI c89 477665) (fun v106:Bool=>St.mk' [(0,sl 8 (Pack.enc false) a1),(1,sl 7 Term.enc a2),(2,sl 1 zF a3),(3,sl 1 zF a4),(4,sl 1 zF a5),(11,rr 0 s62.1),(12,iv s62.2),(15,iv s100),(74,bv v106)] [(0,rE 1 zF s62.1)]) (fun v106=>?_) (fun jv106=>?_)
 ·refine zG 74 (fun h107=>?_) (fun h107=>?_)
  ·refine J_d 477666 [] [15,74] [(15,iv (w64 (s100-1)))] [] [] zB ?_
   exact J_q (J_b (ih (w64 (s100-1)))) rfl
  ·exact zN (hk s100) rfl
 ·refine xB (fun h101=>?_) (fun h101=>?_)
  ·refine zA (fun x102 h103=>?_)
   refine zA (fun x104 h105=>?_)
   refine J_d 477664 [] [74] [(74,bv x104)] [] [] (yO 2 [(63,bv (decide (s100>0)))] [] h101 (uD 9 2 64 true (zAb (kk:=.i64) 34 2 1 0 zF (.tmp 68) (.tmp 70) h103) (uD 10 2 64 true (zAa (d:=iv x102) 2 1 0 0 zF (.tmp 71) h103 (by kernel_rfl)) (uD 11 2 64 true (yG [(.tmp 65),(.tmp 66),(.tmp 67),(.tmp 72)] [24,34,2,2] (zCP.ok a1 a5 s62.2 x102) h105) zB)))) ?_
   exact zN (J_j (jv106 x104)) rfl
  ·refine J_d 477664 [] [74] [(74,bv false)] [] [] (yO 2 [(63,bv (decide (s100>0)))] [] h101 zB) ?_
   exact zN (J_j (jv106 false)) rfl
theorem jN.ok (a1:(List Pack)) (a2:(List Term)) (a3:(List Int)) (a4:(List Int)) (a5:(List Int)) (s62:((List Int)×Int)) (q:Wd) (kn:Bool→Option (D×List Ent)) (hk:∀v:Bool,J (q.g Tryz.prog 89 0 90) c89 (atI c89 3731) (St.mk' [(0,sl 8 (Pack.enc false) a1),(1,sl 7 Term.enc a2),(2,sl 1 zF a3),(3,sl 1 zF a4),(4,sl 1 zF a5),(11,rr 0 s62.1),(12,iv s62.2),(13,bv v)] [(0,rE 1 zF s62.1)]) (some v) kn):
  ∀s71:(Bool×Int),J (q.g Tryz.prog 89 0 90) c89 (atI c89 29844) (St.mk' [(0,sl 8 (Pack.enc false) a1),(1,sl 7 Term.enc a2),(2,sl 1 zF a3),(3,sl 1 zF a4),(4,sl 1 zF a5),(11,rr 0 s62.1),(12,iv s62.2),(13,bv s71.1),(14,iv s71.2)] [(0,rE 1 zF s62.1)]) (jN a1 a2 a3 a4 a5 s62 s71) kn:=by
 refine uM (fun g ih s71=>?_)
 unfold tY
 refine J_d 119376 [] [26] [(26,bv (decide (s71.2< (a2.length:Int))))] [] [] zB ?_
 refine zG 26 (fun h72=>?_) (fun h72=>?_)
 ·refine zU (aft c89 238756) (fun v80:Bool=>St.mk' [(0,sl 8 (Pack.enc false) a1),(1,sl 7 Term.enc a2),(2,sl 1 zF a3),(3,sl 1 zF a4),(4,sl 1 zF a5),(11,rr 0 s62.1),(12,iv s62.2),(13,bv v80),(14,iv s71.2)] [(0,rE 1 zF s62.1)]) (fun v80=>?_) (fun jv80=>?_)
  ·refine J_d 119379 [] [14] [(14,iv (w64 (s71.2+1)))] [] [] zB ?_
   exact J_q (J_b (ih (v80,w64 (s71.2+1)))) rfl
  ·refine xB (fun h73=>?_) (fun h73=>?_)
   ·refine J_d 238756 [] [13,26] [(13,bv true)] [] [] (yO 1 [(29,bv s71.1)] [] h73 zB) ?_
    exact zN (J_j (jv80 true)) rfl
   ·refine zA (fun x74 h75=>?_)
    refine zA (fun x76 h77=>?_)
    refine zA (fun x78 h79=>?_)
    refine J_d 238756 [] [13,26] [(13,bv x78)] [] [] (yO 1 [(29,bv s71.1)] [] h73 (uD 4 1 30 false (wM (kk:=.i64) 24 89 8 (Pack.enc false) (.tmp 31) (.tmp 32) h75) (uD 8 1 30 false (wM (kk:=.i64) 25 85 7 Term.enc (.tmp 35) (.tmp 36) h77) (uD 10 1 30 false (yG [(.tmp 34),(.tmp 38)] [89,85] (tJ.ok x74 x76) h79) zB)))) ?_
    exact zN (J_j (jv80 x78)) rfl
 ·exact zN (hk s71.1) rfl
theorem jM.ok (a1:(List Pack)) (a2:(List Term)) (a3:(List Int)) (a4:(List Int)) (a5:(List Int)) (q:Wd) (kn:(List Int)→Option (D×List Ent)) (hk:∀v:(List Int),J (q.g Tryz.prog 89 0 90) c89 (atI c89 15) (St.mk' [(11,rr 0 v)] [(0,rE 1 zF v)]) (some v) kn):
  ∀s62:((List Int)×Int),J (q.g Tryz.prog 89 0 90) c89 (atI c89 116) (St.mk' [(0,sl 8 (Pack.enc false) a1),(1,sl 7 Term.enc a2),(2,sl 1 zF a3),(3,sl 1 zF a4),(4,sl 1 zF a5),(11,rr 0 s62.1),(12,iv s62.2)] [(0,rE 1 zF s62.1)]) (jM a1 a2 a3 a4 a5 s62) kn:=by
 refine uM (fun g ih s62=>?_)
 unfold tZ
 refine J_d 464 [] [20] [(20,bv (decide (s62.2< (a1.length:Int))))] [] [] zB ?_
 refine zG 20 (fun h63=>?_) (fun h63=>?_)
 ·refine J_g 1864 [] [(0,sl 8 (Pack.enc false) a1),(1,sl 7 Term.enc a2),(2,sl 1 zF a3),(3,sl 1 zF a4),(4,sl 1 zF a5),(11,rr 0 s62.1),(12,iv s62.2),(13,bv false)] [(0,rE 1 zF s62.1)] zB ?_
  refine J_d 7460 [] [14] [(14,iv 0)] [] [] zB ?_
  refine zEx (jN.ok a1 a2 a3 a4 a5 s62 q _ (fun v81=>J_j ?_) (false,0))
  refine zU (atI c89 14925) (fun v91:Bool=>St.mk' [(0,sl 8 (Pack.enc false) a1),(1,sl 7 Term.enc a2),(2,sl 1 zF a3),(3,sl 1 zF a4),(4,sl 1 zF a5),(11,rr 0 s62.1),(12,iv s62.2),(59,bv v91)] [(0,rE 1 zF s62.1)]) (fun v91=>?_) (fun jv91=>?_)
  ·refine zG 59 (fun h92=>?_) (fun h92=>?_)
   ·refine J_d 467 [] [12,59] [(12,iv (w64 (s62.2+1)))] [] [] zB ?_
    exact J_q (J_b (ih (s62.1,w64 (s62.2+1)))) rfl
   ·refine J_d 14926 [] [15,59] [(15,iv (s62.1.length:Int))] [] [] zB ?_
    refine zEx (vD.ok a1 a2 a3 a4 a5 s62 q _ (fun v108=>J_j ?_) (s62.1.length:Int))
    refine zA (fun x109 h110=>?_)
    refine zA (fun x111 h112=>?_)
    refine zA (fun x113 h114=>?_)
    refine zA (fun x115 h116=>?_)
    refine zA (fun x117 h118=>?_)
    refine J_g 29855 [] [(0,sl 8 (Pack.enc false) a1),(1,sl 7 Term.enc a2),(2,sl 1 zF a3),(3,sl 1 zF a4),(4,sl 1 zF a5),(11,rr 5 x117),(12,iv s62.2)] [(5,rE 1 zF x117)] (zD 0 (vM 34 2 1 1 zF ([]:List Int) [] [] []) (zD 3 (zPL 34 2 1 0 zF (.tmp 78) none (some (.tmp 79)) h110) (zD 4 (zQf (ys:=s62.1) (l:=0) (hi:=v108) 34 34 2 2 1 8 2 1 0 zF (.tmp 77) (.tmp 80) h110 h112) (zD 6 (vM 34 2 1 3 zF [s62.2] [0] [(.tmp 82)] [iv s62.2]) (zD 7 (zEQ 34 34 2 2 1 8 4 2 3 zF (.tmp 81) (.tmp 83) h114) (zD 10 (zPL 34 2 1 0 zF (.tmp 85) (some (.tmp 86)) none h116) (zD 11 (zQf (ys:=s62.1) (l:=v108) (hi:=(s62.1.length:Int)) 34 34 2 2 1 8 5 4 0 zF (.tmp 84) (.tmp 87) h116 h118) zB))))))) ?_
    refine J_d 467 [] [12] [(12,iv (w64 (s62.2+1)))] [] [] zB ?_
    refine xV 5 0 (qB rfl) (qB rfl) ?_
    exact J_q (J_b (ih (x117,w64 (s62.2+1)))) rfl
  ·refine xB (fun h82=>?_) (fun h82=>?_)
   ·refine J_d 14924 [] [13,59] [(59,bv true)] [] [] (yO 2 [(42,bv (!v81))] [] h82 zB) ?_
    exact zN (J_j (jv91 true)) rfl
   ·refine zA (fun x83 h84=>?_)
    refine xB (fun h85=>?_) (fun h85=>?_)
    ·refine J_d 14924 [] [13,59] [(59,bv true)] [] [] (yO 2 [(42,bv (!v81))] [] h82 (uD 5 2 43 false (yG [(.tmp 44),(.tmp 45)] [34,2] (yX.ok a3 s62.2) h84) (yO 7 [(47,bv x83)] [] h85 zB))) ?_
     exact zN (J_j (jv91 true)) rfl
    ·refine zA (fun x86 h87=>?_)
     refine xB (fun h88=>?_) (fun h88=>?_)
     ·refine J_d 14924 [] [13,59] [(59,bv true)] [] [] (yO 2 [(42,bv (!v81))] [] h82 (uD 5 2 43 false (yG [(.tmp 44),(.tmp 45)] [34,2] (yX.ok a3 s62.2) h84) (yO 7 [(47,bv x83)] [] h85 (uD 10 7 48 false (yG [(.tmp 49),(.tmp 50)] [34,2] (yX.ok a4 s62.2) h87) (yO 12 [(52,bv x86)] [] h88 zB))))) ?_
      exact zN (J_j (jv91 true)) rfl
     ·refine zA (fun x89 h90=>?_)
      refine J_d 14924 [] [13,59] [(59,bv (!x89))] [] [] (yO 2 [(42,bv (!v81))] [] h82 (uD 5 2 43 false (yG [(.tmp 44),(.tmp 45)] [34,2] (yX.ok a3 s62.2) h84) (yO 7 [(47,bv x83)] [] h85 (uD 10 7 48 false (yG [(.tmp 49),(.tmp 50)] [34,2] (yX.ok a4 s62.2) h87) (yO 12 [(52,bv x86)] [] h88 (uD 16 12 53 false (yG [(.tmp 54),(.tmp 55),(.tmp 56)] [24,34,2] (zDT.ok a1 a3 s62.2) h90) zB)))))) ?_
      exact zN (J_j (jv91 (!x89))) rfl
 ·exact zN (hk s62.1) rfl
theorem uU.ok (a1:(List Pack)) (a2:(List Term)) (a3:(List Int)) (a4:(List Int)) (a5:(List Int)):Ok Tryz.prog 89 [sl 8 (Pack.enc false) a1,sl 7 Term.enc a2,sl 1 zF a3,sl 1 zF a4,sl 1 zF a5] [] ((uU a1 a2 a3 a4 a5).map fun r=>(so 1 zF r,[])):=by
 refine zJ c89 Tryz.f89 0 90 (fun q=>?_)
 unfold uU
 refine J_g 2 [] [(0,sl 8 (Pack.enc false) a1),(1,sl 7 Term.enc a2),(2,sl 1 zF a3),(3,sl 1 zF a4),(4,sl 1 zF a5)] [] zB ?_
 refine J_g 6 [] [(0,sl 8 (Pack.enc false) a1),(1,sl 7 Term.enc a2),(2,sl 1 zF a3),(3,sl 1 zF a4),(4,sl 1 zF a5),(11,rr 0 ([]:List Int))] [(0,rE 1 zF ([]:List Int))] (zD 0 (vM 34 2 1 0 zF ([]:List Int) [] [] []) zB) ?_
 refine J_d 28 [] [12] [(12,iv 0)] [] [] zB ?_
 refine zEx (jM.ok a1 a2 a3 a4 a5 q _ (fun v119=>J_j ?_) (([]:List Int),0))
 refine J_g 30 [] [(10,rr 0 v119)] [(0,rE 1 zF v119)] zB ?_
 exact zEO (ds:=[rr 0 v119]) (ds':=[so 1 zF v119]) (.cons (.cell (.move (.head _) (qC _) (by decide) (.nil))) (.nil) (by decide)) rfl
def c39:Code:=cdB Tryz.f39
theorem zCF.ok (a1:(List Pack)) (a2:(List Term)) (a3:(List Int)) (a4:Int) (q:Wd) (kn:Unit→Option (D×List Ent)):
  ∀s53:((List yS)×(List Int)×Int),J (q.g Tryz.prog 39 0 79) c39 (atI c39 124) (St.mk' [(0,sl 8 (Pack.enc false) a1),(1,sl 7 Term.enc a2),(2,sl 1 zF a3),(3,iv a4),(8,pp 0),(9,rr 1 s53.1),(10,sl 1 zF s53.2.1),(11,iv s53.2.2)] [(0,.box [iv 0,iv 0,nv]),(1,rE 2 (yS.enc false) s53.1)]) (zCF a1 a2 a3 a4 s53) (Fl.go (fun r:SolveResult=>some (.ag [iv r.Code,iv r.Choices,so 1 zF r.Set],[])) kn):=by
 refine uM (fun g ih s53=>?_)
 unfold zBX
 refine zA (fun x54 h55=>?_)
 refine J_d 496 [] [12] [(12,rr 2 x54)] [2] [(2,rE 1 zF x54)] (zD 1 (xH («as»:=[rr 1 s53.1]) [(.tmp 18)] [126] true [(1,rE 2 (yS.enc false) s53.1)] [] (.cons (zFJ (.head _) (yS.ro false) rfl) (.nil)) (zBC.ok s53.1) h55 (.own 2) (hbor:=fun _=>⟨fhN,(zFY (zHH (fun _=>(flatK wV zIs)) _))⟩)) zB) ?_
 refine zA (fun x56 h57=>?_)
 refine J_g 994 [] [(0,sl 8 (Pack.enc false) a1),(1,sl 7 Term.enc a2),(2,sl 1 zF a3),(3,iv a4),(8,pp 0),(9,rr 1 s53.1),(10,sl 1 zF s53.2.1),(11,iv s53.2.2),(12,rr 2 x54),(13,sl 7 Term.enc x56)] [(0,.box [iv 0,iv 0,nv]),(1,rE 2 (yS.enc false) s53.1),(2,rE 1 zF x54)] (zD 3 (zH7 [(2,rE 1 zF x54)] [] (xH («as»:=[sl 8 (Pack.enc false) a1,sl 7 Term.enc a2,rr 2 x54]) [(.tmp 20),(.tmp 21),(.tmp 22)] [24,25,34] false [(2,rE 1 zF x54)] [2] (.cons (.same rfl) (.cons (.same rfl) (.cons (.rf rfl) (.nil)))) (zB6.ok a1 a2 x54) h57 (.same rfl rfl))) zB) ?_
 refine J_d 3980 [] [26] [(26,bv ((x56.length:Int)==0))] [] [] zB ?_
 refine zG 26 (fun h58=>?_) (fun h58=>?_)
 ·refine zA (fun x59 h60=>?_)
  refine J_g 15924 [] [(8,pp 0)] [(0,.box [iv 0,iv s53.2.2,rr 3 x59]),(3,rE 1 zF x59)] (zD 2 (xH («as»:=[rr 2 x54]) [(.tmp 28)] [34] true [(2,rE 1 zF x54)] [] (.cons (zFJ (.head _) (fun _=>rfl) rfl) (.nil)) (zBA.ok x54) h60 (.own 3) (hbor:=fun _=>⟨fhN,(zFY (zHH (fun _=>(flatK wV zIs)) _))⟩)) zB) ?_
  exact zEO (ds:=[.ag [iv 0,iv s53.2.2,rr 3 x59]]) (ds':=[.ag [iv 0,iv s53.2.2,so 1 zF x59]]) (.cons (.ag (.keep rfl (.keep rfl (.move (.tail _ (.head _)) (qC _) (by decide) (.nil))))) (.nil) (by decide)) rfl
 ·refine zA (fun x61 h62=>?_)
  refine J_g 3982 [] [(0,sl 8 (Pack.enc false) a1),(1,sl 7 Term.enc a2),(2,sl 1 zF a3),(3,iv a4),(8,pp 0),(9,rr 1 s53.1),(10,sl 1 zF s53.2.1),(11,iv s53.2.2),(14,rr 3 x61)] [(0,.box [iv 0,iv 0,nv]),(1,rE 2 (yS.enc false) s53.1),(3,rE 1 zF x61)] (zD 5 (xH («as»:=[sl 8 (Pack.enc false) a1,sl 7 Term.enc x56,rr 2 x54,sl 1 zF s53.2.1,sl 1 zF a3]) [(.tmp 31),(.tmp 32),(.tmp 33),(.tmp 34),(.tmp 35)] [24,25,34,34,34] true [(2,rE 1 zF x54)] [] (.cons (.same rfl) (.cons (.same rfl) (.cons (zFJ (.head _) (fun _=>rfl) rfl) (.cons (.same rfl) (.cons (.same rfl) (.nil)))))) (uU.ok a1 x56 x54 s53.2.1 a3) h62 (.own 3) (hbor:=fun _=>⟨fhN,(zFY (zHH (fun _=>(flatK wV zIs)) _))⟩)) zB) ?_
  refine J_d 15932 [] [39] [(39,bv (decide ((x61.length:Int)>0)))] [] [] zB ?_
  refine zG 39 (fun h63=>?_) (fun h63=>?_)
  ·refine J_d 127464 [] [39,42] [(42,bv (s53.2.2==a4))] [] [] zB ?_
   refine zG 42 (fun h64=>?_) (fun h64=>?_)
   ·refine J_g 509860 [] [(8,pp 0)] [(0,.box [iv 7,iv s53.2.2,nv])] zB ?_
    exact zEO (ds:=[.ag [iv 7,iv s53.2.2,nv]]) (ds':=[.ag [iv 7,iv s53.2.2,so 1 zF ([]:List Int)]]) (.cons (.ag (.keep rfl (.keep rfl (.nilsl true 1 (.nil))))) (.nil) (by decide)) rfl
   ·refine J_d 127466 [] [11,42] [(11,iv (w64 (s53.2.2+1)))] [] [] zB ?_
    refine zA (fun x65 h66=>?_)
    refine zA (fun x67 h68=>?_)
    refine J_d 254934 [] [9,14] [(9,rr 5 x67)] [1,3,5] [(5,rE 2 (yS.enc false) x67)] (zD 2 (zAb (kk:=.i64) 34 2 1 3 zF (.tmp 48) (.const (.int .i64 0)) h66) (zD 3 (zAa (d:=iv x65) 2 1 3 0 zF (.tmp 49) h66 (by kernel_rfl)) (zD 6 (vM 126 132 2 4 (yS.enc false) [({Pack:=x65,Denied:=s53.2.1}:yS)] [0] [(.tmp 52)] [.ag [iv x65,sl 1 zF s53.2.1]]) (zD 7 (zEQ 126 126 132 132 2 32 5 1 4 (yS.enc false) (.tmp 47) (.tmp 53) h68) zB)))) ?_
    refine xV 5 1 (qB rfl) (qB rfl) ?_
    exact J_q (J_b (ih (x67,s53.2.1,w64 (s53.2.2+1)))) rfl
  ·refine J_d 31868 [] [10,14,39,57] [(57,bv ((s53.1.length:Int)==0))] [3] [] zB ?_
   refine zG 57 (fun h69=>?_) (fun h69=>?_)
   ·refine J_g 127476 [] [(8,pp 0)] [(0,.box [iv 4,iv s53.2.2,nv])] zB ?_
    exact zEO (ds:=[.ag [iv 4,iv s53.2.2,nv]]) (ds':=[.ag [iv 4,iv s53.2.2,so 1 zF ([]:List Int)]]) (.cons (.ag (.keep rfl (.keep rfl (.nilsl true 1 (.nil))))) (.nil) (by decide)) rfl
   ·refine zA (fun x70 h71=>?_)
    refine J_d 31870 [(6,2)] [15,57] [(15,pp 2)] [2] [(2,.box (yS.enc false x70))] (zD 4 (zAb (kk:=.i64) 126 132 2 1 (yS.enc false) (.tmp 60) (.tmp 63) h71) (zD 5 (zAa (d:=.ag (yS.enc false x70)) 132 2 1 0 (yS.enc false) (.tmp 64) h71 (by kernel_rfl)) zB)) ?_
    refine zA (fun x72 h73=>?_)
    refine J_d 63742 [] [9] [(9,rr 3 x72)] [1,3] [(3,rE 2 (yS.enc false) x72)] (zD 4 (zQK 126 132 2 1 3 (yS.enc false) (.tmp 66) none (some (.tmp 69)) h73) zB) ?_
    refine zA (fun x74 h75=>?_)
    refine zA (fun x76 h77=>?_)
    refine J_d 63743 [] [10,15] [(10,rr 7 x76)] [2,7] [(7,rE 1 zF x76)] (zD 0 (vM 34 2 1 4 zF ([]:List Int) [] [] []) (zD 3 (zQ9 34 34 2 2 1 8 5 4 zF (.tmp 71) (.tmp 73) h75) (zD 6 (vM 34 2 1 6 zF [x70.Pack] [0] [(.tmp 76)] [iv x70.Pack]) (zD 7 (zEQ 34 34 2 2 1 8 7 5 6 zF (.tmp 74) (.tmp 77) h77) zB)))) ?_
    refine vB [(0,sl 8 (Pack.enc false) a1),(1,sl 7 Term.enc a2),(2,sl 1 zF a3),(3,iv a4),(8,pp 0),(9,rr 3 x72),(10,rr 7 x76),(11,iv s53.2.2)] [(7,rE 1 zF x76),(0,.box [iv 0,iv 0,nv]),(3,rE 2 (yS.enc false) x72)] (by kernel_rfl) ?_
    refine zEc 7 (z:=1) (xs:=x76.map zF) (tm2:=[(0,sl 8 (Pack.enc false) a1),(1,sl 7 Term.enc a2),(2,sl 1 zF a3),(3,iv a4),(8,pp 0),(9,rr 3 x72),(10,sl 1 zF x76),(11,iv s53.2.2)]) (hp2:=[(0,.box [iv 0,iv 0,nv]),(3,rE 2 (yS.enc false) x72)]) (.cons (.keep rfl) (.cons (.keep rfl) (.cons (.keep rfl) (.cons (.keep rfl) (.cons (.keep rfl) (.cons (.keep rfl) (.cons (.rf (by simp) (jG (enc:=zF) (enc':=zF) (fun _=>rfl) x76 rfl rfl)) (.cons (.keep rfl) (.nil))))))))) (.keep rfl (.keep rfl (.nil))) rfl ?_
    refine xV 3 1 (qB rfl) (qB rfl) ?_
    exact J_q (J_b (ih (x72,x76,s53.2.2))) rfl
theorem vN.ok (a1:(List Pack)) (a2:(List Term)) (a3:(List Int)) (a4:Int):Ok Tryz.prog 39 [sl 8 (Pack.enc false) a1,sl 7 Term.enc a2,sl 1 zF a3,iv a4] [] ((vN a1 a2 a3 a4).map fun r=>(.ag [iv r.Code,iv r.Choices,so 1 zF r.Set],[])):=by
 refine zJ c39 Tryz.f39 0 79 (fun q=>?_)
 unfold vN
 refine J_g 2 [(0,0)] [(0,sl 8 (Pack.enc false) a1),(1,sl 7 Term.enc a2),(2,sl 1 zF a3),(3,iv a4),(8,pp 0)] [(0,.box [iv 0,iv 0,nv])] zB ?_
 refine J_g 6 [] [(0,sl 8 (Pack.enc false) a1),(1,sl 7 Term.enc a2),(2,sl 1 zF a3),(3,iv a4),(8,pp 0),(9,rr 1 ([]:List yS))] [(0,.box [iv 0,iv 0,nv]),(1,rE 2 (yS.enc false) ([]:List yS))] (zD 0 (vM 126 132 2 1 (yS.enc false) ([]:List yS) [] [] []) zB) ?_
 refine J_g 14 [] [(0,sl 8 (Pack.enc false) a1),(1,sl 7 Term.enc a2),(2,sl 1 zF a3),(3,iv a4),(8,pp 0),(9,rr 1 ([]:List yS)),(10,rr 2 ([]:List Int))] [(0,.box [iv 0,iv 0,nv]),(1,rE 2 (yS.enc false) ([]:List yS)),(2,rE 1 zF ([]:List Int))] (zD 0 (vM 34 2 1 2 zF ([]:List Int) [] [] []) zB) ?_
 refine J_d 30 [] [11] [(11,iv 0)] [] [] zB ?_
 refine vB [(0,sl 8 (Pack.enc false) a1),(1,sl 7 Term.enc a2),(2,sl 1 zF a3),(3,iv a4),(8,pp 0),(9,rr 1 ([]:List yS)),(10,rr 2 ([]:List Int)),(11,iv 0)] [(2,rE 1 zF ([]:List Int)),(0,.box [iv 0,iv 0,nv]),(1,rE 2 (yS.enc false) ([]:List yS))] (by kernel_rfl) ?_
 refine zEc 2 (z:=1) (xs:=([]:List Int).map zF) (tm2:=[(0,sl 8 (Pack.enc false) a1),(1,sl 7 Term.enc a2),(2,sl 1 zF a3),(3,iv a4),(8,pp 0),(9,rr 1 ([]:List yS)),(10,sl 1 zF ([]:List Int)),(11,iv 0)]) (hp2:=[(0,.box [iv 0,iv 0,nv]),(1,rE 2 (yS.enc false) ([]:List yS))]) (.cons (.keep rfl) (.cons (.keep rfl) (.cons (.keep rfl) (.cons (.keep rfl) (.cons (.keep rfl) (.cons (.keep rfl) (.cons (.rf (by simp) (jG (enc:=zF) (enc':=zF) (fun _=>rfl) ([]:List Int) rfl rfl)) (.cons (.keep rfl) (.nil))))))))) (.keep rfl (.keep rfl (.nil))) rfl ?_
 exact uL (K0:=(fun r:SolveResult=>some (.ag [iv r.Code,iv r.Choices,so 1 zF r.Set],[]))) (fun _=>rfl) (zCF.ok a1 a2 a3 a4 q _ (([]:List yS),([]:List Int),0))
def c69:Code:=cdB Tryz.f69
theorem zEh.ok (a1:Int) (a2:Int):Ok Tryz.prog 69 [iv a1,iv a2] [] ((zEh a1 a2).map fun r=>(iv r,[])):=by
 refine zJ c69 Tryz.f69 0 10 (fun q=>?_)
 unfold zEh
 refine J_g 2 [] [(0,iv a1),(1,iv a2)] [] zB ?_
 refine J_d 12 [] [7] [(7,bv (decide (a1>a2)))] [] [] zB ?_
 refine zG 7 (fun h3=>?_) (fun h3=>?_)
 ·refine J_g 52 [] [(4,iv a1)] [] zB ?_
  exact yA rfl
 ·refine J_g 14 [] [(4,iv a2)] [] zB ?_
  exact yA rfl
def c90:Code:=cdB Tryz.f90
theorem zBV.ok (a1:(List Pack)) (a2:(List Int)) (s82:((List yU)×Int)) (x86:Pack) (q:Wd) (kn:(List yU)→Option (D×List Ent)) (hk:∀v:(List yU),J (q.g Tryz.prog 90 0 103) c90 (aft c90 932) (St.mk' [(0,sl 8 (Pack.enc false) a1),(1,sl 1 zF a2),(5,rr 0 v),(6,iv s82.2)] [(0,rE 3 yU.enc v)]) (some v) kn):
  ∀s147:((List yU)×Int),J (q.g Tryz.prog 90 0 103) c90 (atI c90 59708) (St.mk' [(0,sl 8 (Pack.enc false) a1),(1,sl 1 zF a2),(5,rr 0 s147.1),(6,iv s82.2),(7,pp 1),(10,iv s147.2)] [(0,rE 3 yU.enc s147.1),(1,.box (Pack.enc false x86))]) (zBV a1 a2 s82 x86 s147) kn:=by
 refine uM (fun g ih s147=>?_)
 unfold zBa
 refine J_d 238832 [] [78] [(78,bv (decide (s147.2< (x86.Bars.length:Int))))] [] [] zB ?_
 refine zG 78 (fun h148=>?_) (fun h148=>?_)
 ·refine zA (fun x149 h150=>?_)
  refine zA (fun x151 h152=>?_)
  refine zA (fun x153 h154=>?_)
  refine J_d 955336 [] [78,92] [(92,bv x153)] [] [] (zD 5 (wM (kk:=.i64) 25 85 7 Term.enc (.tmp 84) (.tmp 85) h150) (zD 9 (wM (kk:=.i64) 34 2 1 zF (.tmp 88) (.tmp 89) h152) (zD 11 (yG [(.tmp 81),(.tmp 82),(.tmp 87),(.tmp 91)] [24,34,85,2] (zAC.ok a1 a2 x149 x151) h154) zB))) ?_
  refine zU (aft c90 477668) (fun v160:(List yU)=>St.mk' [(0,sl 8 (Pack.enc false) a1),(1,sl 1 zF a2),(5,rr 3 v160),(6,iv s82.2),(7,pp 1),(10,iv s147.2)] [(1,.box (Pack.enc false x86)),(3,rE 3 yU.enc v160)]) (fun v160=>?_) (fun jv160=>?_)
  ·refine J_d 238835 [] [10] [(10,iv (w64 (s147.2+1)))] [] [] zB ?_
   refine xV 3 0 (qB rfl) (qB rfl) ?_
   exact J_q (J_b (ih (v160,w64 (s147.2+1)))) rfl
  ·refine zG 92 (fun h155=>?_) (fun h155=>?_)
   ·refine zA (fun x156 h157=>?_)
    refine zA (fun x158 h159=>?_)
    refine J_d 1910674 [] [5,92] [(5,rr 3 x158)] [0,3] [(3,rE 3 yU.enc x158)] (zD 3 (wM (kk:=.i64) 34 2 1 zF (.tmp 94) (.tmp 95) h157) (zD 7 (vM 133 140 3 2 yU.enc [({Kind:=3,Pack:=x156,At:=s147.2}:yU)] [0] [(.tmp 99)] [.ag [iv 3,iv x156,iv s147.2]]) (zD 8 (zEQ 133 133 140 140 3 24 3 0 2 yU.enc (.tmp 93) (.tmp 100) h159) zB))) ?_
    exact zN (J_j (jv160 x158)) rfl
   ·refine xV 0 3 (qB rfl) (qB rfl) ?_
    exact zN (J_j (jv160 s147.1)) rfl
 ·exact zN (hk s147.1) rfl
theorem zCl.ok (a1:(List Pack)) (a2:(List Int)) (s82:((List yU)×Int)) (x86:Pack) (q:Wd) (kn:(List yU)→Option (D×List Ent)) (hk:∀v:(List yU),J (q.g Tryz.prog 90 0 103) c90 (atI c90 7463) (St.mk' [(0,sl 8 (Pack.enc false) a1),(1,sl 1 zF a2),(5,rr 0 v),(6,iv s82.2),(7,pp 1)] [(0,rE 3 yU.enc v),(1,.box (Pack.enc false x86))]) (some v) kn):
  ∀s121:((List yU)×Int),J (q.g Tryz.prog 90 0 103) c90 (atI c90 59700) (St.mk' [(0,sl 8 (Pack.enc false) a1),(1,sl 1 zF a2),(5,rr 0 s121.1),(6,iv s82.2),(7,pp 1),(9,iv s121.2)] [(0,rE 3 yU.enc s121.1),(1,.box (Pack.enc false x86))]) (zCl a1 a2 s82 x86 s121) kn:=by
 refine uM (fun g ih s121=>?_)
 unfold zBm
 refine J_d 238800 [] [53] [(53,bv (decide (s121.2< (x86.Needs.length:Int))))] [] [] zB ?_
 refine zG 53 (fun h122=>?_) (fun h122=>?_)
 ·refine zA (fun x123 h124=>?_)
  refine zA (fun x125 h126=>?_)
  refine J_d 955208 [] [53,64] [(64,bv (!x125))] [] [] (zD 5 (wM (kk:=.i64) 87 25 1 (eSl false 7 Term.enc) (.tmp 59) (.tmp 60) h124) (zD 7 (yG [(.tmp 56),(.tmp 57),(.tmp 62)] [24,34,25] (zBt.ok a1 a2 x123) h126) zB)) ?_
  refine zU (aft c90 477604) (fun v132:(List yU)=>St.mk' [(0,sl 8 (Pack.enc false) a1),(1,sl 1 zF a2),(5,rr 3 v132),(6,iv s82.2),(7,pp 1),(9,iv s121.2)] [(1,.box (Pack.enc false x86)),(3,rE 3 yU.enc v132)]) (fun v132=>?_) (fun jv132=>?_)
  ·refine J_d 238803 [] [9] [(9,iv (w64 (s121.2+1)))] [] [] zB ?_
   refine xV 3 0 (qB rfl) (qB rfl) ?_
   exact J_q (J_b (ih (v132,w64 (s121.2+1)))) rfl
  ·refine zG 64 (fun h127=>?_) (fun h127=>?_)
   ·refine zA (fun x128 h129=>?_)
    refine zA (fun x130 h131=>?_)
    refine J_d 1910418 [] [5,64] [(5,rr 3 x130)] [0,3] [(3,rE 3 yU.enc x130)] (zD 3 (wM (kk:=.i64) 34 2 1 zF (.tmp 66) (.tmp 67) h129) (zD 7 (vM 133 140 3 2 yU.enc [({Kind:=2,Pack:=x128,At:=s121.2}:yU)] [0] [(.tmp 71)] [.ag [iv 2,iv x128,iv s121.2]]) (zD 8 (zEQ 133 133 140 140 3 24 3 0 2 yU.enc (.tmp 65) (.tmp 72) h131) zB))) ?_
    exact zN (J_j (jv132 x130)) rfl
   ·refine xV 0 3 (qB rfl) (qB rfl) ?_
    exact zN (J_j (jv132 s121.1)) rfl
 ·exact zN (hk s121.1) rfl
theorem zAh.ok (a1:(List Pack)) (a2:(List Int)) (s82:((List yU)×Int)) (x86:Pack) (q:Wd) (kn:(List yU)→Option (D×List Ent)) (hk:∀v:(List yU),J (q.g Tryz.prog 90 0 103) c90 (atI c90 3731) (St.mk' [(0,sl 8 (Pack.enc false) a1),(1,sl 1 zF a2),(5,rr 0 v),(6,iv s82.2),(7,pp 1)] [(0,rE 3 yU.enc v),(1,.box (Pack.enc false x86))]) (some v) kn):
  ∀s98:Int,J (q.g Tryz.prog 90 0 103) c90 (atI c90 29844) (St.mk' [(0,sl 8 (Pack.enc false) a1),(1,sl 1 zF a2),(5,rr 0 s82.1),(6,iv s82.2),(7,pp 1),(8,iv s98)] [(0,rE 3 yU.enc s82.1),(1,.box (Pack.enc false x86))]) (zAh a1 a2 s82 x86 s98) kn:=by
 refine uM (fun g ih s98=>?_)
 unfold zBl
 refine J_d 119376 [] [27] [(27,bv (decide (s98<s82.2)))] [] [] zB ?_
 refine zG 27 (fun h99=>?_) (fun h99=>?_)
 ·refine zA (fun x100 h101=>?_)
  refine zA (fun x102 h103=>?_)
  refine J_d 477512 [] [27,40] [(40,bv (seq x102.Name x86.Name))] [] [] (zD 3 (wM (kk:=.i64) 34 2 1 zF (.tmp 31) (.tmp 32) h101) (zD 5 (wM (kk:=.i64) 24 89 8 (Pack.enc false) (.tmp 30) (.tmp 34) h103) zB)) ?_
  refine zG 40 (fun h104=>?_) (fun h104=>?_)
  ·refine zA (fun x105 h106=>?_)
   refine zA (fun x107 h108=>?_)
   refine J_d 1910052 [] [5,8,40] [(5,rr 3 x107)] [0,3] [(3,rE 3 yU.enc x107)] (zD 3 (wM (kk:=.i64) 34 2 1 zF (.tmp 42) (.tmp 43) h106) (zD 6 (vM 133 140 3 2 yU.enc [({Kind:=1,Pack:=x105,At:=0}:yU)] [0] [(.tmp 46)] [.ag [iv 1,iv x105,iv 0]]) (zD 7 (zEQ 133 133 140 140 3 24 3 0 2 yU.enc (.tmp 41) (.tmp 47) h108) zB))) ?_
   refine xV 3 0 (qB rfl) (qB rfl) ?_
   exact zN (hk x107) rfl
  ·refine J_d 119379 [] [8,40] [(8,iv (w64 (s98+1)))] [] [] zB ?_
   exact J_q (J_b (ih (w64 (s98+1)))) rfl
 ·exact zN (hk s82.1) rfl
theorem zBS.ok (a1:(List Pack)) (a2:(List Int)) (q:Wd) (kn:(List yU)→Option (D×List Ent)) (hk:∀v:(List yU),J (q.g Tryz.prog 90 0 103) c90 (atI c90 15) (St.mk' [(5,rr 0 v)] [(0,rE 3 yU.enc v)]) (some v) kn):
  ∀s82:((List yU)×Int),J (q.g Tryz.prog 90 0 103) c90 (atI c90 116) (St.mk' [(0,sl 8 (Pack.enc false) a1),(1,sl 1 zF a2),(5,rr 0 s82.1),(6,iv s82.2)] [(0,rE 3 yU.enc s82.1)]) (zBS a1 a2 s82) kn:=by
 refine uM (fun g ih s82=>?_)
 unfold zB1
 refine J_d 464 [] [15] [(15,bv (decide (s82.2< (a2.length:Int))))] [] [] zB ?_
 refine zG 15 (fun h83=>?_) (fun h83=>?_)
 ·refine zA (fun x84 h85=>?_)
  refine zA (fun x86 h87=>?_)
  refine J_g 1864 [(7,1)] [(0,sl 8 (Pack.enc false) a1),(1,sl 1 zF a2),(5,rr 0 s82.1),(6,iv s82.2),(7,pp 1)] [(0,rE 3 yU.enc s82.1),(1,.box (Pack.enc false x86))] (zD 3 (wM (kk:=.i64) 34 2 1 zF (.tmp 19) (.tmp 20) h85) (zD 5 (wM (kk:=.i64) 24 89 8 (Pack.enc false) (.tmp 18) (.tmp 22) h87) zB)) ?_
  refine J_d 7460 [] [8] [(8,iv 0)] [] [] zB ?_
  refine zEx (zAh.ok a1 a2 s82 x86 q _ (fun v109=>J_j ?_) 0)
  refine J_d 14924 [] [9] [(9,iv 0)] [] [] zB ?_
  refine zEx (zCl.ok a1 a2 s82 x86 q _ (fun v133=>J_j ?_) (v109,0))
  refine J_d 14926 [] [10] [(10,iv 0)] [] [] zB ?_
  refine zEx (zBV.ok a1 a2 s82 x86 q _ (fun v161=>J_j ?_) (v133,0))
  refine J_d 467 [] [6] [(6,iv (w64 (s82.2+1)))] [] [] zB ?_
  exact J_q (J_b (ih (v161,w64 (s82.2+1)))) rfl
 ·exact zN (hk s82.1) rfl
theorem uI.ok (a1:(List Pack)) (a2:(List Int)):Ok Tryz.prog 90 [sl 8 (Pack.enc false) a1,sl 1 zF a2] [] ((uI a1 a2).map fun r=>(so 3 yU.enc r,[])):=by
 refine zJ c90 Tryz.f90 0 103 (fun q=>?_)
 unfold uI
 refine J_g 2 [] [(0,sl 8 (Pack.enc false) a1),(1,sl 1 zF a2)] [] zB ?_
 refine J_g 6 [] [(0,sl 8 (Pack.enc false) a1),(1,sl 1 zF a2),(5,rr 0 ([]:List yU))] [(0,rE 3 yU.enc ([]:List yU))] (zD 0 (vM 133 140 3 0 yU.enc ([]:List yU) [] [] []) zB) ?_
 refine J_d 28 [] [6] [(6,iv 0)] [] [] zB ?_
 refine zEx (zBS.ok a1 a2 q _ (fun v162=>J_j ?_) (([]:List yU),0))
 refine J_g 30 [] [(4,rr 0 v162)] [(0,rE 3 yU.enc v162)] zB ?_
 exact zEO (ds:=[rr 0 v162]) (ds':=[so 3 yU.enc v162]) (.cons (.cell (.move (.head _) (qC _) (by decide) (.nil))) (.nil) (by decide)) rfl
def c42:Code:=cdB Tryz.f42
theorem kD.ok (a2:(List Pack)) (x19:(Bool×zC)) (s53:(List Int)) (x59:yU) (q:Wd) (kn:(List Int)→Option (D×List Ent)) (hk:∀v:(List Int),J (q.g Tryz.prog 42 1 73) c42 (atI c42 15639) (St.mk' [(0,pp 0),(1,sl 8 (Pack.enc false) a2),(8,rr 4 v)] [(0,.box (zC.enc false x19.2)),(4,rE 1 zF v)]) (some v) kn):
  ∀s70:((List Int)×Int),J (q.g Tryz.prog 42 1 73) c42 (atI c42 125108) (St.mk' [(0,pp 0),(1,sl 8 (Pack.enc false) a2),(5,rr 1 s53),(7,pp 3),(8,rr 4 s70.1),(9,iv s70.2)] [(0,.box (zC.enc false x19.2)),(1,rE 1 zF s53),(3,.box (yU.enc x59)),(4,rE 1 zF s70.1)]) (kD a2 x19 s53 x59 s70) kn:=by
 refine uM (fun g ih s70=>?_)
 unfold zCw
 refine J_d 500432 [] [44] [(44,bv (decide (s70.2< (s53.length:Int))))] [] [] zB ?_
 refine zG 44 (fun h71=>?_) (fun h71=>?_)
 ·refine zA (fun x72 h73=>?_)
  refine J_d 2001736 [] [44,53] [(53,bv (x72 !=x59.Pack))] [] [] (zD 2 (zAb (kk:=.i64) 34 2 1 1 zF (.tmp 47) (.tmp 48) h73) (zD 3 (zAa (d:=iv x72) 2 1 1 0 zF (.tmp 49) h73 (by kernel_rfl)) zB)) ?_
  refine zU (aft c42 1000868) (fun v79:(List Int)=>St.mk' [(0,pp 0),(1,sl 8 (Pack.enc false) a2),(5,rr 1 s53),(7,pp 3),(8,rr 6 v79),(9,iv s70.2)] [(0,.box (zC.enc false x19.2)),(1,rE 1 zF s53),(3,.box (yU.enc x59)),(6,rE 1 zF v79)]) (fun v79=>?_) (fun jv79=>?_)
  ·refine J_d 500435 [] [9] [(9,iv (w64 (s70.2+1)))] [] [] zB ?_
   refine xV 6 4 (qB rfl) (qB rfl) ?_
   exact J_q (J_b (ih (v79,w64 (s70.2+1)))) rfl
  ·refine zG 53 (fun h74=>?_) (fun h74=>?_)
   ·refine zA (fun x75 h76=>?_)
    refine zA (fun x77 h78=>?_)
    refine J_d 4003474 [] [8,53] [(8,rr 6 x77)] [4,6] [(6,rE 1 zF x77)] (zD 3 (zAb (kk:=.i64) 34 2 1 1 zF (.tmp 55) (.tmp 56) h76) (zD 4 (zAa (d:=iv x75) 2 1 1 0 zF (.tmp 57) h76 (by kernel_rfl)) (zD 5 (vM 34 2 1 5 zF [x75] [0] [(.tmp 58)] [iv x75]) (zD 6 (zEQ 34 34 2 2 1 8 6 4 5 zF (.tmp 54) (.tmp 59) h78) zB)))) ?_
    exact zN (J_j (jv79 x77)) rfl
   ·refine xV 4 6 (qB rfl) (qB rfl) ?_
    exact zN (J_j (jv79 s70.1)) rfl
 ·exact zN (hk s70.1) rfl
theorem kM.ok (a2:(List Pack)) (x19:(Bool×zC)) (q:Wd) (kn:(List Int)→Option (D×List Ent)) (hk:∀v:(List Int),J (q.g Tryz.prog 42 1 73) c42 (atI c42 31) (St.mk' [(0,pp 0),(1,sl 8 (Pack.enc false) a2),(5,rr 1 v)] [(0,.box (zC.enc false x19.2)),(1,rE 1 zF v)]) (some v) kn):
  ∀s53:(List Int),J (q.g Tryz.prog 42 1 73) c42 (atI c42 488) (St.mk' [(0,pp 0),(1,sl 8 (Pack.enc false) a2),(5,rr 1 s53)] [(0,.box (zC.enc false x19.2)),(1,rE 1 zF s53)]) (kM a2 x19 s53) kn:=by
 refine uM (fun g ih s53=>?_)
 unfold zC1
 refine zA (fun x54 h55=>?_)
 refine J_d 1952 [] [34] [(34,bv (decide ((x54.length:Int)>0)))] [] [] (zD 2 (xH («as»:=[sl 8 (Pack.enc false) a2,rr 1 s53]) [(.tmp 30),(.tmp 31)] [24,34] true [(1,rE 1 zF s53)] [] (.cons (.same rfl) (.cons (zFJ (.head _) (fun _=>rfl) rfl) (.nil))) (uI.ok a2 s53) h55 (.own 2) (hbor:=fun _=>⟨fhN,(zFY (zHH (fun _=>(yU.fl _)) _))⟩)) zB) ?_
 refine zG 34 (fun h56=>?_) (fun h56=>?_)
 ·refine zA (fun x57 h58=>?_)
  refine zA (fun x59 h60=>?_)
  refine J_g 3908 [(5,3)] [(0,pp 0),(1,sl 8 (Pack.enc false) a2),(5,rr 1 s53),(7,pp 3)] [(0,.box (zC.enc false x19.2)),(1,rE 1 zF s53),(3,.box (yU.enc x59))] (zD 2 (xH («as»:=[sl 8 (Pack.enc false) a2,rr 1 s53]) [(.tmp 35),(.tmp 36)] [24,34] true [(1,rE 1 zF s53)] [] (.cons (.same rfl) (.cons (zFJ (.head _) (fun _=>rfl) rfl) (.nil))) (uI.ok a2 s53) h58 (.own 2) (hbor:=fun _=>⟨fhN,(zFY (zHH (fun _=>(yU.fl _)) _))⟩)) (zD 3 (zAb (kk:=.i64) 133 140 3 2 yU.enc (.tmp 37) (.const (.int .i64 0)) h60) (zD 4 (zAa (d:=.ag (yU.enc x59)) 140 3 2 0 yU.enc (.tmp 38) h60 (by kernel_rfl)) zB))) ?_
  refine J_g 7818 [] [(0,pp 0),(1,sl 8 (Pack.enc false) a2),(5,rr 1 s53),(7,pp 3),(8,rr 4 ([]:List Int))] [(0,.box (zC.enc false x19.2)),(1,rE 1 zF s53),(3,.box (yU.enc x59)),(4,rE 1 zF ([]:List Int))] (zD 0 (vM 34 2 1 4 zF ([]:List Int) [] [] []) zB) ?_
  refine J_d 31276 [] [9] [(9,iv 0)] [] [] zB ?_
  refine zEx (kD.ok a2 x19 s53 x59 q _ (fun v80=>J_j ?_) (([]:List Int),0))
  refine J_d 15639 [] [5,8] [(5,rr 4 v80)] [] [] zB ?_
  refine xV 4 1 (qB rfl) (qB rfl) ?_
  exact J_q (J_b (ih v80)) rfl
 ·exact zN (hk s53) rfl
theorem zAV.ok (a2:(List Pack)) (q:Wd) (kn:((List Int)×Int×(List Int))→Option (D×List Ent)) (hk:∀v:((List Int)×Int×(List Int)),J (q.g Tryz.prog 42 1 73) c42 (atI c42 15) (St.mk' [(0,pp 0),(1,sl 8 (Pack.enc false) a2),(5,rr 1 v.2.2)] [(0,.box [sl 1 eU8 v.1,iv v.2.1]),(1,rE 1 zF v.2.2)]) (some v) kn):
  ∀s10:((List Int)×Int×(List Int)×Int),J (q.g Tryz.prog 42 1 73) c42 (atI c42 116) (St.mk' [(0,pp 0),(1,sl 8 (Pack.enc false) a2),(5,rr 1 s10.2.2.1),(6,iv s10.2.2.2)] [(0,.box [sl 1 eU8 s10.1,iv s10.2.1]),(1,rE 1 zF s10.2.2.1)]) (zAV a2 s10) kn:=by
 refine uM (fun g ih s10=>?_)
 unfold zAq
 refine J_d 464 [] [14] [(14,bv (decide (s10.2.2.2< (a2.length:Int))))] [] [] zB ?_
 refine zG 14 (fun h11=>?_) (fun h11=>?_)
 ·refine zA (fun x12 h13=>?_)
  refine J_d 1864 [] [14,18] [(18,bv x12.1)] [0] [(0,.box (zC.enc false x12.2))] (zD 1 (xH («as»:=[pp 0,iv 3]) [(.tmp 17),(.const (.int .i64 3))] [35,2] false [(0,.box [sl 1 eU8 s10.1,iv s10.2.1])] [0] (.cons (.pt rfl) (.cons (.same rfl) (.nil))) (zI.ok ({Code:=s10.1,At:=s10.2.1}:zC) 3) h13 (.same rfl rfl)) zB) ?_
  refine zU (aft c42 932) (fun v17:(List Int)=>St.mk' [(0,pp 0),(1,sl 8 (Pack.enc false) a2),(5,rr 3 v17),(6,iv s10.2.2.2)] [(0,.box (zC.enc false x12.2)),(3,rE 1 zF v17)]) (fun v17=>?_) (fun jv17=>?_)
  ·refine J_d 467 [] [6] [(6,iv (w64 (s10.2.2.2+1)))] [] [] zB ?_
   refine xV 3 1 (qB rfl) (qB rfl) ?_
   exact J_q (J_b (ih (x12.2.Code,x12.2.At,v17,w64 (s10.2.2.2+1)))) rfl
  ·refine zG 18 (fun h14=>?_) (fun h14=>?_)
   ·refine zA (fun x15 h16=>?_)
    refine J_d 3730 [] [5,18] [(5,rr 3 x15)] [1,3] [(3,rE 1 zF x15)] (zD 2 (vM 34 2 1 2 zF [s10.2.2.2] [0] [(.tmp 20)] [iv s10.2.2.2]) (zD 3 (zEQ 34 34 2 2 1 8 3 1 2 zF (.tmp 19) (.tmp 21) h16) zB)) ?_
    exact zN (J_j (jv17 x15)) rfl
   ·refine xV 1 3 (qB rfl) (qB rfl) ?_
    exact zN (J_j (jv17 s10.2.2.1)) rfl
 ·exact zN (hk (s10.1,s10.2.1,s10.2.2.1)) rfl
theorem wX.ok (a1:zC) (a2:(List Pack)):Ok Tryz.prog 42 [pp 0,sl 8 (Pack.enc false) a2] [.box (zC.enc false a1)] ((wX a1 a2).map fun r=>(sl 1 zF r.1,[.box (zC.enc false r.2)])):=by
 refine zJ c42 Tryz.f42 1 73 (fun q=>?_)
 unfold wX
 refine J_g 2 [] [(0,pp 0),(1,sl 8 (Pack.enc false) a2)] [(0,.box (zC.enc false a1))] zB ?_
 refine J_g 6 [] [(0,pp 0),(1,sl 8 (Pack.enc false) a2),(5,rr 1 ([]:List Int))] [(0,.box (zC.enc false a1)),(1,rE 1 zF ([]:List Int))] (zD 0 (vM 34 2 1 1 zF ([]:List Int) [] [] []) zB) ?_
 refine J_d 28 [] [6] [(6,iv 0)] [] [] zB ?_
 refine zEx (zAV.ok a2 q _ (fun v18=>J_j ?_) (a1.Code,a1.At,([]:List Int),0))
 refine zA (fun x19 h20=>?_)
 refine zU (atI c42 61) (fun v24:Bool=>St.mk' [(0,pp 0),(1,sl 8 (Pack.enc false) a2),(5,rr 1 v18.2.2),(29,bv v24)] [(0,.box (zC.enc false x19.2)),(1,rE 1 zF v18.2.2)]) (fun v24=>?_) (fun jv24=>?_)
 ·refine zU (atI c42 31) (fun v82:(List Int)=>St.mk' [(0,pp 0),(1,sl 8 (Pack.enc false) a2),(5,rr 1 v82)] [(0,.box (zC.enc false x19.2)),(1,rE 1 zF v82)]) (fun v82=>?_) (fun jv82=>?_)
  ·refine zA (fun x83 h84=>?_)
   refine J_d 124 [] [63] [(63,bv x83.1)] [0] [(0,.box (zC.enc false x83.2))] (zD 1 (xH («as»:=[pp 0,iv 24]) [(.tmp 62),(.const (.int .i64 24))] [35,2] false [(0,.box (zC.enc false x19.2))] [0] (.cons (.pt rfl) (.cons (.same rfl) (.nil))) (zI.ok x19.2 24) h84 (.same rfl rfl)) zB) ?_
   refine zU (atI c42 63) (fun v90:((List Int)×Int×(List Int))=>St.mk' [(5,rr 4 v90.2.2)] [(0,.box [sl 1 eU8 v90.1,iv v90.2.1]),(4,rE 1 zF v90.2.2)]) (fun v90=>?_) (fun jv90=>?_)
   ·refine J_g 126 [] [(4,rr 4 v90.2.2)] [(0,.box [sl 1 eU8 v90.1,iv v90.2.1]),(4,rE 1 zF v90.2.2)] zB ?_
    refine vB [(4,rr 4 v90.2.2)] [(4,rE 1 zF v90.2.2),(0,.box [sl 1 eU8 v90.1,iv v90.2.1])] (by kernel_rfl) ?_
    refine zEc 4 (z:=1) (xs:=v90.2.2.map zF) (tm2:=[(4,sl 1 zF v90.2.2)]) (hp2:=[(0,.box [sl 1 eU8 v90.1,iv v90.2.1])]) (.cons (.rf (by simp) (jG (enc:=zF) (enc':=zF) (fun _=>rfl) v90.2.2 rfl rfl)) (.nil)) (.keep rfl (.nil)) rfl ?_
    exact yA rfl
   ·refine zG 63 (fun h85=>?_) (fun h85=>?_)
    ·refine zA (fun x86 h87=>?_)
     refine zA (fun x88 h89=>?_)
     refine J_g 250 [] [(5,rr 4 x88)] [(0,.box (zC.enc false x86.2)),(4,rE 1 zF x88)] (zD 4 (vM 34 2 1 2 zF [(a2.length:Int),(-1),0] [0,1,2] [(.tmp 67),(.const (.int .i64 (-1))),(.const (.int .i64 0))] [iv (a2.length:Int),iv (-1),iv 0]) (zD 5 (xH («as»:=[pp 0,rr 2 [(a2.length:Int),(-1),0]]) [(.tmp 65),(.tmp 68)] [35,34] false [(0,.box (zC.enc false x83.2)),(2,rE 1 zF [(a2.length:Int),(-1),0])] [0,2] (.cons (.pt rfl) (.cons (.rf rfl) (.nil))) (zT.ok x83.2 [(a2.length:Int),(-1),0]) h87 (.same rfl rfl)) (zD 6 (vM 34 2 1 3 zF [x86.1] [0] [(.tmp 69)] [iv x86.1]) (zD 7 (zEQ 34 34 2 2 1 8 4 1 3 zF (.tmp 64) (.tmp 70) h89) zB)))) ?_
     exact zN (J_j (jv90 (x86.2.Code,x86.2.At,x88))) rfl
    ·refine xV 1 4 (qB rfl) (qB rfl) ?_
     exact zN (J_j (jv90 (x83.2.Code,x83.2.At,v82))) rfl
  ·refine zG 29 (fun h25=>?_) (fun h25=>?_)
   ·refine zEx (kM.ok a2 x19 q _ (fun v81=>J_j ?_) v18.2.2)
    exact zN (J_j (jv82 v81)) rfl
   ·exact zN (J_j (jv82 v18.2.2)) rfl
 ·refine xB (fun h21=>?_) (fun h21=>?_)
  ·refine zA (fun x22 h23=>?_)
   refine J_d 60 [] [29] [(29,bv (x22==0))] [0] [(0,.box (zC.enc false x19.2))] (zD 1 (xH («as»:=[pp 0,iv 2]) [(.tmp 23),(.const (.int .i64 2))] [35,2] false [(0,.box [sl 1 eU8 v18.1,iv v18.2.1])] [0] (.cons (.pt rfl) (.cons (.same rfl) (.nil))) (zI.ok ({Code:=v18.1,At:=v18.2.1}:zC) 2) h20 (.same rfl rfl)) (yO 2 [(24,bv x19.1)] [] h21 (uD 4 2 25 true (yG [(.tmp 26)] [24] (zY.ok a2) h23) zB))) ?_
   exact zN (J_j (jv24 (x22==0))) rfl
  ·refine J_d 60 [] [29] [(29,bv false)] [0] [(0,.box (zC.enc false x19.2))] (zD 1 (xH («as»:=[pp 0,iv 2]) [(.tmp 23),(.const (.int .i64 2))] [35,2] false [(0,.box [sl 1 eU8 v18.1,iv v18.2.1])] [0] (.cons (.pt rfl) (.cons (.same rfl) (.nil))) (zI.ok ({Code:=v18.1,At:=v18.2.1}:zC) 2) h20 (.same rfl rfl)) (yO 2 [(24,bv x19.1)] [] h21 zB)) ?_
   exact zN (J_j (jv24 false)) rfl
def c27:Code:=cdB Tryz.f27
theorem zDX.ok (a1:zC):Ok Tryz.prog 27 [pp 0] [.box (zC.enc false a1)] ((zDX a1).map fun r=>(.tu [sl 8 (Pack.enc false) r.1,sl 1 zF r.2.1,sl 1 zF r.2.2.1],[.box (zC.enc false r.2.2.2)])):=by
 refine zJ c27 Tryz.f27 1 60 (fun q=>?_)
 unfold zDX
 refine J_d 2 [] [] [] [] [] zB ?_
 refine zA (fun x2 h3=>?_)
 refine J_g 6 [] [(0,pp 0),(5,sl 8 (Pack.enc false) x2.1)] [(0,.box (zC.enc false x2.2))] (zD 1 (xH («as»:=[pp 0]) [(.tmp 9)] [35] false [(0,.box (zC.enc false a1))] [0] (.cons (.pt rfl) (.nil)) (zAN.ok a1) h3 (.same rfl rfl)) zB) ?_
 refine J_g 14 [] [(0,pp 0),(5,sl 8 (Pack.enc false) x2.1),(6,rr 1 ([]:List Int))] [(0,.box (zC.enc false x2.2)),(1,rE 1 zF ([]:List Int))] (zD 0 (vM 34 2 1 1 zF ([]:List Int) [] [] []) zB) ?_
 refine J_d 30 [] [7] [(7,rr 2 ([]:List Int))] [2] [(2,rE 1 zF ([]:List Int))] (zD 0 (vM 34 2 1 2 zF ([]:List Int) [] [] []) zB) ?_
 refine zA (fun x4 h5=>?_)
 refine J_d 124 [] [15] [(15,bv (x4==0))] [] [] (zD 1 (yG [(.tmp 13)] [24] (zY.ok x2.1) h5) zB) ?_
 refine zU (atI c27 63) (fun v24:((List Int)×Int×(List Int)×(List Int))=>St.mk' [(0,pp 0),(5,sl 8 (Pack.enc false) x2.1),(6,sl 1 zF v24.2.2.1),(7,rr 8 v24.2.2.2)] [(0,.box [sl 1 eU8 v24.1,iv v24.2.1]),(8,rE 1 zF v24.2.2.2)]) (fun v24=>?_) (fun jv24=>?_)
 ·refine zA (fun x25 h26=>?_)
  refine J_d 252 [] [48] [(48,bv x25.1)] [0] [(0,.box (zC.enc false x25.2))] (zD 1 (xH («as»:=[pp 0,iv 14]) [(.tmp 47),(.const (.int .i64 14))] [35,2] false [(0,.box [sl 1 eU8 v24.1,iv v24.2.1])] [0] (.cons (.pt rfl) (.cons (.same rfl) (.nil))) (zI.ok ({Code:=v24.1,At:=v24.2.1}:zC) 14) h26 (.same rfl rfl)) zB) ?_
  refine zU (atI c27 127) (fun v30:((List Int)×Int×(List Int))=>St.mk' [(0,pp 0),(5,sl 8 (Pack.enc false) x2.1),(6,sl 1 zF v30.2.2),(7,rr 8 v24.2.2.2)] [(0,.box [sl 1 eU8 v30.1,iv v30.2.1]),(8,rE 1 zF v24.2.2.2)]) (fun v30=>?_) (fun jv30=>?_)
  ·refine zA (fun x31 h32=>?_)
   refine J_d 508 [] [53] [(53,bv x31.1)] [0] [(0,.box (zC.enc false x31.2))] (zD 1 (xH («as»:=[pp 0,iv 14]) [(.tmp 52),(.const (.int .i64 14))] [35,2] false [(0,.box [sl 1 eU8 v30.1,iv v30.2.1])] [0] (.cons (.pt rfl) (.cons (.same rfl) (.nil))) (zI.ok ({Code:=v30.1,At:=v30.2.1}:zC) 14) h32 (.same rfl rfl)) zB) ?_
   refine zU (atI c27 255) (fun v36:((List Int)×Int×(List Int))=>St.mk' [(5,sl 8 (Pack.enc false) x2.1),(6,sl 1 zF v30.2.2),(7,sl 1 zF v36.2.2)] [(0,.box [sl 1 eU8 v36.1,iv v36.2.1])]) (fun v36=>?_) (fun jv36=>?_)
   ·refine J_d 510 [] [2,3,4,5,6,7] [(2,sl 8 (Pack.enc false) x2.1),(3,sl 1 zF v30.2.2),(4,sl 1 zF v36.2.2)] [] [] zB ?_
    exact zPj rfl
   ·refine zG 53 (fun h33=>?_) (fun h33=>?_)
    ·refine zA (fun x34 h35=>?_)
     refine J_d 1018 [] [0,7,53] [(7,sl 1 zF x34.1)] [0,8] [(0,.box (zC.enc false x34.2))] (zD 2 (xH («as»:=[pp 0,sl 8 (Pack.enc false) x2.1]) [(.tmp 54),(.tmp 55)] [35,24] false [(0,.box (zC.enc false x31.2))] [0] (.cons (.pt rfl) (.cons (.same rfl) (.nil))) (wX.ok x31.2 x2.1) h35 (.same rfl rfl)) zB) ?_
     exact zN (J_j (jv36 (x34.2.Code,x34.2.At,x34.1))) rfl
    ·refine vB [(0,pp 0),(5,sl 8 (Pack.enc false) x2.1),(6,sl 1 zF v30.2.2),(7,rr 8 v24.2.2.2),(53,bv false)] [(8,rE 1 zF v24.2.2.2),(0,.box (zC.enc false x31.2))] (by kernel_rfl) ?_
     refine zEc 8 (z:=1) (xs:=v24.2.2.2.map zF) (tm2:=[(0,pp 0),(5,sl 8 (Pack.enc false) x2.1),(6,sl 1 zF v30.2.2),(7,sl 1 zF v24.2.2.2),(53,bv false)]) (hp2:=[(0,.box (zC.enc false x31.2))]) (.cons (.keep rfl) (.cons (.keep rfl) (.cons (.keep rfl) (.cons (.rf (by simp) (jG (enc:=zF) (enc':=zF) (fun _=>rfl) v24.2.2.2 rfl rfl)) (.cons (.keep rfl) (.nil)))))) (.keep rfl (.nil)) rfl ?_
     exact zN (J_j (jv36 (x31.2.Code,x31.2.At,v24.2.2.2))) rfl
  ·refine zG 48 (fun h27=>?_) (fun h27=>?_)
   ·refine zA (fun x28 h29=>?_)
    refine J_d 506 [] [6,48] [(6,sl 1 zF x28.1)] [0] [(0,.box (zC.enc false x28.2))] (zD 2 (xH («as»:=[pp 0,sl 8 (Pack.enc false) x2.1]) [(.tmp 49),(.tmp 50)] [35,24] false [(0,.box (zC.enc false x25.2))] [0] (.cons (.pt rfl) (.cons (.same rfl) (.nil))) (wX.ok x25.2 x2.1) h29 (.same rfl rfl)) zB) ?_
    exact zN (J_j (jv30 (x28.2.Code,x28.2.At,x28.1))) rfl
   ·exact zN (J_j (jv30 (x25.2.Code,x25.2.At,v24.2.2.1))) rfl
 ·refine zG 15 (fun h6=>?_) (fun h6=>?_)
  ·refine zA (fun x7 h8=>?_)
   refine zA (fun x9 h10=>?_)
   refine J_g 500 [(5,5)] [(0,pp 0),(5,sl 8 (Pack.enc false) x2.1),(6,rr 1 ([]:List Int)),(7,rr 2 ([]:List Int)),(8,pp 5)] [(0,.box (zC.enc false x7.2)),(1,rE 1 zF ([]:List Int)),(2,rE 1 zF ([]:List Int)),(4,rE 1 zF x9.Set),(5,.box [iv x9.Code,iv x9.Choices,rr 4 x9.Set])] (zD 3 (xH («as»:=[pp 0,sl 8 (Pack.enc false) x2.1]) [(.tmp 17),(.tmp 18)] [35,24] false [(0,.box (zC.enc false x2.2))] [0] (.cons (.pt rfl) (.cons (.same rfl) (.nil))) (vP.ok x2.2 x2.1) h8 (.own 3)) (zD 4 (xH («as»:=[sl 8 (Pack.enc false) x2.1,rr 3 x7.1,nv,iv 60]) [(.tmp 16),(.tmp 19),(.const (.slice none 0 0)),(.const (.int .i64 60))] [24,25,34,2] true [(3,rE 7 Term.enc x7.1)] [] (.cons (.same rfl) (.cons (zFJ (.head _) (fun _=>rfl) rfl) (.cons (.nil false 1) (.cons (.same rfl) (.nil))))) (vN.ok x2.1 x7.1 ([]:List Int) 60) h10 (.ag (.cons (.same rfl rfl) (.cons (.same rfl rfl) (.cons (.own 4) (.nil))))) (hbor:=fun _=>⟨fhN,(zMm (SolveResult.fl _))⟩)) zB)) ?_
   refine J_d 2004 [] [23] [(23,bv (x9.Code==0))] [] [] zB ?_
   refine zU (atI c27 1003) (fun v12:(List Int)=>St.mk' [(0,pp 0),(5,sl 8 (Pack.enc false) x2.1),(6,sl 1 zF v12),(7,rr 2 ([]:List Int)),(8,pp 5)] [(0,.box (zC.enc false x7.2)),(2,rE 1 zF ([]:List Int)),(5,.box (SolveResult.enc false x9))]) (fun v12=>?_) (fun jv12=>?_)
   ·refine zA (fun x13 h14=>?_)
    refine zA (fun x15 h16=>?_)
    refine zA (fun x17 h18=>?_)
    refine zA (fun x19 h20=>?_)
    refine J_d 2006 [] [] [] [0,5,8] [(0,.box (zC.enc false x17.2)),(5,.box [iv x19.Code,iv x19.Choices,rr 8 x19.Set]),(8,rE 1 zF x19.Set)] (zD 3 (xH («as»:=[pp 0,sl 8 (Pack.enc false) x2.1]) [(.tmp 27),(.tmp 28)] [35,24] false [(0,.box (zC.enc false x7.2))] [0] (.cons (.pt rfl) (.cons (.same rfl) (.nil))) (vP.ok x7.2 x2.1) h14 (.own 6)) (zD 7 (yG [(.const (.int .i64 1)),(.tmp 32)] [2,2] (zEh.ok 1 (x2.1.length:Int)) h16) (zD 8 (xH («as»:=[pp 0,iv x15]) [(.tmp 30),(.tmp 33)] [35,2] false [(0,.box (zC.enc false x13.2))] [0] (.cons (.pt rfl) (.cons (.same rfl) (.nil))) (zH.ok x13.2 x15) h18 (.same rfl rfl)) (zD 9 (vM 34 2 1 7 zF [x17.1] [0] [(.tmp 34)] [iv x17.1]) (zD 10 (xH («as»:=[sl 8 (Pack.enc false) x2.1,rr 6 x13.1,rr 7 [x17.1],iv 60]) [(.tmp 26),(.tmp 29),(.tmp 35),(.const (.int .i64 60))] [24,25,34,2] true [(6,rE 7 Term.enc x13.1),(7,rE 1 zF [x17.1])] [] (.cons (.same rfl) (.cons (zFJ (.head _) (fun _=>rfl) rfl) (.cons (zFJ (.tail _ (.head _)) (fun _=>rfl) rfl) (.cons (.same rfl) (.nil))))) (vN.ok x2.1 x13.1 [x17.1] 60) h20 (.ag (.cons (.same rfl rfl) (.cons (.same rfl rfl) (.cons (.own 8) (.nil))))) (hbor:=fun _=>⟨fhN,(zMm (SolveResult.fl _))⟩)) zB))))) ?_
    refine zU (atI c27 4015) (fun v22:Bool=>St.mk' [(0,pp 0),(5,sl 8 (Pack.enc false) x2.1),(6,sl 1 zF v12),(7,rr 2 ([]:List Int)),(8,pp 5),(44,bv v22)] [(0,.box (zC.enc false x17.2)),(2,rE 1 zF ([]:List Int)),(5,.box [iv x19.Code,iv x19.Choices,rr 8 x19.Set]),(8,rE 1 zF x19.Set)]) (fun v22=>?_) (fun jv22=>?_)
    ·refine zG 44 (fun h23=>?_) (fun h23=>?_)
     ·refine J_d 8030 [] [7,8,44] [(7,rr 8 x19.Set)] [2,5] [] zB ?_
      exact zN (J_j (jv24 (x17.2.Code,x17.2.At,v12,x19.Set))) rfl
     ·refine xV 2 8 (qB rfl) (qB rfl) ?_
      exact zN (J_j (jv24 (x17.2.Code,x17.2.At,v12,([]:List Int)))) rfl
    ·refine xB (fun h21=>?_) (fun h21=>?_)
     ·refine J_d 4014 [] [44] [(44,bv (decide ((x2.1.length:Int)>0)))] [] [] (yO 3 [(39,bv (x19.Code==0))] [] h21 zB) ?_
      exact zN (J_j (jv22 (decide ((x2.1.length:Int)>0)))) rfl
     ·refine J_d 4014 [] [44] [(44,bv false)] [] [] (yO 3 [(39,bv (x19.Code==0))] [] h21 zB) ?_
      exact zN (J_j (jv22 false)) rfl
   ·refine zG 23 (fun h11=>?_) (fun h11=>?_)
    ·refine J_d 4010 [] [6,23] [(6,rr 4 x9.Set)] [1] [] zB ?_
     refine vB [(0,pp 0),(5,sl 8 (Pack.enc false) x2.1),(6,rr 4 x9.Set),(7,rr 2 ([]:List Int)),(8,pp 5)] [(4,rE 1 zF x9.Set),(0,.box (zC.enc false x7.2)),(2,rE 1 zF ([]:List Int)),(5,.box [iv x9.Code,iv x9.Choices,rr 4 x9.Set])] (by kernel_rfl) ?_
     refine zEc 4 (z:=1) (xs:=x9.Set.map zF) (tm2:=[(0,pp 0),(5,sl 8 (Pack.enc false) x2.1),(6,sl 1 zF x9.Set),(7,rr 2 ([]:List Int)),(8,pp 5)]) (hp2:=[(0,.box (zC.enc false x7.2)),(2,rE 1 zF ([]:List Int)),(5,.box (SolveResult.enc false x9))]) (.cons (.keep rfl) (.cons (.keep rfl) (.cons (.rf (by simp) (jG (enc:=zF) (enc':=zF) (fun _=>rfl) x9.Set rfl rfl)) (.cons (.keep rfl) (.cons (.keep rfl) (.nil)))))) (.keep rfl (.keep rfl (.box rfl (.cons (.keep rfl) (.cons (.keep rfl) (.cons (.rf (by simp) (jG (enc:=zF) (enc':=zF) (fun _=>rfl) x9.Set rfl rfl)) (.nil)))) (.nil)))) rfl ?_
     exact zN (J_j (jv12 x9.Set)) rfl
    ·refine vB [(0,pp 0),(5,sl 8 (Pack.enc false) x2.1),(6,rr 1 ([]:List Int)),(7,rr 2 ([]:List Int)),(8,pp 5),(23,bv false)] [(1,rE 1 zF ([]:List Int)),(0,.box (zC.enc false x7.2)),(2,rE 1 zF ([]:List Int)),(4,rE 1 zF x9.Set),(5,.box [iv x9.Code,iv x9.Choices,rr 4 x9.Set])] (by kernel_rfl) ?_
     refine zEc 1 (z:=1) (xs:=([]:List Int).map zF) (tm2:=[(0,pp 0),(5,sl 8 (Pack.enc false) x2.1),(6,sl 1 zF ([]:List Int)),(7,rr 2 ([]:List Int)),(8,pp 5),(23,bv false)]) (hp2:=[(0,.box (zC.enc false x7.2)),(2,rE 1 zF ([]:List Int)),(4,rE 1 zF x9.Set),(5,.box [iv x9.Code,iv x9.Choices,rr 4 x9.Set])]) (.cons (.keep rfl) (.cons (.keep rfl) (.cons (.rf (by simp) (jG (enc:=zF) (enc':=zF) (fun _=>rfl) ([]:List Int) rfl rfl)) (.cons (.keep rfl) (.cons (.keep rfl) (.cons (.keep rfl) (.nil))))))) (.keep rfl (.keep rfl (.keep rfl (.keep rfl (.nil))))) rfl ?_
     refine vB [(0,pp 0),(5,sl 8 (Pack.enc false) x2.1),(6,sl 1 zF ([]:List Int)),(7,rr 2 ([]:List Int)),(8,pp 5),(23,bv false)] [(4,rE 1 zF x9.Set),(0,.box (zC.enc false x7.2)),(2,rE 1 zF ([]:List Int)),(5,.box [iv x9.Code,iv x9.Choices,rr 4 x9.Set])] (by kernel_rfl) ?_
     refine zEc 4 (z:=1) (xs:=x9.Set.map zF) (tm2:=[(0,pp 0),(5,sl 8 (Pack.enc false) x2.1),(6,sl 1 zF ([]:List Int)),(7,rr 2 ([]:List Int)),(8,pp 5),(23,bv false)]) (hp2:=[(0,.box (zC.enc false x7.2)),(2,rE 1 zF ([]:List Int)),(5,.box (SolveResult.enc false x9))]) (.cons (.keep rfl) (.cons (.keep rfl) (.cons (.keep rfl) (.cons (.keep rfl) (.cons (.keep rfl) (.cons (.keep rfl) (.nil))))))) (.keep rfl (.keep rfl (.box rfl (.cons (.keep rfl) (.cons (.keep rfl) (.cons (.rf (by simp) (jG (enc:=zF) (enc':=zF) (fun _=>rfl) x9.Set rfl rfl)) (.nil)))) (.nil)))) rfl ?_
     exact zN (J_j (jv12 ([]:List Int))) rfl
  ·refine vB [(0,pp 0),(5,sl 8 (Pack.enc false) x2.1),(6,rr 1 ([]:List Int)),(7,rr 2 ([]:List Int)),(15,bv false)] [(1,rE 1 zF ([]:List Int)),(0,.box (zC.enc false x2.2)),(2,rE 1 zF ([]:List Int))] (by kernel_rfl) ?_
   refine zEc 1 (z:=1) (xs:=([]:List Int).map zF) (tm2:=[(0,pp 0),(5,sl 8 (Pack.enc false) x2.1),(6,sl 1 zF ([]:List Int)),(7,rr 2 ([]:List Int)),(15,bv false)]) (hp2:=[(0,.box (zC.enc false x2.2)),(2,rE 1 zF ([]:List Int))]) (.cons (.keep rfl) (.cons (.keep rfl) (.cons (.rf (by simp) (jG (enc:=zF) (enc':=zF) (fun _=>rfl) ([]:List Int) rfl rfl)) (.cons (.keep rfl) (.cons (.keep rfl) (.nil)))))) (.keep rfl (.keep rfl (.nil))) rfl ?_
   refine xV 2 8 (qB rfl) (qB rfl) ?_
   exact zN (J_j (jv24 (x2.2.Code,x2.2.At,([]:List Int),([]:List Int)))) rfl
def c70:Code:=cdB Tryz.f70
theorem vI.ok (a1:Int):Ok Tryz.prog 70 [iv a1] [] ((vI a1).map fun r=>(.ag (zDq.enc true r),[])):=by
 refine zJ c70 Tryz.f70 0 10 (fun q=>?_)
 unfold vI
 refine J_g 2 [(0,0)] [(0,iv a1),(2,pp 0)] [(0,.box [iv 0,nv,iv 0,iv 0,iv 0,bv false])] zB ?_
 refine zA (fun x2 h3=>?_)
 refine J_d 12 [] [5] [(5,bv (!x2))] [] [] (zD 1 (yG [(.tmp 3),(.const (.int .i64 0)),(.const (.int .i64 20000))] [2,2,2] (yZ.ok a1 0 20000) h3) zB) ?_
 refine zG 5 (fun h4=>?_) (fun h4=>?_)
 ·refine J_g 52 [] [(2,pp 0)] [(0,.box [iv 3,nv,iv 0,iv 0,iv 0,bv false])] zB ?_
  exact zEO (ds:=[.ag [iv 3,nv,iv 0,iv 0,iv 0,bv false]]) (ds':=[.ag [iv 3,so 2 (File.enc true) ([]:List File),iv 0,iv 0,iv 0,bv false]]) (.cons (.ag (.keep rfl (.nilsl true 2 (.keep rfl (.keep rfl (.keep rfl (.keep rfl (.nil)))))))) (.nil) (by decide)) rfl
 ·refine J_g 14 [] [(2,pp 0)] [(0,.box [iv 0,nv,iv a1,iv 0,iv (-1),bv false])] zB ?_
  exact zEO (ds:=[.ag [iv 0,nv,iv a1,iv 0,iv (-1),bv false]]) (ds':=[.ag [iv 0,so 2 (File.enc true) ([]:List File),iv a1,iv 0,iv (-1),bv false]]) (.cons (.ag (.keep rfl (.nilsl true 2 (.keep rfl (.keep rfl (.keep rfl (.keep rfl (.nil)))))))) (.nil) (by decide)) rfl
def c75:Code:=cdB Tryz.f75
theorem xX.ok (a1:Int):Ok Tryz.prog 75 [iv a1] [] ((xX a1).map fun r=>(sv r,[])):=by
 have key:∀(n:Nat) (a1:Int),Ok Tryz.prog 75 [iv a1] [] ((zQ6 uN n a1).map fun r=>(sv r,[])):=by
  intro n
  induction n with
  |zero=>intro a1; exact zQF
  |succ n ih=>
   intro a1
   refine zJ c75 Tryz.f75 0 20 (fun q=>?_)
   unfold zQ6 uN
   refine J_g 2 [] [(0,iv a1)] [] zB ?_
   refine J_g 12 [] [(0,iv a1),(4,bv (decide (a1<10)))] [] zB ?_
   refine zG 4 (fun h2=>?_) (fun h2=>?_)
   ·refine J_g 52 [] [(2,sv (b2s [IntKind.u8.wrap (w64 (48+a1))]))] [] (zD 3 (vM 22 5 1 0 eU8 [IntKind.u8.wrap (w64 (48+a1))] [0] [(.tmp 7)] [uv (IntKind.u8.wrap (w64 (48+a1)))]) (zD 4 (zQs (xs:=[IntKind.u8.wrap (w64 (48+a1))]) 22 9 5 0 (.tmp 8)) zB)) ?_
    exact yA rfl
   ·refine zA (fun x3 h4=>?_)
    refine zA (fun x5 h6=>?_)
    refine J_g 14 [] [(2,sv x5)] [] (zD 2 (yG [(.tmp 11)] [2] (ih (w64 (a1.tdiv 10))) h4) (zD 7 (vM 22 5 1 0 eU8 [IntKind.u8.wrap (w64 (48+(a1.tmod 10)))] [0] [(.tmp 16)] [uv (IntKind.u8.wrap (w64 (48+(a1.tmod 10))))]) (zD 8 (zQs (xs:=[IntKind.u8.wrap (w64 (48+(a1.tmod 10)))]) 22 9 5 0 (.tmp 17)) (zD 9 (zAJ 9 9 (.tmp 12) (.tmp 18) h6) zB)))) ?_
    exact yA rfl
 exact key 64 a1
def c71:Code:=cdB Tryz.f71
theorem wL.ok (a1:Int):Ok Tryz.prog 71 [iv a1] [] ((wL a1).map fun r=>(sv r,[])):=by
 refine zJ c71 Tryz.f71 0 11 (fun q=>?_)
 unfold wL
 refine J_g 2 [] [(0,iv a1)] [] zB ?_
 refine zA (fun x2 h3=>?_)
 refine J_g 12 [] [(0,iv a1),(5,bv (!x2))] [] (zD 1 (yG [(.tmp 3),(.const (.int .i64 1)),(.const (.int .i64 999999))] [2,2,2] (yZ.ok a1 1 999999) h3) zB) ?_
 refine zG 5 (fun h4=>?_) (fun h4=>?_)
 ·refine J_g 52 [] [(2,sv (bs []))] [] zB ?_
  exact yA rfl
 ·refine zA (fun x5 h6=>?_)
  refine zA (fun x7 h8=>?_)
  refine zA (fun x9 h10=>?_)
  refine J_g 14 [] [(2,sv x9)] [] (zD 2 (yG [(.tmp 7)] [2] (xX.ok (w64 (1000000+a1))) h6) (zD 3 (zKY 9 (.tmp 8) (some (.const (.int .i64 1))) none h8) (zD 4 (zAJ 9 9 (.const (.string (bs [103,101,110,47]))) (.tmp 9) h10) zB))) ?_
  exact yA rfl
def c28:Code:=cdB Tryz.f28
theorem zB4.ok (a1:Int):Ok Tryz.prog 28 [iv a1] [] ((zB4 a1).map fun r=>(.ag [iv r.Code,so 2 (File.enc false) r.zP.Files,iv r.zP.Budget,iv r.zP.Writes,iv r.zP.Stop,bv r.zP.Down],[])):=by
 refine zJ c28 Tryz.f28 0 23 (fun q=>?_)
 unfold zB4
 refine J_g 2 [(0,0)] [(0,iv a1),(2,pp 0)] [(0,.box [iv 0,nv,iv 0,iv 0,iv 0,bv false])] zB ?_
 refine zA (fun x2 h3=>?_)
 refine J_g 6 [(2,2)] [(0,iv a1),(2,pp 0),(3,pp 2)] [(0,.box [iv 0,nv,iv 0,iv 0,iv 0,bv false]),(1,rE 2 (File.enc true) x2.zP.Files),(2,.box [iv x2.Code,rr 1 x2.zP.Files,iv x2.zP.Budget,iv x2.zP.Writes,iv x2.zP.Stop,bv x2.zP.Down])] (zD 1 (xH («as»:=[iv a1]) [(.tmp 4)] [2] false [] [] (.cons (.same rfl) (.nil)) (vI.ok a1) h3 (.ag (.cons (.same rfl rfl) (.cons (.own 1) (.cons (.same rfl rfl) (.cons (.same rfl rfl) (.cons (.same rfl rfl) (.cons (.same rfl rfl) (.nil))))))))) zB) ?_
 refine J_d 28 [] [8] [(8,bv (x2.Code !=0))] [] [] zB ?_
 refine zG 8 (fun h4=>?_) (fun h4=>?_)
 ·refine J_g 116 [] [(2,pp 0)] [(0,.box [iv x2.Code,rr 1 x2.zP.Files,iv x2.zP.Budget,iv x2.zP.Writes,iv x2.zP.Stop,bv x2.zP.Down]),(1,rE 2 (File.enc true) x2.zP.Files)] zB ?_
  refine vB [(2,pp 0)] [(1,rE 2 (File.enc true) x2.zP.Files),(0,.box [iv x2.Code,rr 1 x2.zP.Files,iv x2.zP.Budget,iv x2.zP.Writes,iv x2.zP.Stop,bv x2.zP.Down])] (by kernel_rfl) ?_
  refine zFB 1 (tQ (enc:=(File.enc true)) (enc':=(File.enc false)) (File.ro true) _) ?_
  refine vB [(2,pp 0)] [(0,.box [iv x2.Code,rr 1 x2.zP.Files,iv x2.zP.Budget,iv x2.zP.Writes,iv x2.zP.Stop,bv x2.zP.Down]),(1,rE 2 (File.enc false) x2.zP.Files)] (by kernel_rfl) ?_
  exact zEO (ds:=[.ag [iv x2.Code,rr 1 x2.zP.Files,iv x2.zP.Budget,iv x2.zP.Writes,iv x2.zP.Stop,bv x2.zP.Down]]) (ds':=[.ag [iv x2.Code,so 2 (File.enc false) x2.zP.Files,iv x2.zP.Budget,iv x2.zP.Writes,iv x2.zP.Stop,bv x2.zP.Down]]) (.cons (.ag (.keep rfl (.move (.tail _ (.head _)) (qC _) (by decide) (.keep rfl (.keep rfl (.keep rfl (.keep rfl (.nil)))))))) (.nil) (by decide)) rfl
 ·refine J_d 60 [] [0,8,11] [(11,bv (a1==0))] [] [] zB ?_
  refine zG 11 (fun h5=>?_) (fun h5=>?_)
  ·refine J_g 244 [] [(2,pp 0)] [(0,.box [iv 8,nv,iv 0,iv 0,iv 0,bv false])] zB ?_
   exact zEO (ds:=[.ag [iv 8,nv,iv 0,iv 0,iv 0,bv false]]) (ds':=[.ag [iv 8,so 2 (File.enc false) ([]:List File),iv 0,iv 0,iv 0,bv false]]) (.cons (.ag (.keep rfl (.nilsl true 2 (.keep rfl (.keep rfl (.keep rfl (.keep rfl (.nil)))))))) (.nil) (by decide)) rfl
  ·refine zA (fun x6 h7=>?_)
   refine J_g 62 [] [(2,pp 0),(3,pp 2)] [(0,.box [iv 0,nv,iv 0,iv 0,iv 0,bv false]),(2,.box [iv x2.Code,rr 4 [({Path:=bs [99,117,114],Data:=[49]}:File),({Path:=x6,Data:=([]:List Int)}:File),({Path:=bs [114,111,111,116,115],Data:=([]:List Int)}:File)],iv x2.zP.Budget,iv x2.zP.Writes,iv x2.zP.Stop,bv x2.zP.Down]),(4,rE 2 (File.enc false) [({Path:=bs [99,117,114],Data:=[49]}:File),({Path:=x6,Data:=([]:List Int)}:File),({Path:=bs [114,111,111,116,115],Data:=([]:List Int)}:File)])] (zD 0 (vM 22 5 1 3 eU8 [49] [0] [(.const (.int .u8 49))] [uv 49]) (zD 1 (zSd (xs:=[49]) 22 5 3 (.tmp 13)) (zD 3 (yG [(.const (.int .i64 1))] [2] (wL.ok 1) h7) (zD 6 (zPl (ds:=[sv (bs [99,117,114]),sl 1 eU8 [49],sv x6,nv,sv (bs [114,111,111,116,115]),nv]) (ts:=[]) 37 114 2 4 (File.enc false) [({Path:=bs [99,117,114],Data:=[49]}:File),({Path:=x6,Data:=([]:List Int)}:File),({Path:=bs [114,111,111,116,115],Data:=([]:List Int)}:File)] [0,1,2] [(.tmp 15),(.tmp 17),(.tmp 18)] [.ag [sv (bs [99,117,114]),sl 1 eU8 [49]],.ag [sv x6,nv],.ag [sv (bs [114,111,111,116,115]),nv]] [] (.keep rfl (.keep rfl (.keep rfl (.nilsl false 1 (.keep rfl (.nilsl false 1 (.nil)))))))) zB)))) ?_
   refine J_g 126 [] [(2,pp 0)] [(0,.box [iv x2.Code,rr 4 [({Path:=bs [99,117,114],Data:=[49]}:File),({Path:=x6,Data:=([]:List Int)}:File),({Path:=bs [114,111,111,116,115],Data:=([]:List Int)}:File)],iv x2.zP.Budget,iv x2.zP.Writes,iv x2.zP.Stop,bv x2.zP.Down]),(4,rE 2 (File.enc false) [({Path:=bs [99,117,114],Data:=[49]}:File),({Path:=x6,Data:=([]:List Int)}:File),({Path:=bs [114,111,111,116,115],Data:=([]:List Int)}:File)])] zB ?_
   exact zEO (ds:=[.ag [iv x2.Code,rr 4 [({Path:=bs [99,117,114],Data:=[49]}:File),({Path:=x6,Data:=([]:List Int)}:File),({Path:=bs [114,111,111,116,115],Data:=([]:List Int)}:File)],iv x2.zP.Budget,iv x2.zP.Writes,iv x2.zP.Stop,bv x2.zP.Down]]) (ds':=[.ag [iv x2.Code,so 2 (File.enc false) [({Path:=bs [99,117,114],Data:=[49]}:File),({Path:=x6,Data:=([]:List Int)}:File),({Path:=bs [114,111,111,116,115],Data:=([]:List Int)}:File)],iv x2.zP.Budget,iv x2.zP.Writes,iv x2.zP.Stop,bv x2.zP.Down]]) (.cons (.ag (.keep rfl (.move (.tail _ (.head _)) (qC _) (by decide) (.keep rfl (.keep rfl (.keep rfl (.keep rfl (.nil)))))))) (.nil) (by decide)) rfl
def c24:Code:=cdB Tryz.f24
theorem zEu.ok (a1:(List Pack)) (a2:(List Int)) (q:Wd) (kn:Unit→Option (D×List Ent)) (hk:∀v:Unit,J (q.g Tryz.prog 24 0 37) c24 (atI c24 7) (St.mk' [] []) (some v) kn):
  ∀s16:Int,J (q.g Tryz.prog 24 0 37) c24 (atI c24 52) (St.mk' [(0,sl 8 (Pack.enc false) a1),(1,sl 1 zF a2),(5,iv s16)] []) (zEu a1 a2 s16) (Fl.go (fun r:Bool=>some (bv r,[])) kn):=by
 refine uM (fun g ih s16=>?_)
 unfold zDz
 refine J_d 208 [] [9] [(9,bv (decide (s16< (a2.length:Int))))] [] [] zB ?_
 refine zG 9 (fun h17=>?_) (fun h17=>?_)
 ·refine zA (fun x18 h19=>?_)
  refine zA (fun x20 h21=>?_)
  refine zU (atI c24 841) (fun v28:Bool=>St.mk' [(0,sl 8 (Pack.enc false) a1),(1,sl 1 zF a2),(5,iv s16),(36,bv v28)] []) (fun v28=>?_) (fun jv28=>?_)
  ·refine zG 36 (fun h29=>?_) (fun h29=>?_)
   ·refine J_g 3364 [] [(4,bv false)] [] zB ?_
    exact yA rfl
   ·refine J_d 211 [] [5,36] [(5,iv (w64 (s16+1)))] [] [] zB ?_
    exact J_q (J_b (ih (w64 (s16+1)))) rfl
  ·refine xB (fun h22=>?_) (fun h22=>?_)
   ·refine J_d 840 [] [9,36] [(36,bv true)] [] [] (zD 2 (wM (kk:=.i64) 34 2 1 zF (.tmp 12) (.tmp 13) h19) (zD 7 (yG [(.tmp 15),(.const (.int .i64 0)),(.tmp 18)] [2,2,2] (yZ.ok x18 0 (w64 ((a1.length:Int)-1))) h21) (yO 9 [(20,bv (!x20))] [] h22 (zIv 12 (zIo (i:=12) (g:=9) (t:=21) (b:=false) (v:=(.bool true)) (.inl rfl) (by kernel_rfl) (by kernel_rfl)) (zIv 13 (zIo (i:=13) (g:=12) (t:=24) (b:=true) (v:=undef) (.inr rfl) (by kernel_rfl) (by kernel_rfl)) (zIv 14 (zIo (i:=14) (g:=12) (t:=24) (b:=true) (v:=undef) (.inr rfl) (by kernel_rfl) (by kernel_rfl)) (zIv 15 (zIo (i:=15) (g:=12) (t:=24) (b:=true) (v:=undef) (.inr rfl) (by kernel_rfl) (by kernel_rfl)) (zIv 16 (zIo (i:=16) (g:=12) (t:=24) (b:=true) (v:=undef) (.inr rfl) (by kernel_rfl) (by kernel_rfl)) (zIv 17 (zIo (i:=17) (g:=12) (t:=24) (b:=true) (v:=undef) (.inr rfl) (by kernel_rfl) (by kernel_rfl)) (zIv 18 (zIo (i:=18) (g:=12) (t:=24) (b:=true) (v:=undef) (.inr rfl) (by kernel_rfl) (by kernel_rfl)) (zIv 19 (zIo (i:=19) (g:=12) (t:=24) (b:=true) (v:=undef) (.inr rfl) (by kernel_rfl) (by kernel_rfl)) (zIv 20 (zIo (i:=20) (g:=12) (t:=24) (b:=true) (v:=undef) (.inr rfl) (by kernel_rfl) (by kernel_rfl)) (zIv 21 (zIo (i:=21) (g:=12) (t:=24) (b:=true) (v:=undef) (.inr rfl) (by kernel_rfl) (by kernel_rfl)) (zIv 22 (zIo (i:=22) (g:=12) (t:=24) (b:=true) (v:=undef) (.inr rfl) (by kernel_rfl) (by kernel_rfl)) zB)))))))))))))) ?_
    exact zN (J_j (jv28 true)) rfl
   ·refine xB (fun h23=>?_) (fun h23=>?_)
    ·refine zA (fun x24 h25=>?_)
     refine zA (fun x26 h27=>?_)
     refine J_d 840 [] [9,36] [(36,bv (decide (x24≤x26)))] [] [] (zD 2 (wM (kk:=.i64) 34 2 1 zF (.tmp 12) (.tmp 13) h19) (zD 7 (yG [(.tmp 15),(.const (.int .i64 0)),(.tmp 18)] [2,2,2] (yZ.ok x18 0 (w64 ((a1.length:Int)-1))) h21) (yO 9 [(20,bv (!x20))] [] h22 (zH6 12 9 21 false [(23,bv (decide (s16>0)))] [] h23 (uD 15 12 24 true (wM (kk:=.i64) 34 2 1 zF (.tmp 25) (.tmp 26) h25) (uD 20 12 24 true (wM (kk:=.i64) 34 2 1 zF (.tmp 29) (.tmp 31) h27) zB)))))) ?_
     exact zN (J_j (jv28 (decide (x24≤x26)))) rfl
    ·refine J_d 840 [] [9,36] [(36,bv false)] [] [] (zD 2 (wM (kk:=.i64) 34 2 1 zF (.tmp 12) (.tmp 13) h19) (zD 7 (yG [(.tmp 15),(.const (.int .i64 0)),(.tmp 18)] [2,2,2] (yZ.ok x18 0 (w64 ((a1.length:Int)-1))) h21) (yO 9 [(20,bv (!x20))] [] h22 (zH6 12 9 21 false [(23,bv (decide (s16>0)))] [] h23 zB)))) ?_
     exact zN (J_j (jv28 false)) rfl
 ·exact zN (hk ()) rfl
theorem jD.ok (a1:(List Pack)) (a2:(List Int)):Ok Tryz.prog 24 [sl 8 (Pack.enc false) a1,sl 1 zF a2] [] ((jD a1 a2).map fun r=>(bv r,[])):=by
 refine zJ c24 Tryz.f24 0 37 (fun q=>?_)
 unfold jD
 refine J_g 2 [] [(0,sl 8 (Pack.enc false) a1),(1,sl 1 zF a2)] [] zB ?_
 refine J_d 12 [] [5] [(5,iv 0)] [] [] zB ?_
 refine uL (K0:=(fun r:Bool=>some (bv r,[]))) (fun _=>rfl) (zEu.ok a1 a2 q _ (fun v30=>J_j ?_) 0)
 refine J_g 14 [] [(4,bv true)] [] zB ?_
 exact yA rfl
def c65:Code:=cdB Tryz.f65
theorem tC.ok (a1:ByteArray) (a2:ByteArray):Ok Tryz.prog 65 [sv a1,sv a2] [] ((tC a1 a2).map fun r=>(bv r,[])):=by
 refine zJ c65 Tryz.f65 0 18 (fun q=>?_)
 unfold tC
 refine J_d 2 [] [] [] [] [] zB ?_
 refine xB (fun h3=>?_) (fun h3=>?_)
 ·refine zA (fun x4 h5=>?_)
  refine J_g 6 [] [(4,bv (seq x4 a2))] [] (yO 5 [(9,bv (decide ((a1.size:Int)≥(a2.size:Int))))] [] h3 (uD 9 5 10 true (zKY 9 (.tmp 11) none (some (.tmp 13)) h5) zB)) ?_
  exact yA rfl
 ·refine J_g 6 [] [(4,bv false)] [] (yO 5 [(9,bv (decide ((a1.size:Int)≥(a2.size:Int))))] [] h3 zB) ?_
  exact yA rfl
def c164:Code:=cdB Tryz.f164
theorem zIq.ok (a1:zP) (a2:ByteArray) (q:Wd) (kn:(List ByteArray)→Option (D×List Ent)) (hk:∀v:(List ByteArray),J (q.g Tryz.prog 164 1 39) c164 (atI c164 15) (St.mk' [(5,rr 2 v)] [(0,.box [rr 1 a1.Files,iv a1.Budget,iv a1.Writes,iv a1.Stop,bv a1.Down]),(1,rE 2 (File.enc false) a1.Files),(2,rE 1 eStr v)]) (some v) kn):
  ∀s14:((List ByteArray)×Int),J (q.g Tryz.prog 164 1 39) c164 (atI c164 116) (St.mk' [(0,pp 0),(1,sv a2),(5,rr 2 s14.1),(6,iv s14.2)] [(0,.box [rr 1 a1.Files,iv a1.Budget,iv a1.Writes,iv a1.Stop,bv a1.Down]),(1,rE 2 (File.enc false) a1.Files),(2,rE 1 eStr s14.1)]) (zBu a1 a2 s14) kn:=by
 refine uM (fun g ih s14=>?_)
 unfold zAi
 refine J_d 464 [] [14] [(14,bv (decide (s14.2< (a1.Files.length:Int))))] [] [] zB ?_
 refine zG 14 (fun h15=>?_) (fun h15=>?_)
 ·refine zA (fun x16 h17=>?_)
  refine zA (fun x18 h19=>?_)
  refine J_d 1864 [] [14,26] [(26,bv x18)] [] [] (zD 5 (zAb (kk:=.i64) 37 114 2 1 (File.enc false) (.tmp 20) (.tmp 21) h17) (zD 7 (zAa (d:=sv x16.Path) 9 2 1 0 (File.enc false) (.tmp 23) h17 (by kernel_rfl)) (zD 9 (yG [(.tmp 24),(.tmp 25)] [9,9] (tC.ok x16.Path a2) h19) zB))) ?_
  refine zU (aft c164 932) (fun v25:(List ByteArray)=>St.mk' [(0,pp 0),(1,sv a2),(5,rr 4 v25),(6,iv s14.2)] [(0,.box [rr 1 a1.Files,iv a1.Budget,iv a1.Writes,iv a1.Stop,bv a1.Down]),(1,rE 2 (File.enc false) a1.Files),(4,rE 1 eStr v25)]) (fun v25=>?_) (fun jv25=>?_)
  ·refine J_d 467 [] [6] [(6,iv (w64 (s14.2+1)))] [] [] zB ?_
   refine xV 4 2 (qB rfl) (qB rfl) ?_
   exact J_q (J_b (ih (v25,w64 (s14.2+1)))) rfl
  ·refine zG 26 (fun h20=>?_) (fun h20=>?_)
   ·refine zA (fun x21 h22=>?_)
    refine zA (fun x23 h24=>?_)
    refine J_d 3730 [] [5,26] [(5,rr 4 x23)] [2,4] [(4,rE 1 eStr x23)] (zD 6 (zAb (kk:=.i64) 37 114 2 1 (File.enc false) (.tmp 31) (.tmp 32) h22) (zD 8 (zAa (d:=sv x21.Path) 9 2 1 0 (File.enc false) (.tmp 34) h22 (by kernel_rfl)) (zD 9 (vM 69 9 1 3 eStr [x21.Path] [0] [(.tmp 35)] [sv x21.Path]) (zD 10 (zEQ 69 69 9 9 1 16 4 2 3 eStr (.tmp 27) (.tmp 36) h24) zB)))) ?_
    exact zN (J_j (jv25 x23)) rfl
   ·refine xV 2 4 (qB rfl) (qB rfl) ?_
    exact zN (J_j (jv25 s14.1)) rfl
 ·exact zN (hk s14.1) rfl
theorem zK9.ok (a1:zP) (a2:ByteArray):Ok Tryz.prog 164 [pp 0,sv a2] [.box [so 2 (File.enc false) a1.Files,iv a1.Budget,iv a1.Writes,iv a1.Stop,bv a1.Down]] ((zAt a1 a2).map fun r=>(so 1 eStr r,[.box [so 2 (File.enc false) a1.Files,iv a1.Budget,iv a1.Writes,iv a1.Stop,bv a1.Down]])):=by
 refine zJ c164 Tryz.f164 1 39 (fun q=>?_)
 unfold zAt
 refine vF 0 (cs':=[rr 1 a1.Files,iv a1.Budget,iv a1.Writes,iv a1.Stop,bv a1.Down]) (es:=[(1,rE 2 (File.enc false) a1.Files)]) rfl (.cons (.own 1) (.cons (.same rfl rfl) (.cons (.same rfl rfl) (.cons (.same rfl rfl) (.cons (.same rfl rfl) (.nil)))))) rfl (by kernel_rfl) (by kernel_rfl) ?_
 refine vB [(0,pp 0),(1,sv a2)] [(0,.box [rr 1 a1.Files,iv a1.Budget,iv a1.Writes,iv a1.Stop,bv a1.Down]),(1,rE 2 (File.enc false) a1.Files)] (by kernel_rfl) ?_
 refine J_g 2 [] [(0,pp 0),(1,sv a2)] [(0,.box [rr 1 a1.Files,iv a1.Budget,iv a1.Writes,iv a1.Stop,bv a1.Down]),(1,rE 2 (File.enc false) a1.Files)] zB ?_
 refine J_g 6 [] [(0,pp 0),(1,sv a2),(5,rr 2 ([]:List ByteArray))] [(0,.box [rr 1 a1.Files,iv a1.Budget,iv a1.Writes,iv a1.Stop,bv a1.Down]),(1,rE 2 (File.enc false) a1.Files),(2,rE 1 eStr ([]:List ByteArray))] (zD 0 (vM 69 9 1 2 eStr ([]:List ByteArray) [] [] []) zB) ?_
 refine J_d 28 [] [6] [(6,iv 0)] [] [] zB ?_
 refine zEx (zIq.ok a1 a2 q _ (fun v26=>J_j ?_) (([]:List ByteArray),0))
 refine J_g 30 [] [(4,rr 2 v26)] [(0,.box [rr 1 a1.Files,iv a1.Budget,iv a1.Writes,iv a1.Stop,bv a1.Down]),(1,rE 2 (File.enc false) a1.Files),(2,rE 1 eStr v26)] zB ?_
 refine tT 0 (cs':=[so 2 (File.enc false) a1.Files,iv a1.Budget,iv a1.Writes,iv a1.Stop,bv a1.Down]) (ts:=[1]) rfl (.move (.head _) (qC _) (by decide) (.keep rfl (.keep rfl (.keep rfl (.keep rfl (.nil)))))) ?_
 refine vB [(4,rr 2 v26)] [(0,.box [so 2 (File.enc false) a1.Files,iv a1.Budget,iv a1.Writes,iv a1.Stop,bv a1.Down]),(2,rE 1 eStr v26)] (by kernel_rfl) ?_
 exact zEO (ds:=[rr 2 v26]) (ds':=[so 1 eStr v26]) (.cons (.cell (.move (.tail _ (.head _)) (qC _) (by decide) (.nil))) (.nil) (by decide)) rfl
def zRi:Code:=cdB Tryz.f137
theorem zCj.ok (a1:ByteArray) (q:Wd) (kn:Int→Option (D×List Ent)) (hk:∀v:Int,J (q.g Tryz.prog 137 0 37) zRi (atI zRi 31) (St.mk' [(6,iv v)] []) (some v) kn):
  ∀s14:(Int×Int),J (q.g Tryz.prog 137 0 37) zRi (atI zRi 244) (St.mk' [(0,sv a1),(6,iv s14.1),(7,iv s14.2)] []) (zCj a1 s14) (Fl.go (fun r:(Int×Bool)=>some (.tu [iv r.1,bv r.2],[])) kn):=by
 refine uM (fun g ih s14=>?_)
 unfold zAX
 refine J_d 976 [] [20] [(20,bv (decide (s14.2< (a1.size:Int))))] [] [] zB ?_
 refine zG 20 (fun h15=>?_) (fun h15=>?_)
 ·refine zA (fun x16 h17=>?_)
  refine zA (fun x18 h19=>?_)
  refine J_d 7824 [] [20,27] [(27,bv (!x18))] [] [] (zD 2 (zKZ (kk:=.i64) 9 (.tmp 23) (.tmp 24) h17) (zD 3 (yG [(.tmp 25)] [5] (vO.ok x16) h19) zB)) ?_
  refine zG 27 (fun h20=>?_) (fun h20=>?_)
  ·refine J_g 31300 [] [(4,iv 0),(5,bv false)] [] zB ?_
   exact zPj rfl
  ·refine zA (fun x21 h22=>?_)
   refine J_g 3913 [] [(0,sv a1),(6,iv (w64 ((w64 (s14.1*10))+(w64 (IntKind.u8.wrap (x21-48)))))),(7,iv s14.2)] [] (zD 4 (zKZ (kk:=.i64) 9 (.tmp 30) (.tmp 31) h22) zB) ?_
   refine J_d 979 [] [7] [(7,iv (w64 (s14.2+1)))] [] [] zB ?_
   exact J_q (J_b (ih (w64 ((w64 (s14.1*10))+(w64 (IntKind.u8.wrap (x21-48)))),w64 (s14.2+1)))) rfl
 ·exact zN (hk s14.1) rfl
theorem vK.ok (a1:ByteArray) (a2:Int):Ok Tryz.prog 137 [sv a1,iv a2] [] ((vK a1 a2).map fun r=>(.tu [iv r.1,bv r.2],[])):=by
 refine zJ zRi Tryz.f137 0 37 (fun q=>?_)
 unfold vK
 refine J_d 2 [] [] [] [] [] zB ?_
 refine zU (atI zRi 13) (fun v4:Bool=>St.mk' [(0,sv a1),(16,bv v4)] []) (fun v4=>?_) (fun jv4=>?_)
 ·refine zG 16 (fun h5=>?_) (fun h5=>?_)
  ·refine J_g 52 [] [(4,iv 0),(5,bv false)] [] zB ?_
   exact zPj rfl
  ·refine J_g 14 [] [(0,sv a1),(6,iv 0)] [] zB ?_
   refine J_d 60 [] [7] [(7,iv 0)] [] [] zB ?_
   refine uL (K0:=(fun r:(Int×Bool)=>some (.tu [iv r.1,bv r.2],[]))) (fun _=>rfl) (zCj.ok a1 q _ (fun v23=>J_j ?_) (0,0))
   refine J_g 62 [] [(4,iv v23),(5,bv true)] [] zB ?_
   exact zPj rfl
 ·refine xB (fun h3=>?_) (fun h3=>?_)
  ·refine J_g 12 [] [(0,sv a1),(16,bv true)] [] (yO 3 [(10,bv (decide ((a1.size:Int)<1)))] [] h3 zB) ?_
   exact zN (J_j (jv4 true)) rfl
  ·refine J_g 12 [] [(0,sv a1),(16,bv (decide ((a1.size:Int)>a2)))] [] (yO 3 [(10,bv (decide ((a1.size:Int)<1)))] [] h3 zB) ?_
   exact zN (J_j (jv4 (decide ((a1.size:Int)>a2)))) rfl
def zNk:Code:=cdB Tryz.f135
theorem zIT.ok (a1:zP) (x2:(List ByteArray)) (q:Wd) (kn:(List Int)→Option (D×List Ent)) (hk:∀v:(List Int),J (q.g Tryz.prog 135 1 41) zNk (atI zNk 31) (St.mk' [(3,rr 2 v)] [(0,.box [rr 4 a1.Files,iv a1.Budget,iv a1.Writes,iv a1.Stop,bv a1.Down]),(2,rE 1 zF v),(4,rE 2 (File.enc false) a1.Files)]) (some v) kn):
  ∀s21:((List Int)×Int),J (q.g Tryz.prog 135 1 41) zNk (atI zNk 244) (St.mk' [(3,rr 2 s21.1),(4,rr 3 x2),(5,iv s21.2)] [(0,.box [rr 4 a1.Files,iv a1.Budget,iv a1.Writes,iv a1.Stop,bv a1.Down]),(2,rE 1 zF s21.1),(3,rE 1 eStr x2),(4,rE 2 (File.enc false) a1.Files)]) (zCr a1 x2 s21) kn:=by
 refine uM (fun g ih s21=>?_)
 unfold zBx
 refine J_d 976 [] [14] [(14,bv (decide (s21.2< (x2.length:Int))))] [] [] zB ?_
 refine zG 14 (fun h22=>?_) (fun h22=>?_)
 ·refine zA (fun x23 h24=>?_)
  refine zA (fun x25 h26=>?_)
  refine zA (fun x27 h28=>?_)
  refine J_d 3912 [] [6,7,14] [(6,iv x27.1),(7,bv x27.2)] [] [] (zD 2 (zAb (kk:=.i64) 69 9 1 3 eStr (.tmp 18) (.tmp 19) h24) (zD 3 (zAa (d:=sv x23) 9 1 3 0 eStr (.tmp 20) h24 (by kernel_rfl)) (zD 4 (zKY 9 (.tmp 21) (some (.const (.int .i64 4))) none h26) (zD 5 (yG [(.tmp 22),(.const (.int .i64 6))] [9,3] (vK.ok x25 6) h28) zB)))) ?_
  refine zU (atI zNk 7827) (fun v34:Bool=>St.mk' [(3,rr 2 s21.1),(4,rr 3 x2),(5,iv s21.2),(6,iv x27.1),(35,bv v34)] [(0,.box [rr 4 a1.Files,iv a1.Budget,iv a1.Writes,iv a1.Stop,bv a1.Down]),(2,rE 1 zF s21.1),(3,rE 1 eStr x2),(4,rE 2 (File.enc false) a1.Files)]) (fun v34=>?_) (fun jv34=>?_)
  ·refine zU (aft zNk 1956) (fun v38:(List Int)=>St.mk' [(3,rr 6 v38),(4,rr 3 x2),(5,iv s21.2)] [(0,.box [rr 4 a1.Files,iv a1.Budget,iv a1.Writes,iv a1.Stop,bv a1.Down]),(3,rE 1 eStr x2),(4,rE 2 (File.enc false) a1.Files),(6,rE 1 zF v38)]) (fun v38=>?_) (fun jv38=>?_)
   ·refine J_d 979 [] [5] [(5,iv (w64 (s21.2+1)))] [] [] zB ?_
    refine xV 6 2 (qB rfl) (qB rfl) ?_
    exact J_q (J_b (ih (v38,w64 (s21.2+1)))) rfl
   ·refine zG 35 (fun h35=>?_) (fun h35=>?_)
    ·refine zA (fun x36 h37=>?_)
     refine J_d 15654 [] [3,6,35] [(3,rr 6 x36)] [2,6] [(6,rE 1 zF x36)] (zD 2 (vM 34 2 1 5 zF [x27.1] [0] [(.tmp 37)] [iv x27.1]) (zD 3 (zEQ 34 34 2 2 1 8 6 2 5 zF (.tmp 36) (.tmp 38) h37) zB)) ?_
     exact zN (J_j (jv38 x36)) rfl
    ·refine xV 2 6 (qB rfl) (qB rfl) ?_
     exact zN (J_j (jv38 s21.1)) rfl
  ·refine xB (fun h29=>?_) (fun h29=>?_)
   ·refine zA (fun x30 h31=>?_)
    refine zA (fun x32 h33=>?_)
    refine J_d 7826 [] [7,35] [(35,bv (seq x30 x32))] [] [] (yO 1 [(26,bv x27.2)] [] h29 (uD 3 1 27 true (yG [(.tmp 28)] [2] (wL.ok x27.1) h31) (uD 6 1 27 true (zAb (kk:=.i64) 69 9 1 3 eStr (.tmp 30) (.tmp 31) h33) (uD 7 1 27 true (zAa (d:=sv x32) 9 1 3 0 eStr (.tmp 32) h33 (by kernel_rfl)) zB)))) ?_
    exact zN (J_j (jv34 (seq x30 x32))) rfl
   ·refine J_d 7826 [] [7,35] [(35,bv false)] [] [] (yO 1 [(26,bv x27.2)] [] h29 zB) ?_
    exact zN (J_j (jv34 false)) rfl
 ·exact zN (hk s21.1) rfl
theorem zLt.ok (a1:zP):Ok Tryz.prog 135 [pp 0] [.box [so 2 (File.enc false) a1.Files,iv a1.Budget,iv a1.Writes,iv a1.Stop,bv a1.Down]] ((jF a1).map fun r=>(so 1 zF r,[.box [so 2 (File.enc false) a1.Files,iv a1.Budget,iv a1.Writes,iv a1.Stop,bv a1.Down]])):=by
 refine zJ zNk Tryz.f135 1 41 (fun q=>?_)
 unfold jF
 refine vF 0 (cs':=[rr 1 a1.Files,iv a1.Budget,iv a1.Writes,iv a1.Stop,bv a1.Down]) (es:=[(1,rE 2 (File.enc false) a1.Files)]) rfl (.cons (.own 1) (.cons (.same rfl rfl) (.cons (.same rfl rfl) (.cons (.same rfl rfl) (.cons (.same rfl rfl) (.nil)))))) rfl (by kernel_rfl) (by kernel_rfl) ?_
 refine vB [(0,pp 0)] [(0,.box [rr 1 a1.Files,iv a1.Budget,iv a1.Writes,iv a1.Stop,bv a1.Down]),(1,rE 2 (File.enc false) a1.Files)] (by kernel_rfl) ?_
 refine J_g 2 [] [(0,pp 0)] [(0,.box [rr 1 a1.Files,iv a1.Budget,iv a1.Writes,iv a1.Stop,bv a1.Down]),(1,rE 2 (File.enc false) a1.Files)] zB ?_
 refine J_g 6 [] [(0,pp 0),(3,rr 2 ([]:List Int))] [(0,.box [rr 1 a1.Files,iv a1.Budget,iv a1.Writes,iv a1.Stop,bv a1.Down]),(1,rE 2 (File.enc false) a1.Files),(2,rE 1 zF ([]:List Int))] (zD 0 (vM 34 2 1 2 zF ([]:List Int) [] [] []) zB) ?_
 refine tT 0 (cs':=[so 2 (File.enc false) a1.Files,iv a1.Budget,iv a1.Writes,iv a1.Stop,bv a1.Down]) (ts:=[1]) rfl (.move (.head _) (qC _) (by decide) (.keep rfl (.keep rfl (.keep rfl (.keep rfl (.nil)))))) ?_
 refine vB [(0,pp 0),(3,rr 2 ([]:List Int))] [(0,.box [so 2 (File.enc false) a1.Files,iv a1.Budget,iv a1.Writes,iv a1.Stop,bv a1.Down]),(2,rE 1 zF ([]:List Int))] (by kernel_rfl) ?_
 refine zA (fun x2 h3=>?_)
 refine J_g 14 [] [(3,rr 2 ([]:List Int)),(4,rr 3 x2)] [(0,.box [so 2 (File.enc false) a1.Files,iv a1.Budget,iv a1.Writes,iv a1.Stop,bv a1.Down]),(2,rE 1 zF ([]:List Int)),(3,rE 1 eStr x2)] (zD 1 (zH7 [(0,.box [so 2 (File.enc false) a1.Files,iv a1.Budget,iv a1.Writes,iv a1.Stop,bv a1.Down])] [(3,rE 1 eStr x2)] (xH («as»:=[pp 0,sv (bs [103,101,110,47])]) [(.tmp 9),(.const (.string (bs [103,101,110,47])))] [43,9] false [(0,.box [so 2 (File.enc false) a1.Files,iv a1.Budget,iv a1.Writes,iv a1.Stop,bv a1.Down])] [0] (.cons (.pt rfl) (.cons (.same rfl) (.nil))) (zK9.ok a1 (bs [103,101,110,47])) h3 (.own 3))) zB) ?_
 refine vF 0 (cs':=[rr 4 a1.Files,iv a1.Budget,iv a1.Writes,iv a1.Stop,bv a1.Down]) (es:=[(4,rE 2 (File.enc false) a1.Files)]) rfl (.cons (.own 4) (.cons (.same rfl rfl) (.cons (.same rfl rfl) (.cons (.same rfl rfl) (.cons (.same rfl rfl) (.nil)))))) rfl (by kernel_rfl) (by kernel_rfl) ?_
 refine vB [(3,rr 2 ([]:List Int)),(4,rr 3 x2)] [(0,.box [rr 4 a1.Files,iv a1.Budget,iv a1.Writes,iv a1.Stop,bv a1.Down]),(2,rE 1 zF ([]:List Int)),(3,rE 1 eStr x2),(4,rE 2 (File.enc false) a1.Files)] (by kernel_rfl) ?_
 refine J_d 60 [] [5] [(5,iv 0)] [] [] zB ?_
 refine zEx (zIT.ok a1 x2 q _ (fun v39=>J_j ?_) (([]:List Int),0))
 refine J_g 62 [] [(2,rr 2 v39)] [(0,.box [rr 4 a1.Files,iv a1.Budget,iv a1.Writes,iv a1.Stop,bv a1.Down]),(2,rE 1 zF v39),(4,rE 2 (File.enc false) a1.Files)] zB ?_
 refine tT 0 (cs':=[so 2 (File.enc false) a1.Files,iv a1.Budget,iv a1.Writes,iv a1.Stop,bv a1.Down]) (ts:=[4]) rfl (.move (.tail _ (.head _)) (qC _) (by decide) (.keep rfl (.keep rfl (.keep rfl (.keep rfl (.nil)))))) ?_
 refine vB [(2,rr 2 v39)] [(0,.box [so 2 (File.enc false) a1.Files,iv a1.Budget,iv a1.Writes,iv a1.Stop,bv a1.Down]),(2,rE 1 zF v39)] (by kernel_rfl) ?_
 exact zEO (ds:=[rr 2 v39]) (ds':=[so 1 zF v39]) (.cons (.cell (.move (.tail _ (.head _)) (qC _) (by decide) (.nil))) (.nil) (by decide)) rfl
def c72:Code:=cdB Tryz.f72
theorem zLO.ok (a1:zP):Ok Tryz.prog 72 [pp 0] [.box [so 2 (File.enc false) a1.Files,iv a1.Budget,iv a1.Writes,iv a1.Stop,bv a1.Down]] ((zFj a1).map fun r=>(iv r,[.box [so 2 (File.enc false) a1.Files,iv a1.Budget,iv a1.Writes,iv a1.Stop,bv a1.Down]])):=by
 refine zJ c72 Tryz.f72 1 16 (fun q=>?_)
 unfold zFj
 refine vF 0 (cs':=[rr 1 a1.Files,iv a1.Budget,iv a1.Writes,iv a1.Stop,bv a1.Down]) (es:=[(1,rE 2 (File.enc false) a1.Files)]) rfl (.cons (.own 1) (.cons (.same rfl rfl) (.cons (.same rfl rfl) (.cons (.same rfl rfl) (.cons (.same rfl rfl) (.nil)))))) rfl (by kernel_rfl) (by kernel_rfl) ?_
 refine vB [(0,pp 0)] [(0,.box [rr 1 a1.Files,iv a1.Budget,iv a1.Writes,iv a1.Stop,bv a1.Down]),(1,rE 2 (File.enc false) a1.Files)] (by kernel_rfl) ?_
 refine J_g 2 [] [(0,pp 0)] [(0,.box [rr 1 a1.Files,iv a1.Budget,iv a1.Writes,iv a1.Stop,bv a1.Down]),(1,rE 2 (File.enc false) a1.Files)] zB ?_
 refine tT 0 (cs':=[so 2 (File.enc false) a1.Files,iv a1.Budget,iv a1.Writes,iv a1.Stop,bv a1.Down]) (ts:=[1]) rfl (.move (.head _) (qC _) (by decide) (.keep rfl (.keep rfl (.keep rfl (.keep rfl (.nil)))))) ?_
 refine vB [(0,pp 0)] [(0,.box [so 2 (File.enc false) a1.Files,iv a1.Budget,iv a1.Writes,iv a1.Stop,bv a1.Down])] (by kernel_rfl) ?_
 refine zA (fun x2 h3=>?_)
 refine J_g 6 [] [(3,rr 1 x2)] [(0,.box [so 2 (File.enc false) a1.Files,iv a1.Budget,iv a1.Writes,iv a1.Stop,bv a1.Down]),(1,rE 1 zF x2)] (zD 1 (zH7 [(0,.box [so 2 (File.enc false) a1.Files,iv a1.Budget,iv a1.Writes,iv a1.Stop,bv a1.Down])] [(1,rE 1 zF x2)] (xH («as»:=[pp 0]) [(.tmp 4)] [43] false [(0,.box [so 2 (File.enc false) a1.Files,iv a1.Budget,iv a1.Writes,iv a1.Stop,bv a1.Down])] [0] (.cons (.pt rfl) (.nil)) (zLt.ok a1) h3 (.own 1))) zB) ?_
 refine vF 0 (cs':=[rr 2 a1.Files,iv a1.Budget,iv a1.Writes,iv a1.Stop,bv a1.Down]) (es:=[(2,rE 2 (File.enc false) a1.Files)]) rfl (.cons (.own 2) (.cons (.same rfl rfl) (.cons (.same rfl rfl) (.cons (.same rfl rfl) (.cons (.same rfl rfl) (.nil)))))) rfl (by kernel_rfl) (by kernel_rfl) ?_
 refine vB [(3,rr 1 x2)] [(0,.box [rr 2 a1.Files,iv a1.Budget,iv a1.Writes,iv a1.Stop,bv a1.Down]),(1,rE 1 zF x2),(2,rE 2 (File.enc false) a1.Files)] (by kernel_rfl) ?_
 refine J_d 28 [] [8] [(8,bv ((x2.length:Int)==0))] [] [] zB ?_
 refine zG 8 (fun h4=>?_) (fun h4=>?_)
 ·refine J_g 116 [] [(2,iv 1)] [(0,.box [rr 2 a1.Files,iv a1.Budget,iv a1.Writes,iv a1.Stop,bv a1.Down]),(2,rE 2 (File.enc false) a1.Files)] zB ?_
  refine tT 0 (cs':=[so 2 (File.enc false) a1.Files,iv a1.Budget,iv a1.Writes,iv a1.Stop,bv a1.Down]) (ts:=[2]) rfl (.move (.head _) (qC _) (by decide) (.keep rfl (.keep rfl (.keep rfl (.keep rfl (.nil)))))) ?_
  refine vB [(2,iv 1)] [(0,.box [so 2 (File.enc false) a1.Files,iv a1.Budget,iv a1.Writes,iv a1.Stop,bv a1.Down])] (by kernel_rfl) ?_
  exact yA rfl
 ·refine zA (fun x5 h6=>?_)
  refine J_g 30 [] [(2,iv (w64 (x5+1)))] [(0,.box [rr 2 a1.Files,iv a1.Budget,iv a1.Writes,iv a1.Stop,bv a1.Down]),(2,rE 2 (File.enc false) a1.Files)] (zD 4 (zAb (kk:=.i64) 34 2 1 1 zF (.tmp 9) (.tmp 12) h6) (zD 5 (zAa (d:=iv x5) 2 1 1 0 zF (.tmp 13) h6 (by kernel_rfl)) zB)) ?_
  refine tT 0 (cs':=[so 2 (File.enc false) a1.Files,iv a1.Budget,iv a1.Writes,iv a1.Stop,bv a1.Down]) (ts:=[2]) rfl (.move (.head _) (qC _) (by decide) (.keep rfl (.keep rfl (.keep rfl (.keep rfl (.nil)))))) ?_
  refine vB [(2,iv (w64 (x5+1)))] [(0,.box [so 2 (File.enc false) a1.Files,iv a1.Budget,iv a1.Writes,iv a1.Stop,bv a1.Down])] (by kernel_rfl) ?_
  exact yA rfl
def zTt:Code:=cdB Tryz.f126
theorem yP.ok (a1:Version):Ok Tryz.prog 126 [.ag (Version.enc a1)] [] ((yP a1).map fun r=>(sv r,[])):=by
 refine zJ zTt Tryz.f126 0 19 (fun q=>?_)
 unfold yP
 refine J_g 2 [(0,0)] [(1,pp 0)] [(0,.box (Version.enc a1))] zB ?_
 refine zA (fun x2 h3=>?_)
 refine J_d 12 [] [5] [(5,bv (x2 !=0))] [] [] (zD 1 (yG [(.tmp 3)] [83] (xJ.ok a1) h3) zB) ?_
 refine zG 5 (fun h4=>?_) (fun h4=>?_)
 ·refine J_g 52 [] [(2,sv (bs []))] [] zB ?_
  exact yA rfl
 ·refine zA (fun x5 h6=>?_)
  refine zA (fun x7 h8=>?_)
  refine zA (fun x9 h10=>?_)
  refine zA (fun x11 h12=>?_)
  refine zA (fun x13 h14=>?_)
  refine zA (fun x15 h16=>?_)
  refine zA (fun x17 h18=>?_)
  refine J_g 14 [] [(2,sv x17)] [] (zD 2 (yG [(.tmp 7)] [2] (xX.ok a1.A) h6) (zD 3 (zAJ 9 9 (.tmp 8) (.const (.string (bs [46]))) h8) (zD 6 (yG [(.tmp 11)] [2] (xX.ok a1.B) h10) (zD 7 (zAJ 9 9 (.tmp 9) (.tmp 12) h12) (zD 8 (zAJ 9 9 (.tmp 13) (.const (.string (bs [46]))) h14) (zD 11 (yG [(.tmp 16)] [2] (xX.ok a1.C) h16) (zD 12 (zAJ 9 9 (.tmp 14) (.tmp 17) h18) zB))))))) ?_
  exact yA rfl
def c73:Code:=cdB Tryz.f73
theorem zDW.ok (a1:Pack):Ok Tryz.prog 73 [.ag (Pack.enc false a1)] [] ((zDW a1).map fun r=>(sv r,[])):=by
 refine zJ c73 Tryz.f73 0 11 (fun q=>?_)
 unfold zDW
 refine J_g 2 [(0,0)] [(1,pp 0)] [(0,.box (Pack.enc false a1))] zB ?_
 refine zA (fun x2 h3=>?_)
 refine zA (fun x4 h5=>?_)
 refine zA (fun x6 h7=>?_)
 refine zA (fun x8 h9=>?_)
 refine J_g 6 [] [(2,sv x8)] [] (zD 2 (zAJ 9 9 (.const (.string (bs [112,107,103,47]))) (.tmp 4) h3) (zD 3 (zAJ 9 9 (.tmp 5) (.const (.string (bs [45]))) h5) (zD 6 (yG [(.tmp 8)] [83] (yP.ok a1.Version) h7) (zD 7 (zAJ 9 9 (.tmp 6) (.tmp 9) h9) zB)))) ?_
 exact yA rfl
def c74:Code:=cdB Tryz.f74
theorem zDj.ok (a1:Pack) (q:Wd) (kn:(List Int)→Option (D×List Ent)) (hk:∀v:(List Int),J (q.g Tryz.prog 74 0 50) c74 (atI c74 63) (St.mk' [(5,rr 1 v)] [(1,rE 1 eU8 v)]) (some v) kn):
  ∀s13:(Int×(List Int)×Int),J (q.g Tryz.prog 74 0 50) c74 (atI c74 500) (St.mk' [(1,pp 0),(3,iv s13.1),(5,rr 1 s13.2.1),(6,iv s13.2.2)] [(0,.box (Pack.enc false a1)),(1,rE 1 eU8 s13.2.1)]) (zDj a1 s13) kn:=by
 refine uM (fun g ih s13=>?_)
 unfold zBH
 refine J_d 2000 [] [36] [(36,bv (decide (s13.2.2<a1.Size)))] [] [] zB ?_
 refine zG 36 (fun h14=>?_) (fun h14=>?_)
 ·refine J_d 8008 [] [3,36] [(3,iv (s13.1.tmod 256))] [] [] zB ?_
  refine zA (fun x15 h16=>?_)
  refine J_g 16018 [] [(1,pp 0),(3,iv (s13.1.tmod 256)),(5,rr 3 x15),(6,iv s13.2.2)] [(0,.box (Pack.enc false a1)),(3,rE 1 eU8 x15)] (zD 3 (vM 22 5 1 2 eU8 [IntKind.u8.wrap (s13.1.tmod 256)] [0] [(.tmp 43)] [uv (IntKind.u8.wrap (s13.1.tmod 256))]) (zD 4 (zEQ 22 22 5 5 1 1 3 1 2 eU8 (.tmp 41) (.tmp 44) h16) zB)) ?_
  refine J_g 16019 [] [(1,pp 0),(3,iv (w64 ((w64 (31*(s13.1.tmod 256)))+7))),(5,rr 3 x15),(6,iv s13.2.2)] [(0,.box (Pack.enc false a1)),(3,rE 1 eU8 x15)] zB ?_
  refine J_d 2003 [] [6] [(6,iv (w64 (s13.2.2+1)))] [] [] zB ?_
  refine xV 3 1 (qB rfl) (qB rfl) ?_
  exact J_q (J_b (ih (w64 ((w64 (31*(s13.1.tmod 256)))+7),x15,w64 (s13.2.2+1)))) rfl
 ·exact zN (hk s13.2.1) rfl
theorem zCR.ok (a1:Pack) (q:Wd) (kn:Int→Option (D×List Ent)) (hk:∀v:Int,J (q.g Tryz.prog 74 0 50) c74 (atI c74 15) (St.mk' [(1,pp 0),(3,iv v)] [(0,.box (Pack.enc false a1))]) (some v) kn):
  ∀s5:(Int×Int),J (q.g Tryz.prog 74 0 50) c74 (atI c74 116) (St.mk' [(1,pp 0),(3,iv s5.1),(4,iv s5.2)] [(0,.box (Pack.enc false a1))]) (zCR a1 s5) kn:=by
 refine uM (fun g ih s5=>?_)
 unfold zBQ
 refine J_d 464 [] [22] [(22,bv (decide (s5.2< (a1.Name.size:Int))))] [] [] zB ?_
 refine zG 22 (fun h6=>?_) (fun h6=>?_)
 ·refine zA (fun x7 h8=>?_)
  refine J_g 932 [] [(1,pp 0),(3,iv (w64 (s5.1+(w64 (x7))))),(4,iv s5.2)] [(0,.box (Pack.enc false a1))] (zD 4 (zKZ (kk:=.i64) 9 (.tmp 27) (.tmp 28) h8) zB) ?_
  refine J_d 467 [] [4] [(4,iv (w64 (s5.2+1)))] [] [] zB ?_
  exact J_q (J_b (ih (w64 (s5.1+(w64 (x7))),w64 (s5.2+1)))) rfl
 ·exact zN (hk s5.1) rfl
theorem zC2.ok (a1:Pack):Ok Tryz.prog 74 [.ag (Pack.enc false a1)] [] ((zC2 a1).map fun r=>(sl 1 eU8 r,[])):=by
 refine zJ c74 Tryz.f74 0 50 (fun q=>?_)
 unfold zC2
 refine J_g 2 [(0,0)] [(1,pp 0)] [(0,.box (Pack.enc false a1))] zB ?_
 refine J_g 6 [] [(1,pp 0),(3,iv (w64 ((w64 (a1.Version.A+a1.Version.B))+a1.Version.C)))] [(0,.box (Pack.enc false a1))] zB ?_
 refine J_d 28 [] [4] [(4,iv 0)] [] [] zB ?_
 refine zEx (zCR.ok a1 q _ (fun v9=>J_j ?_) (w64 ((w64 (a1.Version.A+a1.Version.B))+a1.Version.C),0))
 refine J_g 30 [] [(1,pp 0),(3,iv v9),(5,rr 1 ([]:List Int))] [(0,.box (Pack.enc false a1)),(1,rE 1 eU8 ([]:List Int))] (zD 0 (vM 22 5 1 1 eU8 ([]:List Int) [] [] []) zB) ?_
 refine J_d 124 [] [6] [(6,iv 0)] [] [] zB ?_
 refine zEx (zDj.ok a1 q _ (fun v17=>J_j ?_) (v9,([]:List Int),0))
 refine J_g 126 [] [(2,rr 1 v17)] [(1,rE 1 eU8 v17)] zB ?_
 refine vB [(2,rr 1 v17)] [(1,rE 1 eU8 v17)] (by kernel_rfl) ?_
 refine zEc 1 (z:=1) (xs:=v17.map eU8) (tm2:=[(2,sl 1 eU8 v17)]) (hp2:=[]) (.cons (.rf (by simp) (jG (enc:=eU8) (enc':=eU8) (fun _=>rfl) v17 rfl rfl)) (.nil)) (.nil) rfl ?_
 exact yA rfl
end
end Go.Told

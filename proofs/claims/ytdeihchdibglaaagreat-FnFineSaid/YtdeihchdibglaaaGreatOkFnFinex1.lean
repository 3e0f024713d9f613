import Derived.Test.YtdeihchdibglaaaGreatToldFnFine
import Derived.Test.YtdeihchdibglaaaGreatShelfFnFine
import Derived.Test.YtdeihchdibglaaaGreatProg
set_option linter.unusedVariables false
set_option maxRecDepth 4000
namespace Go.Told
open Go Go.Im Go.Proofs
noncomputable def c7:Code:=(Tryz.f7.body).getD .skip
theorem zDz.ok (a1:(List Int)):Ok Tryz.prog 7 [sl 1 eU8 a1] [] ((zDz a1).map fun r=>(bv r,[])):=by
 refine zJ c7 Tryz.f7 0 6 (fun q=>?_)
 unfold zDz
 refine J_g 2 [] [(0,sl 1 eU8 a1)] [] zB ?_
 refine J_g 6 [] [(2,bv (decide ((a1.length:Int)>1048576)))] [] zB ?_
 exact xJ rfl
noncomputable def c29:Code:=(Tryz.f29.body).getD .skip
theorem zB0.ok (a1:(List Int)):Ok Tryz.prog 29 [sl 1 eU8 a1] [] ((zB0 a1).map fun r=>(.po [sl 1 eU8 r.Code,iv r.At],[])):=by
 refine zJ c29 Tryz.f29 0 6 (fun q=>?_)
 unfold zB0
 refine J_g 2 [] [(0,sl 1 eU8 a1)] [] zB ?_
 refine J_g 6 [(2,0)] [(2,pp 0)] [(0,.box [sl 1 eU8 a1,iv 0])] zB ?_
 exact zEf (ds:=[pp 0]) (ds':=[.po [sl 1 eU8 a1,iv 0]]) (.cons (.po (.head _)) (.nil) (by decide)) rfl
noncomputable def c46:Code:=(Tryz.f46.body).getD .skip
theorem zL.ok (a1:zD) (a2:Int):Ok Tryz.prog 46 [pp 0,iv a2] [.box (zD.enc false a1)] ((zL a1 a2).map fun r=>(iv r.1,[.box (zD.enc false r.2)])):=by
 refine zJ c46 Tryz.f46 1 71 (fun q=>?_)
 unfold zL
 refine J_g 2 [] [(0,pp 0),(1,iv a2)] [(0,.box (zD.enc false a1))] zB ?_
 refine J_g 6 [] [(0,pp 0),(1,iv a2)] [(0,.box [sl 1 eU8 a1.Code,iv (w64 (a1.At+1))])] zB ?_
 refine J_d 28 [] [17] [(17,bv (decide (a2<1)))] [] [] zB ?_
 refine zG 17 (fun h3=>?_) (fun h3=>?_)
 ·refine J_d 116 [] [0,1,4,17] [(4,iv 0)] [] [] zB ?_
  exact xJ rfl
 ·refine J_g 30 [] [(0,pp 0),(1,iv a2),(5,iv (w64 ((w64 (a1.At+1))-1)))] [(0,.box [sl 1 eU8 a1.Code,iv (w64 (a1.At+1))])] zB ?_
  refine J_g 62 [] [(0,pp 0),(1,iv a2),(5,iv (w64 ((w64 (a1.At+1))-1))),(6,iv (a1.Code.length:Int))] [(0,.box [sl 1 eU8 a1.Code,iv (w64 (a1.At+1))])] zB ?_
  refine J_d 252 [] [29] [(29,bv ((a1.Code.length:Int)==0))] [] [] zB ?_
  refine zG 29 (fun h4=>?_) (fun h4=>?_)
  ·refine zA (fun x5 h6=>?_)
   refine J_d 1012 [] [0,1,4,5,6,29] [(4,iv x5)] [] [] (zF 3 (zLR (k:=.i64) 2 2 (.tmp 31) (.tmp 32) h6) zB) ?_
   exact xJ rfl
  ·refine zA (fun x7 h8=>?_)
   refine zA (fun x9 h10=>?_)
   refine zA (fun x11 h12=>?_)
   refine J_g 254 [] [(0,pp 0),(1,iv a2),(5,iv (w64 ((w64 (a1.At+1))-1))),(6,iv (a1.Code.length:Int)),(7,iv (w64 ((w64 (x9))+(w64 (x11*37)))))] [(0,.box [sl 1 eU8 a1.Code,iv (w64 (a1.At+1))])] (zF 6 (zLR (k:=.i64) 2 2 (.tmp 38) (.tmp 39) h8) (zF 7 (uN (kk:=.i64) 22 5 1 eU8 (.tmp 37) (.tmp 40) h10) (zF 12 (zOx (k:=.i64) 2 2 (.tmp 44) (.tmp 45) h12) zB))) ?_
   refine J_d 1020 [] [50] [(50,bv (decide (a2>200)))] [] [] zB ?_
   refine xR (atI c46 511) (fun v18:Int=>St.mk' [(1,iv a2),(7,iv v18)] [(0,.box [sl 1 eU8 a1.Code,iv (w64 (a1.At+1))])]) (fun v18=>?_) (fun jv18=>?_)
   ·refine zA (fun x19 h20=>?_)
    refine J_d 1022 [] [1,4,7] [(4,iv x19)] [] [] (zF 2 (zLR (k:=.i64) 2 2 (.tmp 68) (.tmp 69) h20) zB) ?_
    exact xJ rfl
   ·refine zG 50 (fun h13=>?_) (fun h13=>?_)
    ·refine zA (fun x14 h15=>?_)
     refine zA (fun x16 h17=>?_)
     refine J_d 2042 [] [0,5,6,7,50] [(7,iv (w64 ((w64 ((w64 ((w64 ((w64 (x9))+(w64 (x11*37))))*251))+(w64 ((w64 (x16))*13))))+(w64 ((w64 (a1.At+1))-1)))))] [] [] (zF 9 (zLR (k:=.i64) 2 2 (.tmp 58) (.tmp 59) h15) (zF 10 (uN (kk:=.i64) 22 5 1 eU8 (.tmp 56) (.tmp 60) h17) zB)) ?_
     exact yM (J_j (jv18 (w64 ((w64 ((w64 ((w64 ((w64 (x9))+(w64 (x11*37))))*251))+(w64 ((w64 (x16))*13))))+(w64 ((w64 (a1.At+1))-1)))))) rfl
    ·exact yM (J_j (jv18 (w64 ((w64 (x9))+(w64 (x11*37)))))) rfl
noncomputable def zOQ:Code:=(Tryz.f104.body).getD .skip
theorem wB.ok (a1:zD) (a2:(List Int)):Ok Tryz.prog 104 [pp 0,rr 1 a2] [.box (zD.enc false a1),rE 1 zC a2] ((wB a1 a2).map fun r=>(iv r.1,[.box (zD.enc false r.2),rE 1 zC a2])):=by
 refine zJ zOQ Tryz.f104 2 12 (fun q=>?_)
 unfold wB
 refine J_d 2 [] [] [] [] [] zB ?_
 refine zA (fun x3 h4=>?_)
 refine zA (fun x5 h6=>?_)
 refine J_g 6 [] [(4,iv x5)] [(0,.box (zD.enc false x3.2)),(1,rE 1 zC a2)] (zF 4 (wW («as»:=[pp 0,iv (a2.length:Int)]) [(.tmp 6),(.tmp 8)] [56,2] false [(0,.box (zD.enc false a1))] [0] (.cons (.pt rfl) (.cons (.same rfl) (.nil))) (zL.ok a1 (a2.length:Int)) h4 (.same rfl rfl)) (zF 5 (zCb (kk:=.i64) 25 2 1 1 zC (.tmp 5) (.tmp 9) h6) (zF 6 (zCK (d:=iv x5) 2 1 1 0 zC (.tmp 10) h6 (by kernel_rfl)) zB))) ?_
 exact xJ rfl
noncomputable def c91:Code:=(Tryz.f91.body).getD .skip
theorem wE.ok (a1:zD):Ok Tryz.prog 91 [pp 0] [.box (zD.enc false a1)] ((wE a1).map fun r=>(sv r.1,[.box (zD.enc false r.2)])):=by
 refine zJ c91 Tryz.f91 1 8 (fun q=>?_)
 unfold wE
 refine J_d 2 [] [] [] [] [] zB ?_
 refine zA (fun x2 h3=>?_)
 refine zA (fun x4 h5=>?_)
 refine J_g 6 [] [(2,sv x4)] [(0,.box (zD.enc false x2.2))] (zF 0 (zAZ 32 9 1 1 eStr [bs [97],bs [98],bs [99],bs [100],bs [108,105,98],bs [119,101,98]] [0,1,2,3,4,5] [(.const (.string (bs [97]))),(.const (.string (bs [98]))),(.const (.string (bs [99]))),(.const (.string (bs [100]))),(.const (.string (bs [108,105,98]))),(.const (.string (bs [119,101,98])))] [sv (bs [97]),sv (bs [98]),sv (bs [99]),sv (bs [100]),sv (bs [108,105,98]),sv (bs [119,101,98])]) (zF 2 (wW («as»:=[pp 0,iv 6]) [(.tmp 4),(.const (.int .i64 6))] [56,2] false [(0,.box (zD.enc false a1))] [0] (.cons (.pt rfl) (.cons (.same rfl) (.nil))) (zL.ok a1 6) h3 (.same rfl rfl)) (zF 3 (zCb (kk:=.i64) 32 9 1 1 eStr (.tmp 3) (.tmp 5) h5) (zF 4 (zCK (d:=sv x4) 9 1 1 0 eStr (.tmp 6) h5 (by kernel_rfl)) zB)))) ?_
 exact xJ rfl
noncomputable def c45:Code:=(Tryz.f45.body).getD .skip
theorem zR.ok (a1:zD) (a2:Int):Ok Tryz.prog 45 [pp 0,iv a2] [.box (zD.enc false a1)] ((zR a1 a2).map fun r=>(bv r.1,[.box (zD.enc false r.2)])):=by
 refine zJ c45 Tryz.f45 1 9 (fun q=>?_)
 unfold zR
 refine J_d 2 [] [] [] [] [] zB ?_
 refine zA (fun x3 h4=>?_)
 refine J_g 6 [] [(4,bv (x3.1==0))] [(0,.box (zD.enc false x3.2))] (zF 2 (wW («as»:=[pp 0,iv a2]) [(.tmp 5),(.tmp 6)] [56,2] false [(0,.box (zD.enc false a1))] [0] (.cons (.pt rfl) (.cons (.same rfl) (.nil))) (zL.ok a1 a2) h4 (.same rfl rfl)) zB) ?_
 exact xJ rfl
noncomputable def c154:Code:=(Tryz.f154.body).getD .skip
theorem zAt.ok:Ok Tryz.prog 154 [] [] ((zAt).map fun r=>(.ag (Version.enc r),[])):=by
 refine zJ c154 Tryz.f154 0 2 (fun q=>?_)
 unfold zAt
 refine J_g 2 [(0,0)] [(0,pp 0)] [(0,.box [iv 0,iv 0,iv 0])] zB ?_
 refine J_g 6 [] [(0,pp 0)] [(0,.box [iv 1000,iv 0,iv 0])] zB ?_
 exact xJ rfl
noncomputable def zPh:Code:=(Tryz.f114.body).getD .skip
theorem uJ.ok (a1:ByteArray):Ok Tryz.prog 114 [sv a1] [] ((uJ a1).map fun r=>(.ag (Term.enc r),[])):=by
 refine zJ zPh Tryz.f114 0 6 (fun q=>?_)
 unfold uJ
 refine J_g 2 [(0,0)] [(0,sv a1),(2,pp 0)] [(0,.box [sv ByteArray.empty,iv 0,iv 0,iv 0,iv 0,iv 0,iv 0])] zB ?_
 refine zA (fun x2 h3=>?_)
 refine J_g 6 [] [(2,pp 0)] [(0,.box [sv a1,iv 0,iv 0,iv 0,iv x2.A,iv x2.B,iv x2.C])] (zF 1 (vD [] [] (zAt.ok) h3) zB) ?_
 exact xJ rfl
noncomputable def zOK:Code:=(Tryz.f191.body).getD .skip
theorem uR.ok (a1:zD):Ok Tryz.prog 191 [pp 0] [.box (zD.enc false a1)] ((uR a1).map fun r=>(.ag (Version.enc r.1),[.box (zD.enc false r.2)])):=by
 refine zJ zOK Tryz.f191 1 16 (fun q=>?_)
 unfold uR
 refine J_d 2 [(0,1)] [2] [(2,pp 1)] [1] [(1,.box [iv 0,iv 0,iv 0])] zB ?_
 refine zA (fun x2 h3=>?_)
 refine zA (fun x4 h5=>?_)
 refine zA (fun x6 h7=>?_)
 refine zA (fun x8 h9=>?_)
 refine zA (fun x10 h11=>?_)
 refine J_g 6 [] [(2,pp 1)] [(0,.box (zD.enc false x10.2)),(1,.box [iv x2.1,iv x6.1,iv x10.1])] (zF 1 (wW («as»:=[pp 0,iv 4]) [(.tmp 3),(.const (.int .i64 4))] [56,2] false [(0,.box (zD.enc false a1))] [0] (.cons (.pt rfl) (.cons (.same rfl) (.nil))) (zL.ok a1 4) h3 (.same rfl rfl)) (zF 4 (wW («as»:=[pp 0,iv 3]) [(.tmp 6),(.const (.int .i64 3))] [56,2] false [(0,.box (zD.enc false x2.2))] [0] (.cons (.pt rfl) (.cons (.same rfl) (.nil))) (zL.ok x2.2 3) h5 (.same rfl rfl)) (zF 5 (zAZ 25 2 1 2 zC [0,0,x4.1] [0,1,2] [(.const (.int .i64 0)),(.const (.int .i64 0)),(.tmp 7)] [iv 0,iv 0,iv x4.1]) (zF 6 (wW («as»:=[pp 0,rr 2 [0,0,x4.1]]) [(.tmp 5),(.tmp 8)] [56,25] false [(0,.box (zD.enc false x4.2)),(2,rE 1 zC [0,0,x4.1])] [0,2] (.cons (.pt rfl) (.cons (.rf rfl) (.nil))) (wB.ok x4.2 [0,0,x4.1]) h7 (.same rfl rfl)) (zF 9 (wW («as»:=[pp 0,iv 3]) [(.tmp 11),(.const (.int .i64 3))] [56,2] false [(0,.box (zD.enc false x6.2))] [0] (.cons (.pt rfl) (.cons (.same rfl) (.nil))) (zL.ok x6.2 3) h9 (.same rfl rfl)) (zF 10 (zAZ 25 2 1 3 zC [0,0,0,x8.1] [0,1,2,3] [(.const (.int .i64 0)),(.const (.int .i64 0)),(.const (.int .i64 0)),(.tmp 12)] [iv 0,iv 0,iv 0,iv x8.1]) (zF 11 (wW («as»:=[pp 0,rr 3 [0,0,0,x8.1]]) [(.tmp 10),(.tmp 13)] [56,25] false [(0,.box (zD.enc false x8.2)),(3,rE 1 zC [0,0,0,x8.1])] [0,3] (.cons (.pt rfl) (.cons (.rf rfl) (.nil))) (wB.ok x8.2 [0,0,0,x8.1]) h11 (.same rfl rfl)) zB))))))) ?_
 exact xJ rfl
noncomputable def zOw:Code:=(Tryz.f142.body).getD .skip
theorem vQ.ok (a1:zD):Ok Tryz.prog 142 [pp 0] [.box (zD.enc false a1)] ((vQ a1).map fun r=>(.ag (Term.enc r.1),[.box (zD.enc false r.2)])):=by
 refine zJ zOw Tryz.f142 1 24 (fun q=>?_)
 unfold vQ
 refine J_d 2 [(0,1)] [2] [(2,pp 1)] [1] [(1,.box [sv ByteArray.empty,iv 0,iv 0,iv 0,iv 0,iv 0,iv 0])] zB ?_
 refine zA (fun x2 h3=>?_)
 refine zA (fun x4 h5=>?_)
 refine J_d 6 [(3,2)] [3] [(3,pp 2)] [0,2] [(0,.box (zD.enc false x2.2)),(2,.box (Term.enc x4))] (zF 1 (wW («as»:=[pp 0]) [(.tmp 4)] [56] false [(0,.box (zD.enc false a1))] [0] (.cons (.pt rfl) (.nil)) (wE.ok a1) h3 (.same rfl rfl)) (zF 2 (vD [(.tmp 5)] [9] (uJ.ok x2.1) h5) zB)) ?_
 refine zA (fun x6 h7=>?_)
 refine J_d 28 [] [8] [(8,bv x6.1)] [0] [(0,.box (zD.enc false x6.2))] (zF 1 (wW («as»:=[pp 0,iv 2]) [(.tmp 7),(.const (.int .i64 2))] [56,2] false [(0,.box (zD.enc false x2.2))] [0] (.cons (.pt rfl) (.cons (.same rfl) (.nil))) (zR.ok x2.2 2) h7 (.same rfl rfl)) zB) ?_
 refine xR (atI zOw 15) (fun v11:((List Int)×Int×Int×Int×Int)=>St.mk' [(0,pp 0),(2,pp 1),(3,pp 2)] [(0,.box [sl 1 eU8 v11.1,iv v11.2.1]),(1,.box [sv ByteArray.empty,iv 0,iv 0,iv 0,iv 0,iv 0,iv 0]),(2,.box [sv x4.Name,iv v11.2.2.1,iv v11.2.2.2.1,iv v11.2.2.2.2,iv x4.High.A,iv x4.High.B,iv x4.High.C])]) (fun v11=>?_) (fun jv11=>?_)
 ·refine zA (fun x12 h13=>?_)
  refine J_d 60 [] [13] [(13,bv x12.1)] [0] [(0,.box (zD.enc false x12.2))] (zF 1 (wW («as»:=[pp 0,iv 3]) [(.tmp 12),(.const (.int .i64 3))] [56,2] false [(0,.box [sl 1 eU8 v11.1,iv v11.2.1])] [0] (.cons (.pt rfl) (.cons (.same rfl) (.nil))) (zR.ok ({Code:=v11.1,At:=v11.2.1}:zD) 3) h13 (.same rfl rfl)) zB) ?_
  refine xR (atI zOw 31) (fun v17:((List Int)×Int×Int×Int×Int)=>St.mk' [(2,pp 1),(3,pp 2)] [(0,.box [sl 1 eU8 v17.1,iv v17.2.1]),(1,.box [sv ByteArray.empty,iv 0,iv 0,iv 0,iv 0,iv 0,iv 0]),(2,.box [sv x4.Name,iv v11.2.2.1,iv v11.2.2.2.1,iv v11.2.2.2.2,iv v17.2.2.1,iv v17.2.2.2.1,iv v17.2.2.2.2])]) (fun v17=>?_) (fun jv17=>?_)
  ·refine J_g 62 [] [(2,pp 1)] [(0,.box [sl 1 eU8 v17.1,iv v17.2.1]),(1,.box [sv x4.Name,iv v11.2.2.1,iv v11.2.2.2.1,iv v11.2.2.2.2,iv v17.2.2.1,iv v17.2.2.2.1,iv v17.2.2.2.2])] zB ?_
   exact xJ rfl
  ·refine zG 13 (fun h14=>?_) (fun h14=>?_)
   ·refine zA (fun x15 h16=>?_)
    refine J_d 122 [] [0,13] [] [0,2] [(0,.box (zD.enc false x15.2)),(2,.box [sv x4.Name,iv v11.2.2.1,iv v11.2.2.2.1,iv v11.2.2.2.2,iv (w64 ((w64 (v11.2.2.1+1))+x15.1)),iv 0,iv 0])] (zF 5 (wW («as»:=[pp 0,iv 2]) [(.tmp 18),(.const (.int .i64 2))] [56,2] false [(0,.box (zD.enc false x12.2))] [0] (.cons (.pt rfl) (.cons (.same rfl) (.nil))) (zL.ok x12.2 2) h16 (.same rfl rfl)) zB) ?_
    exact yM (J_j (jv17 (x15.2.Code,x15.2.At,w64 ((w64 (v11.2.2.1+1))+x15.1),0,0))) rfl
   ·exact yM (J_j (jv17 (x12.2.Code,x12.2.At,x4.High.A,x4.High.B,x4.High.C))) rfl
 ·refine zG 8 (fun h8=>?_) (fun h8=>?_)
  ·refine zA (fun x9 h10=>?_)
   refine J_d 58 [] [8] [] [0,2] [(0,.box (zD.enc false x9.2)),(2,.box [sv x4.Name,iv x9.1.A,iv x9.1.B,iv x9.1.C,iv x4.High.A,iv x4.High.B,iv x4.High.C])] (zF 1 (wW («as»:=[pp 0]) [(.tmp 9)] [56] false [(0,.box (zD.enc false x6.2))] [0] (.cons (.pt rfl) (.nil)) (uR.ok x6.2) h10 (.ag (.cons (.same rfl rfl) (.cons (.same rfl rfl) (.cons (.same rfl rfl) (.nil)))))) zB) ?_
   exact yM (J_j (jv11 (x9.2.Code,x9.2.At,x9.1.A,x9.1.B,x9.1.C))) rfl
  ·exact yM (J_j (jv11 (x6.2.Code,x6.2.At,x4.Low.A,x4.Low.B,x4.Low.C))) rfl
noncomputable def c105:Code:=(Tryz.f105.body).getD .skip
theorem zDm.ok (x2:(ByteArray×zD)) (x4:(Int×zD)) (x6:(Int×zD)) (v15:((List Int)×Int×(List ByteArray))) (q:Wd) (kn:((List Int)×Int×(List (List Term)))→Option (D×List Ent)) (hk:∀v:((List Int)×Int×(List (List Term))),J (q.g Tryz.prog 105 1 63) c105 (atI c105 31) (St.mk' [(0,pp 0),(2,pp 1),(3,pp 2)] [(0,.box [sl 1 eU8 v.1,iv v.2.1]),(1,.box [sv ByteArray.empty,iv 0,iv 0,iv 0,iv 0,nv,nv,nv]),(2,.box [sv x2.1,iv (w64 (1+x4.1)),iv 0,iv 0,iv (w64 (1+x6.1)),rr 4 v15.2.2,rr 5 v.2.2,nv]),(4,rE 1 eStr v15.2.2),(5,rE 1 (eSl true 7 Term.enc) v.2.2)]) (some v) kn):
  ∀s60:((List Int)×Int×(List (List Term))×Int),J (q.g Tryz.prog 105 1 63) c105 (atI c105 244) (St.mk' [(0,pp 0),(2,pp 1),(3,pp 2),(4,iv s60.2.2.2)] [(0,.box [sl 1 eU8 s60.1,iv s60.2.1]),(1,.box [sv ByteArray.empty,iv 0,iv 0,iv 0,iv 0,nv,nv,nv]),(2,.box [sv x2.1,iv (w64 (1+x4.1)),iv 0,iv 0,iv (w64 (1+x6.1)),rr 4 v15.2.2,rr 5 s60.2.2.1,nv]),(4,rE 1 eStr v15.2.2),(5,rE 1 (eSl true 7 Term.enc) s60.2.2.1)]) (zDm x2 x4 x6 v15 s60) kn:=by
 refine zAq (fun g ih s60=>?_)
 unfold zC3
 refine J_d 976 [] [29] [(29,bv (decide (s60.2.2.2>0)))] [] [] zB ?_
 refine zG 29 (fun h61=>?_) (fun h61=>?_)
 ·refine zA (fun x62 h63=>?_)
  refine J_d 3912 [] [5,29] [(5,rr 6 [x62.1])] [0,6] [(0,.box (zD.enc false x62.2)),(6,rE 7 Term.enc [x62.1])] (zF 1 (wW («as»:=[pp 0]) [(.tmp 32)] [56] false [(0,.box [sl 1 eU8 s60.1,iv s60.2.1])] [0] (.cons (.pt rfl) (.nil)) (vQ.ok ({Code:=s60.1,At:=s60.2.1}:zD)) h63 (.ag (.cons (.same rfl rfl) (.cons (.same rfl rfl) (.cons (.same rfl rfl) (.cons (.same rfl rfl) (.cons (.same rfl rfl) (.cons (.same rfl rfl) (.cons (.same rfl rfl) (.nil)))))))))) (zF 2 (zAZ 80 104 7 6 Term.enc [x62.1] [0] [(.tmp 33)] [.ag (Term.enc x62.1)]) zB)) ?_
  refine zA (fun x64 h65=>?_)
  refine J_d 15652 [] [36] [(36,bv x64.1)] [0] [(0,.box (zD.enc false x64.2))] (zF 1 (wW («as»:=[pp 0,iv 3]) [(.tmp 35),(.const (.int .i64 3))] [56,2] false [(0,.box (zD.enc false x62.2))] [0] (.cons (.pt rfl) (.cons (.same rfl) (.nil))) (zR.ok x62.2 3) h65 (.same rfl rfl)) zB) ?_
  refine xR (atI c105 7827) (fun v71:((List Int)×Int×(List Term))=>St.mk' [(0,pp 0),(2,pp 1),(3,pp 2),(4,iv s60.2.2.2),(5,rr 8 v71.2.2)] [(0,.box [sl 1 eU8 v71.1,iv v71.2.1]),(1,.box [sv ByteArray.empty,iv 0,iv 0,iv 0,iv 0,nv,nv,nv]),(2,.box [sv x2.1,iv (w64 (1+x4.1)),iv 0,iv 0,iv (w64 (1+x6.1)),rr 4 v15.2.2,rr 5 s60.2.2.1,nv]),(4,rE 1 eStr v15.2.2),(5,rE 1 (eSl true 7 Term.enc) s60.2.2.1),(8,rE 7 Term.enc v71.2.2)]) (fun v71=>?_) (fun jv71=>?_)
  ·refine zA (fun x72 h73=>?_)
   refine J_d 31308 [] [43] [(43,bv x72.1)] [0] [(0,.box (zD.enc false x72.2))] (zF 1 (wW («as»:=[pp 0,iv 8]) [(.tmp 42),(.const (.int .i64 8))] [56,2] false [(0,.box [sl 1 eU8 v71.1,iv v71.2.1])] [0] (.cons (.pt rfl) (.cons (.same rfl) (.nil))) (zR.ok ({Code:=v71.1,At:=v71.2.1}:zD) 8) h73 (.same rfl rfl)) zB) ?_
   refine xR (atI c105 15655) (fun v79:(List Term)=>St.mk' [(0,pp 0),(2,pp 1),(3,pp 2),(4,iv s60.2.2.2),(5,rr 8 v79)] [(0,.box (zD.enc false x72.2)),(1,.box [sv ByteArray.empty,iv 0,iv 0,iv 0,iv 0,nv,nv,nv]),(2,.box [sv x2.1,iv (w64 (1+x4.1)),iv 0,iv 0,iv (w64 (1+x6.1)),rr 4 v15.2.2,rr 5 s60.2.2.1,nv]),(4,rE 1 eStr v15.2.2),(5,rE 1 (eSl true 7 Term.enc) s60.2.2.1),(8,rE 7 Term.enc v79)]) (fun v79=>?_) (fun jv79=>?_)
   ·refine zA (fun x80 h81=>?_)
    refine J_g 15655 [] [(0,pp 0),(2,pp 1),(3,pp 2),(4,iv s60.2.2.2)] [(0,.box (zD.enc false x72.2)),(1,.box [sv ByteArray.empty,iv 0,iv 0,iv 0,iv 0,nv,nv,nv]),(2,.box [sv x2.1,iv (w64 (1+x4.1)),iv 0,iv 0,iv (w64 (1+x6.1)),rr 4 v15.2.2,rr 10 x80,nv]),(4,rE 1 eStr v15.2.2),(10,rE 1 (eSl true 7 Term.enc) x80)] (zF 3 (zM7 (ds:=[rr 8 v79]) (ts:=[8]) 89 80 1 9 (eSl true 7 Term.enc) [v79] [0] [(.tmp 49)] [rr 8 v79] [(8,rE 7 Term.enc v79)] (.move (.head _) (List.length_map _) (by decide) (.nil))) (zF 4 (zEK 89 89 80 80 1 24 10 5 9 (eSl true 7 Term.enc) (.tmp 48) (.tmp 50) h81) zB)) ?_
    refine J_d 979 [] [4] [(4,iv (w64 (s60.2.2.2-1)))] [] [] zB ?_
    refine vO 10 5 (Nat.le_of_ble_eq_true rfl) (Nat.le_of_ble_eq_true rfl) ?_
    exact J_q (J_b (ih (x72.2.Code,x72.2.At,x80,w64 (s60.2.2.2-1)))) rfl
   ·refine zG 43 (fun h74=>?_) (fun h74=>?_)
    ·refine zA (fun x75 h76=>?_)
     refine zA (fun x77 h78=>?_)
     refine J_g 62618 [] [(0,pp 0),(2,pp 1),(3,pp 2),(4,iv s60.2.2.2),(5,rr 8 v71.2.2)] [(0,.box (zD.enc false x72.2)),(1,.box [sv ByteArray.empty,iv 0,iv 0,iv 0,iv 0,nv,nv,nv]),(2,.box [sv x2.1,iv (w64 (1+x4.1)),iv 0,iv 0,iv (w64 (1+x6.1)),rr 4 v15.2.2,rr 5 s60.2.2.1,nv]),(4,rE 1 eStr v15.2.2),(5,rE 1 (eSl true 7 Term.enc) s60.2.2.1),(8,rE 7 Term.enc (v71.2.2.set ((0:Int).toNat) x75))] (zF 1 (vD [(.const (.string (bs [109,97,105,108])))] [9] (uJ.ok (bs [109,97,105,108])) h76) (zF 2 (zCb (kk:=.i64) 80 104 7 8 Term.enc (.tmp 44) (.const (.int .i64 0)) h78) (zOd 3 (zOr (b:=x75) 104 7 8 0 Term.enc (.ag (Term.enc x75)) (.tmp 46) (.tmp 45) h78 rfl) zB))) ?_
     refine zM4 (σ':=St.mk' [(0,pp 0),(2,pp 1),(3,pp 2),(4,iv s60.2.2.2),(5,rr 8 (v71.2.2.set ((0:Int).toNat) x75))] [(0,.box (zD.enc false x72.2)),(1,.box [sv ByteArray.empty,iv 0,iv 0,iv 0,iv 0,nv,nv,nv]),(2,.box [sv x2.1,iv (w64 (1+x4.1)),iv 0,iv 0,iv (w64 (1+x6.1)),rr 4 v15.2.2,rr 5 s60.2.2.1,nv]),(4,rE 1 eStr v15.2.2),(5,rE 1 (eSl true 7 Term.enc) s60.2.2.1),(8,rE 7 Term.enc (v71.2.2.set ((0:Int).toNat) x75))]) (by simp only [rr,List.length_set]) ?_
     exact yM (J_j (jv79 (v71.2.2.set ((0:Int).toNat) x75))) rfl
    ·exact yM (J_j (jv79 v71.2.2)) rfl
  ·refine zG 36 (fun h66=>?_) (fun h66=>?_)
   ·refine zA (fun x67 h68=>?_)
    refine zA (fun x69 h70=>?_)
    refine J_d 31306 [] [5,36] [(5,rr 8 x69)] [0,6,8] [(0,.box (zD.enc false x67.2)),(8,rE 7 Term.enc x69)] (zF 2 (wW («as»:=[pp 0]) [(.tmp 38)] [56] false [(0,.box (zD.enc false x64.2))] [0] (.cons (.pt rfl) (.nil)) (vQ.ok x64.2) h68 (.ag (.cons (.same rfl rfl) (.cons (.same rfl rfl) (.cons (.same rfl rfl) (.cons (.same rfl rfl) (.cons (.same rfl rfl) (.cons (.same rfl rfl) (.cons (.same rfl rfl) (.nil)))))))))) (zF 3 (zAZ 80 104 7 7 Term.enc [x67.1] [0] [(.tmp 39)] [.ag (Term.enc x67.1)]) (zF 4 (zEK 80 80 104 104 7 64 8 6 7 Term.enc (.tmp 37) (.tmp 40) h70) zB))) ?_
    exact yM (J_j (jv71 (x67.2.Code,x67.2.At,x69))) rfl
   ·refine vO 6 8 (Nat.le_of_ble_eq_true rfl) (Nat.le_of_ble_eq_true rfl) ?_
    exact yM (J_j (jv71 (x64.2.Code,x64.2.At,[x62.1]))) rfl
 ·exact yM (hk (s60.1,s60.2.1,s60.2.2.1)) rfl
theorem zAY.ok (a1:zD):Ok Tryz.prog 105 [pp 0] [.box (zD.enc false a1)] ((zAY a1).map fun r=>(.ag [sv r.1.Name,iv r.1.Version.A,iv r.1.Version.B,iv r.1.Version.C,iv r.1.Size,so 1 eStr r.1.Provides,so 1 (eSl true 7 Term.enc) r.1.Needs,so 7 Term.enc r.1.Bars],[.box (zD.enc false r.2)])):=by
 refine zJ c105 Tryz.f105 1 63 (fun q=>?_)
 unfold zAY
 refine J_d 2 [(0,1)] [2] [(2,pp 1)] [1] [(1,.box [sv ByteArray.empty,iv 0,iv 0,iv 0,iv 0,nv,nv,nv])] zB ?_
 refine zA (fun x2 h3=>?_)
 refine zA (fun x4 h5=>?_)
 refine zA (fun x6 h7=>?_)
 refine J_d 6 [(10,2)] [3] [(3,pp 2)] [0,2] [(0,.box (zD.enc false x6.2)),(2,.box [sv x2.1,iv (w64 (1+x4.1)),iv 0,iv 0,iv (w64 (1+x6.1)),nv,nv,nv])] (zF 1 (wW («as»:=[pp 0]) [(.tmp 6)] [56] false [(0,.box (zD.enc false a1))] [0] (.cons (.pt rfl) (.nil)) (wE.ok a1) h3 (.same rfl rfl)) (zF 3 (wW («as»:=[pp 0,iv 3]) [(.tmp 8),(.const (.int .i64 3))] [56,2] false [(0,.box (zD.enc false x2.2))] [0] (.cons (.pt rfl) (.cons (.same rfl) (.nil))) (zL.ok x2.2 3) h5 (.same rfl rfl)) (zF 7 (wW («as»:=[pp 0,iv 9]) [(.tmp 12),(.const (.int .i64 9))] [56,2] false [(0,.box (zD.enc false x4.2))] [0] (.cons (.pt rfl) (.cons (.same rfl) (.nil))) (zL.ok x4.2 9) h7 (.same rfl rfl)) zB))) ?_
 refine zA (fun x8 h9=>?_)
 refine J_d 28 [] [17] [(17,bv x8.1)] [0] [(0,.box (zD.enc false x8.2))] (zF 1 (wW («as»:=[pp 0,iv 5]) [(.tmp 16),(.const (.int .i64 5))] [56,2] false [(0,.box (zD.enc false x6.2))] [0] (.cons (.pt rfl) (.cons (.same rfl) (.nil))) (zR.ok x6.2 5) h9 (.same rfl rfl)) zB) ?_
 refine xR (atI c105 15) (fun v15:((List Int)×Int×(List ByteArray))=>St.mk' [(0,pp 0),(2,pp 1),(3,pp 2)] [(0,.box [sl 1 eU8 v15.1,iv v15.2.1]),(1,.box [sv ByteArray.empty,iv 0,iv 0,iv 0,iv 0,nv,nv,nv]),(2,.box [sv x2.1,iv (w64 (1+x4.1)),iv 0,iv 0,iv (w64 (1+x6.1)),rr 4 v15.2.2,nv,nv]),(4,rE 1 eStr v15.2.2)]) (fun v15=>?_) (fun jv15=>?_)
 ·refine zA (fun x16 h17=>?_)
  refine J_d 60 [] [4] [(4,iv x16.1)] [0] [(0,.box (zD.enc false x16.2))] (zF 1 (zAZ 25 2 1 5 zC [0,0,1,1,2] [0,1,2,3,4] [(.const (.int .i64 0)),(.const (.int .i64 0)),(.const (.int .i64 1)),(.const (.int .i64 1)),(.const (.int .i64 2))] [iv 0,iv 0,iv 1,iv 1,iv 2]) (zF 2 (wW («as»:=[pp 0,rr 5 [0,0,1,1,2]]) [(.tmp 25),(.tmp 26)] [56,25] false [(0,.box [sl 1 eU8 v15.1,iv v15.2.1]),(5,rE 1 zC [0,0,1,1,2])] [0,5] (.cons (.pt rfl) (.cons (.rf rfl) (.nil))) (wB.ok ({Code:=v15.1,At:=v15.2.1}:zD) [0,0,1,1,2]) h17 (.same rfl rfl)) zB)) ?_
  refine zLe 2 6 5 1 rfl rfl (Nat.le_of_ble_eq_true rfl) (by kernel_rfl) ?_
  refine zET (zDm.ok x2 x4 x6 v15 q _ (fun v82=>J_j ?_) (x16.2.Code,x16.2.At,([]:List (List Term)),x16.1))
  refine zA (fun x83 h84=>?_)
  refine J_d 124 [] [54] [(54,bv x83.1)] [0] [(0,.box (zD.enc false x83.2))] (zF 1 (wW («as»:=[pp 0,iv 6]) [(.tmp 53),(.const (.int .i64 6))] [56,2] false [(0,.box [sl 1 eU8 v82.1,iv v82.2.1])] [0] (.cons (.pt rfl) (.cons (.same rfl) (.nil))) (zR.ok ({Code:=v82.1,At:=v82.2.1}:zD) 6) h84 (.same rfl rfl)) zB) ?_
  refine xR (atI c105 63) (fun v90:((List Int)×Int×(List Term))=>St.mk' [(2,pp 1),(3,pp 2)] [(0,.box [sl 1 eU8 v90.1,iv v90.2.1]),(1,.box [sv ByteArray.empty,iv 0,iv 0,iv 0,iv 0,nv,nv,nv]),(2,.box [sv x2.1,iv (w64 (1+x4.1)),iv 0,iv 0,iv (w64 (1+x6.1)),rr 4 v15.2.2,rr 5 v82.2.2,rr 7 v90.2.2]),(4,rE 1 eStr v15.2.2),(5,rE 1 (eSl true 7 Term.enc) v82.2.2),(7,rE 7 Term.enc v90.2.2)]) (fun v90=>?_) (fun jv90=>?_)
  ·refine J_g 126 [] [(2,pp 1)] [(0,.box [sl 1 eU8 v90.1,iv v90.2.1]),(1,.box [sv x2.1,iv (w64 (1+x4.1)),iv 0,iv 0,iv (w64 (1+x6.1)),rr 4 v15.2.2,rr 5 v82.2.2,rr 7 v90.2.2]),(4,rE 1 eStr v15.2.2),(5,rE 1 (eSl true 7 Term.enc) v82.2.2),(7,rE 7 Term.enc v90.2.2)] zB ?_
   exact zEf (ds:=[.ag [sv x2.1,iv (w64 (1+x4.1)),iv 0,iv 0,iv (w64 (1+x6.1)),rr 4 v15.2.2,rr 5 v82.2.2,rr 7 v90.2.2]]) (ds':=[.ag [sv x2.1,iv (w64 (1+x4.1)),iv 0,iv 0,iv (w64 (1+x6.1)),so 1 eStr v15.2.2,so 1 (eSl true 7 Term.enc) v82.2.2,so 7 Term.enc v90.2.2]]) (.cons (.ag (.keep rfl (.keep rfl (.keep rfl (.keep rfl (.keep rfl (.move (.tail _ (.tail _ (.head _))) (List.length_map _) (by decide) (.move (.tail _ (.tail _ (.tail _ (.head _)))) (List.length_map _) (by decide) (.move (.tail _ (.tail _ (.tail _ (.tail _ (.head _))))) (List.length_map _) (by decide) (.nil)))))))))) (.nil) (by decide)) rfl
  ·refine zG 54 (fun h85=>?_) (fun h85=>?_)
   ·refine zA (fun x86 h87=>?_)
    refine zA (fun x88 h89=>?_)
    refine J_d 250 [] [0,54] [] [0,2,7] [(0,.box (zD.enc false x86.2)),(2,.box [sv x2.1,iv (w64 (1+x4.1)),iv 0,iv 0,iv (w64 (1+x6.1)),rr 4 v15.2.2,rr 5 v82.2.2,rr 7 x88]),(7,rE 7 Term.enc x88)] (zF 3 (wW («as»:=[pp 0]) [(.tmp 57)] [56] false [(0,.box (zD.enc false x83.2))] [0] (.cons (.pt rfl) (.nil)) (vQ.ok x83.2) h87 (.ag (.cons (.same rfl rfl) (.cons (.same rfl rfl) (.cons (.same rfl rfl) (.cons (.same rfl rfl) (.cons (.same rfl rfl) (.cons (.same rfl rfl) (.cons (.same rfl rfl) (.nil)))))))))) (zF 4 (zAZ 80 104 7 6 Term.enc [x86.1] [0] [(.tmp 58)] [.ag (Term.enc x86.1)]) (zF 5 (zOs 80 80 104 104 7 64 7 6 Term.enc (.tmp 56) (.tmp 59) h89) zB))) ?_
    exact yM (J_j (jv90 (x86.2.Code,x86.2.At,x88))) rfl
   ·refine zLe 2 7 6 7 rfl rfl (Nat.le_of_ble_eq_true rfl) (by kernel_rfl) ?_
    refine vO 6 7 (Nat.le_of_ble_eq_true rfl) (Nat.le_of_ble_eq_true rfl) ?_
    exact yM (J_j (jv90 (x83.2.Code,x83.2.At,([]:List Term)))) rfl
 ·refine zG 17 (fun h10=>?_) (fun h10=>?_)
  ·refine zA (fun x11 h12=>?_)
   refine zA (fun x13 h14=>?_)
   refine J_d 58 [] [17] [] [0,2,4] [(0,.box (zD.enc false x11.2)),(2,.box [sv x2.1,iv (w64 (1+x4.1)),iv 0,iv 0,iv (w64 (1+x6.1)),rr 4 [x13],nv,nv]),(4,rE 1 eStr [x13])] (zF 0 (zAZ 32 9 1 3 eStr [bs [109,97,105,108],bs [100,98]] [0,1] [(.const (.string (bs [109,97,105,108]))),(.const (.string (bs [100,98])))] [sv (bs [109,97,105,108]),sv (bs [100,98])]) (zF 2 (wW («as»:=[pp 0,iv 2]) [(.tmp 19),(.const (.int .i64 2))] [56,2] false [(0,.box (zD.enc false x8.2))] [0] (.cons (.pt rfl) (.cons (.same rfl) (.nil))) (zL.ok x8.2 2) h12 (.same rfl rfl)) (zF 3 (zCb (kk:=.i64) 32 9 1 3 eStr (.tmp 18) (.tmp 20) h14) (zF 4 (zCK (d:=sv x13) 9 1 3 0 eStr (.tmp 21) h14 (by kernel_rfl)) (zF 5 (zAZ 32 9 1 4 eStr [x13] [0] [(.tmp 22)] [sv x13]) zB))))) ?_
   exact yM (J_j (jv15 (x11.2.Code,x11.2.At,[x13]))) rfl
  ·refine zLe 2 5 3 1 rfl rfl (Nat.le_of_ble_eq_true rfl) (by kernel_rfl) ?_
   refine vO 3 4 (Nat.le_of_ble_eq_true rfl) (Nat.le_of_ble_eq_true rfl) ?_
   exact yM (J_j (jv15 (x8.2.Code,x8.2.At,([]:List ByteArray)))) rfl
noncomputable def zOO:Code:=(Tryz.f192.body).getD .skip
theorem kY.ok (a1:Int) (a2:Int):Ok Tryz.prog 192 [iv a1,iv a2] [] ((kY a1 a2).map fun r=>(iv r,[])):=by
 refine zJ zOO Tryz.f192 0 11 (fun q=>?_)
 unfold kY
 refine J_g 2 [] [(0,iv a1),(1,iv a2)] [] zB ?_
 refine J_d 12 [] [7] [(7,bv (decide (a1<a2)))] [] [] zB ?_
 refine zG 7 (fun h3=>?_) (fun h3=>?_)
 ·refine J_g 52 [] [(4,iv (-1))] [] zB ?_
  exact xJ rfl
 ·refine J_g 28 [] [(10,bv (decide (a1>a2)))] [] zB ?_
  refine zG 10 (fun h4=>?_) (fun h4=>?_)
  ·refine J_g 116 [] [(4,iv 1)] [] zB ?_
   exact xJ rfl
  ·refine J_g 30 [] [(4,iv 0)] [] zB ?_
   exact xJ rfl
noncomputable def c143:Code:=(Tryz.f143.body).getD .skip
theorem yG.ok (a1:Version) (a2:Version):Ok Tryz.prog 143 [.ag (Version.enc a1),.ag (Version.enc a2)] [] ((yG a1 a2).map fun r=>(iv r,[])):=by
 refine zJ c143 Tryz.f143 0 28 (fun q=>?_)
 unfold yG
 refine J_g 2 [(0,0),(1,1)] [(2,pp 0),(3,pp 1)] [(0,.box (Version.enc a1)),(1,.box (Version.enc a2))] zB ?_
 refine zA (fun x3 h4=>?_)
 refine J_g 12 [] [(2,pp 0),(3,pp 1),(5,iv x3)] [(0,.box (Version.enc a1)),(1,.box (Version.enc a2))] (zF 4 (vD [(.tmp 8),(.tmp 10)] [2,2] (kY.ok a1.A a2.A) h4) zB) ?_
 refine J_d 26 [] [13] [(13,bv (x3 !=0))] [] [] zB ?_
 refine zG 13 (fun h5=>?_) (fun h5=>?_)
 ·refine J_g 108 [] [(4,iv x3)] [] zB ?_
  exact xJ rfl
 ·refine zA (fun x6 h7=>?_)
  refine J_g 28 [] [(2,pp 0),(3,pp 1),(6,iv x6)] [(0,.box (Version.enc a1)),(1,.box (Version.enc a2))] (zF 4 (vD [(.tmp 16),(.tmp 18)] [2,2] (kY.ok a1.B a2.B) h7) zB) ?_
  refine J_d 58 [] [21] [(21,bv (x6 !=0))] [] [] zB ?_
  refine zG 21 (fun h8=>?_) (fun h8=>?_)
  ·refine J_g 236 [] [(4,iv x6)] [] zB ?_
   exact xJ rfl
  ·refine zA (fun x9 h10=>?_)
   refine J_g 30 [] [(4,iv x9)] [] (zF 4 (vD [(.tmp 24),(.tmp 26)] [2,2] (kY.ok a1.C a2.C) h10) zB) ?_
   exact xJ rfl
noncomputable def zNs:Code:=(Tryz.f106.body).getD .skip
theorem zCX.ok (a1:(List Pack)) (a2:ByteArray) (a3:Version) (q:Wd) (kn:Unit→Option (D×List Ent)) (hk:∀v:Unit,J (q.g Tryz.prog 106 0 32) zNs (atI zNs 7) (St.mk' [] []) (some v) kn):
  ∀s14:Int,J (q.g Tryz.prog 106 0 32) zNs (atI zNs 52) (St.mk' [(0,sl 8 (Pack.enc false) a1),(1,sv a2),(5,pp 0),(7,iv s14)] [(0,.box (Version.enc a3))]) (zCX a1 a2 a3 s14) (Fl.go (fun r:Int=>some (iv r,[])) kn):=by
 refine zAq (fun g ih s14=>?_)
 unfold zCt
 refine J_d 208 [] [11] [(11,bv (decide (s14< (a1.length:Int))))] [] [] zB ?_
 refine zG 11 (fun h15=>?_) (fun h15=>?_)
 ·refine zA (fun x16 h17=>?_)
  refine xR (atI zNs 841) (fun v23:Bool=>St.mk' [(0,sl 8 (Pack.enc false) a1),(1,sv a2),(5,pp 0),(7,iv s14),(30,bv v23)] [(0,.box (Version.enc a3))]) (fun v23=>?_) (fun jv23=>?_)
  ·refine zG 30 (fun h24=>?_) (fun h24=>?_)
   ·refine J_g 3364 [] [(6,iv s14)] [] zB ?_
    exact xJ rfl
   ·refine J_d 211 [] [7,30] [(7,iv (w64 (s14+1)))] [] [] zB ?_
    exact J_q (J_b (ih (w64 (s14+1)))) rfl
  ·refine vI (fun h18=>?_) (fun h18=>?_)
   ·refine zA (fun x19 h20=>?_)
    refine zA (fun x21 h22=>?_)
    refine J_d 840 [] [11,30] [(30,bv (x21==0))] [] [] (zF 2 (uN (kk:=.i64) 24 91 8 (Pack.enc false) (.tmp 14) (.tmp 15) h17) (wO 7 [(20,bv (seq x16.Name a2))] [] h18 (zAm 10 7 21 true (uN (kk:=.i64) 24 91 8 (Pack.enc false) (.tmp 22) (.tmp 23) h20) (zAm 14 7 21 true (vD [(.tmp 26),(.tmp 27)] [88,88] (yG.ok x19.Version a3) h22) zB)))) ?_
    exact yM (J_j (jv23 (x21==0))) rfl
   ·refine J_d 840 [] [11,30] [(30,bv false)] [] [] (zF 2 (uN (kk:=.i64) 24 91 8 (Pack.enc false) (.tmp 14) (.tmp 15) h17) (wO 7 [(20,bv (seq x16.Name a2))] [] h18 zB)) ?_
    exact yM (J_j (jv23 false)) rfl
 ·exact yM (hk ()) rfl
theorem zAQ.ok (a1:(List Pack)) (a2:ByteArray) (a3:Version):Ok Tryz.prog 106 [sl 8 (Pack.enc false) a1,sv a2,.ag (Version.enc a3)] [] ((zAQ a1 a2 a3).map fun r=>(iv r,[])):=by
 refine zJ zNs Tryz.f106 0 32 (fun q=>?_)
 unfold zAQ
 refine J_g 2 [(0,0)] [(0,sl 8 (Pack.enc false) a1),(1,sv a2),(5,pp 0)] [(0,.box (Version.enc a3))] zB ?_
 refine J_d 12 [] [7] [(7,iv 0)] [] [] zB ?_
 refine jO (K0:=(fun r:Int=>some (iv r,[]))) (fun _=>rfl) (zCX.ok a1 a2 a3 q _ (fun v25=>J_j ?_) 0)
 refine J_g 14 [] [(6,iv (-1))] [] zB ?_
 exact xJ rfl
noncomputable def zPo:Code:=(Tryz.f144.body).getD .skip
theorem wQ.ok (a1:zD):Ok Tryz.prog 144 [pp 0] [.box (zD.enc false a1)] ((wQ a1).map fun r=>(sv r.1,[.box (zD.enc false r.2)])):=by
 refine zJ zPo Tryz.f144 1 12 (fun q=>?_)
 unfold wQ
 refine J_d 2 [] [] [] [] [] zB ?_
 refine zA (fun x2 h3=>?_)
 refine J_g 12 [] [(0,pp 0),(4,bv x2.1)] [(0,.box (zD.enc false x2.2))] (zF 1 (wW («as»:=[pp 0,iv 14]) [(.tmp 3),(.const (.int .i64 14))] [56,2] false [(0,.box (zD.enc false a1))] [0] (.cons (.pt rfl) (.cons (.same rfl) (.nil))) (zR.ok a1 14) h3 (.same rfl rfl)) zB) ?_
 refine zG 4 (fun h4=>?_) (fun h4=>?_)
 ·refine zA (fun x5 h6=>?_)
  refine zA (fun x7 h8=>?_)
  refine J_g 52 [] [(2,sv x7)] [(0,.box (zD.enc false x5.2))] (zF 0 (zAZ 32 9 1 1 eStr [bs [],bs [49,97],bs [65],bs [97,98,99,100,101,102,103,104,105,106,107,108,109],bs [97,98,99,100,101,102,103,104,105,106,107,108],bs [97,32,98],bs [97,45],bs [95,97],bs [97,95,49]] [0,1,2,3,4,5,6,7,8] [(.const (.string (bs []))),(.const (.string (bs [49,97]))),(.const (.string (bs [65]))),(.const (.string (bs [97,98,99,100,101,102,103,104,105,106,107,108,109]))),(.const (.string (bs [97,98,99,100,101,102,103,104,105,106,107,108]))),(.const (.string (bs [97,32,98]))),(.const (.string (bs [97,45]))),(.const (.string (bs [95,97]))),(.const (.string (bs [97,95,49])))] [sv (bs []),sv (bs [49,97]),sv (bs [65]),sv (bs [97,98,99,100,101,102,103,104,105,106,107,108,109]),sv (bs [97,98,99,100,101,102,103,104,105,106,107,108]),sv (bs [97,32,98]),sv (bs [97,45]),sv (bs [95,97]),sv (bs [97,95,49])]) (zF 2 (wW («as»:=[pp 0,iv 9]) [(.tmp 6),(.const (.int .i64 9))] [56,2] false [(0,.box (zD.enc false x2.2))] [0] (.cons (.pt rfl) (.cons (.same rfl) (.nil))) (zL.ok x2.2 9) h6 (.same rfl rfl)) (zF 3 (zCb (kk:=.i64) 32 9 1 1 eStr (.tmp 5) (.tmp 7) h8) (zF 4 (zCK (d:=sv x7) 9 1 1 0 eStr (.tmp 8) h8 (by kernel_rfl)) zB)))) ?_
  exact xJ rfl
 ·refine zA (fun x9 h10=>?_)
  refine J_g 14 [] [(2,sv x9.1)] [(0,.box (zD.enc false x9.2))] (zF 1 (wW («as»:=[pp 0]) [(.tmp 10)] [56] false [(0,.box (zD.enc false x2.2))] [0] (.cons (.pt rfl) (.nil)) (wE.ok x2.2) h10 (.same rfl rfl)) zB) ?_
  exact xJ rfl
noncomputable def c145:Code:=(Tryz.f145.body).getD .skip
theorem wL.ok (a1:zD):Ok Tryz.prog 145 [pp 0] [.box (zD.enc false a1)] ((wL a1).map fun r=>(.ag (Version.enc r.1),[.box (zD.enc false r.2)])):=by
 refine zJ c145 Tryz.f145 1 27 (fun q=>?_)
 unfold wL
 refine J_d 2 [(0,1)] [2] [(2,pp 1)] [1] [(1,.box [iv 0,iv 0,iv 0])] zB ?_
 refine zA (fun x2 h3=>?_)
 refine J_d 6 [(2,2)] [3] [(3,pp 2)] [0,2] [(0,.box (zD.enc false x2.2)),(2,.box (Version.enc x2.1))] (zF 1 (wW («as»:=[pp 0]) [(.tmp 4)] [56] false [(0,.box (zD.enc false a1))] [0] (.cons (.pt rfl) (.nil)) (uR.ok a1) h3 (.ag (.cons (.same rfl rfl) (.cons (.same rfl rfl) (.cons (.same rfl rfl) (.nil)))))) zB) ?_
 refine zA (fun x4 h5=>?_)
 refine J_g 28 [] [(0,pp 0),(2,pp 1),(3,pp 2),(7,iv x4.1)] [(0,.box (zD.enc false x4.2)),(1,.box [iv 0,iv 0,iv 0]),(2,.box (Version.enc x2.1))] (zF 1 (wW («as»:=[pp 0,iv 14]) [(.tmp 6),(.const (.int .i64 14))] [56,2] false [(0,.box (zD.enc false x2.2))] [0] (.cons (.pt rfl) (.cons (.same rfl) (.nil))) (zL.ok x2.2 14) h5 (.same rfl rfl)) zB) ?_
 refine J_d 116 [] [8] [(8,bv (x4.1==0))] [] [] zB ?_
 refine xR (aft c145 58) (fun v15:((List Int)×Int×Int×Int×Int)=>St.mk' [(2,pp 1),(3,pp 2)] [(0,.box [sl 1 eU8 v15.1,iv v15.2.1]),(1,.box [iv 0,iv 0,iv 0]),(2,.box [iv v15.2.2.1,iv v15.2.2.2.1,iv v15.2.2.2.2])]) (fun v15=>?_) (fun jv15=>?_)
 ·refine J_g 30 [] [(2,pp 1)] [(0,.box [sl 1 eU8 v15.1,iv v15.2.1]),(1,.box [iv v15.2.2.1,iv v15.2.2.2.1,iv v15.2.2.2.2])] zB ?_
  exact xJ rfl
 ·refine zG 8 (fun h6=>?_) (fun h6=>?_)
  ·refine zA (fun x7 h8=>?_)
   refine J_d 234 [] [0,7,8] [] [0,2] [(0,.box (zD.enc false x7.2)),(2,.box [iv x7.1,iv x2.1.B,iv x2.1.C])] (zF 1 (zAZ 25 2 1 3 zC [(-1),999,1000] [0,1,2] [(.const (.int .i64 (-1))),(.const (.int .i64 999)),(.const (.int .i64 1000))] [iv (-1),iv 999,iv 1000]) (zF 2 (wW («as»:=[pp 0,rr 3 [(-1),999,1000]]) [(.tmp 10),(.tmp 11)] [56,25] false [(0,.box (zD.enc false x4.2)),(3,rE 1 zC [(-1),999,1000])] [0,3] (.cons (.pt rfl) (.cons (.rf rfl) (.nil))) (wB.ok x4.2 [(-1),999,1000]) h8 (.same rfl rfl)) zB)) ?_
   exact yM (J_j (jv15 (x7.2.Code,x7.2.At,x7.1,x2.1.B,x2.1.C))) rfl
  ·refine J_d 470 [] [8,14] [(14,bv (x4.1==1))] [] [] zB ?_
   refine zG 14 (fun h9=>?_) (fun h9=>?_)
   ·refine zA (fun x10 h11=>?_)
    refine J_d 942 [] [0,7,14] [] [0,2] [(0,.box (zD.enc false x10.2)),(2,.box [iv x2.1.A,iv x10.1,iv x2.1.C])] (zF 1 (zAZ 25 2 1 3 zC [(-1),999,1000] [0,1,2] [(.const (.int .i64 (-1))),(.const (.int .i64 999)),(.const (.int .i64 1000))] [iv (-1),iv 999,iv 1000]) (zF 2 (wW («as»:=[pp 0,rr 3 [(-1),999,1000]]) [(.tmp 16),(.tmp 17)] [56,25] false [(0,.box (zD.enc false x4.2)),(3,rE 1 zC [(-1),999,1000])] [0,3] (.cons (.pt rfl) (.cons (.rf rfl) (.nil))) (wB.ok x4.2 [(-1),999,1000]) h11 (.same rfl rfl)) zB)) ?_
    exact yM (J_j (jv15 (x10.2.Code,x10.2.At,x2.1.A,x10.1,x2.1.C))) rfl
   ·refine J_d 1886 [] [7,14,20] [(20,bv (x4.1==2))] [] [] zB ?_
    refine zG 20 (fun h12=>?_) (fun h12=>?_)
    ·refine zA (fun x13 h14=>?_)
     refine J_d 3774 [] [0,20] [] [0,2] [(0,.box (zD.enc false x13.2)),(2,.box [iv x2.1.A,iv x2.1.B,iv x13.1])] (zF 1 (zAZ 25 2 1 3 zC [(-1),999,1000,4611686018427387904] [0,1,2,3] [(.const (.int .i64 (-1))),(.const (.int .i64 999)),(.const (.int .i64 1000)),(.const (.int .i64 4611686018427387904))] [iv (-1),iv 999,iv 1000,iv 4611686018427387904]) (zF 2 (wW («as»:=[pp 0,rr 3 [(-1),999,1000,4611686018427387904]]) [(.tmp 22),(.tmp 23)] [56,25] false [(0,.box (zD.enc false x4.2)),(3,rE 1 zC [(-1),999,1000,4611686018427387904])] [0,3] (.cons (.pt rfl) (.cons (.rf rfl) (.nil))) (wB.ok x4.2 [(-1),999,1000,4611686018427387904]) h14 (.same rfl rfl)) zB)) ?_
     exact yM (J_j (jv15 (x13.2.Code,x13.2.At,x2.1.A,x2.1.B,x13.1))) rfl
    ·exact yM (J_j (jv15 (x4.2.Code,x4.2.At,x2.1.A,x2.1.B,x2.1.C))) rfl
noncomputable def c146:Code:=(Tryz.f146.body).getD .skip
theorem vM.ok (a1:zD):Ok Tryz.prog 146 [pp 0] [.box (zD.enc false a1)] ((vM a1).map fun r=>(.ag (Term.enc r.1),[.box (zD.enc false r.2)])):=by
 refine zJ c146 Tryz.f146 1 29 (fun q=>?_)
 unfold vM
 refine J_d 2 [(0,1)] [2] [(2,pp 1)] [1] [(1,.box [sv ByteArray.empty,iv 0,iv 0,iv 0,iv 0,iv 0,iv 0])] zB ?_
 refine zA (fun x2 h3=>?_)
 refine J_d 6 [(2,2)] [3] [(3,pp 2)] [0,2] [(0,.box (zD.enc false x2.2)),(2,.box (Term.enc x2.1))] (zF 1 (wW («as»:=[pp 0]) [(.tmp 4)] [56] false [(0,.box (zD.enc false a1))] [0] (.cons (.pt rfl) (.nil)) (vQ.ok a1) h3 (.ag (.cons (.same rfl rfl) (.cons (.same rfl rfl) (.cons (.same rfl rfl) (.cons (.same rfl rfl) (.cons (.same rfl rfl) (.cons (.same rfl rfl) (.cons (.same rfl rfl) (.nil)))))))))) zB) ?_
 refine zA (fun x4 h5=>?_)
 refine J_g 28 [] [(0,pp 0),(2,pp 1),(3,pp 2),(7,iv x4.1)] [(0,.box (zD.enc false x4.2)),(1,.box [sv ByteArray.empty,iv 0,iv 0,iv 0,iv 0,iv 0,iv 0]),(2,.box (Term.enc x2.1))] (zF 1 (wW («as»:=[pp 0,iv 14]) [(.tmp 6),(.const (.int .i64 14))] [56,2] false [(0,.box (zD.enc false x2.2))] [0] (.cons (.pt rfl) (.cons (.same rfl) (.nil))) (zL.ok x2.2 14) h5 (.same rfl rfl)) zB) ?_
 refine J_d 116 [] [8] [(8,bv (x4.1==0))] [] [] zB ?_
 refine xR (aft c146 58) (fun v16:((List Int)×Int×ByteArray×Int×Int×Int×Int×Int×Int)=>St.mk' [(2,pp 1),(3,pp 2)] [(0,.box [sl 1 eU8 v16.1,iv v16.2.1]),(1,.box [sv ByteArray.empty,iv 0,iv 0,iv 0,iv 0,iv 0,iv 0]),(2,.box [sv v16.2.2.1,iv v16.2.2.2.1,iv v16.2.2.2.2.1,iv v16.2.2.2.2.2.1,iv v16.2.2.2.2.2.2.1,iv v16.2.2.2.2.2.2.2.1,iv v16.2.2.2.2.2.2.2.2])]) (fun v16=>?_) (fun jv16=>?_)
 ·refine J_g 30 [] [(2,pp 1)] [(0,.box [sl 1 eU8 v16.1,iv v16.2.1]),(1,.box [sv v16.2.2.1,iv v16.2.2.2.1,iv v16.2.2.2.2.1,iv v16.2.2.2.2.2.1,iv v16.2.2.2.2.2.2.1,iv v16.2.2.2.2.2.2.2.1,iv v16.2.2.2.2.2.2.2.2])] zB ?_
  exact xJ rfl
 ·refine zG 8 (fun h6=>?_) (fun h6=>?_)
  ·refine zA (fun x7 h8=>?_)
   refine J_d 234 [] [0,7,8] [] [0,2] [(0,.box (zD.enc false x7.2)),(2,.box [sv x7.1,iv x2.1.Low.A,iv x2.1.Low.B,iv x2.1.Low.C,iv x2.1.High.A,iv x2.1.High.B,iv x2.1.High.C])] (zF 1 (wW («as»:=[pp 0]) [(.tmp 10)] [56] false [(0,.box (zD.enc false x4.2))] [0] (.cons (.pt rfl) (.nil)) (wQ.ok x4.2) h8 (.same rfl rfl)) zB) ?_
   exact yM (J_j (jv16 (x7.2.Code,x7.2.At,x7.1,x2.1.Low.A,x2.1.Low.B,x2.1.Low.C,x2.1.High.A,x2.1.High.B,x2.1.High.C))) rfl
  ·refine J_d 470 [] [8,13] [(13,bv (x4.1==1))] [] [] zB ?_
   refine zG 13 (fun h9=>?_) (fun h9=>?_)
   ·refine zA (fun x10 h11=>?_)
    refine J_d 942 [] [0,7,13] [] [0,2] [(0,.box (zD.enc false x10.2)),(2,.box [sv x2.1.Name,iv x10.1.A,iv x10.1.B,iv x10.1.C,iv x2.1.High.A,iv x2.1.High.B,iv x2.1.High.C])] (zF 1 (wW («as»:=[pp 0]) [(.tmp 15)] [56] false [(0,.box (zD.enc false x4.2))] [0] (.cons (.pt rfl) (.nil)) (wL.ok x4.2) h11 (.ag (.cons (.same rfl rfl) (.cons (.same rfl rfl) (.cons (.same rfl rfl) (.nil)))))) zB) ?_
    exact yM (J_j (jv16 (x10.2.Code,x10.2.At,x2.1.Name,x10.1.A,x10.1.B,x10.1.C,x2.1.High.A,x2.1.High.B,x2.1.High.C))) rfl
   ·refine J_d 1886 [] [13,18] [(18,bv (x4.1==2))] [] [] zB ?_
    refine zG 18 (fun h12=>?_) (fun h12=>?_)
    ·refine zA (fun x13 h14=>?_)
     refine J_d 3774 [] [0,7,18] [] [0,2] [(0,.box (zD.enc false x13.2)),(2,.box [sv x2.1.Name,iv x2.1.Low.A,iv x2.1.Low.B,iv x2.1.Low.C,iv x13.1.A,iv x13.1.B,iv x13.1.C])] (zF 1 (wW («as»:=[pp 0]) [(.tmp 20)] [56] false [(0,.box (zD.enc false x4.2))] [0] (.cons (.pt rfl) (.nil)) (wL.ok x4.2) h14 (.ag (.cons (.same rfl rfl) (.cons (.same rfl rfl) (.cons (.same rfl rfl) (.nil)))))) zB) ?_
     exact yM (J_j (jv16 (x13.2.Code,x13.2.At,x2.1.Name,x2.1.Low.A,x2.1.Low.B,x2.1.Low.C,x13.1.A,x13.1.B,x13.1.C))) rfl
    ·refine J_d 7550 [] [0,7,18,23] [(23,bv (x4.1==3))] [] [] zB ?_
     refine zG 23 (fun h15=>?_) (fun h15=>?_)
     ·refine J_d 15102 [] [23] [] [2] [(2,.box [sv x2.1.Name,iv x2.1.Low.A,iv x2.1.Low.B,iv x2.1.Low.C,iv x2.1.Low.A,iv x2.1.Low.B,iv x2.1.Low.C])] zB ?_
      exact yM (J_j (jv16 (x4.2.Code,x4.2.At,x2.1.Name,x2.1.Low.A,x2.1.Low.B,x2.1.Low.C,x2.1.Low.A,x2.1.Low.B,x2.1.Low.C))) rfl
     ·exact yM (J_j (jv16 (x4.2.Code,x4.2.At,x2.1.Name,x2.1.Low.A,x2.1.Low.B,x2.1.Low.C,x2.1.High.A,x2.1.High.B,x2.1.High.C))) rfl
noncomputable def c107:Code:=(Tryz.f107.body).getD .skip
theorem zAa.ok (a1:zD):Ok Tryz.prog 107 [pp 0] [.box (zD.enc false a1)] ((zAa a1).map fun r=>(.ag (Pack.enc false r.1),[.box (zD.enc false r.2)])):=by
 refine zJ c107 Tryz.f107 1 76 (fun q=>?_)
 unfold zAa
 refine J_d 2 [(0,1)] [2] [(2,pp 1)] [1] [(1,.box [sv ByteArray.empty,iv 0,iv 0,iv 0,iv 0,nv,nv,nv])] zB ?_
 refine zA (fun x2 h3=>?_)
 refine J_d 6 [(2,5)] [3] [(3,pp 5)] [0,2,3,4,5] [(0,.box (zD.enc false x2.2)),(2,rE 1 eStr x2.1.Provides),(3,rE 1 (eSl true 7 Term.enc) x2.1.Needs),(4,rE 7 Term.enc x2.1.Bars),(5,.box [sv x2.1.Name,iv x2.1.Version.A,iv x2.1.Version.B,iv x2.1.Version.C,iv x2.1.Size,rr 2 x2.1.Provides,rr 3 x2.1.Needs,rr 4 x2.1.Bars])] (zF 1 (wW («as»:=[pp 0]) [(.tmp 4)] [56] false [(0,.box (zD.enc false a1))] [0] (.cons (.pt rfl) (.nil)) (zAY.ok a1) h3 (.ag (.cons (.same rfl rfl) (.cons (.same rfl rfl) (.cons (.same rfl rfl) (.cons (.same rfl rfl) (.cons (.same rfl rfl) (.cons (.own 2) (.cons (.own 3) (.cons (.own 4) (.nil))))))))))) zB) ?_
 refine zA (fun x4 h5=>?_)
 refine J_g 28 [] [(0,pp 0),(2,pp 1),(3,pp 5),(7,iv x4.1)] [(0,.box (zD.enc false x4.2)),(1,.box [sv ByteArray.empty,iv 0,iv 0,iv 0,iv 0,nv,nv,nv]),(2,rE 1 eStr x2.1.Provides),(3,rE 1 (eSl true 7 Term.enc) x2.1.Needs),(4,rE 7 Term.enc x2.1.Bars),(5,.box [sv x2.1.Name,iv x2.1.Version.A,iv x2.1.Version.B,iv x2.1.Version.C,iv x2.1.Size,rr 2 x2.1.Provides,rr 3 x2.1.Needs,rr 4 x2.1.Bars])] (zF 1 (wW («as»:=[pp 0,iv 24]) [(.tmp 6),(.const (.int .i64 24))] [56,2] false [(0,.box (zD.enc false x2.2))] [0] (.cons (.pt rfl) (.cons (.same rfl) (.nil))) (zL.ok x2.2 24) h5 (.same rfl rfl)) zB) ?_
 refine J_d 116 [] [8] [(8,bv (x4.1==0))] [] [] zB ?_
 refine xR (aft c107 58) (fun v43:((List Int)×Int×ByteArray×Int×Int×Int×Int×(List ByteArray)×(List (List Term))×(List Term))=>St.mk' [(2,pp 1),(3,pp 5)] [(0,.box [sl 1 eU8 v43.1,iv v43.2.1]),(1,.box [sv ByteArray.empty,iv 0,iv 0,iv 0,iv 0,nv,nv,nv]),(2,rE 1 eStr v43.2.2.2.2.2.2.2.1),(3,rE 1 (eSl false 7 Term.enc) v43.2.2.2.2.2.2.2.2.1),(4,rE 7 Term.enc v43.2.2.2.2.2.2.2.2.2),(5,.box [sv v43.2.2.1,iv v43.2.2.2.1,iv v43.2.2.2.2.1,iv v43.2.2.2.2.2.1,iv v43.2.2.2.2.2.2.1,rr 2 v43.2.2.2.2.2.2.2.1,rr 3 v43.2.2.2.2.2.2.2.2.1,rr 4 v43.2.2.2.2.2.2.2.2.2])]) (fun v43=>?_) (fun jv43=>?_)
 ·refine J_g 30 [] [(2,pp 1)] [(0,.box [sl 1 eU8 v43.1,iv v43.2.1]),(1,.box [sv v43.2.2.1,iv v43.2.2.2.1,iv v43.2.2.2.2.1,iv v43.2.2.2.2.2.1,iv v43.2.2.2.2.2.2.1,rr 2 v43.2.2.2.2.2.2.2.1,rr 3 v43.2.2.2.2.2.2.2.2.1,rr 4 v43.2.2.2.2.2.2.2.2.2]),(2,rE 1 eStr v43.2.2.2.2.2.2.2.1),(3,rE 1 (eSl false 7 Term.enc) v43.2.2.2.2.2.2.2.2.1),(4,rE 7 Term.enc v43.2.2.2.2.2.2.2.2.2)] zB ?_
  refine zEe [(2,pp 1)] [(2,rE 1 eStr v43.2.2.2.2.2.2.2.1),(0,.box [sl 1 eU8 v43.1,iv v43.2.1]),(1,.box [sv v43.2.2.1,iv v43.2.2.2.1,iv v43.2.2.2.2.1,iv v43.2.2.2.2.2.1,iv v43.2.2.2.2.2.2.1,rr 2 v43.2.2.2.2.2.2.2.1,rr 3 v43.2.2.2.2.2.2.2.2.1,rr 4 v43.2.2.2.2.2.2.2.2.2]),(3,rE 1 (eSl false 7 Term.enc) v43.2.2.2.2.2.2.2.2.1),(4,rE 7 Term.enc v43.2.2.2.2.2.2.2.2.2)] (by kernel_rfl) ?_
  refine zFY 2 (z:=1) (xs:=v43.2.2.2.2.2.2.2.1.map eStr) (tm2:=[(2,pp 1)]) (hp2:=[(0,.box [sl 1 eU8 v43.1,iv v43.2.1]),(1,.box [sv v43.2.2.1,iv v43.2.2.2.1,iv v43.2.2.2.2.1,iv v43.2.2.2.2.2.1,iv v43.2.2.2.2.2.2.1,sl 1 eStr v43.2.2.2.2.2.2.2.1,rr 3 v43.2.2.2.2.2.2.2.2.1,rr 4 v43.2.2.2.2.2.2.2.2.2]),(3,rE 1 (eSl false 7 Term.enc) v43.2.2.2.2.2.2.2.2.1),(4,rE 7 Term.enc v43.2.2.2.2.2.2.2.2.2)]) (.cons (.keep rfl) (.nil)) (.keep rfl (.box rfl (.cons (.keep rfl) (.cons (.keep rfl) (.cons (.keep rfl) (.cons (.keep rfl) (.cons (.keep rfl) (.cons (.rf (by simp) (zEt (enc:=eStr) (enc':=eStr) (fun _=>rfl) v43.2.2.2.2.2.2.2.1 rfl rfl)) (.cons (.keep rfl) (.cons (.keep rfl) (.nil))))))))) (.keep rfl (.keep rfl (.nil))))) rfl ?_
  refine zEe [(2,pp 1)] [(3,rE 1 (eSl false 7 Term.enc) v43.2.2.2.2.2.2.2.2.1),(0,.box [sl 1 eU8 v43.1,iv v43.2.1]),(1,.box [sv v43.2.2.1,iv v43.2.2.2.1,iv v43.2.2.2.2.1,iv v43.2.2.2.2.2.1,iv v43.2.2.2.2.2.2.1,sl 1 eStr v43.2.2.2.2.2.2.2.1,rr 3 v43.2.2.2.2.2.2.2.2.1,rr 4 v43.2.2.2.2.2.2.2.2.2]),(4,rE 7 Term.enc v43.2.2.2.2.2.2.2.2.2)] (by kernel_rfl) ?_
  refine zFY 3 (z:=1) (xs:=v43.2.2.2.2.2.2.2.2.1.map (eSl false 7 Term.enc)) (tm2:=[(2,pp 1)]) (hp2:=[(0,.box [sl 1 eU8 v43.1,iv v43.2.1]),(1,.box [sv v43.2.2.1,iv v43.2.2.2.1,iv v43.2.2.2.2.1,iv v43.2.2.2.2.2.1,iv v43.2.2.2.2.2.2.1,sl 1 eStr v43.2.2.2.2.2.2.2.1,sl 1 (eSl false 7 Term.enc) v43.2.2.2.2.2.2.2.2.1,rr 4 v43.2.2.2.2.2.2.2.2.2]),(4,rE 7 Term.enc v43.2.2.2.2.2.2.2.2.2)]) (.cons (.keep rfl) (.nil)) (.keep rfl (.box rfl (.cons (.keep rfl) (.cons (.keep rfl) (.cons (.keep rfl) (.cons (.keep rfl) (.cons (.keep rfl) (.cons (.keep rfl) (.cons (.rf (by simp) (zEt (enc:=(eSl false 7 Term.enc)) (enc':=(eSl false 7 Term.enc)) (zEC (fun _=>rfl)) v43.2.2.2.2.2.2.2.2.1 rfl rfl)) (.cons (.keep rfl) (.nil))))))))) (.keep rfl (.nil)))) rfl ?_
  refine zEe [(2,pp 1)] [(4,rE 7 Term.enc v43.2.2.2.2.2.2.2.2.2),(0,.box [sl 1 eU8 v43.1,iv v43.2.1]),(1,.box [sv v43.2.2.1,iv v43.2.2.2.1,iv v43.2.2.2.2.1,iv v43.2.2.2.2.2.1,iv v43.2.2.2.2.2.2.1,sl 1 eStr v43.2.2.2.2.2.2.2.1,sl 1 (eSl false 7 Term.enc) v43.2.2.2.2.2.2.2.2.1,rr 4 v43.2.2.2.2.2.2.2.2.2])] (by kernel_rfl) ?_
  refine zFY 4 (z:=7) (xs:=v43.2.2.2.2.2.2.2.2.2.map Term.enc) (tm2:=[(2,pp 1)]) (hp2:=[(0,.box [sl 1 eU8 v43.1,iv v43.2.1]),(1,.box [sv v43.2.2.1,iv v43.2.2.2.1,iv v43.2.2.2.2.1,iv v43.2.2.2.2.2.1,iv v43.2.2.2.2.2.2.1,sl 1 eStr v43.2.2.2.2.2.2.2.1,sl 1 (eSl false 7 Term.enc) v43.2.2.2.2.2.2.2.2.1,sl 7 Term.enc v43.2.2.2.2.2.2.2.2.2])]) (.cons (.keep rfl) (.nil)) (.keep rfl (.box rfl (.cons (.keep rfl) (.cons (.keep rfl) (.cons (.keep rfl) (.cons (.keep rfl) (.cons (.keep rfl) (.cons (.keep rfl) (.cons (.keep rfl) (.cons (.rf (by simp) (zEt (enc:=Term.enc) (enc':=Term.enc) (fun _=>rfl) v43.2.2.2.2.2.2.2.2.2 rfl rfl)) (.nil))))))))) (.nil))) rfl ?_
  exact xJ rfl
 ·refine zG 8 (fun h6=>?_) (fun h6=>?_)
  ·refine zA (fun x7 h8=>?_)
   refine J_d 234 [] [0,7,8] [] [0,5] [(0,.box (zD.enc false x7.2)),(5,.box [sv x7.1,iv x2.1.Version.A,iv x2.1.Version.B,iv x2.1.Version.C,iv x2.1.Size,rr 2 x2.1.Provides,rr 3 x2.1.Needs,rr 4 x2.1.Bars])] (zF 1 (wW («as»:=[pp 0]) [(.tmp 10)] [56] false [(0,.box (zD.enc false x4.2))] [0] (.cons (.pt rfl) (.nil)) (wQ.ok x4.2) h8 (.same rfl rfl)) zB) ?_
   refine zEe [(2,pp 1),(3,pp 5)] [(3,rE 1 (eSl true 7 Term.enc) x2.1.Needs),(0,.box (zD.enc false x7.2)),(1,.box [sv ByteArray.empty,iv 0,iv 0,iv 0,iv 0,nv,nv,nv]),(2,rE 1 eStr x2.1.Provides),(4,rE 7 Term.enc x2.1.Bars),(5,.box [sv x7.1,iv x2.1.Version.A,iv x2.1.Version.B,iv x2.1.Version.C,iv x2.1.Size,rr 2 x2.1.Provides,rr 3 x2.1.Needs,rr 4 x2.1.Bars])] (by kernel_rfl) ?_
   refine zFt 3 (jG (enc:=(eSl true 7 Term.enc)) (enc':=(eSl false 7 Term.enc)) (zEC (fun _=>rfl)) _) ?_
   refine zEe [(2,pp 1),(3,pp 5)] [(0,.box (zD.enc false x7.2)),(1,.box [sv ByteArray.empty,iv 0,iv 0,iv 0,iv 0,nv,nv,nv]),(2,rE 1 eStr x2.1.Provides),(3,rE 1 (eSl false 7 Term.enc) x2.1.Needs),(4,rE 7 Term.enc x2.1.Bars),(5,.box [sv x7.1,iv x2.1.Version.A,iv x2.1.Version.B,iv x2.1.Version.C,iv x2.1.Size,rr 2 x2.1.Provides,rr 3 x2.1.Needs,rr 4 x2.1.Bars])] (by kernel_rfl) ?_
   exact yM (J_j (jv43 (x7.2.Code,x7.2.At,x7.1,x2.1.Version.A,x2.1.Version.B,x2.1.Version.C,x2.1.Size,x2.1.Provides,x2.1.Needs,x2.1.Bars))) rfl
  ·refine J_d 470 [] [8,13] [(13,bv (x4.1==1))] [] [] zB ?_
   refine zG 13 (fun h9=>?_) (fun h9=>?_)
   ·refine zA (fun x10 h11=>?_)
    refine J_d 942 [] [0,7,13] [] [0,5] [(0,.box (zD.enc false x10.2)),(5,.box [sv x2.1.Name,iv x10.1.A,iv x10.1.B,iv x10.1.C,iv x2.1.Size,rr 2 x2.1.Provides,rr 3 x2.1.Needs,rr 4 x2.1.Bars])] (zF 1 (wW («as»:=[pp 0]) [(.tmp 15)] [56] false [(0,.box (zD.enc false x4.2))] [0] (.cons (.pt rfl) (.nil)) (wL.ok x4.2) h11 (.ag (.cons (.same rfl rfl) (.cons (.same rfl rfl) (.cons (.same rfl rfl) (.nil)))))) zB) ?_
    refine zEe [(2,pp 1),(3,pp 5)] [(3,rE 1 (eSl true 7 Term.enc) x2.1.Needs),(0,.box (zD.enc false x10.2)),(1,.box [sv ByteArray.empty,iv 0,iv 0,iv 0,iv 0,nv,nv,nv]),(2,rE 1 eStr x2.1.Provides),(4,rE 7 Term.enc x2.1.Bars),(5,.box [sv x2.1.Name,iv x10.1.A,iv x10.1.B,iv x10.1.C,iv x2.1.Size,rr 2 x2.1.Provides,rr 3 x2.1.Needs,rr 4 x2.1.Bars])] (by kernel_rfl) ?_
    refine zFt 3 (jG (enc:=(eSl true 7 Term.enc)) (enc':=(eSl false 7 Term.enc)) (zEC (fun _=>rfl)) _) ?_
    refine zEe [(2,pp 1),(3,pp 5)] [(0,.box (zD.enc false x10.2)),(1,.box [sv ByteArray.empty,iv 0,iv 0,iv 0,iv 0,nv,nv,nv]),(2,rE 1 eStr x2.1.Provides),(3,rE 1 (eSl false 7 Term.enc) x2.1.Needs),(4,rE 7 Term.enc x2.1.Bars),(5,.box [sv x2.1.Name,iv x10.1.A,iv x10.1.B,iv x10.1.C,iv x2.1.Size,rr 2 x2.1.Provides,rr 3 x2.1.Needs,rr 4 x2.1.Bars])] (by kernel_rfl) ?_
    exact yM (J_j (jv43 (x10.2.Code,x10.2.At,x2.1.Name,x10.1.A,x10.1.B,x10.1.C,x2.1.Size,x2.1.Provides,x2.1.Needs,x2.1.Bars))) rfl
   ·refine J_d 1886 [] [13,18] [(18,bv (x4.1==2))] [] [] zB ?_
    refine zG 18 (fun h12=>?_) (fun h12=>?_)
    ·refine zA (fun x13 h14=>?_)
     refine J_d 3774 [] [0,7,18] [] [0,5] [(0,.box (zD.enc false x13.2)),(5,.box [sv x2.1.Name,iv x2.1.Version.A,iv x2.1.Version.B,iv x2.1.Version.C,iv x13.1,rr 2 x2.1.Provides,rr 3 x2.1.Needs,rr 4 x2.1.Bars])] (zF 1 (zAZ 25 2 1 6 zC [0,200,201] [0,1,2] [(.const (.int .i64 0)),(.const (.int .i64 200)),(.const (.int .i64 201))] [iv 0,iv 200,iv 201]) (zF 2 (wW («as»:=[pp 0,rr 6 [0,200,201]]) [(.tmp 20),(.tmp 21)] [56,25] false [(0,.box (zD.enc false x4.2)),(6,rE 1 zC [0,200,201])] [0,6] (.cons (.pt rfl) (.cons (.rf rfl) (.nil))) (wB.ok x4.2 [0,200,201]) h14 (.same rfl rfl)) zB)) ?_
     refine zEe [(2,pp 1),(3,pp 5)] [(3,rE 1 (eSl true 7 Term.enc) x2.1.Needs),(0,.box (zD.enc false x13.2)),(1,.box [sv ByteArray.empty,iv 0,iv 0,iv 0,iv 0,nv,nv,nv]),(2,rE 1 eStr x2.1.Provides),(4,rE 7 Term.enc x2.1.Bars),(5,.box [sv x2.1.Name,iv x2.1.Version.A,iv x2.1.Version.B,iv x2.1.Version.C,iv x13.1,rr 2 x2.1.Provides,rr 3 x2.1.Needs,rr 4 x2.1.Bars])] (by kernel_rfl) ?_
     refine zFt 3 (jG (enc:=(eSl true 7 Term.enc)) (enc':=(eSl false 7 Term.enc)) (zEC (fun _=>rfl)) _) ?_
     refine zEe [(2,pp 1),(3,pp 5)] [(0,.box (zD.enc false x13.2)),(1,.box [sv ByteArray.empty,iv 0,iv 0,iv 0,iv 0,nv,nv,nv]),(2,rE 1 eStr x2.1.Provides),(3,rE 1 (eSl false 7 Term.enc) x2.1.Needs),(4,rE 7 Term.enc x2.1.Bars),(5,.box [sv x2.1.Name,iv x2.1.Version.A,iv x2.1.Version.B,iv x2.1.Version.C,iv x13.1,rr 2 x2.1.Provides,rr 3 x2.1.Needs,rr 4 x2.1.Bars])] (by kernel_rfl) ?_
     exact yM (J_j (jv43 (x13.2.Code,x13.2.At,x2.1.Name,x2.1.Version.A,x2.1.Version.B,x2.1.Version.C,x13.1,x2.1.Provides,x2.1.Needs,x2.1.Bars))) rfl
    ·refine J_d 7550 [] [18,24] [(24,bv (x4.1==3))] [] [] zB ?_
     refine zG 24 (fun h15=>?_) (fun h15=>?_)
     ·refine zA (fun x16 h17=>?_)
      refine zA (fun x18 h19=>?_)
      refine J_d 15102 [] [0,7,24] [] [0,2,5,7] [(0,.box (zD.enc false x16.2)),(5,.box [sv x2.1.Name,iv x2.1.Version.A,iv x2.1.Version.B,iv x2.1.Version.C,iv x2.1.Size,rr 7 x18,rr 3 x2.1.Needs,rr 4 x2.1.Bars]),(7,rE 1 eStr x18)] (zF 3 (wW («as»:=[pp 0]) [(.tmp 28)] [56] false [(0,.box (zD.enc false x4.2))] [0] (.cons (.pt rfl) (.nil)) (wQ.ok x4.2) h17 (.same rfl rfl)) (zF 6 (zAZ 32 9 1 6 eStr [x16.1,x2.1.Name] [0,1] [(.tmp 29),(.tmp 31)] [sv x16.1,sv x2.1.Name]) (zF 7 (zEK 32 32 9 9 1 16 7 2 6 eStr (.tmp 27) (.tmp 32) h19) zB))) ?_
      refine zEe [(2,pp 1),(3,pp 5)] [(3,rE 1 (eSl true 7 Term.enc) x2.1.Needs),(0,.box (zD.enc false x16.2)),(1,.box [sv ByteArray.empty,iv 0,iv 0,iv 0,iv 0,nv,nv,nv]),(4,rE 7 Term.enc x2.1.Bars),(5,.box [sv x2.1.Name,iv x2.1.Version.A,iv x2.1.Version.B,iv x2.1.Version.C,iv x2.1.Size,rr 7 x18,rr 3 x2.1.Needs,rr 4 x2.1.Bars]),(7,rE 1 eStr x18)] (by kernel_rfl) ?_
      refine zFt 3 (jG (enc:=(eSl true 7 Term.enc)) (enc':=(eSl false 7 Term.enc)) (zEC (fun _=>rfl)) _) ?_
      refine zEe [(2,pp 1),(3,pp 5)] [(0,.box (zD.enc false x16.2)),(1,.box [sv ByteArray.empty,iv 0,iv 0,iv 0,iv 0,nv,nv,nv]),(3,rE 1 (eSl false 7 Term.enc) x2.1.Needs),(4,rE 7 Term.enc x2.1.Bars),(5,.box [sv x2.1.Name,iv x2.1.Version.A,iv x2.1.Version.B,iv x2.1.Version.C,iv x2.1.Size,rr 7 x18,rr 3 x2.1.Needs,rr 4 x2.1.Bars]),(7,rE 1 eStr x18)] (by kernel_rfl) ?_
      refine vO 7 2 (Nat.le_of_ble_eq_true rfl) (Nat.le_of_ble_eq_true rfl) ?_
      exact yM (J_j (jv43 (x16.2.Code,x16.2.At,x2.1.Name,x2.1.Version.A,x2.1.Version.B,x2.1.Version.C,x2.1.Size,x18,x2.1.Needs,x2.1.Bars))) rfl
     ·refine J_d 30206 [] [24,35] [(35,bv (x4.1==4))] [] [] zB ?_
      refine zG 35 (fun h20=>?_) (fun h20=>?_)
      ·refine zEe [(0,pp 0),(2,pp 1),(3,pp 5),(7,iv x4.1),(35,bv true)] [(3,rE 1 (eSl true 7 Term.enc) x2.1.Needs),(0,.box (zD.enc false x4.2)),(1,.box [sv ByteArray.empty,iv 0,iv 0,iv 0,iv 0,nv,nv,nv]),(2,rE 1 eStr x2.1.Provides),(4,rE 7 Term.enc x2.1.Bars),(5,.box [sv x2.1.Name,iv x2.1.Version.A,iv x2.1.Version.B,iv x2.1.Version.C,iv x2.1.Size,rr 2 x2.1.Provides,rr 3 x2.1.Needs,rr 4 x2.1.Bars])] (by kernel_rfl) ?_
       refine zFt 3 (jG (enc:=(eSl true 7 Term.enc)) (enc':=(eSl false 7 Term.enc)) (zEC (fun _=>rfl)) _) ?_
       refine zEe [(0,pp 0),(2,pp 1),(3,pp 5),(7,iv x4.1),(35,bv true)] [(0,.box (zD.enc false x4.2)),(1,.box [sv ByteArray.empty,iv 0,iv 0,iv 0,iv 0,nv,nv,nv]),(2,rE 1 eStr x2.1.Provides),(3,rE 1 (eSl false 7 Term.enc) x2.1.Needs),(4,rE 7 Term.enc x2.1.Bars),(5,.box [sv x2.1.Name,iv x2.1.Version.A,iv x2.1.Version.B,iv x2.1.Version.C,iv x2.1.Size,rr 2 x2.1.Provides,rr 3 x2.1.Needs,rr 4 x2.1.Bars])] (by kernel_rfl) ?_
       refine zA (fun x21 h22=>?_)
       refine J_d 60414 [] [0,7,35] [] [3,5,7] [(5,.box [sv x2.1.Name,iv x2.1.Version.A,iv x2.1.Version.B,iv x2.1.Version.C,iv x2.1.Size,rr 2 x2.1.Provides,rr 7 x21,rr 4 x2.1.Bars]),(7,rE 1 (eSl false 7 Term.enc) x21)] (zF 2 (zM7 (ds:=[nv]) (ts:=[]) 89 80 1 6 (eSl false 7 Term.enc) [([]:List Term)] [0] [(.const (.slice none 0 0))] [nv] [] (.nilsl false 7 (.nil))) (zF 3 (zEK 89 89 80 80 1 24 7 3 6 (eSl false 7 Term.enc) (.tmp 38) (.tmp 39) h22) zB)) ?_
       refine vO 7 3 (Nat.le_of_ble_eq_true rfl) (Nat.le_of_ble_eq_true rfl) ?_
       exact yM (J_j (jv43 (x4.2.Code,x4.2.At,x2.1.Name,x2.1.Version.A,x2.1.Version.B,x2.1.Version.C,x2.1.Size,x2.1.Provides,x21,x2.1.Bars))) rfl
      ·refine J_d 120830 [] [35,42] [(42,bv (x4.1==5))] [] [] zB ?_
       refine zG 42 (fun h23=>?_) (fun h23=>?_)
       ·refine zA (fun x24 h25=>?_)
        refine zA (fun x26 h27=>?_)
        refine zA (fun x28 h29=>?_)
        refine J_d 241662 [] [0,7,42] [] [0,3,5,8] [(0,.box (zD.enc false x26.2)),(5,.box [sv x2.1.Name,iv x2.1.Version.A,iv x2.1.Version.B,iv x2.1.Version.C,iv x2.1.Size,rr 2 x2.1.Provides,rr 8 x28,rr 4 x2.1.Bars]),(8,rE 1 (eSl true 7 Term.enc) x28)] (zF 3 (wW («as»:=[pp 0]) [(.tmp 46)] [56] false [(0,.box (zD.enc false x4.2))] [0] (.cons (.pt rfl) (.nil)) (vM.ok x4.2) h25 (.ag (.cons (.same rfl rfl) (.cons (.same rfl rfl) (.cons (.same rfl rfl) (.cons (.same rfl rfl) (.cons (.same rfl rfl) (.cons (.same rfl rfl) (.cons (.same rfl rfl) (.nil)))))))))) (zF 5 (wW («as»:=[pp 0]) [(.tmp 48)] [56] false [(0,.box (zD.enc false x24.2))] [0] (.cons (.pt rfl) (.nil)) (vM.ok x24.2) h27 (.ag (.cons (.same rfl rfl) (.cons (.same rfl rfl) (.cons (.same rfl rfl) (.cons (.same rfl rfl) (.cons (.same rfl rfl) (.cons (.same rfl rfl) (.cons (.same rfl rfl) (.nil)))))))))) (zF 6 (zAZ 80 104 7 6 Term.enc [x24.1,x26.1] [0,1] [(.tmp 47),(.tmp 49)] [.ag (Term.enc x24.1),.ag (Term.enc x26.1)]) (zF 7 (zM7 (ds:=[rr 6 [x24.1,x26.1]]) (ts:=[6]) 89 80 1 7 (eSl true 7 Term.enc) [[x24.1,x26.1]] [0] [(.tmp 50)] [rr 6 [x24.1,x26.1]] [(6,rE 7 Term.enc [x24.1,x26.1])] (.move (.head _) (List.length_map _) (by decide) (.nil))) (zF 8 (zEK 89 89 80 80 1 24 8 3 7 (eSl true 7 Term.enc) (.tmp 45) (.tmp 51) h29) zB))))) ?_
        refine zEe [(2,pp 1),(3,pp 5)] [(8,rE 1 (eSl true 7 Term.enc) x28),(0,.box (zD.enc false x26.2)),(1,.box [sv ByteArray.empty,iv 0,iv 0,iv 0,iv 0,nv,nv,nv]),(2,rE 1 eStr x2.1.Provides),(4,rE 7 Term.enc x2.1.Bars),(5,.box [sv x2.1.Name,iv x2.1.Version.A,iv x2.1.Version.B,iv x2.1.Version.C,iv x2.1.Size,rr 2 x2.1.Provides,rr 8 x28,rr 4 x2.1.Bars])] (by kernel_rfl) ?_
        refine zFt 8 (jG (enc:=(eSl true 7 Term.enc)) (enc':=(eSl false 7 Term.enc)) (zEC (fun _=>rfl)) _) ?_
        refine zEe [(2,pp 1),(3,pp 5)] [(0,.box (zD.enc false x26.2)),(1,.box [sv ByteArray.empty,iv 0,iv 0,iv 0,iv 0,nv,nv,nv]),(2,rE 1 eStr x2.1.Provides),(4,rE 7 Term.enc x2.1.Bars),(5,.box [sv x2.1.Name,iv x2.1.Version.A,iv x2.1.Version.B,iv x2.1.Version.C,iv x2.1.Size,rr 2 x2.1.Provides,rr 8 x28,rr 4 x2.1.Bars]),(8,rE 1 (eSl false 7 Term.enc) x28)] (by kernel_rfl) ?_
        refine vO 8 3 (Nat.le_of_ble_eq_true rfl) (Nat.le_of_ble_eq_true rfl) ?_
        exact yM (J_j (jv43 (x26.2.Code,x26.2.At,x2.1.Name,x2.1.Version.A,x2.1.Version.B,x2.1.Version.C,x2.1.Size,x2.1.Provides,x28,x2.1.Bars))) rfl
       ·refine J_d 483326 [] [42,54] [(54,bv (x4.1==6))] [] [] zB ?_
        refine zG 54 (fun h30=>?_) (fun h30=>?_)
        ·refine zA (fun x31 h32=>?_)
         refine zA (fun x33 h34=>?_)
         refine J_d 966654 [] [0,7,54] [] [0,4,5,7] [(0,.box (zD.enc false x31.2)),(5,.box [sv x2.1.Name,iv x2.1.Version.A,iv x2.1.Version.B,iv x2.1.Version.C,iv x2.1.Size,rr 2 x2.1.Provides,rr 3 x2.1.Needs,rr 7 x33]),(7,rE 7 Term.enc x33)] (zF 3 (wW («as»:=[pp 0]) [(.tmp 58)] [56] false [(0,.box (zD.enc false x4.2))] [0] (.cons (.pt rfl) (.nil)) (vM.ok x4.2) h32 (.ag (.cons (.same rfl rfl) (.cons (.same rfl rfl) (.cons (.same rfl rfl) (.cons (.same rfl rfl) (.cons (.same rfl rfl) (.cons (.same rfl rfl) (.cons (.same rfl rfl) (.nil)))))))))) (zF 4 (zAZ 80 104 7 6 Term.enc [x31.1] [0] [(.tmp 59)] [.ag (Term.enc x31.1)]) (zF 5 (zEK 80 80 104 104 7 64 7 4 6 Term.enc (.tmp 57) (.tmp 60) h34) zB))) ?_
         refine zEe [(2,pp 1),(3,pp 5)] [(3,rE 1 (eSl true 7 Term.enc) x2.1.Needs),(0,.box (zD.enc false x31.2)),(1,.box [sv ByteArray.empty,iv 0,iv 0,iv 0,iv 0,nv,nv,nv]),(2,rE 1 eStr x2.1.Provides),(5,.box [sv x2.1.Name,iv x2.1.Version.A,iv x2.1.Version.B,iv x2.1.Version.C,iv x2.1.Size,rr 2 x2.1.Provides,rr 3 x2.1.Needs,rr 7 x33]),(7,rE 7 Term.enc x33)] (by kernel_rfl) ?_
         refine zFt 3 (jG (enc:=(eSl true 7 Term.enc)) (enc':=(eSl false 7 Term.enc)) (zEC (fun _=>rfl)) _) ?_
         refine zEe [(2,pp 1),(3,pp 5)] [(0,.box (zD.enc false x31.2)),(1,.box [sv ByteArray.empty,iv 0,iv 0,iv 0,iv 0,nv,nv,nv]),(2,rE 1 eStr x2.1.Provides),(3,rE 1 (eSl false 7 Term.enc) x2.1.Needs),(5,.box [sv x2.1.Name,iv x2.1.Version.A,iv x2.1.Version.B,iv x2.1.Version.C,iv x2.1.Size,rr 2 x2.1.Provides,rr 3 x2.1.Needs,rr 7 x33]),(7,rE 7 Term.enc x33)] (by kernel_rfl) ?_
         refine vO 7 4 (Nat.le_of_ble_eq_true rfl) (Nat.le_of_ble_eq_true rfl) ?_
         exact yM (J_j (jv43 (x31.2.Code,x31.2.At,x2.1.Name,x2.1.Version.A,x2.1.Version.B,x2.1.Version.C,x2.1.Size,x2.1.Provides,x2.1.Needs,x33))) rfl
        ·refine J_d 1933310 [] [0,54,63] [(63,bv (x4.1==7))] [] [] zB ?_
         refine zG 63 (fun h35=>?_) (fun h35=>?_)
         ·refine zA (fun x36 h37=>?_)
          refine J_d 3866622 [] [7,63] [] [4,5,6] [(5,.box [sv x2.1.Name,iv x2.1.Version.A,iv x2.1.Version.B,iv x2.1.Version.C,iv x2.1.Size,rr 2 x2.1.Provides,rr 3 x2.1.Needs,rr 6 x36]),(6,rE 7 Term.enc x36)] (zF 0 (zOz 80 104 7 64 6 Term.enc ({Name:=ByteArray.empty,Low:=({A:=0,B:=0,C:=0}:Version),High:=({A:=0,B:=0,C:=0}:Version)}:Term) (.const (.int .i64 5)) h37 (.keep rfl (.keep rfl (.keep rfl (.keep rfl (.keep rfl (.keep rfl (.keep rfl (.nil))))))))) zB) ?_
          refine zEe [(2,pp 1),(3,pp 5)] [(3,rE 1 (eSl true 7 Term.enc) x2.1.Needs),(0,.box (zD.enc false x4.2)),(1,.box [sv ByteArray.empty,iv 0,iv 0,iv 0,iv 0,nv,nv,nv]),(2,rE 1 eStr x2.1.Provides),(5,.box [sv x2.1.Name,iv x2.1.Version.A,iv x2.1.Version.B,iv x2.1.Version.C,iv x2.1.Size,rr 2 x2.1.Provides,rr 3 x2.1.Needs,rr 6 x36]),(6,rE 7 Term.enc x36)] (by kernel_rfl) ?_
          refine zFt 3 (jG (enc:=(eSl true 7 Term.enc)) (enc':=(eSl false 7 Term.enc)) (zEC (fun _=>rfl)) _) ?_
          refine zEe [(2,pp 1),(3,pp 5)] [(0,.box (zD.enc false x4.2)),(1,.box [sv ByteArray.empty,iv 0,iv 0,iv 0,iv 0,nv,nv,nv]),(2,rE 1 eStr x2.1.Provides),(3,rE 1 (eSl false 7 Term.enc) x2.1.Needs),(5,.box [sv x2.1.Name,iv x2.1.Version.A,iv x2.1.Version.B,iv x2.1.Version.C,iv x2.1.Size,rr 2 x2.1.Provides,rr 3 x2.1.Needs,rr 6 x36]),(6,rE 7 Term.enc x36)] (by kernel_rfl) ?_
          refine vO 6 4 (Nat.le_of_ble_eq_true rfl) (Nat.le_of_ble_eq_true rfl) ?_
          exact yM (J_j (jv43 (x4.2.Code,x4.2.At,x2.1.Name,x2.1.Version.A,x2.1.Version.B,x2.1.Version.C,x2.1.Size,x2.1.Provides,x2.1.Needs,x36))) rfl
         ·refine J_d 7733246 [] [7,63,67] [(67,bv (x4.1==8))] [] [] zB ?_
          refine zG 67 (fun h38=>?_) (fun h38=>?_)
          ·refine zA (fun x39 h40=>?_)
           refine zA (fun x41 h42=>?_)
           refine J_d 15466494 [] [67] [] [3,5,8] [(5,.box [sv x2.1.Name,iv x2.1.Version.A,iv x2.1.Version.B,iv x2.1.Version.C,iv x2.1.Size,rr 2 x2.1.Provides,rr 8 x41,rr 4 x2.1.Bars]),(8,rE 1 (eSl true 7 Term.enc) x41)] (zF 2 (zOz 80 104 7 64 6 Term.enc ({Name:=ByteArray.empty,Low:=({A:=0,B:=0,C:=0}:Version),High:=({A:=0,B:=0,C:=0}:Version)}:Term) (.const (.int .i64 5)) h40 (.keep rfl (.keep rfl (.keep rfl (.keep rfl (.keep rfl (.keep rfl (.keep rfl (.nil))))))))) (zF 3 (zM7 (ds:=[rr 6 x39]) (ts:=[6]) 89 80 1 7 (eSl true 7 Term.enc) [x39] [0] [(.tmp 71)] [rr 6 x39] [(6,rE 7 Term.enc x39)] (.move (.head _) (List.length_map _) (by decide) (.nil))) (zF 4 (zEK 89 89 80 80 1 24 8 3 7 (eSl true 7 Term.enc) (.tmp 70) (.tmp 72) h42) zB))) ?_
           refine zEe [(2,pp 1),(3,pp 5)] [(8,rE 1 (eSl true 7 Term.enc) x41),(0,.box (zD.enc false x4.2)),(1,.box [sv ByteArray.empty,iv 0,iv 0,iv 0,iv 0,nv,nv,nv]),(2,rE 1 eStr x2.1.Provides),(4,rE 7 Term.enc x2.1.Bars),(5,.box [sv x2.1.Name,iv x2.1.Version.A,iv x2.1.Version.B,iv x2.1.Version.C,iv x2.1.Size,rr 2 x2.1.Provides,rr 8 x41,rr 4 x2.1.Bars])] (by kernel_rfl) ?_
           refine zFt 8 (jG (enc:=(eSl true 7 Term.enc)) (enc':=(eSl false 7 Term.enc)) (zEC (fun _=>rfl)) _) ?_
           refine zEe [(2,pp 1),(3,pp 5)] [(0,.box (zD.enc false x4.2)),(1,.box [sv ByteArray.empty,iv 0,iv 0,iv 0,iv 0,nv,nv,nv]),(2,rE 1 eStr x2.1.Provides),(4,rE 7 Term.enc x2.1.Bars),(5,.box [sv x2.1.Name,iv x2.1.Version.A,iv x2.1.Version.B,iv x2.1.Version.C,iv x2.1.Size,rr 2 x2.1.Provides,rr 8 x41,rr 4 x2.1.Bars]),(8,rE 1 (eSl false 7 Term.enc) x41)] (by kernel_rfl) ?_
           refine vO 8 3 (Nat.le_of_ble_eq_true rfl) (Nat.le_of_ble_eq_true rfl) ?_
           exact yM (J_j (jv43 (x4.2.Code,x4.2.At,x2.1.Name,x2.1.Version.A,x2.1.Version.B,x2.1.Version.C,x2.1.Size,x2.1.Provides,x41,x2.1.Bars))) rfl
          ·refine zEe [(2,pp 1),(3,pp 5),(67,bv false)] [(3,rE 1 (eSl true 7 Term.enc) x2.1.Needs),(0,.box (zD.enc false x4.2)),(1,.box [sv ByteArray.empty,iv 0,iv 0,iv 0,iv 0,nv,nv,nv]),(2,rE 1 eStr x2.1.Provides),(4,rE 7 Term.enc x2.1.Bars),(5,.box [sv x2.1.Name,iv x2.1.Version.A,iv x2.1.Version.B,iv x2.1.Version.C,iv x2.1.Size,rr 2 x2.1.Provides,rr 3 x2.1.Needs,rr 4 x2.1.Bars])] (by kernel_rfl) ?_
           refine zFt 3 (jG (enc:=(eSl true 7 Term.enc)) (enc':=(eSl false 7 Term.enc)) (zEC (fun _=>rfl)) _) ?_
           refine zEe [(2,pp 1),(3,pp 5),(67,bv false)] [(0,.box (zD.enc false x4.2)),(1,.box [sv ByteArray.empty,iv 0,iv 0,iv 0,iv 0,nv,nv,nv]),(2,rE 1 eStr x2.1.Provides),(3,rE 1 (eSl false 7 Term.enc) x2.1.Needs),(4,rE 7 Term.enc x2.1.Bars),(5,.box [sv x2.1.Name,iv x2.1.Version.A,iv x2.1.Version.B,iv x2.1.Version.C,iv x2.1.Size,rr 2 x2.1.Provides,rr 3 x2.1.Needs,rr 4 x2.1.Bars])] (by kernel_rfl) ?_
           exact yM (J_j (jv43 (x4.2.Code,x4.2.At,x2.1.Name,x2.1.Version.A,x2.1.Version.B,x2.1.Version.C,x2.1.Size,x2.1.Provides,x2.1.Needs,x2.1.Bars))) rfl
noncomputable def c55:Code:=(Tryz.f55.body).getD .skip
theorem zBv.ok (q:Wd) (kn:((List Int)×Int×(List Pack))→Option (D×List Ent)) (hk:∀v:((List Int)×Int×(List Pack)),J (q.g Tryz.prog 55 1 53) c55 (atI c55 15) (St.mk' [(0,pp 0),(3,rr 1 v.2.2)] [(0,.box [sl 1 eU8 v.1,iv v.2.1]),(1,rE 8 (Pack.enc true) v.2.2)]) (some v) kn):
  ∀s15:((List Int)×Int×(List Pack)×Int),J (q.g Tryz.prog 55 1 53) c55 (atI c55 116) (St.mk' [(0,pp 0),(3,rr 1 s15.2.2.1),(4,iv s15.2.2.2)] [(0,.box [sl 1 eU8 s15.1,iv s15.2.1]),(1,rE 8 (Pack.enc true) s15.2.2.1)]) (zBv s15) kn:=by
 refine zAq (fun g ih s15=>?_)
 unfold zAA
 refine J_d 464 [] [13] [(13,bv (decide (s15.2.2.2>0)))] [] [] zB ?_
 refine zG 13 (fun h16=>?_) (fun h16=>?_)
 ·refine zA (fun x17 h18=>?_)
  refine J_d 1864 [(2,5)] [5,13] [(5,pp 5)] [0,2,3,4,5] [(0,.box (zD.enc false x17.2)),(2,rE 1 eStr x17.1.Provides),(3,rE 1 (eSl true 7 Term.enc) x17.1.Needs),(4,rE 7 Term.enc x17.1.Bars),(5,.box [sv x17.1.Name,iv x17.1.Version.A,iv x17.1.Version.B,iv x17.1.Version.C,iv x17.1.Size,rr 2 x17.1.Provides,rr 3 x17.1.Needs,rr 4 x17.1.Bars])] (zF 1 (wW («as»:=[pp 0]) [(.tmp 16)] [56] false [(0,.box [sl 1 eU8 s15.1,iv s15.2.1])] [0] (.cons (.pt rfl) (.nil)) (zAY.ok ({Code:=s15.1,At:=s15.2.1}:zD)) h18 (.ag (.cons (.same rfl rfl) (.cons (.same rfl rfl) (.cons (.same rfl rfl) (.cons (.same rfl rfl) (.cons (.same rfl rfl) (.cons (.own 2) (.cons (.own 3) (.cons (.own 4) (.nil))))))))))) zB) ?_
  refine zA (fun x19 h20=>?_)
  refine J_d 3730 [] [24] [(24,bv (decide (x19<0)))] [] [] (zF 5 (wW («as»:=[rr 1 s15.2.2.1,sv x17.1.Name,.ag (Version.enc x17.1.Version)]) [(.tmp 18),(.tmp 20),(.tmp 22)] [24,9,88] true [(1,rE 8 (Pack.enc true) s15.2.2.1)] [] (.cons (zD1 (.head _) (Pack.ro true) rfl) (.cons (.same rfl) (.cons (.same rfl) (.nil)))) (zAQ.ok s15.2.2.1 x17.1.Name x17.1.Version) h20 (.same rfl rfl) (hbor:=fun _=>⟨fhN,yP⟩)) zB) ?_
  refine xR (aft c55 932) (fun v24:(List Pack)=>St.mk' [(0,pp 0),(3,rr 7 v24),(4,iv s15.2.2.2)] [(0,.box (zD.enc false x17.2)),(7,rE 8 (Pack.enc true) v24)]) (fun v24=>?_) (fun jv24=>?_)
  ·refine J_d 467 [] [4] [(4,iv (w64 (s15.2.2.2-1)))] [] [] zB ?_
   refine vO 7 1 (Nat.le_of_ble_eq_true rfl) (Nat.le_of_ble_eq_true rfl) ?_
   exact J_q (J_b (ih (x17.2.Code,x17.2.At,v24,w64 (s15.2.2.2-1)))) rfl
  ·refine zG 24 (fun h21=>?_) (fun h21=>?_)
   ·refine zA (fun x22 h23=>?_)
    refine J_d 7462 [] [3,5,24] [(3,rr 7 x22)] [1,2,3,4,5,7] [(7,rE 8 (Pack.enc true) x22)] (zF 2 (zM7 (ds:=[sv x17.1.Name,iv x17.1.Version.A,iv x17.1.Version.B,iv x17.1.Version.C,iv x17.1.Size,rr 2 x17.1.Provides,rr 3 x17.1.Needs,rr 4 x17.1.Bars]) (ts:=[2,3,4]) 24 91 8 6 (Pack.enc true) [x17.1] [0] [(.tmp 26)] [.ag [sv x17.1.Name,iv x17.1.Version.A,iv x17.1.Version.B,iv x17.1.Version.C,iv x17.1.Size,rr 2 x17.1.Provides,rr 3 x17.1.Needs,rr 4 x17.1.Bars]] [(2,rE 1 eStr x17.1.Provides),(3,rE 1 (eSl true 7 Term.enc) x17.1.Needs),(4,rE 7 Term.enc x17.1.Bars)] (.keep rfl (.keep rfl (.keep rfl (.keep rfl (.keep rfl (.move (.head _) (List.length_map _) (by decide) (.move (.tail _ (.head _)) (List.length_map _) (by decide) (.move (.tail _ (.tail _ (.head _))) (List.length_map _) (by decide) (.nil)))))))))) (zF 3 (zEK 24 24 91 91 8 120 7 1 6 (Pack.enc true) (.tmp 25) (.tmp 27) h23) zB)) ?_
    exact yM (J_j (jv24 x22)) rfl
   ·refine vO 1 7 (Nat.le_of_ble_eq_true rfl) (Nat.le_of_ble_eq_true rfl) ?_
    exact yM (J_j (jv24 s15.2.2.1)) rfl
 ·exact yM (hk (s15.1,s15.2.1,s15.2.2.1)) rfl
theorem zAR.ok (a1:zD):Ok Tryz.prog 55 [pp 0] [.box (zD.enc false a1)] ((zAR a1).map fun r=>(so 8 (Pack.enc false) r.1,[.box (zD.enc false r.2)])):=by
 refine zJ c55 Tryz.f55 1 53 (fun q=>?_)
 unfold zAR
 refine J_g 2 [] [(0,pp 0)] [(0,.box (zD.enc false a1))] zB ?_
 refine J_d 6 [] [3] [(3,rr 1 ([]:List Pack))] [1] [(1,rE 8 (Pack.enc false) ([]:List Pack))] (zF 0 (zAZ 24 91 8 1 (Pack.enc false) ([]:List Pack) [] [] []) zB) ?_
 refine zA (fun x2 h3=>?_)
 refine zA (fun x4 h5=>?_)
 refine J_d 28 [] [4] [(4,iv x4.1)] [0] [(0,.box (zD.enc false x4.2))] (zF 2 (wW («as»:=[pp 0,iv 12]) [(.tmp 8),(.const (.int .i64 12))] [56,2] false [(0,.box (zD.enc false a1))] [0] (.cons (.pt rfl) (.cons (.same rfl) (.nil))) (zL.ok a1 12) h3 (.same rfl rfl)) (zF 3 (zAZ 25 2 1 2 zC [3,4,5,6,7,8,x2.1] [0,1,2,3,4,5,6] [(.const (.int .i64 3)),(.const (.int .i64 4)),(.const (.int .i64 5)),(.const (.int .i64 6)),(.const (.int .i64 7)),(.const (.int .i64 8)),(.tmp 9)] [iv 3,iv 4,iv 5,iv 6,iv 7,iv 8,iv x2.1]) (zF 4 (wW («as»:=[pp 0,rr 2 [3,4,5,6,7,8,x2.1]]) [(.tmp 7),(.tmp 10)] [56,25] false [(0,.box (zD.enc false x2.2)),(2,rE 1 zC [3,4,5,6,7,8,x2.1])] [0,2] (.cons (.pt rfl) (.cons (.rf rfl) (.nil))) (wB.ok x2.2 [3,4,5,6,7,8,x2.1]) h5 (.same rfl rfl)) zB))) ?_
 refine zET (zBv.ok q _ (fun v25=>J_j ?_) (x4.2.Code,x4.2.At,([]:List Pack),x4.1))
 refine zA (fun x26 h27=>?_)
 refine J_g 60 [] [(0,pp 0),(3,rr 1 v25.2.2),(30,iv x26.1)] [(0,.box (zD.enc false x26.2)),(1,rE 8 (Pack.enc true) v25.2.2)] (zF 1 (wW («as»:=[pp 0,iv 40]) [(.tmp 29),(.const (.int .i64 40))] [56,2] false [(0,.box [sl 1 eU8 v25.1,iv v25.2.1])] [0] (.cons (.pt rfl) (.cons (.same rfl) (.nil))) (zL.ok ({Code:=v25.1,At:=v25.2.1}:zD) 40) h27 (.same rfl rfl)) zB) ?_
 refine J_d 244 [] [31] [(31,bv (x26.1==0))] [] [] zB ?_
 refine xR (aft c55 122) (fun v42:((List Int)×Int×(List Pack))=>St.mk' [(3,rr 3 v42.2.2)] [(0,.box [sl 1 eU8 v42.1,iv v42.2.1]),(3,rE 8 (Pack.enc false) v42.2.2)]) (fun v42=>?_) (fun jv42=>?_)
 ·refine J_g 62 [] [(2,rr 3 v42.2.2)] [(0,.box [sl 1 eU8 v42.1,iv v42.2.1]),(3,rE 8 (Pack.enc false) v42.2.2)] zB ?_
  exact zEf (ds:=[rr 3 v42.2.2]) (ds':=[so 8 (Pack.enc false) v42.2.2]) (.cons (.cell (.move (.tail _ (.head _)) (List.length_map _) (by decide) (.nil))) (.nil) (by decide)) rfl
 ·refine zG 31 (fun h28=>?_) (fun h28=>?_)
  ·refine zA (fun x29 h30=>?_)
   refine zEe [(0,pp 0),(3,rr 1 v25.2.2),(30,iv x26.1),(31,bv true)] [(1,rE 8 (Pack.enc true) v25.2.2),(0,.box (zD.enc false x26.2))] (by kernel_rfl) ?_
   refine zFt 1 (jG (enc:=(Pack.enc true)) (enc':=(Pack.enc false)) (Pack.ro true) _) ?_
   refine zEe [(0,pp 0),(3,rr 1 v25.2.2),(30,iv x26.1),(31,bv true)] [(0,.box (zD.enc false x26.2)),(1,rE 8 (Pack.enc false) v25.2.2)] (by kernel_rfl) ?_
   refine zA (fun x31 h32=>?_)
   refine J_g 490 [] [(3,rr 3 x31)] [(0,.box (zD.enc false x29.2)),(3,rE 8 (Pack.enc false) x31)] (zF 2 (wW («as»:=[pp 0]) [(.tmp 34)] [56] false [(0,.box (zD.enc false x26.2))] [0] (.cons (.pt rfl) (.nil)) (zAa.ok x26.2) h30 (.ag (.cons (.same rfl rfl) (.cons (.same rfl rfl) (.cons (.same rfl rfl) (.cons (.same rfl rfl) (.cons (.same rfl rfl) (.cons (.same rfl rfl) (.cons (.same rfl rfl) (.cons (.same rfl rfl) (.nil))))))))))) (zF 3 (zAZ 24 91 8 2 (Pack.enc false) [x29.1] [0] [(.tmp 35)] [.ag (Pack.enc false x29.1)]) (zF 4 (zEK 24 24 91 91 8 120 3 1 2 (Pack.enc false) (.tmp 33) (.tmp 36) h32) zB))) ?_
   exact yM (J_j (jv42 (x29.2.Code,x29.2.At,x31))) rfl
  ·refine J_d 982 [] [0,31,38] [(38,bv (x26.1==1))] [] [] zB ?_
   refine zG 38 (fun h33=>?_) (fun h33=>?_)
   ·refine J_d 3932 [] [30,38,42] [(42,bv (decide ((v25.2.2.length:Int)>0)))] [] [] zB ?_
    refine zG 42 (fun h34=>?_) (fun h34=>?_)
    ·refine zA (fun x35 h36=>?_)
     refine zEe [(3,rr 1 v25.2.2),(42,bv true)] [(1,rE 8 (Pack.enc true) v25.2.2),(0,.box (zD.enc false x26.2))] (by kernel_rfl) ?_
     refine zFt 1 (jG (enc:=(Pack.enc true)) (enc':=(Pack.enc false)) (Pack.ro true) _) ?_
     refine zEe [(3,rr 1 v25.2.2),(42,bv true)] [(0,.box (zD.enc false x26.2)),(1,rE 8 (Pack.enc false) v25.2.2)] (by kernel_rfl) ?_
     refine zA (fun x37 h38=>?_)
     refine J_d 7866 [] [3,42] [(3,rr 3 x37)] [1,3] [(3,rE 8 (Pack.enc false) x37)] (zF 2 (zCb (kk:=.i64) 24 91 8 1 (Pack.enc false) (.tmp 44) (.const (.int .i64 0)) h36) (zF 3 (zCK (d:=.ag (Pack.enc false x35)) 91 8 1 0 (Pack.enc false) (.tmp 45) h36 (by kernel_rfl)) (zF 4 (zAZ 24 91 8 2 (Pack.enc false) [x35] [0] [(.tmp 46)] [.ag (Pack.enc false x35)]) (zF 5 (zEK 24 24 91 91 8 120 3 1 2 (Pack.enc false) (.tmp 43) (.tmp 47) h38) zB)))) ?_
     exact yM (J_j (jv42 (x26.2.Code,x26.2.At,x37))) rfl
    ·refine zEe [(3,rr 1 v25.2.2),(42,bv false)] [(1,rE 8 (Pack.enc true) v25.2.2),(0,.box (zD.enc false x26.2))] (by kernel_rfl) ?_
     refine zFt 1 (jG (enc:=(Pack.enc true)) (enc':=(Pack.enc false)) (Pack.ro true) _) ?_
     refine zEe [(3,rr 1 v25.2.2),(42,bv false)] [(0,.box (zD.enc false x26.2)),(1,rE 8 (Pack.enc false) v25.2.2)] (by kernel_rfl) ?_
     refine vO 1 3 (Nat.le_of_ble_eq_true rfl) (Nat.le_of_ble_eq_true rfl) ?_
     exact yM (J_j (jv42 (x26.2.Code,x26.2.At,v25.2.2))) rfl
   ·refine J_d 3934 [] [30,38,49] [(49,bv (x26.1==2))] [] [] zB ?_
    refine zG 49 (fun h39=>?_) (fun h39=>?_)
    ·refine zA (fun x40 h41=>?_)
     refine J_d 7870 [] [3,49] [(3,rr 2 x40)] [1,2] [(2,rE 8 (Pack.enc true) x40)] (zF 0 (zOz 24 91 8 120 2 (Pack.enc true) ({Name:=ByteArray.empty,Version:=({A:=0,B:=0,C:=0}:Version),Size:=0,Provides:=([]:List ByteArray),Needs:=([]:List (List Term)),Bars:=([]:List Term)}:Pack) (.const (.int .i64 25)) h41 (.keep rfl (.keep rfl (.keep rfl (.keep rfl (.keep rfl (.nilsl true 1 (.nilsl true 1 (.nilsl true 7 (.nil)))))))))) zB) ?_
     refine zEe [(3,rr 2 x40)] [(2,rE 8 (Pack.enc true) x40),(0,.box (zD.enc false x26.2))] (by kernel_rfl) ?_
     refine zFt 2 (jG (enc:=(Pack.enc true)) (enc':=(Pack.enc false)) (Pack.ro true) _) ?_
     refine zEe [(3,rr 2 x40)] [(0,.box (zD.enc false x26.2)),(2,rE 8 (Pack.enc false) x40)] (by kernel_rfl) ?_
     refine vO 2 3 (Nat.le_of_ble_eq_true rfl) (Nat.le_of_ble_eq_true rfl) ?_
     exact yM (J_j (jv42 (x26.2.Code,x26.2.At,x40))) rfl
    ·refine zEe [(3,rr 1 v25.2.2),(49,bv false)] [(1,rE 8 (Pack.enc true) v25.2.2),(0,.box (zD.enc false x26.2))] (by kernel_rfl) ?_
     refine zFt 1 (jG (enc:=(Pack.enc true)) (enc':=(Pack.enc false)) (Pack.ro true) _) ?_
     refine zEe [(3,rr 1 v25.2.2),(49,bv false)] [(0,.box (zD.enc false x26.2)),(1,rE 8 (Pack.enc false) v25.2.2)] (by kernel_rfl) ?_
     refine vO 1 3 (Nat.le_of_ble_eq_true rfl) (Nat.le_of_ble_eq_true rfl) ?_
     exact yM (J_j (jv42 (x26.2.Code,x26.2.At,v25.2.2))) rfl
noncomputable def c193:Code:=(Tryz.f193.body).getD .skip
theorem tC.ok (a1:Int):Ok Tryz.prog 193 [uv a1] [] ((tC a1).map fun r=>(bv r,[])):=by
 refine zJ c193 Tryz.f193 0 9 (fun q=>?_)
 unfold tC
 refine J_g 2 [] [(0,uv a1)] [] zB ?_
 refine vI (fun h2=>?_) (fun h2=>?_)
 ·refine J_g 6 [] [(2,bv (decide (a1≤122)))] [] (wO 2 [(4,bv (decide (a1≥97)))] [] h2 zB) ?_
  exact xJ rfl
 ·refine J_g 6 [] [(2,bv false)] [] (wO 2 [(4,bv (decide (a1≥97)))] [] h2 zB) ?_
  exact xJ rfl
noncomputable def zPd:Code:=(Tryz.f220.body).getD .skip
theorem zBz.ok (a1:Int):Ok Tryz.prog 220 [uv a1] [] ((zBz a1).map fun r=>(bv r,[])):=by
 refine zJ zPd Tryz.f220 0 9 (fun q=>?_)
 unfold zBz
 refine J_g 2 [] [(0,uv a1)] [] zB ?_
 refine vI (fun h2=>?_) (fun h2=>?_)
 ·refine J_g 6 [] [(2,bv (decide (a1≤57)))] [] (wO 2 [(4,bv (decide (a1≥48)))] [] h2 zB) ?_
  exact xJ rfl
 ·refine J_g 6 [] [(2,bv false)] [] (wO 2 [(4,bv (decide (a1≥48)))] [] h2 zB) ?_
  exact xJ rfl
noncomputable def c194:Code:=(Tryz.f194.body).getD .skip
theorem zDv.ok (a1:Int):Ok Tryz.prog 194 [uv a1] [] ((zDv a1).map fun r=>(bv r,[])):=by
 refine zJ c194 Tryz.f194 0 13 (fun q=>?_)
 unfold zDv
 refine J_g 2 [] [(0,uv a1)] [] zB ?_
 refine zA (fun x2 h3=>?_)
 refine vI (fun h4=>?_) (fun h4=>?_)
 ·refine J_g 6 [] [(2,bv true)] [] (zF 1 (vD [(.tmp 3)] [5] (tC.ok a1) h3) (wO 2 [(4,bv x2)] [] h4 zB)) ?_
  exact xJ rfl
 ·refine zA (fun x5 h6=>?_)
  refine vI (fun h7=>?_) (fun h7=>?_)
  ·refine J_g 6 [] [(2,bv true)] [] (zF 1 (vD [(.tmp 3)] [5] (tC.ok a1) h3) (wO 2 [(4,bv x2)] [] h4 (zAm 4 2 5 false (vD [(.tmp 6)] [5] (zBz.ok a1) h6) (wO 6 [(8,bv x5)] [] h7 zB)))) ?_
   exact xJ rfl
  ·refine J_g 6 [] [(2,bv (a1==95))] [] (zF 1 (vD [(.tmp 3)] [5] (tC.ok a1) h3) (wO 2 [(4,bv x2)] [] h4 (zAm 4 2 5 false (vD [(.tmp 6)] [5] (zBz.ok a1) h6) (wO 6 [(8,bv x5)] [] h7 zB)))) ?_
   exact xJ rfl
noncomputable def zNu:Code:=(Tryz.f147.body).getD .skip
theorem kJ.ok (a1:ByteArray) (q:Wd) (kn:Unit→Option (D×List Ent)) (hk:∀v:Unit,J (q.g Tryz.prog 147 0 29) zNu (atI zNu 15) (St.mk' [] []) (some v) kn):
  ∀s16:Int,J (q.g Tryz.prog 147 0 29) zNu (atI zNu 116) (St.mk' [(0,sv a1),(3,iv s16)] []) (kJ a1 s16) (Fl.go (fun r:Int=>some (iv r,[])) kn):=by
 refine zAq (fun g ih s16=>?_)
 unfold zCc
 refine J_d 464 [] [21] [(21,bv (decide (s16< (a1.size:Int))))] [] [] zB ?_
 refine zG 21 (fun h17=>?_) (fun h17=>?_)
 ·refine zA (fun x18 h19=>?_)
  refine zA (fun x20 h21=>?_)
  refine J_d 1864 [] [21,28] [(28,bv (!x20))] [] [] (zF 2 (zNp (kk:=.i64) 9 (.tmp 24) (.tmp 25) h19) (zF 3 (vD [(.tmp 26)] [5] (zDv.ok x18) h21) zB)) ?_
  refine zG 28 (fun h22=>?_) (fun h22=>?_)
  ·refine J_g 7460 [] [(2,iv 5)] [] zB ?_
   exact xJ rfl
  ·refine J_g 467 [] [(0,sv a1),(3,iv (w64 (s16+1)))] [] zB ?_
   exact J_q (J_b (ih (w64 (s16+1)))) rfl
 ·exact yM (hk ()) rfl
theorem vW.ok (a1:ByteArray):Ok Tryz.prog 147 [sv a1] [] ((vW a1).map fun r=>(iv r,[])):=by
 refine zJ zNu Tryz.f147 0 29 (fun q=>?_)
 unfold vW
 refine J_g 2 [] [(0,sv a1)] [] zB ?_
 refine xR (atI zNu 13) (fun v8:Bool=>St.mk' [(0,sv a1),(17,bv v8)] []) (fun v8=>?_) (fun jv8=>?_)
 ·refine zG 17 (fun h9=>?_) (fun h9=>?_)
  ·refine J_g 52 [] [(2,iv 5)] [] zB ?_
   exact xJ rfl
  ·refine J_g 28 [] [(0,sv a1),(3,iv 0)] [] zB ?_
   refine jO (K0:=(fun r:Int=>some (iv r,[]))) (fun _=>rfl) (kJ.ok a1 q _ (fun v23=>J_j ?_) 0)
   refine J_g 30 [] [(2,iv 0)] [] zB ?_
   exact xJ rfl
 ·refine vI (fun h2=>?_) (fun h2=>?_)
  ·refine J_g 12 [] [(0,sv a1),(17,bv true)] [] (wO 3 [(6,bv (decide ((a1.size:Int)<1)))] [] h2 zB) ?_
   exact yM (J_j (jv8 true)) rfl
  ·refine vI (fun h3=>?_) (fun h3=>?_)
   ·refine J_g 12 [] [(0,sv a1),(17,bv true)] [] (wO 3 [(6,bv (decide ((a1.size:Int)<1)))] [] h2 (wO 8 [(11,bv (decide ((a1.size:Int)>12)))] [] h3 zB)) ?_
    exact yM (J_j (jv8 true)) rfl
   ·refine zA (fun x4 h5=>?_)
    refine zA (fun x6 h7=>?_)
    refine J_g 12 [] [(0,sv a1),(17,bv (!x6))] [] (wO 3 [(6,bv (decide ((a1.size:Int)<1)))] [] h2 (wO 8 [(11,bv (decide ((a1.size:Int)>12)))] [] h3 (zAm 10 8 12 false (zNp (kk:=.i64) 9 (.tmp 13) (.const (.int .i64 0)) h5) (zAm 11 8 12 false (vD [(.tmp 14)] [5] (tC.ok x4) h7) zB)))) ?_
    exact yM (J_j (jv8 (!x6))) rfl
noncomputable def c109:Code:=(Tryz.f109.body).getD .skip
theorem uM.ok (a1:Int) (a2:Int) (a3:Int):Ok Tryz.prog 109 [iv a1,iv a2,iv a3] [] ((uM a1 a2 a3).map fun r=>(bv r,[])):=by
 refine zJ c109 Tryz.f109 0 15 (fun q=>?_)
 unfold uM
 refine J_d 2 [] [] [] [] [] zB ?_
 refine vI (fun h4=>?_) (fun h4=>?_)
 ·refine J_g 6 [] [(6,bv (decide (a1≤a3)))] [] (wO 3 [(9,bv (decide (a1≥a2)))] [] h4 zB) ?_
  exact xJ rfl
 ·refine J_g 6 [] [(6,bv false)] [] (wO 3 [(9,bv (decide (a1≥a2)))] [] h4 zB) ?_
  exact xJ rfl
noncomputable def c148:Code:=(Tryz.f148.body).getD .skip
theorem wT.ok (a1:Version):Ok Tryz.prog 148 [.ag (Version.enc a1)] [] ((wT a1).map fun r=>(iv r,[])):=by
 refine zJ c148 Tryz.f148 0 19 (fun q=>?_)
 unfold wT
 refine J_g 2 [(0,0)] [(1,pp 0)] [(0,.box (Version.enc a1))] zB ?_
 refine zA (fun x2 h3=>?_)
 refine xR (atI c148 13) (fun v10:Bool=>St.mk' [(18,bv v10)] []) (fun v10=>?_) (fun jv10=>?_)
 ·refine zG 18 (fun h11=>?_) (fun h11=>?_)
  ·refine J_g 52 [] [(2,iv 3)] [] zB ?_
   exact xJ rfl
  ·refine J_g 14 [] [(2,iv 0)] [] zB ?_
   exact xJ rfl
 ·refine vI (fun h4=>?_) (fun h4=>?_)
  ·refine J_g 12 [] [(18,bv true)] [] (zF 2 (vD [(.tmp 4),(.const (.int .i64 0)),(.const (.int .i64 999))] [2,2,2] (uM.ok a1.A 0 999) h3) (wO 4 [(6,bv (!x2))] [] h4 zB)) ?_
   exact yM (J_j (jv10 true)) rfl
  ·refine zA (fun x5 h6=>?_)
   refine vI (fun h7=>?_) (fun h7=>?_)
   ·refine J_g 12 [] [(18,bv true)] [] (zF 2 (vD [(.tmp 4),(.const (.int .i64 0)),(.const (.int .i64 999))] [2,2,2] (uM.ok a1.A 0 999) h3) (wO 4 [(6,bv (!x2))] [] h4 (zAm 7 4 7 false (vD [(.tmp 9),(.const (.int .i64 0)),(.const (.int .i64 999))] [2,2,2] (uM.ok a1.B 0 999) h6) (wO 10 [(12,bv (!x5))] [] h7 zB)))) ?_
    exact yM (J_j (jv10 true)) rfl
   ·refine zA (fun x8 h9=>?_)
    refine J_g 12 [] [(18,bv (!x8))] [] (zF 2 (vD [(.tmp 4),(.const (.int .i64 0)),(.const (.int .i64 999))] [2,2,2] (uM.ok a1.A 0 999) h3) (wO 4 [(6,bv (!x2))] [] h4 (zAm 7 4 7 false (vD [(.tmp 9),(.const (.int .i64 0)),(.const (.int .i64 999))] [2,2,2] (uM.ok a1.B 0 999) h6) (wO 10 [(12,bv (!x5))] [] h7 (zAm 13 10 13 false (vD [(.tmp 15),(.const (.int .i64 0)),(.const (.int .i64 999))] [2,2,2] (uM.ok a1.C 0 999) h9) zB))))) ?_
    exact yM (J_j (jv10 (!x8))) rfl
noncomputable def c64:Code:=(Tryz.f64.body).getD .skip
theorem zCH.ok (a1:(List ByteArray)) (a2:ByteArray) (q:Wd) (kn:Unit→Option (D×List Ent)) (hk:∀v:Unit,J (q.g Tryz.prog 64 0 18) c64 (atI c64 7) (St.mk' [] []) (some v) kn):
  ∀s7:Int,J (q.g Tryz.prog 64 0 18) c64 (atI c64 52) (St.mk' [(0,sl 1 eStr a1),(1,sv a2),(5,iv s7)] []) (zCH a1 a2 s7) (Fl.go (fun r:Bool=>some (bv r,[])) kn):=by
 refine zAq (fun g ih s7=>?_)
 unfold zBQ
 refine J_d 208 [] [9] [(9,bv (decide (s7< (a1.length:Int))))] [] [] zB ?_
 refine zG 9 (fun h8=>?_) (fun h8=>?_)
 ·refine zA (fun x9 h10=>?_)
  refine J_d 840 [] [9,17] [(17,bv (seq x9 a2))] [] [] (zF 2 (uN (kk:=.i64) 32 9 1 eStr (.tmp 12) (.tmp 13) h10) zB) ?_
  refine zG 17 (fun h11=>?_) (fun h11=>?_)
  ·refine J_g 3364 [] [(4,bv true)] [] zB ?_
   exact xJ rfl
  ·refine J_d 211 [] [5,17] [(5,iv (w64 (s7+1)))] [] [] zB ?_
   exact J_q (J_b (ih (w64 (s7+1)))) rfl
 ·exact yM (hk ()) rfl
theorem wG.ok (a1:(List ByteArray)) (a2:ByteArray):Ok Tryz.prog 64 [sl 1 eStr a1,sv a2] [] ((wG a1 a2).map fun r=>(bv r,[])):=by
 refine zJ c64 Tryz.f64 0 18 (fun q=>?_)
 unfold wG
 refine J_g 2 [] [(0,sl 1 eStr a1),(1,sv a2)] [] zB ?_
 refine J_d 12 [] [5] [(5,iv 0)] [] [] zB ?_
 refine jO (K0:=(fun r:Bool=>some (bv r,[]))) (fun _=>rfl) (zCH.ok a1 a2 q _ (fun v12=>J_j ?_) 0)
 refine J_g 14 [] [(4,bv false)] [] zB ?_
 exact xJ rfl
noncomputable def zOF:Code:=(Tryz.f195.body).getD .skip
theorem zAX.ok (a1:Term):Ok Tryz.prog 195 [.ag (Term.enc a1)] [] ((zAX a1).map fun r=>(iv r,[])):=by
 refine zJ zOF Tryz.f195 0 33 (fun q=>?_)
 unfold zAX
 refine J_g 2 [(0,0)] [(1,pp 0)] [(0,.box (Term.enc a1))] zB ?_
 refine zA (fun x2 h3=>?_)
 refine J_g 12 [] [(1,pp 0),(3,iv x2)] [(0,.box (Term.enc a1))] (zF 2 (vD [(.tmp 6)] [9] (vW.ok a1.Name) h3) zB) ?_
 refine J_d 26 [] [9] [(9,bv (x2 !=0))] [] [] zB ?_
 refine zG 9 (fun h4=>?_) (fun h4=>?_)
 ·refine J_g 108 [] [(2,iv x2)] [] zB ?_
  exact xJ rfl
 ·refine zA (fun x5 h6=>?_)
  refine J_g 28 [] [(1,pp 0),(4,iv x5)] [(0,.box (Term.enc a1))] (zF 2 (vD [(.tmp 12)] [88] (wT.ok a1.Low) h6) zB) ?_
  refine J_d 58 [] [15] [(15,bv (x5 !=0))] [] [] zB ?_
  refine zG 15 (fun h7=>?_) (fun h7=>?_)
  ·refine J_g 236 [] [(2,iv x5)] [] zB ?_
   exact xJ rfl
  ·refine zA (fun x8 h9=>?_)
   refine xR (atI zOF 61) (fun v13:Bool=>St.mk' [(1,pp 0),(26,bv v13)] [(0,.box (Term.enc a1))]) (fun v13=>?_) (fun jv13=>?_)
   ·refine zG 26 (fun h14=>?_) (fun h14=>?_)
    ·refine J_g 244 [] [(2,iv 3)] [] zB ?_
     exact xJ rfl
    ·refine zA (fun x15 h16=>?_)
     refine J_g 124 [] [(32,bv (decide (x15≥0)))] [] (zF 4 (vD [(.tmp 28),(.tmp 30)] [88,88] (yG.ok a1.Low a1.High) h16) zB) ?_
     refine zG 32 (fun h17=>?_) (fun h17=>?_)
     ·refine J_g 500 [] [(2,iv 1)] [] zB ?_
      exact xJ rfl
     ·refine J_g 126 [] [(2,iv 0)] [] zB ?_
      exact xJ rfl
   ·refine vI (fun h10=>?_) (fun h10=>?_)
    ·refine zA (fun x11 h12=>?_)
     refine J_d 60 [] [4,15,26] [(26,bv (x11 !=0))] [] [] (zF 2 (vD [] [] (zAt.ok) h9) (zF 3 (zLb (b:=.neq) (r:=(a1.High.A==x8.A&&(a1.High.B==x8.B&&(a1.High.C==x8.C&&true)))) 88 88 (.tmp 18) (.tmp 19) [.int .i64 a1.High.A,.int .i64 a1.High.B,.int .i64 a1.High.C] [.int .i64 x8.A,.int .i64 x8.B,.int .i64 x8.C] (.inr ⟨rfl,rfl⟩)) (wO 4 [(20,bv (!(a1.High.A==x8.A&&(a1.High.B==x8.B&&(a1.High.C==x8.C&&true)))))] [] h10 (zAm 7 4 21 true (vD [(.tmp 23)] [88] (wT.ok a1.High) h12) zB)))) ?_
     exact yM (J_j (jv13 (x11 !=0))) rfl
    ·refine J_d 60 [] [4,15,26] [(26,bv false)] [] [] (zF 2 (vD [] [] (zAt.ok) h9) (zF 3 (zLb (b:=.neq) (r:=(a1.High.A==x8.A&&(a1.High.B==x8.B&&(a1.High.C==x8.C&&true)))) 88 88 (.tmp 18) (.tmp 19) [.int .i64 a1.High.A,.int .i64 a1.High.B,.int .i64 a1.High.C] [.int .i64 x8.A,.int .i64 x8.B,.int .i64 x8.C] (.inr ⟨rfl,rfl⟩)) (wO 4 [(20,bv (!(a1.High.A==x8.A&&(a1.High.B==x8.B&&(a1.High.C==x8.C&&true)))))] [] h10 zB))) ?_
     exact yM (J_j (jv13 false)) rfl
noncomputable def zNP:Code:=(Tryz.f149.body).getD .skip
theorem zCy.ok (a1:(List Term)) (q:Wd) (kn:Unit→Option (D×List Ent)) (hk:∀v:Unit,J (q.g Tryz.prog 149 0 19) zNP (atI zNP 7) (St.mk' [] []) (some v) kn):
  ∀s8:Int,J (q.g Tryz.prog 149 0 19) zNP (atI zNP 52) (St.mk' [(0,sl 7 Term.enc a1),(3,iv s8)] []) (zCy a1 s8) (Fl.go (fun r:Int=>some (iv r,[])) kn):=by
 refine zAq (fun g ih s8=>?_)
 unfold zBT
 refine J_d 208 [] [8] [(8,bv (decide (s8< (a1.length:Int))))] [] [] zB ?_
 refine zG 8 (fun h9=>?_) (fun h9=>?_)
 ·refine zA (fun x10 h11=>?_)
  refine zA (fun x12 h13=>?_)
  refine J_g 840 [] [(0,sl 7 Term.enc a1),(3,iv s8),(4,iv x12)] [] (zF 2 (uN (kk:=.i64) 80 104 7 Term.enc (.tmp 11) (.tmp 12) h11) (zF 4 (vD [(.tmp 14)] [104] (zAX.ok x10) h13) zB)) ?_
  refine J_d 1682 [] [17] [(17,bv (x12 !=0))] [] [] zB ?_
  refine zG 17 (fun h14=>?_) (fun h14=>?_)
  ·refine J_g 6732 [] [(2,iv x12)] [] zB ?_
   exact xJ rfl
  ·refine J_g 211 [] [(0,sl 7 Term.enc a1),(3,iv (w64 (s8+1)))] [] zB ?_
   exact J_q (J_b (ih (w64 (s8+1)))) rfl
 ·exact yM (hk ()) rfl
theorem kG.ok (a1:(List Term)):Ok Tryz.prog 149 [sl 7 Term.enc a1] [] ((kG a1).map fun r=>(iv r,[])):=by
 refine zJ zNP Tryz.f149 0 19 (fun q=>?_)
 unfold kG
 refine J_g 2 [] [(0,sl 7 Term.enc a1)] [] zB ?_
 refine J_d 12 [] [3] [(3,iv 0)] [] [] zB ?_
 refine jO (K0:=(fun r:Int=>some (iv r,[]))) (fun _=>rfl) (zCy.ok a1 q _ (fun v15=>J_j ?_) 0)
 refine J_g 14 [] [(2,iv 0)] [] zB ?_
 exact xJ rfl
noncomputable def zIO:Code:=(Tryz.f108.body).getD .skip
theorem kQ.ok (a1:Pack) (q:Wd) (kn:Unit→Option (D×List Ent)) (hk:∀v:Unit,J (q.g Tryz.prog 108 0 118) zIO (atI zIO 511) (St.mk' [(1,pp 0)] [(0,.box (Pack.enc false a1))]) (some v) kn):
  ∀s70:Int,J (q.g Tryz.prog 108 0 118) zIO (atI zIO 4084) (St.mk' [(1,pp 0),(8,iv s70)] [(0,.box (Pack.enc false a1))]) (kQ a1 s70) (Fl.go (fun r:Int=>some (iv r,[])) kn):=by
 refine zAq (fun g ih s70=>?_)
 unfold zAz
 refine J_d 16336 [] [96] [(96,bv (decide (s70< (a1.Needs.length:Int))))] [] [] zB ?_
 refine zG 96 (fun h71=>?_) (fun h71=>?_)
 ·refine zA (fun x72 h73=>?_)
  refine J_d 130704 [] [96,105] [(105,bv ((x72.length:Int)==0))] [] [] (zF 3 (uN (kk:=.i64) 89 80 1 (eSl false 7 Term.enc) (.tmp 100) (.tmp 101) h73) zB) ?_
  refine zG 105 (fun h74=>?_) (fun h74=>?_)
  ·refine J_g 522820 [] [(2,iv 1)] [] zB ?_
   exact xJ rfl
  ·refine zA (fun x75 h76=>?_)
   refine zA (fun x77 h78=>?_)
   refine J_g 130706 [] [(1,pp 0),(8,iv s70),(9,iv x77)] [(0,.box (Pack.enc false a1))] (zF 3 (uN (kk:=.i64) 89 80 1 (eSl false 7 Term.enc) (.tmp 107) (.tmp 108) h76) (zF 5 (vD [(.tmp 110)] [80] (kG.ok x75) h78) zB)) ?_
   refine J_d 261414 [] [113] [(113,bv (x77 !=0))] [] [] zB ?_
   refine zG 113 (fun h79=>?_) (fun h79=>?_)
   ·refine J_g 1045660 [] [(2,iv x77)] [] zB ?_
    exact xJ rfl
   ·refine J_d 16339 [] [8,9,113] [(8,iv (w64 (s70+1)))] [] [] zB ?_
    exact J_q (J_b (ih (w64 (s70+1)))) rfl
 ·exact yM (hk ()) rfl
theorem kT.ok (a1:Pack) (q:Wd) (kn:Unit→Option (D×List Ent)) (hk:∀v:Unit,J (q.g Tryz.prog 108 0 118) zIO (atI zIO 255) (St.mk' [(1,pp 0)] [(0,.box (Pack.enc false a1))]) (some v) kn):
  ∀s42:Int,J (q.g Tryz.prog 108 0 118) zIO (atI zIO 2036) (St.mk' [(1,pp 0),(6,iv s42)] [(0,.box (Pack.enc false a1))]) (kT a1 s42) (Fl.go (fun r:Int=>some (iv r,[])) kn):=by
 refine zAq (fun g ih s42=>?_)
 unfold zAC
 refine J_d 8144 [] [60] [(60,bv (decide (s42< (a1.Provides.length:Int))))] [] [] zB ?_
 refine zG 60 (fun h43=>?_) (fun h43=>?_)
 ·refine zA (fun x44 h45=>?_)
  refine zA (fun x46 h47=>?_)
  refine J_g 65168 [] [(1,pp 0),(6,iv s42),(7,iv x46)] [(0,.box (Pack.enc false a1))] (zF 3 (uN (kk:=.i64) 32 9 1 eStr (.tmp 64) (.tmp 65) h45) (zF 5 (vD [(.tmp 67)] [9] (vW.ok x44) h47) zB)) ?_
  refine J_d 130338 [] [70] [(70,bv (x46 !=0))] [] [] zB ?_
  refine zG 70 (fun h48=>?_) (fun h48=>?_)
  ·refine J_g 521356 [] [(2,iv x46)] [] zB ?_
   exact xJ rfl
  ·refine zA (fun x49 h50=>?_)
   refine xR (atI zIO 65171) (fun v58:Bool=>St.mk' [(1,pp 0),(6,iv s42),(91,bv v58)] [(0,.box (Pack.enc false a1))]) (fun v58=>?_) (fun jv58=>?_)
   ·refine zG 91 (fun h59=>?_) (fun h59=>?_)
    ·refine J_g 260684 [] [(2,iv 6)] [] zB ?_
     exact xJ rfl
    ·refine J_d 8147 [] [6,91] [(6,iv (w64 (s42+1)))] [] [] zB ?_
     exact J_q (J_b (ih (w64 (s42+1)))) rfl
   ·refine vI (fun h51=>?_) (fun h51=>?_)
    ·refine J_d 65170 [] [7,70,91] [(91,bv true)] [] [] (zF 3 (uN (kk:=.i64) 32 9 1 eStr (.tmp 73) (.tmp 74) h50) (wO 8 [(79,bv (seq x49 a1.Name))] [] h51 zB)) ?_
     exact yM (J_j (jv58 true)) rfl
    ·refine zA (fun x52 h53=>?_)
     refine zA (fun x54 h55=>?_)
     refine zA (fun x56 h57=>?_)
     refine J_d 65170 [] [7,70,91] [(91,bv x56)] [] [] (zF 3 (uN (kk:=.i64) 32 9 1 eStr (.tmp 73) (.tmp 74) h50) (wO 8 [(79,bv (seq x49 a1.Name))] [] h51 (zAm 12 8 80 false (zMy 32 9 1 eStr (.tmp 82) none (some (.tmp 83)) h53) (zAm 16 8 80 false (uN (kk:=.i64) 32 9 1 eStr (.tmp 86) (.tmp 87) h55) (zAm 18 8 80 false (vD [(.tmp 84),(.tmp 89)] [32,9] (wG.ok x52 x54) h57) zB))))) ?_
     exact yM (J_j (jv58 x56)) rfl
 ·exact yM (hk ()) rfl
theorem zBl.ok (a1:Pack) (q:Wd) (kn:Unit→Option (D×List Ent)) (hk:∀v:Unit,J (q.g Tryz.prog 108 0 118) zIO (atI zIO 127) (St.mk' [(1,pp 0)] [(0,.box (Pack.enc false a1))]) (some v) kn):
  ∀s19:Int,J (q.g Tryz.prog 108 0 118) zIO (atI zIO 1012) (St.mk' [(1,pp 0),(5,iv s19)] [(0,.box (Pack.enc false a1))]) (zBl a1 s19) (Fl.go (fun r:Int=>some (iv r,[])) kn):=by
 refine zAq (fun g ih s19=>?_)
 unfold zA9
 refine J_d 4048 [] [46] [(46,bv (decide (s19< (a1.Needs.length:Int))))] [] [] zB ?_
 refine zG 46 (fun h20=>?_) (fun h20=>?_)
 ·refine zA (fun x21 h22=>?_)
  refine J_d 16200 [] [46,55] [(55,bv (decide ((x21.length:Int)>4)))] [] [] (zF 3 (uN (kk:=.i64) 89 80 1 (eSl false 7 Term.enc) (.tmp 50) (.tmp 51) h22) zB) ?_
  refine zG 55 (fun h23=>?_) (fun h23=>?_)
  ·refine J_g 64804 [] [(2,iv 2)] [] zB ?_
   exact xJ rfl
  ·refine J_d 4051 [] [5,55] [(5,iv (w64 (s19+1)))] [] [] zB ?_
   exact J_q (J_b (ih (w64 (s19+1)))) rfl
 ·exact yM (hk ()) rfl
theorem zAT.ok (a1:Pack):Ok Tryz.prog 108 [.ag (Pack.enc false a1)] [] ((zAT a1).map fun r=>(iv r,[])):=by
 refine zJ zIO Tryz.f108 0 118 (fun q=>?_)
 unfold zAT
 refine J_g 2 [(0,0)] [(1,pp 0)] [(0,.box (Pack.enc false a1))] zB ?_
 refine zA (fun x2 h3=>?_)
 refine J_g 12 [] [(1,pp 0),(3,iv x2)] [(0,.box (Pack.enc false a1))] (zF 2 (vD [(.tmp 11)] [9] (vW.ok a1.Name) h3) zB) ?_
 refine J_d 26 [] [14] [(14,bv (x2 !=0))] [] [] zB ?_
 refine zG 14 (fun h4=>?_) (fun h4=>?_)
 ·refine J_g 108 [] [(2,iv x2)] [] zB ?_
  exact xJ rfl
 ·refine zA (fun x5 h6=>?_)
  refine J_g 28 [] [(1,pp 0),(4,iv x5)] [(0,.box (Pack.enc false a1))] (zF 2 (vD [(.tmp 17)] [88] (wT.ok a1.Version) h6) zB) ?_
  refine J_d 58 [] [20] [(20,bv (x5 !=0))] [] [] zB ?_
  refine zG 20 (fun h7=>?_) (fun h7=>?_)
  ·refine J_g 236 [] [(2,iv x5)] [] zB ?_
   exact xJ rfl
  ·refine zA (fun x8 h9=>?_)
   refine J_d 60 [] [4,20,25] [(25,bv (!x8))] [] [] (zF 2 (vD [(.tmp 23),(.const (.int .i64 1)),(.const (.int .i64 200))] [2,2,2] (uM.ok a1.Size 1 200) h9) zB) ?_
   refine zG 25 (fun h10=>?_) (fun h10=>?_)
   ·refine J_g 244 [] [(2,iv 3)] [] zB ?_
    exact xJ rfl
   ·refine xR (atI zIO 125) (fun v13:Bool=>St.mk' [(1,pp 0),(41,bv v13)] [(0,.box (Pack.enc false a1))]) (fun v13=>?_) (fun jv13=>?_)
    ·refine zG 41 (fun h14=>?_) (fun h14=>?_)
     ·refine J_g 500 [] [(2,iv 2)] [] zB ?_
      exact xJ rfl
     ·refine J_d 252 [] [5,41] [(5,iv 0)] [] [] zB ?_
      refine jO (K0:=(fun r:Int=>some (iv r,[]))) (fun _=>rfl) (zBl.ok a1 q _ (fun v24=>J_j ?_) 0)
      refine J_d 508 [] [6] [(6,iv 0)] [] [] zB ?_
      refine jO (K0:=(fun r:Int=>some (iv r,[]))) (fun _=>rfl) (kT.ok a1 q _ (fun v60=>J_j ?_) 0)
      refine J_d 1020 [] [8] [(8,iv 0)] [] [] zB ?_
      refine jO (K0:=(fun r:Int=>some (iv r,[]))) (fun _=>rfl) (kQ.ok a1 q _ (fun v80=>J_j ?_) 0)
      refine zA (fun x81 h82=>?_)
      refine J_g 1022 [] [(2,iv x81)] [] (zF 2 (vD [(.tmp 116)] [80] (kG.ok a1.Bars) h82) zB) ?_
      exact xJ rfl
    ·refine vI (fun h11=>?_) (fun h11=>?_)
     ·refine J_d 124 [] [25,41] [(41,bv true)] [] [] (wO 4 [(29,bv (decide ((a1.Provides.length:Int)>4)))] [] h11 zB) ?_
      exact yM (J_j (jv13 true)) rfl
     ·refine vI (fun h12=>?_) (fun h12=>?_)
      ·refine J_d 124 [] [25,41] [(41,bv true)] [] [] (wO 4 [(29,bv (decide ((a1.Provides.length:Int)>4)))] [] h11 (wO 10 [(35,bv (decide ((a1.Needs.length:Int)>4)))] [] h12 zB)) ?_
       exact yM (J_j (jv13 true)) rfl
      ·refine J_d 124 [] [25,41] [(41,bv (decide ((a1.Bars.length:Int)>4)))] [] [] (wO 4 [(29,bv (decide ((a1.Provides.length:Int)>4)))] [] h11 (wO 10 [(35,bv (decide ((a1.Needs.length:Int)>4)))] [] h12 zB)) ?_
       exact yM (J_j (jv13 (decide ((a1.Bars.length:Int)>4)))) rfl
noncomputable def c57:Code:=(Tryz.f57.body).getD .skip
theorem jX.ok (a1:(List Pack)) (q:Wd) (kn:Unit→Option (D×List Ent)) (hk:∀v:Unit,J (q.g Tryz.prog 57 0 37) c57 (atI c57 15) (St.mk' [] []) (some v) kn):
  ∀s18:Int,J (q.g Tryz.prog 57 0 37) c57 (atI c57 116) (St.mk' [(0,sl 8 (Pack.enc false) a1),(3,iv s18)] []) (jX a1 s18) (Fl.go (fun r:Int=>some (iv r,[])) kn):=by
 refine zAq (fun g ih s18=>?_)
 unfold jJ
 refine J_d 464 [] [11] [(11,bv (decide (s18< (a1.length:Int))))] [] [] zB ?_
 refine zG 11 (fun h19=>?_) (fun h19=>?_)
 ·refine zA (fun x20 h21=>?_)
  refine zA (fun x22 h23=>?_)
  refine J_g 3728 [] [(0,sl 8 (Pack.enc false) a1),(3,iv s18),(4,iv x22)] [] (zF 2 (uN (kk:=.i64) 24 91 8 (Pack.enc false) (.tmp 14) (.tmp 15) h21) (zF 4 (vD [(.tmp 17)] [91] (zAT.ok x20) h23) zB)) ?_
  refine J_d 7458 [] [20] [(20,bv (x22 !=0))] [] [] zB ?_
  refine zG 20 (fun h24=>?_) (fun h24=>?_)
  ·refine J_g 29836 [] [(2,iv x22)] [] zB ?_
   exact xJ rfl
  ·refine zA (fun x25 h26=>?_)
   refine zA (fun x27 h28=>?_)
   refine zA (fun x29 h30=>?_)
   refine zA (fun x31 h32=>?_)
   refine J_d 3730 [] [4,20,36] [(36,bv (decide (x31≥0)))] [] [] (zF 2 (zMy 24 91 8 (Pack.enc false) (.tmp 22) none (some (.tmp 23)) h26) (zF 5 (uN (kk:=.i64) 24 91 8 (Pack.enc false) (.tmp 25) (.tmp 26) h28) (zF 10 (uN (kk:=.i64) 24 91 8 (Pack.enc false) (.tmp 30) (.tmp 31) h30) (zF 13 (vD [(.tmp 24),(.tmp 29),(.tmp 34)] [24,9,88] (zAQ.ok x25 x27.Name x29.Version) h32) zB)))) ?_
   refine zG 36 (fun h33=>?_) (fun h33=>?_)
   ·refine J_g 14924 [] [(2,iv 6)] [] zB ?_
    exact xJ rfl
   ·refine J_d 467 [] [3,36] [(3,iv (w64 (s18+1)))] [] [] zB ?_
    exact J_q (J_b (ih (w64 (s18+1)))) rfl
 ·exact yM (hk ()) rfl
theorem wK.ok (a1:(List Pack)):Ok Tryz.prog 57 [sl 8 (Pack.enc false) a1] [] ((wK a1).map fun r=>(iv r,[])):=by
 refine zJ c57 Tryz.f57 0 37 (fun q=>?_)
 unfold wK
 refine J_g 2 [] [(0,sl 8 (Pack.enc false) a1)] [] zB ?_
 refine J_d 12 [] [7] [(7,bv (decide ((a1.length:Int)>24)))] [] [] zB ?_
 refine zG 7 (fun h2=>?_) (fun h2=>?_)
 ·refine J_g 52 [] [(2,iv 2)] [] zB ?_
  exact xJ rfl
 ·refine J_d 28 [] [3,7] [(3,iv 0)] [] [] zB ?_
  refine jO (K0:=(fun r:Int=>some (iv r,[]))) (fun _=>rfl) (jX.ok a1 q _ (fun v34=>J_j ?_) 0)
  refine J_g 30 [] [(2,iv 0)] [] zB ?_
  exact xJ rfl
noncomputable def c60:Code:=(Tryz.f60.body).getD .skip
theorem zDj.ok (a2:(List Pack)) (q:Wd) (kn:((List Int)×Int×(List Term))→Option (D×List Ent)) (hk:∀v:((List Int)×Int×(List Term)),J (q.g Tryz.prog 60 2 33) c60 (atI c60 15) (St.mk' [(5,rr 2 v.2.2)] [(0,.box [sl 1 eU8 v.1,iv v.2.1]),(1,rE 8 (Pack.enc false) a2),(2,rE 7 Term.enc v.2.2)]) (some v) kn):
  ∀s16:((List Int)×Int×(List Term)×Int),J (q.g Tryz.prog 60 2 33) c60 (atI c60 116) (St.mk' [(0,pp 0),(1,rr 1 a2),(5,rr 2 s16.2.2.1),(6,iv s16.2.2.2)] [(0,.box [sl 1 eU8 s16.1,iv s16.2.1]),(1,rE 8 (Pack.enc false) a2),(2,rE 7 Term.enc s16.2.2.1)]) (zDj a2 s16) kn:=by
 refine zAq (fun g ih s16=>?_)
 unfold jF
 refine xR (atI c60 465) (fun v18:Bool=>St.mk' [(0,pp 0),(1,rr 1 a2),(5,rr 2 s16.2.2.1),(6,iv s16.2.2.2),(17,bv v18)] [(0,.box [sl 1 eU8 s16.1,iv s16.2.1]),(1,rE 8 (Pack.enc false) a2),(2,rE 7 Term.enc s16.2.2.1)]) (fun v18=>?_) (fun jv18=>?_)
 ·refine zG 17 (fun h19=>?_) (fun h19=>?_)
  ·refine zA (fun x20 h21=>?_)
   refine zA (fun x22 h23=>?_)
   refine zA (fun x24 h25=>?_)
   refine zA (fun x26 h27=>?_)
   refine J_g 932 [] [(0,pp 0),(1,rr 1 a2),(5,rr 4 x26),(6,iv s16.2.2.2)] [(0,.box (zD.enc false x20.2)),(1,rE 8 (Pack.enc false) a2),(4,rE 7 Term.enc x26)] (zF 5 (wW («as»:=[pp 0,iv (a2.length:Int)]) [(.tmp 22),(.tmp 24)] [56,2] false [(0,.box [sl 1 eU8 s16.1,iv s16.2.1])] [0] (.cons (.pt rfl) (.cons (.same rfl) (.nil))) (zL.ok ({Code:=s16.1,At:=s16.2.1}:zD) (a2.length:Int)) h21 (.same rfl rfl)) (zF 6 (zCb (kk:=.i64) 24 91 8 1 (Pack.enc false) (.tmp 21) (.tmp 25) h23) (zF 8 (zCK (d:=sv x22.Name) 9 8 1 0 (Pack.enc false) (.tmp 27) h23 (by kernel_rfl)) (zF 9 (vD [(.tmp 28)] [9] (uJ.ok x22.Name) h25) (zF 10 (zAZ 80 104 7 3 Term.enc [x24] [0] [(.tmp 29)] [.ag (Term.enc x24)]) (zF 11 (zEK 80 80 104 104 7 64 4 2 3 Term.enc (.tmp 20) (.tmp 30) h27) zB)))))) ?_
   refine J_d 467 [] [6] [(6,iv (w64 (s16.2.2.2-1)))] [] [] zB ?_
   refine vO 4 2 (Nat.le_of_ble_eq_true rfl) (Nat.le_of_ble_eq_true rfl) ?_
   exact J_q (J_b (ih (x20.2.Code,x20.2.At,x26,w64 (s16.2.2.2-1)))) rfl
  ·exact yM (hk (s16.1,s16.2.1,s16.2.2.1)) rfl
 ·refine vI (fun h17=>?_) (fun h17=>?_)
  ·refine J_d 464 [] [17] [(17,bv (decide ((a2.length:Int)>0)))] [] [] (wO 2 [(12,bv (decide (s16.2.2.2>0)))] [] h17 zB) ?_
   exact yM (J_j (jv18 (decide ((a2.length:Int)>0)))) rfl
  ·refine J_d 464 [] [17] [(17,bv false)] [] [] (wO 2 [(12,bv (decide (s16.2.2.2>0)))] [] h17 zB) ?_
   exact yM (J_j (jv18 false)) rfl
theorem zAj.ok (a1:zD) (a2:(List Pack)):Ok Tryz.prog 60 [pp 0,rr 1 a2] [.box (zD.enc false a1),rE 8 (Pack.enc false) a2] ((zAj a1 a2).map fun r=>(so 7 Term.enc r.1,[.box (zD.enc false r.2),rE 8 (Pack.enc false) a2])):=by
 refine zJ c60 Tryz.f60 2 33 (fun q=>?_)
 unfold zAj
 refine J_g 2 [] [(0,pp 0),(1,rr 1 a2)] [(0,.box (zD.enc false a1)),(1,rE 8 (Pack.enc false) a2)] zB ?_
 refine J_d 6 [] [5] [(5,rr 2 ([]:List Term))] [2] [(2,rE 7 Term.enc ([]:List Term))] (zF 0 (zAZ 80 104 7 2 Term.enc ([]:List Term) [] [] []) zB) ?_
 refine zA (fun x3 h4=>?_)
 refine J_d 28 [] [6] [(6,iv (w64 (1+x3.1)))] [0] [(0,.box (zD.enc false x3.2))] (zF 1 (wW («as»:=[pp 0,iv 3]) [(.tmp 8),(.const (.int .i64 3))] [56,2] false [(0,.box (zD.enc false a1))] [0] (.cons (.pt rfl) (.cons (.same rfl) (.nil))) (zL.ok a1 3) h4 (.same rfl rfl)) zB) ?_
 refine zET (zDj.ok a2 q _ (fun v28=>J_j ?_) (x3.2.Code,x3.2.At,([]:List Term),w64 (1+x3.1)))
 refine J_g 30 [] [(4,rr 2 v28.2.2)] [(0,.box [sl 1 eU8 v28.1,iv v28.2.1]),(1,rE 8 (Pack.enc false) a2),(2,rE 7 Term.enc v28.2.2)] zB ?_
 exact zEf (ds:=[rr 2 v28.2.2]) (ds':=[so 7 Term.enc v28.2.2]) (.cons (.cell (.move (.tail _ (.tail _ (.head _))) (List.length_map _) (by decide) (.nil))) (.nil) (by decide)) rfl
noncomputable def zNQ:Code:=(Tryz.f110.body).getD .skip
theorem zBN.ok (a1:(List yU)) (q:Wd) (kn:(List Int)→Option (D×List Ent)) (hk:∀v:(List Int),J (q.g Tryz.prog 110 0 21) zNQ (atI zNQ 15) (St.mk' [(3,rr 0 v)] [(0,rE 1 zC v)]) (some v) kn):
  ∀s7:((List Int)×Int),J (q.g Tryz.prog 110 0 21) zNQ (atI zNQ 116) (St.mk' [(0,sl 2 (yU.enc false) a1),(3,rr 0 s7.1),(4,iv s7.2)] [(0,rE 1 zC s7.1)]) (zBN a1 s7) kn:=by
 refine zAq (fun g ih s7=>?_)
 unfold zBp
 refine J_d 464 [] [9] [(9,bv (decide (s7.2< (a1.length:Int))))] [] [] zB ?_
 refine zG 9 (fun h8=>?_) (fun h8=>?_)
 ·refine zA (fun x9 h10=>?_)
  refine zA (fun x11 h12=>?_)
  refine J_g 932 [] [(0,sl 2 (yU.enc false) a1),(3,rr 2 x11),(4,iv s7.2)] [(2,rE 1 zC x11)] (zF 3 (uN (kk:=.i64) 128 133 2 (yU.enc false) (.tmp 13) (.tmp 14) h10) (zF 6 (zAZ 25 2 1 1 zC [x9.Pack] [0] [(.tmp 17)] [iv x9.Pack]) (zF 7 (zEK 25 25 2 2 1 8 2 0 1 zC (.tmp 12) (.tmp 18) h12) zB))) ?_
  refine J_d 467 [] [4] [(4,iv (w64 (s7.2+1)))] [] [] zB ?_
  refine vO 2 0 (Nat.le_of_ble_eq_true rfl) (Nat.le_of_ble_eq_true rfl) ?_
  exact J_q (J_b (ih (x11,w64 (s7.2+1)))) rfl
 ·exact yM (hk s7.1) rfl
theorem zB1.ok (a1:(List yU)):Ok Tryz.prog 110 [sl 2 (yU.enc false) a1] [] ((zB1 a1).map fun r=>(so 1 zC r,[])):=by
 refine zJ zNQ Tryz.f110 0 21 (fun q=>?_)
 unfold zB1
 refine J_g 2 [] [(0,sl 2 (yU.enc false) a1)] [] zB ?_
 refine J_g 6 [] [(0,sl 2 (yU.enc false) a1),(3,rr 0 ([]:List Int))] [(0,rE 1 zC ([]:List Int))] (zF 0 (zAZ 25 2 1 0 zC ([]:List Int) [] [] []) zB) ?_
 refine J_d 28 [] [4] [(4,iv 0)] [] [] zB ?_
 refine zET (zBN.ok a1 q _ (fun v13=>J_j ?_) (([]:List Int),0))
 refine J_g 30 [] [(2,rr 0 v13)] [(0,rE 1 zC v13)] zB ?_
 exact zEf (ds:=[rr 0 v13]) (ds':=[so 1 zC v13]) (.cons (.cell (.move (.head _) (List.length_map _) (by decide) (.nil))) (.nil) (by decide)) rfl
noncomputable def c196:Code:=(Tryz.f196.body).getD .skip
theorem kC.ok (a1:Term) (a2:ByteArray) (a3:Version):Ok Tryz.prog 196 [.ag (Term.enc a1),sv a2,.ag (Version.enc a3)] [] ((kC a1 a2 a3).map fun r=>(bv r,[])):=by
 refine zJ c196 Tryz.f196 0 25 (fun q=>?_)
 unfold kC
 refine J_g 2 [(0,0),(1,1)] [(1,sv a2),(3,pp 0),(5,pp 1)] [(0,.box (Term.enc a1)),(1,.box (Version.enc a3))] zB ?_
 refine vI (fun h4=>?_) (fun h4=>?_)
 ·refine zA (fun x5 h6=>?_)
  refine vI (fun h7=>?_) (fun h7=>?_)
  ·refine zA (fun x8 h9=>?_)
   refine J_g 6 [] [(6,bv (decide (x8<0)))] [] (wO 4 [(10,bv (seq a1.Name a2))] [] h4 (zAm 8 4 11 true (vD [(.tmp 12),(.tmp 14)] [88,88] (yG.ok a3 a1.Low) h6) (wO 11 [(17,bv (decide (x5≥0)))] [] h7 (zAm 15 11 18 true (vD [(.tmp 19),(.tmp 21)] [88,88] (yG.ok a3 a1.High) h9) zB)))) ?_
   exact xJ rfl
  ·refine J_g 6 [] [(6,bv false)] [] (wO 4 [(10,bv (seq a1.Name a2))] [] h4 (zAm 8 4 11 true (vD [(.tmp 12),(.tmp 14)] [88,88] (yG.ok a3 a1.Low) h6) (wO 11 [(17,bv (decide (x5≥0)))] [] h7 zB))) ?_
   exact xJ rfl
 ·refine J_g 6 [] [(6,bv false)] [] (wO 4 [(10,bv (seq a1.Name a2))] [] h4 zB) ?_
  exact xJ rfl
noncomputable def zPc:Code:=(Tryz.f151.body).getD .skip
theorem jD.ok (a1:Pack) (a2:Term):Ok Tryz.prog 151 [.ag (Pack.enc false a1),.ag (Term.enc a2)] [] ((jD a1 a2).map fun r=>(bv r,[])):=by
 refine zJ zPc Tryz.f151 0 25 (fun q=>?_)
 unfold jD
 refine J_g 2 [(0,0),(1,1)] [(2,pp 0),(3,pp 1)] [(0,.box (Pack.enc false a1)),(1,.box (Term.enc a2))] zB ?_
 refine vI (fun h3=>?_) (fun h3=>?_)
 ·refine zA (fun x4 h5=>?_)
  refine J_g 6 [] [(4,bv x4)] [] (wO 5 [(9,bv (seq a2.Name a1.Name))] [] h3 (zAm 18 12 17 true (vD [(.tmp 18),(.tmp 20),(.tmp 22)] [104,9,88] (kC.ok a2 a2.Name a1.Version) h5) zB)) ?_
  exact xJ rfl
 ·refine zA (fun x6 h7=>?_)
  refine vI (fun h8=>?_) (fun h8=>?_)
  ·refine zA (fun x9 h10=>?_)
   refine J_g 6 [] [(4,bv x9)] [] (wO 5 [(9,bv (seq a2.Name a1.Name))] [] h3 (zAm 10 5 10 false (vD [(.tmp 12),(.tmp 14)] [32,9] (wG.ok a1.Provides a2.Name) h7) (wO 12 [(16,bv x6)] [] h8 (zAm 18 12 17 true (vD [(.tmp 18),(.tmp 20),(.tmp 22)] [104,9,88] (kC.ok a2 a2.Name a1.Version) h10) zB)))) ?_
   exact xJ rfl
  ·refine J_g 6 [] [(4,bv false)] [] (wO 5 [(9,bv (seq a2.Name a1.Name))] [] h3 (zAm 10 5 10 false (vD [(.tmp 12),(.tmp 14)] [32,9] (wG.ok a1.Provides a2.Name) h7) (wO 12 [(16,bv x6)] [] h8 zB))) ?_
   exact xJ rfl
noncomputable def zNw:Code:=(Tryz.f126.body).getD .skip
theorem zCG.ok (a1:(List Pack)) (a2:(List Int)) (a3:Term) (a4:Int) (q:Wd) (kn:Unit→Option (D×List Ent)) (hk:∀v:Unit,J (q.g Tryz.prog 126 0 33) zNw (atI zNw 7) (St.mk' [] []) (some v) kn):
  ∀s17:Int,J (q.g Tryz.prog 126 0 33) zNw (atI zNw 52) (St.mk' [(0,sl 8 (Pack.enc false) a1),(1,sl 1 zC a2),(3,iv a4),(6,pp 0),(9,iv s17)] [(0,.box (Term.enc a3))]) (zCG a1 a2 a3 a4 s17) (Fl.go (fun r:Bool=>some (bv r,[])) kn):=by
 refine zAq (fun g ih s17=>?_)
 unfold zBG
 refine J_d 208 [] [13] [(13,bv (decide (s17< (a2.length:Int))))] [] [] zB ?_
 refine zG 13 (fun h18=>?_) (fun h18=>?_)
 ·refine zA (fun x19 h20=>?_)
  refine xR (atI zNw 841) (fun v28:Bool=>St.mk' [(0,sl 8 (Pack.enc false) a1),(1,sl 1 zC a2),(3,iv a4),(6,pp 0),(9,iv s17),(32,bv v28)] [(0,.box (Term.enc a3))]) (fun v28=>?_) (fun jv28=>?_)
  ·refine zG 32 (fun h29=>?_) (fun h29=>?_)
   ·refine J_g 3364 [] [(8,bv true)] [] zB ?_
    exact xJ rfl
   ·refine J_d 211 [] [9,32] [(9,iv (w64 (s17+1)))] [] [] zB ?_
    exact J_q (J_b (ih (w64 (s17+1)))) rfl
  ·refine vI (fun h21=>?_) (fun h21=>?_)
   ·refine zA (fun x22 h23=>?_)
    refine zA (fun x24 h25=>?_)
    refine zA (fun x26 h27=>?_)
    refine J_d 840 [] [13,32] [(32,bv x26)] [] [] (zF 2 (uN (kk:=.i64) 25 2 1 zC (.tmp 16) (.tmp 17) h20) (wO 6 [(21,bv (x19 !=a4))] [] h21 (zAm 10 6 22 true (uN (kk:=.i64) 25 2 1 zC (.tmp 24) (.tmp 25) h23) (zAm 12 6 22 true (uN (kk:=.i64) 24 91 8 (Pack.enc false) (.tmp 23) (.tmp 27) h25) (zAm 15 6 22 true (vD [(.tmp 29),(.tmp 30)] [91,104] (jD.ok x24 a3) h27) zB))))) ?_
    exact yM (J_j (jv28 x26)) rfl
   ·refine J_d 840 [] [13,32] [(32,bv false)] [] [] (zF 2 (uN (kk:=.i64) 25 2 1 zC (.tmp 16) (.tmp 17) h20) (wO 6 [(21,bv (x19 !=a4))] [] h21 zB)) ?_
    exact yM (J_j (jv28 false)) rfl
 ·exact yM (hk ()) rfl
theorem zA5.ok (a1:(List Pack)) (a2:(List Int)) (a3:Term) (a4:Int):Ok Tryz.prog 126 [sl 8 (Pack.enc false) a1,sl 1 zC a2,.ag (Term.enc a3),iv a4] [] ((zA5 a1 a2 a3 a4).map fun r=>(bv r,[])):=by
 refine zJ zNw Tryz.f126 0 33 (fun q=>?_)
 unfold zA5
 refine J_g 2 [(0,0)] [(0,sl 8 (Pack.enc false) a1),(1,sl 1 zC a2),(3,iv a4),(6,pp 0)] [(0,.box (Term.enc a3))] zB ?_
 refine J_d 12 [] [9] [(9,iv 0)] [] [] zB ?_
 refine jO (K0:=(fun r:Bool=>some (bv r,[]))) (fun _=>rfl) (zCG.ok a1 a2 a3 a4 q _ (fun v30=>J_j ?_) 0)
 refine J_g 14 [] [(8,bv false)] [] zB ?_
 exact xJ rfl
noncomputable def zNS:Code:=(Tryz.f125.body).getD .skip
theorem zDI.ok (a1:(List Pack)) (a2:(List Int)) (a3:(List Term)) (q:Wd) (kn:Unit→Option (D×List Ent)) (hk:∀v:Unit,J (q.g Tryz.prog 125 0 21) zNS (atI zNS 7) (St.mk' [] []) (some v) kn):
  ∀s10:Int,J (q.g Tryz.prog 125 0 21) zNS (atI zNS 52) (St.mk' [(0,sl 8 (Pack.enc false) a1),(1,sl 1 zC a2),(2,sl 7 Term.enc a3),(7,iv s10)] []) (zDI a1 a2 a3 s10) (Fl.go (fun r:Bool=>some (bv r,[])) kn):=by
 refine zAq (fun g ih s10=>?_)
 unfold zCV
 refine J_d 208 [] [11] [(11,bv (decide (s10< (a3.length:Int))))] [] [] zB ?_
 refine zG 11 (fun h11=>?_) (fun h11=>?_)
 ·refine zA (fun x12 h13=>?_)
  refine zA (fun x14 h15=>?_)
  refine J_d 840 [] [11,20] [(20,bv x14)] [] [] (zF 4 (uN (kk:=.i64) 80 104 7 Term.enc (.tmp 16) (.tmp 17) h13) (zF 6 (vD [(.tmp 14),(.tmp 15),(.tmp 19),(.const (.int .i64 (-1)))] [24,25,104,2] (zA5.ok a1 a2 x12 (-1)) h15) zB)) ?_
  refine zG 20 (fun h16=>?_) (fun h16=>?_)
  ·refine J_g 3364 [] [(6,bv true)] [] zB ?_
   exact xJ rfl
  ·refine J_d 211 [] [7,20] [(7,iv (w64 (s10+1)))] [] [] zB ?_
   exact J_q (J_b (ih (w64 (s10+1)))) rfl
 ·exact yM (hk ()) rfl
theorem zBf.ok (a1:(List Pack)) (a2:(List Int)) (a3:(List Term)):Ok Tryz.prog 125 [sl 8 (Pack.enc false) a1,sl 1 zC a2,sl 7 Term.enc a3] [] ((zBf a1 a2 a3).map fun r=>(bv r,[])):=by
 refine zJ zNS Tryz.f125 0 21 (fun q=>?_)
 unfold zBf
 refine J_g 2 [] [(0,sl 8 (Pack.enc false) a1),(1,sl 1 zC a2),(2,sl 7 Term.enc a3)] [] zB ?_
 refine J_d 12 [] [7] [(7,iv 0)] [] [] zB ?_
 refine jO (K0:=(fun r:Bool=>some (bv r,[]))) (fun _=>rfl) (zDI.ok a1 a2 a3 q _ (fun v17=>J_j ?_) 0)
 refine J_g 14 [] [(6,bv false)] [] zB ?_
 exact xJ rfl
noncomputable def zKc:Code:=(Tryz.f111.body).getD .skip
theorem zBD.ok (a1:(List Pack)) (a3:(List Int)) (s45:Int) (x49:Pack) (q:Wd) (kn:Unit→Option (D×List Ent)) (hk:∀v:Unit,J (q.g Tryz.prog 111 1 65) zKc (aft zKc 932) (St.mk' [(0,sl 8 (Pack.enc false) a1),(2,rr 0 a3),(8,iv s45)] [(0,rE 1 zC a3)]) (some v) kn):
  ∀s59:Int,J (q.g Tryz.prog 111 1 65) zKc (atI zKc 14924) (St.mk' [(0,sl 8 (Pack.enc false) a1),(2,rr 0 a3),(8,iv s45),(9,pp 1),(10,iv s59)] [(0,rE 1 zC a3),(1,.box (Pack.enc false x49))]) (zBD a1 a3 s45 x49 s59) (Fl.go (fun r:(List Term)=>some (sl 7 Term.enc r,[rE 1 zC a3])) kn):=by
 refine zAq (fun g ih s59=>?_)
 unfold zBm
 refine J_d 59696 [] [48] [(48,bv (decide (s59< (x49.Needs.length:Int))))] [] [] zB ?_
 refine zG 48 (fun h60=>?_) (fun h60=>?_)
 ·refine zA (fun x61 h62=>?_)
  refine zA (fun x63 h64=>?_)
  refine J_d 238792 [] [48,59] [(59,bv (!x63))] [] [] (zF 5 (uN (kk:=.i64) 89 80 1 (eSl false 7 Term.enc) (.tmp 54) (.tmp 55) h62) (zF 7 (wW («as»:=[sl 8 (Pack.enc false) a1,rr 0 a3,sl 7 Term.enc x61]) [(.tmp 51),(.tmp 52),(.tmp 57)] [24,25,80] true [(0,rE 1 zC a3)] [] (.cons (.same rfl) (.cons (zD1 (.head _) (fun _=>rfl) rfl) (.cons (.same rfl) (.nil)))) (zBf.ok a1 a3 x61) h64 (.same rfl rfl) (hbor:=fun _=>⟨fhN,yP⟩)) zB)) ?_
  refine zG 59 (fun h65=>?_) (fun h65=>?_)
  ·refine zA (fun x66 h67=>?_)
   refine J_g 955172 [] [(6,sl 7 Term.enc x66)] [(0,rE 1 zC a3)] (zF 3 (uN (kk:=.i64) 89 80 1 (eSl false 7 Term.enc) (.tmp 61) (.tmp 62) h67) zB) ?_
   exact xJ rfl
  ·refine J_d 59699 [] [10,59] [(10,iv (w64 (s59+1)))] [] [] zB ?_
   exact J_q (J_b (ih (w64 (s59+1)))) rfl
 ·exact yM (hk ()) rfl
theorem zBW.ok (a1:(List Pack)) (a3:(List Int)) (q:Wd) (kn:Unit→Option (D×List Ent)) (hk:∀v:Unit,J (q.g Tryz.prog 111 1 65) zKc (atI zKc 15) (St.mk' [] [(0,rE 1 zC a3)]) (some v) kn):
  ∀s45:Int,J (q.g Tryz.prog 111 1 65) zKc (atI zKc 116) (St.mk' [(0,sl 8 (Pack.enc false) a1),(2,rr 0 a3),(8,iv s45)] [(0,rE 1 zC a3)]) (zBW a1 a3 s45) (Fl.go (fun r:(List Term)=>some (sl 7 Term.enc r,[rE 1 zC a3])) kn):=by
 refine zAq (fun g ih s45=>?_)
 unfold zBh
 refine J_d 464 [] [34] [(34,bv (decide (s45< (a3.length:Int))))] [] [] zB ?_
 refine zG 34 (fun h46=>?_) (fun h46=>?_)
 ·refine zA (fun x47 h48=>?_)
  refine zA (fun x49 h50=>?_)
  refine J_g 1864 [(7,1)] [(0,sl 8 (Pack.enc false) a1),(2,rr 0 a3),(8,iv s45),(9,pp 1)] [(0,rE 1 zC a3),(1,.box (Pack.enc false x49))] (zF 3 (zCb (kk:=.i64) 25 2 1 0 zC (.tmp 38) (.tmp 39) h48) (zF 4 (zCK (d:=iv x47) 2 1 0 0 zC (.tmp 40) h48 (by kernel_rfl)) (zF 5 (uN (kk:=.i64) 24 91 8 (Pack.enc false) (.tmp 37) (.tmp 41) h50) zB))) ?_
  refine J_d 3730 [] [10] [(10,iv 0)] [] [] zB ?_
  refine jO (K0:=(fun r:(List Term)=>some (sl 7 Term.enc r,[rE 1 zC a3]))) (fun _=>rfl) (zBD.ok a1 a3 s45 x49 q _ (fun v68=>J_j ?_) 0)
  refine J_d 467 [] [8] [(8,iv (w64 (s45+1)))] [] [] zB ?_
  exact J_q (J_b (ih (w64 (s45+1)))) rfl
 ·exact yM (hk ()) rfl
theorem zBV.ok (a1:(List Pack)) (a2:(List Term)) (a3:(List Int)) (q:Wd) (kn:Unit→Option (D×List Ent)) (hk:∀v:Unit,J (q.g Tryz.prog 111 1 65) zKc (atI zKc 7) (St.mk' [(0,sl 8 (Pack.enc false) a1),(2,rr 0 a3)] [(0,rE 1 zC a3)]) (some v) kn):
  ∀s12:Int,J (q.g Tryz.prog 111 1 65) zKc (atI zKc 52) (St.mk' [(0,sl 8 (Pack.enc false) a1),(1,sl 7 Term.enc a2),(2,rr 0 a3),(7,iv s12)] [(0,rE 1 zC a3)]) (zBV a1 a2 a3 s12) (Fl.go (fun r:(List Term)=>some (sl 7 Term.enc r,[rE 1 zC a3])) kn):=by
 refine zAq (fun g ih s12=>?_)
 unfold zBo
 refine J_d 208 [] [14] [(14,bv (decide (s12< (a2.length:Int))))] [] [] zB ?_
 refine zG 14 (fun h13=>?_) (fun h13=>?_)
 ·refine zA (fun x14 h15=>?_)
  refine zA (fun x16 h17=>?_)
  refine J_d 840 [] [14,25] [(25,bv (!x16))] [] [] (zF 6 (zMy 80 104 7 Term.enc (.tmp 19) (some (.tmp 20)) (some (.tmp 22)) h15) (zF 7 (wW («as»:=[sl 8 (Pack.enc false) a1,rr 0 a3,sl 7 Term.enc x14]) [(.tmp 17),(.tmp 18),(.tmp 23)] [24,25,80] true [(0,rE 1 zC a3)] [] (.cons (.same rfl) (.cons (zD1 (.head _) (fun _=>rfl) rfl) (.cons (.same rfl) (.nil)))) (zBf.ok a1 a3 x14) h17 (.same rfl rfl) (hbor:=fun _=>⟨fhN,yP⟩)) zB)) ?_
  refine zG 25 (fun h18=>?_) (fun h18=>?_)
  ·refine zA (fun x19 h20=>?_)
   refine J_g 3364 [] [(6,sl 7 Term.enc x19)] [(0,rE 1 zC a3)] (zF 4 (zMy 80 104 7 Term.enc (.tmp 26) (some (.tmp 27)) (some (.tmp 29)) h20) zB) ?_
   exact xJ rfl
  ·refine J_d 211 [] [7,25] [(7,iv (w64 (s12+1)))] [] [] zB ?_
   exact J_q (J_b (ih (w64 (s12+1)))) rfl
 ·exact yM (hk ()) rfl
theorem zB3.ok (a1:(List Pack)) (a2:(List Term)) (a3:(List Int)):Ok Tryz.prog 111 [sl 8 (Pack.enc false) a1,sl 7 Term.enc a2,rr 0 a3] [rE 1 zC a3] ((zB3 a1 a2 a3).map fun r=>(sl 7 Term.enc r,[rE 1 zC a3])):=by
 refine zJ zKc Tryz.f111 1 65 (fun q=>?_)
 unfold zB3
 refine J_g 2 [] [(0,sl 8 (Pack.enc false) a1),(1,sl 7 Term.enc a2),(2,rr 0 a3)] [(0,rE 1 zC a3)] zB ?_
 refine J_d 12 [] [7] [(7,iv 0)] [] [] zB ?_
 refine jO (K0:=(fun r:(List Term)=>some (sl 7 Term.enc r,[rE 1 zC a3]))) (fun _=>rfl) (zBV.ok a1 a2 a3 q _ (fun v21=>J_j ?_) 0)
 refine J_d 28 [] [8] [(8,iv 0)] [] [] zB ?_
 refine jO (K0:=(fun r:(List Term)=>some (sl 7 Term.enc r,[rE 1 zC a3]))) (fun _=>rfl) (zBW.ok a1 a3 q _ (fun v69=>J_j ?_) 0)
 refine J_g 30 [] [(6,nv)] [(0,rE 1 zC a3)] zB ?_
 exact zEf (ds:=[nv]) (ds':=[sl 7 Term.enc ([]:List Term)]) (.cons (.cell (.nilsl false 7 (.nil))) (.nil) (by decide)) rfl
noncomputable def zM3:Code:=(Tryz.f150.body).getD .skip
theorem zDF.ok (a1:(List Int)) (a2:Int) (q:Wd) (kn:((List Int)×Bool)→Option (D×List Ent)) (hk:∀v:((List Int)×Bool),J (q.g Tryz.prog 150 0 43) zM3 (atI zM3 31) (St.mk' [(1,iv a2),(5,rr 0 v.1),(6,bv v.2)] [(0,rE 1 zC v.1)]) (some v) kn):
  ∀s16:((List Int)×Bool×Int),J (q.g Tryz.prog 150 0 43) zM3 (atI zM3 244) (St.mk' [(0,sl 1 zC a1),(1,iv a2),(5,rr 0 s16.1),(6,bv s16.2.1),(7,iv s16.2.2)] [(0,rE 1 zC s16.1)]) (zDF a1 a2 s16) kn:=by
 refine zAq (fun g ih s16=>?_)
 unfold zCY
 refine J_d 976 [] [12] [(12,bv (decide (s16.2.2< (a1.length:Int))))] [] [] zB ?_
 refine zG 12 (fun h17=>?_) (fun h17=>?_)
 ·refine zA (fun x18 h19=>?_)
  refine xR (atI zM3 7825) (fun v21:Bool=>St.mk' [(0,sl 1 zC a1),(1,iv a2),(5,rr 0 s16.1),(6,bv s16.2.1),(7,iv s16.2.2),(24,bv v21)] [(0,rE 1 zC s16.1)]) (fun v21=>?_) (fun jv21=>?_)
  ·refine xR (atI zM3 3913) (fun v25:((List Int)×Bool)=>St.mk' [(0,sl 1 zC a1),(1,iv a2),(5,rr 2 v25.1),(6,bv v25.2),(7,iv s16.2.2)] [(2,rE 1 zC v25.1)]) (fun v25=>?_) (fun jv25=>?_)
   ·refine zA (fun x26 h27=>?_)
    refine zA (fun x28 h29=>?_)
    refine J_g 3913 [] [(0,sl 1 zC a1),(1,iv a2),(5,rr 4 x28),(6,bv v25.2),(7,iv s16.2.2)] [(4,rE 1 zC x28)] (zF 3 (uN (kk:=.i64) 25 2 1 zC (.tmp 30) (.tmp 31) h27) (zF 5 (zAZ 25 2 1 3 zC [x26] [0] [(.tmp 33)] [iv x26]) (zF 6 (zEK 25 25 2 2 1 8 4 2 3 zC (.tmp 29) (.tmp 34) h29) zB))) ?_
    refine J_d 979 [] [7] [(7,iv (w64 (s16.2.2+1)))] [] [] zB ?_
    refine vO 4 0 (Nat.le_of_ble_eq_true rfl) (Nat.le_of_ble_eq_true rfl) ?_
    exact J_q (J_b (ih (x28,v25.2,w64 (s16.2.2+1)))) rfl
   ·refine zG 24 (fun h22=>?_) (fun h22=>?_)
    ·refine zA (fun x23 h24=>?_)
     refine J_g 31300 [] [(0,sl 1 zC a1),(1,iv a2),(5,rr 2 x23),(7,iv s16.2.2)] [(2,rE 1 zC x23)] (zF 2 (zAZ 25 2 1 1 zC [a2] [0] [(.tmp 26)] [iv a2]) (zF 3 (zEK 25 25 2 2 1 8 2 0 1 zC (.tmp 25) (.tmp 27) h24) zB)) ?_
     refine J_d 31301 [] [6] [(6,bv true)] [] [] zB ?_
     exact yM (J_j (jv25 (x23,true))) rfl
    ·refine vO 0 2 (Nat.le_of_ble_eq_true rfl) (Nat.le_of_ble_eq_true rfl) ?_
     exact yM (J_j (jv25 (s16.1,s16.2.1))) rfl
  ·refine vI (fun h20=>?_) (fun h20=>?_)
   ·refine J_d 7824 [] [12,24] [(24,bv (!s16.2.1))] [] [] (zF 2 (uN (kk:=.i64) 25 2 1 zC (.tmp 15) (.tmp 16) h19) (wO 6 [(20,bv (decide (x18>a2)))] [] h20 zB)) ?_
    exact yM (J_j (jv21 (!s16.2.1))) rfl
   ·refine J_d 7824 [] [12,24] [(24,bv false)] [] [] (zF 2 (uN (kk:=.i64) 25 2 1 zC (.tmp 15) (.tmp 16) h19) (wO 6 [(20,bv (decide (x18>a2)))] [] h20 zB)) ?_
    exact yM (J_j (jv21 false)) rfl
 ·exact yM (hk (s16.1,s16.2.1)) rfl
theorem zDQ.ok (a1:(List Int)) (a2:Int):Ok Tryz.prog 150 [sl 1 zC a1,iv a2] [] ((zDQ a1 a2).map fun r=>(so 1 zC r,[])):=by
 refine zJ zM3 Tryz.f150 0 43 (fun q=>?_)
 unfold zDQ
 refine J_g 2 [] [(0,sl 1 zC a1),(1,iv a2)] [] zB ?_
 refine J_g 6 [] [(0,sl 1 zC a1),(1,iv a2),(5,rr 0 ([]:List Int))] [(0,rE 1 zC ([]:List Int))] (zF 0 (zAZ 25 2 1 0 zC ([]:List Int) [] [] []) zB) ?_
 refine J_g 14 [] [(0,sl 1 zC a1),(1,iv a2),(5,rr 0 ([]:List Int)),(6,bv false)] [(0,rE 1 zC ([]:List Int))] zB ?_
 refine J_d 60 [] [7] [(7,iv 0)] [] [] zB ?_
 refine zET (zDF.ok a1 a2 q _ (fun v30=>J_j ?_) (([]:List Int),false,0))
 refine J_d 124 [] [6,37] [(37,bv (!v30.2))] [] [] zB ?_
 refine xR (atI zM3 63) (fun v34:(List Int)=>St.mk' [(5,rr 2 v34)] [(2,rE 1 zC v34)]) (fun v34=>?_) (fun jv34=>?_)
 ·refine J_g 126 [] [(4,rr 2 v34)] [(2,rE 1 zC v34)] zB ?_
  exact zEf (ds:=[rr 2 v34]) (ds':=[so 1 zC v34]) (.cons (.cell (.move (.head _) (List.length_map _) (by decide) (.nil))) (.nil) (by decide)) rfl
 ·refine zG 37 (fun h31=>?_) (fun h31=>?_)
  ·refine zA (fun x32 h33=>?_)
   refine J_g 250 [] [(5,rr 2 x32)] [(2,rE 1 zC x32)] (zF 2 (zAZ 25 2 1 1 zC [a2] [0] [(.tmp 39)] [iv a2]) (zF 3 (zEK 25 25 2 2 1 8 2 0 1 zC (.tmp 38) (.tmp 40) h33) zB)) ?_
   exact yM (J_j (jv34 x32)) rfl
  ·refine vO 0 2 (Nat.le_of_ble_eq_true rfl) (Nat.le_of_ble_eq_true rfl) ?_
   exact yM (J_j (jv34 v30.1)) rfl
noncomputable def zNF:Code:=(Tryz.f112.body).getD .skip
theorem zBL.ok (a1:(List Int)) (q:Wd) (kn:(List Int)→Option (D×List Ent)) (hk:∀v:(List Int),J (q.g Tryz.prog 112 0 19) zNF (atI zNF 15) (St.mk' [(3,rr 0 v)] [(0,rE 1 zC v)]) (some v) kn):
  ∀s7:((List Int)×Int),J (q.g Tryz.prog 112 0 19) zNF (atI zNF 116) (St.mk' [(0,sl 1 zC a1),(3,rr 0 s7.1),(4,iv s7.2)] [(0,rE 1 zC s7.1)]) (zBL a1 s7) kn:=by
 refine zAq (fun g ih s7=>?_)
 unfold zBi
 refine J_d 464 [] [9] [(9,bv (decide (s7.2< (a1.length:Int))))] [] [] zB ?_
 refine zG 9 (fun h8=>?_) (fun h8=>?_)
 ·refine zA (fun x9 h10=>?_)
  refine zA (fun x11 h12=>?_)
  refine J_g 932 [] [(0,sl 1 zC a1),(3,rr 1 x11),(4,iv s7.2)] [(1,rE 1 zC x11)] (zF 3 (uN (kk:=.i64) 25 2 1 zC (.tmp 13) (.tmp 14) h10) (zF 5 (wW («as»:=[rr 0 s7.1,iv x9]) [(.tmp 12),(.tmp 16)] [25,2] true [(0,rE 1 zC s7.1)] [] (.cons (zD1 (.head _) (fun _=>rfl) rfl) (.cons (.same rfl) (.nil))) (zDQ.ok s7.1 x9) h12 (.own 1) (hbor:=fun _=>⟨fhN,(zDE (zEA (fun _=>(flatK yP zEp)) _))⟩)) zB)) ?_
  refine J_d 467 [] [4] [(4,iv (w64 (s7.2+1)))] [] [] zB ?_
  refine vO 1 0 (Nat.le_of_ble_eq_true rfl) (Nat.le_of_ble_eq_true rfl) ?_
  exact J_q (J_b (ih (x11,w64 (s7.2+1)))) rfl
 ·exact yM (hk s7.1) rfl
theorem zB7.ok (a1:(List Int)):Ok Tryz.prog 112 [sl 1 zC a1] [] ((zB7 a1).map fun r=>(so 1 zC r,[])):=by
 refine zJ zNF Tryz.f112 0 19 (fun q=>?_)
 unfold zB7
 refine J_g 2 [] [(0,sl 1 zC a1)] [] zB ?_
 refine J_g 6 [] [(0,sl 1 zC a1),(3,rr 0 ([]:List Int))] [(0,rE 1 zC ([]:List Int))] (zF 0 (zAZ 25 2 1 0 zC ([]:List Int) [] [] []) zB) ?_
 refine J_d 28 [] [4] [(4,iv 0)] [] [] zB ?_
 refine zET (zBL.ok a1 q _ (fun v13=>J_j ?_) (([]:List Int),0))
 refine J_g 30 [] [(2,rr 0 v13)] [(0,rE 1 zC v13)] zB ?_
 exact zEf (ds:=[rr 0 v13]) (ds':=[so 1 zC v13]) (.cons (.cell (.move (.head _) (List.length_map _) (by decide) (.nil))) (.nil) (by decide)) rfl
noncomputable def c98:Code:=(Tryz.f98.body).getD .skip
theorem zD6.ok (a1:(List Int)) (a2:Int) (q:Wd) (kn:Unit→Option (D×List Ent)) (hk:∀v:Unit,J (q.g Tryz.prog 98 0 18) c98 (atI c98 7) (St.mk' [] []) (some v) kn):
  ∀s7:Int,J (q.g Tryz.prog 98 0 18) c98 (atI c98 52) (St.mk' [(0,sl 1 zC a1),(1,iv a2),(5,iv s7)] []) (zD6 a1 a2 s7) (Fl.go (fun r:Bool=>some (bv r,[])) kn):=by
 refine zAq (fun g ih s7=>?_)
 unfold zDn
 refine J_d 208 [] [9] [(9,bv (decide (s7< (a1.length:Int))))] [] [] zB ?_
 refine zG 9 (fun h8=>?_) (fun h8=>?_)
 ·refine zA (fun x9 h10=>?_)
  refine J_d 840 [] [9,17] [(17,bv (x9==a2))] [] [] (zF 2 (uN (kk:=.i64) 25 2 1 zC (.tmp 12) (.tmp 13) h10) zB) ?_
  refine zG 17 (fun h11=>?_) (fun h11=>?_)
  ·refine J_g 3364 [] [(4,bv true)] [] zB ?_
   exact xJ rfl
  ·refine J_d 211 [] [5,17] [(5,iv (w64 (s7+1)))] [] [] zB ?_
   exact J_q (J_b (ih (w64 (s7+1)))) rfl
 ·exact yM (hk ()) rfl
theorem wF.ok (a1:(List Int)) (a2:Int):Ok Tryz.prog 98 [sl 1 zC a1,iv a2] [] ((wF a1 a2).map fun r=>(bv r,[])):=by
 refine zJ c98 Tryz.f98 0 18 (fun q=>?_)
 unfold wF
 refine J_g 2 [] [(0,sl 1 zC a1),(1,iv a2)] [] zB ?_
 refine J_d 12 [] [5] [(5,iv 0)] [] [] zB ?_
 refine jO (K0:=(fun r:Bool=>some (bv r,[]))) (fun _=>rfl) (zD6.ok a1 a2 q _ (fun v12=>J_j ?_) 0)
 refine J_g 14 [] [(4,bv false)] [] zB ?_
 exact xJ rfl
noncomputable def zOg:Code:=(Tryz.f197.body).getD .skip
theorem zBw.ok (a1:(List Pack)) (a2:(List Term)) (a3:Int) (q:Wd) (kn:Unit→Option (D×List Ent)) (hk:∀v:Unit,J (q.g Tryz.prog 197 0 23) zOg (atI zOg 7) (St.mk' [] []) (some v) kn):
  ∀s12:Int,J (q.g Tryz.prog 197 0 23) zOg (atI zOg 52) (St.mk' [(0,sl 8 (Pack.enc false) a1),(1,sl 7 Term.enc a2),(2,iv a3),(7,iv s12)] []) (zBw a1 a2 a3 s12) (Fl.go (fun r:Bool=>some (bv r,[])) kn):=by
 refine zAq (fun g ih s12=>?_)
 unfold zAM
 refine J_d 208 [] [11] [(11,bv (decide (s12< (a2.length:Int))))] [] [] zB ?_
 refine zG 11 (fun h13=>?_) (fun h13=>?_)
 ·refine zA (fun x14 h15=>?_)
  refine zA (fun x16 h17=>?_)
  refine zA (fun x18 h19=>?_)
  refine J_d 840 [] [11,22] [(22,bv x18)] [] [] (zF 2 (uN (kk:=.i64) 24 91 8 (Pack.enc false) (.tmp 14) (.tmp 15) h15) (zF 6 (uN (kk:=.i64) 80 104 7 Term.enc (.tmp 18) (.tmp 19) h17) (zF 8 (vD [(.tmp 17),(.tmp 21)] [91,104] (jD.ok x14 x16) h19) zB))) ?_
  refine zG 22 (fun h20=>?_) (fun h20=>?_)
  ·refine J_g 3364 [] [(6,bv true)] [] zB ?_
   exact xJ rfl
  ·refine J_d 211 [] [7,22] [(7,iv (w64 (s12+1)))] [] [] zB ?_
   exact J_q (J_b (ih (w64 (s12+1)))) rfl
 ·exact yM (hk ()) rfl
theorem uQ.ok (a1:(List Pack)) (a2:(List Term)) (a3:Int):Ok Tryz.prog 197 [sl 8 (Pack.enc false) a1,sl 7 Term.enc a2,iv a3] [] ((uQ a1 a2 a3).map fun r=>(bv r,[])):=by
 refine zJ zOg Tryz.f197 0 23 (fun q=>?_)
 unfold uQ
 refine J_g 2 [] [(0,sl 8 (Pack.enc false) a1),(1,sl 7 Term.enc a2),(2,iv a3)] [] zB ?_
 refine J_d 12 [] [7] [(7,iv 0)] [] [] zB ?_
 refine jO (K0:=(fun r:Bool=>some (bv r,[]))) (fun _=>rfl) (zBw.ok a1 a2 a3 q _ (fun v21=>J_j ?_) 0)
 refine J_g 14 [] [(6,bv false)] [] zB ?_
 exact xJ rfl
noncomputable def c152:Code:=(Tryz.f152.body).getD .skip
theorem zDe.ok (a1:(List Pack)) (a2:(List Int)) (a3:Int) (q:Wd) (kn:Unit→Option (D×List Ent)) (hk:∀v:Unit,J (q.g Tryz.prog 152 0 54) c152 (atI c152 7) (St.mk' [] []) (some v) kn):
  ∀s27:Int,J (q.g Tryz.prog 152 0 54) c152 (atI c152 52) (St.mk' [(0,sl 8 (Pack.enc false) a1),(1,sl 1 zC a2),(2,iv a3),(7,iv s27)] []) (zDe a1 a2 a3 s27) (Fl.go (fun r:Bool=>some (bv r,[])) kn):=by
 refine zAq (fun g ih s27=>?_)
 unfold zCJ
 refine J_d 208 [] [11] [(11,bv (decide (s27< (a2.length:Int))))] [] [] zB ?_
 refine zG 11 (fun h28=>?_) (fun h28=>?_)
 ·refine zA (fun x29 h30=>?_)
  refine zA (fun x31 h32=>?_)
  refine zA (fun x33 h34=>?_)
  refine xR (atI c152 841) (fun v49:Bool=>St.mk' [(0,sl 8 (Pack.enc false) a1),(1,sl 1 zC a2),(2,iv a3),(7,iv s27),(53,bv v49)] []) (fun v49=>?_) (fun jv49=>?_)
  ·refine zG 53 (fun h50=>?_) (fun h50=>?_)
   ·refine J_g 3364 [] [(6,bv false)] [] zB ?_
    exact xJ rfl
   ·refine J_d 211 [] [7,53] [(7,iv (w64 (s27+1)))] [] [] zB ?_
    exact J_q (J_b (ih (w64 (s27+1)))) rfl
  ·refine vI (fun h35=>?_) (fun h35=>?_)
   ·refine J_d 840 [] [11,53] [(53,bv true)] [] [] (zF 3 (uN (kk:=.i64) 25 2 1 zC (.tmp 15) (.tmp 16) h30) (zF 5 (uN (kk:=.i64) 24 91 8 (Pack.enc false) (.tmp 14) (.tmp 18) h32) (zF 10 (uN (kk:=.i64) 24 91 8 (Pack.enc false) (.tmp 22) (.tmp 23) h34) (wO 14 [(27,bv (seq x31.Name x33.Name))] [] h35 zB)))) ?_
    exact yM (J_j (jv49 true)) rfl
   ·refine zA (fun x36 h37=>?_)
    refine zA (fun x38 h39=>?_)
    refine zA (fun x40 h41=>?_)
    refine vI (fun h42=>?_) (fun h42=>?_)
    ·refine J_d 840 [] [11,53] [(53,bv true)] [] [] (zF 3 (uN (kk:=.i64) 25 2 1 zC (.tmp 15) (.tmp 16) h30) (zF 5 (uN (kk:=.i64) 24 91 8 (Pack.enc false) (.tmp 14) (.tmp 18) h32) (zF 10 (uN (kk:=.i64) 24 91 8 (Pack.enc false) (.tmp 22) (.tmp 23) h34) (wO 14 [(27,bv (seq x31.Name x33.Name))] [] h35 (zAm 19 14 28 false (uN (kk:=.i64) 25 2 1 zC (.tmp 31) (.tmp 32) h37) (zAm 21 14 28 false (uN (kk:=.i64) 24 91 8 (Pack.enc false) (.tmp 30) (.tmp 34) h39) (zAm 25 14 28 false (vD [(.tmp 29),(.tmp 37),(.tmp 38)] [24,80,2] (uQ.ok a1 x38.Bars a3) h41) (wO 27 [(40,bv x40)] [] h42 zB)))))))) ?_
     exact yM (J_j (jv49 true)) rfl
    ·refine zA (fun x43 h44=>?_)
     refine zA (fun x45 h46=>?_)
     refine zA (fun x47 h48=>?_)
     refine J_d 840 [] [11,53] [(53,bv x47)] [] [] (zF 3 (uN (kk:=.i64) 25 2 1 zC (.tmp 15) (.tmp 16) h30) (zF 5 (uN (kk:=.i64) 24 91 8 (Pack.enc false) (.tmp 14) (.tmp 18) h32) (zF 10 (uN (kk:=.i64) 24 91 8 (Pack.enc false) (.tmp 22) (.tmp 23) h34) (wO 14 [(27,bv (seq x31.Name x33.Name))] [] h35 (zAm 19 14 28 false (uN (kk:=.i64) 25 2 1 zC (.tmp 31) (.tmp 32) h37) (zAm 21 14 28 false (uN (kk:=.i64) 24 91 8 (Pack.enc false) (.tmp 30) (.tmp 34) h39) (zAm 25 14 28 false (vD [(.tmp 29),(.tmp 37),(.tmp 38)] [24,80,2] (uQ.ok a1 x38.Bars a3) h41) (wO 27 [(40,bv x40)] [] h42 (zAm 31 27 41 false (uN (kk:=.i64) 24 91 8 (Pack.enc false) (.tmp 43) (.tmp 44) h44) (zAm 36 27 41 false (uN (kk:=.i64) 25 2 1 zC (.tmp 48) (.tmp 49) h46) (zAm 38 27 41 false (vD [(.tmp 42),(.tmp 47),(.tmp 51)] [24,80,2] (uQ.ok a1 x43.Bars x45) h48) zB))))))))))) ?_
     exact yM (J_j (jv49 x47)) rfl
 ·exact yM (hk ()) rfl
theorem zDx.ok (a1:(List Pack)) (a2:(List Int)) (a3:Int):Ok Tryz.prog 152 [sl 8 (Pack.enc false) a1,sl 1 zC a2,iv a3] [] ((zDx a1 a2 a3).map fun r=>(bv r,[])):=by
 refine zJ c152 Tryz.f152 0 54 (fun q=>?_)
 unfold zDx
 refine J_g 2 [] [(0,sl 8 (Pack.enc false) a1),(1,sl 1 zC a2),(2,iv a3)] [] zB ?_
 refine J_d 12 [] [7] [(7,iv 0)] [] [] zB ?_
 refine jO (K0:=(fun r:Bool=>some (bv r,[]))) (fun _=>rfl) (zDe.ok a1 a2 a3 q _ (fun v51=>J_j ?_) 0)
 refine J_g 14 [] [(6,bv true)] [] zB ?_
 exact xJ rfl
noncomputable def zPj:Code:=(Tryz.f153.body).getD .skip
theorem zCF.ok (a1:(List Pack)) (a2:(List Int)) (a3:Int) (a4:Int):Ok Tryz.prog 153 [sl 8 (Pack.enc false) a1,sl 1 zC a2,iv a3,iv a4] [] ((zCF a1 a2 a3 a4).map fun r=>(bv r,[])):=by
 refine zJ zPj Tryz.f153 0 38 (fun q=>?_)
 unfold zCF
 refine J_d 2 [] [] [] [] [] zB ?_
 refine zA (fun x5 h6=>?_)
 refine zA (fun x7 h8=>?_)
 refine J_d 12 [] [16] [(16,bv (!(x5==x7)))] [] [] (zF 2 (vD [(.tmp 10),(.tmp 11)] [25,2] (wF.ok a2 a3) h6) (zF 5 (vD [(.tmp 13),(.tmp 14)] [25,2] (wF.ok a2 a4) h8) zB)) ?_
 refine zG 16 (fun h9=>?_) (fun h9=>?_)
 ·refine zA (fun x10 h11=>?_)
  refine J_g 52 [] [(8,bv x10)] [] (zF 2 (vD [(.tmp 17),(.tmp 18)] [25,2] (wF.ok a2 a3) h11) zB) ?_
  exact xJ rfl
 ·refine zA (fun x12 h13=>?_)
  refine zA (fun x14 h15=>?_)
  refine zA (fun x16 h17=>?_)
  refine J_g 28 [] [(2,iv a3),(3,iv a4),(9,iv x16)] [] (zF 2 (uN (kk:=.i64) 24 91 8 (Pack.enc false) (.tmp 20) (.tmp 21) h13) (zF 7 (uN (kk:=.i64) 24 91 8 (Pack.enc false) (.tmp 25) (.tmp 26) h15) (zF 10 (vD [(.tmp 24),(.tmp 29)] [88,88] (yG.ok x12.Version x14.Version) h17) zB))) ?_
  refine J_d 58 [] [32] [(32,bv (x16 !=0))] [] [] zB ?_
  refine zG 32 (fun h18=>?_) (fun h18=>?_)
  ·refine J_g 236 [] [(8,bv (decide (x16>0)))] [] zB ?_
   exact xJ rfl
  ·refine J_g 30 [] [(8,bv (decide (a3<a4)))] [] zB ?_
   exact xJ rfl
noncomputable def zII:Code:=(Tryz.f113.body).getD .skip
theorem vT.ok (a1:(List Pack)) (a2:(List Term)) (a3:(List Int)) (a4:(List Int)) (a5:(List Int)) (s62:((List Int)×Int)) (q:Wd) (kn:Int→Option (D×List Ent)) (hk:∀v:Int,J (q.g Tryz.prog 113 0 90) zII (atI zII 29855) (St.mk' [(0,sl 8 (Pack.enc false) a1),(1,sl 7 Term.enc a2),(2,sl 1 zC a3),(3,sl 1 zC a4),(4,sl 1 zC a5),(11,rr 0 s62.1),(12,iv s62.2),(15,iv v)] [(0,rE 1 zC s62.1)]) (some v) kn):
  ∀s100:Int,J (q.g Tryz.prog 113 0 90) zII (atI zII 119416) (St.mk' [(0,sl 8 (Pack.enc false) a1),(1,sl 7 Term.enc a2),(2,sl 1 zC a3),(3,sl 1 zC a4),(4,sl 1 zC a5),(11,rr 0 s62.1),(12,iv s62.2),(15,iv s100)] [(0,rE 1 zC s62.1)]) (vT a1 a2 a3 a4 a5 s62 s100) kn:=by
 refine zAq (fun g ih s100=>?_)
 unfold zAy
 refine xR (atI zII 477665) (fun v106:Bool=>St.mk' [(0,sl 8 (Pack.enc false) a1),(1,sl 7 Term.enc a2),(2,sl 1 zC a3),(3,sl 1 zC a4),(4,sl 1 zC a5),(11,rr 0 s62.1),(12,iv s62.2),(15,iv s100),(74,bv v106)] [(0,rE 1 zC s62.1)]) (fun v106=>?_) (fun jv106=>?_)
 ·refine zG 74 (fun h107=>?_) (fun h107=>?_)
  ·refine J_d 477666 [] [15,74] [(15,iv (w64 (s100-1)))] [] [] zB ?_
   exact J_q (J_b (ih (w64 (s100-1)))) rfl
  ·exact yM (hk s100) rfl
 ·refine vI (fun h101=>?_) (fun h101=>?_)
  ·refine zA (fun x102 h103=>?_)
   refine zA (fun x104 h105=>?_)
   refine J_d 477664 [] [74] [(74,bv x104)] [] [] (wO 2 [(63,bv (decide (s100>0)))] [] h101 (zAm 9 2 64 true (zCb (kk:=.i64) 25 2 1 0 zC (.tmp 68) (.tmp 70) h103) (zAm 10 2 64 true (zCK (d:=iv x102) 2 1 0 0 zC (.tmp 71) h103 (by kernel_rfl)) (zAm 11 2 64 true (vD [(.tmp 65),(.tmp 66),(.tmp 67),(.tmp 72)] [24,25,2,2] (zCF.ok a1 a5 s62.2 x102) h105) zB)))) ?_
   exact yM (J_j (jv106 x104)) rfl
  ·refine J_d 477664 [] [74] [(74,bv false)] [] [] (wO 2 [(63,bv (decide (s100>0)))] [] h101 zB) ?_
   exact yM (J_j (jv106 false)) rfl
theorem jZ.ok (a1:(List Pack)) (a2:(List Term)) (a3:(List Int)) (a4:(List Int)) (a5:(List Int)) (s62:((List Int)×Int)) (q:Wd) (kn:Bool→Option (D×List Ent)) (hk:∀v:Bool,J (q.g Tryz.prog 113 0 90) zII (atI zII 3731) (St.mk' [(0,sl 8 (Pack.enc false) a1),(1,sl 7 Term.enc a2),(2,sl 1 zC a3),(3,sl 1 zC a4),(4,sl 1 zC a5),(11,rr 0 s62.1),(12,iv s62.2),(13,bv v)] [(0,rE 1 zC s62.1)]) (some v) kn):
  ∀s71:(Bool×Int),J (q.g Tryz.prog 113 0 90) zII (atI zII 29844) (St.mk' [(0,sl 8 (Pack.enc false) a1),(1,sl 7 Term.enc a2),(2,sl 1 zC a3),(3,sl 1 zC a4),(4,sl 1 zC a5),(11,rr 0 s62.1),(12,iv s62.2),(13,bv s71.1),(14,iv s71.2)] [(0,rE 1 zC s62.1)]) (jZ a1 a2 a3 a4 a5 s62 s71) kn:=by
 refine zAq (fun g ih s71=>?_)
 unfold jL
 refine J_d 119376 [] [26] [(26,bv (decide (s71.2< (a2.length:Int))))] [] [] zB ?_
 refine zG 26 (fun h72=>?_) (fun h72=>?_)
 ·refine xR (aft zII 238756) (fun v80:Bool=>St.mk' [(0,sl 8 (Pack.enc false) a1),(1,sl 7 Term.enc a2),(2,sl 1 zC a3),(3,sl 1 zC a4),(4,sl 1 zC a5),(11,rr 0 s62.1),(12,iv s62.2),(13,bv v80),(14,iv s71.2)] [(0,rE 1 zC s62.1)]) (fun v80=>?_) (fun jv80=>?_)
  ·refine J_d 119379 [] [14] [(14,iv (w64 (s71.2+1)))] [] [] zB ?_
   exact J_q (J_b (ih (v80,w64 (s71.2+1)))) rfl
  ·refine vI (fun h73=>?_) (fun h73=>?_)
   ·refine J_d 238756 [] [13,26] [(13,bv true)] [] [] (wO 1 [(29,bv s71.1)] [] h73 zB) ?_
    exact yM (J_j (jv80 true)) rfl
   ·refine zA (fun x74 h75=>?_)
    refine zA (fun x76 h77=>?_)
    refine zA (fun x78 h79=>?_)
    refine J_d 238756 [] [13,26] [(13,bv x78)] [] [] (wO 1 [(29,bv s71.1)] [] h73 (zAm 4 1 30 false (uN (kk:=.i64) 24 91 8 (Pack.enc false) (.tmp 31) (.tmp 32) h75) (zAm 8 1 30 false (uN (kk:=.i64) 80 104 7 Term.enc (.tmp 35) (.tmp 36) h77) (zAm 10 1 30 false (vD [(.tmp 34),(.tmp 38)] [91,104] (jD.ok x74 x76) h79) zB)))) ?_
    exact yM (J_j (jv80 x78)) rfl
 ·exact yM (hk s71.1) rfl
theorem jV.ok (a1:(List Pack)) (a2:(List Term)) (a3:(List Int)) (a4:(List Int)) (a5:(List Int)) (q:Wd) (kn:(List Int)→Option (D×List Ent)) (hk:∀v:(List Int),J (q.g Tryz.prog 113 0 90) zII (atI zII 15) (St.mk' [(11,rr 0 v)] [(0,rE 1 zC v)]) (some v) kn):
  ∀s62:((List Int)×Int),J (q.g Tryz.prog 113 0 90) zII (atI zII 116) (St.mk' [(0,sl 8 (Pack.enc false) a1),(1,sl 7 Term.enc a2),(2,sl 1 zC a3),(3,sl 1 zC a4),(4,sl 1 zC a5),(11,rr 0 s62.1),(12,iv s62.2)] [(0,rE 1 zC s62.1)]) (jV a1 a2 a3 a4 a5 s62) kn:=by
 refine zAq (fun g ih s62=>?_)
 unfold jI
 refine J_d 464 [] [20] [(20,bv (decide (s62.2< (a1.length:Int))))] [] [] zB ?_
 refine zG 20 (fun h63=>?_) (fun h63=>?_)
 ·refine J_g 1864 [] [(0,sl 8 (Pack.enc false) a1),(1,sl 7 Term.enc a2),(2,sl 1 zC a3),(3,sl 1 zC a4),(4,sl 1 zC a5),(11,rr 0 s62.1),(12,iv s62.2),(13,bv false)] [(0,rE 1 zC s62.1)] zB ?_
  refine J_d 7460 [] [14] [(14,iv 0)] [] [] zB ?_
  refine zET (jZ.ok a1 a2 a3 a4 a5 s62 q _ (fun v81=>J_j ?_) (false,0))
  refine xR (atI zII 14925) (fun v91:Bool=>St.mk' [(0,sl 8 (Pack.enc false) a1),(1,sl 7 Term.enc a2),(2,sl 1 zC a3),(3,sl 1 zC a4),(4,sl 1 zC a5),(11,rr 0 s62.1),(12,iv s62.2),(59,bv v91)] [(0,rE 1 zC s62.1)]) (fun v91=>?_) (fun jv91=>?_)
  ·refine zG 59 (fun h92=>?_) (fun h92=>?_)
   ·refine J_d 467 [] [12,59] [(12,iv (w64 (s62.2+1)))] [] [] zB ?_
    exact J_q (J_b (ih (s62.1,w64 (s62.2+1)))) rfl
   ·refine J_d 14926 [] [15,59] [(15,iv (s62.1.length:Int))] [] [] zB ?_
    refine zET (vT.ok a1 a2 a3 a4 a5 s62 q _ (fun v108=>J_j ?_) (s62.1.length:Int))
    refine zA (fun x109 h110=>?_)
    refine zA (fun x111 h112=>?_)
    refine zA (fun x113 h114=>?_)
    refine zA (fun x115 h116=>?_)
    refine zA (fun x117 h118=>?_)
    refine J_g 29855 [] [(0,sl 8 (Pack.enc false) a1),(1,sl 7 Term.enc a2),(2,sl 1 zC a3),(3,sl 1 zC a4),(4,sl 1 zC a5),(11,rr 5 x117),(12,iv s62.2)] [(5,rE 1 zC x117)] (zF 0 (zAZ 25 2 1 1 zC ([]:List Int) [] [] []) (zF 3 (zLQ 25 2 1 0 zC (.tmp 78) none (some (.tmp 79)) h110) (zF 4 (zNX (ys:=s62.1) (l:=0) (hi:=v108) 25 25 2 2 1 8 2 1 0 zC (.tmp 77) (.tmp 80) h110 h112) (zF 6 (zAZ 25 2 1 3 zC [s62.2] [0] [(.tmp 82)] [iv s62.2]) (zF 7 (zEK 25 25 2 2 1 8 4 2 3 zC (.tmp 81) (.tmp 83) h114) (zF 10 (zLQ 25 2 1 0 zC (.tmp 85) (some (.tmp 86)) none h116) (zF 11 (zNX (ys:=s62.1) (l:=v108) (hi:=(s62.1.length:Int)) 25 25 2 2 1 8 5 4 0 zC (.tmp 84) (.tmp 87) h116 h118) zB))))))) ?_
    refine J_d 467 [] [12] [(12,iv (w64 (s62.2+1)))] [] [] zB ?_
    refine vO 5 0 (Nat.le_of_ble_eq_true rfl) (Nat.le_of_ble_eq_true rfl) ?_
    exact J_q (J_b (ih (x117,w64 (s62.2+1)))) rfl
  ·refine vI (fun h82=>?_) (fun h82=>?_)
   ·refine J_d 14924 [] [13,59] [(59,bv true)] [] [] (wO 2 [(42,bv (!v81))] [] h82 zB) ?_
    exact yM (J_j (jv91 true)) rfl
   ·refine zA (fun x83 h84=>?_)
    refine vI (fun h85=>?_) (fun h85=>?_)
    ·refine J_d 14924 [] [13,59] [(59,bv true)] [] [] (wO 2 [(42,bv (!v81))] [] h82 (zAm 5 2 43 false (vD [(.tmp 44),(.tmp 45)] [25,2] (wF.ok a3 s62.2) h84) (wO 7 [(47,bv x83)] [] h85 zB))) ?_
     exact yM (J_j (jv91 true)) rfl
    ·refine zA (fun x86 h87=>?_)
     refine vI (fun h88=>?_) (fun h88=>?_)
     ·refine J_d 14924 [] [13,59] [(59,bv true)] [] [] (wO 2 [(42,bv (!v81))] [] h82 (zAm 5 2 43 false (vD [(.tmp 44),(.tmp 45)] [25,2] (wF.ok a3 s62.2) h84) (wO 7 [(47,bv x83)] [] h85 (zAm 10 7 48 false (vD [(.tmp 49),(.tmp 50)] [25,2] (wF.ok a4 s62.2) h87) (wO 12 [(52,bv x86)] [] h88 zB))))) ?_
      exact yM (J_j (jv91 true)) rfl
     ·refine zA (fun x89 h90=>?_)
      refine J_d 14924 [] [13,59] [(59,bv (!x89))] [] [] (wO 2 [(42,bv (!v81))] [] h82 (zAm 5 2 43 false (vD [(.tmp 44),(.tmp 45)] [25,2] (wF.ok a3 s62.2) h84) (wO 7 [(47,bv x83)] [] h85 (zAm 10 7 48 false (vD [(.tmp 49),(.tmp 50)] [25,2] (wF.ok a4 s62.2) h87) (wO 12 [(52,bv x86)] [] h88 (zAm 16 12 53 false (vD [(.tmp 54),(.tmp 55),(.tmp 56)] [24,25,2] (zDx.ok a1 a3 s62.2) h90) zB)))))) ?_
      exact yM (J_j (jv91 (!x89))) rfl
 ·exact yM (hk s62.1) rfl
theorem tO.ok (a1:(List Pack)) (a2:(List Term)) (a3:(List Int)) (a4:(List Int)) (a5:(List Int)):Ok Tryz.prog 113 [sl 8 (Pack.enc false) a1,sl 7 Term.enc a2,sl 1 zC a3,sl 1 zC a4,sl 1 zC a5] [] ((tO a1 a2 a3 a4 a5).map fun r=>(so 1 zC r,[])):=by
 refine zJ zII Tryz.f113 0 90 (fun q=>?_)
 unfold tO
 refine J_g 2 [] [(0,sl 8 (Pack.enc false) a1),(1,sl 7 Term.enc a2),(2,sl 1 zC a3),(3,sl 1 zC a4),(4,sl 1 zC a5)] [] zB ?_
 refine J_g 6 [] [(0,sl 8 (Pack.enc false) a1),(1,sl 7 Term.enc a2),(2,sl 1 zC a3),(3,sl 1 zC a4),(4,sl 1 zC a5),(11,rr 0 ([]:List Int))] [(0,rE 1 zC ([]:List Int))] (zF 0 (zAZ 25 2 1 0 zC ([]:List Int) [] [] []) zB) ?_
 refine J_d 28 [] [12] [(12,iv 0)] [] [] zB ?_
 refine zET (jV.ok a1 a2 a3 a4 a5 q _ (fun v119=>J_j ?_) (([]:List Int),0))
 refine J_g 30 [] [(10,rr 0 v119)] [(0,rE 1 zC v119)] zB ?_
 exact zEf (ds:=[rr 0 v119]) (ds':=[so 1 zC v119]) (.cons (.cell (.move (.head _) (List.length_map _) (by decide) (.nil))) (.nil) (by decide)) rfl
noncomputable def c59:Code:=(Tryz.f59.body).getD .skip
theorem zCj.ok (a1:(List Pack)) (a2:(List Term)) (a3:(List Int)) (a4:Int) (q:Wd) (kn:Unit→Option (D×List Ent)):
  ∀s53:((List yU)×(List Int)×Int),J (q.g Tryz.prog 59 0 79) c59 (atI c59 124) (St.mk' [(0,sl 8 (Pack.enc false) a1),(1,sl 7 Term.enc a2),(2,sl 1 zC a3),(3,iv a4),(8,pp 0),(9,rr 1 s53.1),(10,sl 1 zC s53.2.1),(11,iv s53.2.2)] [(0,.box [iv 0,iv 0,nv]),(1,rE 2 (yU.enc false) s53.1)]) (zCj a1 a2 a3 a4 s53) (Fl.go (fun r:SolveResult=>some (.ag [iv r.Code,iv r.Choices,so 1 zC r.Set],[])) kn):=by
 refine zAq (fun g ih s53=>?_)
 unfold zBR
 refine zA (fun x54 h55=>?_)
 refine J_d 496 [] [12] [(12,rr 2 x54)] [2] [(2,rE 1 zC x54)] (zF 1 (wW («as»:=[rr 1 s53.1]) [(.tmp 18)] [128] true [(1,rE 2 (yU.enc false) s53.1)] [] (.cons (zD1 (.head _) (yU.ro false) rfl) (.nil)) (zB1.ok s53.1) h55 (.own 2) (hbor:=fun _=>⟨fhN,(zDE (zEA (fun _=>(flatK yP zEp)) _))⟩)) zB) ?_
 refine zA (fun x56 h57=>?_)
 refine J_g 994 [] [(0,sl 8 (Pack.enc false) a1),(1,sl 7 Term.enc a2),(2,sl 1 zC a3),(3,iv a4),(8,pp 0),(9,rr 1 s53.1),(10,sl 1 zC s53.2.1),(11,iv s53.2.2),(12,rr 2 x54),(13,sl 7 Term.enc x56)] [(0,.box [iv 0,iv 0,nv]),(1,rE 2 (yU.enc false) s53.1),(2,rE 1 zC x54)] (zF 3 (zFF [(2,rE 1 zC x54)] [] (wW («as»:=[sl 8 (Pack.enc false) a1,sl 7 Term.enc a2,rr 2 x54]) [(.tmp 20),(.tmp 21),(.tmp 22)] [24,80,25] false [(2,rE 1 zC x54)] [2] (.cons (.same rfl) (.cons (.same rfl) (.cons (.rf rfl) (.nil)))) (zB3.ok a1 a2 x54) h57 (.same rfl rfl))) zB) ?_
 refine J_d 3980 [] [26] [(26,bv ((x56.length:Int)==0))] [] [] zB ?_
 refine zG 26 (fun h58=>?_) (fun h58=>?_)
 ·refine zA (fun x59 h60=>?_)
  refine J_g 15924 [] [(8,pp 0)] [(0,.box [iv 0,iv s53.2.2,rr 3 x59]),(3,rE 1 zC x59)] (zF 2 (wW («as»:=[rr 2 x54]) [(.tmp 28)] [25] true [(2,rE 1 zC x54)] [] (.cons (zD1 (.head _) (fun _=>rfl) rfl) (.nil)) (zB7.ok x54) h60 (.own 3) (hbor:=fun _=>⟨fhN,(zDE (zEA (fun _=>(flatK yP zEp)) _))⟩)) zB) ?_
  exact zEf (ds:=[.ag [iv 0,iv s53.2.2,rr 3 x59]]) (ds':=[.ag [iv 0,iv s53.2.2,so 1 zC x59]]) (.cons (.ag (.keep rfl (.keep rfl (.move (.tail _ (.head _)) (List.length_map _) (by decide) (.nil))))) (.nil) (by decide)) rfl
 ·refine zA (fun x61 h62=>?_)
  refine J_g 3982 [] [(0,sl 8 (Pack.enc false) a1),(1,sl 7 Term.enc a2),(2,sl 1 zC a3),(3,iv a4),(8,pp 0),(9,rr 1 s53.1),(10,sl 1 zC s53.2.1),(11,iv s53.2.2),(14,rr 3 x61)] [(0,.box [iv 0,iv 0,nv]),(1,rE 2 (yU.enc false) s53.1),(3,rE 1 zC x61)] (zF 5 (wW («as»:=[sl 8 (Pack.enc false) a1,sl 7 Term.enc x56,rr 2 x54,sl 1 zC s53.2.1,sl 1 zC a3]) [(.tmp 31),(.tmp 32),(.tmp 33),(.tmp 34),(.tmp 35)] [24,80,25,25,25] true [(2,rE 1 zC x54)] [] (.cons (.same rfl) (.cons (.same rfl) (.cons (zD1 (.head _) (fun _=>rfl) rfl) (.cons (.same rfl) (.cons (.same rfl) (.nil)))))) (tO.ok a1 x56 x54 s53.2.1 a3) h62 (.own 3) (hbor:=fun _=>⟨fhN,(zDE (zEA (fun _=>(flatK yP zEp)) _))⟩)) zB) ?_
  refine J_d 15932 [] [39] [(39,bv (decide ((x61.length:Int)>0)))] [] [] zB ?_
  refine zG 39 (fun h63=>?_) (fun h63=>?_)
  ·refine J_d 127464 [] [39,42] [(42,bv (s53.2.2==a4))] [] [] zB ?_
   refine zG 42 (fun h64=>?_) (fun h64=>?_)
   ·refine J_g 509860 [] [(8,pp 0)] [(0,.box [iv 7,iv s53.2.2,nv])] zB ?_
    exact zEf (ds:=[.ag [iv 7,iv s53.2.2,nv]]) (ds':=[.ag [iv 7,iv s53.2.2,so 1 zC ([]:List Int)]]) (.cons (.ag (.keep rfl (.keep rfl (.nilsl true 1 (.nil))))) (.nil) (by decide)) rfl
   ·refine J_d 127466 [] [11,42] [(11,iv (w64 (s53.2.2+1)))] [] [] zB ?_
    refine zA (fun x65 h66=>?_)
    refine zA (fun x67 h68=>?_)
    refine J_d 254934 [] [9,14] [(9,rr 5 x67)] [1,3,5] [(5,rE 2 (yU.enc false) x67)] (zF 2 (zCb (kk:=.i64) 25 2 1 3 zC (.tmp 48) (.const (.int .i64 0)) h66) (zF 3 (zCK (d:=iv x65) 2 1 3 0 zC (.tmp 49) h66 (by kernel_rfl)) (zF 6 (zAZ 128 133 2 4 (yU.enc false) [({Pack:=x65,Denied:=s53.2.1}:yU)] [0] [(.tmp 52)] [.ag [iv x65,sl 1 zC s53.2.1]]) (zF 7 (zEK 128 128 133 133 2 32 5 1 4 (yU.enc false) (.tmp 47) (.tmp 53) h68) zB)))) ?_
    refine vO 5 1 (Nat.le_of_ble_eq_true rfl) (Nat.le_of_ble_eq_true rfl) ?_
    exact J_q (J_b (ih (x67,s53.2.1,w64 (s53.2.2+1)))) rfl
  ·refine J_d 31868 [] [10,14,39,57] [(57,bv ((s53.1.length:Int)==0))] [3] [] zB ?_
   refine zG 57 (fun h69=>?_) (fun h69=>?_)
   ·refine J_g 127476 [] [(8,pp 0)] [(0,.box [iv 4,iv s53.2.2,nv])] zB ?_
    exact zEf (ds:=[.ag [iv 4,iv s53.2.2,nv]]) (ds':=[.ag [iv 4,iv s53.2.2,so 1 zC ([]:List Int)]]) (.cons (.ag (.keep rfl (.keep rfl (.nilsl true 1 (.nil))))) (.nil) (by decide)) rfl
   ·refine zA (fun x70 h71=>?_)
    refine J_d 31870 [(6,2)] [15,57] [(15,pp 2)] [2] [(2,.box (yU.enc false x70))] (zF 4 (zCb (kk:=.i64) 128 133 2 1 (yU.enc false) (.tmp 60) (.tmp 63) h71) (zF 5 (zCK (d:=.ag (yU.enc false x70)) 133 2 1 0 (yU.enc false) (.tmp 64) h71 (by kernel_rfl)) zB)) ?_
    refine zA (fun x72 h73=>?_)
    refine J_d 63742 [] [9] [(9,rr 3 x72)] [1,3] [(3,rE 2 (yU.enc false) x72)] (zF 4 (zNb 128 133 2 1 3 (yU.enc false) (.tmp 66) none (some (.tmp 69)) h73) zB) ?_
    refine zA (fun x74 h75=>?_)
    refine zA (fun x76 h77=>?_)
    refine J_d 63743 [] [10,15] [(10,rr 7 x76)] [2,7] [(7,rE 1 zC x76)] (zF 0 (zAZ 25 2 1 4 zC ([]:List Int) [] [] []) (zF 3 (zMe 25 25 2 2 1 8 5 4 zC (.tmp 71) (.tmp 73) h75) (zF 6 (zAZ 25 2 1 6 zC [x70.Pack] [0] [(.tmp 76)] [iv x70.Pack]) (zF 7 (zEK 25 25 2 2 1 8 7 5 6 zC (.tmp 74) (.tmp 77) h77) zB)))) ?_
    refine zEe [(0,sl 8 (Pack.enc false) a1),(1,sl 7 Term.enc a2),(2,sl 1 zC a3),(3,iv a4),(8,pp 0),(9,rr 3 x72),(10,rr 7 x76),(11,iv s53.2.2)] [(7,rE 1 zC x76),(0,.box [iv 0,iv 0,nv]),(3,rE 2 (yU.enc false) x72)] (by kernel_rfl) ?_
    refine zFY 7 (z:=1) (xs:=x76.map zC) (tm2:=[(0,sl 8 (Pack.enc false) a1),(1,sl 7 Term.enc a2),(2,sl 1 zC a3),(3,iv a4),(8,pp 0),(9,rr 3 x72),(10,sl 1 zC x76),(11,iv s53.2.2)]) (hp2:=[(0,.box [iv 0,iv 0,nv]),(3,rE 2 (yU.enc false) x72)]) (.cons (.keep rfl) (.cons (.keep rfl) (.cons (.keep rfl) (.cons (.keep rfl) (.cons (.keep rfl) (.cons (.keep rfl) (.cons (.rf (by simp) (zEt (enc:=zC) (enc':=zC) (fun _=>rfl) x76 rfl rfl)) (.cons (.keep rfl) (.nil))))))))) (.keep rfl (.keep rfl (.nil))) rfl ?_
    refine vO 3 1 (Nat.le_of_ble_eq_true rfl) (Nat.le_of_ble_eq_true rfl) ?_
    exact J_q (J_b (ih (x72,x76,s53.2.2))) rfl
theorem jE.ok (a1:(List Pack)) (a2:(List Term)) (a3:(List Int)) (a4:Int):Ok Tryz.prog 59 [sl 8 (Pack.enc false) a1,sl 7 Term.enc a2,sl 1 zC a3,iv a4] [] ((jE a1 a2 a3 a4).map fun r=>(.ag [iv r.Code,iv r.Choices,so 1 zC r.Set],[])):=by
 refine zJ c59 Tryz.f59 0 79 (fun q=>?_)
 unfold jE
 refine J_g 2 [(0,0)] [(0,sl 8 (Pack.enc false) a1),(1,sl 7 Term.enc a2),(2,sl 1 zC a3),(3,iv a4),(8,pp 0)] [(0,.box [iv 0,iv 0,nv])] zB ?_
 refine J_g 6 [] [(0,sl 8 (Pack.enc false) a1),(1,sl 7 Term.enc a2),(2,sl 1 zC a3),(3,iv a4),(8,pp 0),(9,rr 1 ([]:List yU))] [(0,.box [iv 0,iv 0,nv]),(1,rE 2 (yU.enc false) ([]:List yU))] (zF 0 (zAZ 128 133 2 1 (yU.enc false) ([]:List yU) [] [] []) zB) ?_
 refine J_g 14 [] [(0,sl 8 (Pack.enc false) a1),(1,sl 7 Term.enc a2),(2,sl 1 zC a3),(3,iv a4),(8,pp 0),(9,rr 1 ([]:List yU)),(10,rr 2 ([]:List Int))] [(0,.box [iv 0,iv 0,nv]),(1,rE 2 (yU.enc false) ([]:List yU)),(2,rE 1 zC ([]:List Int))] (zF 0 (zAZ 25 2 1 2 zC ([]:List Int) [] [] []) zB) ?_
 refine J_d 30 [] [11] [(11,iv 0)] [] [] zB ?_
 refine zEe [(0,sl 8 (Pack.enc false) a1),(1,sl 7 Term.enc a2),(2,sl 1 zC a3),(3,iv a4),(8,pp 0),(9,rr 1 ([]:List yU)),(10,rr 2 ([]:List Int)),(11,iv 0)] [(2,rE 1 zC ([]:List Int)),(0,.box [iv 0,iv 0,nv]),(1,rE 2 (yU.enc false) ([]:List yU))] (by kernel_rfl) ?_
 refine zFY 2 (z:=1) (xs:=([]:List Int).map zC) (tm2:=[(0,sl 8 (Pack.enc false) a1),(1,sl 7 Term.enc a2),(2,sl 1 zC a3),(3,iv a4),(8,pp 0),(9,rr 1 ([]:List yU)),(10,sl 1 zC ([]:List Int)),(11,iv 0)]) (hp2:=[(0,.box [iv 0,iv 0,nv]),(1,rE 2 (yU.enc false) ([]:List yU))]) (.cons (.keep rfl) (.cons (.keep rfl) (.cons (.keep rfl) (.cons (.keep rfl) (.cons (.keep rfl) (.cons (.keep rfl) (.cons (.rf (by simp) (zEt (enc:=zC) (enc':=zC) (fun _=>rfl) ([]:List Int) rfl rfl)) (.cons (.keep rfl) (.nil))))))))) (.keep rfl (.keep rfl (.nil))) rfl ?_
 exact jO (K0:=(fun r:SolveResult=>some (.ag [iv r.Code,iv r.Choices,so 1 zC r.Set],[]))) (fun _=>rfl) (zCj.ok a1 a2 a3 a4 q _ (([]:List yU),([]:List Int),0))
noncomputable def c82:Code:=(Tryz.f82.body).getD .skip
theorem zD0.ok (a1:Int) (a2:Int):Ok Tryz.prog 82 [iv a1,iv a2] [] ((zD0 a1 a2).map fun r=>(iv r,[])):=by
 refine zJ c82 Tryz.f82 0 10 (fun q=>?_)
 unfold zD0
 refine J_g 2 [] [(0,iv a1),(1,iv a2)] [] zB ?_
 refine J_d 12 [] [7] [(7,bv (decide (a1>a2)))] [] [] zB ?_
 refine zG 7 (fun h3=>?_) (fun h3=>?_)
 ·refine J_g 52 [] [(4,iv a1)] [] zB ?_
  exact xJ rfl
 ·refine J_g 14 [] [(4,iv a2)] [] zB ?_
  exact xJ rfl
noncomputable def c83:Code:=(Tryz.f83.body).getD .skip
theorem zBA.ok (a1:(List Pack)) (a2:(List Int)) (s82:((List zP)×Int)) (x86:Pack) (q:Wd) (kn:(List zP)→Option (D×List Ent)) (hk:∀v:(List zP),J (q.g Tryz.prog 83 0 103) c83 (aft c83 932) (St.mk' [(0,sl 8 (Pack.enc false) a1),(1,sl 1 zC a2),(5,rr 0 v),(6,iv s82.2)] [(0,rE 3 zP.enc v)]) (some v) kn):
  ∀s147:((List zP)×Int),J (q.g Tryz.prog 83 0 103) c83 (atI c83 59708) (St.mk' [(0,sl 8 (Pack.enc false) a1),(1,sl 1 zC a2),(5,rr 0 s147.1),(6,iv s82.2),(7,pp 1),(10,iv s147.2)] [(0,rE 3 zP.enc s147.1),(1,.box (Pack.enc false x86))]) (zBA a1 a2 s82 x86 s147) kn:=by
 refine zAq (fun g ih s147=>?_)
 unfold zBj
 refine J_d 238832 [] [78] [(78,bv (decide (s147.2< (x86.Bars.length:Int))))] [] [] zB ?_
 refine zG 78 (fun h148=>?_) (fun h148=>?_)
 ·refine zA (fun x149 h150=>?_)
  refine zA (fun x151 h152=>?_)
  refine zA (fun x153 h154=>?_)
  refine J_d 955336 [] [78,92] [(92,bv x153)] [] [] (zF 5 (uN (kk:=.i64) 80 104 7 Term.enc (.tmp 84) (.tmp 85) h150) (zF 9 (uN (kk:=.i64) 25 2 1 zC (.tmp 88) (.tmp 89) h152) (zF 11 (vD [(.tmp 81),(.tmp 82),(.tmp 87),(.tmp 91)] [24,25,104,2] (zA5.ok a1 a2 x149 x151) h154) zB))) ?_
  refine xR (aft c83 477668) (fun v160:(List zP)=>St.mk' [(0,sl 8 (Pack.enc false) a1),(1,sl 1 zC a2),(5,rr 3 v160),(6,iv s82.2),(7,pp 1),(10,iv s147.2)] [(1,.box (Pack.enc false x86)),(3,rE 3 zP.enc v160)]) (fun v160=>?_) (fun jv160=>?_)
  ·refine J_d 238835 [] [10] [(10,iv (w64 (s147.2+1)))] [] [] zB ?_
   refine vO 3 0 (Nat.le_of_ble_eq_true rfl) (Nat.le_of_ble_eq_true rfl) ?_
   exact J_q (J_b (ih (v160,w64 (s147.2+1)))) rfl
  ·refine zG 92 (fun h155=>?_) (fun h155=>?_)
   ·refine zA (fun x156 h157=>?_)
    refine zA (fun x158 h159=>?_)
    refine J_d 1910674 [] [5,92] [(5,rr 3 x158)] [0,3] [(3,rE 3 zP.enc x158)] (zF 3 (uN (kk:=.i64) 25 2 1 zC (.tmp 94) (.tmp 95) h157) (zF 7 (zAZ 108 125 3 2 zP.enc [({Kind:=3,Pack:=x156,At:=s147.2}:zP)] [0] [(.tmp 99)] [.ag [iv 3,iv x156,iv s147.2]]) (zF 8 (zEK 108 108 125 125 3 24 3 0 2 zP.enc (.tmp 93) (.tmp 100) h159) zB))) ?_
    exact yM (J_j (jv160 x158)) rfl
   ·refine vO 0 3 (Nat.le_of_ble_eq_true rfl) (Nat.le_of_ble_eq_true rfl) ?_
    exact yM (J_j (jv160 s147.1)) rfl
 ·exact yM (hk s147.1) rfl
theorem zBF.ok (a1:(List Pack)) (a2:(List Int)) (s82:((List zP)×Int)) (x86:Pack) (q:Wd) (kn:(List zP)→Option (D×List Ent)) (hk:∀v:(List zP),J (q.g Tryz.prog 83 0 103) c83 (atI c83 7463) (St.mk' [(0,sl 8 (Pack.enc false) a1),(1,sl 1 zC a2),(5,rr 0 v),(6,iv s82.2),(7,pp 1)] [(0,rE 3 zP.enc v),(1,.box (Pack.enc false x86))]) (some v) kn):
  ∀s121:((List zP)×Int),J (q.g Tryz.prog 83 0 103) c83 (atI c83 59700) (St.mk' [(0,sl 8 (Pack.enc false) a1),(1,sl 1 zC a2),(5,rr 0 s121.1),(6,iv s82.2),(7,pp 1),(9,iv s121.2)] [(0,rE 3 zP.enc s121.1),(1,.box (Pack.enc false x86))]) (zBF a1 a2 s82 x86 s121) kn:=by
 refine zAq (fun g ih s121=>?_)
 unfold zBu
 refine J_d 238800 [] [53] [(53,bv (decide (s121.2< (x86.Needs.length:Int))))] [] [] zB ?_
 refine zG 53 (fun h122=>?_) (fun h122=>?_)
 ·refine zA (fun x123 h124=>?_)
  refine zA (fun x125 h126=>?_)
  refine J_d 955208 [] [53,64] [(64,bv (!x125))] [] [] (zF 5 (uN (kk:=.i64) 89 80 1 (eSl false 7 Term.enc) (.tmp 59) (.tmp 60) h124) (zF 7 (vD [(.tmp 56),(.tmp 57),(.tmp 62)] [24,25,80] (zBf.ok a1 a2 x123) h126) zB)) ?_
  refine xR (aft c83 477604) (fun v132:(List zP)=>St.mk' [(0,sl 8 (Pack.enc false) a1),(1,sl 1 zC a2),(5,rr 3 v132),(6,iv s82.2),(7,pp 1),(9,iv s121.2)] [(1,.box (Pack.enc false x86)),(3,rE 3 zP.enc v132)]) (fun v132=>?_) (fun jv132=>?_)
  ·refine J_d 238803 [] [9] [(9,iv (w64 (s121.2+1)))] [] [] zB ?_
   refine vO 3 0 (Nat.le_of_ble_eq_true rfl) (Nat.le_of_ble_eq_true rfl) ?_
   exact J_q (J_b (ih (v132,w64 (s121.2+1)))) rfl
  ·refine zG 64 (fun h127=>?_) (fun h127=>?_)
   ·refine zA (fun x128 h129=>?_)
    refine zA (fun x130 h131=>?_)
    refine J_d 1910418 [] [5,64] [(5,rr 3 x130)] [0,3] [(3,rE 3 zP.enc x130)] (zF 3 (uN (kk:=.i64) 25 2 1 zC (.tmp 66) (.tmp 67) h129) (zF 7 (zAZ 108 125 3 2 zP.enc [({Kind:=2,Pack:=x128,At:=s121.2}:zP)] [0] [(.tmp 71)] [.ag [iv 2,iv x128,iv s121.2]]) (zF 8 (zEK 108 108 125 125 3 24 3 0 2 zP.enc (.tmp 65) (.tmp 72) h131) zB))) ?_
    exact yM (J_j (jv132 x130)) rfl
   ·refine vO 0 3 (Nat.le_of_ble_eq_true rfl) (Nat.le_of_ble_eq_true rfl) ?_
    exact yM (J_j (jv132 s121.1)) rfl
 ·exact yM (hk s121.1) rfl
theorem zAr.ok (a1:(List Pack)) (a2:(List Int)) (s82:((List zP)×Int)) (x86:Pack) (q:Wd) (kn:(List zP)→Option (D×List Ent)) (hk:∀v:(List zP),J (q.g Tryz.prog 83 0 103) c83 (atI c83 3731) (St.mk' [(0,sl 8 (Pack.enc false) a1),(1,sl 1 zC a2),(5,rr 0 v),(6,iv s82.2),(7,pp 1)] [(0,rE 3 zP.enc v),(1,.box (Pack.enc false x86))]) (some v) kn):
  ∀s98:Int,J (q.g Tryz.prog 83 0 103) c83 (atI c83 29844) (St.mk' [(0,sl 8 (Pack.enc false) a1),(1,sl 1 zC a2),(5,rr 0 s82.1),(6,iv s82.2),(7,pp 1),(8,iv s98)] [(0,rE 3 zP.enc s82.1),(1,.box (Pack.enc false x86))]) (zAr a1 a2 s82 x86 s98) kn:=by
 refine zAq (fun g ih s98=>?_)
 unfold zBg
 refine J_d 119376 [] [27] [(27,bv (decide (s98<s82.2)))] [] [] zB ?_
 refine zG 27 (fun h99=>?_) (fun h99=>?_)
 ·refine zA (fun x100 h101=>?_)
  refine zA (fun x102 h103=>?_)
  refine J_d 477512 [] [27,40] [(40,bv (seq x102.Name x86.Name))] [] [] (zF 3 (uN (kk:=.i64) 25 2 1 zC (.tmp 31) (.tmp 32) h101) (zF 5 (uN (kk:=.i64) 24 91 8 (Pack.enc false) (.tmp 30) (.tmp 34) h103) zB)) ?_
  refine zG 40 (fun h104=>?_) (fun h104=>?_)
  ·refine zA (fun x105 h106=>?_)
   refine zA (fun x107 h108=>?_)
   refine J_d 1910052 [] [5,8,40] [(5,rr 3 x107)] [0,3] [(3,rE 3 zP.enc x107)] (zF 3 (uN (kk:=.i64) 25 2 1 zC (.tmp 42) (.tmp 43) h106) (zF 6 (zAZ 108 125 3 2 zP.enc [({Kind:=1,Pack:=x105,At:=0}:zP)] [0] [(.tmp 46)] [.ag [iv 1,iv x105,iv 0]]) (zF 7 (zEK 108 108 125 125 3 24 3 0 2 zP.enc (.tmp 41) (.tmp 47) h108) zB))) ?_
   refine vO 3 0 (Nat.le_of_ble_eq_true rfl) (Nat.le_of_ble_eq_true rfl) ?_
   exact yM (hk x107) rfl
  ·refine J_d 119379 [] [8,40] [(8,iv (w64 (s98+1)))] [] [] zB ?_
   exact J_q (J_b (ih (w64 (s98+1)))) rfl
 ·exact yM (hk s82.1) rfl
theorem zBS.ok (a1:(List Pack)) (a2:(List Int)) (q:Wd) (kn:(List zP)→Option (D×List Ent)) (hk:∀v:(List zP),J (q.g Tryz.prog 83 0 103) c83 (atI c83 15) (St.mk' [(5,rr 0 v)] [(0,rE 3 zP.enc v)]) (some v) kn):
  ∀s82:((List zP)×Int),J (q.g Tryz.prog 83 0 103) c83 (atI c83 116) (St.mk' [(0,sl 8 (Pack.enc false) a1),(1,sl 1 zC a2),(5,rr 0 s82.1),(6,iv s82.2)] [(0,rE 3 zP.enc s82.1)]) (zBS a1 a2 s82) kn:=by
 refine zAq (fun g ih s82=>?_)
 unfold zBk
 refine J_d 464 [] [15] [(15,bv (decide (s82.2< (a2.length:Int))))] [] [] zB ?_
 refine zG 15 (fun h83=>?_) (fun h83=>?_)
 ·refine zA (fun x84 h85=>?_)
  refine zA (fun x86 h87=>?_)
  refine J_g 1864 [(7,1)] [(0,sl 8 (Pack.enc false) a1),(1,sl 1 zC a2),(5,rr 0 s82.1),(6,iv s82.2),(7,pp 1)] [(0,rE 3 zP.enc s82.1),(1,.box (Pack.enc false x86))] (zF 3 (uN (kk:=.i64) 25 2 1 zC (.tmp 19) (.tmp 20) h85) (zF 5 (uN (kk:=.i64) 24 91 8 (Pack.enc false) (.tmp 18) (.tmp 22) h87) zB)) ?_
  refine J_d 7460 [] [8] [(8,iv 0)] [] [] zB ?_
  refine zET (zAr.ok a1 a2 s82 x86 q _ (fun v109=>J_j ?_) 0)
  refine J_d 14924 [] [9] [(9,iv 0)] [] [] zB ?_
  refine zET (zBF.ok a1 a2 s82 x86 q _ (fun v133=>J_j ?_) (v109,0))
  refine J_d 14926 [] [10] [(10,iv 0)] [] [] zB ?_
  refine zET (zBA.ok a1 a2 s82 x86 q _ (fun v161=>J_j ?_) (v133,0))
  refine J_d 467 [] [6] [(6,iv (w64 (s82.2+1)))] [] [] zB ?_
  exact J_q (J_b (ih (v161,w64 (s82.2+1)))) rfl
 ·exact yM (hk s82.1) rfl
theorem uX.ok (a1:(List Pack)) (a2:(List Int)):Ok Tryz.prog 83 [sl 8 (Pack.enc false) a1,sl 1 zC a2] [] ((uX a1 a2).map fun r=>(so 3 zP.enc r,[])):=by
 refine zJ c83 Tryz.f83 0 103 (fun q=>?_)
 unfold uX
 refine J_g 2 [] [(0,sl 8 (Pack.enc false) a1),(1,sl 1 zC a2)] [] zB ?_
 refine J_g 6 [] [(0,sl 8 (Pack.enc false) a1),(1,sl 1 zC a2),(5,rr 0 ([]:List zP))] [(0,rE 3 zP.enc ([]:List zP))] (zF 0 (zAZ 108 125 3 0 zP.enc ([]:List zP) [] [] []) zB) ?_
 refine J_d 28 [] [6] [(6,iv 0)] [] [] zB ?_
 refine zET (zBS.ok a1 a2 q _ (fun v162=>J_j ?_) (([]:List zP),0))
 refine J_g 30 [] [(4,rr 0 v162)] [(0,rE 3 zP.enc v162)] zB ?_
 exact zEf (ds:=[rr 0 v162]) (ds':=[so 3 zP.enc v162]) (.cons (.cell (.move (.head _) (List.length_map _) (by decide) (.nil))) (.nil) (by decide)) rfl
noncomputable def c56:Code:=(Tryz.f56.body).getD .skip
theorem jS.ok (a2:(List Pack)) (x19:(Bool×zD)) (s53:(List Int)) (x59:zP) (q:Wd) (kn:(List Int)→Option (D×List Ent)) (hk:∀v:(List Int),J (q.g Tryz.prog 56 2 73) c56 (atI c56 15639) (St.mk' [(0,pp 0),(1,rr 1 a2),(8,rr 5 v)] [(0,.box (zD.enc false x19.2)),(1,rE 8 (Pack.enc false) a2),(5,rE 1 zC v)]) (some v) kn):
  ∀s70:((List Int)×Int),J (q.g Tryz.prog 56 2 73) c56 (atI c56 125108) (St.mk' [(0,pp 0),(1,rr 1 a2),(5,rr 2 s53),(7,pp 4),(8,rr 5 s70.1),(9,iv s70.2)] [(0,.box (zD.enc false x19.2)),(1,rE 8 (Pack.enc false) a2),(2,rE 1 zC s53),(4,.box (zP.enc x59)),(5,rE 1 zC s70.1)]) (jS a2 x19 s53 x59 s70) kn:=by
 refine zAq (fun g ih s70=>?_)
 unfold zB2
 refine J_d 500432 [] [44] [(44,bv (decide (s70.2< (s53.length:Int))))] [] [] zB ?_
 refine zG 44 (fun h71=>?_) (fun h71=>?_)
 ·refine zA (fun x72 h73=>?_)
  refine J_d 2001736 [] [44,53] [(53,bv (x72 !=x59.Pack))] [] [] (zF 2 (zCb (kk:=.i64) 25 2 1 2 zC (.tmp 47) (.tmp 48) h73) (zF 3 (zCK (d:=iv x72) 2 1 2 0 zC (.tmp 49) h73 (by kernel_rfl)) zB)) ?_
  refine xR (aft c56 1000868) (fun v79:(List Int)=>St.mk' [(0,pp 0),(1,rr 1 a2),(5,rr 2 s53),(7,pp 4),(8,rr 7 v79),(9,iv s70.2)] [(0,.box (zD.enc false x19.2)),(1,rE 8 (Pack.enc false) a2),(2,rE 1 zC s53),(4,.box (zP.enc x59)),(7,rE 1 zC v79)]) (fun v79=>?_) (fun jv79=>?_)
  ·refine J_d 500435 [] [9] [(9,iv (w64 (s70.2+1)))] [] [] zB ?_
   refine vO 7 5 (Nat.le_of_ble_eq_true rfl) (Nat.le_of_ble_eq_true rfl) ?_
   exact J_q (J_b (ih (v79,w64 (s70.2+1)))) rfl
  ·refine zG 53 (fun h74=>?_) (fun h74=>?_)
   ·refine zA (fun x75 h76=>?_)
    refine zA (fun x77 h78=>?_)
    refine J_d 4003474 [] [8,53] [(8,rr 7 x77)] [5,7] [(7,rE 1 zC x77)] (zF 3 (zCb (kk:=.i64) 25 2 1 2 zC (.tmp 55) (.tmp 56) h76) (zF 4 (zCK (d:=iv x75) 2 1 2 0 zC (.tmp 57) h76 (by kernel_rfl)) (zF 5 (zAZ 25 2 1 6 zC [x75] [0] [(.tmp 58)] [iv x75]) (zF 6 (zEK 25 25 2 2 1 8 7 5 6 zC (.tmp 54) (.tmp 59) h78) zB)))) ?_
    exact yM (J_j (jv79 x77)) rfl
   ·refine vO 5 7 (Nat.le_of_ble_eq_true rfl) (Nat.le_of_ble_eq_true rfl) ?_
    exact yM (J_j (jv79 s70.1)) rfl
 ·exact yM (hk s70.1) rfl
theorem jQ.ok (a2:(List Pack)) (x19:(Bool×zD)) (q:Wd) (kn:(List Int)→Option (D×List Ent)) (hk:∀v:(List Int),J (q.g Tryz.prog 56 2 73) c56 (atI c56 31) (St.mk' [(0,pp 0),(1,rr 1 a2),(5,rr 2 v)] [(0,.box (zD.enc false x19.2)),(1,rE 8 (Pack.enc false) a2),(2,rE 1 zC v)]) (some v) kn):
  ∀s53:(List Int),J (q.g Tryz.prog 56 2 73) c56 (atI c56 488) (St.mk' [(0,pp 0),(1,rr 1 a2),(5,rr 2 s53)] [(0,.box (zD.enc false x19.2)),(1,rE 8 (Pack.enc false) a2),(2,rE 1 zC s53)]) (jQ a2 x19 s53) kn:=by
 refine zAq (fun g ih s53=>?_)
 unfold zB9
 refine zA (fun x54 h55=>?_)
 refine J_d 1952 [] [34] [(34,bv (decide ((x54.length:Int)>0)))] [] [] (zF 2 (wW («as»:=[rr 1 a2,rr 2 s53]) [(.tmp 30),(.tmp 31)] [24,25] true [(1,rE 8 (Pack.enc false) a2),(2,rE 1 zC s53)] [] (.cons (zD1 (.head _) (Pack.ro false) rfl) (.cons (zD1 (.tail _ (.head _)) (fun _=>rfl) rfl) (.nil))) (uX.ok a2 s53) h55 (.own 3) (hbor:=fun _=>⟨fhN,(zDE (zEA (fun _=>(zP.fl _)) _))⟩)) zB) ?_
 refine zG 34 (fun h56=>?_) (fun h56=>?_)
 ·refine zA (fun x57 h58=>?_)
  refine zA (fun x59 h60=>?_)
  refine J_g 3908 [(5,4)] [(0,pp 0),(1,rr 1 a2),(5,rr 2 s53),(7,pp 4)] [(0,.box (zD.enc false x19.2)),(1,rE 8 (Pack.enc false) a2),(2,rE 1 zC s53),(4,.box (zP.enc x59))] (zF 2 (wW («as»:=[rr 1 a2,rr 2 s53]) [(.tmp 35),(.tmp 36)] [24,25] true [(1,rE 8 (Pack.enc false) a2),(2,rE 1 zC s53)] [] (.cons (zD1 (.head _) (Pack.ro false) rfl) (.cons (zD1 (.tail _ (.head _)) (fun _=>rfl) rfl) (.nil))) (uX.ok a2 s53) h58 (.own 3) (hbor:=fun _=>⟨fhN,(zDE (zEA (fun _=>(zP.fl _)) _))⟩)) (zF 3 (zCb (kk:=.i64) 108 125 3 3 zP.enc (.tmp 37) (.const (.int .i64 0)) h60) (zF 4 (zCK (d:=.ag (zP.enc x59)) 125 3 3 0 zP.enc (.tmp 38) h60 (by kernel_rfl)) zB))) ?_
  refine J_g 7818 [] [(0,pp 0),(1,rr 1 a2),(5,rr 2 s53),(7,pp 4),(8,rr 5 ([]:List Int))] [(0,.box (zD.enc false x19.2)),(1,rE 8 (Pack.enc false) a2),(2,rE 1 zC s53),(4,.box (zP.enc x59)),(5,rE 1 zC ([]:List Int))] (zF 0 (zAZ 25 2 1 5 zC ([]:List Int) [] [] []) zB) ?_
  refine J_d 31276 [] [9] [(9,iv 0)] [] [] zB ?_
  refine zET (jS.ok a2 x19 s53 x59 q _ (fun v80=>J_j ?_) (([]:List Int),0))
  refine J_d 15639 [] [5,8] [(5,rr 5 v80)] [] [] zB ?_
  refine vO 5 2 (Nat.le_of_ble_eq_true rfl) (Nat.le_of_ble_eq_true rfl) ?_
  exact J_q (J_b (ih v80)) rfl
 ·exact yM (hk s53) rfl
theorem zAD.ok (a2:(List Pack)) (q:Wd) (kn:((List Int)×Int×(List Int))→Option (D×List Ent)) (hk:∀v:((List Int)×Int×(List Int)),J (q.g Tryz.prog 56 2 73) c56 (atI c56 15) (St.mk' [(0,pp 0),(1,rr 1 a2),(5,rr 2 v.2.2)] [(0,.box [sl 1 eU8 v.1,iv v.2.1]),(1,rE 8 (Pack.enc false) a2),(2,rE 1 zC v.2.2)]) (some v) kn):
  ∀s10:((List Int)×Int×(List Int)×Int),J (q.g Tryz.prog 56 2 73) c56 (atI c56 116) (St.mk' [(0,pp 0),(1,rr 1 a2),(5,rr 2 s10.2.2.1),(6,iv s10.2.2.2)] [(0,.box [sl 1 eU8 s10.1,iv s10.2.1]),(1,rE 8 (Pack.enc false) a2),(2,rE 1 zC s10.2.2.1)]) (zAD a2 s10) kn:=by
 refine zAq (fun g ih s10=>?_)
 unfold zAk
 refine J_d 464 [] [14] [(14,bv (decide (s10.2.2.2< (a2.length:Int))))] [] [] zB ?_
 refine zG 14 (fun h11=>?_) (fun h11=>?_)
 ·refine zA (fun x12 h13=>?_)
  refine J_d 1864 [] [14,18] [(18,bv x12.1)] [0] [(0,.box (zD.enc false x12.2))] (zF 1 (wW («as»:=[pp 0,iv 3]) [(.tmp 17),(.const (.int .i64 3))] [56,2] false [(0,.box [sl 1 eU8 s10.1,iv s10.2.1])] [0] (.cons (.pt rfl) (.cons (.same rfl) (.nil))) (zR.ok ({Code:=s10.1,At:=s10.2.1}:zD) 3) h13 (.same rfl rfl)) zB) ?_
  refine xR (aft c56 932) (fun v17:(List Int)=>St.mk' [(0,pp 0),(1,rr 1 a2),(5,rr 4 v17),(6,iv s10.2.2.2)] [(0,.box (zD.enc false x12.2)),(1,rE 8 (Pack.enc false) a2),(4,rE 1 zC v17)]) (fun v17=>?_) (fun jv17=>?_)
  ·refine J_d 467 [] [6] [(6,iv (w64 (s10.2.2.2+1)))] [] [] zB ?_
   refine vO 4 2 (Nat.le_of_ble_eq_true rfl) (Nat.le_of_ble_eq_true rfl) ?_
   exact J_q (J_b (ih (x12.2.Code,x12.2.At,v17,w64 (s10.2.2.2+1)))) rfl
  ·refine zG 18 (fun h14=>?_) (fun h14=>?_)
   ·refine zA (fun x15 h16=>?_)
    refine J_d 3730 [] [5,18] [(5,rr 4 x15)] [2,4] [(4,rE 1 zC x15)] (zF 2 (zAZ 25 2 1 3 zC [s10.2.2.2] [0] [(.tmp 20)] [iv s10.2.2.2]) (zF 3 (zEK 25 25 2 2 1 8 4 2 3 zC (.tmp 19) (.tmp 21) h16) zB)) ?_
    exact yM (J_j (jv17 x15)) rfl
   ·refine vO 2 4 (Nat.le_of_ble_eq_true rfl) (Nat.le_of_ble_eq_true rfl) ?_
    exact yM (J_j (jv17 s10.2.2.1)) rfl
 ·exact yM (hk (s10.1,s10.2.1,s10.2.2.1)) rfl
theorem vX.ok (a1:zD) (a2:(List Pack)):Ok Tryz.prog 56 [pp 0,rr 1 a2] [.box (zD.enc false a1),rE 8 (Pack.enc false) a2] ((vX a1 a2).map fun r=>(so 1 zC r.1,[.box (zD.enc false r.2),rE 8 (Pack.enc false) a2])):=by
 refine zJ c56 Tryz.f56 2 73 (fun q=>?_)
 unfold vX
 refine J_g 2 [] [(0,pp 0),(1,rr 1 a2)] [(0,.box (zD.enc false a1)),(1,rE 8 (Pack.enc false) a2)] zB ?_
 refine J_g 6 [] [(0,pp 0),(1,rr 1 a2),(5,rr 2 ([]:List Int))] [(0,.box (zD.enc false a1)),(1,rE 8 (Pack.enc false) a2),(2,rE 1 zC ([]:List Int))] (zF 0 (zAZ 25 2 1 2 zC ([]:List Int) [] [] []) zB) ?_
 refine J_d 28 [] [6] [(6,iv 0)] [] [] zB ?_
 refine zET (zAD.ok a2 q _ (fun v18=>J_j ?_) (a1.Code,a1.At,([]:List Int),0))
 refine zA (fun x19 h20=>?_)
 refine xR (atI c56 61) (fun v24:Bool=>St.mk' [(0,pp 0),(1,rr 1 a2),(5,rr 2 v18.2.2),(29,bv v24)] [(0,.box (zD.enc false x19.2)),(1,rE 8 (Pack.enc false) a2),(2,rE 1 zC v18.2.2)]) (fun v24=>?_) (fun jv24=>?_)
 ·refine xR (atI c56 31) (fun v82:(List Int)=>St.mk' [(0,pp 0),(1,rr 1 a2),(5,rr 2 v82)] [(0,.box (zD.enc false x19.2)),(1,rE 8 (Pack.enc false) a2),(2,rE 1 zC v82)]) (fun v82=>?_) (fun jv82=>?_)
  ·refine zA (fun x83 h84=>?_)
   refine J_d 124 [] [63] [(63,bv x83.1)] [0] [(0,.box (zD.enc false x83.2))] (zF 1 (wW («as»:=[pp 0,iv 24]) [(.tmp 62),(.const (.int .i64 24))] [56,2] false [(0,.box (zD.enc false x19.2))] [0] (.cons (.pt rfl) (.cons (.same rfl) (.nil))) (zR.ok x19.2 24) h84 (.same rfl rfl)) zB) ?_
   refine xR (atI c56 63) (fun v90:((List Int)×Int×(List Int))=>St.mk' [(5,rr 5 v90.2.2)] [(0,.box [sl 1 eU8 v90.1,iv v90.2.1]),(1,rE 8 (Pack.enc false) a2),(5,rE 1 zC v90.2.2)]) (fun v90=>?_) (fun jv90=>?_)
   ·refine J_g 126 [] [(4,rr 5 v90.2.2)] [(0,.box [sl 1 eU8 v90.1,iv v90.2.1]),(1,rE 8 (Pack.enc false) a2),(5,rE 1 zC v90.2.2)] zB ?_
    exact zEf (ds:=[rr 5 v90.2.2]) (ds':=[so 1 zC v90.2.2]) (.cons (.cell (.move (.tail _ (.tail _ (.head _))) (List.length_map _) (by decide) (.nil))) (.nil) (by decide)) rfl
   ·refine zG 63 (fun h85=>?_) (fun h85=>?_)
    ·refine zA (fun x86 h87=>?_)
     refine zA (fun x88 h89=>?_)
     refine J_g 250 [] [(5,rr 5 x88)] [(0,.box (zD.enc false x86.2)),(1,rE 8 (Pack.enc false) a2),(5,rE 1 zC x88)] (zF 4 (zAZ 25 2 1 3 zC [(a2.length:Int),(-1),0] [0,1,2] [(.tmp 67),(.const (.int .i64 (-1))),(.const (.int .i64 0))] [iv (a2.length:Int),iv (-1),iv 0]) (zF 5 (wW («as»:=[pp 0,rr 3 [(a2.length:Int),(-1),0]]) [(.tmp 65),(.tmp 68)] [56,25] false [(0,.box (zD.enc false x83.2)),(3,rE 1 zC [(a2.length:Int),(-1),0])] [0,3] (.cons (.pt rfl) (.cons (.rf rfl) (.nil))) (wB.ok x83.2 [(a2.length:Int),(-1),0]) h87 (.same rfl rfl)) (zF 6 (zAZ 25 2 1 4 zC [x86.1] [0] [(.tmp 69)] [iv x86.1]) (zF 7 (zEK 25 25 2 2 1 8 5 2 4 zC (.tmp 64) (.tmp 70) h89) zB)))) ?_
     exact yM (J_j (jv90 (x86.2.Code,x86.2.At,x88))) rfl
    ·refine vO 2 5 (Nat.le_of_ble_eq_true rfl) (Nat.le_of_ble_eq_true rfl) ?_
     exact yM (J_j (jv90 (x83.2.Code,x83.2.At,v82))) rfl
  ·refine zG 29 (fun h25=>?_) (fun h25=>?_)
   ·refine zET (jQ.ok a2 x19 q _ (fun v81=>J_j ?_) v18.2.2)
    exact yM (J_j (jv82 v81)) rfl
   ·exact yM (J_j (jv82 v18.2.2)) rfl
 ·refine vI (fun h21=>?_) (fun h21=>?_)
  ·refine zA (fun x22 h23=>?_)
   refine J_d 60 [] [29] [(29,bv (x22==0))] [0] [(0,.box (zD.enc false x19.2))] (zF 1 (wW («as»:=[pp 0,iv 2]) [(.tmp 23),(.const (.int .i64 2))] [56,2] false [(0,.box [sl 1 eU8 v18.1,iv v18.2.1])] [0] (.cons (.pt rfl) (.cons (.same rfl) (.nil))) (zR.ok ({Code:=v18.1,At:=v18.2.1}:zD) 2) h20 (.same rfl rfl)) (wO 2 [(24,bv x19.1)] [] h21 (zAm 4 2 25 true (wW («as»:=[rr 1 a2]) [(.tmp 26)] [24] true [(1,rE 8 (Pack.enc false) a2)] [] (.cons (zD1 (.head _) (Pack.ro false) rfl) (.nil)) (wK.ok a2) h23 (.same rfl rfl) (hbor:=fun _=>⟨fhN,yP⟩)) zB))) ?_
   exact yM (J_j (jv24 (x22==0))) rfl
  ·refine J_d 60 [] [29] [(29,bv false)] [0] [(0,.box (zD.enc false x19.2))] (zF 1 (wW («as»:=[pp 0,iv 2]) [(.tmp 23),(.const (.int .i64 2))] [56,2] false [(0,.box [sl 1 eU8 v18.1,iv v18.2.1])] [0] (.cons (.pt rfl) (.cons (.same rfl) (.nil))) (zR.ok ({Code:=v18.1,At:=v18.2.1}:zD) 2) h20 (.same rfl rfl)) (wO 2 [(24,bv x19.1)] [] h21 zB)) ?_
   exact yM (J_j (jv24 false)) rfl
noncomputable def c38:Code:=(Tryz.f38.body).getD .skip
theorem zDu.ok (a1:zD):Ok Tryz.prog 38 [pp 0] [.box (zD.enc false a1)] ((zDu a1).map fun r=>(.tu [so 8 (Pack.enc false) r.1,sl 1 zC r.2.1,so 1 zC r.2.2.1],[.box (zD.enc false r.2.2.2)])):=by
 refine zJ c38 Tryz.f38 1 60 (fun q=>?_)
 unfold zDu
 refine J_d 2 [] [] [] [] [] zB ?_
 refine zA (fun x2 h3=>?_)
 refine J_g 6 [] [(0,pp 0),(5,rr 1 x2.1)] [(0,.box (zD.enc false x2.2)),(1,rE 8 (Pack.enc false) x2.1)] (zF 1 (wW («as»:=[pp 0]) [(.tmp 9)] [56] false [(0,.box (zD.enc false a1))] [0] (.cons (.pt rfl) (.nil)) (zAR.ok a1) h3 (.own 1)) zB) ?_
 refine J_g 14 [] [(0,pp 0),(5,rr 1 x2.1),(6,rr 2 ([]:List Int))] [(0,.box (zD.enc false x2.2)),(1,rE 8 (Pack.enc false) x2.1),(2,rE 1 zC ([]:List Int))] (zF 0 (zAZ 25 2 1 2 zC ([]:List Int) [] [] []) zB) ?_
 refine J_d 30 [] [7] [(7,rr 3 ([]:List Int))] [3] [(3,rE 1 zC ([]:List Int))] (zF 0 (zAZ 25 2 1 3 zC ([]:List Int) [] [] []) zB) ?_
 refine zA (fun x4 h5=>?_)
 refine J_d 124 [] [15] [(15,bv (x4==0))] [] [] (zF 1 (wW («as»:=[rr 1 x2.1]) [(.tmp 13)] [24] true [(1,rE 8 (Pack.enc false) x2.1)] [] (.cons (zD1 (.head _) (Pack.ro false) rfl) (.nil)) (wK.ok x2.1) h5 (.same rfl rfl) (hbor:=fun _=>⟨fhN,yP⟩)) zB) ?_
 refine xR (atI c38 63) (fun v24:((List Int)×Int×(List Int)×(List Int))=>St.mk' [(0,pp 0),(5,rr 1 x2.1),(6,sl 1 zC v24.2.2.1),(7,rr 9 v24.2.2.2)] [(0,.box [sl 1 eU8 v24.1,iv v24.2.1]),(1,rE 8 (Pack.enc false) x2.1),(9,rE 1 zC v24.2.2.2)]) (fun v24=>?_) (fun jv24=>?_)
 ·refine zA (fun x25 h26=>?_)
  refine J_d 252 [] [48] [(48,bv x25.1)] [0] [(0,.box (zD.enc false x25.2))] (zF 1 (wW («as»:=[pp 0,iv 14]) [(.tmp 47),(.const (.int .i64 14))] [56,2] false [(0,.box [sl 1 eU8 v24.1,iv v24.2.1])] [0] (.cons (.pt rfl) (.cons (.same rfl) (.nil))) (zR.ok ({Code:=v24.1,At:=v24.2.1}:zD) 14) h26 (.same rfl rfl)) zB) ?_
  refine xR (atI c38 127) (fun v30:((List Int)×Int×(List Int))=>St.mk' [(0,pp 0),(5,rr 1 x2.1),(6,sl 1 zC v30.2.2),(7,rr 9 v24.2.2.2)] [(0,.box [sl 1 eU8 v30.1,iv v30.2.1]),(1,rE 8 (Pack.enc false) x2.1),(9,rE 1 zC v24.2.2.2)]) (fun v30=>?_) (fun jv30=>?_)
  ·refine zA (fun x31 h32=>?_)
   refine J_d 508 [] [53] [(53,bv x31.1)] [0] [(0,.box (zD.enc false x31.2))] (zF 1 (wW («as»:=[pp 0,iv 14]) [(.tmp 52),(.const (.int .i64 14))] [56,2] false [(0,.box [sl 1 eU8 v30.1,iv v30.2.1])] [0] (.cons (.pt rfl) (.cons (.same rfl) (.nil))) (zR.ok ({Code:=v30.1,At:=v30.2.1}:zD) 14) h32 (.same rfl rfl)) zB) ?_
   refine xR (atI c38 255) (fun v36:((List Int)×Int×(List Int))=>St.mk' [(5,rr 1 x2.1),(6,sl 1 zC v30.2.2),(7,rr 10 v36.2.2)] [(0,.box [sl 1 eU8 v36.1,iv v36.2.1]),(1,rE 8 (Pack.enc false) x2.1),(10,rE 1 zC v36.2.2)]) (fun v36=>?_) (fun jv36=>?_)
   ·refine J_g 510 [] [(2,rr 1 x2.1),(3,sl 1 zC v30.2.2),(4,rr 10 v36.2.2)] [(0,.box [sl 1 eU8 v36.1,iv v36.2.1]),(1,rE 8 (Pack.enc false) x2.1),(10,rE 1 zC v36.2.2)] zB ?_
    exact zEf (ds:=[rr 1 x2.1,sl 1 zC v30.2.2,rr 10 v36.2.2]) (ds':=[so 8 (Pack.enc false) x2.1,sl 1 zC v30.2.2,so 1 zC v36.2.2]) (.cons (.cell (.move (.tail _ (.head _)) (List.length_map _) (by decide) (.nil))) (.cons (.cell (.keep rfl (.nil))) (.cons (.cell (.move (.tail _ (.tail _ (.head _))) (List.length_map _) (by decide) (.nil))) (.nil) (by decide)) (by decide)) (by decide)) rfl
   ·refine zG 53 (fun h33=>?_) (fun h33=>?_)
    ·refine zA (fun x34 h35=>?_)
     refine J_d 1018 [] [0,7,53] [(7,rr 10 x34.1)] [0,9,10] [(0,.box (zD.enc false x34.2)),(10,rE 1 zC x34.1)] (zF 2 (wW («as»:=[pp 0,rr 1 x2.1]) [(.tmp 54),(.tmp 55)] [56,24] false [(0,.box (zD.enc false x31.2)),(1,rE 8 (Pack.enc false) x2.1)] [0,1] (.cons (.pt rfl) (.cons (.rf rfl) (.nil))) (vX.ok x31.2 x2.1) h35 (.own 10)) zB) ?_
     exact yM (J_j (jv36 (x34.2.Code,x34.2.At,x34.1))) rfl
    ·refine vO 9 10 (Nat.le_of_ble_eq_true rfl) (Nat.le_of_ble_eq_true rfl) ?_
     exact yM (J_j (jv36 (x31.2.Code,x31.2.At,v24.2.2.2))) rfl
  ·refine zG 48 (fun h27=>?_) (fun h27=>?_)
   ·refine zA (fun x28 h29=>?_)
    refine J_d 506 [] [6,48] [(6,rr 10 x28.1)] [0,10] [(0,.box (zD.enc false x28.2)),(10,rE 1 zC x28.1)] (zF 2 (wW («as»:=[pp 0,rr 1 x2.1]) [(.tmp 49),(.tmp 50)] [56,24] false [(0,.box (zD.enc false x25.2)),(1,rE 8 (Pack.enc false) x2.1)] [0,1] (.cons (.pt rfl) (.cons (.rf rfl) (.nil))) (vX.ok x25.2 x2.1) h29 (.own 10)) zB) ?_
    refine zEe [(0,pp 0),(5,rr 1 x2.1),(6,rr 10 x28.1),(7,rr 9 v24.2.2.2)] [(10,rE 1 zC x28.1),(0,.box (zD.enc false x28.2)),(1,rE 8 (Pack.enc false) x2.1),(9,rE 1 zC v24.2.2.2)] (by kernel_rfl) ?_
    refine zFY 10 (z:=1) (xs:=x28.1.map zC) (tm2:=[(0,pp 0),(5,rr 1 x2.1),(6,sl 1 zC x28.1),(7,rr 9 v24.2.2.2)]) (hp2:=[(0,.box (zD.enc false x28.2)),(1,rE 8 (Pack.enc false) x2.1),(9,rE 1 zC v24.2.2.2)]) (.cons (.keep rfl) (.cons (.keep rfl) (.cons (.rf (by simp) (zEt (enc:=zC) (enc':=zC) (fun _=>rfl) x28.1 rfl rfl)) (.cons (.keep rfl) (.nil))))) (.keep rfl (.keep rfl (.keep rfl (.nil)))) rfl ?_
    exact yM (J_j (jv30 (x28.2.Code,x28.2.At,x28.1))) rfl
   ·exact yM (J_j (jv30 (x25.2.Code,x25.2.At,v24.2.2.1))) rfl
 ·refine zG 15 (fun h6=>?_) (fun h6=>?_)
  ·refine zA (fun x7 h8=>?_)
   refine zA (fun x9 h10=>?_)
   refine J_g 500 [(5,6)] [(0,pp 0),(5,rr 1 x2.1),(6,rr 2 ([]:List Int)),(7,rr 3 ([]:List Int)),(8,pp 6)] [(0,.box (zD.enc false x7.2)),(1,rE 8 (Pack.enc false) x2.1),(2,rE 1 zC ([]:List Int)),(3,rE 1 zC ([]:List Int)),(5,rE 1 zC x9.Set),(6,.box [iv x9.Code,iv x9.Choices,rr 5 x9.Set])] (zF 3 (wW («as»:=[pp 0,rr 1 x2.1]) [(.tmp 17),(.tmp 18)] [56,24] false [(0,.box (zD.enc false x2.2)),(1,rE 8 (Pack.enc false) x2.1)] [0,1] (.cons (.pt rfl) (.cons (.rf rfl) (.nil))) (zAj.ok x2.2 x2.1) h8 (.own 4)) (zF 4 (wW («as»:=[rr 1 x2.1,rr 4 x7.1,nv,iv 60]) [(.tmp 16),(.tmp 19),(.const (.slice none 0 0)),(.const (.int .i64 60))] [24,80,25,2] true [(1,rE 8 (Pack.enc false) x2.1),(4,rE 7 Term.enc x7.1)] [] (.cons (zD1 (.head _) (Pack.ro false) rfl) (.cons (zD1 (.tail _ (.head _)) (fun _=>rfl) rfl) (.cons (.nil false 1) (.cons (.same rfl) (.nil))))) (jE.ok x2.1 x7.1 ([]:List Int) 60) h10 (.ag (.cons (.same rfl rfl) (.cons (.same rfl rfl) (.cons (.own 5) (.nil))))) (hbor:=fun _=>⟨fhN,(zGc (SolveResult.fl _))⟩)) zB)) ?_
   refine J_d 2004 [] [23] [(23,bv (x9.Code==0))] [] [] zB ?_
   refine xR (atI c38 1003) (fun v12:(List Int)=>St.mk' [(0,pp 0),(5,rr 1 x2.1),(6,sl 1 zC v12),(7,rr 3 ([]:List Int)),(8,pp 6)] [(0,.box (zD.enc false x7.2)),(1,rE 8 (Pack.enc false) x2.1),(3,rE 1 zC ([]:List Int)),(6,.box (SolveResult.enc false x9))]) (fun v12=>?_) (fun jv12=>?_)
   ·refine zA (fun x13 h14=>?_)
    refine zA (fun x15 h16=>?_)
    refine zA (fun x17 h18=>?_)
    refine zA (fun x19 h20=>?_)
    refine J_d 2006 [] [] [] [0,6,9] [(0,.box (zD.enc false x17.2)),(6,.box [iv x19.Code,iv x19.Choices,rr 9 x19.Set]),(9,rE 1 zC x19.Set)] (zF 3 (wW («as»:=[pp 0,rr 1 x2.1]) [(.tmp 27),(.tmp 28)] [56,24] false [(0,.box (zD.enc false x7.2)),(1,rE 8 (Pack.enc false) x2.1)] [0,1] (.cons (.pt rfl) (.cons (.rf rfl) (.nil))) (zAj.ok x7.2 x2.1) h14 (.own 7)) (zF 7 (vD [(.const (.int .i64 1)),(.tmp 32)] [2,2] (zD0.ok 1 (x2.1.length:Int)) h16) (zF 8 (wW («as»:=[pp 0,iv x15]) [(.tmp 30),(.tmp 33)] [56,2] false [(0,.box (zD.enc false x13.2))] [0] (.cons (.pt rfl) (.cons (.same rfl) (.nil))) (zL.ok x13.2 x15) h18 (.same rfl rfl)) (zF 9 (zAZ 25 2 1 8 zC [x17.1] [0] [(.tmp 34)] [iv x17.1]) (zF 10 (wW («as»:=[rr 1 x2.1,rr 7 x13.1,rr 8 [x17.1],iv 60]) [(.tmp 26),(.tmp 29),(.tmp 35),(.const (.int .i64 60))] [24,80,25,2] true [(1,rE 8 (Pack.enc false) x2.1),(7,rE 7 Term.enc x13.1),(8,rE 1 zC [x17.1])] [] (.cons (zD1 (.head _) (Pack.ro false) rfl) (.cons (zD1 (.tail _ (.head _)) (fun _=>rfl) rfl) (.cons (zD1 (.tail _ (.tail _ (.head _))) (fun _=>rfl) rfl) (.cons (.same rfl) (.nil))))) (jE.ok x2.1 x13.1 [x17.1] 60) h20 (.ag (.cons (.same rfl rfl) (.cons (.same rfl rfl) (.cons (.own 9) (.nil))))) (hbor:=fun _=>⟨fhN,(zGc (SolveResult.fl _))⟩)) zB))))) ?_
    refine xR (atI c38 4015) (fun v22:Bool=>St.mk' [(0,pp 0),(5,rr 1 x2.1),(6,sl 1 zC v12),(7,rr 3 ([]:List Int)),(8,pp 6),(44,bv v22)] [(0,.box (zD.enc false x17.2)),(1,rE 8 (Pack.enc false) x2.1),(3,rE 1 zC ([]:List Int)),(6,.box [iv x19.Code,iv x19.Choices,rr 9 x19.Set]),(9,rE 1 zC x19.Set)]) (fun v22=>?_) (fun jv22=>?_)
    ·refine zG 44 (fun h23=>?_) (fun h23=>?_)
     ·refine J_d 8030 [] [7,8,44] [(7,rr 9 x19.Set)] [3,6] [] zB ?_
      exact yM (J_j (jv24 (x17.2.Code,x17.2.At,v12,x19.Set))) rfl
     ·refine vO 3 9 (Nat.le_of_ble_eq_true rfl) (Nat.le_of_ble_eq_true rfl) ?_
      exact yM (J_j (jv24 (x17.2.Code,x17.2.At,v12,([]:List Int)))) rfl
    ·refine vI (fun h21=>?_) (fun h21=>?_)
     ·refine J_d 4014 [] [44] [(44,bv (decide ((x2.1.length:Int)>0)))] [] [] (wO 3 [(39,bv (x19.Code==0))] [] h21 zB) ?_
      exact yM (J_j (jv22 (decide ((x2.1.length:Int)>0)))) rfl
     ·refine J_d 4014 [] [44] [(44,bv false)] [] [] (wO 3 [(39,bv (x19.Code==0))] [] h21 zB) ?_
      exact yM (J_j (jv22 false)) rfl
   ·refine zG 23 (fun h11=>?_) (fun h11=>?_)
    ·refine J_d 4010 [] [6,23] [(6,rr 5 x9.Set)] [2] [] zB ?_
     refine zEe [(0,pp 0),(5,rr 1 x2.1),(6,rr 5 x9.Set),(7,rr 3 ([]:List Int)),(8,pp 6)] [(5,rE 1 zC x9.Set),(0,.box (zD.enc false x7.2)),(1,rE 8 (Pack.enc false) x2.1),(3,rE 1 zC ([]:List Int)),(6,.box [iv x9.Code,iv x9.Choices,rr 5 x9.Set])] (by kernel_rfl) ?_
     refine zFY 5 (z:=1) (xs:=x9.Set.map zC) (tm2:=[(0,pp 0),(5,rr 1 x2.1),(6,sl 1 zC x9.Set),(7,rr 3 ([]:List Int)),(8,pp 6)]) (hp2:=[(0,.box (zD.enc false x7.2)),(1,rE 8 (Pack.enc false) x2.1),(3,rE 1 zC ([]:List Int)),(6,.box (SolveResult.enc false x9))]) (.cons (.keep rfl) (.cons (.keep rfl) (.cons (.rf (by simp) (zEt (enc:=zC) (enc':=zC) (fun _=>rfl) x9.Set rfl rfl)) (.cons (.keep rfl) (.cons (.keep rfl) (.nil)))))) (.keep rfl (.keep rfl (.keep rfl (.box rfl (.cons (.keep rfl) (.cons (.keep rfl) (.cons (.rf (by simp) (zEt (enc:=zC) (enc':=zC) (fun _=>rfl) x9.Set rfl rfl)) (.nil)))) (.nil))))) rfl ?_
     exact yM (J_j (jv12 x9.Set)) rfl
    ·refine zEe [(0,pp 0),(5,rr 1 x2.1),(6,rr 2 ([]:List Int)),(7,rr 3 ([]:List Int)),(8,pp 6),(23,bv false)] [(2,rE 1 zC ([]:List Int)),(0,.box (zD.enc false x7.2)),(1,rE 8 (Pack.enc false) x2.1),(3,rE 1 zC ([]:List Int)),(5,rE 1 zC x9.Set),(6,.box [iv x9.Code,iv x9.Choices,rr 5 x9.Set])] (by kernel_rfl) ?_
     refine zFY 2 (z:=1) (xs:=([]:List Int).map zC) (tm2:=[(0,pp 0),(5,rr 1 x2.1),(6,sl 1 zC ([]:List Int)),(7,rr 3 ([]:List Int)),(8,pp 6),(23,bv false)]) (hp2:=[(0,.box (zD.enc false x7.2)),(1,rE 8 (Pack.enc false) x2.1),(3,rE 1 zC ([]:List Int)),(5,rE 1 zC x9.Set),(6,.box [iv x9.Code,iv x9.Choices,rr 5 x9.Set])]) (.cons (.keep rfl) (.cons (.keep rfl) (.cons (.rf (by simp) (zEt (enc:=zC) (enc':=zC) (fun _=>rfl) ([]:List Int) rfl rfl)) (.cons (.keep rfl) (.cons (.keep rfl) (.cons (.keep rfl) (.nil))))))) (.keep rfl (.keep rfl (.keep rfl (.keep rfl (.keep rfl (.nil)))))) rfl ?_
     refine zEe [(0,pp 0),(5,rr 1 x2.1),(6,sl 1 zC ([]:List Int)),(7,rr 3 ([]:List Int)),(8,pp 6),(23,bv false)] [(5,rE 1 zC x9.Set),(0,.box (zD.enc false x7.2)),(1,rE 8 (Pack.enc false) x2.1),(3,rE 1 zC ([]:List Int)),(6,.box [iv x9.Code,iv x9.Choices,rr 5 x9.Set])] (by kernel_rfl) ?_
     refine zFY 5 (z:=1) (xs:=x9.Set.map zC) (tm2:=[(0,pp 0),(5,rr 1 x2.1),(6,sl 1 zC ([]:List Int)),(7,rr 3 ([]:List Int)),(8,pp 6),(23,bv false)]) (hp2:=[(0,.box (zD.enc false x7.2)),(1,rE 8 (Pack.enc false) x2.1),(3,rE 1 zC ([]:List Int)),(6,.box (SolveResult.enc false x9))]) (.cons (.keep rfl) (.cons (.keep rfl) (.cons (.keep rfl) (.cons (.keep rfl) (.cons (.keep rfl) (.cons (.keep rfl) (.nil))))))) (.keep rfl (.keep rfl (.keep rfl (.box rfl (.cons (.keep rfl) (.cons (.keep rfl) (.cons (.rf (by simp) (zEt (enc:=zC) (enc':=zC) (fun _=>rfl) x9.Set rfl rfl)) (.nil)))) (.nil))))) rfl ?_
     exact yM (J_j (jv12 ([]:List Int))) rfl
  ·refine zEe [(0,pp 0),(5,rr 1 x2.1),(6,rr 2 ([]:List Int)),(7,rr 3 ([]:List Int)),(15,bv false)] [(2,rE 1 zC ([]:List Int)),(0,.box (zD.enc false x2.2)),(1,rE 8 (Pack.enc false) x2.1),(3,rE 1 zC ([]:List Int))] (by kernel_rfl) ?_
   refine zFY 2 (z:=1) (xs:=([]:List Int).map zC) (tm2:=[(0,pp 0),(5,rr 1 x2.1),(6,sl 1 zC ([]:List Int)),(7,rr 3 ([]:List Int)),(15,bv false)]) (hp2:=[(0,.box (zD.enc false x2.2)),(1,rE 8 (Pack.enc false) x2.1),(3,rE 1 zC ([]:List Int))]) (.cons (.keep rfl) (.cons (.keep rfl) (.cons (.rf (by simp) (zEt (enc:=zC) (enc':=zC) (fun _=>rfl) ([]:List Int) rfl rfl)) (.cons (.keep rfl) (.cons (.keep rfl) (.nil)))))) (.keep rfl (.keep rfl (.keep rfl (.nil)))) rfl ?_
   refine vO 3 9 (Nat.le_of_ble_eq_true rfl) (Nat.le_of_ble_eq_true rfl) ?_
   exact yM (J_j (jv24 (x2.2.Code,x2.2.At,([]:List Int),([]:List Int)))) rfl
noncomputable def c58:Code:=(Tryz.f58.body).getD .skip
theorem zD3.ok (a1:(List Pack)) (a2:(List Int)) (q:Wd) (kn:Unit→Option (D×List Ent)) (hk:∀v:Unit,J (q.g Tryz.prog 58 0 37) c58 (atI c58 7) (St.mk' [] []) (some v) kn):
  ∀s16:Int,J (q.g Tryz.prog 58 0 37) c58 (atI c58 52) (St.mk' [(0,sl 8 (Pack.enc false) a1),(1,sl 1 zC a2),(5,iv s16)] []) (zD3 a1 a2 s16) (Fl.go (fun r:Bool=>some (bv r,[])) kn):=by
 refine zAq (fun g ih s16=>?_)
 unfold zDk
 refine J_d 208 [] [9] [(9,bv (decide (s16< (a2.length:Int))))] [] [] zB ?_
 refine zG 9 (fun h17=>?_) (fun h17=>?_)
 ·refine zA (fun x18 h19=>?_)
  refine zA (fun x20 h21=>?_)
  refine xR (atI c58 841) (fun v28:Bool=>St.mk' [(0,sl 8 (Pack.enc false) a1),(1,sl 1 zC a2),(5,iv s16),(36,bv v28)] []) (fun v28=>?_) (fun jv28=>?_)
  ·refine zG 36 (fun h29=>?_) (fun h29=>?_)
   ·refine J_g 3364 [] [(4,bv false)] [] zB ?_
    exact xJ rfl
   ·refine J_d 211 [] [5,36] [(5,iv (w64 (s16+1)))] [] [] zB ?_
    exact J_q (J_b (ih (w64 (s16+1)))) rfl
  ·refine vI (fun h22=>?_) (fun h22=>?_)
   ·refine J_d 840 [] [9,36] [(36,bv true)] [] [] (zF 2 (uN (kk:=.i64) 25 2 1 zC (.tmp 12) (.tmp 13) h19) (zF 7 (vD [(.tmp 15),(.const (.int .i64 0)),(.tmp 18)] [2,2,2] (uM.ok x18 0 (w64 ((a1.length:Int)-1))) h21) (wO 9 [(20,bv (!x20))] [] h22 (zGZ 12 (zHa (i:=12) (g:=9) (t:=21) (b:=false) (v:=(.bool true)) (.inl rfl) (by kernel_rfl) (by kernel_rfl)) (zGZ 13 (zHa (i:=13) (g:=12) (t:=24) (b:=true) (v:=undef) (.inr rfl) (by kernel_rfl) (by kernel_rfl)) (zGZ 14 (zHa (i:=14) (g:=12) (t:=24) (b:=true) (v:=undef) (.inr rfl) (by kernel_rfl) (by kernel_rfl)) (zGZ 15 (zHa (i:=15) (g:=12) (t:=24) (b:=true) (v:=undef) (.inr rfl) (by kernel_rfl) (by kernel_rfl)) (zGZ 16 (zHa (i:=16) (g:=12) (t:=24) (b:=true) (v:=undef) (.inr rfl) (by kernel_rfl) (by kernel_rfl)) (zGZ 17 (zHa (i:=17) (g:=12) (t:=24) (b:=true) (v:=undef) (.inr rfl) (by kernel_rfl) (by kernel_rfl)) (zGZ 18 (zHa (i:=18) (g:=12) (t:=24) (b:=true) (v:=undef) (.inr rfl) (by kernel_rfl) (by kernel_rfl)) (zGZ 19 (zHa (i:=19) (g:=12) (t:=24) (b:=true) (v:=undef) (.inr rfl) (by kernel_rfl) (by kernel_rfl)) (zGZ 20 (zHa (i:=20) (g:=12) (t:=24) (b:=true) (v:=undef) (.inr rfl) (by kernel_rfl) (by kernel_rfl)) (zGZ 21 (zHa (i:=21) (g:=12) (t:=24) (b:=true) (v:=undef) (.inr rfl) (by kernel_rfl) (by kernel_rfl)) (zGZ 22 (zHa (i:=22) (g:=12) (t:=24) (b:=true) (v:=undef) (.inr rfl) (by kernel_rfl) (by kernel_rfl)) zB)))))))))))))) ?_
    exact yM (J_j (jv28 true)) rfl
   ·refine vI (fun h23=>?_) (fun h23=>?_)
    ·refine zA (fun x24 h25=>?_)
     refine zA (fun x26 h27=>?_)
     refine J_d 840 [] [9,36] [(36,bv (decide (x24≤x26)))] [] [] (zF 2 (uN (kk:=.i64) 25 2 1 zC (.tmp 12) (.tmp 13) h19) (zF 7 (vD [(.tmp 15),(.const (.int .i64 0)),(.tmp 18)] [2,2,2] (uM.ok x18 0 (w64 ((a1.length:Int)-1))) h21) (wO 9 [(20,bv (!x20))] [] h22 (zFR 12 9 21 false [(23,bv (decide (s16>0)))] [] h23 (zAm 15 12 24 true (uN (kk:=.i64) 25 2 1 zC (.tmp 25) (.tmp 26) h25) (zAm 20 12 24 true (uN (kk:=.i64) 25 2 1 zC (.tmp 29) (.tmp 31) h27) zB)))))) ?_
     exact yM (J_j (jv28 (decide (x24≤x26)))) rfl
    ·refine J_d 840 [] [9,36] [(36,bv false)] [] [] (zF 2 (uN (kk:=.i64) 25 2 1 zC (.tmp 12) (.tmp 13) h19) (zF 7 (vD [(.tmp 15),(.const (.int .i64 0)),(.tmp 18)] [2,2,2] (uM.ok x18 0 (w64 ((a1.length:Int)-1))) h21) (wO 9 [(20,bv (!x20))] [] h22 (zFR 12 9 21 false [(23,bv (decide (s16>0)))] [] h23 zB)))) ?_
     exact yM (J_j (jv28 false)) rfl
 ·exact yM (hk ()) rfl
theorem zDT.ok (a1:(List Pack)) (a2:(List Int)):Ok Tryz.prog 58 [sl 8 (Pack.enc false) a1,sl 1 zC a2] [] ((zDT a1 a2).map fun r=>(bv r,[])):=by
 refine zJ c58 Tryz.f58 0 37 (fun q=>?_)
 unfold zDT
 refine J_g 2 [] [(0,sl 8 (Pack.enc false) a1),(1,sl 1 zC a2)] [] zB ?_
 refine J_d 12 [] [5] [(5,iv 0)] [] [] zB ?_
 refine jO (K0:=(fun r:Bool=>some (bv r,[]))) (fun _=>rfl) (zD3.ok a1 a2 q _ (fun v30=>J_j ?_) 0)
 refine J_g 14 [] [(4,bv true)] [] zB ?_
 exact xJ rfl
noncomputable def c39:Code:=(Tryz.f39.body).getD .skip
theorem kD.ok (a1:(List Pack)) (a2:(List Int)):Ok Tryz.prog 39 [sl 8 (Pack.enc false) a1,sl 1 zC a2] [] ((kD a1 a2).map fun r=>(iv r,[])):=by
 refine zJ c39 Tryz.f39 0 15 (fun q=>?_)
 unfold kD
 refine J_d 2 [] [] [] [] [] zB ?_
 refine zA (fun x3 h4=>?_)
 refine J_g 12 [] [(0,sl 8 (Pack.enc false) a1),(1,sl 1 zC a2),(5,iv x3)] [] (zF 1 (vD [(.tmp 6)] [24] (wK.ok a1) h4) zB) ?_
 refine J_d 26 [] [9] [(9,bv (x3 !=0))] [] [] zB ?_
 refine zG 9 (fun h5=>?_) (fun h5=>?_)
 ·refine J_g 108 [] [(4,iv x3)] [] zB ?_
  exact xJ rfl
 ·refine zA (fun x6 h7=>?_)
  refine J_g 28 [] [(14,bv (!x6))] [] (zF 2 (vD [(.tmp 11),(.tmp 12)] [24,25] (zDT.ok a1 a2) h7) zB) ?_
  refine zG 14 (fun h8=>?_) (fun h8=>?_)
  ·refine J_g 116 [] [(4,iv 1)] [] zB ?_
   exact xJ rfl
  ·refine J_g 30 [] [(4,iv 0)] [] zB ?_
   exact xJ rfl
noncomputable def c81:Code:=(Tryz.f81.body).getD .skip
theorem zDA.ok (a1:(List Pack)) (a2:(List Int)) (a3:ByteArray) (q:Wd) (kn:Unit→Option (D×List Ent)) (hk:∀v:Unit,J (q.g Tryz.prog 81 0 28) c81 (atI c81 7) (St.mk' [] []) (some v) kn):
  ∀s12:Int,J (q.g Tryz.prog 81 0 28) c81 (atI c81 52) (St.mk' [(0,sl 8 (Pack.enc false) a1),(1,sl 1 zC a2),(2,sv a3),(7,iv s12)] []) (zDA a1 a2 a3 s12) (Fl.go (fun r:Int=>some (iv r,[])) kn):=by
 refine zAq (fun g ih s12=>?_)
 unfold zDf
 refine J_d 208 [] [11] [(11,bv (decide (s12< (a2.length:Int))))] [] [] zB ?_
 refine zG 11 (fun h13=>?_) (fun h13=>?_)
 ·refine zA (fun x14 h15=>?_)
  refine zA (fun x16 h17=>?_)
  refine J_d 840 [] [11,23] [(23,bv (seq x16.Name a3))] [] [] (zF 3 (uN (kk:=.i64) 25 2 1 zC (.tmp 15) (.tmp 16) h15) (zF 5 (uN (kk:=.i64) 24 91 8 (Pack.enc false) (.tmp 14) (.tmp 18) h17) zB)) ?_
  refine zG 23 (fun h18=>?_) (fun h18=>?_)
  ·refine zA (fun x19 h20=>?_)
   refine J_g 3364 [] [(6,iv x19)] [] (zF 2 (uN (kk:=.i64) 25 2 1 zC (.tmp 24) (.tmp 25) h20) zB) ?_
   exact xJ rfl
  ·refine J_d 211 [] [7,23] [(7,iv (w64 (s12+1)))] [] [] zB ?_
   exact J_q (J_b (ih (w64 (s12+1)))) rfl
 ·exact yM (hk ()) rfl
theorem tT.ok (a1:(List Pack)) (a2:(List Int)) (a3:ByteArray):Ok Tryz.prog 81 [sl 8 (Pack.enc false) a1,sl 1 zC a2,sv a3] [] ((tT a1 a2 a3).map fun r=>(iv r,[])):=by
 refine zJ c81 Tryz.f81 0 28 (fun q=>?_)
 unfold tT
 refine J_g 2 [] [(0,sl 8 (Pack.enc false) a1),(1,sl 1 zC a2),(2,sv a3)] [] zB ?_
 refine J_d 12 [] [7] [(7,iv 0)] [] [] zB ?_
 refine jO (K0:=(fun r:Int=>some (iv r,[]))) (fun _=>rfl) (zDA.ok a1 a2 a3 q _ (fun v21=>J_j ?_) 0)
 refine J_g 14 [] [(6,iv (-1))] [] zB ?_
 exact xJ rfl
noncomputable def c63:Code:=(Tryz.f63.body).getD .skip
theorem zCu.ok (a1:(List Pack)) (a2:(List Int)) (q:Wd) (kn:Unit→Option (D×List Ent)) (hk:∀v:Unit,J (q.g Tryz.prog 63 0 28) c63 (atI c63 7) (St.mk' [] []) (some v) kn):
  ∀s13:Int,J (q.g Tryz.prog 63 0 28) c63 (atI c63 52) (St.mk' [(0,sl 8 (Pack.enc false) a1),(1,sl 1 zC a2),(5,iv s13)] []) (zCu a1 a2 s13) (Fl.go (fun r:Bool=>some (bv r,[])) kn):=by
 refine zAq (fun g ih s13=>?_)
 unfold zBK
 refine J_d 208 [] [9] [(9,bv (decide (s13< (a2.length:Int))))] [] [] zB ?_
 refine zG 9 (fun h14=>?_) (fun h14=>?_)
 ·refine zA (fun x15 h16=>?_)
  refine zA (fun x17 h18=>?_)
  refine zA (fun x19 h20=>?_)
  refine zA (fun x21 h22=>?_)
  refine J_d 840 [] [9,27] [(27,bv (x19 !=x21))] [] [] (zF 5 (uN (kk:=.i64) 25 2 1 zC (.tmp 15) (.tmp 16) h16) (zF 7 (uN (kk:=.i64) 24 91 8 (Pack.enc false) (.tmp 14) (.tmp 18) h18) (zF 10 (vD [(.tmp 12),(.tmp 13),(.tmp 21)] [24,25,9] (tT.ok a1 a2 x17.Name) h20) (zF 13 (uN (kk:=.i64) 25 2 1 zC (.tmp 23) (.tmp 24) h22) zB)))) ?_
  refine zG 27 (fun h23=>?_) (fun h23=>?_)
  ·refine J_g 3364 [] [(4,bv false)] [] zB ?_
   exact xJ rfl
  ·refine J_d 211 [] [5,27] [(5,iv (w64 (s13+1)))] [] [] zB ?_
   exact J_q (J_b (ih (w64 (s13+1)))) rfl
 ·exact yM (hk ()) rfl
theorem kF.ok (a1:(List Pack)) (a2:(List Int)):Ok Tryz.prog 63 [sl 8 (Pack.enc false) a1,sl 1 zC a2] [] ((kF a1 a2).map fun r=>(bv r,[])):=by
 refine zJ c63 Tryz.f63 0 28 (fun q=>?_)
 unfold kF
 refine J_g 2 [] [(0,sl 8 (Pack.enc false) a1),(1,sl 1 zC a2)] [] zB ?_
 refine J_d 12 [] [5] [(5,iv 0)] [] [] zB ?_
 refine jO (K0:=(fun r:Bool=>some (bv r,[]))) (fun _=>rfl) (zCu.ok a1 a2 q _ (fun v24=>J_j ?_) 0)
 refine J_g 14 [] [(4,bv true)] [] zB ?_
 exact xJ rfl
noncomputable def c32:Code:=(Tryz.f32.body).getD .skip
theorem kH.ok (a1:(List Pack)) (a2:(List Int)) (a3:(List Int)):Ok Tryz.prog 32 [sl 8 (Pack.enc false) a1,sl 1 zC a2,sl 1 zC a3] [] ((kH a1 a2 a3).map fun r=>(iv r,[])):=by
 refine zJ c32 Tryz.f32 0 31 (fun q=>?_)
 unfold kH
 refine J_d 2 [] [] [] [] [] zB ?_
 refine zA (fun x4 h5=>?_)
 refine J_g 12 [] [(0,sl 8 (Pack.enc false) a1),(1,sl 1 zC a2),(2,sl 1 zC a3),(7,iv x4)] [] (zF 2 (vD [(.tmp 9),(.tmp 10)] [24,25] (kD.ok a1 a2) h5) zB) ?_
 refine J_d 26 [] [13] [(13,bv (x4 !=0))] [] [] zB ?_
 refine zG 13 (fun h6=>?_) (fun h6=>?_)
 ·refine J_g 108 [] [(6,iv x4)] [] zB ?_
  exact xJ rfl
 ·refine zA (fun x7 h8=>?_)
  refine J_g 28 [] [(0,sl 8 (Pack.enc false) a1),(1,sl 1 zC a2),(2,sl 1 zC a3),(8,iv x7)] [] (zF 2 (vD [(.tmp 15),(.tmp 16)] [24,25] (kD.ok a1 a3) h8) zB) ?_
  refine J_d 58 [] [19] [(19,bv (x7 !=0))] [] [] zB ?_
  refine zG 19 (fun h9=>?_) (fun h9=>?_)
  ·refine J_g 236 [] [(6,iv x7)] [] zB ?_
   exact xJ rfl
  ·refine zA (fun x10 h11=>?_)
   refine xR (atI c32 61) (fun v15:Bool=>St.mk' [(30,bv v15)] []) (fun v15=>?_) (fun jv15=>?_)
   ·refine zG 30 (fun h16=>?_) (fun h16=>?_)
    ·refine J_g 244 [] [(6,iv 6)] [] zB ?_
     exact xJ rfl
    ·refine J_g 62 [] [(6,iv 0)] [] zB ?_
     exact xJ rfl
   ·refine vI (fun h12=>?_) (fun h12=>?_)
    ·refine J_g 60 [] [(30,bv true)] [] (zF 2 (vD [(.tmp 21),(.tmp 22)] [24,25] (kF.ok a1 a2) h11) (wO 4 [(24,bv (!x10))] [] h12 zB)) ?_
     exact yM (J_j (jv15 true)) rfl
    ·refine zA (fun x13 h14=>?_)
     refine J_g 60 [] [(30,bv (!x13))] [] (zF 2 (vD [(.tmp 21),(.tmp 22)] [24,25] (kF.ok a1 a2) h11) (wO 4 [(24,bv (!x10))] [] h12 (zAm 7 4 25 false (vD [(.tmp 26),(.tmp 27)] [24,25] (kF.ok a1 a3) h14) zB))) ?_
     exact yM (J_j (jv15 (!x13))) rfl
noncomputable def c66:Code:=(Tryz.f66.body).getD .skip
theorem zDc.ok (a1:(List ByteArray)) (a2:ByteArray) (q:Wd) (kn:((List ByteArray)×Bool)→Option (D×List Ent)) (hk:∀v:((List ByteArray)×Bool),J (q.g Tryz.prog 66 1 50) c66 (atI c66 31) (St.mk' [(1,sv a2),(5,rr 1 v.1),(6,bv v.2)] [(0,rE 1 eStr a1),(1,rE 1 eStr v.1)]) (some v) kn):
  ∀s19:((List ByteArray)×Bool×Int),J (q.g Tryz.prog 66 1 50) c66 (atI c66 244) (St.mk' [(0,rr 0 a1),(1,sv a2),(5,rr 1 s19.1),(6,bv s19.2.1),(7,iv s19.2.2)] [(0,rE 1 eStr a1),(1,rE 1 eStr s19.1)]) (zDc a1 a2 s19) (Fl.go (fun r:(List ByteArray)=>some (so 1 eStr r,[])) kn):=by
 refine zAq (fun g ih s19=>?_)
 unfold zCC
 refine J_d 976 [] [12] [(12,bv (decide (s19.2.2< (a1.length:Int))))] [] [] zB ?_
 refine zG 12 (fun h20=>?_) (fun h20=>?_)
 ·refine zA (fun x21 h22=>?_)
  refine J_d 7824 [] [12,20] [(20,bv (seq x21 a2))] [] [] (zF 2 (zCb (kk:=.i64) 32 9 1 0 eStr (.tmp 15) (.tmp 16) h22) (zF 3 (zCK (d:=sv x21) 9 1 0 0 eStr (.tmp 17) h22 (by kernel_rfl)) zB)) ?_
  refine zG 20 (fun h23=>?_) (fun h23=>?_)
  ·refine J_g 31300 [] [(4,rr 0 a1)] [(0,rE 1 eStr a1)] zB ?_
   exact zEf (ds:=[rr 0 a1]) (ds':=[so 1 eStr a1]) (.cons (.cell (.move (.head _) (List.length_map _) (by decide) (.nil))) (.nil) (by decide)) rfl
  ·refine zA (fun x24 h25=>?_)
   refine xR (atI c66 15653) (fun v27:Bool=>St.mk' [(0,rr 0 a1),(1,sv a2),(5,rr 1 s19.1),(6,bv s19.2.1),(7,iv s19.2.2),(31,bv v27)] [(0,rE 1 eStr a1),(1,rE 1 eStr s19.1)]) (fun v27=>?_) (fun jv27=>?_)
   ·refine xR (atI c66 7827) (fun v31:((List ByteArray)×Bool)=>St.mk' [(0,rr 0 a1),(1,sv a2),(5,rr 3 v31.1),(6,bv v31.2),(7,iv s19.2.2)] [(0,rE 1 eStr a1),(3,rE 1 eStr v31.1)]) (fun v31=>?_) (fun jv31=>?_)
    ·refine zA (fun x32 h33=>?_)
     refine zA (fun x34 h35=>?_)
     refine J_g 7827 [] [(0,rr 0 a1),(1,sv a2),(5,rr 5 x34),(6,bv v31.2),(7,iv s19.2.2)] [(0,rE 1 eStr a1),(5,rE 1 eStr x34)] (zF 3 (zCb (kk:=.i64) 32 9 1 0 eStr (.tmp 37) (.tmp 38) h33) (zF 4 (zCK (d:=sv x32) 9 1 0 0 eStr (.tmp 39) h33 (by kernel_rfl)) (zF 5 (zAZ 32 9 1 4 eStr [x32] [0] [(.tmp 40)] [sv x32]) (zF 6 (zEK 32 32 9 9 1 16 5 3 4 eStr (.tmp 36) (.tmp 41) h35) zB)))) ?_
     refine J_d 979 [] [7] [(7,iv (w64 (s19.2.2+1)))] [] [] zB ?_
     refine vO 5 1 (Nat.le_of_ble_eq_true rfl) (Nat.le_of_ble_eq_true rfl) ?_
     exact J_q (J_b (ih (x34,v31.2,w64 (s19.2.2+1)))) rfl
    ·refine zG 31 (fun h28=>?_) (fun h28=>?_)
     ·refine zA (fun x29 h30=>?_)
      refine J_g 62612 [] [(0,rr 0 a1),(1,sv a2),(5,rr 3 x29),(7,iv s19.2.2)] [(0,rE 1 eStr a1),(3,rE 1 eStr x29)] (zF 2 (zAZ 32 9 1 2 eStr [a2] [0] [(.tmp 33)] [sv a2]) (zF 3 (zEK 32 32 9 9 1 16 3 1 2 eStr (.tmp 32) (.tmp 34) h30) zB)) ?_
      refine J_d 62613 [] [6] [(6,bv true)] [] [] zB ?_
      exact yM (J_j (jv31 (x29,true))) rfl
     ·refine vO 1 3 (Nat.le_of_ble_eq_true rfl) (Nat.le_of_ble_eq_true rfl) ?_
      exact yM (J_j (jv31 (s19.1,s19.2.1))) rfl
   ·refine vI (fun h26=>?_) (fun h26=>?_)
    ·refine J_d 15652 [] [20,31] [(31,bv (!s19.2.1))] [] [] (zF 2 (zCb (kk:=.i64) 32 9 1 0 eStr (.tmp 22) (.tmp 23) h25) (zF 3 (zCK (d:=sv x24) 9 1 0 0 eStr (.tmp 24) h25 (by kernel_rfl)) (wO 6 [(27,bv (!(slt x24 a2||seq x24 a2)))] [] h26 zB))) ?_
     exact yM (J_j (jv27 (!s19.2.1))) rfl
    ·refine J_d 15652 [] [20,31] [(31,bv false)] [] [] (zF 2 (zCb (kk:=.i64) 32 9 1 0 eStr (.tmp 22) (.tmp 23) h25) (zF 3 (zCK (d:=sv x24) 9 1 0 0 eStr (.tmp 24) h25 (by kernel_rfl)) (wO 6 [(27,bv (!(slt x24 a2||seq x24 a2)))] [] h26 zB))) ?_
     exact yM (J_j (jv27 false)) rfl
 ·exact yM (hk (s19.1,s19.2.1)) rfl
theorem vS.ok (a1:(List ByteArray)) (a2:ByteArray):Ok Tryz.prog 66 [rr 0 a1,sv a2] [rE 1 eStr a1] ((vS a1 a2).map fun r=>(so 1 eStr r,[])):=by
 refine zJ c66 Tryz.f66 1 50 (fun q=>?_)
 unfold vS
 refine J_g 2 [] [(0,rr 0 a1),(1,sv a2)] [(0,rE 1 eStr a1)] zB ?_
 refine J_g 6 [] [(0,rr 0 a1),(1,sv a2),(5,rr 1 ([]:List ByteArray))] [(0,rE 1 eStr a1),(1,rE 1 eStr ([]:List ByteArray))] (zF 0 (zAZ 32 9 1 1 eStr ([]:List ByteArray) [] [] []) zB) ?_
 refine J_g 14 [] [(0,rr 0 a1),(1,sv a2),(5,rr 1 ([]:List ByteArray)),(6,bv false)] [(0,rE 1 eStr a1),(1,rE 1 eStr ([]:List ByteArray))] zB ?_
 refine J_d 60 [] [7] [(7,iv 0)] [] [] zB ?_
 refine jO (K0:=(fun r:(List ByteArray)=>some (so 1 eStr r,[]))) (fun _=>rfl) (zDc.ok a1 a2 q _ (fun v36=>J_j ?_) (([]:List ByteArray),false,0))
 refine J_d 124 [] [6,44] [(44,bv (!v36.2))] [] [] zB ?_
 refine xR (atI c66 63) (fun v40:(List ByteArray)=>St.mk' [(5,rr 3 v40)] [(0,rE 1 eStr a1),(3,rE 1 eStr v40)]) (fun v40=>?_) (fun jv40=>?_)
 ·refine J_g 126 [] [(4,rr 3 v40)] [(0,rE 1 eStr a1),(3,rE 1 eStr v40)] zB ?_
  exact zEf (ds:=[rr 3 v40]) (ds':=[so 1 eStr v40]) (.cons (.cell (.move (.tail _ (.head _)) (List.length_map _) (by decide) (.nil))) (.nil) (by decide)) rfl
 ·refine zG 44 (fun h37=>?_) (fun h37=>?_)
  ·refine zA (fun x38 h39=>?_)
   refine J_g 250 [] [(5,rr 3 x38)] [(0,rE 1 eStr a1),(3,rE 1 eStr x38)] (zF 2 (zAZ 32 9 1 2 eStr [a2] [0] [(.tmp 46)] [sv a2]) (zF 3 (zEK 32 32 9 9 1 16 3 1 2 eStr (.tmp 45) (.tmp 47) h39) zB)) ?_
   exact yM (J_j (jv40 x38)) rfl
  ·refine vO 1 3 (Nat.le_of_ble_eq_true rfl) (Nat.le_of_ble_eq_true rfl) ?_
   exact yM (J_j (jv40 v36.1)) rfl
noncomputable def c37:Code:=(Tryz.f37.body).getD .skip
theorem zBd.ok (a1:(List Pack)) (a2:(List Int)) (a3:(List Int)) (q:Wd) (kn:(List ByteArray)→Option (D×List Ent)) (hk:∀v:(List ByteArray),J (q.g Tryz.prog 37 0 35) c37 (atI c37 15) (St.mk' [(7,rr 0 v)] [(0,rE 1 eStr v)]) (some v) kn):
  ∀s15:((List ByteArray)×Int),J (q.g Tryz.prog 37 0 35) c37 (atI c37 116) (St.mk' [(0,sl 8 (Pack.enc false) a1),(1,sl 1 zC a2),(2,sl 1 zC a3),(7,rr 0 s15.1),(8,iv s15.2)] [(0,rE 1 eStr s15.1)]) (zBd a1 a2 a3 s15) kn:=by
 refine zAq (fun g ih s15=>?_)
 unfold zAH
 refine J_d 464 [] [14] [(14,bv (decide (s15.2< (a1.length:Int))))] [] [] zB ?_
 refine zG 14 (fun h16=>?_) (fun h16=>?_)
 ·refine zA (fun x17 h18=>?_)
  refine J_d 1864 [] [9,14] [(9,sv x17.Name)] [] [] (zF 2 (uN (kk:=.i64) 24 91 8 (Pack.enc false) (.tmp 17) (.tmp 18) h18) zB) ?_
  refine zA (fun x19 h20=>?_)
  refine zA (fun x21 h22=>?_)
  refine J_d 3730 [] [30] [(30,bv (x19 !=x21))] [] [] (zF 3 (vD [(.tmp 22),(.tmp 23),(.tmp 24)] [24,25,9] (tT.ok a1 a2 x17.Name) h20) (zF 7 (vD [(.tmp 26),(.tmp 27),(.tmp 28)] [24,25,9] (tT.ok a1 a3 x17.Name) h22) zB)) ?_
  refine xR (aft c37 932) (fun v26:(List ByteArray)=>St.mk' [(0,sl 8 (Pack.enc false) a1),(1,sl 1 zC a2),(2,sl 1 zC a3),(7,rr 1 v26),(8,iv s15.2)] [(1,rE 1 eStr v26)]) (fun v26=>?_) (fun jv26=>?_)
  ·refine J_d 467 [] [8] [(8,iv (w64 (s15.2+1)))] [] [] zB ?_
   refine vO 1 0 (Nat.le_of_ble_eq_true rfl) (Nat.le_of_ble_eq_true rfl) ?_
   exact J_q (J_b (ih (v26,w64 (s15.2+1)))) rfl
  ·refine zG 30 (fun h23=>?_) (fun h23=>?_)
   ·refine zA (fun x24 h25=>?_)
    refine J_d 7462 [] [7,9,30] [(7,rr 1 x24)] [0,1] [(1,rE 1 eStr x24)] (zF 2 (wW («as»:=[rr 0 s15.1,sv x17.Name]) [(.tmp 31),(.tmp 32)] [32,9] false [(0,rE 1 eStr s15.1)] [0] (.cons (.rf rfl) (.cons (.same rfl) (.nil))) (vS.ok s15.1 x17.Name) h25 (.own 1)) zB) ?_
    exact yM (J_j (jv26 x24)) rfl
   ·refine vO 0 1 (Nat.le_of_ble_eq_true rfl) (Nat.le_of_ble_eq_true rfl) ?_
    exact yM (J_j (jv26 s15.1)) rfl
 ·exact yM (hk s15.1) rfl
theorem vY.ok (a1:(List Pack)) (a2:(List Int)) (a3:(List Int)):Ok Tryz.prog 37 [sl 8 (Pack.enc false) a1,sl 1 zC a2,sl 1 zC a3] [] ((vY a1 a2 a3).map fun r=>(so 1 eStr r,[])):=by
 refine zJ c37 Tryz.f37 0 35 (fun q=>?_)
 unfold vY
 refine J_g 2 [] [(0,sl 8 (Pack.enc false) a1),(1,sl 1 zC a2),(2,sl 1 zC a3)] [] zB ?_
 refine J_g 6 [] [(0,sl 8 (Pack.enc false) a1),(1,sl 1 zC a2),(2,sl 1 zC a3),(7,rr 0 ([]:List ByteArray))] [(0,rE 1 eStr ([]:List ByteArray))] (zF 0 (zAZ 32 9 1 0 eStr ([]:List ByteArray) [] [] []) zB) ?_
 refine J_d 28 [] [8] [(8,iv 0)] [] [] zB ?_
 refine zET (zBd.ok a1 a2 a3 q _ (fun v27=>J_j ?_) (([]:List ByteArray),0))
 refine J_g 30 [] [(6,rr 0 v27)] [(0,rE 1 eStr v27)] zB ?_
 exact zEf (ds:=[rr 0 v27]) (ds':=[so 1 eStr v27]) (.cons (.cell (.move (.head _) (List.length_map _) (by decide) (.nil))) (.nil) (by decide)) rfl
noncomputable def c156:Code:=(Tryz.f156.body).getD .skip
theorem zB5.ok (a1:(List Pack)) (a2:(List Int)) (a3:(List Int)) (a4:ByteArray):Ok Tryz.prog 156 [sl 8 (Pack.enc false) a1,sl 1 zC a2,sl 1 zC a3,sv a4] [] ((zB5 a1 a2 a3 a4).map fun r=>(so 8 (Pack.enc false) r,[])):=by
 refine zJ c156 Tryz.f156 0 40 (fun q=>?_)
 unfold zB5
 refine J_g 2 [] [(0,sl 8 (Pack.enc false) a1),(1,sl 1 zC a2),(2,sl 1 zC a3),(3,sv a4)] [] zB ?_
 refine J_d 6 [] [9] [(9,rr 0 ([]:List Pack))] [0] [(0,rE 8 (Pack.enc false) ([]:List Pack))] (zF 0 (zAZ 24 91 8 0 (Pack.enc false) ([]:List Pack) [] [] []) zB) ?_
 refine zA (fun x5 h6=>?_)
 refine J_g 28 [] [(0,sl 8 (Pack.enc false) a1),(2,sl 1 zC a3),(3,sv a4),(9,rr 0 ([]:List Pack)),(10,iv x5)] [(0,rE 8 (Pack.enc false) ([]:List Pack))] (zF 3 (vD [(.tmp 13),(.tmp 14),(.tmp 15)] [24,25,9] (tT.ok a1 a2 a4) h6) zB) ?_
 refine J_d 58 [] [18] [(18,bv (decide (x5≥0)))] [] [] zB ?_
 refine xR (atI c156 15) (fun v12:(List Pack)=>St.mk' [(0,sl 8 (Pack.enc false) a1),(2,sl 1 zC a3),(3,sv a4),(9,rr 2 v12)] [(2,rE 8 (Pack.enc false) v12)]) (fun v12=>?_) (fun jv12=>?_)
 ·refine zA (fun x13 h14=>?_)
  refine J_g 60 [] [(0,sl 8 (Pack.enc false) a1),(9,rr 2 v12),(11,iv x13)] [(2,rE 8 (Pack.enc false) v12)] (zF 3 (vD [(.tmp 26),(.tmp 27),(.tmp 28)] [24,25,9] (tT.ok a1 a3 a4) h14) zB) ?_
  refine J_d 122 [] [31] [(31,bv (decide (x13≥0)))] [] [] zB ?_
  refine xR (atI c156 31) (fun v20:(List Pack)=>St.mk' [(9,rr 4 v20)] [(4,rE 8 (Pack.enc false) v20)]) (fun v20=>?_) (fun jv20=>?_)
  ·refine J_g 62 [] [(8,rr 4 v20)] [(4,rE 8 (Pack.enc false) v20)] zB ?_
   exact zEf (ds:=[rr 4 v20]) (ds':=[so 8 (Pack.enc false) v20]) (.cons (.cell (.move (.head _) (List.length_map _) (by decide) (.nil))) (.nil) (by decide)) rfl
  ·refine zG 31 (fun h15=>?_) (fun h15=>?_)
   ·refine zA (fun x16 h17=>?_)
    refine zA (fun x18 h19=>?_)
    refine J_g 246 [] [(9,rr 4 x18)] [(4,rE 8 (Pack.enc false) x18)] (zF 3 (uN (kk:=.i64) 24 91 8 (Pack.enc false) (.tmp 33) (.tmp 34) h17) (zF 5 (zAZ 24 91 8 3 (Pack.enc false) [x16] [0] [(.tmp 36)] [.ag (Pack.enc false x16)]) (zF 6 (zEK 24 24 91 91 8 120 4 2 3 (Pack.enc false) (.tmp 32) (.tmp 37) h19) zB))) ?_
    exact yM (J_j (jv20 x18)) rfl
   ·refine vO 2 4 (Nat.le_of_ble_eq_true rfl) (Nat.le_of_ble_eq_true rfl) ?_
    exact yM (J_j (jv20 v12)) rfl
 ·refine zG 18 (fun h7=>?_) (fun h7=>?_)
  ·refine zA (fun x8 h9=>?_)
   refine zA (fun x10 h11=>?_)
   refine J_d 118 [] [9,10,18] [(9,rr 2 x10)] [0,2] [(2,rE 8 (Pack.enc false) x10)] (zF 3 (uN (kk:=.i64) 24 91 8 (Pack.enc false) (.tmp 20) (.tmp 21) h9) (zF 5 (zAZ 24 91 8 1 (Pack.enc false) [x8] [0] [(.tmp 23)] [.ag (Pack.enc false x8)]) (zF 6 (zEK 24 24 91 91 8 120 2 0 1 (Pack.enc false) (.tmp 19) (.tmp 24) h11) zB))) ?_
   exact yM (J_j (jv12 x10)) rfl
  ·refine vO 0 2 (Nat.le_of_ble_eq_true rfl) (Nat.le_of_ble_eq_true rfl) ?_
   exact yM (J_j (jv12 ([]:List Pack))) rfl
noncomputable def c117:Code:=(Tryz.f117.body).getD .skip
theorem zCr.ok (x5:(List Pack)) (s28:((List ByteArray)×Int)) (q:Wd) (kn:(List ByteArray)→Option (D×List Ent)) (hk:∀v:(List ByteArray),J (q.g Tryz.prog 117 0 47) c117 (aft c117 1956) (St.mk' [(9,rr 0 v),(10,rr 1 x5),(11,iv s28.2)] [(0,rE 1 eStr v),(1,rE 8 (Pack.enc false) x5)]) (some v) kn):
  ∀s39:((List ByteArray)×Int),J (q.g Tryz.prog 117 0 47) c117 (atI c117 15652) (St.mk' [(9,rr 0 s39.1),(10,rr 1 x5),(11,iv s28.2),(12,iv s39.2)] [(0,rE 1 eStr s39.1),(1,rE 8 (Pack.enc false) x5)]) (zCr x5 s28 s39) kn:=by
 refine zAq (fun g ih s39=>?_)
 unfold zBP
 refine zA (fun x40 h41=>?_)
 refine J_d 62608 [] [33] [(33,bv (decide (s39.2< (x40.Provides.length:Int))))] [] [] (zF 3 (zCb (kk:=.i64) 24 91 8 1 (Pack.enc false) (.tmp 27) (.tmp 28) h41) (zF 5 (zCK (d:=sl 1 eStr x40.Provides) 32 8 1 5 (Pack.enc false) (.tmp 30) h41 (by kernel_rfl)) zB)) ?_
 refine zG 33 (fun h42=>?_) (fun h42=>?_)
 ·refine zA (fun x43 h44=>?_)
  refine zA (fun x45 h46=>?_)
  refine zA (fun x47 h48=>?_)
  refine J_g 125220 [] [(9,rr 2 x47),(10,rr 1 x5),(11,iv s28.2),(12,iv s39.2)] [(1,rE 8 (Pack.enc false) x5),(2,rE 1 eStr x47)] (zF 3 (zCb (kk:=.i64) 24 91 8 1 (Pack.enc false) (.tmp 37) (.tmp 38) h44) (zF 5 (zCK (d:=sl 1 eStr x43.Provides) 32 8 1 5 (Pack.enc false) (.tmp 40) h44 (by kernel_rfl)) (zF 7 (uN (kk:=.i64) 32 9 1 eStr (.tmp 41) (.tmp 42) h46) (zF 9 (wW («as»:=[rr 0 s39.1,sv x45]) [(.tmp 36),(.tmp 44)] [32,9] false [(0,rE 1 eStr s39.1)] [0] (.cons (.rf rfl) (.cons (.same rfl) (.nil))) (vS.ok s39.1 x45) h48 (.own 2)) zB)))) ?_
  refine J_d 62611 [] [12] [(12,iv (w64 (s39.2+1)))] [] [] zB ?_
  refine vO 2 0 (Nat.le_of_ble_eq_true rfl) (Nat.le_of_ble_eq_true rfl) ?_
  exact J_q (J_b (ih (x47,w64 (s39.2+1)))) rfl
 ·exact yM (hk s39.1) rfl
theorem zCq.ok (x5:(List Pack)) (q:Wd) (kn:(List ByteArray)→Option (D×List Ent)) (hk:∀v:(List ByteArray),J (q.g Tryz.prog 117 0 47) c117 (atI c117 31) (St.mk' [(9,rr 0 v)] [(0,rE 1 eStr v)]) (some v) kn):
  ∀s28:((List ByteArray)×Int),J (q.g Tryz.prog 117 0 47) c117 (atI c117 244) (St.mk' [(9,rr 0 s28.1),(10,rr 1 x5),(11,iv s28.2)] [(0,rE 1 eStr s28.1),(1,rE 8 (Pack.enc false) x5)]) (zCq x5 s28) kn:=by
 refine zAq (fun g ih s28=>?_)
 unfold zBI
 refine J_d 976 [] [23] [(23,bv (decide (s28.2< (x5.length:Int))))] [] [] zB ?_
 refine zG 23 (fun h29=>?_) (fun h29=>?_)
 ·refine J_d 3912 [] [12,23] [(12,iv 0)] [] [] zB ?_
  refine zET (zCr.ok x5 s28 q _ (fun v49=>J_j ?_) (s28.1,0))
  refine J_d 979 [] [11] [(11,iv (w64 (s28.2+1)))] [] [] zB ?_
  exact J_q (J_b (ih (v49,w64 (s28.2+1)))) rfl
 ·exact yM (hk s28.1) rfl
theorem zA2.ok (a1:(List Pack)) (a2:(List Int)) (a3:(List Int)) (a4:ByteArray):Ok Tryz.prog 117 [sl 8 (Pack.enc false) a1,sl 1 zC a2,sl 1 zC a3,sv a4] [] ((zA2 a1 a2 a3 a4).map fun r=>(so 1 eStr r,[])):=by
 refine zJ c117 Tryz.f117 0 47 (fun q=>?_)
 unfold zA2
 refine J_g 2 [] [(0,sl 8 (Pack.enc false) a1),(1,sl 1 zC a2),(2,sl 1 zC a3),(3,sv a4)] [] zB ?_
 refine J_d 6 [] [9] [(9,rr 0 [a4])] [0] [(0,rE 1 eStr [a4])] (zF 1 (zAZ 32 9 1 0 eStr [a4] [0] [(.tmp 13)] [sv a4]) zB) ?_
 refine zA (fun x5 h6=>?_)
 refine J_g 14 [] [(9,rr 0 [a4]),(10,rr 1 x5)] [(0,rE 1 eStr [a4]),(1,rE 8 (Pack.enc false) x5)] (zF 4 (wW («as»:=[sl 8 (Pack.enc false) a1,sl 1 zC a2,sl 1 zC a3,sv a4]) [(.tmp 15),(.tmp 16),(.tmp 17),(.tmp 18)] [24,25,25,9] false [] [] (.cons (.same rfl) (.cons (.same rfl) (.cons (.same rfl) (.cons (.same rfl) (.nil))))) (zB5.ok a1 a2 a3 a4) h6 (.own 1)) zB) ?_
 refine J_d 60 [] [11] [(11,iv 0)] [] [] zB ?_
 refine zET (zCq.ok x5 q _ (fun v50=>J_j ?_) ([a4],0))
 refine J_g 62 [] [(8,rr 0 v50)] [(0,rE 1 eStr v50)] zB ?_
 exact zEf (ds:=[rr 0 v50]) (ds':=[so 1 eStr v50]) (.cons (.cell (.move (.head _) (List.length_map _) (by decide) (.nil))) (.nil) (by decide)) rfl
noncomputable def zKd:Code:=(Tryz.f158.body).getD .skip
theorem zA6.ok (a1:Pack) (s23:((List ByteArray)×Int)) (q:Wd) (kn:(List ByteArray)→Option (D×List Ent)) (hk:∀v:(List ByteArray),J (q.g Tryz.prog 158 0 52) zKd (aft zKd 932) (St.mk' [(1,pp 0),(3,rr 1 v),(4,iv s23.2)] [(0,.box (Pack.enc false a1)),(1,rE 1 eStr v)]) (some v) kn):
  ∀s34:((List ByteArray)×Int),J (q.g Tryz.prog 158 0 52) zKd (atI zKd 7460) (St.mk' [(1,pp 0),(3,rr 1 s34.1),(4,iv s23.2),(5,iv s34.2)] [(0,.box (Pack.enc false a1)),(1,rE 1 eStr s34.1)]) (zA6 a1 s23 s34) kn:=by
 refine zAq (fun g ih s34=>?_)
 unfold zAf
 refine zA (fun x35 h36=>?_)
 refine J_d 29840 [] [22] [(22,bv (decide (s34.2< (x35.length:Int))))] [] [] (zF 4 (uN (kk:=.i64) 89 80 1 (eSl false 7 Term.enc) (.tmp 17) (.tmp 18) h36) zB) ?_
 refine zG 22 (fun h37=>?_) (fun h37=>?_)
 ·refine zA (fun x38 h39=>?_)
  refine zA (fun x40 h41=>?_)
  refine zA (fun x42 h43=>?_)
  refine J_g 59684 [] [(1,pp 0),(3,rr 2 x42),(4,iv s23.2),(5,iv s34.2)] [(0,.box (Pack.enc false a1)),(2,rE 1 eStr x42)] (zF 4 (uN (kk:=.i64) 89 80 1 (eSl false 7 Term.enc) (.tmp 27) (.tmp 28) h39) (zF 7 (uN (kk:=.i64) 80 104 7 Term.enc (.tmp 30) (.tmp 31) h41) (zF 10 (wW («as»:=[rr 1 s34.1,sv x40.Name]) [(.tmp 25),(.tmp 34)] [32,9] false [(1,rE 1 eStr s34.1)] [1] (.cons (.rf rfl) (.cons (.same rfl) (.nil))) (vS.ok s34.1 x40.Name) h43 (.own 2)) zB))) ?_
  refine J_d 29843 [] [5] [(5,iv (w64 (s34.2+1)))] [] [] zB ?_
  refine vO 2 1 (Nat.le_of_ble_eq_true rfl) (Nat.le_of_ble_eq_true rfl) ?_
  exact J_q (J_b (ih (x42,w64 (s34.2+1)))) rfl
 ·exact yM (hk s34.1) rfl
theorem zA7.ok (a1:Pack) (q:Wd) (kn:(List ByteArray)→Option (D×List Ent)) (hk:∀v:(List ByteArray),J (q.g Tryz.prog 158 0 52) zKd (atI zKd 31) (St.mk' [(3,rr 1 v)] [(1,rE 1 eStr v)]) (some v) kn):
  ∀s51:((List ByteArray)×Int),J (q.g Tryz.prog 158 0 52) zKd (atI zKd 244) (St.mk' [(1,pp 0),(3,rr 1 s51.1),(6,iv s51.2)] [(0,.box (Pack.enc false a1)),(1,rE 1 eStr s51.1)]) (zA7 a1 s51) kn:=by
 refine zAq (fun g ih s51=>?_)
 unfold zAd
 refine J_d 976 [] [40] [(40,bv (decide (s51.2< (a1.Bars.length:Int))))] [] [] zB ?_
 refine zG 40 (fun h52=>?_) (fun h52=>?_)
 ·refine zA (fun x53 h54=>?_)
  refine zA (fun x55 h56=>?_)
  refine J_g 1956 [] [(1,pp 0),(3,rr 2 x55),(6,iv s51.2)] [(0,.box (Pack.enc false a1)),(2,rE 1 eStr x55)] (zF 4 (uN (kk:=.i64) 80 104 7 Term.enc (.tmp 45) (.tmp 46) h54) (zF 7 (wW («as»:=[rr 1 s51.1,sv x53.Name]) [(.tmp 43),(.tmp 49)] [32,9] false [(1,rE 1 eStr s51.1)] [1] (.cons (.rf rfl) (.cons (.same rfl) (.nil))) (vS.ok s51.1 x53.Name) h56 (.own 2)) zB)) ?_
  refine J_d 979 [] [6] [(6,iv (w64 (s51.2+1)))] [] [] zB ?_
  refine vO 2 1 (Nat.le_of_ble_eq_true rfl) (Nat.le_of_ble_eq_true rfl) ?_
  exact J_q (J_b (ih (x55,w64 (s51.2+1)))) rfl
 ·exact yM (hk s51.1) rfl
theorem zAN.ok (a1:Pack) (q:Wd) (kn:(List ByteArray)→Option (D×List Ent)) (hk:∀v:(List ByteArray),J (q.g Tryz.prog 158 0 52) zKd (atI zKd 15) (St.mk' [(1,pp 0),(3,rr 1 v)] [(0,.box (Pack.enc false a1)),(1,rE 1 eStr v)]) (some v) kn):
  ∀s23:((List ByteArray)×Int),J (q.g Tryz.prog 158 0 52) zKd (atI zKd 116) (St.mk' [(1,pp 0),(3,rr 1 s23.1),(4,iv s23.2)] [(0,.box (Pack.enc false a1)),(1,rE 1 eStr s23.1)]) (zAN a1 s23) kn:=by
 refine zAq (fun g ih s23=>?_)
 unfold zAh
 refine J_d 464 [] [12] [(12,bv (decide (s23.2< (a1.Needs.length:Int))))] [] [] zB ?_
 refine zG 12 (fun h24=>?_) (fun h24=>?_)
 ·refine J_d 1864 [] [5,12] [(5,iv 0)] [] [] zB ?_
  refine zET (zA6.ok a1 s23 q _ (fun v44=>J_j ?_) (s23.1,0))
  refine J_d 467 [] [4] [(4,iv (w64 (s23.2+1)))] [] [] zB ?_
  exact J_q (J_b (ih (v44,w64 (s23.2+1)))) rfl
 ·exact yM (hk s23.1) rfl
theorem jM.ok (a1:Pack):Ok Tryz.prog 158 [.ag (Pack.enc false a1)] [] ((jM a1).map fun r=>(so 1 eStr r,[])):=by
 refine zJ zKd Tryz.f158 0 52 (fun q=>?_)
 unfold jM
 refine J_g 2 [(0,0)] [(1,pp 0)] [(0,.box (Pack.enc false a1))] zB ?_
 refine J_g 6 [] [(1,pp 0),(3,rr 1 ([]:List ByteArray))] [(0,.box (Pack.enc false a1)),(1,rE 1 eStr ([]:List ByteArray))] (zF 0 (zAZ 32 9 1 1 eStr ([]:List ByteArray) [] [] []) zB) ?_
 refine J_d 28 [] [4] [(4,iv 0)] [] [] zB ?_
 refine zET (zAN.ok a1 q _ (fun v45=>J_j ?_) (([]:List ByteArray),0))
 refine J_d 60 [] [6] [(6,iv 0)] [] [] zB ?_
 refine zET (zA7.ok a1 q _ (fun v57=>J_j ?_) (v45,0))
 refine J_g 62 [] [(2,rr 1 v57)] [(1,rE 1 eStr v57)] zB ?_
 exact zEf (ds:=[rr 1 v57]) (ds':=[so 1 eStr v57]) (.cons (.cell (.move (.head _) (List.length_map _) (by decide) (.nil))) (.nil) (by decide)) rfl
noncomputable def c157:Code:=(Tryz.f157.body).getD .skip
theorem zC1.ok (a1:(List ByteArray)) (a2:(List ByteArray)) (q:Wd) (kn:Unit→Option (D×List Ent)) (hk:∀v:Unit,J (q.g Tryz.prog 157 0 18) c157 (atI c157 7) (St.mk' [] []) (some v) kn):
  ∀s9:Int,J (q.g Tryz.prog 157 0 18) c157 (atI c157 52) (St.mk' [(0,sl 1 eStr a1),(1,sl 1 eStr a2),(5,iv s9)] []) (zC1 a1 a2 s9) (Fl.go (fun r:Bool=>some (bv r,[])) kn):=by
 refine zAq (fun g ih s9=>?_)
 unfold zBH
 refine J_d 208 [] [9] [(9,bv (decide (s9< (a1.length:Int))))] [] [] zB ?_
 refine zG 9 (fun h10=>?_) (fun h10=>?_)
 ·refine zA (fun x11 h12=>?_)
  refine zA (fun x13 h14=>?_)
  refine J_d 840 [] [9,17] [(17,bv x13)] [] [] (zF 3 (uN (kk:=.i64) 32 9 1 eStr (.tmp 13) (.tmp 14) h12) (zF 5 (vD [(.tmp 12),(.tmp 16)] [32,9] (wG.ok a2 x11) h14) zB)) ?_
  refine zG 17 (fun h15=>?_) (fun h15=>?_)
  ·refine J_g 3364 [] [(4,bv true)] [] zB ?_
   exact xJ rfl
  ·refine J_d 211 [] [5,17] [(5,iv (w64 (s9+1)))] [] [] zB ?_
   exact J_q (J_b (ih (w64 (s9+1)))) rfl
 ·exact yM (hk ()) rfl
theorem zC0.ok (a1:(List ByteArray)) (a2:(List ByteArray)):Ok Tryz.prog 157 [sl 1 eStr a1,sl 1 eStr a2] [] ((zC0 a1 a2).map fun r=>(bv r,[])):=by
 refine zJ c157 Tryz.f157 0 18 (fun q=>?_)
 unfold zC0
 refine J_g 2 [] [(0,sl 1 eStr a1),(1,sl 1 eStr a2)] [] zB ?_
 refine J_d 12 [] [5] [(5,iv 0)] [] [] zB ?_
 refine jO (K0:=(fun r:Bool=>some (bv r,[]))) (fun _=>rfl) (zC1.ok a1 a2 q _ (fun v16=>J_j ?_) 0)
 refine J_g 14 [] [(4,bv false)] [] zB ?_
 exact xJ rfl
noncomputable def zN7:Code:=(Tryz.f118.body).getD .skip
theorem zDi.ok (a5:(List ByteArray)) (x6:(List Pack)) (q:Wd) (kn:Unit→Option (D×List Ent)) (hk:∀v:Unit,J (q.g Tryz.prog 118 0 31) zN7 (atI zN7 15) (St.mk' [] []) (some v) kn):
  ∀s16:Int,J (q.g Tryz.prog 118 0 31) zN7 (atI zN7 116) (St.mk' [(4,sl 1 eStr a5),(11,rr 0 x6),(12,iv s16)] [(0,rE 8 (Pack.enc false) x6)]) (zDi a5 x6 s16) (Fl.go (fun r:Bool=>some (bv r,[])) kn):=by
 refine zAq (fun g ih s16=>?_)
 unfold zCm
 refine J_d 464 [] [21] [(21,bv (decide (s16< (x6.length:Int))))] [] [] zB ?_
 refine zG 21 (fun h17=>?_) (fun h17=>?_)
 ·refine zA (fun x18 h19=>?_)
  refine zA (fun x20 h21=>?_)
  refine zA (fun x22 h23=>?_)
  refine J_d 1864 [] [21,30] [(30,bv x22)] [] [] (zF 2 (zCb (kk:=.i64) 24 91 8 0 (Pack.enc false) (.tmp 24) (.tmp 25) h19) (zF 3 (zCK (d:=.ag (Pack.enc false x18)) 91 8 0 0 (Pack.enc false) (.tmp 26) h19 (by kernel_rfl)) (zF 4 (wW («as»:=[.ag (Pack.enc false x18)]) [(.tmp 27)] [91] false [] [] (.cons (.same rfl) (.nil)) (jM.ok x18) h21 (.own 1)) (zF 6 (wW («as»:=[rr 1 x20,sl 1 eStr a5]) [(.tmp 28),(.tmp 29)] [32,32] true [(1,rE 1 eStr x20)] [] (.cons (zD1 (.head _) (fun _=>rfl) rfl) (.cons (.same rfl) (.nil))) (zC0.ok x20 a5) h23 (.same rfl rfl) (hbor:=fun _=>⟨fhN,yP⟩)) zB)))) ?_
  refine zG 30 (fun h24=>?_) (fun h24=>?_)
  ·refine J_g 7460 [] [(10,bv true)] [] zB ?_
   exact xJ rfl
  ·refine J_d 467 [] [12,30] [(12,iv (w64 (s16+1)))] [] [] zB ?_
   exact J_q (J_b (ih (w64 (s16+1)))) rfl
 ·exact yM (hk ()) rfl
theorem uV.ok (a1:(List Pack)) (a2:(List Int)) (a3:(List Int)) (a4:ByteArray) (a5:(List ByteArray)):Ok Tryz.prog 118 [sl 8 (Pack.enc false) a1,sl 1 zC a2,sl 1 zC a3,sv a4,sl 1 eStr a5] [] ((uV a1 a2 a3 a4 a5).map fun r=>(bv r,[])):=by
 refine zJ zN7 Tryz.f118 0 31 (fun q=>?_)
 unfold uV
 refine J_d 2 [] [] [] [] [] zB ?_
 refine zA (fun x6 h7=>?_)
 refine J_g 6 [] [(4,sl 1 eStr a5),(11,rr 0 x6)] [(0,rE 8 (Pack.enc false) x6)] (zF 4 (wW («as»:=[sl 8 (Pack.enc false) a1,sl 1 zC a2,sl 1 zC a3,sv a4]) [(.tmp 13),(.tmp 14),(.tmp 15),(.tmp 16)] [24,25,25,9] false [] [] (.cons (.same rfl) (.cons (.same rfl) (.cons (.same rfl) (.cons (.same rfl) (.nil))))) (zB5.ok a1 a2 a3 a4) h7 (.own 0)) zB) ?_
 refine J_d 28 [] [12] [(12,iv 0)] [] [] zB ?_
 refine jO (K0:=(fun r:Bool=>some (bv r,[]))) (fun _=>rfl) (zDi.ok a5 x6 q _ (fun v25=>J_j ?_) 0)
 refine J_g 30 [] [(10,bv false)] [] zB ?_
 exact xJ rfl
end Go.Told

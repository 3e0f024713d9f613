import Derived.Test.YtdeihchdibglaaaGreatToldFnPlans
import Derived.Test.YtdeihchdibglaaaGreatShelfFnPlans
import Derived.Test.YtdeihchdibglaaaGreatProg
set_option linter.unusedVariables false
set_option maxRecDepth 4000
namespace Go.Told
open Go Go.Im Go.Proofs
noncomputable def c7:Code:=(Tryz.f7.body).getD .skip
theorem zDH.ok (a1:(List Int)):Ok Tryz.prog 7 [sl 1 eU8 a1] [] ((zDH a1).map fun r=>(bv r,[])):=by
 refine zJ c7 Tryz.f7 0 6 (fun q=>?_)
 unfold zDH
 refine J_g 2 [] [(0,sl 1 eU8 a1)] [] zB ?_
 refine J_g 6 [] [(2,bv (decide ((a1.length:Int)>1048576)))] [] zB ?_
 exact xJ rfl
noncomputable def c29:Code:=(Tryz.f29.body).getD .skip
theorem zDe.ok (a1:(List Int)):Ok Tryz.prog 29 [sl 1 eU8 a1] [] ((zDe a1).map fun r=>(.po [sl 1 eU8 r.Code,iv r.At],[])):=by
 refine zJ c29 Tryz.f29 0 6 (fun q=>?_)
 unfold zDe
 refine J_g 2 [] [(0,sl 1 eU8 a1)] [] zB ?_
 refine J_g 6 [(2,0)] [(2,pp 0)] [(0,.box [sl 1 eU8 a1,iv 0])] zB ?_
 exact zDZ (ds:=[pp 0]) (ds':=[.po [sl 1 eU8 a1,iv 0]]) (.cons (.po (.head _)) (.nil) (by decide)) rfl
noncomputable def c46:Code:=(Tryz.f46.body).getD .skip
theorem zP.ok (a1:zD) (a2:Int):Ok Tryz.prog 46 [pp 0,iv a2] [.box (zD.enc false a1)] ((zP a1 a2).map fun r=>(iv r.1,[.box (zD.enc false r.2)])):=by
 refine zJ c46 Tryz.f46 1 71 (fun q=>?_)
 unfold zP
 refine J_g 2 [] [(0,pp 0),(1,iv a2)] [(0,.box (zD.enc false a1))] zB ?_
 refine J_g 6 [] [(0,pp 0),(1,iv a2)] [(0,.box [sl 1 eU8 a1.Code,iv (w64 (a1.At+1))])] zB ?_
 refine J_d 28 [] [17] [(17,bv (decide (a2<1)))] [] [] zB ?_
 refine zG 17 (fun h3=>?_) (fun h3=>?_)
 ·refine J_d 116 [] [0,1,4,17] [(4,iv 0)] [] [] zB ?_
  exact xJ rfl
 ·refine J_g 30 [] [(0,pp 0),(1,iv a2),(5,iv (w64 ((w64 (a1.At+1))-1)))] [(0,.box [sl 1 eU8 a1.Code,iv (w64 (a1.At+1))])] zB ?_
  refine J_g 62 [] [(0,pp 0),(1,iv a2),(5,iv (w64 ((w64 (a1.At+1))-1))),(6,iv (a1.Code.length:Int))] [(0,.box [sl 1 eU8 a1.Code,iv (w64 (a1.At+1))])] zB ?_
  refine J_d 252 [] [29] [(29,bv ((a1.Code.length:Int)==0))] [] [] zB ?_
  refine zG 29 (fun h4=>?_) (fun h4=>?_)
  ·refine zA (fun x5 h6=>?_)
   refine J_d 1012 [] [0,1,4,5,6,29] [(4,iv x5)] [] [] (zF 3 (zNp (k:=.i64) 2 2 (.tmp 31) (.tmp 32) h6) zB) ?_
   exact xJ rfl
  ·refine zA (fun x7 h8=>?_)
   refine zA (fun x9 h10=>?_)
   refine zA (fun x11 h12=>?_)
   refine J_g 254 [] [(0,pp 0),(1,iv a2),(5,iv (w64 ((w64 (a1.At+1))-1))),(6,iv (a1.Code.length:Int)),(7,iv (w64 ((w64 (x9))+(w64 (x11*37)))))] [(0,.box [sl 1 eU8 a1.Code,iv (w64 (a1.At+1))])] (zF 6 (zNp (k:=.i64) 2 2 (.tmp 38) (.tmp 39) h8) (zF 7 (kD (kk:=.i64) 22 5 1 eU8 (.tmp 37) (.tmp 40) h10) (zF 12 (zPC (k:=.i64) 2 2 (.tmp 44) (.tmp 45) h12) zB))) ?_
   refine J_d 1020 [] [50] [(50,bv (decide (a2>200)))] [] [] zB ?_
   refine wU (atI c46 511) (fun v18:Int=>St.mk' [(1,iv a2),(7,iv v18)] [(0,.box [sl 1 eU8 a1.Code,iv (w64 (a1.At+1))])]) (fun v18=>?_) (fun jv18=>?_)
   ·refine zA (fun x19 h20=>?_)
    refine J_d 1022 [] [1,4,7] [(4,iv x19)] [] [] (zF 2 (zNp (k:=.i64) 2 2 (.tmp 68) (.tmp 69) h20) zB) ?_
    exact xJ rfl
   ·refine zG 50 (fun h13=>?_) (fun h13=>?_)
    ·refine zA (fun x14 h15=>?_)
     refine zA (fun x16 h17=>?_)
     refine J_d 2042 [] [0,5,6,7,50] [(7,iv (w64 ((w64 ((w64 ((w64 ((w64 (x9))+(w64 (x11*37))))*251))+(w64 ((w64 (x16))*13))))+(w64 ((w64 (a1.At+1))-1)))))] [] [] (zF 9 (zNp (k:=.i64) 2 2 (.tmp 58) (.tmp 59) h15) (zF 10 (kD (kk:=.i64) 22 5 1 eU8 (.tmp 56) (.tmp 60) h17) zB)) ?_
     exact xA (J_j (jv18 (w64 ((w64 ((w64 ((w64 ((w64 (x9))+(w64 (x11*37))))*251))+(w64 ((w64 (x16))*13))))+(w64 ((w64 (a1.At+1))-1)))))) rfl
    ·exact xA (J_j (jv18 (w64 ((w64 (x9))+(w64 (x11*37)))))) rfl
noncomputable def zQ3:Code:=(Tryz.f104.body).getD .skip
theorem wR.ok (a1:zD) (a2:(List Int)):Ok Tryz.prog 104 [pp 0,rr 1 a2] [.box (zD.enc false a1),rE 1 zC a2] ((wR a1 a2).map fun r=>(iv r.1,[.box (zD.enc false r.2),rE 1 zC a2])):=by
 refine zJ zQ3 Tryz.f104 2 12 (fun q=>?_)
 unfold wR
 refine J_d 2 [] [] [] [] [] zB ?_
 refine zA (fun x3 h4=>?_)
 refine zA (fun x5 h6=>?_)
 refine J_g 6 [] [(4,iv x5)] [(0,.box (zD.enc false x3.2)),(1,rE 1 zC a2)] (zF 4 (vJ («as»:=[pp 0,iv (a2.length:Int)]) [(.tmp 6),(.tmp 8)] [56,2] false [(0,.box (zD.enc false a1))] [0] (.cons (.pt rfl) (.cons (.same rfl) (.nil))) (zP.ok a1 (a2.length:Int)) h4 (.same rfl rfl)) (zF 5 (zB5 (kk:=.i64) 25 2 1 1 zC (.tmp 5) (.tmp 9) h6) (zF 6 (zBU (d:=iv x5) 2 1 1 0 zC (.tmp 10) h6 (by kernel_rfl)) zB))) ?_
 exact xJ rfl
noncomputable def c91:Code:=(Tryz.f91.body).getD .skip
theorem vO.ok (a1:zD):Ok Tryz.prog 91 [pp 0] [.box (zD.enc false a1)] ((vO a1).map fun r=>(sv r.1,[.box (zD.enc false r.2)])):=by
 refine zJ c91 Tryz.f91 1 8 (fun q=>?_)
 unfold vO
 refine J_d 2 [] [] [] [] [] zB ?_
 refine zA (fun x2 h3=>?_)
 refine zA (fun x4 h5=>?_)
 refine J_g 6 [] [(2,sv x4)] [(0,.box (zD.enc false x2.2))] (zF 0 (zBw 32 9 1 1 eStr [bs [97],bs [98],bs [99],bs [100],bs [108,105,98],bs [119,101,98]] [0,1,2,3,4,5] [(.const (.string (bs [97]))),(.const (.string (bs [98]))),(.const (.string (bs [99]))),(.const (.string (bs [100]))),(.const (.string (bs [108,105,98]))),(.const (.string (bs [119,101,98])))] [sv (bs [97]),sv (bs [98]),sv (bs [99]),sv (bs [100]),sv (bs [108,105,98]),sv (bs [119,101,98])]) (zF 2 (vJ («as»:=[pp 0,iv 6]) [(.tmp 4),(.const (.int .i64 6))] [56,2] false [(0,.box (zD.enc false a1))] [0] (.cons (.pt rfl) (.cons (.same rfl) (.nil))) (zP.ok a1 6) h3 (.same rfl rfl)) (zF 3 (zB5 (kk:=.i64) 32 9 1 1 eStr (.tmp 3) (.tmp 5) h5) (zF 4 (zBU (d:=sv x4) 9 1 1 0 eStr (.tmp 6) h5 (by kernel_rfl)) zB)))) ?_
 exact xJ rfl
noncomputable def c45:Code:=(Tryz.f45.body).getD .skip
theorem yE.ok (a1:zD) (a2:Int):Ok Tryz.prog 45 [pp 0,iv a2] [.box (zD.enc false a1)] ((yE a1 a2).map fun r=>(bv r.1,[.box (zD.enc false r.2)])):=by
 refine zJ c45 Tryz.f45 1 9 (fun q=>?_)
 unfold yE
 refine J_d 2 [] [] [] [] [] zB ?_
 refine zA (fun x3 h4=>?_)
 refine J_g 6 [] [(4,bv (x3.1==0))] [(0,.box (zD.enc false x3.2))] (zF 2 (vJ («as»:=[pp 0,iv a2]) [(.tmp 5),(.tmp 6)] [56,2] false [(0,.box (zD.enc false a1))] [0] (.cons (.pt rfl) (.cons (.same rfl) (.nil))) (zP.ok a1 a2) h4 (.same rfl rfl)) zB) ?_
 exact xJ rfl
noncomputable def c154:Code:=(Tryz.f154.body).getD .skip
theorem zAH.ok:Ok Tryz.prog 154 [] [] ((zAH).map fun r=>(.ag (Version.enc r),[])):=by
 refine zJ c154 Tryz.f154 0 2 (fun q=>?_)
 unfold zAH
 refine J_g 2 [(0,0)] [(0,pp 0)] [(0,.box [iv 0,iv 0,iv 0])] zB ?_
 refine J_g 6 [] [(0,pp 0)] [(0,.box [iv 1000,iv 0,iv 0])] zB ?_
 exact xJ rfl
noncomputable def zQm:Code:=(Tryz.f114.body).getD .skip
theorem tZ.ok (a1:ByteArray):Ok Tryz.prog 114 [sv a1] [] ((tZ a1).map fun r=>(.ag (Term.enc r),[])):=by
 refine zJ zQm Tryz.f114 0 6 (fun q=>?_)
 unfold tZ
 refine J_g 2 [(0,0)] [(0,sv a1),(2,pp 0)] [(0,.box [sv ByteArray.empty,iv 0,iv 0,iv 0,iv 0,iv 0,iv 0])] zB ?_
 refine zA (fun x2 h3=>?_)
 refine J_g 6 [] [(2,pp 0)] [(0,.box [sv a1,iv 0,iv 0,iv 0,iv x2.A,iv x2.B,iv x2.C])] (zF 1 (vZ [] [] (zAH.ok) h3) zB) ?_
 exact xJ rfl
noncomputable def zQj:Code:=(Tryz.f191.body).getD .skip
theorem jA.ok (a1:zD):Ok Tryz.prog 191 [pp 0] [.box (zD.enc false a1)] ((jA a1).map fun r=>(.ag (Version.enc r.1),[.box (zD.enc false r.2)])):=by
 refine zJ zQj Tryz.f191 1 16 (fun q=>?_)
 unfold jA
 refine J_d 2 [(0,1)] [2] [(2,pp 1)] [1] [(1,.box [iv 0,iv 0,iv 0])] zB ?_
 refine zA (fun x2 h3=>?_)
 refine zA (fun x4 h5=>?_)
 refine zA (fun x6 h7=>?_)
 refine zA (fun x8 h9=>?_)
 refine zA (fun x10 h11=>?_)
 refine J_g 6 [] [(2,pp 1)] [(0,.box (zD.enc false x10.2)),(1,.box [iv x2.1,iv x6.1,iv x10.1])] (zF 1 (vJ («as»:=[pp 0,iv 4]) [(.tmp 3),(.const (.int .i64 4))] [56,2] false [(0,.box (zD.enc false a1))] [0] (.cons (.pt rfl) (.cons (.same rfl) (.nil))) (zP.ok a1 4) h3 (.same rfl rfl)) (zF 4 (vJ («as»:=[pp 0,iv 3]) [(.tmp 6),(.const (.int .i64 3))] [56,2] false [(0,.box (zD.enc false x2.2))] [0] (.cons (.pt rfl) (.cons (.same rfl) (.nil))) (zP.ok x2.2 3) h5 (.same rfl rfl)) (zF 5 (zBw 25 2 1 2 zC [0,0,x4.1] [0,1,2] [(.const (.int .i64 0)),(.const (.int .i64 0)),(.tmp 7)] [iv 0,iv 0,iv x4.1]) (zF 6 (vJ («as»:=[pp 0,rr 2 [0,0,x4.1]]) [(.tmp 5),(.tmp 8)] [56,25] false [(0,.box (zD.enc false x4.2)),(2,rE 1 zC [0,0,x4.1])] [0,2] (.cons (.pt rfl) (.cons (.rf rfl) (.nil))) (wR.ok x4.2 [0,0,x4.1]) h7 (.same rfl rfl)) (zF 9 (vJ («as»:=[pp 0,iv 3]) [(.tmp 11),(.const (.int .i64 3))] [56,2] false [(0,.box (zD.enc false x6.2))] [0] (.cons (.pt rfl) (.cons (.same rfl) (.nil))) (zP.ok x6.2 3) h9 (.same rfl rfl)) (zF 10 (zBw 25 2 1 3 zC [0,0,0,x8.1] [0,1,2,3] [(.const (.int .i64 0)),(.const (.int .i64 0)),(.const (.int .i64 0)),(.tmp 12)] [iv 0,iv 0,iv 0,iv x8.1]) (zF 11 (vJ («as»:=[pp 0,rr 3 [0,0,0,x8.1]]) [(.tmp 10),(.tmp 13)] [56,25] false [(0,.box (zD.enc false x8.2)),(3,rE 1 zC [0,0,0,x8.1])] [0,3] (.cons (.pt rfl) (.cons (.rf rfl) (.nil))) (wR.ok x8.2 [0,0,0,x8.1]) h11 (.same rfl rfl)) zB))))))) ?_
 exact xJ rfl
noncomputable def zPS:Code:=(Tryz.f142.body).getD .skip
theorem uU.ok (a1:zD):Ok Tryz.prog 142 [pp 0] [.box (zD.enc false a1)] ((uU a1).map fun r=>(.ag (Term.enc r.1),[.box (zD.enc false r.2)])):=by
 refine zJ zPS Tryz.f142 1 24 (fun q=>?_)
 unfold uU
 refine J_d 2 [(0,1)] [2] [(2,pp 1)] [1] [(1,.box [sv ByteArray.empty,iv 0,iv 0,iv 0,iv 0,iv 0,iv 0])] zB ?_
 refine zA (fun x2 h3=>?_)
 refine zA (fun x4 h5=>?_)
 refine J_d 6 [(3,2)] [3] [(3,pp 2)] [0,2] [(0,.box (zD.enc false x2.2)),(2,.box (Term.enc x4))] (zF 1 (vJ («as»:=[pp 0]) [(.tmp 4)] [56] false [(0,.box (zD.enc false a1))] [0] (.cons (.pt rfl) (.nil)) (vO.ok a1) h3 (.same rfl rfl)) (zF 2 (vZ [(.tmp 5)] [9] (tZ.ok x2.1) h5) zB)) ?_
 refine zA (fun x6 h7=>?_)
 refine J_d 28 [] [8] [(8,bv x6.1)] [0] [(0,.box (zD.enc false x6.2))] (zF 1 (vJ («as»:=[pp 0,iv 2]) [(.tmp 7),(.const (.int .i64 2))] [56,2] false [(0,.box (zD.enc false x2.2))] [0] (.cons (.pt rfl) (.cons (.same rfl) (.nil))) (yE.ok x2.2 2) h7 (.same rfl rfl)) zB) ?_
 refine wU (atI zPS 15) (fun v11:((List Int)×Int×Int×Int×Int)=>St.mk' [(0,pp 0),(2,pp 1),(3,pp 2)] [(0,.box [sl 1 eU8 v11.1,iv v11.2.1]),(1,.box [sv ByteArray.empty,iv 0,iv 0,iv 0,iv 0,iv 0,iv 0]),(2,.box [sv x4.Name,iv v11.2.2.1,iv v11.2.2.2.1,iv v11.2.2.2.2,iv x4.High.A,iv x4.High.B,iv x4.High.C])]) (fun v11=>?_) (fun jv11=>?_)
 ·refine zA (fun x12 h13=>?_)
  refine J_d 60 [] [13] [(13,bv x12.1)] [0] [(0,.box (zD.enc false x12.2))] (zF 1 (vJ («as»:=[pp 0,iv 3]) [(.tmp 12),(.const (.int .i64 3))] [56,2] false [(0,.box [sl 1 eU8 v11.1,iv v11.2.1])] [0] (.cons (.pt rfl) (.cons (.same rfl) (.nil))) (yE.ok ({Code:=v11.1,At:=v11.2.1}:zD) 3) h13 (.same rfl rfl)) zB) ?_
  refine wU (atI zPS 31) (fun v17:((List Int)×Int×Int×Int×Int)=>St.mk' [(2,pp 1),(3,pp 2)] [(0,.box [sl 1 eU8 v17.1,iv v17.2.1]),(1,.box [sv ByteArray.empty,iv 0,iv 0,iv 0,iv 0,iv 0,iv 0]),(2,.box [sv x4.Name,iv v11.2.2.1,iv v11.2.2.2.1,iv v11.2.2.2.2,iv v17.2.2.1,iv v17.2.2.2.1,iv v17.2.2.2.2])]) (fun v17=>?_) (fun jv17=>?_)
  ·refine J_g 62 [] [(2,pp 1)] [(0,.box [sl 1 eU8 v17.1,iv v17.2.1]),(1,.box [sv x4.Name,iv v11.2.2.1,iv v11.2.2.2.1,iv v11.2.2.2.2,iv v17.2.2.1,iv v17.2.2.2.1,iv v17.2.2.2.2])] zB ?_
   exact xJ rfl
  ·refine zG 13 (fun h14=>?_) (fun h14=>?_)
   ·refine zA (fun x15 h16=>?_)
    refine J_d 122 [] [0,13] [] [0,2] [(0,.box (zD.enc false x15.2)),(2,.box [sv x4.Name,iv v11.2.2.1,iv v11.2.2.2.1,iv v11.2.2.2.2,iv (w64 ((w64 (v11.2.2.1+1))+x15.1)),iv 0,iv 0])] (zF 5 (vJ («as»:=[pp 0,iv 2]) [(.tmp 18),(.const (.int .i64 2))] [56,2] false [(0,.box (zD.enc false x12.2))] [0] (.cons (.pt rfl) (.cons (.same rfl) (.nil))) (zP.ok x12.2 2) h16 (.same rfl rfl)) zB) ?_
    exact xA (J_j (jv17 (x15.2.Code,x15.2.At,w64 ((w64 (v11.2.2.1+1))+x15.1),0,0))) rfl
   ·exact xA (J_j (jv17 (x12.2.Code,x12.2.At,x4.High.A,x4.High.B,x4.High.C))) rfl
 ·refine zG 8 (fun h8=>?_) (fun h8=>?_)
  ·refine zA (fun x9 h10=>?_)
   refine J_d 58 [] [8] [] [0,2] [(0,.box (zD.enc false x9.2)),(2,.box [sv x4.Name,iv x9.1.A,iv x9.1.B,iv x9.1.C,iv x4.High.A,iv x4.High.B,iv x4.High.C])] (zF 1 (vJ («as»:=[pp 0]) [(.tmp 9)] [56] false [(0,.box (zD.enc false x6.2))] [0] (.cons (.pt rfl) (.nil)) (jA.ok x6.2) h10 (.ag (.cons (.same rfl rfl) (.cons (.same rfl rfl) (.cons (.same rfl rfl) (.nil)))))) zB) ?_
   exact xA (J_j (jv11 (x9.2.Code,x9.2.At,x9.1.A,x9.1.B,x9.1.C))) rfl
  ·exact xA (J_j (jv11 (x6.2.Code,x6.2.At,x4.Low.A,x4.Low.B,x4.Low.C))) rfl
noncomputable def c105:Code:=(Tryz.f105.body).getD .skip
theorem zDu.ok (x2:(ByteArray×zD)) (x4:(Int×zD)) (x6:(Int×zD)) (v15:((List Int)×Int×(List ByteArray))) (q:Wd) (kn:((List Int)×Int×(List (List Term)))→Option (D×List Ent)) (hk:∀v:((List Int)×Int×(List (List Term))),J (q.g Tryz.prog 105 1 63) c105 (atI c105 31) (St.mk' [(0,pp 0),(2,pp 1),(3,pp 2)] [(0,.box [sl 1 eU8 v.1,iv v.2.1]),(1,.box [sv ByteArray.empty,iv 0,iv 0,iv 0,iv 0,nv,nv,nv]),(2,.box [sv x2.1,iv (w64 (1+x4.1)),iv 0,iv 0,iv (w64 (1+x6.1)),rr 4 v15.2.2,rr 5 v.2.2,nv]),(4,rE 1 eStr v15.2.2),(5,rE 1 (eSl true 7 Term.enc) v.2.2)]) (some v) kn):
  ∀s60:((List Int)×Int×(List (List Term))×Int),J (q.g Tryz.prog 105 1 63) c105 (atI c105 244) (St.mk' [(0,pp 0),(2,pp 1),(3,pp 2),(4,iv s60.2.2.2)] [(0,.box [sl 1 eU8 s60.1,iv s60.2.1]),(1,.box [sv ByteArray.empty,iv 0,iv 0,iv 0,iv 0,nv,nv,nv]),(2,.box [sv x2.1,iv (w64 (1+x4.1)),iv 0,iv 0,iv (w64 (1+x6.1)),rr 4 v15.2.2,rr 5 s60.2.2.1,nv]),(4,rE 1 eStr v15.2.2),(5,rE 1 (eSl true 7 Term.enc) s60.2.2.1)]) (zDu x2 x4 x6 v15 s60) kn:=by
 refine zAC (fun g ih s60=>?_)
 unfold zC9
 refine J_d 976 [] [29] [(29,bv (decide (s60.2.2.2>0)))] [] [] zB ?_
 refine zG 29 (fun h61=>?_) (fun h61=>?_)
 ·refine zA (fun x62 h63=>?_)
  refine J_d 3912 [] [5,29] [(5,rr 6 [x62.1])] [0,6] [(0,.box (zD.enc false x62.2)),(6,rE 7 Term.enc [x62.1])] (zF 1 (vJ («as»:=[pp 0]) [(.tmp 32)] [56] false [(0,.box [sl 1 eU8 s60.1,iv s60.2.1])] [0] (.cons (.pt rfl) (.nil)) (uU.ok ({Code:=s60.1,At:=s60.2.1}:zD)) h63 (.ag (.cons (.same rfl rfl) (.cons (.same rfl rfl) (.cons (.same rfl rfl) (.cons (.same rfl rfl) (.cons (.same rfl rfl) (.cons (.same rfl rfl) (.cons (.same rfl rfl) (.nil)))))))))) (zF 2 (zBw 80 104 7 6 Term.enc [x62.1] [0] [(.tmp 33)] [.ag (Term.enc x62.1)]) zB)) ?_
  refine zA (fun x64 h65=>?_)
  refine J_d 15652 [] [36] [(36,bv x64.1)] [0] [(0,.box (zD.enc false x64.2))] (zF 1 (vJ («as»:=[pp 0,iv 3]) [(.tmp 35),(.const (.int .i64 3))] [56,2] false [(0,.box (zD.enc false x62.2))] [0] (.cons (.pt rfl) (.cons (.same rfl) (.nil))) (yE.ok x62.2 3) h65 (.same rfl rfl)) zB) ?_
  refine wU (atI c105 7827) (fun v71:((List Int)×Int×(List Term))=>St.mk' [(0,pp 0),(2,pp 1),(3,pp 2),(4,iv s60.2.2.2),(5,rr 8 v71.2.2)] [(0,.box [sl 1 eU8 v71.1,iv v71.2.1]),(1,.box [sv ByteArray.empty,iv 0,iv 0,iv 0,iv 0,nv,nv,nv]),(2,.box [sv x2.1,iv (w64 (1+x4.1)),iv 0,iv 0,iv (w64 (1+x6.1)),rr 4 v15.2.2,rr 5 s60.2.2.1,nv]),(4,rE 1 eStr v15.2.2),(5,rE 1 (eSl true 7 Term.enc) s60.2.2.1),(8,rE 7 Term.enc v71.2.2)]) (fun v71=>?_) (fun jv71=>?_)
  ·refine zA (fun x72 h73=>?_)
   refine J_d 31308 [] [43] [(43,bv x72.1)] [0] [(0,.box (zD.enc false x72.2))] (zF 1 (vJ («as»:=[pp 0,iv 8]) [(.tmp 42),(.const (.int .i64 8))] [56,2] false [(0,.box [sl 1 eU8 v71.1,iv v71.2.1])] [0] (.cons (.pt rfl) (.cons (.same rfl) (.nil))) (yE.ok ({Code:=v71.1,At:=v71.2.1}:zD) 8) h73 (.same rfl rfl)) zB) ?_
   refine wU (atI c105 15655) (fun v79:(List Term)=>St.mk' [(0,pp 0),(2,pp 1),(3,pp 2),(4,iv s60.2.2.2),(5,rr 8 v79)] [(0,.box (zD.enc false x72.2)),(1,.box [sv ByteArray.empty,iv 0,iv 0,iv 0,iv 0,nv,nv,nv]),(2,.box [sv x2.1,iv (w64 (1+x4.1)),iv 0,iv 0,iv (w64 (1+x6.1)),rr 4 v15.2.2,rr 5 s60.2.2.1,nv]),(4,rE 1 eStr v15.2.2),(5,rE 1 (eSl true 7 Term.enc) s60.2.2.1),(8,rE 7 Term.enc v79)]) (fun v79=>?_) (fun jv79=>?_)
   ·refine zA (fun x80 h81=>?_)
    refine J_g 15655 [] [(0,pp 0),(2,pp 1),(3,pp 2),(4,iv s60.2.2.2)] [(0,.box (zD.enc false x72.2)),(1,.box [sv ByteArray.empty,iv 0,iv 0,iv 0,iv 0,nv,nv,nv]),(2,.box [sv x2.1,iv (w64 (1+x4.1)),iv 0,iv 0,iv (w64 (1+x6.1)),rr 4 v15.2.2,rr 10 x80,nv]),(4,rE 1 eStr v15.2.2),(10,rE 1 (eSl true 7 Term.enc) x80)] (zF 3 (zMU (ds:=[rr 8 v79]) (ts:=[8]) 89 80 1 9 (eSl true 7 Term.enc) [v79] [0] [(.tmp 49)] [rr 8 v79] [(8,rE 7 Term.enc v79)] (.move (.head _) (List.length_map _) (by decide) (.nil))) (zF 4 (zFg 89 89 80 80 1 24 10 5 9 (eSl true 7 Term.enc) (.tmp 48) (.tmp 50) h81) zB)) ?_
    refine J_d 979 [] [4] [(4,iv (w64 (s60.2.2.2-1)))] [] [] zB ?_
    refine uX 10 5 (Nat.le_of_ble_eq_true rfl) (Nat.le_of_ble_eq_true rfl) ?_
    exact J_q (J_b (ih (x72.2.Code,x72.2.At,x80,w64 (s60.2.2.2-1)))) rfl
   ·refine zG 43 (fun h74=>?_) (fun h74=>?_)
    ·refine zA (fun x75 h76=>?_)
     refine zA (fun x77 h78=>?_)
     refine J_g 62618 [] [(0,pp 0),(2,pp 1),(3,pp 2),(4,iv s60.2.2.2),(5,rr 8 v71.2.2)] [(0,.box (zD.enc false x72.2)),(1,.box [sv ByteArray.empty,iv 0,iv 0,iv 0,iv 0,nv,nv,nv]),(2,.box [sv x2.1,iv (w64 (1+x4.1)),iv 0,iv 0,iv (w64 (1+x6.1)),rr 4 v15.2.2,rr 5 s60.2.2.1,nv]),(4,rE 1 eStr v15.2.2),(5,rE 1 (eSl true 7 Term.enc) s60.2.2.1),(8,rE 7 Term.enc (v71.2.2.set ((0:Int).toNat) x75))] (zF 1 (vZ [(.const (.string (bs [109,97,105,108])))] [9] (tZ.ok (bs [109,97,105,108])) h76) (zF 2 (zB5 (kk:=.i64) 80 104 7 8 Term.enc (.tmp 44) (.const (.int .i64 0)) h78) (zNz 3 (zOT (b:=x75) 104 7 8 0 Term.enc (.ag (Term.enc x75)) (.tmp 46) (.tmp 45) h78 rfl) zB))) ?_
     refine zKv (σ':=St.mk' [(0,pp 0),(2,pp 1),(3,pp 2),(4,iv s60.2.2.2),(5,rr 8 (v71.2.2.set ((0:Int).toNat) x75))] [(0,.box (zD.enc false x72.2)),(1,.box [sv ByteArray.empty,iv 0,iv 0,iv 0,iv 0,nv,nv,nv]),(2,.box [sv x2.1,iv (w64 (1+x4.1)),iv 0,iv 0,iv (w64 (1+x6.1)),rr 4 v15.2.2,rr 5 s60.2.2.1,nv]),(4,rE 1 eStr v15.2.2),(5,rE 1 (eSl true 7 Term.enc) s60.2.2.1),(8,rE 7 Term.enc (v71.2.2.set ((0:Int).toNat) x75))]) (by simp only [rr,List.length_set]) ?_
     exact xA (J_j (jv79 (v71.2.2.set ((0:Int).toNat) x75))) rfl
    ·exact xA (J_j (jv79 v71.2.2)) rfl
  ·refine zG 36 (fun h66=>?_) (fun h66=>?_)
   ·refine zA (fun x67 h68=>?_)
    refine zA (fun x69 h70=>?_)
    refine J_d 31306 [] [5,36] [(5,rr 8 x69)] [0,6,8] [(0,.box (zD.enc false x67.2)),(8,rE 7 Term.enc x69)] (zF 2 (vJ («as»:=[pp 0]) [(.tmp 38)] [56] false [(0,.box (zD.enc false x64.2))] [0] (.cons (.pt rfl) (.nil)) (uU.ok x64.2) h68 (.ag (.cons (.same rfl rfl) (.cons (.same rfl rfl) (.cons (.same rfl rfl) (.cons (.same rfl rfl) (.cons (.same rfl rfl) (.cons (.same rfl rfl) (.cons (.same rfl rfl) (.nil)))))))))) (zF 3 (zBw 80 104 7 7 Term.enc [x67.1] [0] [(.tmp 39)] [.ag (Term.enc x67.1)]) (zF 4 (zFg 80 80 104 104 7 64 8 6 7 Term.enc (.tmp 37) (.tmp 40) h70) zB))) ?_
    exact xA (J_j (jv71 (x67.2.Code,x67.2.At,x69))) rfl
   ·refine uX 6 8 (Nat.le_of_ble_eq_true rfl) (Nat.le_of_ble_eq_true rfl) ?_
    exact xA (J_j (jv71 (x64.2.Code,x64.2.At,[x62.1]))) rfl
 ·exact xA (hk (s60.1,s60.2.1,s60.2.2.1)) rfl
theorem zBq.ok (a1:zD):Ok Tryz.prog 105 [pp 0] [.box (zD.enc false a1)] ((zBq a1).map fun r=>(.ag [sv r.1.Name,iv r.1.Version.A,iv r.1.Version.B,iv r.1.Version.C,iv r.1.Size,so 1 eStr r.1.Provides,so 1 (eSl true 7 Term.enc) r.1.Needs,so 7 Term.enc r.1.Bars],[.box (zD.enc false r.2)])):=by
 refine zJ c105 Tryz.f105 1 63 (fun q=>?_)
 unfold zBq
 refine J_d 2 [(0,1)] [2] [(2,pp 1)] [1] [(1,.box [sv ByteArray.empty,iv 0,iv 0,iv 0,iv 0,nv,nv,nv])] zB ?_
 refine zA (fun x2 h3=>?_)
 refine zA (fun x4 h5=>?_)
 refine zA (fun x6 h7=>?_)
 refine J_d 6 [(10,2)] [3] [(3,pp 2)] [0,2] [(0,.box (zD.enc false x6.2)),(2,.box [sv x2.1,iv (w64 (1+x4.1)),iv 0,iv 0,iv (w64 (1+x6.1)),nv,nv,nv])] (zF 1 (vJ («as»:=[pp 0]) [(.tmp 6)] [56] false [(0,.box (zD.enc false a1))] [0] (.cons (.pt rfl) (.nil)) (vO.ok a1) h3 (.same rfl rfl)) (zF 3 (vJ («as»:=[pp 0,iv 3]) [(.tmp 8),(.const (.int .i64 3))] [56,2] false [(0,.box (zD.enc false x2.2))] [0] (.cons (.pt rfl) (.cons (.same rfl) (.nil))) (zP.ok x2.2 3) h5 (.same rfl rfl)) (zF 7 (vJ («as»:=[pp 0,iv 9]) [(.tmp 12),(.const (.int .i64 9))] [56,2] false [(0,.box (zD.enc false x4.2))] [0] (.cons (.pt rfl) (.cons (.same rfl) (.nil))) (zP.ok x4.2 9) h7 (.same rfl rfl)) zB))) ?_
 refine zA (fun x8 h9=>?_)
 refine J_d 28 [] [17] [(17,bv x8.1)] [0] [(0,.box (zD.enc false x8.2))] (zF 1 (vJ («as»:=[pp 0,iv 5]) [(.tmp 16),(.const (.int .i64 5))] [56,2] false [(0,.box (zD.enc false x6.2))] [0] (.cons (.pt rfl) (.cons (.same rfl) (.nil))) (yE.ok x6.2 5) h9 (.same rfl rfl)) zB) ?_
 refine wU (atI c105 15) (fun v15:((List Int)×Int×(List ByteArray))=>St.mk' [(0,pp 0),(2,pp 1),(3,pp 2)] [(0,.box [sl 1 eU8 v15.1,iv v15.2.1]),(1,.box [sv ByteArray.empty,iv 0,iv 0,iv 0,iv 0,nv,nv,nv]),(2,.box [sv x2.1,iv (w64 (1+x4.1)),iv 0,iv 0,iv (w64 (1+x6.1)),rr 4 v15.2.2,nv,nv]),(4,rE 1 eStr v15.2.2)]) (fun v15=>?_) (fun jv15=>?_)
 ·refine zA (fun x16 h17=>?_)
  refine J_d 60 [] [4] [(4,iv x16.1)] [0] [(0,.box (zD.enc false x16.2))] (zF 1 (zBw 25 2 1 5 zC [0,0,1,1,2] [0,1,2,3,4] [(.const (.int .i64 0)),(.const (.int .i64 0)),(.const (.int .i64 1)),(.const (.int .i64 1)),(.const (.int .i64 2))] [iv 0,iv 0,iv 1,iv 1,iv 2]) (zF 2 (vJ («as»:=[pp 0,rr 5 [0,0,1,1,2]]) [(.tmp 25),(.tmp 26)] [56,25] false [(0,.box [sl 1 eU8 v15.1,iv v15.2.1]),(5,rE 1 zC [0,0,1,1,2])] [0,5] (.cons (.pt rfl) (.cons (.rf rfl) (.nil))) (wR.ok ({Code:=v15.1,At:=v15.2.1}:zD) [0,0,1,1,2]) h17 (.same rfl rfl)) zB)) ?_
  refine zMl 2 6 5 1 rfl rfl (Nat.le_of_ble_eq_true rfl) (by kernel_rfl) ?_
  refine zFv (zDu.ok x2 x4 x6 v15 q _ (fun v82=>J_j ?_) (x16.2.Code,x16.2.At,([]:List (List Term)),x16.1))
  refine zA (fun x83 h84=>?_)
  refine J_d 124 [] [54] [(54,bv x83.1)] [0] [(0,.box (zD.enc false x83.2))] (zF 1 (vJ («as»:=[pp 0,iv 6]) [(.tmp 53),(.const (.int .i64 6))] [56,2] false [(0,.box [sl 1 eU8 v82.1,iv v82.2.1])] [0] (.cons (.pt rfl) (.cons (.same rfl) (.nil))) (yE.ok ({Code:=v82.1,At:=v82.2.1}:zD) 6) h84 (.same rfl rfl)) zB) ?_
  refine wU (atI c105 63) (fun v90:((List Int)×Int×(List Term))=>St.mk' [(2,pp 1),(3,pp 2)] [(0,.box [sl 1 eU8 v90.1,iv v90.2.1]),(1,.box [sv ByteArray.empty,iv 0,iv 0,iv 0,iv 0,nv,nv,nv]),(2,.box [sv x2.1,iv (w64 (1+x4.1)),iv 0,iv 0,iv (w64 (1+x6.1)),rr 4 v15.2.2,rr 5 v82.2.2,rr 7 v90.2.2]),(4,rE 1 eStr v15.2.2),(5,rE 1 (eSl true 7 Term.enc) v82.2.2),(7,rE 7 Term.enc v90.2.2)]) (fun v90=>?_) (fun jv90=>?_)
  ·refine J_g 126 [] [(2,pp 1)] [(0,.box [sl 1 eU8 v90.1,iv v90.2.1]),(1,.box [sv x2.1,iv (w64 (1+x4.1)),iv 0,iv 0,iv (w64 (1+x6.1)),rr 4 v15.2.2,rr 5 v82.2.2,rr 7 v90.2.2]),(4,rE 1 eStr v15.2.2),(5,rE 1 (eSl true 7 Term.enc) v82.2.2),(7,rE 7 Term.enc v90.2.2)] zB ?_
   exact zDZ (ds:=[.ag [sv x2.1,iv (w64 (1+x4.1)),iv 0,iv 0,iv (w64 (1+x6.1)),rr 4 v15.2.2,rr 5 v82.2.2,rr 7 v90.2.2]]) (ds':=[.ag [sv x2.1,iv (w64 (1+x4.1)),iv 0,iv 0,iv (w64 (1+x6.1)),so 1 eStr v15.2.2,so 1 (eSl true 7 Term.enc) v82.2.2,so 7 Term.enc v90.2.2]]) (.cons (.ag (.keep rfl (.keep rfl (.keep rfl (.keep rfl (.keep rfl (.move (.tail _ (.tail _ (.head _))) (List.length_map _) (by decide) (.move (.tail _ (.tail _ (.tail _ (.head _)))) (List.length_map _) (by decide) (.move (.tail _ (.tail _ (.tail _ (.tail _ (.head _))))) (List.length_map _) (by decide) (.nil)))))))))) (.nil) (by decide)) rfl
  ·refine zG 54 (fun h85=>?_) (fun h85=>?_)
   ·refine zA (fun x86 h87=>?_)
    refine zA (fun x88 h89=>?_)
    refine J_d 250 [] [0,54] [] [0,2,7] [(0,.box (zD.enc false x86.2)),(2,.box [sv x2.1,iv (w64 (1+x4.1)),iv 0,iv 0,iv (w64 (1+x6.1)),rr 4 v15.2.2,rr 5 v82.2.2,rr 7 x88]),(7,rE 7 Term.enc x88)] (zF 3 (vJ («as»:=[pp 0]) [(.tmp 57)] [56] false [(0,.box (zD.enc false x83.2))] [0] (.cons (.pt rfl) (.nil)) (uU.ok x83.2) h87 (.ag (.cons (.same rfl rfl) (.cons (.same rfl rfl) (.cons (.same rfl rfl) (.cons (.same rfl rfl) (.cons (.same rfl rfl) (.cons (.same rfl rfl) (.cons (.same rfl rfl) (.nil)))))))))) (zF 4 (zBw 80 104 7 6 Term.enc [x86.1] [0] [(.tmp 58)] [.ag (Term.enc x86.1)]) (zF 5 (zP5 80 80 104 104 7 64 7 6 Term.enc (.tmp 56) (.tmp 59) h89) zB))) ?_
    exact xA (J_j (jv90 (x86.2.Code,x86.2.At,x88))) rfl
   ·refine zMl 2 7 6 7 rfl rfl (Nat.le_of_ble_eq_true rfl) (by kernel_rfl) ?_
    refine uX 6 7 (Nat.le_of_ble_eq_true rfl) (Nat.le_of_ble_eq_true rfl) ?_
    exact xA (J_j (jv90 (x83.2.Code,x83.2.At,([]:List Term)))) rfl
 ·refine zG 17 (fun h10=>?_) (fun h10=>?_)
  ·refine zA (fun x11 h12=>?_)
   refine zA (fun x13 h14=>?_)
   refine J_d 58 [] [17] [] [0,2,4] [(0,.box (zD.enc false x11.2)),(2,.box [sv x2.1,iv (w64 (1+x4.1)),iv 0,iv 0,iv (w64 (1+x6.1)),rr 4 [x13],nv,nv]),(4,rE 1 eStr [x13])] (zF 0 (zBw 32 9 1 3 eStr [bs [109,97,105,108],bs [100,98]] [0,1] [(.const (.string (bs [109,97,105,108]))),(.const (.string (bs [100,98])))] [sv (bs [109,97,105,108]),sv (bs [100,98])]) (zF 2 (vJ («as»:=[pp 0,iv 2]) [(.tmp 19),(.const (.int .i64 2))] [56,2] false [(0,.box (zD.enc false x8.2))] [0] (.cons (.pt rfl) (.cons (.same rfl) (.nil))) (zP.ok x8.2 2) h12 (.same rfl rfl)) (zF 3 (zB5 (kk:=.i64) 32 9 1 3 eStr (.tmp 18) (.tmp 20) h14) (zF 4 (zBU (d:=sv x13) 9 1 3 0 eStr (.tmp 21) h14 (by kernel_rfl)) (zF 5 (zBw 32 9 1 4 eStr [x13] [0] [(.tmp 22)] [sv x13]) zB))))) ?_
   exact xA (J_j (jv15 (x11.2.Code,x11.2.At,[x13]))) rfl
  ·refine zMl 2 5 3 1 rfl rfl (Nat.le_of_ble_eq_true rfl) (by kernel_rfl) ?_
   refine uX 3 4 (Nat.le_of_ble_eq_true rfl) (Nat.le_of_ble_eq_true rfl) ?_
   exact xA (J_j (jv15 (x8.2.Code,x8.2.At,([]:List ByteArray)))) rfl
noncomputable def zQy:Code:=(Tryz.f192.body).getD .skip
theorem zA4.ok (a1:Int) (a2:Int):Ok Tryz.prog 192 [iv a1,iv a2] [] ((zA4 a1 a2).map fun r=>(iv r,[])):=by
 refine zJ zQy Tryz.f192 0 11 (fun q=>?_)
 unfold zA4
 refine J_g 2 [] [(0,iv a1),(1,iv a2)] [] zB ?_
 refine J_d 12 [] [7] [(7,bv (decide (a1<a2)))] [] [] zB ?_
 refine zG 7 (fun h3=>?_) (fun h3=>?_)
 ·refine J_g 52 [] [(4,iv (-1))] [] zB ?_
  exact xJ rfl
 ·refine J_g 28 [] [(10,bv (decide (a1>a2)))] [] zB ?_
  refine zG 10 (fun h4=>?_) (fun h4=>?_)
  ·refine J_g 116 [] [(4,iv 1)] [] zB ?_
   exact xJ rfl
  ·refine J_g 30 [] [(4,iv 0)] [] zB ?_
   exact xJ rfl
noncomputable def c143:Code:=(Tryz.f143.body).getD .skip
theorem yM.ok (a1:Version) (a2:Version):Ok Tryz.prog 143 [.ag (Version.enc a1),.ag (Version.enc a2)] [] ((yM a1 a2).map fun r=>(iv r,[])):=by
 refine zJ c143 Tryz.f143 0 28 (fun q=>?_)
 unfold yM
 refine J_g 2 [(0,0),(1,1)] [(2,pp 0),(3,pp 1)] [(0,.box (Version.enc a1)),(1,.box (Version.enc a2))] zB ?_
 refine zA (fun x3 h4=>?_)
 refine J_g 12 [] [(2,pp 0),(3,pp 1),(5,iv x3)] [(0,.box (Version.enc a1)),(1,.box (Version.enc a2))] (zF 4 (vZ [(.tmp 8),(.tmp 10)] [2,2] (zA4.ok a1.A a2.A) h4) zB) ?_
 refine J_d 26 [] [13] [(13,bv (x3 !=0))] [] [] zB ?_
 refine zG 13 (fun h5=>?_) (fun h5=>?_)
 ·refine J_g 108 [] [(4,iv x3)] [] zB ?_
  exact xJ rfl
 ·refine zA (fun x6 h7=>?_)
  refine J_g 28 [] [(2,pp 0),(3,pp 1),(6,iv x6)] [(0,.box (Version.enc a1)),(1,.box (Version.enc a2))] (zF 4 (vZ [(.tmp 16),(.tmp 18)] [2,2] (zA4.ok a1.B a2.B) h7) zB) ?_
  refine J_d 58 [] [21] [(21,bv (x6 !=0))] [] [] zB ?_
  refine zG 21 (fun h8=>?_) (fun h8=>?_)
  ·refine J_g 236 [] [(4,iv x6)] [] zB ?_
   exact xJ rfl
  ·refine zA (fun x9 h10=>?_)
   refine J_g 30 [] [(4,iv x9)] [] (zF 4 (vZ [(.tmp 24),(.tmp 26)] [2,2] (zA4.ok a1.C a2.C) h10) zB) ?_
   exact xJ rfl
noncomputable def zOz:Code:=(Tryz.f106.body).getD .skip
theorem zDw.ok (a1:(List Pack)) (a2:ByteArray) (a3:Version) (q:Wd) (kn:Unit→Option (D×List Ent)) (hk:∀v:Unit,J (q.g Tryz.prog 106 0 32) zOz (atI zOz 7) (St.mk' [] []) (some v) kn):
  ∀s14:Int,J (q.g Tryz.prog 106 0 32) zOz (atI zOz 52) (St.mk' [(0,sl 8 (Pack.enc false) a1),(1,sv a2),(5,pp 0),(7,iv s14)] [(0,.box (Version.enc a3))]) (zDw a1 a2 a3 s14) (Fl.go (fun r:Int=>some (iv r,[])) kn):=by
 refine zAC (fun g ih s14=>?_)
 unfold zCX
 refine J_d 208 [] [11] [(11,bv (decide (s14< (a1.length:Int))))] [] [] zB ?_
 refine zG 11 (fun h15=>?_) (fun h15=>?_)
 ·refine zA (fun x16 h17=>?_)
  refine wU (atI zOz 841) (fun v23:Bool=>St.mk' [(0,sl 8 (Pack.enc false) a1),(1,sv a2),(5,pp 0),(7,iv s14),(30,bv v23)] [(0,.box (Version.enc a3))]) (fun v23=>?_) (fun jv23=>?_)
  ·refine zG 30 (fun h24=>?_) (fun h24=>?_)
   ·refine J_g 3364 [] [(6,iv s14)] [] zB ?_
    exact xJ rfl
   ·refine J_d 211 [] [7,30] [(7,iv (w64 (s14+1)))] [] [] zB ?_
    exact J_q (J_b (ih (w64 (s14+1)))) rfl
  ·refine uN (fun h18=>?_) (fun h18=>?_)
   ·refine zA (fun x19 h20=>?_)
    refine zA (fun x21 h22=>?_)
    refine J_d 840 [] [11,30] [(30,bv (x21==0))] [] [] (zF 2 (kD (kk:=.i64) 24 91 8 (Pack.enc false) (.tmp 14) (.tmp 15) h17) (vV 7 [(20,bv (seq x16.Name a2))] [] h18 (zAR 10 7 21 true (kD (kk:=.i64) 24 91 8 (Pack.enc false) (.tmp 22) (.tmp 23) h20) (zAR 14 7 21 true (vZ [(.tmp 26),(.tmp 27)] [88,88] (yM.ok x19.Version a3) h22) zB)))) ?_
    exact xA (J_j (jv23 (x21==0))) rfl
   ·refine J_d 840 [] [11,30] [(30,bv false)] [] [] (zF 2 (kD (kk:=.i64) 24 91 8 (Pack.enc false) (.tmp 14) (.tmp 15) h17) (vV 7 [(20,bv (seq x16.Name a2))] [] h18 zB)) ?_
    exact xA (J_j (jv23 false)) rfl
 ·exact xA (hk ()) rfl
theorem zBj.ok (a1:(List Pack)) (a2:ByteArray) (a3:Version):Ok Tryz.prog 106 [sl 8 (Pack.enc false) a1,sv a2,.ag (Version.enc a3)] [] ((zBj a1 a2 a3).map fun r=>(iv r,[])):=by
 refine zJ zOz Tryz.f106 0 32 (fun q=>?_)
 unfold zBj
 refine J_g 2 [(0,0)] [(0,sl 8 (Pack.enc false) a1),(1,sv a2),(5,pp 0)] [(0,.box (Version.enc a3))] zB ?_
 refine J_d 12 [] [7] [(7,iv 0)] [] [] zB ?_
 refine jW (K0:=(fun r:Int=>some (iv r,[]))) (fun _=>rfl) (zDw.ok a1 a2 a3 q _ (fun v25=>J_j ?_) 0)
 refine J_g 14 [] [(6,iv (-1))] [] zB ?_
 exact xJ rfl
noncomputable def zQl:Code:=(Tryz.f144.body).getD .skip
theorem vN.ok (a1:zD):Ok Tryz.prog 144 [pp 0] [.box (zD.enc false a1)] ((vN a1).map fun r=>(sv r.1,[.box (zD.enc false r.2)])):=by
 refine zJ zQl Tryz.f144 1 12 (fun q=>?_)
 unfold vN
 refine J_d 2 [] [] [] [] [] zB ?_
 refine zA (fun x2 h3=>?_)
 refine J_g 12 [] [(0,pp 0),(4,bv x2.1)] [(0,.box (zD.enc false x2.2))] (zF 1 (vJ («as»:=[pp 0,iv 14]) [(.tmp 3),(.const (.int .i64 14))] [56,2] false [(0,.box (zD.enc false a1))] [0] (.cons (.pt rfl) (.cons (.same rfl) (.nil))) (yE.ok a1 14) h3 (.same rfl rfl)) zB) ?_
 refine zG 4 (fun h4=>?_) (fun h4=>?_)
 ·refine zA (fun x5 h6=>?_)
  refine zA (fun x7 h8=>?_)
  refine J_g 52 [] [(2,sv x7)] [(0,.box (zD.enc false x5.2))] (zF 0 (zBw 32 9 1 1 eStr [bs [],bs [49,97],bs [65],bs [97,98,99,100,101,102,103,104,105,106,107,108,109],bs [97,98,99,100,101,102,103,104,105,106,107,108],bs [97,32,98],bs [97,45],bs [95,97],bs [97,95,49]] [0,1,2,3,4,5,6,7,8] [(.const (.string (bs []))),(.const (.string (bs [49,97]))),(.const (.string (bs [65]))),(.const (.string (bs [97,98,99,100,101,102,103,104,105,106,107,108,109]))),(.const (.string (bs [97,98,99,100,101,102,103,104,105,106,107,108]))),(.const (.string (bs [97,32,98]))),(.const (.string (bs [97,45]))),(.const (.string (bs [95,97]))),(.const (.string (bs [97,95,49])))] [sv (bs []),sv (bs [49,97]),sv (bs [65]),sv (bs [97,98,99,100,101,102,103,104,105,106,107,108,109]),sv (bs [97,98,99,100,101,102,103,104,105,106,107,108]),sv (bs [97,32,98]),sv (bs [97,45]),sv (bs [95,97]),sv (bs [97,95,49])]) (zF 2 (vJ («as»:=[pp 0,iv 9]) [(.tmp 6),(.const (.int .i64 9))] [56,2] false [(0,.box (zD.enc false x2.2))] [0] (.cons (.pt rfl) (.cons (.same rfl) (.nil))) (zP.ok x2.2 9) h6 (.same rfl rfl)) (zF 3 (zB5 (kk:=.i64) 32 9 1 1 eStr (.tmp 5) (.tmp 7) h8) (zF 4 (zBU (d:=sv x7) 9 1 1 0 eStr (.tmp 8) h8 (by kernel_rfl)) zB)))) ?_
  exact xJ rfl
 ·refine zA (fun x9 h10=>?_)
  refine J_g 14 [] [(2,sv x9.1)] [(0,.box (zD.enc false x9.2))] (zF 1 (vJ («as»:=[pp 0]) [(.tmp 10)] [56] false [(0,.box (zD.enc false x2.2))] [0] (.cons (.pt rfl) (.nil)) (vO.ok x2.2) h10 (.same rfl rfl)) zB) ?_
  exact xJ rfl
noncomputable def c145:Code:=(Tryz.f145.body).getD .skip
theorem vG.ok (a1:zD):Ok Tryz.prog 145 [pp 0] [.box (zD.enc false a1)] ((vG a1).map fun r=>(.ag (Version.enc r.1),[.box (zD.enc false r.2)])):=by
 refine zJ c145 Tryz.f145 1 27 (fun q=>?_)
 unfold vG
 refine J_d 2 [(0,1)] [2] [(2,pp 1)] [1] [(1,.box [iv 0,iv 0,iv 0])] zB ?_
 refine zA (fun x2 h3=>?_)
 refine J_d 6 [(2,2)] [3] [(3,pp 2)] [0,2] [(0,.box (zD.enc false x2.2)),(2,.box (Version.enc x2.1))] (zF 1 (vJ («as»:=[pp 0]) [(.tmp 4)] [56] false [(0,.box (zD.enc false a1))] [0] (.cons (.pt rfl) (.nil)) (jA.ok a1) h3 (.ag (.cons (.same rfl rfl) (.cons (.same rfl rfl) (.cons (.same rfl rfl) (.nil)))))) zB) ?_
 refine zA (fun x4 h5=>?_)
 refine J_g 28 [] [(0,pp 0),(2,pp 1),(3,pp 2),(7,iv x4.1)] [(0,.box (zD.enc false x4.2)),(1,.box [iv 0,iv 0,iv 0]),(2,.box (Version.enc x2.1))] (zF 1 (vJ («as»:=[pp 0,iv 14]) [(.tmp 6),(.const (.int .i64 14))] [56,2] false [(0,.box (zD.enc false x2.2))] [0] (.cons (.pt rfl) (.cons (.same rfl) (.nil))) (zP.ok x2.2 14) h5 (.same rfl rfl)) zB) ?_
 refine J_d 116 [] [8] [(8,bv (x4.1==0))] [] [] zB ?_
 refine wU (aft c145 58) (fun v15:((List Int)×Int×Int×Int×Int)=>St.mk' [(2,pp 1),(3,pp 2)] [(0,.box [sl 1 eU8 v15.1,iv v15.2.1]),(1,.box [iv 0,iv 0,iv 0]),(2,.box [iv v15.2.2.1,iv v15.2.2.2.1,iv v15.2.2.2.2])]) (fun v15=>?_) (fun jv15=>?_)
 ·refine J_g 30 [] [(2,pp 1)] [(0,.box [sl 1 eU8 v15.1,iv v15.2.1]),(1,.box [iv v15.2.2.1,iv v15.2.2.2.1,iv v15.2.2.2.2])] zB ?_
  exact xJ rfl
 ·refine zG 8 (fun h6=>?_) (fun h6=>?_)
  ·refine zA (fun x7 h8=>?_)
   refine J_d 234 [] [0,7,8] [] [0,2] [(0,.box (zD.enc false x7.2)),(2,.box [iv x7.1,iv x2.1.B,iv x2.1.C])] (zF 1 (zBw 25 2 1 3 zC [(-1),999,1000] [0,1,2] [(.const (.int .i64 (-1))),(.const (.int .i64 999)),(.const (.int .i64 1000))] [iv (-1),iv 999,iv 1000]) (zF 2 (vJ («as»:=[pp 0,rr 3 [(-1),999,1000]]) [(.tmp 10),(.tmp 11)] [56,25] false [(0,.box (zD.enc false x4.2)),(3,rE 1 zC [(-1),999,1000])] [0,3] (.cons (.pt rfl) (.cons (.rf rfl) (.nil))) (wR.ok x4.2 [(-1),999,1000]) h8 (.same rfl rfl)) zB)) ?_
   exact xA (J_j (jv15 (x7.2.Code,x7.2.At,x7.1,x2.1.B,x2.1.C))) rfl
  ·refine J_d 470 [] [8,14] [(14,bv (x4.1==1))] [] [] zB ?_
   refine zG 14 (fun h9=>?_) (fun h9=>?_)
   ·refine zA (fun x10 h11=>?_)
    refine J_d 942 [] [0,7,14] [] [0,2] [(0,.box (zD.enc false x10.2)),(2,.box [iv x2.1.A,iv x10.1,iv x2.1.C])] (zF 1 (zBw 25 2 1 3 zC [(-1),999,1000] [0,1,2] [(.const (.int .i64 (-1))),(.const (.int .i64 999)),(.const (.int .i64 1000))] [iv (-1),iv 999,iv 1000]) (zF 2 (vJ («as»:=[pp 0,rr 3 [(-1),999,1000]]) [(.tmp 16),(.tmp 17)] [56,25] false [(0,.box (zD.enc false x4.2)),(3,rE 1 zC [(-1),999,1000])] [0,3] (.cons (.pt rfl) (.cons (.rf rfl) (.nil))) (wR.ok x4.2 [(-1),999,1000]) h11 (.same rfl rfl)) zB)) ?_
    exact xA (J_j (jv15 (x10.2.Code,x10.2.At,x2.1.A,x10.1,x2.1.C))) rfl
   ·refine J_d 1886 [] [7,14,20] [(20,bv (x4.1==2))] [] [] zB ?_
    refine zG 20 (fun h12=>?_) (fun h12=>?_)
    ·refine zA (fun x13 h14=>?_)
     refine J_d 3774 [] [0,20] [] [0,2] [(0,.box (zD.enc false x13.2)),(2,.box [iv x2.1.A,iv x2.1.B,iv x13.1])] (zF 1 (zBw 25 2 1 3 zC [(-1),999,1000,4611686018427387904] [0,1,2,3] [(.const (.int .i64 (-1))),(.const (.int .i64 999)),(.const (.int .i64 1000)),(.const (.int .i64 4611686018427387904))] [iv (-1),iv 999,iv 1000,iv 4611686018427387904]) (zF 2 (vJ («as»:=[pp 0,rr 3 [(-1),999,1000,4611686018427387904]]) [(.tmp 22),(.tmp 23)] [56,25] false [(0,.box (zD.enc false x4.2)),(3,rE 1 zC [(-1),999,1000,4611686018427387904])] [0,3] (.cons (.pt rfl) (.cons (.rf rfl) (.nil))) (wR.ok x4.2 [(-1),999,1000,4611686018427387904]) h14 (.same rfl rfl)) zB)) ?_
     exact xA (J_j (jv15 (x13.2.Code,x13.2.At,x2.1.A,x2.1.B,x13.1))) rfl
    ·exact xA (J_j (jv15 (x4.2.Code,x4.2.At,x2.1.A,x2.1.B,x2.1.C))) rfl
noncomputable def c146:Code:=(Tryz.f146.body).getD .skip
theorem uI.ok (a1:zD):Ok Tryz.prog 146 [pp 0] [.box (zD.enc false a1)] ((uI a1).map fun r=>(.ag (Term.enc r.1),[.box (zD.enc false r.2)])):=by
 refine zJ c146 Tryz.f146 1 29 (fun q=>?_)
 unfold uI
 refine J_d 2 [(0,1)] [2] [(2,pp 1)] [1] [(1,.box [sv ByteArray.empty,iv 0,iv 0,iv 0,iv 0,iv 0,iv 0])] zB ?_
 refine zA (fun x2 h3=>?_)
 refine J_d 6 [(2,2)] [3] [(3,pp 2)] [0,2] [(0,.box (zD.enc false x2.2)),(2,.box (Term.enc x2.1))] (zF 1 (vJ («as»:=[pp 0]) [(.tmp 4)] [56] false [(0,.box (zD.enc false a1))] [0] (.cons (.pt rfl) (.nil)) (uU.ok a1) h3 (.ag (.cons (.same rfl rfl) (.cons (.same rfl rfl) (.cons (.same rfl rfl) (.cons (.same rfl rfl) (.cons (.same rfl rfl) (.cons (.same rfl rfl) (.cons (.same rfl rfl) (.nil)))))))))) zB) ?_
 refine zA (fun x4 h5=>?_)
 refine J_g 28 [] [(0,pp 0),(2,pp 1),(3,pp 2),(7,iv x4.1)] [(0,.box (zD.enc false x4.2)),(1,.box [sv ByteArray.empty,iv 0,iv 0,iv 0,iv 0,iv 0,iv 0]),(2,.box (Term.enc x2.1))] (zF 1 (vJ («as»:=[pp 0,iv 14]) [(.tmp 6),(.const (.int .i64 14))] [56,2] false [(0,.box (zD.enc false x2.2))] [0] (.cons (.pt rfl) (.cons (.same rfl) (.nil))) (zP.ok x2.2 14) h5 (.same rfl rfl)) zB) ?_
 refine J_d 116 [] [8] [(8,bv (x4.1==0))] [] [] zB ?_
 refine wU (aft c146 58) (fun v16:((List Int)×Int×ByteArray×Int×Int×Int×Int×Int×Int)=>St.mk' [(2,pp 1),(3,pp 2)] [(0,.box [sl 1 eU8 v16.1,iv v16.2.1]),(1,.box [sv ByteArray.empty,iv 0,iv 0,iv 0,iv 0,iv 0,iv 0]),(2,.box [sv v16.2.2.1,iv v16.2.2.2.1,iv v16.2.2.2.2.1,iv v16.2.2.2.2.2.1,iv v16.2.2.2.2.2.2.1,iv v16.2.2.2.2.2.2.2.1,iv v16.2.2.2.2.2.2.2.2])]) (fun v16=>?_) (fun jv16=>?_)
 ·refine J_g 30 [] [(2,pp 1)] [(0,.box [sl 1 eU8 v16.1,iv v16.2.1]),(1,.box [sv v16.2.2.1,iv v16.2.2.2.1,iv v16.2.2.2.2.1,iv v16.2.2.2.2.2.1,iv v16.2.2.2.2.2.2.1,iv v16.2.2.2.2.2.2.2.1,iv v16.2.2.2.2.2.2.2.2])] zB ?_
  exact xJ rfl
 ·refine zG 8 (fun h6=>?_) (fun h6=>?_)
  ·refine zA (fun x7 h8=>?_)
   refine J_d 234 [] [0,7,8] [] [0,2] [(0,.box (zD.enc false x7.2)),(2,.box [sv x7.1,iv x2.1.Low.A,iv x2.1.Low.B,iv x2.1.Low.C,iv x2.1.High.A,iv x2.1.High.B,iv x2.1.High.C])] (zF 1 (vJ («as»:=[pp 0]) [(.tmp 10)] [56] false [(0,.box (zD.enc false x4.2))] [0] (.cons (.pt rfl) (.nil)) (vN.ok x4.2) h8 (.same rfl rfl)) zB) ?_
   exact xA (J_j (jv16 (x7.2.Code,x7.2.At,x7.1,x2.1.Low.A,x2.1.Low.B,x2.1.Low.C,x2.1.High.A,x2.1.High.B,x2.1.High.C))) rfl
  ·refine J_d 470 [] [8,13] [(13,bv (x4.1==1))] [] [] zB ?_
   refine zG 13 (fun h9=>?_) (fun h9=>?_)
   ·refine zA (fun x10 h11=>?_)
    refine J_d 942 [] [0,7,13] [] [0,2] [(0,.box (zD.enc false x10.2)),(2,.box [sv x2.1.Name,iv x10.1.A,iv x10.1.B,iv x10.1.C,iv x2.1.High.A,iv x2.1.High.B,iv x2.1.High.C])] (zF 1 (vJ («as»:=[pp 0]) [(.tmp 15)] [56] false [(0,.box (zD.enc false x4.2))] [0] (.cons (.pt rfl) (.nil)) (vG.ok x4.2) h11 (.ag (.cons (.same rfl rfl) (.cons (.same rfl rfl) (.cons (.same rfl rfl) (.nil)))))) zB) ?_
    exact xA (J_j (jv16 (x10.2.Code,x10.2.At,x2.1.Name,x10.1.A,x10.1.B,x10.1.C,x2.1.High.A,x2.1.High.B,x2.1.High.C))) rfl
   ·refine J_d 1886 [] [13,18] [(18,bv (x4.1==2))] [] [] zB ?_
    refine zG 18 (fun h12=>?_) (fun h12=>?_)
    ·refine zA (fun x13 h14=>?_)
     refine J_d 3774 [] [0,7,18] [] [0,2] [(0,.box (zD.enc false x13.2)),(2,.box [sv x2.1.Name,iv x2.1.Low.A,iv x2.1.Low.B,iv x2.1.Low.C,iv x13.1.A,iv x13.1.B,iv x13.1.C])] (zF 1 (vJ («as»:=[pp 0]) [(.tmp 20)] [56] false [(0,.box (zD.enc false x4.2))] [0] (.cons (.pt rfl) (.nil)) (vG.ok x4.2) h14 (.ag (.cons (.same rfl rfl) (.cons (.same rfl rfl) (.cons (.same rfl rfl) (.nil)))))) zB) ?_
     exact xA (J_j (jv16 (x13.2.Code,x13.2.At,x2.1.Name,x2.1.Low.A,x2.1.Low.B,x2.1.Low.C,x13.1.A,x13.1.B,x13.1.C))) rfl
    ·refine J_d 7550 [] [0,7,18,23] [(23,bv (x4.1==3))] [] [] zB ?_
     refine zG 23 (fun h15=>?_) (fun h15=>?_)
     ·refine J_d 15102 [] [23] [] [2] [(2,.box [sv x2.1.Name,iv x2.1.Low.A,iv x2.1.Low.B,iv x2.1.Low.C,iv x2.1.Low.A,iv x2.1.Low.B,iv x2.1.Low.C])] zB ?_
      exact xA (J_j (jv16 (x4.2.Code,x4.2.At,x2.1.Name,x2.1.Low.A,x2.1.Low.B,x2.1.Low.C,x2.1.Low.A,x2.1.Low.B,x2.1.Low.C))) rfl
     ·exact xA (J_j (jv16 (x4.2.Code,x4.2.At,x2.1.Name,x2.1.Low.A,x2.1.Low.B,x2.1.Low.C,x2.1.High.A,x2.1.High.B,x2.1.High.C))) rfl
noncomputable def c107:Code:=(Tryz.f107.body).getD .skip
theorem zA5.ok (a1:zD):Ok Tryz.prog 107 [pp 0] [.box (zD.enc false a1)] ((zA5 a1).map fun r=>(.ag (Pack.enc false r.1),[.box (zD.enc false r.2)])):=by
 refine zJ c107 Tryz.f107 1 76 (fun q=>?_)
 unfold zA5
 refine J_d 2 [(0,1)] [2] [(2,pp 1)] [1] [(1,.box [sv ByteArray.empty,iv 0,iv 0,iv 0,iv 0,nv,nv,nv])] zB ?_
 refine zA (fun x2 h3=>?_)
 refine J_d 6 [(2,5)] [3] [(3,pp 5)] [0,2,3,4,5] [(0,.box (zD.enc false x2.2)),(2,rE 1 eStr x2.1.Provides),(3,rE 1 (eSl true 7 Term.enc) x2.1.Needs),(4,rE 7 Term.enc x2.1.Bars),(5,.box [sv x2.1.Name,iv x2.1.Version.A,iv x2.1.Version.B,iv x2.1.Version.C,iv x2.1.Size,rr 2 x2.1.Provides,rr 3 x2.1.Needs,rr 4 x2.1.Bars])] (zF 1 (vJ («as»:=[pp 0]) [(.tmp 4)] [56] false [(0,.box (zD.enc false a1))] [0] (.cons (.pt rfl) (.nil)) (zBq.ok a1) h3 (.ag (.cons (.same rfl rfl) (.cons (.same rfl rfl) (.cons (.same rfl rfl) (.cons (.same rfl rfl) (.cons (.same rfl rfl) (.cons (.own 2) (.cons (.own 3) (.cons (.own 4) (.nil))))))))))) zB) ?_
 refine zA (fun x4 h5=>?_)
 refine J_g 28 [] [(0,pp 0),(2,pp 1),(3,pp 5),(7,iv x4.1)] [(0,.box (zD.enc false x4.2)),(1,.box [sv ByteArray.empty,iv 0,iv 0,iv 0,iv 0,nv,nv,nv]),(2,rE 1 eStr x2.1.Provides),(3,rE 1 (eSl true 7 Term.enc) x2.1.Needs),(4,rE 7 Term.enc x2.1.Bars),(5,.box [sv x2.1.Name,iv x2.1.Version.A,iv x2.1.Version.B,iv x2.1.Version.C,iv x2.1.Size,rr 2 x2.1.Provides,rr 3 x2.1.Needs,rr 4 x2.1.Bars])] (zF 1 (vJ («as»:=[pp 0,iv 24]) [(.tmp 6),(.const (.int .i64 24))] [56,2] false [(0,.box (zD.enc false x2.2))] [0] (.cons (.pt rfl) (.cons (.same rfl) (.nil))) (zP.ok x2.2 24) h5 (.same rfl rfl)) zB) ?_
 refine J_d 116 [] [8] [(8,bv (x4.1==0))] [] [] zB ?_
 refine wU (aft c107 58) (fun v43:((List Int)×Int×ByteArray×Int×Int×Int×Int×(List ByteArray)×(List (List Term))×(List Term))=>St.mk' [(2,pp 1),(3,pp 5)] [(0,.box [sl 1 eU8 v43.1,iv v43.2.1]),(1,.box [sv ByteArray.empty,iv 0,iv 0,iv 0,iv 0,nv,nv,nv]),(2,rE 1 eStr v43.2.2.2.2.2.2.2.1),(3,rE 1 (eSl false 7 Term.enc) v43.2.2.2.2.2.2.2.2.1),(4,rE 7 Term.enc v43.2.2.2.2.2.2.2.2.2),(5,.box [sv v43.2.2.1,iv v43.2.2.2.1,iv v43.2.2.2.2.1,iv v43.2.2.2.2.2.1,iv v43.2.2.2.2.2.2.1,rr 2 v43.2.2.2.2.2.2.2.1,rr 3 v43.2.2.2.2.2.2.2.2.1,rr 4 v43.2.2.2.2.2.2.2.2.2])]) (fun v43=>?_) (fun jv43=>?_)
 ·refine J_g 30 [] [(2,pp 1)] [(0,.box [sl 1 eU8 v43.1,iv v43.2.1]),(1,.box [sv v43.2.2.1,iv v43.2.2.2.1,iv v43.2.2.2.2.1,iv v43.2.2.2.2.2.1,iv v43.2.2.2.2.2.2.1,rr 2 v43.2.2.2.2.2.2.2.1,rr 3 v43.2.2.2.2.2.2.2.2.1,rr 4 v43.2.2.2.2.2.2.2.2.2]),(2,rE 1 eStr v43.2.2.2.2.2.2.2.1),(3,rE 1 (eSl false 7 Term.enc) v43.2.2.2.2.2.2.2.2.1),(4,rE 7 Term.enc v43.2.2.2.2.2.2.2.2.2)] zB ?_
  refine zBv [(2,pp 1)] [(2,rE 1 eStr v43.2.2.2.2.2.2.2.1),(0,.box [sl 1 eU8 v43.1,iv v43.2.1]),(1,.box [sv v43.2.2.1,iv v43.2.2.2.1,iv v43.2.2.2.2.1,iv v43.2.2.2.2.2.1,iv v43.2.2.2.2.2.2.1,rr 2 v43.2.2.2.2.2.2.2.1,rr 3 v43.2.2.2.2.2.2.2.2.1,rr 4 v43.2.2.2.2.2.2.2.2.2]),(3,rE 1 (eSl false 7 Term.enc) v43.2.2.2.2.2.2.2.2.1),(4,rE 7 Term.enc v43.2.2.2.2.2.2.2.2.2)] (by kernel_rfl) ?_
  refine zGu 2 (z:=1) (xs:=v43.2.2.2.2.2.2.2.1.map eStr) (tm2:=[(2,pp 1)]) (hp2:=[(0,.box [sl 1 eU8 v43.1,iv v43.2.1]),(1,.box [sv v43.2.2.1,iv v43.2.2.2.1,iv v43.2.2.2.2.1,iv v43.2.2.2.2.2.1,iv v43.2.2.2.2.2.2.1,sl 1 eStr v43.2.2.2.2.2.2.2.1,rr 3 v43.2.2.2.2.2.2.2.2.1,rr 4 v43.2.2.2.2.2.2.2.2.2]),(3,rE 1 (eSl false 7 Term.enc) v43.2.2.2.2.2.2.2.2.1),(4,rE 7 Term.enc v43.2.2.2.2.2.2.2.2.2)]) (.cons (.keep rfl) (.nil)) (.keep rfl (.box rfl (.cons (.keep rfl) (.cons (.keep rfl) (.cons (.keep rfl) (.cons (.keep rfl) (.cons (.keep rfl) (.cons (.rf (by simp) (zEw (enc:=eStr) (enc':=eStr) (fun _=>rfl) v43.2.2.2.2.2.2.2.1 rfl rfl)) (.cons (.keep rfl) (.cons (.keep rfl) (.nil))))))))) (.keep rfl (.keep rfl (.nil))))) rfl ?_
  refine zBv [(2,pp 1)] [(3,rE 1 (eSl false 7 Term.enc) v43.2.2.2.2.2.2.2.2.1),(0,.box [sl 1 eU8 v43.1,iv v43.2.1]),(1,.box [sv v43.2.2.1,iv v43.2.2.2.1,iv v43.2.2.2.2.1,iv v43.2.2.2.2.2.1,iv v43.2.2.2.2.2.2.1,sl 1 eStr v43.2.2.2.2.2.2.2.1,rr 3 v43.2.2.2.2.2.2.2.2.1,rr 4 v43.2.2.2.2.2.2.2.2.2]),(4,rE 7 Term.enc v43.2.2.2.2.2.2.2.2.2)] (by kernel_rfl) ?_
  refine zGu 3 (z:=1) (xs:=v43.2.2.2.2.2.2.2.2.1.map (eSl false 7 Term.enc)) (tm2:=[(2,pp 1)]) (hp2:=[(0,.box [sl 1 eU8 v43.1,iv v43.2.1]),(1,.box [sv v43.2.2.1,iv v43.2.2.2.1,iv v43.2.2.2.2.1,iv v43.2.2.2.2.2.1,iv v43.2.2.2.2.2.2.1,sl 1 eStr v43.2.2.2.2.2.2.2.1,sl 1 (eSl false 7 Term.enc) v43.2.2.2.2.2.2.2.2.1,rr 4 v43.2.2.2.2.2.2.2.2.2]),(4,rE 7 Term.enc v43.2.2.2.2.2.2.2.2.2)]) (.cons (.keep rfl) (.nil)) (.keep rfl (.box rfl (.cons (.keep rfl) (.cons (.keep rfl) (.cons (.keep rfl) (.cons (.keep rfl) (.cons (.keep rfl) (.cons (.keep rfl) (.cons (.rf (by simp) (zEw (enc:=(eSl false 7 Term.enc)) (enc':=(eSl false 7 Term.enc)) (zDE (fun _=>rfl)) v43.2.2.2.2.2.2.2.2.1 rfl rfl)) (.cons (.keep rfl) (.nil))))))))) (.keep rfl (.nil)))) rfl ?_
  refine zBv [(2,pp 1)] [(4,rE 7 Term.enc v43.2.2.2.2.2.2.2.2.2),(0,.box [sl 1 eU8 v43.1,iv v43.2.1]),(1,.box [sv v43.2.2.1,iv v43.2.2.2.1,iv v43.2.2.2.2.1,iv v43.2.2.2.2.2.1,iv v43.2.2.2.2.2.2.1,sl 1 eStr v43.2.2.2.2.2.2.2.1,sl 1 (eSl false 7 Term.enc) v43.2.2.2.2.2.2.2.2.1,rr 4 v43.2.2.2.2.2.2.2.2.2])] (by kernel_rfl) ?_
  refine zGu 4 (z:=7) (xs:=v43.2.2.2.2.2.2.2.2.2.map Term.enc) (tm2:=[(2,pp 1)]) (hp2:=[(0,.box [sl 1 eU8 v43.1,iv v43.2.1]),(1,.box [sv v43.2.2.1,iv v43.2.2.2.1,iv v43.2.2.2.2.1,iv v43.2.2.2.2.2.1,iv v43.2.2.2.2.2.2.1,sl 1 eStr v43.2.2.2.2.2.2.2.1,sl 1 (eSl false 7 Term.enc) v43.2.2.2.2.2.2.2.2.1,sl 7 Term.enc v43.2.2.2.2.2.2.2.2.2])]) (.cons (.keep rfl) (.nil)) (.keep rfl (.box rfl (.cons (.keep rfl) (.cons (.keep rfl) (.cons (.keep rfl) (.cons (.keep rfl) (.cons (.keep rfl) (.cons (.keep rfl) (.cons (.keep rfl) (.cons (.rf (by simp) (zEw (enc:=Term.enc) (enc':=Term.enc) (fun _=>rfl) v43.2.2.2.2.2.2.2.2.2 rfl rfl)) (.nil))))))))) (.nil))) rfl ?_
  exact xJ rfl
 ·refine zG 8 (fun h6=>?_) (fun h6=>?_)
  ·refine zA (fun x7 h8=>?_)
   refine J_d 234 [] [0,7,8] [] [0,5] [(0,.box (zD.enc false x7.2)),(5,.box [sv x7.1,iv x2.1.Version.A,iv x2.1.Version.B,iv x2.1.Version.C,iv x2.1.Size,rr 2 x2.1.Provides,rr 3 x2.1.Needs,rr 4 x2.1.Bars])] (zF 1 (vJ («as»:=[pp 0]) [(.tmp 10)] [56] false [(0,.box (zD.enc false x4.2))] [0] (.cons (.pt rfl) (.nil)) (vN.ok x4.2) h8 (.same rfl rfl)) zB) ?_
   refine zBv [(2,pp 1),(3,pp 5)] [(3,rE 1 (eSl true 7 Term.enc) x2.1.Needs),(0,.box (zD.enc false x7.2)),(1,.box [sv ByteArray.empty,iv 0,iv 0,iv 0,iv 0,nv,nv,nv]),(2,rE 1 eStr x2.1.Provides),(4,rE 7 Term.enc x2.1.Bars),(5,.box [sv x7.1,iv x2.1.Version.A,iv x2.1.Version.B,iv x2.1.Version.C,iv x2.1.Size,rr 2 x2.1.Provides,rr 3 x2.1.Needs,rr 4 x2.1.Bars])] (by kernel_rfl) ?_
   refine zFP 3 (kE (enc:=(eSl true 7 Term.enc)) (enc':=(eSl false 7 Term.enc)) (zDE (fun _=>rfl)) _) ?_
   refine zBv [(2,pp 1),(3,pp 5)] [(0,.box (zD.enc false x7.2)),(1,.box [sv ByteArray.empty,iv 0,iv 0,iv 0,iv 0,nv,nv,nv]),(2,rE 1 eStr x2.1.Provides),(3,rE 1 (eSl false 7 Term.enc) x2.1.Needs),(4,rE 7 Term.enc x2.1.Bars),(5,.box [sv x7.1,iv x2.1.Version.A,iv x2.1.Version.B,iv x2.1.Version.C,iv x2.1.Size,rr 2 x2.1.Provides,rr 3 x2.1.Needs,rr 4 x2.1.Bars])] (by kernel_rfl) ?_
   exact xA (J_j (jv43 (x7.2.Code,x7.2.At,x7.1,x2.1.Version.A,x2.1.Version.B,x2.1.Version.C,x2.1.Size,x2.1.Provides,x2.1.Needs,x2.1.Bars))) rfl
  ·refine J_d 470 [] [8,13] [(13,bv (x4.1==1))] [] [] zB ?_
   refine zG 13 (fun h9=>?_) (fun h9=>?_)
   ·refine zA (fun x10 h11=>?_)
    refine J_d 942 [] [0,7,13] [] [0,5] [(0,.box (zD.enc false x10.2)),(5,.box [sv x2.1.Name,iv x10.1.A,iv x10.1.B,iv x10.1.C,iv x2.1.Size,rr 2 x2.1.Provides,rr 3 x2.1.Needs,rr 4 x2.1.Bars])] (zF 1 (vJ («as»:=[pp 0]) [(.tmp 15)] [56] false [(0,.box (zD.enc false x4.2))] [0] (.cons (.pt rfl) (.nil)) (vG.ok x4.2) h11 (.ag (.cons (.same rfl rfl) (.cons (.same rfl rfl) (.cons (.same rfl rfl) (.nil)))))) zB) ?_
    refine zBv [(2,pp 1),(3,pp 5)] [(3,rE 1 (eSl true 7 Term.enc) x2.1.Needs),(0,.box (zD.enc false x10.2)),(1,.box [sv ByteArray.empty,iv 0,iv 0,iv 0,iv 0,nv,nv,nv]),(2,rE 1 eStr x2.1.Provides),(4,rE 7 Term.enc x2.1.Bars),(5,.box [sv x2.1.Name,iv x10.1.A,iv x10.1.B,iv x10.1.C,iv x2.1.Size,rr 2 x2.1.Provides,rr 3 x2.1.Needs,rr 4 x2.1.Bars])] (by kernel_rfl) ?_
    refine zFP 3 (kE (enc:=(eSl true 7 Term.enc)) (enc':=(eSl false 7 Term.enc)) (zDE (fun _=>rfl)) _) ?_
    refine zBv [(2,pp 1),(3,pp 5)] [(0,.box (zD.enc false x10.2)),(1,.box [sv ByteArray.empty,iv 0,iv 0,iv 0,iv 0,nv,nv,nv]),(2,rE 1 eStr x2.1.Provides),(3,rE 1 (eSl false 7 Term.enc) x2.1.Needs),(4,rE 7 Term.enc x2.1.Bars),(5,.box [sv x2.1.Name,iv x10.1.A,iv x10.1.B,iv x10.1.C,iv x2.1.Size,rr 2 x2.1.Provides,rr 3 x2.1.Needs,rr 4 x2.1.Bars])] (by kernel_rfl) ?_
    exact xA (J_j (jv43 (x10.2.Code,x10.2.At,x2.1.Name,x10.1.A,x10.1.B,x10.1.C,x2.1.Size,x2.1.Provides,x2.1.Needs,x2.1.Bars))) rfl
   ·refine J_d 1886 [] [13,18] [(18,bv (x4.1==2))] [] [] zB ?_
    refine zG 18 (fun h12=>?_) (fun h12=>?_)
    ·refine zA (fun x13 h14=>?_)
     refine J_d 3774 [] [0,7,18] [] [0,5] [(0,.box (zD.enc false x13.2)),(5,.box [sv x2.1.Name,iv x2.1.Version.A,iv x2.1.Version.B,iv x2.1.Version.C,iv x13.1,rr 2 x2.1.Provides,rr 3 x2.1.Needs,rr 4 x2.1.Bars])] (zF 1 (zBw 25 2 1 6 zC [0,200,201] [0,1,2] [(.const (.int .i64 0)),(.const (.int .i64 200)),(.const (.int .i64 201))] [iv 0,iv 200,iv 201]) (zF 2 (vJ («as»:=[pp 0,rr 6 [0,200,201]]) [(.tmp 20),(.tmp 21)] [56,25] false [(0,.box (zD.enc false x4.2)),(6,rE 1 zC [0,200,201])] [0,6] (.cons (.pt rfl) (.cons (.rf rfl) (.nil))) (wR.ok x4.2 [0,200,201]) h14 (.same rfl rfl)) zB)) ?_
     refine zBv [(2,pp 1),(3,pp 5)] [(3,rE 1 (eSl true 7 Term.enc) x2.1.Needs),(0,.box (zD.enc false x13.2)),(1,.box [sv ByteArray.empty,iv 0,iv 0,iv 0,iv 0,nv,nv,nv]),(2,rE 1 eStr x2.1.Provides),(4,rE 7 Term.enc x2.1.Bars),(5,.box [sv x2.1.Name,iv x2.1.Version.A,iv x2.1.Version.B,iv x2.1.Version.C,iv x13.1,rr 2 x2.1.Provides,rr 3 x2.1.Needs,rr 4 x2.1.Bars])] (by kernel_rfl) ?_
     refine zFP 3 (kE (enc:=(eSl true 7 Term.enc)) (enc':=(eSl false 7 Term.enc)) (zDE (fun _=>rfl)) _) ?_
     refine zBv [(2,pp 1),(3,pp 5)] [(0,.box (zD.enc false x13.2)),(1,.box [sv ByteArray.empty,iv 0,iv 0,iv 0,iv 0,nv,nv,nv]),(2,rE 1 eStr x2.1.Provides),(3,rE 1 (eSl false 7 Term.enc) x2.1.Needs),(4,rE 7 Term.enc x2.1.Bars),(5,.box [sv x2.1.Name,iv x2.1.Version.A,iv x2.1.Version.B,iv x2.1.Version.C,iv x13.1,rr 2 x2.1.Provides,rr 3 x2.1.Needs,rr 4 x2.1.Bars])] (by kernel_rfl) ?_
     exact xA (J_j (jv43 (x13.2.Code,x13.2.At,x2.1.Name,x2.1.Version.A,x2.1.Version.B,x2.1.Version.C,x13.1,x2.1.Provides,x2.1.Needs,x2.1.Bars))) rfl
    ·refine J_d 7550 [] [18,24] [(24,bv (x4.1==3))] [] [] zB ?_
     refine zG 24 (fun h15=>?_) (fun h15=>?_)
     ·refine zA (fun x16 h17=>?_)
      refine zA (fun x18 h19=>?_)
      refine J_d 15102 [] [0,7,24] [] [0,2,5,7] [(0,.box (zD.enc false x16.2)),(5,.box [sv x2.1.Name,iv x2.1.Version.A,iv x2.1.Version.B,iv x2.1.Version.C,iv x2.1.Size,rr 7 x18,rr 3 x2.1.Needs,rr 4 x2.1.Bars]),(7,rE 1 eStr x18)] (zF 3 (vJ («as»:=[pp 0]) [(.tmp 28)] [56] false [(0,.box (zD.enc false x4.2))] [0] (.cons (.pt rfl) (.nil)) (vN.ok x4.2) h17 (.same rfl rfl)) (zF 6 (zBw 32 9 1 6 eStr [x16.1,x2.1.Name] [0,1] [(.tmp 29),(.tmp 31)] [sv x16.1,sv x2.1.Name]) (zF 7 (zFg 32 32 9 9 1 16 7 2 6 eStr (.tmp 27) (.tmp 32) h19) zB))) ?_
      refine zBv [(2,pp 1),(3,pp 5)] [(3,rE 1 (eSl true 7 Term.enc) x2.1.Needs),(0,.box (zD.enc false x16.2)),(1,.box [sv ByteArray.empty,iv 0,iv 0,iv 0,iv 0,nv,nv,nv]),(4,rE 7 Term.enc x2.1.Bars),(5,.box [sv x2.1.Name,iv x2.1.Version.A,iv x2.1.Version.B,iv x2.1.Version.C,iv x2.1.Size,rr 7 x18,rr 3 x2.1.Needs,rr 4 x2.1.Bars]),(7,rE 1 eStr x18)] (by kernel_rfl) ?_
      refine zFP 3 (kE (enc:=(eSl true 7 Term.enc)) (enc':=(eSl false 7 Term.enc)) (zDE (fun _=>rfl)) _) ?_
      refine zBv [(2,pp 1),(3,pp 5)] [(0,.box (zD.enc false x16.2)),(1,.box [sv ByteArray.empty,iv 0,iv 0,iv 0,iv 0,nv,nv,nv]),(3,rE 1 (eSl false 7 Term.enc) x2.1.Needs),(4,rE 7 Term.enc x2.1.Bars),(5,.box [sv x2.1.Name,iv x2.1.Version.A,iv x2.1.Version.B,iv x2.1.Version.C,iv x2.1.Size,rr 7 x18,rr 3 x2.1.Needs,rr 4 x2.1.Bars]),(7,rE 1 eStr x18)] (by kernel_rfl) ?_
      refine uX 7 2 (Nat.le_of_ble_eq_true rfl) (Nat.le_of_ble_eq_true rfl) ?_
      exact xA (J_j (jv43 (x16.2.Code,x16.2.At,x2.1.Name,x2.1.Version.A,x2.1.Version.B,x2.1.Version.C,x2.1.Size,x18,x2.1.Needs,x2.1.Bars))) rfl
     ·refine J_d 30206 [] [24,35] [(35,bv (x4.1==4))] [] [] zB ?_
      refine zG 35 (fun h20=>?_) (fun h20=>?_)
      ·refine zBv [(0,pp 0),(2,pp 1),(3,pp 5),(7,iv x4.1),(35,bv true)] [(3,rE 1 (eSl true 7 Term.enc) x2.1.Needs),(0,.box (zD.enc false x4.2)),(1,.box [sv ByteArray.empty,iv 0,iv 0,iv 0,iv 0,nv,nv,nv]),(2,rE 1 eStr x2.1.Provides),(4,rE 7 Term.enc x2.1.Bars),(5,.box [sv x2.1.Name,iv x2.1.Version.A,iv x2.1.Version.B,iv x2.1.Version.C,iv x2.1.Size,rr 2 x2.1.Provides,rr 3 x2.1.Needs,rr 4 x2.1.Bars])] (by kernel_rfl) ?_
       refine zFP 3 (kE (enc:=(eSl true 7 Term.enc)) (enc':=(eSl false 7 Term.enc)) (zDE (fun _=>rfl)) _) ?_
       refine zBv [(0,pp 0),(2,pp 1),(3,pp 5),(7,iv x4.1),(35,bv true)] [(0,.box (zD.enc false x4.2)),(1,.box [sv ByteArray.empty,iv 0,iv 0,iv 0,iv 0,nv,nv,nv]),(2,rE 1 eStr x2.1.Provides),(3,rE 1 (eSl false 7 Term.enc) x2.1.Needs),(4,rE 7 Term.enc x2.1.Bars),(5,.box [sv x2.1.Name,iv x2.1.Version.A,iv x2.1.Version.B,iv x2.1.Version.C,iv x2.1.Size,rr 2 x2.1.Provides,rr 3 x2.1.Needs,rr 4 x2.1.Bars])] (by kernel_rfl) ?_
       refine zA (fun x21 h22=>?_)
       refine J_d 60414 [] [0,7,35] [] [3,5,7] [(5,.box [sv x2.1.Name,iv x2.1.Version.A,iv x2.1.Version.B,iv x2.1.Version.C,iv x2.1.Size,rr 2 x2.1.Provides,rr 7 x21,rr 4 x2.1.Bars]),(7,rE 1 (eSl false 7 Term.enc) x21)] (zF 2 (zMU (ds:=[nv]) (ts:=[]) 89 80 1 6 (eSl false 7 Term.enc) [([]:List Term)] [0] [(.const (.slice none 0 0))] [nv] [] (.nilsl false 7 (.nil))) (zF 3 (zFg 89 89 80 80 1 24 7 3 6 (eSl false 7 Term.enc) (.tmp 38) (.tmp 39) h22) zB)) ?_
       refine uX 7 3 (Nat.le_of_ble_eq_true rfl) (Nat.le_of_ble_eq_true rfl) ?_
       exact xA (J_j (jv43 (x4.2.Code,x4.2.At,x2.1.Name,x2.1.Version.A,x2.1.Version.B,x2.1.Version.C,x2.1.Size,x2.1.Provides,x21,x2.1.Bars))) rfl
      ·refine J_d 120830 [] [35,42] [(42,bv (x4.1==5))] [] [] zB ?_
       refine zG 42 (fun h23=>?_) (fun h23=>?_)
       ·refine zA (fun x24 h25=>?_)
        refine zA (fun x26 h27=>?_)
        refine zA (fun x28 h29=>?_)
        refine J_d 241662 [] [0,7,42] [] [0,3,5,8] [(0,.box (zD.enc false x26.2)),(5,.box [sv x2.1.Name,iv x2.1.Version.A,iv x2.1.Version.B,iv x2.1.Version.C,iv x2.1.Size,rr 2 x2.1.Provides,rr 8 x28,rr 4 x2.1.Bars]),(8,rE 1 (eSl true 7 Term.enc) x28)] (zF 3 (vJ («as»:=[pp 0]) [(.tmp 46)] [56] false [(0,.box (zD.enc false x4.2))] [0] (.cons (.pt rfl) (.nil)) (uI.ok x4.2) h25 (.ag (.cons (.same rfl rfl) (.cons (.same rfl rfl) (.cons (.same rfl rfl) (.cons (.same rfl rfl) (.cons (.same rfl rfl) (.cons (.same rfl rfl) (.cons (.same rfl rfl) (.nil)))))))))) (zF 5 (vJ («as»:=[pp 0]) [(.tmp 48)] [56] false [(0,.box (zD.enc false x24.2))] [0] (.cons (.pt rfl) (.nil)) (uI.ok x24.2) h27 (.ag (.cons (.same rfl rfl) (.cons (.same rfl rfl) (.cons (.same rfl rfl) (.cons (.same rfl rfl) (.cons (.same rfl rfl) (.cons (.same rfl rfl) (.cons (.same rfl rfl) (.nil)))))))))) (zF 6 (zBw 80 104 7 6 Term.enc [x24.1,x26.1] [0,1] [(.tmp 47),(.tmp 49)] [.ag (Term.enc x24.1),.ag (Term.enc x26.1)]) (zF 7 (zMU (ds:=[rr 6 [x24.1,x26.1]]) (ts:=[6]) 89 80 1 7 (eSl true 7 Term.enc) [[x24.1,x26.1]] [0] [(.tmp 50)] [rr 6 [x24.1,x26.1]] [(6,rE 7 Term.enc [x24.1,x26.1])] (.move (.head _) (List.length_map _) (by decide) (.nil))) (zF 8 (zFg 89 89 80 80 1 24 8 3 7 (eSl true 7 Term.enc) (.tmp 45) (.tmp 51) h29) zB))))) ?_
        refine zBv [(2,pp 1),(3,pp 5)] [(8,rE 1 (eSl true 7 Term.enc) x28),(0,.box (zD.enc false x26.2)),(1,.box [sv ByteArray.empty,iv 0,iv 0,iv 0,iv 0,nv,nv,nv]),(2,rE 1 eStr x2.1.Provides),(4,rE 7 Term.enc x2.1.Bars),(5,.box [sv x2.1.Name,iv x2.1.Version.A,iv x2.1.Version.B,iv x2.1.Version.C,iv x2.1.Size,rr 2 x2.1.Provides,rr 8 x28,rr 4 x2.1.Bars])] (by kernel_rfl) ?_
        refine zFP 8 (kE (enc:=(eSl true 7 Term.enc)) (enc':=(eSl false 7 Term.enc)) (zDE (fun _=>rfl)) _) ?_
        refine zBv [(2,pp 1),(3,pp 5)] [(0,.box (zD.enc false x26.2)),(1,.box [sv ByteArray.empty,iv 0,iv 0,iv 0,iv 0,nv,nv,nv]),(2,rE 1 eStr x2.1.Provides),(4,rE 7 Term.enc x2.1.Bars),(5,.box [sv x2.1.Name,iv x2.1.Version.A,iv x2.1.Version.B,iv x2.1.Version.C,iv x2.1.Size,rr 2 x2.1.Provides,rr 8 x28,rr 4 x2.1.Bars]),(8,rE 1 (eSl false 7 Term.enc) x28)] (by kernel_rfl) ?_
        refine uX 8 3 (Nat.le_of_ble_eq_true rfl) (Nat.le_of_ble_eq_true rfl) ?_
        exact xA (J_j (jv43 (x26.2.Code,x26.2.At,x2.1.Name,x2.1.Version.A,x2.1.Version.B,x2.1.Version.C,x2.1.Size,x2.1.Provides,x28,x2.1.Bars))) rfl
       ·refine J_d 483326 [] [42,54] [(54,bv (x4.1==6))] [] [] zB ?_
        refine zG 54 (fun h30=>?_) (fun h30=>?_)
        ·refine zA (fun x31 h32=>?_)
         refine zA (fun x33 h34=>?_)
         refine J_d 966654 [] [0,7,54] [] [0,4,5,7] [(0,.box (zD.enc false x31.2)),(5,.box [sv x2.1.Name,iv x2.1.Version.A,iv x2.1.Version.B,iv x2.1.Version.C,iv x2.1.Size,rr 2 x2.1.Provides,rr 3 x2.1.Needs,rr 7 x33]),(7,rE 7 Term.enc x33)] (zF 3 (vJ («as»:=[pp 0]) [(.tmp 58)] [56] false [(0,.box (zD.enc false x4.2))] [0] (.cons (.pt rfl) (.nil)) (uI.ok x4.2) h32 (.ag (.cons (.same rfl rfl) (.cons (.same rfl rfl) (.cons (.same rfl rfl) (.cons (.same rfl rfl) (.cons (.same rfl rfl) (.cons (.same rfl rfl) (.cons (.same rfl rfl) (.nil)))))))))) (zF 4 (zBw 80 104 7 6 Term.enc [x31.1] [0] [(.tmp 59)] [.ag (Term.enc x31.1)]) (zF 5 (zFg 80 80 104 104 7 64 7 4 6 Term.enc (.tmp 57) (.tmp 60) h34) zB))) ?_
         refine zBv [(2,pp 1),(3,pp 5)] [(3,rE 1 (eSl true 7 Term.enc) x2.1.Needs),(0,.box (zD.enc false x31.2)),(1,.box [sv ByteArray.empty,iv 0,iv 0,iv 0,iv 0,nv,nv,nv]),(2,rE 1 eStr x2.1.Provides),(5,.box [sv x2.1.Name,iv x2.1.Version.A,iv x2.1.Version.B,iv x2.1.Version.C,iv x2.1.Size,rr 2 x2.1.Provides,rr 3 x2.1.Needs,rr 7 x33]),(7,rE 7 Term.enc x33)] (by kernel_rfl) ?_
         refine zFP 3 (kE (enc:=(eSl true 7 Term.enc)) (enc':=(eSl false 7 Term.enc)) (zDE (fun _=>rfl)) _) ?_
         refine zBv [(2,pp 1),(3,pp 5)] [(0,.box (zD.enc false x31.2)),(1,.box [sv ByteArray.empty,iv 0,iv 0,iv 0,iv 0,nv,nv,nv]),(2,rE 1 eStr x2.1.Provides),(3,rE 1 (eSl false 7 Term.enc) x2.1.Needs),(5,.box [sv x2.1.Name,iv x2.1.Version.A,iv x2.1.Version.B,iv x2.1.Version.C,iv x2.1.Size,rr 2 x2.1.Provides,rr 3 x2.1.Needs,rr 7 x33]),(7,rE 7 Term.enc x33)] (by kernel_rfl) ?_
         refine uX 7 4 (Nat.le_of_ble_eq_true rfl) (Nat.le_of_ble_eq_true rfl) ?_
         exact xA (J_j (jv43 (x31.2.Code,x31.2.At,x2.1.Name,x2.1.Version.A,x2.1.Version.B,x2.1.Version.C,x2.1.Size,x2.1.Provides,x2.1.Needs,x33))) rfl
        ·refine J_d 1933310 [] [0,54,63] [(63,bv (x4.1==7))] [] [] zB ?_
         refine zG 63 (fun h35=>?_) (fun h35=>?_)
         ·refine zA (fun x36 h37=>?_)
          refine J_d 3866622 [] [7,63] [] [4,5,6] [(5,.box [sv x2.1.Name,iv x2.1.Version.A,iv x2.1.Version.B,iv x2.1.Version.C,iv x2.1.Size,rr 2 x2.1.Provides,rr 3 x2.1.Needs,rr 6 x36]),(6,rE 7 Term.enc x36)] (zF 0 (zPQ 80 104 7 64 6 Term.enc ({Name:=ByteArray.empty,Low:=({A:=0,B:=0,C:=0}:Version),High:=({A:=0,B:=0,C:=0}:Version)}:Term) (.const (.int .i64 5)) h37 (.keep rfl (.keep rfl (.keep rfl (.keep rfl (.keep rfl (.keep rfl (.keep rfl (.nil))))))))) zB) ?_
          refine zBv [(2,pp 1),(3,pp 5)] [(3,rE 1 (eSl true 7 Term.enc) x2.1.Needs),(0,.box (zD.enc false x4.2)),(1,.box [sv ByteArray.empty,iv 0,iv 0,iv 0,iv 0,nv,nv,nv]),(2,rE 1 eStr x2.1.Provides),(5,.box [sv x2.1.Name,iv x2.1.Version.A,iv x2.1.Version.B,iv x2.1.Version.C,iv x2.1.Size,rr 2 x2.1.Provides,rr 3 x2.1.Needs,rr 6 x36]),(6,rE 7 Term.enc x36)] (by kernel_rfl) ?_
          refine zFP 3 (kE (enc:=(eSl true 7 Term.enc)) (enc':=(eSl false 7 Term.enc)) (zDE (fun _=>rfl)) _) ?_
          refine zBv [(2,pp 1),(3,pp 5)] [(0,.box (zD.enc false x4.2)),(1,.box [sv ByteArray.empty,iv 0,iv 0,iv 0,iv 0,nv,nv,nv]),(2,rE 1 eStr x2.1.Provides),(3,rE 1 (eSl false 7 Term.enc) x2.1.Needs),(5,.box [sv x2.1.Name,iv x2.1.Version.A,iv x2.1.Version.B,iv x2.1.Version.C,iv x2.1.Size,rr 2 x2.1.Provides,rr 3 x2.1.Needs,rr 6 x36]),(6,rE 7 Term.enc x36)] (by kernel_rfl) ?_
          refine uX 6 4 (Nat.le_of_ble_eq_true rfl) (Nat.le_of_ble_eq_true rfl) ?_
          exact xA (J_j (jv43 (x4.2.Code,x4.2.At,x2.1.Name,x2.1.Version.A,x2.1.Version.B,x2.1.Version.C,x2.1.Size,x2.1.Provides,x2.1.Needs,x36))) rfl
         ·refine J_d 7733246 [] [7,63,67] [(67,bv (x4.1==8))] [] [] zB ?_
          refine zG 67 (fun h38=>?_) (fun h38=>?_)
          ·refine zA (fun x39 h40=>?_)
           refine zA (fun x41 h42=>?_)
           refine J_d 15466494 [] [67] [] [3,5,8] [(5,.box [sv x2.1.Name,iv x2.1.Version.A,iv x2.1.Version.B,iv x2.1.Version.C,iv x2.1.Size,rr 2 x2.1.Provides,rr 8 x41,rr 4 x2.1.Bars]),(8,rE 1 (eSl true 7 Term.enc) x41)] (zF 2 (zPQ 80 104 7 64 6 Term.enc ({Name:=ByteArray.empty,Low:=({A:=0,B:=0,C:=0}:Version),High:=({A:=0,B:=0,C:=0}:Version)}:Term) (.const (.int .i64 5)) h40 (.keep rfl (.keep rfl (.keep rfl (.keep rfl (.keep rfl (.keep rfl (.keep rfl (.nil))))))))) (zF 3 (zMU (ds:=[rr 6 x39]) (ts:=[6]) 89 80 1 7 (eSl true 7 Term.enc) [x39] [0] [(.tmp 71)] [rr 6 x39] [(6,rE 7 Term.enc x39)] (.move (.head _) (List.length_map _) (by decide) (.nil))) (zF 4 (zFg 89 89 80 80 1 24 8 3 7 (eSl true 7 Term.enc) (.tmp 70) (.tmp 72) h42) zB))) ?_
           refine zBv [(2,pp 1),(3,pp 5)] [(8,rE 1 (eSl true 7 Term.enc) x41),(0,.box (zD.enc false x4.2)),(1,.box [sv ByteArray.empty,iv 0,iv 0,iv 0,iv 0,nv,nv,nv]),(2,rE 1 eStr x2.1.Provides),(4,rE 7 Term.enc x2.1.Bars),(5,.box [sv x2.1.Name,iv x2.1.Version.A,iv x2.1.Version.B,iv x2.1.Version.C,iv x2.1.Size,rr 2 x2.1.Provides,rr 8 x41,rr 4 x2.1.Bars])] (by kernel_rfl) ?_
           refine zFP 8 (kE (enc:=(eSl true 7 Term.enc)) (enc':=(eSl false 7 Term.enc)) (zDE (fun _=>rfl)) _) ?_
           refine zBv [(2,pp 1),(3,pp 5)] [(0,.box (zD.enc false x4.2)),(1,.box [sv ByteArray.empty,iv 0,iv 0,iv 0,iv 0,nv,nv,nv]),(2,rE 1 eStr x2.1.Provides),(4,rE 7 Term.enc x2.1.Bars),(5,.box [sv x2.1.Name,iv x2.1.Version.A,iv x2.1.Version.B,iv x2.1.Version.C,iv x2.1.Size,rr 2 x2.1.Provides,rr 8 x41,rr 4 x2.1.Bars]),(8,rE 1 (eSl false 7 Term.enc) x41)] (by kernel_rfl) ?_
           refine uX 8 3 (Nat.le_of_ble_eq_true rfl) (Nat.le_of_ble_eq_true rfl) ?_
           exact xA (J_j (jv43 (x4.2.Code,x4.2.At,x2.1.Name,x2.1.Version.A,x2.1.Version.B,x2.1.Version.C,x2.1.Size,x2.1.Provides,x41,x2.1.Bars))) rfl
          ·refine zBv [(2,pp 1),(3,pp 5),(67,bv false)] [(3,rE 1 (eSl true 7 Term.enc) x2.1.Needs),(0,.box (zD.enc false x4.2)),(1,.box [sv ByteArray.empty,iv 0,iv 0,iv 0,iv 0,nv,nv,nv]),(2,rE 1 eStr x2.1.Provides),(4,rE 7 Term.enc x2.1.Bars),(5,.box [sv x2.1.Name,iv x2.1.Version.A,iv x2.1.Version.B,iv x2.1.Version.C,iv x2.1.Size,rr 2 x2.1.Provides,rr 3 x2.1.Needs,rr 4 x2.1.Bars])] (by kernel_rfl) ?_
           refine zFP 3 (kE (enc:=(eSl true 7 Term.enc)) (enc':=(eSl false 7 Term.enc)) (zDE (fun _=>rfl)) _) ?_
           refine zBv [(2,pp 1),(3,pp 5),(67,bv false)] [(0,.box (zD.enc false x4.2)),(1,.box [sv ByteArray.empty,iv 0,iv 0,iv 0,iv 0,nv,nv,nv]),(2,rE 1 eStr x2.1.Provides),(3,rE 1 (eSl false 7 Term.enc) x2.1.Needs),(4,rE 7 Term.enc x2.1.Bars),(5,.box [sv x2.1.Name,iv x2.1.Version.A,iv x2.1.Version.B,iv x2.1.Version.C,iv x2.1.Size,rr 2 x2.1.Provides,rr 3 x2.1.Needs,rr 4 x2.1.Bars])] (by kernel_rfl) ?_
           exact xA (J_j (jv43 (x4.2.Code,x4.2.At,x2.1.Name,x2.1.Version.A,x2.1.Version.B,x2.1.Version.C,x2.1.Size,x2.1.Provides,x2.1.Needs,x2.1.Bars))) rfl
noncomputable def c55:Code:=(Tryz.f55.body).getD .skip
theorem zBC.ok (q:Wd) (kn:((List Int)×Int×(List Pack))→Option (D×List Ent)) (hk:∀v:((List Int)×Int×(List Pack)),J (q.g Tryz.prog 55 1 53) c55 (atI c55 15) (St.mk' [(0,pp 0),(3,rr 1 v.2.2)] [(0,.box [sl 1 eU8 v.1,iv v.2.1]),(1,rE 8 (Pack.enc true) v.2.2)]) (some v) kn):
  ∀s15:((List Int)×Int×(List Pack)×Int),J (q.g Tryz.prog 55 1 53) c55 (atI c55 116) (St.mk' [(0,pp 0),(3,rr 1 s15.2.2.1),(4,iv s15.2.2.2)] [(0,.box [sl 1 eU8 s15.1,iv s15.2.1]),(1,rE 8 (Pack.enc true) s15.2.2.1)]) (zBC s15) kn:=by
 refine zAC (fun g ih s15=>?_)
 unfold zAN
 refine J_d 464 [] [13] [(13,bv (decide (s15.2.2.2>0)))] [] [] zB ?_
 refine zG 13 (fun h16=>?_) (fun h16=>?_)
 ·refine zA (fun x17 h18=>?_)
  refine J_d 1864 [(2,5)] [5,13] [(5,pp 5)] [0,2,3,4,5] [(0,.box (zD.enc false x17.2)),(2,rE 1 eStr x17.1.Provides),(3,rE 1 (eSl true 7 Term.enc) x17.1.Needs),(4,rE 7 Term.enc x17.1.Bars),(5,.box [sv x17.1.Name,iv x17.1.Version.A,iv x17.1.Version.B,iv x17.1.Version.C,iv x17.1.Size,rr 2 x17.1.Provides,rr 3 x17.1.Needs,rr 4 x17.1.Bars])] (zF 1 (vJ («as»:=[pp 0]) [(.tmp 16)] [56] false [(0,.box [sl 1 eU8 s15.1,iv s15.2.1])] [0] (.cons (.pt rfl) (.nil)) (zBq.ok ({Code:=s15.1,At:=s15.2.1}:zD)) h18 (.ag (.cons (.same rfl rfl) (.cons (.same rfl rfl) (.cons (.same rfl rfl) (.cons (.same rfl rfl) (.cons (.same rfl rfl) (.cons (.own 2) (.cons (.own 3) (.cons (.own 4) (.nil))))))))))) zB) ?_
  refine zA (fun x19 h20=>?_)
  refine J_d 3730 [] [24] [(24,bv (decide (x19<0)))] [] [] (zF 5 (vJ («as»:=[rr 1 s15.2.2.1,sv x17.1.Name,.ag (Version.enc x17.1.Version)]) [(.tmp 18),(.tmp 20),(.tmp 22)] [24,9,88] true [(1,rE 8 (Pack.enc true) s15.2.2.1)] [] (.cons (zDY (.head _) (Pack.ro true) rfl) (.cons (.same rfl) (.cons (.same rfl) (.nil)))) (zBj.ok s15.2.2.1 x17.1.Name x17.1.Version) h20 (.same rfl rfl) (hbor:=fun _=>⟨fhN,yV⟩)) zB) ?_
  refine wU (aft c55 932) (fun v24:(List Pack)=>St.mk' [(0,pp 0),(3,rr 7 v24),(4,iv s15.2.2.2)] [(0,.box (zD.enc false x17.2)),(7,rE 8 (Pack.enc true) v24)]) (fun v24=>?_) (fun jv24=>?_)
  ·refine J_d 467 [] [4] [(4,iv (w64 (s15.2.2.2-1)))] [] [] zB ?_
   refine uX 7 1 (Nat.le_of_ble_eq_true rfl) (Nat.le_of_ble_eq_true rfl) ?_
   exact J_q (J_b (ih (x17.2.Code,x17.2.At,v24,w64 (s15.2.2.2-1)))) rfl
  ·refine zG 24 (fun h21=>?_) (fun h21=>?_)
   ·refine zA (fun x22 h23=>?_)
    refine J_d 7462 [] [3,5,24] [(3,rr 7 x22)] [1,2,3,4,5,7] [(7,rE 8 (Pack.enc true) x22)] (zF 2 (zMU (ds:=[sv x17.1.Name,iv x17.1.Version.A,iv x17.1.Version.B,iv x17.1.Version.C,iv x17.1.Size,rr 2 x17.1.Provides,rr 3 x17.1.Needs,rr 4 x17.1.Bars]) (ts:=[2,3,4]) 24 91 8 6 (Pack.enc true) [x17.1] [0] [(.tmp 26)] [.ag [sv x17.1.Name,iv x17.1.Version.A,iv x17.1.Version.B,iv x17.1.Version.C,iv x17.1.Size,rr 2 x17.1.Provides,rr 3 x17.1.Needs,rr 4 x17.1.Bars]] [(2,rE 1 eStr x17.1.Provides),(3,rE 1 (eSl true 7 Term.enc) x17.1.Needs),(4,rE 7 Term.enc x17.1.Bars)] (.keep rfl (.keep rfl (.keep rfl (.keep rfl (.keep rfl (.move (.head _) (List.length_map _) (by decide) (.move (.tail _ (.head _)) (List.length_map _) (by decide) (.move (.tail _ (.tail _ (.head _))) (List.length_map _) (by decide) (.nil)))))))))) (zF 3 (zFg 24 24 91 91 8 120 7 1 6 (Pack.enc true) (.tmp 25) (.tmp 27) h23) zB)) ?_
    exact xA (J_j (jv24 x22)) rfl
   ·refine uX 1 7 (Nat.le_of_ble_eq_true rfl) (Nat.le_of_ble_eq_true rfl) ?_
    exact xA (J_j (jv24 s15.2.2.1)) rfl
 ·exact xA (hk (s15.1,s15.2.1,s15.2.2.1)) rfl
theorem zBi.ok (a1:zD):Ok Tryz.prog 55 [pp 0] [.box (zD.enc false a1)] ((zBi a1).map fun r=>(so 8 (Pack.enc false) r.1,[.box (zD.enc false r.2)])):=by
 refine zJ c55 Tryz.f55 1 53 (fun q=>?_)
 unfold zBi
 refine J_g 2 [] [(0,pp 0)] [(0,.box (zD.enc false a1))] zB ?_
 refine J_d 6 [] [3] [(3,rr 1 ([]:List Pack))] [1] [(1,rE 8 (Pack.enc false) ([]:List Pack))] (zF 0 (zBw 24 91 8 1 (Pack.enc false) ([]:List Pack) [] [] []) zB) ?_
 refine zA (fun x2 h3=>?_)
 refine zA (fun x4 h5=>?_)
 refine J_d 28 [] [4] [(4,iv x4.1)] [0] [(0,.box (zD.enc false x4.2))] (zF 2 (vJ («as»:=[pp 0,iv 12]) [(.tmp 8),(.const (.int .i64 12))] [56,2] false [(0,.box (zD.enc false a1))] [0] (.cons (.pt rfl) (.cons (.same rfl) (.nil))) (zP.ok a1 12) h3 (.same rfl rfl)) (zF 3 (zBw 25 2 1 2 zC [3,4,5,6,7,8,x2.1] [0,1,2,3,4,5,6] [(.const (.int .i64 3)),(.const (.int .i64 4)),(.const (.int .i64 5)),(.const (.int .i64 6)),(.const (.int .i64 7)),(.const (.int .i64 8)),(.tmp 9)] [iv 3,iv 4,iv 5,iv 6,iv 7,iv 8,iv x2.1]) (zF 4 (vJ («as»:=[pp 0,rr 2 [3,4,5,6,7,8,x2.1]]) [(.tmp 7),(.tmp 10)] [56,25] false [(0,.box (zD.enc false x2.2)),(2,rE 1 zC [3,4,5,6,7,8,x2.1])] [0,2] (.cons (.pt rfl) (.cons (.rf rfl) (.nil))) (wR.ok x2.2 [3,4,5,6,7,8,x2.1]) h5 (.same rfl rfl)) zB))) ?_
 refine zFv (zBC.ok q _ (fun v25=>J_j ?_) (x4.2.Code,x4.2.At,([]:List Pack),x4.1))
 refine zA (fun x26 h27=>?_)
 refine J_g 60 [] [(0,pp 0),(3,rr 1 v25.2.2),(30,iv x26.1)] [(0,.box (zD.enc false x26.2)),(1,rE 8 (Pack.enc true) v25.2.2)] (zF 1 (vJ («as»:=[pp 0,iv 40]) [(.tmp 29),(.const (.int .i64 40))] [56,2] false [(0,.box [sl 1 eU8 v25.1,iv v25.2.1])] [0] (.cons (.pt rfl) (.cons (.same rfl) (.nil))) (zP.ok ({Code:=v25.1,At:=v25.2.1}:zD) 40) h27 (.same rfl rfl)) zB) ?_
 refine J_d 244 [] [31] [(31,bv (x26.1==0))] [] [] zB ?_
 refine wU (aft c55 122) (fun v42:((List Int)×Int×(List Pack))=>St.mk' [(3,rr 3 v42.2.2)] [(0,.box [sl 1 eU8 v42.1,iv v42.2.1]),(3,rE 8 (Pack.enc false) v42.2.2)]) (fun v42=>?_) (fun jv42=>?_)
 ·refine J_g 62 [] [(2,rr 3 v42.2.2)] [(0,.box [sl 1 eU8 v42.1,iv v42.2.1]),(3,rE 8 (Pack.enc false) v42.2.2)] zB ?_
  exact zDZ (ds:=[rr 3 v42.2.2]) (ds':=[so 8 (Pack.enc false) v42.2.2]) (.cons (.cell (.move (.tail _ (.head _)) (List.length_map _) (by decide) (.nil))) (.nil) (by decide)) rfl
 ·refine zG 31 (fun h28=>?_) (fun h28=>?_)
  ·refine zA (fun x29 h30=>?_)
   refine zBv [(0,pp 0),(3,rr 1 v25.2.2),(30,iv x26.1),(31,bv true)] [(1,rE 8 (Pack.enc true) v25.2.2),(0,.box (zD.enc false x26.2))] (by kernel_rfl) ?_
   refine zFP 1 (kE (enc:=(Pack.enc true)) (enc':=(Pack.enc false)) (Pack.ro true) _) ?_
   refine zBv [(0,pp 0),(3,rr 1 v25.2.2),(30,iv x26.1),(31,bv true)] [(0,.box (zD.enc false x26.2)),(1,rE 8 (Pack.enc false) v25.2.2)] (by kernel_rfl) ?_
   refine zA (fun x31 h32=>?_)
   refine J_g 490 [] [(3,rr 3 x31)] [(0,.box (zD.enc false x29.2)),(3,rE 8 (Pack.enc false) x31)] (zF 2 (vJ («as»:=[pp 0]) [(.tmp 34)] [56] false [(0,.box (zD.enc false x26.2))] [0] (.cons (.pt rfl) (.nil)) (zA5.ok x26.2) h30 (.ag (.cons (.same rfl rfl) (.cons (.same rfl rfl) (.cons (.same rfl rfl) (.cons (.same rfl rfl) (.cons (.same rfl rfl) (.cons (.same rfl rfl) (.cons (.same rfl rfl) (.cons (.same rfl rfl) (.nil))))))))))) (zF 3 (zBw 24 91 8 2 (Pack.enc false) [x29.1] [0] [(.tmp 35)] [.ag (Pack.enc false x29.1)]) (zF 4 (zFg 24 24 91 91 8 120 3 1 2 (Pack.enc false) (.tmp 33) (.tmp 36) h32) zB))) ?_
   exact xA (J_j (jv42 (x29.2.Code,x29.2.At,x31))) rfl
  ·refine J_d 982 [] [0,31,38] [(38,bv (x26.1==1))] [] [] zB ?_
   refine zG 38 (fun h33=>?_) (fun h33=>?_)
   ·refine J_d 3932 [] [30,38,42] [(42,bv (decide ((v25.2.2.length:Int)>0)))] [] [] zB ?_
    refine zG 42 (fun h34=>?_) (fun h34=>?_)
    ·refine zA (fun x35 h36=>?_)
     refine zBv [(3,rr 1 v25.2.2),(42,bv true)] [(1,rE 8 (Pack.enc true) v25.2.2),(0,.box (zD.enc false x26.2))] (by kernel_rfl) ?_
     refine zFP 1 (kE (enc:=(Pack.enc true)) (enc':=(Pack.enc false)) (Pack.ro true) _) ?_
     refine zBv [(3,rr 1 v25.2.2),(42,bv true)] [(0,.box (zD.enc false x26.2)),(1,rE 8 (Pack.enc false) v25.2.2)] (by kernel_rfl) ?_
     refine zA (fun x37 h38=>?_)
     refine J_d 7866 [] [3,42] [(3,rr 3 x37)] [1,3] [(3,rE 8 (Pack.enc false) x37)] (zF 2 (zB5 (kk:=.i64) 24 91 8 1 (Pack.enc false) (.tmp 44) (.const (.int .i64 0)) h36) (zF 3 (zBU (d:=.ag (Pack.enc false x35)) 91 8 1 0 (Pack.enc false) (.tmp 45) h36 (by kernel_rfl)) (zF 4 (zBw 24 91 8 2 (Pack.enc false) [x35] [0] [(.tmp 46)] [.ag (Pack.enc false x35)]) (zF 5 (zFg 24 24 91 91 8 120 3 1 2 (Pack.enc false) (.tmp 43) (.tmp 47) h38) zB)))) ?_
     exact xA (J_j (jv42 (x26.2.Code,x26.2.At,x37))) rfl
    ·refine zBv [(3,rr 1 v25.2.2),(42,bv false)] [(1,rE 8 (Pack.enc true) v25.2.2),(0,.box (zD.enc false x26.2))] (by kernel_rfl) ?_
     refine zFP 1 (kE (enc:=(Pack.enc true)) (enc':=(Pack.enc false)) (Pack.ro true) _) ?_
     refine zBv [(3,rr 1 v25.2.2),(42,bv false)] [(0,.box (zD.enc false x26.2)),(1,rE 8 (Pack.enc false) v25.2.2)] (by kernel_rfl) ?_
     refine uX 1 3 (Nat.le_of_ble_eq_true rfl) (Nat.le_of_ble_eq_true rfl) ?_
     exact xA (J_j (jv42 (x26.2.Code,x26.2.At,v25.2.2))) rfl
   ·refine J_d 3934 [] [30,38,49] [(49,bv (x26.1==2))] [] [] zB ?_
    refine zG 49 (fun h39=>?_) (fun h39=>?_)
    ·refine zA (fun x40 h41=>?_)
     refine J_d 7870 [] [3,49] [(3,rr 2 x40)] [1,2] [(2,rE 8 (Pack.enc true) x40)] (zF 0 (zPQ 24 91 8 120 2 (Pack.enc true) ({Name:=ByteArray.empty,Version:=({A:=0,B:=0,C:=0}:Version),Size:=0,Provides:=([]:List ByteArray),Needs:=([]:List (List Term)),Bars:=([]:List Term)}:Pack) (.const (.int .i64 25)) h41 (.keep rfl (.keep rfl (.keep rfl (.keep rfl (.keep rfl (.nilsl true 1 (.nilsl true 1 (.nilsl true 7 (.nil)))))))))) zB) ?_
     refine zBv [(3,rr 2 x40)] [(2,rE 8 (Pack.enc true) x40),(0,.box (zD.enc false x26.2))] (by kernel_rfl) ?_
     refine zFP 2 (kE (enc:=(Pack.enc true)) (enc':=(Pack.enc false)) (Pack.ro true) _) ?_
     refine zBv [(3,rr 2 x40)] [(0,.box (zD.enc false x26.2)),(2,rE 8 (Pack.enc false) x40)] (by kernel_rfl) ?_
     refine uX 2 3 (Nat.le_of_ble_eq_true rfl) (Nat.le_of_ble_eq_true rfl) ?_
     exact xA (J_j (jv42 (x26.2.Code,x26.2.At,x40))) rfl
    ·refine zBv [(3,rr 1 v25.2.2),(49,bv false)] [(1,rE 8 (Pack.enc true) v25.2.2),(0,.box (zD.enc false x26.2))] (by kernel_rfl) ?_
     refine zFP 1 (kE (enc:=(Pack.enc true)) (enc':=(Pack.enc false)) (Pack.ro true) _) ?_
     refine zBv [(3,rr 1 v25.2.2),(49,bv false)] [(0,.box (zD.enc false x26.2)),(1,rE 8 (Pack.enc false) v25.2.2)] (by kernel_rfl) ?_
     refine uX 1 3 (Nat.le_of_ble_eq_true rfl) (Nat.le_of_ble_eq_true rfl) ?_
     exact xA (J_j (jv42 (x26.2.Code,x26.2.At,v25.2.2))) rfl
noncomputable def c193:Code:=(Tryz.f193.body).getD .skip
theorem jI.ok (a1:Int):Ok Tryz.prog 193 [uv a1] [] ((jI a1).map fun r=>(bv r,[])):=by
 refine zJ c193 Tryz.f193 0 9 (fun q=>?_)
 unfold jI
 refine J_g 2 [] [(0,uv a1)] [] zB ?_
 refine uN (fun h2=>?_) (fun h2=>?_)
 ·refine J_g 6 [] [(2,bv (decide (a1≤122)))] [] (vV 2 [(4,bv (decide (a1≥97)))] [] h2 zB) ?_
  exact xJ rfl
 ·refine J_g 6 [] [(2,bv false)] [] (vV 2 [(4,bv (decide (a1≥97)))] [] h2 zB) ?_
  exact xJ rfl
noncomputable def zQe:Code:=(Tryz.f220.body).getD .skip
theorem zBK.ok (a1:Int):Ok Tryz.prog 220 [uv a1] [] ((zBK a1).map fun r=>(bv r,[])):=by
 refine zJ zQe Tryz.f220 0 9 (fun q=>?_)
 unfold zBK
 refine J_g 2 [] [(0,uv a1)] [] zB ?_
 refine uN (fun h2=>?_) (fun h2=>?_)
 ·refine J_g 6 [] [(2,bv (decide (a1≤57)))] [] (vV 2 [(4,bv (decide (a1≥48)))] [] h2 zB) ?_
  exact xJ rfl
 ·refine J_g 6 [] [(2,bv false)] [] (vV 2 [(4,bv (decide (a1≥48)))] [] h2 zB) ?_
  exact xJ rfl
noncomputable def c194:Code:=(Tryz.f194.body).getD .skip
theorem zDD.ok (a1:Int):Ok Tryz.prog 194 [uv a1] [] ((zDD a1).map fun r=>(bv r,[])):=by
 refine zJ c194 Tryz.f194 0 13 (fun q=>?_)
 unfold zDD
 refine J_g 2 [] [(0,uv a1)] [] zB ?_
 refine zA (fun x2 h3=>?_)
 refine uN (fun h4=>?_) (fun h4=>?_)
 ·refine J_g 6 [] [(2,bv true)] [] (zF 1 (vZ [(.tmp 3)] [5] (jI.ok a1) h3) (vV 2 [(4,bv x2)] [] h4 zB)) ?_
  exact xJ rfl
 ·refine zA (fun x5 h6=>?_)
  refine uN (fun h7=>?_) (fun h7=>?_)
  ·refine J_g 6 [] [(2,bv true)] [] (zF 1 (vZ [(.tmp 3)] [5] (jI.ok a1) h3) (vV 2 [(4,bv x2)] [] h4 (zAR 4 2 5 false (vZ [(.tmp 6)] [5] (zBK.ok a1) h6) (vV 6 [(8,bv x5)] [] h7 zB)))) ?_
   exact xJ rfl
  ·refine J_g 6 [] [(2,bv (a1==95))] [] (zF 1 (vZ [(.tmp 3)] [5] (jI.ok a1) h3) (vV 2 [(4,bv x2)] [] h4 (zAR 4 2 5 false (vZ [(.tmp 6)] [5] (zBK.ok a1) h6) (vV 6 [(8,bv x5)] [] h7 zB)))) ?_
   exact xJ rfl
noncomputable def zO8:Code:=(Tryz.f147.body).getD .skip
theorem zAr.ok (a1:ByteArray) (q:Wd) (kn:Unit→Option (D×List Ent)) (hk:∀v:Unit,J (q.g Tryz.prog 147 0 29) zO8 (atI zO8 15) (St.mk' [] []) (some v) kn):
  ∀s16:Int,J (q.g Tryz.prog 147 0 29) zO8 (atI zO8 116) (St.mk' [(0,sv a1),(3,iv s16)] []) (zAr a1 s16) (Fl.go (fun r:Int=>some (iv r,[])) kn):=by
 refine zAC (fun g ih s16=>?_)
 unfold zC4
 refine J_d 464 [] [21] [(21,bv (decide (s16< (a1.size:Int))))] [] [] zB ?_
 refine zG 21 (fun h17=>?_) (fun h17=>?_)
 ·refine zA (fun x18 h19=>?_)
  refine zA (fun x20 h21=>?_)
  refine J_d 1864 [] [21,28] [(28,bv (!x20))] [] [] (zF 2 (zO1 (kk:=.i64) 9 (.tmp 24) (.tmp 25) h19) (zF 3 (vZ [(.tmp 26)] [5] (zDD.ok x18) h21) zB)) ?_
  refine zG 28 (fun h22=>?_) (fun h22=>?_)
  ·refine J_g 7460 [] [(2,iv 5)] [] zB ?_
   exact xJ rfl
  ·refine J_g 467 [] [(0,sv a1),(3,iv (w64 (s16+1)))] [] zB ?_
   exact J_q (J_b (ih (w64 (s16+1)))) rfl
 ·exact xA (hk ()) rfl
theorem tL.ok (a1:ByteArray):Ok Tryz.prog 147 [sv a1] [] ((tL a1).map fun r=>(iv r,[])):=by
 refine zJ zO8 Tryz.f147 0 29 (fun q=>?_)
 unfold tL
 refine J_g 2 [] [(0,sv a1)] [] zB ?_
 refine wU (atI zO8 13) (fun v8:Bool=>St.mk' [(0,sv a1),(17,bv v8)] []) (fun v8=>?_) (fun jv8=>?_)
 ·refine zG 17 (fun h9=>?_) (fun h9=>?_)
  ·refine J_g 52 [] [(2,iv 5)] [] zB ?_
   exact xJ rfl
  ·refine J_g 28 [] [(0,sv a1),(3,iv 0)] [] zB ?_
   refine jW (K0:=(fun r:Int=>some (iv r,[]))) (fun _=>rfl) (zAr.ok a1 q _ (fun v23=>J_j ?_) 0)
   refine J_g 30 [] [(2,iv 0)] [] zB ?_
   exact xJ rfl
 ·refine uN (fun h2=>?_) (fun h2=>?_)
  ·refine J_g 12 [] [(0,sv a1),(17,bv true)] [] (vV 3 [(6,bv (decide ((a1.size:Int)<1)))] [] h2 zB) ?_
   exact xA (J_j (jv8 true)) rfl
  ·refine uN (fun h3=>?_) (fun h3=>?_)
   ·refine J_g 12 [] [(0,sv a1),(17,bv true)] [] (vV 3 [(6,bv (decide ((a1.size:Int)<1)))] [] h2 (vV 8 [(11,bv (decide ((a1.size:Int)>12)))] [] h3 zB)) ?_
    exact xA (J_j (jv8 true)) rfl
   ·refine zA (fun x4 h5=>?_)
    refine zA (fun x6 h7=>?_)
    refine J_g 12 [] [(0,sv a1),(17,bv (!x6))] [] (vV 3 [(6,bv (decide ((a1.size:Int)<1)))] [] h2 (vV 8 [(11,bv (decide ((a1.size:Int)>12)))] [] h3 (zAR 10 8 12 false (zO1 (kk:=.i64) 9 (.tmp 13) (.const (.int .i64 0)) h5) (zAR 11 8 12 false (vZ [(.tmp 14)] [5] (jI.ok x4) h7) zB)))) ?_
    exact xA (J_j (jv8 (!x6))) rfl
noncomputable def c109:Code:=(Tryz.f109.body).getD .skip
theorem tY.ok (a1:Int) (a2:Int) (a3:Int):Ok Tryz.prog 109 [iv a1,iv a2,iv a3] [] ((tY a1 a2 a3).map fun r=>(bv r,[])):=by
 refine zJ c109 Tryz.f109 0 15 (fun q=>?_)
 unfold tY
 refine J_d 2 [] [] [] [] [] zB ?_
 refine uN (fun h4=>?_) (fun h4=>?_)
 ·refine J_g 6 [] [(6,bv (decide (a1≤a3)))] [] (vV 3 [(9,bv (decide (a1≥a2)))] [] h4 zB) ?_
  exact xJ rfl
 ·refine J_g 6 [] [(6,bv false)] [] (vV 3 [(9,bv (decide (a1≥a2)))] [] h4 zB) ?_
  exact xJ rfl
noncomputable def c148:Code:=(Tryz.f148.body).getD .skip
theorem vQ.ok (a1:Version):Ok Tryz.prog 148 [.ag (Version.enc a1)] [] ((vQ a1).map fun r=>(iv r,[])):=by
 refine zJ c148 Tryz.f148 0 19 (fun q=>?_)
 unfold vQ
 refine J_g 2 [(0,0)] [(1,pp 0)] [(0,.box (Version.enc a1))] zB ?_
 refine zA (fun x2 h3=>?_)
 refine wU (atI c148 13) (fun v10:Bool=>St.mk' [(18,bv v10)] []) (fun v10=>?_) (fun jv10=>?_)
 ·refine zG 18 (fun h11=>?_) (fun h11=>?_)
  ·refine J_g 52 [] [(2,iv 3)] [] zB ?_
   exact xJ rfl
  ·refine J_g 14 [] [(2,iv 0)] [] zB ?_
   exact xJ rfl
 ·refine uN (fun h4=>?_) (fun h4=>?_)
  ·refine J_g 12 [] [(18,bv true)] [] (zF 2 (vZ [(.tmp 4),(.const (.int .i64 0)),(.const (.int .i64 999))] [2,2,2] (tY.ok a1.A 0 999) h3) (vV 4 [(6,bv (!x2))] [] h4 zB)) ?_
   exact xA (J_j (jv10 true)) rfl
  ·refine zA (fun x5 h6=>?_)
   refine uN (fun h7=>?_) (fun h7=>?_)
   ·refine J_g 12 [] [(18,bv true)] [] (zF 2 (vZ [(.tmp 4),(.const (.int .i64 0)),(.const (.int .i64 999))] [2,2,2] (tY.ok a1.A 0 999) h3) (vV 4 [(6,bv (!x2))] [] h4 (zAR 7 4 7 false (vZ [(.tmp 9),(.const (.int .i64 0)),(.const (.int .i64 999))] [2,2,2] (tY.ok a1.B 0 999) h6) (vV 10 [(12,bv (!x5))] [] h7 zB)))) ?_
    exact xA (J_j (jv10 true)) rfl
   ·refine zA (fun x8 h9=>?_)
    refine J_g 12 [] [(18,bv (!x8))] [] (zF 2 (vZ [(.tmp 4),(.const (.int .i64 0)),(.const (.int .i64 999))] [2,2,2] (tY.ok a1.A 0 999) h3) (vV 4 [(6,bv (!x2))] [] h4 (zAR 7 4 7 false (vZ [(.tmp 9),(.const (.int .i64 0)),(.const (.int .i64 999))] [2,2,2] (tY.ok a1.B 0 999) h6) (vV 10 [(12,bv (!x5))] [] h7 (zAR 13 10 13 false (vZ [(.tmp 15),(.const (.int .i64 0)),(.const (.int .i64 999))] [2,2,2] (tY.ok a1.C 0 999) h9) zB))))) ?_
    exact xA (J_j (jv10 (!x8))) rfl
noncomputable def c64:Code:=(Tryz.f64.body).getD .skip
theorem zDb.ok (a1:(List ByteArray)) (a2:ByteArray) (q:Wd) (kn:Unit→Option (D×List Ent)) (hk:∀v:Unit,J (q.g Tryz.prog 64 0 18) c64 (atI c64 7) (St.mk' [] []) (some v) kn):
  ∀s7:Int,J (q.g Tryz.prog 64 0 18) c64 (atI c64 52) (St.mk' [(0,sl 1 eStr a1),(1,sv a2),(5,iv s7)] []) (zDb a1 a2 s7) (Fl.go (fun r:Bool=>some (bv r,[])) kn):=by
 refine zAC (fun g ih s7=>?_)
 unfold zCp
 refine J_d 208 [] [9] [(9,bv (decide (s7< (a1.length:Int))))] [] [] zB ?_
 refine zG 9 (fun h8=>?_) (fun h8=>?_)
 ·refine zA (fun x9 h10=>?_)
  refine J_d 840 [] [9,17] [(17,bv (seq x9 a2))] [] [] (zF 2 (kD (kk:=.i64) 32 9 1 eStr (.tmp 12) (.tmp 13) h10) zB) ?_
  refine zG 17 (fun h11=>?_) (fun h11=>?_)
  ·refine J_g 3364 [] [(4,bv true)] [] zB ?_
   exact xJ rfl
  ·refine J_d 211 [] [5,17] [(5,iv (w64 (s7+1)))] [] [] zB ?_
   exact J_q (J_b (ih (w64 (s7+1)))) rfl
 ·exact xA (hk ()) rfl
theorem uY.ok (a1:(List ByteArray)) (a2:ByteArray):Ok Tryz.prog 64 [sl 1 eStr a1,sv a2] [] ((uY a1 a2).map fun r=>(bv r,[])):=by
 refine zJ c64 Tryz.f64 0 18 (fun q=>?_)
 unfold uY
 refine J_g 2 [] [(0,sl 1 eStr a1),(1,sv a2)] [] zB ?_
 refine J_d 12 [] [5] [(5,iv 0)] [] [] zB ?_
 refine jW (K0:=(fun r:Bool=>some (bv r,[]))) (fun _=>rfl) (zDb.ok a1 a2 q _ (fun v12=>J_j ?_) 0)
 refine J_g 14 [] [(4,bv false)] [] zB ?_
 exact xJ rfl
noncomputable def zPW:Code:=(Tryz.f195.body).getD .skip
theorem zBk.ok (a1:Term):Ok Tryz.prog 195 [.ag (Term.enc a1)] [] ((zBk a1).map fun r=>(iv r,[])):=by
 refine zJ zPW Tryz.f195 0 33 (fun q=>?_)
 unfold zBk
 refine J_g 2 [(0,0)] [(1,pp 0)] [(0,.box (Term.enc a1))] zB ?_
 refine zA (fun x2 h3=>?_)
 refine J_g 12 [] [(1,pp 0),(3,iv x2)] [(0,.box (Term.enc a1))] (zF 2 (vZ [(.tmp 6)] [9] (tL.ok a1.Name) h3) zB) ?_
 refine J_d 26 [] [9] [(9,bv (x2 !=0))] [] [] zB ?_
 refine zG 9 (fun h4=>?_) (fun h4=>?_)
 ·refine J_g 108 [] [(2,iv x2)] [] zB ?_
  exact xJ rfl
 ·refine zA (fun x5 h6=>?_)
  refine J_g 28 [] [(1,pp 0),(4,iv x5)] [(0,.box (Term.enc a1))] (zF 2 (vZ [(.tmp 12)] [88] (vQ.ok a1.Low) h6) zB) ?_
  refine J_d 58 [] [15] [(15,bv (x5 !=0))] [] [] zB ?_
  refine zG 15 (fun h7=>?_) (fun h7=>?_)
  ·refine J_g 236 [] [(2,iv x5)] [] zB ?_
   exact xJ rfl
  ·refine zA (fun x8 h9=>?_)
   refine wU (atI zPW 61) (fun v13:Bool=>St.mk' [(1,pp 0),(26,bv v13)] [(0,.box (Term.enc a1))]) (fun v13=>?_) (fun jv13=>?_)
   ·refine zG 26 (fun h14=>?_) (fun h14=>?_)
    ·refine J_g 244 [] [(2,iv 3)] [] zB ?_
     exact xJ rfl
    ·refine zA (fun x15 h16=>?_)
     refine J_g 124 [] [(32,bv (decide (x15≥0)))] [] (zF 4 (vZ [(.tmp 28),(.tmp 30)] [88,88] (yM.ok a1.Low a1.High) h16) zB) ?_
     refine zG 32 (fun h17=>?_) (fun h17=>?_)
     ·refine J_g 500 [] [(2,iv 1)] [] zB ?_
      exact xJ rfl
     ·refine J_g 126 [] [(2,iv 0)] [] zB ?_
      exact xJ rfl
   ·refine uN (fun h10=>?_) (fun h10=>?_)
    ·refine zA (fun x11 h12=>?_)
     refine J_d 60 [] [4,15,26] [(26,bv (x11 !=0))] [] [] (zF 2 (vZ [] [] (zAH.ok) h9) (zF 3 (zMm (b:=.neq) (r:=(a1.High.A==x8.A&&(a1.High.B==x8.B&&(a1.High.C==x8.C&&true)))) 88 88 (.tmp 18) (.tmp 19) [.int .i64 a1.High.A,.int .i64 a1.High.B,.int .i64 a1.High.C] [.int .i64 x8.A,.int .i64 x8.B,.int .i64 x8.C] (.inr ⟨rfl,rfl⟩)) (vV 4 [(20,bv (!(a1.High.A==x8.A&&(a1.High.B==x8.B&&(a1.High.C==x8.C&&true)))))] [] h10 (zAR 7 4 21 true (vZ [(.tmp 23)] [88] (vQ.ok a1.High) h12) zB)))) ?_
     exact xA (J_j (jv13 (x11 !=0))) rfl
    ·refine J_d 60 [] [4,15,26] [(26,bv false)] [] [] (zF 2 (vZ [] [] (zAH.ok) h9) (zF 3 (zMm (b:=.neq) (r:=(a1.High.A==x8.A&&(a1.High.B==x8.B&&(a1.High.C==x8.C&&true)))) 88 88 (.tmp 18) (.tmp 19) [.int .i64 a1.High.A,.int .i64 a1.High.B,.int .i64 a1.High.C] [.int .i64 x8.A,.int .i64 x8.B,.int .i64 x8.C] (.inr ⟨rfl,rfl⟩)) (vV 4 [(20,bv (!(a1.High.A==x8.A&&(a1.High.B==x8.B&&(a1.High.C==x8.C&&true)))))] [] h10 zB))) ?_
     exact xA (J_j (jv13 false)) rfl
noncomputable def zPm:Code:=(Tryz.f149.body).getD .skip
theorem zCA.ok (a1:(List Term)) (q:Wd) (kn:Unit→Option (D×List Ent)) (hk:∀v:Unit,J (q.g Tryz.prog 149 0 19) zPm (atI zPm 7) (St.mk' [] []) (some v) kn):
  ∀s8:Int,J (q.g Tryz.prog 149 0 19) zPm (atI zPm 52) (St.mk' [(0,sl 7 Term.enc a1),(3,iv s8)] []) (zCA a1 s8) (Fl.go (fun r:Int=>some (iv r,[])) kn):=by
 refine zAC (fun g ih s8=>?_)
 unfold zCr
 refine J_d 208 [] [8] [(8,bv (decide (s8< (a1.length:Int))))] [] [] zB ?_
 refine zG 8 (fun h9=>?_) (fun h9=>?_)
 ·refine zA (fun x10 h11=>?_)
  refine zA (fun x12 h13=>?_)
  refine J_g 840 [] [(0,sl 7 Term.enc a1),(3,iv s8),(4,iv x12)] [] (zF 2 (kD (kk:=.i64) 80 104 7 Term.enc (.tmp 11) (.tmp 12) h11) (zF 4 (vZ [(.tmp 14)] [104] (zBk.ok x10) h13) zB)) ?_
  refine J_d 1682 [] [17] [(17,bv (x12 !=0))] [] [] zB ?_
  refine zG 17 (fun h14=>?_) (fun h14=>?_)
  ·refine J_g 6732 [] [(2,iv x12)] [] zB ?_
   exact xJ rfl
  ·refine J_g 211 [] [(0,sl 7 Term.enc a1),(3,iv (w64 (s8+1)))] [] zB ?_
   exact J_q (J_b (ih (w64 (s8+1)))) rfl
 ·exact xA (hk ()) rfl
theorem zAk.ok (a1:(List Term)):Ok Tryz.prog 149 [sl 7 Term.enc a1] [] ((zAk a1).map fun r=>(iv r,[])):=by
 refine zJ zPm Tryz.f149 0 19 (fun q=>?_)
 unfold zAk
 refine J_g 2 [] [(0,sl 7 Term.enc a1)] [] zB ?_
 refine J_d 12 [] [3] [(3,iv 0)] [] [] zB ?_
 refine jW (K0:=(fun r:Int=>some (iv r,[]))) (fun _=>rfl) (zCA.ok a1 q _ (fun v15=>J_j ?_) 0)
 refine J_g 14 [] [(2,iv 0)] [] zB ?_
 exact xJ rfl
noncomputable def zKw:Code:=(Tryz.f108.body).getD .skip
theorem zAu.ok (a1:Pack) (q:Wd) (kn:Unit→Option (D×List Ent)) (hk:∀v:Unit,J (q.g Tryz.prog 108 0 118) zKw (atI zKw 511) (St.mk' [(1,pp 0)] [(0,.box (Pack.enc false a1))]) (some v) kn):
  ∀s70:Int,J (q.g Tryz.prog 108 0 118) zKw (atI zKw 4084) (St.mk' [(1,pp 0),(8,iv s70)] [(0,.box (Pack.enc false a1))]) (zAu a1 s70) (Fl.go (fun r:Int=>some (iv r,[])) kn):=by
 refine zAC (fun g ih s70=>?_)
 unfold zAM
 refine J_d 16336 [] [96] [(96,bv (decide (s70< (a1.Needs.length:Int))))] [] [] zB ?_
 refine zG 96 (fun h71=>?_) (fun h71=>?_)
 ·refine zA (fun x72 h73=>?_)
  refine J_d 130704 [] [96,105] [(105,bv ((x72.length:Int)==0))] [] [] (zF 3 (kD (kk:=.i64) 89 80 1 (eSl false 7 Term.enc) (.tmp 100) (.tmp 101) h73) zB) ?_
  refine zG 105 (fun h74=>?_) (fun h74=>?_)
  ·refine J_g 522820 [] [(2,iv 1)] [] zB ?_
   exact xJ rfl
  ·refine zA (fun x75 h76=>?_)
   refine zA (fun x77 h78=>?_)
   refine J_g 130706 [] [(1,pp 0),(8,iv s70),(9,iv x77)] [(0,.box (Pack.enc false a1))] (zF 3 (kD (kk:=.i64) 89 80 1 (eSl false 7 Term.enc) (.tmp 107) (.tmp 108) h76) (zF 5 (vZ [(.tmp 110)] [80] (zAk.ok x75) h78) zB)) ?_
   refine J_d 261414 [] [113] [(113,bv (x77 !=0))] [] [] zB ?_
   refine zG 113 (fun h79=>?_) (fun h79=>?_)
   ·refine J_g 1045660 [] [(2,iv x77)] [] zB ?_
    exact xJ rfl
   ·refine J_d 16339 [] [8,9,113] [(8,iv (w64 (s70+1)))] [] [] zB ?_
    exact J_q (J_b (ih (w64 (s70+1)))) rfl
 ·exact xA (hk ()) rfl
theorem zAv.ok (a1:Pack) (q:Wd) (kn:Unit→Option (D×List Ent)) (hk:∀v:Unit,J (q.g Tryz.prog 108 0 118) zKw (atI zKw 255) (St.mk' [(1,pp 0)] [(0,.box (Pack.enc false a1))]) (some v) kn):
  ∀s42:Int,J (q.g Tryz.prog 108 0 118) zKw (atI zKw 2036) (St.mk' [(1,pp 0),(6,iv s42)] [(0,.box (Pack.enc false a1))]) (zAv a1 s42) (Fl.go (fun r:Int=>some (iv r,[])) kn):=by
 refine zAC (fun g ih s42=>?_)
 unfold zAS
 refine J_d 8144 [] [60] [(60,bv (decide (s42< (a1.Provides.length:Int))))] [] [] zB ?_
 refine zG 60 (fun h43=>?_) (fun h43=>?_)
 ·refine zA (fun x44 h45=>?_)
  refine zA (fun x46 h47=>?_)
  refine J_g 65168 [] [(1,pp 0),(6,iv s42),(7,iv x46)] [(0,.box (Pack.enc false a1))] (zF 3 (kD (kk:=.i64) 32 9 1 eStr (.tmp 64) (.tmp 65) h45) (zF 5 (vZ [(.tmp 67)] [9] (tL.ok x44) h47) zB)) ?_
  refine J_d 130338 [] [70] [(70,bv (x46 !=0))] [] [] zB ?_
  refine zG 70 (fun h48=>?_) (fun h48=>?_)
  ·refine J_g 521356 [] [(2,iv x46)] [] zB ?_
   exact xJ rfl
  ·refine zA (fun x49 h50=>?_)
   refine wU (atI zKw 65171) (fun v58:Bool=>St.mk' [(1,pp 0),(6,iv s42),(91,bv v58)] [(0,.box (Pack.enc false a1))]) (fun v58=>?_) (fun jv58=>?_)
   ·refine zG 91 (fun h59=>?_) (fun h59=>?_)
    ·refine J_g 260684 [] [(2,iv 6)] [] zB ?_
     exact xJ rfl
    ·refine J_d 8147 [] [6,91] [(6,iv (w64 (s42+1)))] [] [] zB ?_
     exact J_q (J_b (ih (w64 (s42+1)))) rfl
   ·refine uN (fun h51=>?_) (fun h51=>?_)
    ·refine J_d 65170 [] [7,70,91] [(91,bv true)] [] [] (zF 3 (kD (kk:=.i64) 32 9 1 eStr (.tmp 73) (.tmp 74) h50) (vV 8 [(79,bv (seq x49 a1.Name))] [] h51 zB)) ?_
     exact xA (J_j (jv58 true)) rfl
    ·refine zA (fun x52 h53=>?_)
     refine zA (fun x54 h55=>?_)
     refine zA (fun x56 h57=>?_)
     refine J_d 65170 [] [7,70,91] [(91,bv x56)] [] [] (zF 3 (kD (kk:=.i64) 32 9 1 eStr (.tmp 73) (.tmp 74) h50) (vV 8 [(79,bv (seq x49 a1.Name))] [] h51 (zAR 12 8 80 false (zNA 32 9 1 eStr (.tmp 82) none (some (.tmp 83)) h53) (zAR 16 8 80 false (kD (kk:=.i64) 32 9 1 eStr (.tmp 86) (.tmp 87) h55) (zAR 18 8 80 false (vZ [(.tmp 84),(.tmp 89)] [32,9] (uY.ok x52 x54) h57) zB))))) ?_
     exact xA (J_j (jv58 x56)) rfl
 ·exact xA (hk ()) rfl
theorem zBF.ok (a1:Pack) (q:Wd) (kn:Unit→Option (D×List Ent)) (hk:∀v:Unit,J (q.g Tryz.prog 108 0 118) zKw (atI zKw 127) (St.mk' [(1,pp 0)] [(0,.box (Pack.enc false a1))]) (some v) kn):
  ∀s19:Int,J (q.g Tryz.prog 108 0 118) zKw (atI zKw 1012) (St.mk' [(1,pp 0),(5,iv s19)] [(0,.box (Pack.enc false a1))]) (zBF a1 s19) (Fl.go (fun r:Int=>some (iv r,[])) kn):=by
 refine zAC (fun g ih s19=>?_)
 unfold zAO
 refine J_d 4048 [] [46] [(46,bv (decide (s19< (a1.Needs.length:Int))))] [] [] zB ?_
 refine zG 46 (fun h20=>?_) (fun h20=>?_)
 ·refine zA (fun x21 h22=>?_)
  refine J_d 16200 [] [46,55] [(55,bv (decide ((x21.length:Int)>4)))] [] [] (zF 3 (kD (kk:=.i64) 89 80 1 (eSl false 7 Term.enc) (.tmp 50) (.tmp 51) h22) zB) ?_
  refine zG 55 (fun h23=>?_) (fun h23=>?_)
  ·refine J_g 64804 [] [(2,iv 2)] [] zB ?_
   exact xJ rfl
  ·refine J_d 4051 [] [5,55] [(5,iv (w64 (s19+1)))] [] [] zB ?_
   exact J_q (J_b (ih (w64 (s19+1)))) rfl
 ·exact xA (hk ()) rfl
theorem zBs.ok (a1:Pack):Ok Tryz.prog 108 [.ag (Pack.enc false a1)] [] ((zBs a1).map fun r=>(iv r,[])):=by
 refine zJ zKw Tryz.f108 0 118 (fun q=>?_)
 unfold zBs
 refine J_g 2 [(0,0)] [(1,pp 0)] [(0,.box (Pack.enc false a1))] zB ?_
 refine zA (fun x2 h3=>?_)
 refine J_g 12 [] [(1,pp 0),(3,iv x2)] [(0,.box (Pack.enc false a1))] (zF 2 (vZ [(.tmp 11)] [9] (tL.ok a1.Name) h3) zB) ?_
 refine J_d 26 [] [14] [(14,bv (x2 !=0))] [] [] zB ?_
 refine zG 14 (fun h4=>?_) (fun h4=>?_)
 ·refine J_g 108 [] [(2,iv x2)] [] zB ?_
  exact xJ rfl
 ·refine zA (fun x5 h6=>?_)
  refine J_g 28 [] [(1,pp 0),(4,iv x5)] [(0,.box (Pack.enc false a1))] (zF 2 (vZ [(.tmp 17)] [88] (vQ.ok a1.Version) h6) zB) ?_
  refine J_d 58 [] [20] [(20,bv (x5 !=0))] [] [] zB ?_
  refine zG 20 (fun h7=>?_) (fun h7=>?_)
  ·refine J_g 236 [] [(2,iv x5)] [] zB ?_
   exact xJ rfl
  ·refine zA (fun x8 h9=>?_)
   refine J_d 60 [] [4,20,25] [(25,bv (!x8))] [] [] (zF 2 (vZ [(.tmp 23),(.const (.int .i64 1)),(.const (.int .i64 200))] [2,2,2] (tY.ok a1.Size 1 200) h9) zB) ?_
   refine zG 25 (fun h10=>?_) (fun h10=>?_)
   ·refine J_g 244 [] [(2,iv 3)] [] zB ?_
    exact xJ rfl
   ·refine wU (atI zKw 125) (fun v13:Bool=>St.mk' [(1,pp 0),(41,bv v13)] [(0,.box (Pack.enc false a1))]) (fun v13=>?_) (fun jv13=>?_)
    ·refine zG 41 (fun h14=>?_) (fun h14=>?_)
     ·refine J_g 500 [] [(2,iv 2)] [] zB ?_
      exact xJ rfl
     ·refine J_d 252 [] [5,41] [(5,iv 0)] [] [] zB ?_
      refine jW (K0:=(fun r:Int=>some (iv r,[]))) (fun _=>rfl) (zBF.ok a1 q _ (fun v24=>J_j ?_) 0)
      refine J_d 508 [] [6] [(6,iv 0)] [] [] zB ?_
      refine jW (K0:=(fun r:Int=>some (iv r,[]))) (fun _=>rfl) (zAv.ok a1 q _ (fun v60=>J_j ?_) 0)
      refine J_d 1020 [] [8] [(8,iv 0)] [] [] zB ?_
      refine jW (K0:=(fun r:Int=>some (iv r,[]))) (fun _=>rfl) (zAu.ok a1 q _ (fun v80=>J_j ?_) 0)
      refine zA (fun x81 h82=>?_)
      refine J_g 1022 [] [(2,iv x81)] [] (zF 2 (vZ [(.tmp 116)] [80] (zAk.ok a1.Bars) h82) zB) ?_
      exact xJ rfl
    ·refine uN (fun h11=>?_) (fun h11=>?_)
     ·refine J_d 124 [] [25,41] [(41,bv true)] [] [] (vV 4 [(29,bv (decide ((a1.Provides.length:Int)>4)))] [] h11 zB) ?_
      exact xA (J_j (jv13 true)) rfl
     ·refine uN (fun h12=>?_) (fun h12=>?_)
      ·refine J_d 124 [] [25,41] [(41,bv true)] [] [] (vV 4 [(29,bv (decide ((a1.Provides.length:Int)>4)))] [] h11 (vV 10 [(35,bv (decide ((a1.Needs.length:Int)>4)))] [] h12 zB)) ?_
       exact xA (J_j (jv13 true)) rfl
      ·refine J_d 124 [] [25,41] [(41,bv (decide ((a1.Bars.length:Int)>4)))] [] [] (vV 4 [(29,bv (decide ((a1.Provides.length:Int)>4)))] [] h11 (vV 10 [(35,bv (decide ((a1.Needs.length:Int)>4)))] [] h12 zB)) ?_
       exact xA (J_j (jv13 (decide ((a1.Bars.length:Int)>4)))) rfl
noncomputable def c57:Code:=(Tryz.f57.body).getD .skip
theorem zAd.ok (a1:(List Pack)) (q:Wd) (kn:Unit→Option (D×List Ent)) (hk:∀v:Unit,J (q.g Tryz.prog 57 0 37) c57 (atI c57 15) (St.mk' [] []) (some v) kn):
  ∀s18:Int,J (q.g Tryz.prog 57 0 37) c57 (atI c57 116) (St.mk' [(0,sl 8 (Pack.enc false) a1),(3,iv s18)] []) (zAd a1 s18) (Fl.go (fun r:Int=>some (iv r,[])) kn):=by
 refine zAC (fun g ih s18=>?_)
 unfold kN
 refine J_d 464 [] [11] [(11,bv (decide (s18< (a1.length:Int))))] [] [] zB ?_
 refine zG 11 (fun h19=>?_) (fun h19=>?_)
 ·refine zA (fun x20 h21=>?_)
  refine zA (fun x22 h23=>?_)
  refine J_g 3728 [] [(0,sl 8 (Pack.enc false) a1),(3,iv s18),(4,iv x22)] [] (zF 2 (kD (kk:=.i64) 24 91 8 (Pack.enc false) (.tmp 14) (.tmp 15) h21) (zF 4 (vZ [(.tmp 17)] [91] (zBs.ok x20) h23) zB)) ?_
  refine J_d 7458 [] [20] [(20,bv (x22 !=0))] [] [] zB ?_
  refine zG 20 (fun h24=>?_) (fun h24=>?_)
  ·refine J_g 29836 [] [(2,iv x22)] [] zB ?_
   exact xJ rfl
  ·refine zA (fun x25 h26=>?_)
   refine zA (fun x27 h28=>?_)
   refine zA (fun x29 h30=>?_)
   refine zA (fun x31 h32=>?_)
   refine J_d 3730 [] [4,20,36] [(36,bv (decide (x31≥0)))] [] [] (zF 2 (zNA 24 91 8 (Pack.enc false) (.tmp 22) none (some (.tmp 23)) h26) (zF 5 (kD (kk:=.i64) 24 91 8 (Pack.enc false) (.tmp 25) (.tmp 26) h28) (zF 10 (kD (kk:=.i64) 24 91 8 (Pack.enc false) (.tmp 30) (.tmp 31) h30) (zF 13 (vZ [(.tmp 24),(.tmp 29),(.tmp 34)] [24,9,88] (zBj.ok x25 x27.Name x29.Version) h32) zB)))) ?_
   refine zG 36 (fun h33=>?_) (fun h33=>?_)
   ·refine J_g 14924 [] [(2,iv 6)] [] zB ?_
    exact xJ rfl
   ·refine J_d 467 [] [3,36] [(3,iv (w64 (s18+1)))] [] [] zB ?_
    exact J_q (J_b (ih (w64 (s18+1)))) rfl
 ·exact xA (hk ()) rfl
theorem vF.ok (a1:(List Pack)):Ok Tryz.prog 57 [sl 8 (Pack.enc false) a1] [] ((vF a1).map fun r=>(iv r,[])):=by
 refine zJ c57 Tryz.f57 0 37 (fun q=>?_)
 unfold vF
 refine J_g 2 [] [(0,sl 8 (Pack.enc false) a1)] [] zB ?_
 refine J_d 12 [] [7] [(7,bv (decide ((a1.length:Int)>24)))] [] [] zB ?_
 refine zG 7 (fun h2=>?_) (fun h2=>?_)
 ·refine J_g 52 [] [(2,iv 2)] [] zB ?_
  exact xJ rfl
 ·refine J_d 28 [] [3,7] [(3,iv 0)] [] [] zB ?_
  refine jW (K0:=(fun r:Int=>some (iv r,[]))) (fun _=>rfl) (zAd.ok a1 q _ (fun v34=>J_j ?_) 0)
  refine J_g 30 [] [(2,iv 0)] [] zB ?_
  exact xJ rfl
noncomputable def c60:Code:=(Tryz.f60.body).getD .skip
theorem zDr.ok (a2:(List Pack)) (q:Wd) (kn:((List Int)×Int×(List Term))→Option (D×List Ent)) (hk:∀v:((List Int)×Int×(List Term)),J (q.g Tryz.prog 60 2 33) c60 (atI c60 15) (St.mk' [(5,rr 2 v.2.2)] [(0,.box [sl 1 eU8 v.1,iv v.2.1]),(1,rE 8 (Pack.enc false) a2),(2,rE 7 Term.enc v.2.2)]) (some v) kn):
  ∀s16:((List Int)×Int×(List Term)×Int),J (q.g Tryz.prog 60 2 33) c60 (atI c60 116) (St.mk' [(0,pp 0),(1,rr 1 a2),(5,rr 2 s16.2.2.1),(6,iv s16.2.2.2)] [(0,.box [sl 1 eU8 s16.1,iv s16.2.1]),(1,rE 8 (Pack.enc false) a2),(2,rE 7 Term.enc s16.2.2.1)]) (zDr a2 s16) kn:=by
 refine zAC (fun g ih s16=>?_)
 unfold kR
 refine wU (atI c60 465) (fun v18:Bool=>St.mk' [(0,pp 0),(1,rr 1 a2),(5,rr 2 s16.2.2.1),(6,iv s16.2.2.2),(17,bv v18)] [(0,.box [sl 1 eU8 s16.1,iv s16.2.1]),(1,rE 8 (Pack.enc false) a2),(2,rE 7 Term.enc s16.2.2.1)]) (fun v18=>?_) (fun jv18=>?_)
 ·refine zG 17 (fun h19=>?_) (fun h19=>?_)
  ·refine zA (fun x20 h21=>?_)
   refine zA (fun x22 h23=>?_)
   refine zA (fun x24 h25=>?_)
   refine zA (fun x26 h27=>?_)
   refine J_g 932 [] [(0,pp 0),(1,rr 1 a2),(5,rr 4 x26),(6,iv s16.2.2.2)] [(0,.box (zD.enc false x20.2)),(1,rE 8 (Pack.enc false) a2),(4,rE 7 Term.enc x26)] (zF 5 (vJ («as»:=[pp 0,iv (a2.length:Int)]) [(.tmp 22),(.tmp 24)] [56,2] false [(0,.box [sl 1 eU8 s16.1,iv s16.2.1])] [0] (.cons (.pt rfl) (.cons (.same rfl) (.nil))) (zP.ok ({Code:=s16.1,At:=s16.2.1}:zD) (a2.length:Int)) h21 (.same rfl rfl)) (zF 6 (zB5 (kk:=.i64) 24 91 8 1 (Pack.enc false) (.tmp 21) (.tmp 25) h23) (zF 8 (zBU (d:=sv x22.Name) 9 8 1 0 (Pack.enc false) (.tmp 27) h23 (by kernel_rfl)) (zF 9 (vZ [(.tmp 28)] [9] (tZ.ok x22.Name) h25) (zF 10 (zBw 80 104 7 3 Term.enc [x24] [0] [(.tmp 29)] [.ag (Term.enc x24)]) (zF 11 (zFg 80 80 104 104 7 64 4 2 3 Term.enc (.tmp 20) (.tmp 30) h27) zB)))))) ?_
   refine J_d 467 [] [6] [(6,iv (w64 (s16.2.2.2-1)))] [] [] zB ?_
   refine uX 4 2 (Nat.le_of_ble_eq_true rfl) (Nat.le_of_ble_eq_true rfl) ?_
   exact J_q (J_b (ih (x20.2.Code,x20.2.At,x26,w64 (s16.2.2.2-1)))) rfl
  ·exact xA (hk (s16.1,s16.2.1,s16.2.2.1)) rfl
 ·refine uN (fun h17=>?_) (fun h17=>?_)
  ·refine J_d 464 [] [17] [(17,bv (decide ((a2.length:Int)>0)))] [] [] (vV 2 [(12,bv (decide (s16.2.2.2>0)))] [] h17 zB) ?_
   exact xA (J_j (jv18 (decide ((a2.length:Int)>0)))) rfl
  ·refine J_d 464 [] [17] [(17,bv false)] [] [] (vV 2 [(12,bv (decide (s16.2.2.2>0)))] [] h17 zB) ?_
   exact xA (J_j (jv18 false)) rfl
theorem zA6.ok (a1:zD) (a2:(List Pack)):Ok Tryz.prog 60 [pp 0,rr 1 a2] [.box (zD.enc false a1),rE 8 (Pack.enc false) a2] ((zA6 a1 a2).map fun r=>(so 7 Term.enc r.1,[.box (zD.enc false r.2),rE 8 (Pack.enc false) a2])):=by
 refine zJ c60 Tryz.f60 2 33 (fun q=>?_)
 unfold zA6
 refine J_g 2 [] [(0,pp 0),(1,rr 1 a2)] [(0,.box (zD.enc false a1)),(1,rE 8 (Pack.enc false) a2)] zB ?_
 refine J_d 6 [] [5] [(5,rr 2 ([]:List Term))] [2] [(2,rE 7 Term.enc ([]:List Term))] (zF 0 (zBw 80 104 7 2 Term.enc ([]:List Term) [] [] []) zB) ?_
 refine zA (fun x3 h4=>?_)
 refine J_d 28 [] [6] [(6,iv (w64 (1+x3.1)))] [0] [(0,.box (zD.enc false x3.2))] (zF 1 (vJ («as»:=[pp 0,iv 3]) [(.tmp 8),(.const (.int .i64 3))] [56,2] false [(0,.box (zD.enc false a1))] [0] (.cons (.pt rfl) (.cons (.same rfl) (.nil))) (zP.ok a1 3) h4 (.same rfl rfl)) zB) ?_
 refine zFv (zDr.ok a2 q _ (fun v28=>J_j ?_) (x3.2.Code,x3.2.At,([]:List Term),w64 (1+x3.1)))
 refine J_g 30 [] [(4,rr 2 v28.2.2)] [(0,.box [sl 1 eU8 v28.1,iv v28.2.1]),(1,rE 8 (Pack.enc false) a2),(2,rE 7 Term.enc v28.2.2)] zB ?_
 exact zDZ (ds:=[rr 2 v28.2.2]) (ds':=[so 7 Term.enc v28.2.2]) (.cons (.cell (.move (.tail _ (.tail _ (.head _))) (List.length_map _) (by decide) (.nil))) (.nil) (by decide)) rfl
noncomputable def zPn:Code:=(Tryz.f110.body).getD .skip
theorem zCx.ok (a1:(List xH)) (q:Wd) (kn:(List Int)→Option (D×List Ent)) (hk:∀v:(List Int),J (q.g Tryz.prog 110 0 21) zPn (atI zPn 15) (St.mk' [(3,rr 0 v)] [(0,rE 1 zC v)]) (some v) kn):
  ∀s7:((List Int)×Int),J (q.g Tryz.prog 110 0 21) zPn (atI zPn 116) (St.mk' [(0,sl 2 (xH.enc false) a1),(3,rr 0 s7.1),(4,iv s7.2)] [(0,rE 1 zC s7.1)]) (zCx a1 s7) kn:=by
 refine zAC (fun g ih s7=>?_)
 unfold zBB
 refine J_d 464 [] [9] [(9,bv (decide (s7.2< (a1.length:Int))))] [] [] zB ?_
 refine zG 9 (fun h8=>?_) (fun h8=>?_)
 ·refine zA (fun x9 h10=>?_)
  refine zA (fun x11 h12=>?_)
  refine J_g 932 [] [(0,sl 2 (xH.enc false) a1),(3,rr 2 x11),(4,iv s7.2)] [(2,rE 1 zC x11)] (zF 3 (kD (kk:=.i64) 128 133 2 (xH.enc false) (.tmp 13) (.tmp 14) h10) (zF 6 (zBw 25 2 1 1 zC [x9.Pack] [0] [(.tmp 17)] [iv x9.Pack]) (zF 7 (zFg 25 25 2 2 1 8 2 0 1 zC (.tmp 12) (.tmp 18) h12) zB))) ?_
  refine J_d 467 [] [4] [(4,iv (w64 (s7.2+1)))] [] [] zB ?_
  refine uX 2 0 (Nat.le_of_ble_eq_true rfl) (Nat.le_of_ble_eq_true rfl) ?_
  exact J_q (J_b (ih (x11,w64 (s7.2+1)))) rfl
 ·exact xA (hk s7.1) rfl
theorem zBM.ok (a1:(List xH)):Ok Tryz.prog 110 [sl 2 (xH.enc false) a1] [] ((zBM a1).map fun r=>(so 1 zC r,[])):=by
 refine zJ zPn Tryz.f110 0 21 (fun q=>?_)
 unfold zBM
 refine J_g 2 [] [(0,sl 2 (xH.enc false) a1)] [] zB ?_
 refine J_g 6 [] [(0,sl 2 (xH.enc false) a1),(3,rr 0 ([]:List Int))] [(0,rE 1 zC ([]:List Int))] (zF 0 (zBw 25 2 1 0 zC ([]:List Int) [] [] []) zB) ?_
 refine J_d 28 [] [4] [(4,iv 0)] [] [] zB ?_
 refine zFv (zCx.ok a1 q _ (fun v13=>J_j ?_) (([]:List Int),0))
 refine J_g 30 [] [(2,rr 0 v13)] [(0,rE 1 zC v13)] zB ?_
 exact zDZ (ds:=[rr 0 v13]) (ds':=[so 1 zC v13]) (.cons (.cell (.move (.head _) (List.length_map _) (by decide) (.nil))) (.nil) (by decide)) rfl
noncomputable def c196:Code:=(Tryz.f196.body).getD .skip
theorem zAj.ok (a1:Term) (a2:ByteArray) (a3:Version):Ok Tryz.prog 196 [.ag (Term.enc a1),sv a2,.ag (Version.enc a3)] [] ((zAj a1 a2 a3).map fun r=>(bv r,[])):=by
 refine zJ c196 Tryz.f196 0 25 (fun q=>?_)
 unfold zAj
 refine J_g 2 [(0,0),(1,1)] [(1,sv a2),(3,pp 0),(5,pp 1)] [(0,.box (Term.enc a1)),(1,.box (Version.enc a3))] zB ?_
 refine uN (fun h4=>?_) (fun h4=>?_)
 ·refine zA (fun x5 h6=>?_)
  refine uN (fun h7=>?_) (fun h7=>?_)
  ·refine zA (fun x8 h9=>?_)
   refine J_g 6 [] [(6,bv (decide (x8<0)))] [] (vV 4 [(10,bv (seq a1.Name a2))] [] h4 (zAR 8 4 11 true (vZ [(.tmp 12),(.tmp 14)] [88,88] (yM.ok a3 a1.Low) h6) (vV 11 [(17,bv (decide (x5≥0)))] [] h7 (zAR 15 11 18 true (vZ [(.tmp 19),(.tmp 21)] [88,88] (yM.ok a3 a1.High) h9) zB)))) ?_
   exact xJ rfl
  ·refine J_g 6 [] [(6,bv false)] [] (vV 4 [(10,bv (seq a1.Name a2))] [] h4 (zAR 8 4 11 true (vZ [(.tmp 12),(.tmp 14)] [88,88] (yM.ok a3 a1.Low) h6) (vV 11 [(17,bv (decide (x5≥0)))] [] h7 zB))) ?_
   exact xJ rfl
 ·refine J_g 6 [] [(6,bv false)] [] (vV 4 [(10,bv (seq a1.Name a2))] [] h4 zB) ?_
  exact xJ rfl
noncomputable def zQ1:Code:=(Tryz.f151.body).getD .skip
theorem kV.ok (a1:Pack) (a2:Term):Ok Tryz.prog 151 [.ag (Pack.enc false a1),.ag (Term.enc a2)] [] ((kV a1 a2).map fun r=>(bv r,[])):=by
 refine zJ zQ1 Tryz.f151 0 25 (fun q=>?_)
 unfold kV
 refine J_g 2 [(0,0),(1,1)] [(2,pp 0),(3,pp 1)] [(0,.box (Pack.enc false a1)),(1,.box (Term.enc a2))] zB ?_
 refine uN (fun h3=>?_) (fun h3=>?_)
 ·refine zA (fun x4 h5=>?_)
  refine J_g 6 [] [(4,bv x4)] [] (vV 5 [(9,bv (seq a2.Name a1.Name))] [] h3 (zAR 18 12 17 true (vZ [(.tmp 18),(.tmp 20),(.tmp 22)] [104,9,88] (zAj.ok a2 a2.Name a1.Version) h5) zB)) ?_
  exact xJ rfl
 ·refine zA (fun x6 h7=>?_)
  refine uN (fun h8=>?_) (fun h8=>?_)
  ·refine zA (fun x9 h10=>?_)
   refine J_g 6 [] [(4,bv x9)] [] (vV 5 [(9,bv (seq a2.Name a1.Name))] [] h3 (zAR 10 5 10 false (vZ [(.tmp 12),(.tmp 14)] [32,9] (uY.ok a1.Provides a2.Name) h7) (vV 12 [(16,bv x6)] [] h8 (zAR 18 12 17 true (vZ [(.tmp 18),(.tmp 20),(.tmp 22)] [104,9,88] (zAj.ok a2 a2.Name a1.Version) h10) zB)))) ?_
   exact xJ rfl
  ·refine J_g 6 [] [(4,bv false)] [] (vV 5 [(9,bv (seq a2.Name a1.Name))] [] h3 (zAR 10 5 10 false (vZ [(.tmp 12),(.tmp 14)] [32,9] (uY.ok a1.Provides a2.Name) h7) (vV 12 [(16,bv x6)] [] h8 zB))) ?_
   exact xJ rfl
noncomputable def zO5:Code:=(Tryz.f126.body).getD .skip
theorem zCY.ok (a1:(List Pack)) (a2:(List Int)) (a3:Term) (a4:Int) (q:Wd) (kn:Unit→Option (D×List Ent)) (hk:∀v:Unit,J (q.g Tryz.prog 126 0 33) zO5 (atI zO5 7) (St.mk' [] []) (some v) kn):
  ∀s17:Int,J (q.g Tryz.prog 126 0 33) zO5 (atI zO5 52) (St.mk' [(0,sl 8 (Pack.enc false) a1),(1,sl 1 zC a2),(3,iv a4),(6,pp 0),(9,iv s17)] [(0,.box (Term.enc a3))]) (zCY a1 a2 a3 a4 s17) (Fl.go (fun r:Bool=>some (bv r,[])) kn):=by
 refine zAC (fun g ih s17=>?_)
 unfold zCj
 refine J_d 208 [] [13] [(13,bv (decide (s17< (a2.length:Int))))] [] [] zB ?_
 refine zG 13 (fun h18=>?_) (fun h18=>?_)
 ·refine zA (fun x19 h20=>?_)
  refine wU (atI zO5 841) (fun v28:Bool=>St.mk' [(0,sl 8 (Pack.enc false) a1),(1,sl 1 zC a2),(3,iv a4),(6,pp 0),(9,iv s17),(32,bv v28)] [(0,.box (Term.enc a3))]) (fun v28=>?_) (fun jv28=>?_)
  ·refine zG 32 (fun h29=>?_) (fun h29=>?_)
   ·refine J_g 3364 [] [(8,bv true)] [] zB ?_
    exact xJ rfl
   ·refine J_d 211 [] [9,32] [(9,iv (w64 (s17+1)))] [] [] zB ?_
    exact J_q (J_b (ih (w64 (s17+1)))) rfl
  ·refine uN (fun h21=>?_) (fun h21=>?_)
   ·refine zA (fun x22 h23=>?_)
    refine zA (fun x24 h25=>?_)
    refine zA (fun x26 h27=>?_)
    refine J_d 840 [] [13,32] [(32,bv x26)] [] [] (zF 2 (kD (kk:=.i64) 25 2 1 zC (.tmp 16) (.tmp 17) h20) (vV 6 [(21,bv (x19 !=a4))] [] h21 (zAR 10 6 22 true (kD (kk:=.i64) 25 2 1 zC (.tmp 24) (.tmp 25) h23) (zAR 12 6 22 true (kD (kk:=.i64) 24 91 8 (Pack.enc false) (.tmp 23) (.tmp 27) h25) (zAR 15 6 22 true (vZ [(.tmp 29),(.tmp 30)] [91,104] (kV.ok x24 a3) h27) zB))))) ?_
    exact xA (J_j (jv28 x26)) rfl
   ·refine J_d 840 [] [13,32] [(32,bv false)] [] [] (zF 2 (kD (kk:=.i64) 25 2 1 zC (.tmp 16) (.tmp 17) h20) (vV 6 [(21,bv (x19 !=a4))] [] h21 zB)) ?_
    exact xA (J_j (jv28 false)) rfl
 ·exact xA (hk ()) rfl
theorem zAW.ok (a1:(List Pack)) (a2:(List Int)) (a3:Term) (a4:Int):Ok Tryz.prog 126 [sl 8 (Pack.enc false) a1,sl 1 zC a2,.ag (Term.enc a3),iv a4] [] ((zAW a1 a2 a3 a4).map fun r=>(bv r,[])):=by
 refine zJ zO5 Tryz.f126 0 33 (fun q=>?_)
 unfold zAW
 refine J_g 2 [(0,0)] [(0,sl 8 (Pack.enc false) a1),(1,sl 1 zC a2),(3,iv a4),(6,pp 0)] [(0,.box (Term.enc a3))] zB ?_
 refine J_d 12 [] [9] [(9,iv 0)] [] [] zB ?_
 refine jW (K0:=(fun r:Bool=>some (bv r,[]))) (fun _=>rfl) (zCY.ok a1 a2 a3 a4 q _ (fun v30=>J_j ?_) 0)
 refine J_g 14 [] [(8,bv false)] [] zB ?_
 exact xJ rfl
noncomputable def zPo:Code:=(Tryz.f125.body).getD .skip
theorem zDK.ok (a1:(List Pack)) (a2:(List Int)) (a3:(List Term)) (q:Wd) (kn:Unit→Option (D×List Ent)) (hk:∀v:Unit,J (q.g Tryz.prog 125 0 21) zPo (atI zPo 7) (St.mk' [] []) (some v) kn):
  ∀s10:Int,J (q.g Tryz.prog 125 0 21) zPo (atI zPo 52) (St.mk' [(0,sl 8 (Pack.enc false) a1),(1,sl 1 zC a2),(2,sl 7 Term.enc a3),(7,iv s10)] []) (zDK a1 a2 a3 s10) (Fl.go (fun r:Bool=>some (bv r,[])) kn):=by
 refine zAC (fun g ih s10=>?_)
 unfold zDt
 refine J_d 208 [] [11] [(11,bv (decide (s10< (a3.length:Int))))] [] [] zB ?_
 refine zG 11 (fun h11=>?_) (fun h11=>?_)
 ·refine zA (fun x12 h13=>?_)
  refine zA (fun x14 h15=>?_)
  refine J_d 840 [] [11,20] [(20,bv x14)] [] [] (zF 4 (kD (kk:=.i64) 80 104 7 Term.enc (.tmp 16) (.tmp 17) h13) (zF 6 (vZ [(.tmp 14),(.tmp 15),(.tmp 19),(.const (.int .i64 (-1)))] [24,25,104,2] (zAW.ok a1 a2 x12 (-1)) h15) zB)) ?_
  refine zG 20 (fun h16=>?_) (fun h16=>?_)
  ·refine J_g 3364 [] [(6,bv true)] [] zB ?_
   exact xJ rfl
  ·refine J_d 211 [] [7,20] [(7,iv (w64 (s10+1)))] [] [] zB ?_
   exact J_q (J_b (ih (w64 (s10+1)))) rfl
 ·exact xA (hk ()) rfl
theorem zB7.ok (a1:(List Pack)) (a2:(List Int)) (a3:(List Term)):Ok Tryz.prog 125 [sl 8 (Pack.enc false) a1,sl 1 zC a2,sl 7 Term.enc a3] [] ((zB7 a1 a2 a3).map fun r=>(bv r,[])):=by
 refine zJ zPo Tryz.f125 0 21 (fun q=>?_)
 unfold zB7
 refine J_g 2 [] [(0,sl 8 (Pack.enc false) a1),(1,sl 1 zC a2),(2,sl 7 Term.enc a3)] [] zB ?_
 refine J_d 12 [] [7] [(7,iv 0)] [] [] zB ?_
 refine jW (K0:=(fun r:Bool=>some (bv r,[]))) (fun _=>rfl) (zDK.ok a1 a2 a3 q _ (fun v17=>J_j ?_) 0)
 refine J_g 14 [] [(6,bv false)] [] zB ?_
 exact xJ rfl
noncomputable def zLb:Code:=(Tryz.f111.body).getD .skip
theorem zCo.ok (a1:(List Pack)) (a3:(List Int)) (s45:Int) (x49:Pack) (q:Wd) (kn:Unit→Option (D×List Ent)) (hk:∀v:Unit,J (q.g Tryz.prog 111 1 65) zLb (aft zLb 932) (St.mk' [(0,sl 8 (Pack.enc false) a1),(2,rr 0 a3),(8,iv s45)] [(0,rE 1 zC a3)]) (some v) kn):
  ∀s59:Int,J (q.g Tryz.prog 111 1 65) zLb (atI zLb 14924) (St.mk' [(0,sl 8 (Pack.enc false) a1),(2,rr 0 a3),(8,iv s45),(9,pp 1),(10,iv s59)] [(0,rE 1 zC a3),(1,.box (Pack.enc false x49))]) (zCo a1 a3 s45 x49 s59) (Fl.go (fun r:(List Term)=>some (sl 7 Term.enc r,[rE 1 zC a3])) kn):=by
 refine zAC (fun g ih s59=>?_)
 unfold zB6
 refine J_d 59696 [] [48] [(48,bv (decide (s59< (x49.Needs.length:Int))))] [] [] zB ?_
 refine zG 48 (fun h60=>?_) (fun h60=>?_)
 ·refine zA (fun x61 h62=>?_)
  refine zA (fun x63 h64=>?_)
  refine J_d 238792 [] [48,59] [(59,bv (!x63))] [] [] (zF 5 (kD (kk:=.i64) 89 80 1 (eSl false 7 Term.enc) (.tmp 54) (.tmp 55) h62) (zF 7 (vJ («as»:=[sl 8 (Pack.enc false) a1,rr 0 a3,sl 7 Term.enc x61]) [(.tmp 51),(.tmp 52),(.tmp 57)] [24,25,80] true [(0,rE 1 zC a3)] [] (.cons (.same rfl) (.cons (zDY (.head _) (fun _=>rfl) rfl) (.cons (.same rfl) (.nil)))) (zB7.ok a1 a3 x61) h64 (.same rfl rfl) (hbor:=fun _=>⟨fhN,yV⟩)) zB)) ?_
  refine zG 59 (fun h65=>?_) (fun h65=>?_)
  ·refine zA (fun x66 h67=>?_)
   refine J_g 955172 [] [(6,sl 7 Term.enc x66)] [(0,rE 1 zC a3)] (zF 3 (kD (kk:=.i64) 89 80 1 (eSl false 7 Term.enc) (.tmp 61) (.tmp 62) h67) zB) ?_
   exact xJ rfl
  ·refine J_d 59699 [] [10,59] [(10,iv (w64 (s59+1)))] [] [] zB ?_
   exact J_q (J_b (ih (w64 (s59+1)))) rfl
 ·exact xA (hk ()) rfl
theorem zCd.ok (a1:(List Pack)) (a3:(List Int)) (q:Wd) (kn:Unit→Option (D×List Ent)) (hk:∀v:Unit,J (q.g Tryz.prog 111 1 65) zLb (atI zLb 15) (St.mk' [] [(0,rE 1 zC a3)]) (some v) kn):
  ∀s45:Int,J (q.g Tryz.prog 111 1 65) zLb (atI zLb 116) (St.mk' [(0,sl 8 (Pack.enc false) a1),(2,rr 0 a3),(8,iv s45)] [(0,rE 1 zC a3)]) (zCd a1 a3 s45) (Fl.go (fun r:(List Term)=>some (sl 7 Term.enc r,[rE 1 zC a3])) kn):=by
 refine zAC (fun g ih s45=>?_)
 unfold zB4
 refine J_d 464 [] [34] [(34,bv (decide (s45< (a3.length:Int))))] [] [] zB ?_
 refine zG 34 (fun h46=>?_) (fun h46=>?_)
 ·refine zA (fun x47 h48=>?_)
  refine zA (fun x49 h50=>?_)
  refine J_g 1864 [(7,1)] [(0,sl 8 (Pack.enc false) a1),(2,rr 0 a3),(8,iv s45),(9,pp 1)] [(0,rE 1 zC a3),(1,.box (Pack.enc false x49))] (zF 3 (zB5 (kk:=.i64) 25 2 1 0 zC (.tmp 38) (.tmp 39) h48) (zF 4 (zBU (d:=iv x47) 2 1 0 0 zC (.tmp 40) h48 (by kernel_rfl)) (zF 5 (kD (kk:=.i64) 24 91 8 (Pack.enc false) (.tmp 37) (.tmp 41) h50) zB))) ?_
  refine J_d 3730 [] [10] [(10,iv 0)] [] [] zB ?_
  refine jW (K0:=(fun r:(List Term)=>some (sl 7 Term.enc r,[rE 1 zC a3]))) (fun _=>rfl) (zCo.ok a1 a3 s45 x49 q _ (fun v68=>J_j ?_) 0)
  refine J_d 467 [] [8] [(8,iv (w64 (s45+1)))] [] [] zB ?_
  exact J_q (J_b (ih (w64 (s45+1)))) rfl
 ·exact xA (hk ()) rfl
theorem zCi.ok (a1:(List Pack)) (a2:(List Term)) (a3:(List Int)) (q:Wd) (kn:Unit→Option (D×List Ent)) (hk:∀v:Unit,J (q.g Tryz.prog 111 1 65) zLb (atI zLb 7) (St.mk' [(0,sl 8 (Pack.enc false) a1),(2,rr 0 a3)] [(0,rE 1 zC a3)]) (some v) kn):
  ∀s12:Int,J (q.g Tryz.prog 111 1 65) zLb (atI zLb 52) (St.mk' [(0,sl 8 (Pack.enc false) a1),(1,sl 7 Term.enc a2),(2,rr 0 a3),(7,iv s12)] [(0,rE 1 zC a3)]) (zCi a1 a2 a3 s12) (Fl.go (fun r:(List Term)=>some (sl 7 Term.enc r,[rE 1 zC a3])) kn):=by
 refine zAC (fun g ih s12=>?_)
 unfold zBE
 refine J_d 208 [] [14] [(14,bv (decide (s12< (a2.length:Int))))] [] [] zB ?_
 refine zG 14 (fun h13=>?_) (fun h13=>?_)
 ·refine zA (fun x14 h15=>?_)
  refine zA (fun x16 h17=>?_)
  refine J_d 840 [] [14,25] [(25,bv (!x16))] [] [] (zF 6 (zNA 80 104 7 Term.enc (.tmp 19) (some (.tmp 20)) (some (.tmp 22)) h15) (zF 7 (vJ («as»:=[sl 8 (Pack.enc false) a1,rr 0 a3,sl 7 Term.enc x14]) [(.tmp 17),(.tmp 18),(.tmp 23)] [24,25,80] true [(0,rE 1 zC a3)] [] (.cons (.same rfl) (.cons (zDY (.head _) (fun _=>rfl) rfl) (.cons (.same rfl) (.nil)))) (zB7.ok a1 a3 x14) h17 (.same rfl rfl) (hbor:=fun _=>⟨fhN,yV⟩)) zB)) ?_
  refine zG 25 (fun h18=>?_) (fun h18=>?_)
  ·refine zA (fun x19 h20=>?_)
   refine J_g 3364 [] [(6,sl 7 Term.enc x19)] [(0,rE 1 zC a3)] (zF 4 (zNA 80 104 7 Term.enc (.tmp 26) (some (.tmp 27)) (some (.tmp 29)) h20) zB) ?_
   exact xJ rfl
  ·refine J_d 211 [] [7,25] [(7,iv (w64 (s12+1)))] [] [] zB ?_
   exact J_q (J_b (ih (w64 (s12+1)))) rfl
 ·exact xA (hk ()) rfl
theorem zBV.ok (a1:(List Pack)) (a2:(List Term)) (a3:(List Int)):Ok Tryz.prog 111 [sl 8 (Pack.enc false) a1,sl 7 Term.enc a2,rr 0 a3] [rE 1 zC a3] ((zBV a1 a2 a3).map fun r=>(sl 7 Term.enc r,[rE 1 zC a3])):=by
 refine zJ zLb Tryz.f111 1 65 (fun q=>?_)
 unfold zBV
 refine J_g 2 [] [(0,sl 8 (Pack.enc false) a1),(1,sl 7 Term.enc a2),(2,rr 0 a3)] [(0,rE 1 zC a3)] zB ?_
 refine J_d 12 [] [7] [(7,iv 0)] [] [] zB ?_
 refine jW (K0:=(fun r:(List Term)=>some (sl 7 Term.enc r,[rE 1 zC a3]))) (fun _=>rfl) (zCi.ok a1 a2 a3 q _ (fun v21=>J_j ?_) 0)
 refine J_d 28 [] [8] [(8,iv 0)] [] [] zB ?_
 refine jW (K0:=(fun r:(List Term)=>some (sl 7 Term.enc r,[rE 1 zC a3]))) (fun _=>rfl) (zCd.ok a1 a3 q _ (fun v69=>J_j ?_) 0)
 refine J_g 30 [] [(6,nv)] [(0,rE 1 zC a3)] zB ?_
 exact zDZ (ds:=[nv]) (ds':=[sl 7 Term.enc ([]:List Term)]) (.cons (.cell (.nilsl false 7 (.nil))) (.nil) (by decide)) rfl
noncomputable def zNC:Code:=(Tryz.f150.body).getD .skip
theorem zDM.ok (a1:(List Int)) (a2:Int) (q:Wd) (kn:((List Int)×Bool)→Option (D×List Ent)) (hk:∀v:((List Int)×Bool),J (q.g Tryz.prog 150 0 43) zNC (atI zNC 31) (St.mk' [(1,iv a2),(5,rr 0 v.1),(6,bv v.2)] [(0,rE 1 zC v.1)]) (some v) kn):
  ∀s16:((List Int)×Bool×Int),J (q.g Tryz.prog 150 0 43) zNC (atI zNC 244) (St.mk' [(0,sl 1 zC a1),(1,iv a2),(5,rr 0 s16.1),(6,bv s16.2.1),(7,iv s16.2.2)] [(0,rE 1 zC s16.1)]) (zDM a1 a2 s16) kn:=by
 refine zAC (fun g ih s16=>?_)
 unfold zDs
 refine J_d 976 [] [12] [(12,bv (decide (s16.2.2< (a1.length:Int))))] [] [] zB ?_
 refine zG 12 (fun h17=>?_) (fun h17=>?_)
 ·refine zA (fun x18 h19=>?_)
  refine wU (atI zNC 7825) (fun v21:Bool=>St.mk' [(0,sl 1 zC a1),(1,iv a2),(5,rr 0 s16.1),(6,bv s16.2.1),(7,iv s16.2.2),(24,bv v21)] [(0,rE 1 zC s16.1)]) (fun v21=>?_) (fun jv21=>?_)
  ·refine wU (atI zNC 3913) (fun v25:((List Int)×Bool)=>St.mk' [(0,sl 1 zC a1),(1,iv a2),(5,rr 2 v25.1),(6,bv v25.2),(7,iv s16.2.2)] [(2,rE 1 zC v25.1)]) (fun v25=>?_) (fun jv25=>?_)
   ·refine zA (fun x26 h27=>?_)
    refine zA (fun x28 h29=>?_)
    refine J_g 3913 [] [(0,sl 1 zC a1),(1,iv a2),(5,rr 4 x28),(6,bv v25.2),(7,iv s16.2.2)] [(4,rE 1 zC x28)] (zF 3 (kD (kk:=.i64) 25 2 1 zC (.tmp 30) (.tmp 31) h27) (zF 5 (zBw 25 2 1 3 zC [x26] [0] [(.tmp 33)] [iv x26]) (zF 6 (zFg 25 25 2 2 1 8 4 2 3 zC (.tmp 29) (.tmp 34) h29) zB))) ?_
    refine J_d 979 [] [7] [(7,iv (w64 (s16.2.2+1)))] [] [] zB ?_
    refine uX 4 0 (Nat.le_of_ble_eq_true rfl) (Nat.le_of_ble_eq_true rfl) ?_
    exact J_q (J_b (ih (x28,v25.2,w64 (s16.2.2+1)))) rfl
   ·refine zG 24 (fun h22=>?_) (fun h22=>?_)
    ·refine zA (fun x23 h24=>?_)
     refine J_g 31300 [] [(0,sl 1 zC a1),(1,iv a2),(5,rr 2 x23),(7,iv s16.2.2)] [(2,rE 1 zC x23)] (zF 2 (zBw 25 2 1 1 zC [a2] [0] [(.tmp 26)] [iv a2]) (zF 3 (zFg 25 25 2 2 1 8 2 0 1 zC (.tmp 25) (.tmp 27) h24) zB)) ?_
     refine J_d 31301 [] [6] [(6,bv true)] [] [] zB ?_
     exact xA (J_j (jv25 (x23,true))) rfl
    ·refine uX 0 2 (Nat.le_of_ble_eq_true rfl) (Nat.le_of_ble_eq_true rfl) ?_
     exact xA (J_j (jv25 (s16.1,s16.2.1))) rfl
  ·refine uN (fun h20=>?_) (fun h20=>?_)
   ·refine J_d 7824 [] [12,24] [(24,bv (!s16.2.1))] [] [] (zF 2 (kD (kk:=.i64) 25 2 1 zC (.tmp 15) (.tmp 16) h19) (vV 6 [(20,bv (decide (x18>a2)))] [] h20 zB)) ?_
    exact xA (J_j (jv21 (!s16.2.1))) rfl
   ·refine J_d 7824 [] [12,24] [(24,bv false)] [] [] (zF 2 (kD (kk:=.i64) 25 2 1 zC (.tmp 15) (.tmp 16) h19) (vV 6 [(20,bv (decide (x18>a2)))] [] h20 zB)) ?_
    exact xA (J_j (jv21 false)) rfl
 ·exact xA (hk (s16.1,s16.2.1)) rfl
theorem zEd.ok (a1:(List Int)) (a2:Int):Ok Tryz.prog 150 [sl 1 zC a1,iv a2] [] ((zEd a1 a2).map fun r=>(so 1 zC r,[])):=by
 refine zJ zNC Tryz.f150 0 43 (fun q=>?_)
 unfold zEd
 refine J_g 2 [] [(0,sl 1 zC a1),(1,iv a2)] [] zB ?_
 refine J_g 6 [] [(0,sl 1 zC a1),(1,iv a2),(5,rr 0 ([]:List Int))] [(0,rE 1 zC ([]:List Int))] (zF 0 (zBw 25 2 1 0 zC ([]:List Int) [] [] []) zB) ?_
 refine J_g 14 [] [(0,sl 1 zC a1),(1,iv a2),(5,rr 0 ([]:List Int)),(6,bv false)] [(0,rE 1 zC ([]:List Int))] zB ?_
 refine J_d 60 [] [7] [(7,iv 0)] [] [] zB ?_
 refine zFv (zDM.ok a1 a2 q _ (fun v30=>J_j ?_) (([]:List Int),false,0))
 refine J_d 124 [] [6,37] [(37,bv (!v30.2))] [] [] zB ?_
 refine wU (atI zNC 63) (fun v34:(List Int)=>St.mk' [(5,rr 2 v34)] [(2,rE 1 zC v34)]) (fun v34=>?_) (fun jv34=>?_)
 ·refine J_g 126 [] [(4,rr 2 v34)] [(2,rE 1 zC v34)] zB ?_
  exact zDZ (ds:=[rr 2 v34]) (ds':=[so 1 zC v34]) (.cons (.cell (.move (.head _) (List.length_map _) (by decide) (.nil))) (.nil) (by decide)) rfl
 ·refine zG 37 (fun h31=>?_) (fun h31=>?_)
  ·refine zA (fun x32 h33=>?_)
   refine J_g 250 [] [(5,rr 2 x32)] [(2,rE 1 zC x32)] (zF 2 (zBw 25 2 1 1 zC [a2] [0] [(.tmp 39)] [iv a2]) (zF 3 (zFg 25 25 2 2 1 8 2 0 1 zC (.tmp 38) (.tmp 40) h33) zB)) ?_
   exact xA (J_j (jv34 x32)) rfl
  ·refine uX 0 2 (Nat.le_of_ble_eq_true rfl) (Nat.le_of_ble_eq_true rfl) ?_
   exact xA (J_j (jv34 v30.1)) rfl
noncomputable def zPt:Code:=(Tryz.f112.body).getD .skip
theorem zCg.ok (a1:(List Int)) (q:Wd) (kn:(List Int)→Option (D×List Ent)) (hk:∀v:(List Int),J (q.g Tryz.prog 112 0 19) zPt (atI zPt 15) (St.mk' [(3,rr 0 v)] [(0,rE 1 zC v)]) (some v) kn):
  ∀s7:((List Int)×Int),J (q.g Tryz.prog 112 0 19) zPt (atI zPt 116) (St.mk' [(0,sl 1 zC a1),(3,rr 0 s7.1),(4,iv s7.2)] [(0,rE 1 zC s7.1)]) (zCg a1 s7) kn:=by
 refine zAC (fun g ih s7=>?_)
 unfold zBI
 refine J_d 464 [] [9] [(9,bv (decide (s7.2< (a1.length:Int))))] [] [] zB ?_
 refine zG 9 (fun h8=>?_) (fun h8=>?_)
 ·refine zA (fun x9 h10=>?_)
  refine zA (fun x11 h12=>?_)
  refine J_g 932 [] [(0,sl 1 zC a1),(3,rr 1 x11),(4,iv s7.2)] [(1,rE 1 zC x11)] (zF 3 (kD (kk:=.i64) 25 2 1 zC (.tmp 13) (.tmp 14) h10) (zF 5 (vJ («as»:=[rr 0 s7.1,iv x9]) [(.tmp 12),(.tmp 16)] [25,2] true [(0,rE 1 zC s7.1)] [] (.cons (zDY (.head _) (fun _=>rfl) rfl) (.cons (.same rfl) (.nil))) (zEd.ok s7.1 x9) h12 (.own 1) (hbor:=fun _=>⟨fhN,(zC7 (zEp (fun _=>(flatK yV zDq)) _))⟩)) zB)) ?_
  refine J_d 467 [] [4] [(4,iv (w64 (s7.2+1)))] [] [] zB ?_
  refine uX 1 0 (Nat.le_of_ble_eq_true rfl) (Nat.le_of_ble_eq_true rfl) ?_
  exact J_q (J_b (ih (x11,w64 (s7.2+1)))) rfl
 ·exact xA (hk s7.1) rfl
theorem zBR.ok (a1:(List Int)):Ok Tryz.prog 112 [sl 1 zC a1] [] ((zBR a1).map fun r=>(so 1 zC r,[])):=by
 refine zJ zPt Tryz.f112 0 19 (fun q=>?_)
 unfold zBR
 refine J_g 2 [] [(0,sl 1 zC a1)] [] zB ?_
 refine J_g 6 [] [(0,sl 1 zC a1),(3,rr 0 ([]:List Int))] [(0,rE 1 zC ([]:List Int))] (zF 0 (zBw 25 2 1 0 zC ([]:List Int) [] [] []) zB) ?_
 refine J_d 28 [] [4] [(4,iv 0)] [] [] zB ?_
 refine zFv (zCg.ok a1 q _ (fun v13=>J_j ?_) (([]:List Int),0))
 refine J_g 30 [] [(2,rr 0 v13)] [(0,rE 1 zC v13)] zB ?_
 exact zDZ (ds:=[rr 0 v13]) (ds':=[so 1 zC v13]) (.cons (.cell (.move (.head _) (List.length_map _) (by decide) (.nil))) (.nil) (by decide)) rfl
noncomputable def c98:Code:=(Tryz.f98.body).getD .skip
theorem zDJ.ok (a1:(List Int)) (a2:Int) (q:Wd) (kn:Unit→Option (D×List Ent)) (hk:∀v:Unit,J (q.g Tryz.prog 98 0 18) c98 (atI c98 7) (St.mk' [] []) (some v) kn):
  ∀s7:Int,J (q.g Tryz.prog 98 0 18) c98 (atI c98 52) (St.mk' [(0,sl 1 zC a1),(1,iv a2),(5,iv s7)] []) (zDJ a1 a2 s7) (Fl.go (fun r:Bool=>some (bv r,[])) kn):=by
 refine zAC (fun g ih s7=>?_)
 unfold zDo
 refine J_d 208 [] [9] [(9,bv (decide (s7< (a1.length:Int))))] [] [] zB ?_
 refine zG 9 (fun h8=>?_) (fun h8=>?_)
 ·refine zA (fun x9 h10=>?_)
  refine J_d 840 [] [9,17] [(17,bv (x9==a2))] [] [] (zF 2 (kD (kk:=.i64) 25 2 1 zC (.tmp 12) (.tmp 13) h10) zB) ?_
  refine zG 17 (fun h11=>?_) (fun h11=>?_)
  ·refine J_g 3364 [] [(4,bv true)] [] zB ?_
   exact xJ rfl
  ·refine J_d 211 [] [5,17] [(5,iv (w64 (s7+1)))] [] [] zB ?_
   exact J_q (J_b (ih (w64 (s7+1)))) rfl
 ·exact xA (hk ()) rfl
theorem tF.ok (a1:(List Int)) (a2:Int):Ok Tryz.prog 98 [sl 1 zC a1,iv a2] [] ((tF a1 a2).map fun r=>(bv r,[])):=by
 refine zJ c98 Tryz.f98 0 18 (fun q=>?_)
 unfold tF
 refine J_g 2 [] [(0,sl 1 zC a1),(1,iv a2)] [] zB ?_
 refine J_d 12 [] [5] [(5,iv 0)] [] [] zB ?_
 refine jW (K0:=(fun r:Bool=>some (bv r,[]))) (fun _=>rfl) (zDJ.ok a1 a2 q _ (fun v12=>J_j ?_) 0)
 refine J_g 14 [] [(4,bv false)] [] zB ?_
 exact xJ rfl
noncomputable def zOV:Code:=(Tryz.f197.body).getD .skip
theorem zB3.ok (a1:(List Pack)) (a2:(List Term)) (a3:Int) (q:Wd) (kn:Unit→Option (D×List Ent)) (hk:∀v:Unit,J (q.g Tryz.prog 197 0 23) zOV (atI zOV 7) (St.mk' [] []) (some v) kn):
  ∀s12:Int,J (q.g Tryz.prog 197 0 23) zOV (atI zOV 52) (St.mk' [(0,sl 8 (Pack.enc false) a1),(1,sl 7 Term.enc a2),(2,iv a3),(7,iv s12)] []) (zB3 a1 a2 a3 s12) (Fl.go (fun r:Bool=>some (bv r,[])) kn):=by
 refine zAC (fun g ih s12=>?_)
 unfold zAQ
 refine J_d 208 [] [11] [(11,bv (decide (s12< (a2.length:Int))))] [] [] zB ?_
 refine zG 11 (fun h13=>?_) (fun h13=>?_)
 ·refine zA (fun x14 h15=>?_)
  refine zA (fun x16 h17=>?_)
  refine zA (fun x18 h19=>?_)
  refine J_d 840 [] [11,22] [(22,bv x18)] [] [] (zF 2 (kD (kk:=.i64) 24 91 8 (Pack.enc false) (.tmp 14) (.tmp 15) h15) (zF 6 (kD (kk:=.i64) 80 104 7 Term.enc (.tmp 18) (.tmp 19) h17) (zF 8 (vZ [(.tmp 17),(.tmp 21)] [91,104] (kV.ok x14 x16) h19) zB))) ?_
  refine zG 22 (fun h20=>?_) (fun h20=>?_)
  ·refine J_g 3364 [] [(6,bv true)] [] zB ?_
   exact xJ rfl
  ·refine J_d 211 [] [7,22] [(7,iv (w64 (s12+1)))] [] [] zB ?_
   exact J_q (J_b (ih (w64 (s12+1)))) rfl
 ·exact xA (hk ()) rfl
theorem jC.ok (a1:(List Pack)) (a2:(List Term)) (a3:Int):Ok Tryz.prog 197 [sl 8 (Pack.enc false) a1,sl 7 Term.enc a2,iv a3] [] ((jC a1 a2 a3).map fun r=>(bv r,[])):=by
 refine zJ zOV Tryz.f197 0 23 (fun q=>?_)
 unfold jC
 refine J_g 2 [] [(0,sl 8 (Pack.enc false) a1),(1,sl 7 Term.enc a2),(2,iv a3)] [] zB ?_
 refine J_d 12 [] [7] [(7,iv 0)] [] [] zB ?_
 refine jW (K0:=(fun r:Bool=>some (bv r,[]))) (fun _=>rfl) (zB3.ok a1 a2 a3 q _ (fun v21=>J_j ?_) 0)
 refine J_g 14 [] [(6,bv false)] [] zB ?_
 exact xJ rfl
noncomputable def c152:Code:=(Tryz.f152.body).getD .skip
theorem zDm.ok (a1:(List Pack)) (a2:(List Int)) (a3:Int) (q:Wd) (kn:Unit→Option (D×List Ent)) (hk:∀v:Unit,J (q.g Tryz.prog 152 0 54) c152 (atI c152 7) (St.mk' [] []) (some v) kn):
  ∀s27:Int,J (q.g Tryz.prog 152 0 54) c152 (atI c152 52) (St.mk' [(0,sl 8 (Pack.enc false) a1),(1,sl 1 zC a2),(2,iv a3),(7,iv s27)] []) (zDm a1 a2 a3 s27) (Fl.go (fun r:Bool=>some (bv r,[])) kn):=by
 refine zAC (fun g ih s27=>?_)
 unfold zCP
 refine J_d 208 [] [11] [(11,bv (decide (s27< (a2.length:Int))))] [] [] zB ?_
 refine zG 11 (fun h28=>?_) (fun h28=>?_)
 ·refine zA (fun x29 h30=>?_)
  refine zA (fun x31 h32=>?_)
  refine zA (fun x33 h34=>?_)
  refine wU (atI c152 841) (fun v49:Bool=>St.mk' [(0,sl 8 (Pack.enc false) a1),(1,sl 1 zC a2),(2,iv a3),(7,iv s27),(53,bv v49)] []) (fun v49=>?_) (fun jv49=>?_)
  ·refine zG 53 (fun h50=>?_) (fun h50=>?_)
   ·refine J_g 3364 [] [(6,bv false)] [] zB ?_
    exact xJ rfl
   ·refine J_d 211 [] [7,53] [(7,iv (w64 (s27+1)))] [] [] zB ?_
    exact J_q (J_b (ih (w64 (s27+1)))) rfl
  ·refine uN (fun h35=>?_) (fun h35=>?_)
   ·refine J_d 840 [] [11,53] [(53,bv true)] [] [] (zF 3 (kD (kk:=.i64) 25 2 1 zC (.tmp 15) (.tmp 16) h30) (zF 5 (kD (kk:=.i64) 24 91 8 (Pack.enc false) (.tmp 14) (.tmp 18) h32) (zF 10 (kD (kk:=.i64) 24 91 8 (Pack.enc false) (.tmp 22) (.tmp 23) h34) (vV 14 [(27,bv (seq x31.Name x33.Name))] [] h35 zB)))) ?_
    exact xA (J_j (jv49 true)) rfl
   ·refine zA (fun x36 h37=>?_)
    refine zA (fun x38 h39=>?_)
    refine zA (fun x40 h41=>?_)
    refine uN (fun h42=>?_) (fun h42=>?_)
    ·refine J_d 840 [] [11,53] [(53,bv true)] [] [] (zF 3 (kD (kk:=.i64) 25 2 1 zC (.tmp 15) (.tmp 16) h30) (zF 5 (kD (kk:=.i64) 24 91 8 (Pack.enc false) (.tmp 14) (.tmp 18) h32) (zF 10 (kD (kk:=.i64) 24 91 8 (Pack.enc false) (.tmp 22) (.tmp 23) h34) (vV 14 [(27,bv (seq x31.Name x33.Name))] [] h35 (zAR 19 14 28 false (kD (kk:=.i64) 25 2 1 zC (.tmp 31) (.tmp 32) h37) (zAR 21 14 28 false (kD (kk:=.i64) 24 91 8 (Pack.enc false) (.tmp 30) (.tmp 34) h39) (zAR 25 14 28 false (vZ [(.tmp 29),(.tmp 37),(.tmp 38)] [24,80,2] (jC.ok a1 x38.Bars a3) h41) (vV 27 [(40,bv x40)] [] h42 zB)))))))) ?_
     exact xA (J_j (jv49 true)) rfl
    ·refine zA (fun x43 h44=>?_)
     refine zA (fun x45 h46=>?_)
     refine zA (fun x47 h48=>?_)
     refine J_d 840 [] [11,53] [(53,bv x47)] [] [] (zF 3 (kD (kk:=.i64) 25 2 1 zC (.tmp 15) (.tmp 16) h30) (zF 5 (kD (kk:=.i64) 24 91 8 (Pack.enc false) (.tmp 14) (.tmp 18) h32) (zF 10 (kD (kk:=.i64) 24 91 8 (Pack.enc false) (.tmp 22) (.tmp 23) h34) (vV 14 [(27,bv (seq x31.Name x33.Name))] [] h35 (zAR 19 14 28 false (kD (kk:=.i64) 25 2 1 zC (.tmp 31) (.tmp 32) h37) (zAR 21 14 28 false (kD (kk:=.i64) 24 91 8 (Pack.enc false) (.tmp 30) (.tmp 34) h39) (zAR 25 14 28 false (vZ [(.tmp 29),(.tmp 37),(.tmp 38)] [24,80,2] (jC.ok a1 x38.Bars a3) h41) (vV 27 [(40,bv x40)] [] h42 (zAR 31 27 41 false (kD (kk:=.i64) 24 91 8 (Pack.enc false) (.tmp 43) (.tmp 44) h44) (zAR 36 27 41 false (kD (kk:=.i64) 25 2 1 zC (.tmp 48) (.tmp 49) h46) (zAR 38 27 41 false (vZ [(.tmp 42),(.tmp 47),(.tmp 51)] [24,80,2] (jC.ok a1 x43.Bars x45) h48) zB))))))))))) ?_
     exact xA (J_j (jv49 x47)) rfl
 ·exact xA (hk ()) rfl
theorem zDC.ok (a1:(List Pack)) (a2:(List Int)) (a3:Int):Ok Tryz.prog 152 [sl 8 (Pack.enc false) a1,sl 1 zC a2,iv a3] [] ((zDC a1 a2 a3).map fun r=>(bv r,[])):=by
 refine zJ c152 Tryz.f152 0 54 (fun q=>?_)
 unfold zDC
 refine J_g 2 [] [(0,sl 8 (Pack.enc false) a1),(1,sl 1 zC a2),(2,iv a3)] [] zB ?_
 refine J_d 12 [] [7] [(7,iv 0)] [] [] zB ?_
 refine jW (K0:=(fun r:Bool=>some (bv r,[]))) (fun _=>rfl) (zDm.ok a1 a2 a3 q _ (fun v51=>J_j ?_) 0)
 refine J_g 14 [] [(6,bv true)] [] zB ?_
 exact xJ rfl
noncomputable def zQg:Code:=(Tryz.f153.body).getD .skip
theorem zCJ.ok (a1:(List Pack)) (a2:(List Int)) (a3:Int) (a4:Int):Ok Tryz.prog 153 [sl 8 (Pack.enc false) a1,sl 1 zC a2,iv a3,iv a4] [] ((zCJ a1 a2 a3 a4).map fun r=>(bv r,[])):=by
 refine zJ zQg Tryz.f153 0 38 (fun q=>?_)
 unfold zCJ
 refine J_d 2 [] [] [] [] [] zB ?_
 refine zA (fun x5 h6=>?_)
 refine zA (fun x7 h8=>?_)
 refine J_d 12 [] [16] [(16,bv (!(x5==x7)))] [] [] (zF 2 (vZ [(.tmp 10),(.tmp 11)] [25,2] (tF.ok a2 a3) h6) (zF 5 (vZ [(.tmp 13),(.tmp 14)] [25,2] (tF.ok a2 a4) h8) zB)) ?_
 refine zG 16 (fun h9=>?_) (fun h9=>?_)
 ·refine zA (fun x10 h11=>?_)
  refine J_g 52 [] [(8,bv x10)] [] (zF 2 (vZ [(.tmp 17),(.tmp 18)] [25,2] (tF.ok a2 a3) h11) zB) ?_
  exact xJ rfl
 ·refine zA (fun x12 h13=>?_)
  refine zA (fun x14 h15=>?_)
  refine zA (fun x16 h17=>?_)
  refine J_g 28 [] [(2,iv a3),(3,iv a4),(9,iv x16)] [] (zF 2 (kD (kk:=.i64) 24 91 8 (Pack.enc false) (.tmp 20) (.tmp 21) h13) (zF 7 (kD (kk:=.i64) 24 91 8 (Pack.enc false) (.tmp 25) (.tmp 26) h15) (zF 10 (vZ [(.tmp 24),(.tmp 29)] [88,88] (yM.ok x12.Version x14.Version) h17) zB))) ?_
  refine J_d 58 [] [32] [(32,bv (x16 !=0))] [] [] zB ?_
  refine zG 32 (fun h18=>?_) (fun h18=>?_)
  ·refine J_g 236 [] [(8,bv (decide (x16>0)))] [] zB ?_
   exact xJ rfl
  ·refine J_g 30 [] [(8,bv (decide (a3<a4)))] [] zB ?_
   exact xJ rfl
noncomputable def zJD:Code:=(Tryz.f113.body).getD .skip
theorem uW.ok (a1:(List Pack)) (a2:(List Term)) (a3:(List Int)) (a4:(List Int)) (a5:(List Int)) (s62:((List Int)×Int)) (q:Wd) (kn:Int→Option (D×List Ent)) (hk:∀v:Int,J (q.g Tryz.prog 113 0 90) zJD (atI zJD 29855) (St.mk' [(0,sl 8 (Pack.enc false) a1),(1,sl 7 Term.enc a2),(2,sl 1 zC a3),(3,sl 1 zC a4),(4,sl 1 zC a5),(11,rr 0 s62.1),(12,iv s62.2),(15,iv v)] [(0,rE 1 zC s62.1)]) (some v) kn):
  ∀s100:Int,J (q.g Tryz.prog 113 0 90) zJD (atI zJD 119416) (St.mk' [(0,sl 8 (Pack.enc false) a1),(1,sl 7 Term.enc a2),(2,sl 1 zC a3),(3,sl 1 zC a4),(4,sl 1 zC a5),(11,rr 0 s62.1),(12,iv s62.2),(15,iv s100)] [(0,rE 1 zC s62.1)]) (uW a1 a2 a3 a4 a5 s62 s100) kn:=by
 refine zAC (fun g ih s100=>?_)
 unfold zBe
 refine wU (atI zJD 477665) (fun v106:Bool=>St.mk' [(0,sl 8 (Pack.enc false) a1),(1,sl 7 Term.enc a2),(2,sl 1 zC a3),(3,sl 1 zC a4),(4,sl 1 zC a5),(11,rr 0 s62.1),(12,iv s62.2),(15,iv s100),(74,bv v106)] [(0,rE 1 zC s62.1)]) (fun v106=>?_) (fun jv106=>?_)
 ·refine zG 74 (fun h107=>?_) (fun h107=>?_)
  ·refine J_d 477666 [] [15,74] [(15,iv (w64 (s100-1)))] [] [] zB ?_
   exact J_q (J_b (ih (w64 (s100-1)))) rfl
  ·exact xA (hk s100) rfl
 ·refine uN (fun h101=>?_) (fun h101=>?_)
  ·refine zA (fun x102 h103=>?_)
   refine zA (fun x104 h105=>?_)
   refine J_d 477664 [] [74] [(74,bv x104)] [] [] (vV 2 [(63,bv (decide (s100>0)))] [] h101 (zAR 9 2 64 true (zB5 (kk:=.i64) 25 2 1 0 zC (.tmp 68) (.tmp 70) h103) (zAR 10 2 64 true (zBU (d:=iv x102) 2 1 0 0 zC (.tmp 71) h103 (by kernel_rfl)) (zAR 11 2 64 true (vZ [(.tmp 65),(.tmp 66),(.tmp 67),(.tmp 72)] [24,25,2,2] (zCJ.ok a1 a5 s62.2 x102) h105) zB)))) ?_
   exact xA (J_j (jv106 x104)) rfl
  ·refine J_d 477664 [] [74] [(74,bv false)] [] [] (vV 2 [(63,bv (decide (s100>0)))] [] h101 zB) ?_
   exact xA (J_j (jv106 false)) rfl
theorem zAa.ok (a1:(List Pack)) (a2:(List Term)) (a3:(List Int)) (a4:(List Int)) (a5:(List Int)) (s62:((List Int)×Int)) (q:Wd) (kn:Bool→Option (D×List Ent)) (hk:∀v:Bool,J (q.g Tryz.prog 113 0 90) zJD (atI zJD 3731) (St.mk' [(0,sl 8 (Pack.enc false) a1),(1,sl 7 Term.enc a2),(2,sl 1 zC a3),(3,sl 1 zC a4),(4,sl 1 zC a5),(11,rr 0 s62.1),(12,iv s62.2),(13,bv v)] [(0,rE 1 zC s62.1)]) (some v) kn):
  ∀s71:(Bool×Int),J (q.g Tryz.prog 113 0 90) zJD (atI zJD 29844) (St.mk' [(0,sl 8 (Pack.enc false) a1),(1,sl 7 Term.enc a2),(2,sl 1 zC a3),(3,sl 1 zC a4),(4,sl 1 zC a5),(11,rr 0 s62.1),(12,iv s62.2),(13,bv s71.1),(14,iv s71.2)] [(0,rE 1 zC s62.1)]) (zAa a1 a2 a3 a4 a5 s62 s71) kn:=by
 refine zAC (fun g ih s71=>?_)
 unfold kL
 refine J_d 119376 [] [26] [(26,bv (decide (s71.2< (a2.length:Int))))] [] [] zB ?_
 refine zG 26 (fun h72=>?_) (fun h72=>?_)
 ·refine wU (aft zJD 238756) (fun v80:Bool=>St.mk' [(0,sl 8 (Pack.enc false) a1),(1,sl 7 Term.enc a2),(2,sl 1 zC a3),(3,sl 1 zC a4),(4,sl 1 zC a5),(11,rr 0 s62.1),(12,iv s62.2),(13,bv v80),(14,iv s71.2)] [(0,rE 1 zC s62.1)]) (fun v80=>?_) (fun jv80=>?_)
  ·refine J_d 119379 [] [14] [(14,iv (w64 (s71.2+1)))] [] [] zB ?_
   exact J_q (J_b (ih (v80,w64 (s71.2+1)))) rfl
  ·refine uN (fun h73=>?_) (fun h73=>?_)
   ·refine J_d 238756 [] [13,26] [(13,bv true)] [] [] (vV 1 [(29,bv s71.1)] [] h73 zB) ?_
    exact xA (J_j (jv80 true)) rfl
   ·refine zA (fun x74 h75=>?_)
    refine zA (fun x76 h77=>?_)
    refine zA (fun x78 h79=>?_)
    refine J_d 238756 [] [13,26] [(13,bv x78)] [] [] (vV 1 [(29,bv s71.1)] [] h73 (zAR 4 1 30 false (kD (kk:=.i64) 24 91 8 (Pack.enc false) (.tmp 31) (.tmp 32) h75) (zAR 8 1 30 false (kD (kk:=.i64) 80 104 7 Term.enc (.tmp 35) (.tmp 36) h77) (zAR 10 1 30 false (vZ [(.tmp 34),(.tmp 38)] [91,104] (kV.ok x74 x76) h79) zB)))) ?_
    exact xA (J_j (jv80 x78)) rfl
 ·exact xA (hk s71.1) rfl
theorem zAe.ok (a1:(List Pack)) (a2:(List Term)) (a3:(List Int)) (a4:(List Int)) (a5:(List Int)) (q:Wd) (kn:(List Int)→Option (D×List Ent)) (hk:∀v:(List Int),J (q.g Tryz.prog 113 0 90) zJD (atI zJD 15) (St.mk' [(11,rr 0 v)] [(0,rE 1 zC v)]) (some v) kn):
  ∀s62:((List Int)×Int),J (q.g Tryz.prog 113 0 90) zJD (atI zJD 116) (St.mk' [(0,sl 8 (Pack.enc false) a1),(1,sl 7 Term.enc a2),(2,sl 1 zC a3),(3,sl 1 zC a4),(4,sl 1 zC a5),(11,rr 0 s62.1),(12,iv s62.2)] [(0,rE 1 zC s62.1)]) (zAe a1 a2 a3 a4 a5 s62) kn:=by
 refine zAC (fun g ih s62=>?_)
 unfold kJ
 refine J_d 464 [] [20] [(20,bv (decide (s62.2< (a1.length:Int))))] [] [] zB ?_
 refine zG 20 (fun h63=>?_) (fun h63=>?_)
 ·refine J_g 1864 [] [(0,sl 8 (Pack.enc false) a1),(1,sl 7 Term.enc a2),(2,sl 1 zC a3),(3,sl 1 zC a4),(4,sl 1 zC a5),(11,rr 0 s62.1),(12,iv s62.2),(13,bv false)] [(0,rE 1 zC s62.1)] zB ?_
  refine J_d 7460 [] [14] [(14,iv 0)] [] [] zB ?_
  refine zFv (zAa.ok a1 a2 a3 a4 a5 s62 q _ (fun v81=>J_j ?_) (false,0))
  refine wU (atI zJD 14925) (fun v91:Bool=>St.mk' [(0,sl 8 (Pack.enc false) a1),(1,sl 7 Term.enc a2),(2,sl 1 zC a3),(3,sl 1 zC a4),(4,sl 1 zC a5),(11,rr 0 s62.1),(12,iv s62.2),(59,bv v91)] [(0,rE 1 zC s62.1)]) (fun v91=>?_) (fun jv91=>?_)
  ·refine zG 59 (fun h92=>?_) (fun h92=>?_)
   ·refine J_d 467 [] [12,59] [(12,iv (w64 (s62.2+1)))] [] [] zB ?_
    exact J_q (J_b (ih (s62.1,w64 (s62.2+1)))) rfl
   ·refine J_d 14926 [] [15,59] [(15,iv (s62.1.length:Int))] [] [] zB ?_
    refine zFv (uW.ok a1 a2 a3 a4 a5 s62 q _ (fun v108=>J_j ?_) (s62.1.length:Int))
    refine zA (fun x109 h110=>?_)
    refine zA (fun x111 h112=>?_)
    refine zA (fun x113 h114=>?_)
    refine zA (fun x115 h116=>?_)
    refine zA (fun x117 h118=>?_)
    refine J_g 29855 [] [(0,sl 8 (Pack.enc false) a1),(1,sl 7 Term.enc a2),(2,sl 1 zC a3),(3,sl 1 zC a4),(4,sl 1 zC a5),(11,rr 5 x117),(12,iv s62.2)] [(5,rE 1 zC x117)] (zF 0 (zBw 25 2 1 1 zC ([]:List Int) [] [] []) (zF 3 (zJb 25 2 1 0 zC (.tmp 78) none (some (.tmp 79)) h110) (zF 4 (zPb (ys:=s62.1) (l:=0) (hi:=v108) 25 25 2 2 1 8 2 1 0 zC (.tmp 77) (.tmp 80) h110 h112) (zF 6 (zBw 25 2 1 3 zC [s62.2] [0] [(.tmp 82)] [iv s62.2]) (zF 7 (zFg 25 25 2 2 1 8 4 2 3 zC (.tmp 81) (.tmp 83) h114) (zF 10 (zJb 25 2 1 0 zC (.tmp 85) (some (.tmp 86)) none h116) (zF 11 (zPb (ys:=s62.1) (l:=v108) (hi:=(s62.1.length:Int)) 25 25 2 2 1 8 5 4 0 zC (.tmp 84) (.tmp 87) h116 h118) zB))))))) ?_
    refine J_d 467 [] [12] [(12,iv (w64 (s62.2+1)))] [] [] zB ?_
    refine uX 5 0 (Nat.le_of_ble_eq_true rfl) (Nat.le_of_ble_eq_true rfl) ?_
    exact J_q (J_b (ih (x117,w64 (s62.2+1)))) rfl
  ·refine uN (fun h82=>?_) (fun h82=>?_)
   ·refine J_d 14924 [] [13,59] [(59,bv true)] [] [] (vV 2 [(42,bv (!v81))] [] h82 zB) ?_
    exact xA (J_j (jv91 true)) rfl
   ·refine zA (fun x83 h84=>?_)
    refine uN (fun h85=>?_) (fun h85=>?_)
    ·refine J_d 14924 [] [13,59] [(59,bv true)] [] [] (vV 2 [(42,bv (!v81))] [] h82 (zAR 5 2 43 false (vZ [(.tmp 44),(.tmp 45)] [25,2] (tF.ok a3 s62.2) h84) (vV 7 [(47,bv x83)] [] h85 zB))) ?_
     exact xA (J_j (jv91 true)) rfl
    ·refine zA (fun x86 h87=>?_)
     refine uN (fun h88=>?_) (fun h88=>?_)
     ·refine J_d 14924 [] [13,59] [(59,bv true)] [] [] (vV 2 [(42,bv (!v81))] [] h82 (zAR 5 2 43 false (vZ [(.tmp 44),(.tmp 45)] [25,2] (tF.ok a3 s62.2) h84) (vV 7 [(47,bv x83)] [] h85 (zAR 10 7 48 false (vZ [(.tmp 49),(.tmp 50)] [25,2] (tF.ok a4 s62.2) h87) (vV 12 [(52,bv x86)] [] h88 zB))))) ?_
      exact xA (J_j (jv91 true)) rfl
     ·refine zA (fun x89 h90=>?_)
      refine J_d 14924 [] [13,59] [(59,bv (!x89))] [] [] (vV 2 [(42,bv (!v81))] [] h82 (zAR 5 2 43 false (vZ [(.tmp 44),(.tmp 45)] [25,2] (tF.ok a3 s62.2) h84) (vV 7 [(47,bv x83)] [] h85 (zAR 10 7 48 false (vZ [(.tmp 49),(.tmp 50)] [25,2] (tF.ok a4 s62.2) h87) (vV 12 [(52,bv x86)] [] h88 (zAR 16 12 53 false (vZ [(.tmp 54),(.tmp 55),(.tmp 56)] [24,25,2] (zDC.ok a1 a3 s62.2) h90) zB)))))) ?_
      exact xA (J_j (jv91 (!x89))) rfl
 ·exact xA (hk s62.1) rfl
theorem kF.ok (a1:(List Pack)) (a2:(List Term)) (a3:(List Int)) (a4:(List Int)) (a5:(List Int)):Ok Tryz.prog 113 [sl 8 (Pack.enc false) a1,sl 7 Term.enc a2,sl 1 zC a3,sl 1 zC a4,sl 1 zC a5] [] ((kF a1 a2 a3 a4 a5).map fun r=>(so 1 zC r,[])):=by
 refine zJ zJD Tryz.f113 0 90 (fun q=>?_)
 unfold kF
 refine J_g 2 [] [(0,sl 8 (Pack.enc false) a1),(1,sl 7 Term.enc a2),(2,sl 1 zC a3),(3,sl 1 zC a4),(4,sl 1 zC a5)] [] zB ?_
 refine J_g 6 [] [(0,sl 8 (Pack.enc false) a1),(1,sl 7 Term.enc a2),(2,sl 1 zC a3),(3,sl 1 zC a4),(4,sl 1 zC a5),(11,rr 0 ([]:List Int))] [(0,rE 1 zC ([]:List Int))] (zF 0 (zBw 25 2 1 0 zC ([]:List Int) [] [] []) zB) ?_
 refine J_d 28 [] [12] [(12,iv 0)] [] [] zB ?_
 refine zFv (zAe.ok a1 a2 a3 a4 a5 q _ (fun v119=>J_j ?_) (([]:List Int),0))
 refine J_g 30 [] [(10,rr 0 v119)] [(0,rE 1 zC v119)] zB ?_
 exact zDZ (ds:=[rr 0 v119]) (ds':=[so 1 zC v119]) (.cons (.cell (.move (.head _) (List.length_map _) (by decide) (.nil))) (.nil) (by decide)) rfl
noncomputable def c59:Code:=(Tryz.f59.body).getD .skip
theorem zCO.ok (a1:(List Pack)) (a2:(List Term)) (a3:(List Int)) (a4:Int) (q:Wd) (kn:Unit→Option (D×List Ent)):
  ∀s53:((List xH)×(List Int)×Int),J (q.g Tryz.prog 59 0 79) c59 (atI c59 124) (St.mk' [(0,sl 8 (Pack.enc false) a1),(1,sl 7 Term.enc a2),(2,sl 1 zC a3),(3,iv a4),(8,pp 0),(9,rr 1 s53.1),(10,sl 1 zC s53.2.1),(11,iv s53.2.2)] [(0,.box [iv 0,iv 0,nv]),(1,rE 2 (xH.enc false) s53.1)]) (zCO a1 a2 a3 a4 s53) (Fl.go (fun r:SolveResult=>some (.ag [iv r.Code,iv r.Choices,so 1 zC r.Set],[])) kn):=by
 refine zAC (fun g ih s53=>?_)
 unfold zCk
 refine zA (fun x54 h55=>?_)
 refine J_d 496 [] [12] [(12,rr 2 x54)] [2] [(2,rE 1 zC x54)] (zF 1 (vJ («as»:=[rr 1 s53.1]) [(.tmp 18)] [128] true [(1,rE 2 (xH.enc false) s53.1)] [] (.cons (zDY (.head _) (xH.ro false) rfl) (.nil)) (zBM.ok s53.1) h55 (.own 2) (hbor:=fun _=>⟨fhN,(zC7 (zEp (fun _=>(flatK yV zDq)) _))⟩)) zB) ?_
 refine zA (fun x56 h57=>?_)
 refine J_g 994 [] [(0,sl 8 (Pack.enc false) a1),(1,sl 7 Term.enc a2),(2,sl 1 zC a3),(3,iv a4),(8,pp 0),(9,rr 1 s53.1),(10,sl 1 zC s53.2.1),(11,iv s53.2.2),(12,rr 2 x54),(13,sl 7 Term.enc x56)] [(0,.box [iv 0,iv 0,nv]),(1,rE 2 (xH.enc false) s53.1),(2,rE 1 zC x54)] (zF 3 (zE6 [(2,rE 1 zC x54)] [] (vJ («as»:=[sl 8 (Pack.enc false) a1,sl 7 Term.enc a2,rr 2 x54]) [(.tmp 20),(.tmp 21),(.tmp 22)] [24,80,25] false [(2,rE 1 zC x54)] [2] (.cons (.same rfl) (.cons (.same rfl) (.cons (.rf rfl) (.nil)))) (zBV.ok a1 a2 x54) h57 (.same rfl rfl))) zB) ?_
 refine J_d 3980 [] [26] [(26,bv ((x56.length:Int)==0))] [] [] zB ?_
 refine zG 26 (fun h58=>?_) (fun h58=>?_)
 ·refine zA (fun x59 h60=>?_)
  refine J_g 15924 [] [(8,pp 0)] [(0,.box [iv 0,iv s53.2.2,rr 3 x59]),(3,rE 1 zC x59)] (zF 2 (vJ («as»:=[rr 2 x54]) [(.tmp 28)] [25] true [(2,rE 1 zC x54)] [] (.cons (zDY (.head _) (fun _=>rfl) rfl) (.nil)) (zBR.ok x54) h60 (.own 3) (hbor:=fun _=>⟨fhN,(zC7 (zEp (fun _=>(flatK yV zDq)) _))⟩)) zB) ?_
  exact zDZ (ds:=[.ag [iv 0,iv s53.2.2,rr 3 x59]]) (ds':=[.ag [iv 0,iv s53.2.2,so 1 zC x59]]) (.cons (.ag (.keep rfl (.keep rfl (.move (.tail _ (.head _)) (List.length_map _) (by decide) (.nil))))) (.nil) (by decide)) rfl
 ·refine zA (fun x61 h62=>?_)
  refine J_g 3982 [] [(0,sl 8 (Pack.enc false) a1),(1,sl 7 Term.enc a2),(2,sl 1 zC a3),(3,iv a4),(8,pp 0),(9,rr 1 s53.1),(10,sl 1 zC s53.2.1),(11,iv s53.2.2),(14,rr 3 x61)] [(0,.box [iv 0,iv 0,nv]),(1,rE 2 (xH.enc false) s53.1),(3,rE 1 zC x61)] (zF 5 (vJ («as»:=[sl 8 (Pack.enc false) a1,sl 7 Term.enc x56,rr 2 x54,sl 1 zC s53.2.1,sl 1 zC a3]) [(.tmp 31),(.tmp 32),(.tmp 33),(.tmp 34),(.tmp 35)] [24,80,25,25,25] true [(2,rE 1 zC x54)] [] (.cons (.same rfl) (.cons (.same rfl) (.cons (zDY (.head _) (fun _=>rfl) rfl) (.cons (.same rfl) (.cons (.same rfl) (.nil)))))) (kF.ok a1 x56 x54 s53.2.1 a3) h62 (.own 3) (hbor:=fun _=>⟨fhN,(zC7 (zEp (fun _=>(flatK yV zDq)) _))⟩)) zB) ?_
  refine J_d 15932 [] [39] [(39,bv (decide ((x61.length:Int)>0)))] [] [] zB ?_
  refine zG 39 (fun h63=>?_) (fun h63=>?_)
  ·refine J_d 127464 [] [39,42] [(42,bv (s53.2.2==a4))] [] [] zB ?_
   refine zG 42 (fun h64=>?_) (fun h64=>?_)
   ·refine J_g 509860 [] [(8,pp 0)] [(0,.box [iv 7,iv s53.2.2,nv])] zB ?_
    exact zDZ (ds:=[.ag [iv 7,iv s53.2.2,nv]]) (ds':=[.ag [iv 7,iv s53.2.2,so 1 zC ([]:List Int)]]) (.cons (.ag (.keep rfl (.keep rfl (.nilsl true 1 (.nil))))) (.nil) (by decide)) rfl
   ·refine J_d 127466 [] [11,42] [(11,iv (w64 (s53.2.2+1)))] [] [] zB ?_
    refine zA (fun x65 h66=>?_)
    refine zA (fun x67 h68=>?_)
    refine J_d 254934 [] [9,14] [(9,rr 5 x67)] [1,3,5] [(5,rE 2 (xH.enc false) x67)] (zF 2 (zB5 (kk:=.i64) 25 2 1 3 zC (.tmp 48) (.const (.int .i64 0)) h66) (zF 3 (zBU (d:=iv x65) 2 1 3 0 zC (.tmp 49) h66 (by kernel_rfl)) (zF 6 (zBw 128 133 2 4 (xH.enc false) [({Pack:=x65,Denied:=s53.2.1}:xH)] [0] [(.tmp 52)] [.ag [iv x65,sl 1 zC s53.2.1]]) (zF 7 (zFg 128 128 133 133 2 32 5 1 4 (xH.enc false) (.tmp 47) (.tmp 53) h68) zB)))) ?_
    refine uX 5 1 (Nat.le_of_ble_eq_true rfl) (Nat.le_of_ble_eq_true rfl) ?_
    exact J_q (J_b (ih (x67,s53.2.1,w64 (s53.2.2+1)))) rfl
  ·refine J_d 31868 [] [10,14,39,57] [(57,bv ((s53.1.length:Int)==0))] [3] [] zB ?_
   refine zG 57 (fun h69=>?_) (fun h69=>?_)
   ·refine J_g 127476 [] [(8,pp 0)] [(0,.box [iv 4,iv s53.2.2,nv])] zB ?_
    exact zDZ (ds:=[.ag [iv 4,iv s53.2.2,nv]]) (ds':=[.ag [iv 4,iv s53.2.2,so 1 zC ([]:List Int)]]) (.cons (.ag (.keep rfl (.keep rfl (.nilsl true 1 (.nil))))) (.nil) (by decide)) rfl
   ·refine zA (fun x70 h71=>?_)
    refine J_d 31870 [(6,2)] [15,57] [(15,pp 2)] [2] [(2,.box (xH.enc false x70))] (zF 4 (zB5 (kk:=.i64) 128 133 2 1 (xH.enc false) (.tmp 60) (.tmp 63) h71) (zF 5 (zBU (d:=.ag (xH.enc false x70)) 133 2 1 0 (xH.enc false) (.tmp 64) h71 (by kernel_rfl)) zB)) ?_
    refine zA (fun x72 h73=>?_)
    refine J_d 63742 [] [9] [(9,rr 3 x72)] [1,3] [(3,rE 2 (xH.enc false) x72)] (zF 4 (zLP 128 133 2 1 3 (xH.enc false) (.tmp 66) none (some (.tmp 69)) h73) zB) ?_
    refine zA (fun x74 h75=>?_)
    refine zA (fun x76 h77=>?_)
    refine J_d 63743 [] [10,15] [(10,rr 7 x76)] [2,7] [(7,rE 1 zC x76)] (zF 0 (zBw 25 2 1 4 zC ([]:List Int) [] [] []) (zF 3 (zJC 25 25 2 2 1 8 5 4 zC (.tmp 71) (.tmp 73) h75) (zF 6 (zBw 25 2 1 6 zC [x70.Pack] [0] [(.tmp 76)] [iv x70.Pack]) (zF 7 (zFg 25 25 2 2 1 8 7 5 6 zC (.tmp 74) (.tmp 77) h77) zB)))) ?_
    refine zBv [(0,sl 8 (Pack.enc false) a1),(1,sl 7 Term.enc a2),(2,sl 1 zC a3),(3,iv a4),(8,pp 0),(9,rr 3 x72),(10,rr 7 x76),(11,iv s53.2.2)] [(7,rE 1 zC x76),(0,.box [iv 0,iv 0,nv]),(3,rE 2 (xH.enc false) x72)] (by kernel_rfl) ?_
    refine zGu 7 (z:=1) (xs:=x76.map zC) (tm2:=[(0,sl 8 (Pack.enc false) a1),(1,sl 7 Term.enc a2),(2,sl 1 zC a3),(3,iv a4),(8,pp 0),(9,rr 3 x72),(10,sl 1 zC x76),(11,iv s53.2.2)]) (hp2:=[(0,.box [iv 0,iv 0,nv]),(3,rE 2 (xH.enc false) x72)]) (.cons (.keep rfl) (.cons (.keep rfl) (.cons (.keep rfl) (.cons (.keep rfl) (.cons (.keep rfl) (.cons (.keep rfl) (.cons (.rf (by simp) (zEw (enc:=zC) (enc':=zC) (fun _=>rfl) x76 rfl rfl)) (.cons (.keep rfl) (.nil))))))))) (.keep rfl (.keep rfl (.nil))) rfl ?_
    refine uX 3 1 (Nat.le_of_ble_eq_true rfl) (Nat.le_of_ble_eq_true rfl) ?_
    exact J_q (J_b (ih (x72,x76,s53.2.2))) rfl
theorem kS.ok (a1:(List Pack)) (a2:(List Term)) (a3:(List Int)) (a4:Int):Ok Tryz.prog 59 [sl 8 (Pack.enc false) a1,sl 7 Term.enc a2,sl 1 zC a3,iv a4] [] ((kS a1 a2 a3 a4).map fun r=>(.ag [iv r.Code,iv r.Choices,so 1 zC r.Set],[])):=by
 refine zJ c59 Tryz.f59 0 79 (fun q=>?_)
 unfold kS
 refine J_g 2 [(0,0)] [(0,sl 8 (Pack.enc false) a1),(1,sl 7 Term.enc a2),(2,sl 1 zC a3),(3,iv a4),(8,pp 0)] [(0,.box [iv 0,iv 0,nv])] zB ?_
 refine J_g 6 [] [(0,sl 8 (Pack.enc false) a1),(1,sl 7 Term.enc a2),(2,sl 1 zC a3),(3,iv a4),(8,pp 0),(9,rr 1 ([]:List xH))] [(0,.box [iv 0,iv 0,nv]),(1,rE 2 (xH.enc false) ([]:List xH))] (zF 0 (zBw 128 133 2 1 (xH.enc false) ([]:List xH) [] [] []) zB) ?_
 refine J_g 14 [] [(0,sl 8 (Pack.enc false) a1),(1,sl 7 Term.enc a2),(2,sl 1 zC a3),(3,iv a4),(8,pp 0),(9,rr 1 ([]:List xH)),(10,rr 2 ([]:List Int))] [(0,.box [iv 0,iv 0,nv]),(1,rE 2 (xH.enc false) ([]:List xH)),(2,rE 1 zC ([]:List Int))] (zF 0 (zBw 25 2 1 2 zC ([]:List Int) [] [] []) zB) ?_
 refine J_d 30 [] [11] [(11,iv 0)] [] [] zB ?_
 refine zBv [(0,sl 8 (Pack.enc false) a1),(1,sl 7 Term.enc a2),(2,sl 1 zC a3),(3,iv a4),(8,pp 0),(9,rr 1 ([]:List xH)),(10,rr 2 ([]:List Int)),(11,iv 0)] [(2,rE 1 zC ([]:List Int)),(0,.box [iv 0,iv 0,nv]),(1,rE 2 (xH.enc false) ([]:List xH))] (by kernel_rfl) ?_
 refine zGu 2 (z:=1) (xs:=([]:List Int).map zC) (tm2:=[(0,sl 8 (Pack.enc false) a1),(1,sl 7 Term.enc a2),(2,sl 1 zC a3),(3,iv a4),(8,pp 0),(9,rr 1 ([]:List xH)),(10,sl 1 zC ([]:List Int)),(11,iv 0)]) (hp2:=[(0,.box [iv 0,iv 0,nv]),(1,rE 2 (xH.enc false) ([]:List xH))]) (.cons (.keep rfl) (.cons (.keep rfl) (.cons (.keep rfl) (.cons (.keep rfl) (.cons (.keep rfl) (.cons (.keep rfl) (.cons (.rf (by simp) (zEw (enc:=zC) (enc':=zC) (fun _=>rfl) ([]:List Int) rfl rfl)) (.cons (.keep rfl) (.nil))))))))) (.keep rfl (.keep rfl (.nil))) rfl ?_
 exact jW (K0:=(fun r:SolveResult=>some (.ag [iv r.Code,iv r.Choices,so 1 zC r.Set],[]))) (fun _=>rfl) (zCO.ok a1 a2 a3 a4 q _ (([]:List xH),([]:List Int),0))
noncomputable def c82:Code:=(Tryz.f82.body).getD .skip
theorem zDF.ok (a1:Int) (a2:Int):Ok Tryz.prog 82 [iv a1,iv a2] [] ((zDF a1 a2).map fun r=>(iv r,[])):=by
 refine zJ c82 Tryz.f82 0 10 (fun q=>?_)
 unfold zDF
 refine J_g 2 [] [(0,iv a1),(1,iv a2)] [] zB ?_
 refine J_d 12 [] [7] [(7,bv (decide (a1>a2)))] [] [] zB ?_
 refine zG 7 (fun h3=>?_) (fun h3=>?_)
 ·refine J_g 52 [] [(4,iv a1)] [] zB ?_
  exact xJ rfl
 ·refine J_g 14 [] [(4,iv a2)] [] zB ?_
  exact xJ rfl
noncomputable def c83:Code:=(Tryz.f83.body).getD .skip
theorem zCc.ok (a1:(List Pack)) (a2:(List Int)) (s82:((List zO)×Int)) (x86:Pack) (q:Wd) (kn:(List zO)→Option (D×List Ent)) (hk:∀v:(List zO),J (q.g Tryz.prog 83 0 103) c83 (aft c83 932) (St.mk' [(0,sl 8 (Pack.enc false) a1),(1,sl 1 zC a2),(5,rr 0 v),(6,iv s82.2)] [(0,rE 3 zO.enc v)]) (some v) kn):
  ∀s147:((List zO)×Int),J (q.g Tryz.prog 83 0 103) c83 (atI c83 59708) (St.mk' [(0,sl 8 (Pack.enc false) a1),(1,sl 1 zC a2),(5,rr 0 s147.1),(6,iv s82.2),(7,pp 1),(10,iv s147.2)] [(0,rE 3 zO.enc s147.1),(1,.box (Pack.enc false x86))]) (zCc a1 a2 s82 x86 s147) kn:=by
 refine zAC (fun g ih s147=>?_)
 unfold zBJ
 refine J_d 238832 [] [78] [(78,bv (decide (s147.2< (x86.Bars.length:Int))))] [] [] zB ?_
 refine zG 78 (fun h148=>?_) (fun h148=>?_)
 ·refine zA (fun x149 h150=>?_)
  refine zA (fun x151 h152=>?_)
  refine zA (fun x153 h154=>?_)
  refine J_d 955336 [] [78,92] [(92,bv x153)] [] [] (zF 5 (kD (kk:=.i64) 80 104 7 Term.enc (.tmp 84) (.tmp 85) h150) (zF 9 (kD (kk:=.i64) 25 2 1 zC (.tmp 88) (.tmp 89) h152) (zF 11 (vZ [(.tmp 81),(.tmp 82),(.tmp 87),(.tmp 91)] [24,25,104,2] (zAW.ok a1 a2 x149 x151) h154) zB))) ?_
  refine wU (aft c83 477668) (fun v160:(List zO)=>St.mk' [(0,sl 8 (Pack.enc false) a1),(1,sl 1 zC a2),(5,rr 3 v160),(6,iv s82.2),(7,pp 1),(10,iv s147.2)] [(1,.box (Pack.enc false x86)),(3,rE 3 zO.enc v160)]) (fun v160=>?_) (fun jv160=>?_)
  ·refine J_d 238835 [] [10] [(10,iv (w64 (s147.2+1)))] [] [] zB ?_
   refine uX 3 0 (Nat.le_of_ble_eq_true rfl) (Nat.le_of_ble_eq_true rfl) ?_
   exact J_q (J_b (ih (v160,w64 (s147.2+1)))) rfl
  ·refine zG 92 (fun h155=>?_) (fun h155=>?_)
   ·refine zA (fun x156 h157=>?_)
    refine zA (fun x158 h159=>?_)
    refine J_d 1910674 [] [5,92] [(5,rr 3 x158)] [0,3] [(3,rE 3 zO.enc x158)] (zF 3 (kD (kk:=.i64) 25 2 1 zC (.tmp 94) (.tmp 95) h157) (zF 7 (zBw 108 125 3 2 zO.enc [({Kind:=3,Pack:=x156,At:=s147.2}:zO)] [0] [(.tmp 99)] [.ag [iv 3,iv x156,iv s147.2]]) (zF 8 (zFg 108 108 125 125 3 24 3 0 2 zO.enc (.tmp 93) (.tmp 100) h159) zB))) ?_
    exact xA (J_j (jv160 x158)) rfl
   ·refine uX 0 3 (Nat.le_of_ble_eq_true rfl) (Nat.le_of_ble_eq_true rfl) ?_
    exact xA (J_j (jv160 s147.1)) rfl
 ·exact xA (hk s147.1) rfl
theorem zCv.ok (a1:(List Pack)) (a2:(List Int)) (s82:((List zO)×Int)) (x86:Pack) (q:Wd) (kn:(List zO)→Option (D×List Ent)) (hk:∀v:(List zO),J (q.g Tryz.prog 83 0 103) c83 (atI c83 7463) (St.mk' [(0,sl 8 (Pack.enc false) a1),(1,sl 1 zC a2),(5,rr 0 v),(6,iv s82.2),(7,pp 1)] [(0,rE 3 zO.enc v),(1,.box (Pack.enc false x86))]) (some v) kn):
  ∀s121:((List zO)×Int),J (q.g Tryz.prog 83 0 103) c83 (atI c83 59700) (St.mk' [(0,sl 8 (Pack.enc false) a1),(1,sl 1 zC a2),(5,rr 0 s121.1),(6,iv s82.2),(7,pp 1),(9,iv s121.2)] [(0,rE 3 zO.enc s121.1),(1,.box (Pack.enc false x86))]) (zCv a1 a2 s82 x86 s121) kn:=by
 refine zAC (fun g ih s121=>?_)
 unfold zB8
 refine J_d 238800 [] [53] [(53,bv (decide (s121.2< (x86.Needs.length:Int))))] [] [] zB ?_
 refine zG 53 (fun h122=>?_) (fun h122=>?_)
 ·refine zA (fun x123 h124=>?_)
  refine zA (fun x125 h126=>?_)
  refine J_d 955208 [] [53,64] [(64,bv (!x125))] [] [] (zF 5 (kD (kk:=.i64) 89 80 1 (eSl false 7 Term.enc) (.tmp 59) (.tmp 60) h124) (zF 7 (vZ [(.tmp 56),(.tmp 57),(.tmp 62)] [24,25,80] (zB7.ok a1 a2 x123) h126) zB)) ?_
  refine wU (aft c83 477604) (fun v132:(List zO)=>St.mk' [(0,sl 8 (Pack.enc false) a1),(1,sl 1 zC a2),(5,rr 3 v132),(6,iv s82.2),(7,pp 1),(9,iv s121.2)] [(1,.box (Pack.enc false x86)),(3,rE 3 zO.enc v132)]) (fun v132=>?_) (fun jv132=>?_)
  ·refine J_d 238803 [] [9] [(9,iv (w64 (s121.2+1)))] [] [] zB ?_
   refine uX 3 0 (Nat.le_of_ble_eq_true rfl) (Nat.le_of_ble_eq_true rfl) ?_
   exact J_q (J_b (ih (v132,w64 (s121.2+1)))) rfl
  ·refine zG 64 (fun h127=>?_) (fun h127=>?_)
   ·refine zA (fun x128 h129=>?_)
    refine zA (fun x130 h131=>?_)
    refine J_d 1910418 [] [5,64] [(5,rr 3 x130)] [0,3] [(3,rE 3 zO.enc x130)] (zF 3 (kD (kk:=.i64) 25 2 1 zC (.tmp 66) (.tmp 67) h129) (zF 7 (zBw 108 125 3 2 zO.enc [({Kind:=2,Pack:=x128,At:=s121.2}:zO)] [0] [(.tmp 71)] [.ag [iv 2,iv x128,iv s121.2]]) (zF 8 (zFg 108 108 125 125 3 24 3 0 2 zO.enc (.tmp 65) (.tmp 72) h131) zB))) ?_
    exact xA (J_j (jv132 x130)) rfl
   ·refine uX 0 3 (Nat.le_of_ble_eq_true rfl) (Nat.le_of_ble_eq_true rfl) ?_
    exact xA (J_j (jv132 s121.1)) rfl
 ·exact xA (hk s121.1) rfl
theorem zAK.ok (a1:(List Pack)) (a2:(List Int)) (s82:((List zO)×Int)) (x86:Pack) (q:Wd) (kn:(List zO)→Option (D×List Ent)) (hk:∀v:(List zO),J (q.g Tryz.prog 83 0 103) c83 (atI c83 3731) (St.mk' [(0,sl 8 (Pack.enc false) a1),(1,sl 1 zC a2),(5,rr 0 v),(6,iv s82.2),(7,pp 1)] [(0,rE 3 zO.enc v),(1,.box (Pack.enc false x86))]) (some v) kn):
  ∀s98:Int,J (q.g Tryz.prog 83 0 103) c83 (atI c83 29844) (St.mk' [(0,sl 8 (Pack.enc false) a1),(1,sl 1 zC a2),(5,rr 0 s82.1),(6,iv s82.2),(7,pp 1),(8,iv s98)] [(0,rE 3 zO.enc s82.1),(1,.box (Pack.enc false x86))]) (zAK a1 a2 s82 x86 s98) kn:=by
 refine zAC (fun g ih s98=>?_)
 unfold zBz
 refine J_d 119376 [] [27] [(27,bv (decide (s98<s82.2)))] [] [] zB ?_
 refine zG 27 (fun h99=>?_) (fun h99=>?_)
 ·refine zA (fun x100 h101=>?_)
  refine zA (fun x102 h103=>?_)
  refine J_d 477512 [] [27,40] [(40,bv (seq x102.Name x86.Name))] [] [] (zF 3 (kD (kk:=.i64) 25 2 1 zC (.tmp 31) (.tmp 32) h101) (zF 5 (kD (kk:=.i64) 24 91 8 (Pack.enc false) (.tmp 30) (.tmp 34) h103) zB)) ?_
  refine zG 40 (fun h104=>?_) (fun h104=>?_)
  ·refine zA (fun x105 h106=>?_)
   refine zA (fun x107 h108=>?_)
   refine J_d 1910052 [] [5,8,40] [(5,rr 3 x107)] [0,3] [(3,rE 3 zO.enc x107)] (zF 3 (kD (kk:=.i64) 25 2 1 zC (.tmp 42) (.tmp 43) h106) (zF 6 (zBw 108 125 3 2 zO.enc [({Kind:=1,Pack:=x105,At:=0}:zO)] [0] [(.tmp 46)] [.ag [iv 1,iv x105,iv 0]]) (zF 7 (zFg 108 108 125 125 3 24 3 0 2 zO.enc (.tmp 41) (.tmp 47) h108) zB))) ?_
   refine uX 3 0 (Nat.le_of_ble_eq_true rfl) (Nat.le_of_ble_eq_true rfl) ?_
   exact xA (hk x107) rfl
  ·refine J_d 119379 [] [8,40] [(8,iv (w64 (s98+1)))] [] [] zB ?_
   exact J_q (J_b (ih (w64 (s98+1)))) rfl
 ·exact xA (hk s82.1) rfl
theorem zCa.ok (a1:(List Pack)) (a2:(List Int)) (q:Wd) (kn:(List zO)→Option (D×List Ent)) (hk:∀v:(List zO),J (q.g Tryz.prog 83 0 103) c83 (atI c83 15) (St.mk' [(5,rr 0 v)] [(0,rE 3 zO.enc v)]) (some v) kn):
  ∀s82:((List zO)×Int),J (q.g Tryz.prog 83 0 103) c83 (atI c83 116) (St.mk' [(0,sl 8 (Pack.enc false) a1),(1,sl 1 zC a2),(5,rr 0 s82.1),(6,iv s82.2)] [(0,rE 3 zO.enc s82.1)]) (zCa a1 a2 s82) kn:=by
 refine zAC (fun g ih s82=>?_)
 unfold zB9
 refine J_d 464 [] [15] [(15,bv (decide (s82.2< (a2.length:Int))))] [] [] zB ?_
 refine zG 15 (fun h83=>?_) (fun h83=>?_)
 ·refine zA (fun x84 h85=>?_)
  refine zA (fun x86 h87=>?_)
  refine J_g 1864 [(7,1)] [(0,sl 8 (Pack.enc false) a1),(1,sl 1 zC a2),(5,rr 0 s82.1),(6,iv s82.2),(7,pp 1)] [(0,rE 3 zO.enc s82.1),(1,.box (Pack.enc false x86))] (zF 3 (kD (kk:=.i64) 25 2 1 zC (.tmp 19) (.tmp 20) h85) (zF 5 (kD (kk:=.i64) 24 91 8 (Pack.enc false) (.tmp 18) (.tmp 22) h87) zB)) ?_
  refine J_d 7460 [] [8] [(8,iv 0)] [] [] zB ?_
  refine zFv (zAK.ok a1 a2 s82 x86 q _ (fun v109=>J_j ?_) 0)
  refine J_d 14924 [] [9] [(9,iv 0)] [] [] zB ?_
  refine zFv (zCv.ok a1 a2 s82 x86 q _ (fun v133=>J_j ?_) (v109,0))
  refine J_d 14926 [] [10] [(10,iv 0)] [] [] zB ?_
  refine zFv (zCc.ok a1 a2 s82 x86 q _ (fun v161=>J_j ?_) (v133,0))
  refine J_d 467 [] [6] [(6,iv (w64 (s82.2+1)))] [] [] zB ?_
  exact J_q (J_b (ih (v161,w64 (s82.2+1)))) rfl
 ·exact xA (hk s82.1) rfl
theorem jJ.ok (a1:(List Pack)) (a2:(List Int)):Ok Tryz.prog 83 [sl 8 (Pack.enc false) a1,sl 1 zC a2] [] ((jJ a1 a2).map fun r=>(so 3 zO.enc r,[])):=by
 refine zJ c83 Tryz.f83 0 103 (fun q=>?_)
 unfold jJ
 refine J_g 2 [] [(0,sl 8 (Pack.enc false) a1),(1,sl 1 zC a2)] [] zB ?_
 refine J_g 6 [] [(0,sl 8 (Pack.enc false) a1),(1,sl 1 zC a2),(5,rr 0 ([]:List zO))] [(0,rE 3 zO.enc ([]:List zO))] (zF 0 (zBw 108 125 3 0 zO.enc ([]:List zO) [] [] []) zB) ?_
 refine J_d 28 [] [6] [(6,iv 0)] [] [] zB ?_
 refine zFv (zCa.ok a1 a2 q _ (fun v162=>J_j ?_) (([]:List zO),0))
 refine J_g 30 [] [(4,rr 0 v162)] [(0,rE 3 zO.enc v162)] zB ?_
 exact zDZ (ds:=[rr 0 v162]) (ds':=[so 3 zO.enc v162]) (.cons (.cell (.move (.head _) (List.length_map _) (by decide) (.nil))) (.nil) (by decide)) rfl
noncomputable def c56:Code:=(Tryz.f56.body).getD .skip
theorem kW.ok (a2:(List Pack)) (x19:(Bool×zD)) (s53:(List Int)) (x59:zO) (q:Wd) (kn:(List Int)→Option (D×List Ent)) (hk:∀v:(List Int),J (q.g Tryz.prog 56 2 73) c56 (atI c56 15639) (St.mk' [(0,pp 0),(1,rr 1 a2),(8,rr 5 v)] [(0,.box (zD.enc false x19.2)),(1,rE 8 (Pack.enc false) a2),(5,rE 1 zC v)]) (some v) kn):
  ∀s70:((List Int)×Int),J (q.g Tryz.prog 56 2 73) c56 (atI c56 125108) (St.mk' [(0,pp 0),(1,rr 1 a2),(5,rr 2 s53),(7,pp 4),(8,rr 5 s70.1),(9,iv s70.2)] [(0,.box (zD.enc false x19.2)),(1,rE 8 (Pack.enc false) a2),(2,rE 1 zC s53),(4,.box (zO.enc x59)),(5,rE 1 zC s70.1)]) (kW a2 x19 s53 x59 s70) kn:=by
 refine zAC (fun g ih s70=>?_)
 unfold zBO
 refine J_d 500432 [] [44] [(44,bv (decide (s70.2< (s53.length:Int))))] [] [] zB ?_
 refine zG 44 (fun h71=>?_) (fun h71=>?_)
 ·refine zA (fun x72 h73=>?_)
  refine J_d 2001736 [] [44,53] [(53,bv (x72 !=x59.Pack))] [] [] (zF 2 (zB5 (kk:=.i64) 25 2 1 2 zC (.tmp 47) (.tmp 48) h73) (zF 3 (zBU (d:=iv x72) 2 1 2 0 zC (.tmp 49) h73 (by kernel_rfl)) zB)) ?_
  refine wU (aft c56 1000868) (fun v79:(List Int)=>St.mk' [(0,pp 0),(1,rr 1 a2),(5,rr 2 s53),(7,pp 4),(8,rr 7 v79),(9,iv s70.2)] [(0,.box (zD.enc false x19.2)),(1,rE 8 (Pack.enc false) a2),(2,rE 1 zC s53),(4,.box (zO.enc x59)),(7,rE 1 zC v79)]) (fun v79=>?_) (fun jv79=>?_)
  ·refine J_d 500435 [] [9] [(9,iv (w64 (s70.2+1)))] [] [] zB ?_
   refine uX 7 5 (Nat.le_of_ble_eq_true rfl) (Nat.le_of_ble_eq_true rfl) ?_
   exact J_q (J_b (ih (v79,w64 (s70.2+1)))) rfl
  ·refine zG 53 (fun h74=>?_) (fun h74=>?_)
   ·refine zA (fun x75 h76=>?_)
    refine zA (fun x77 h78=>?_)
    refine J_d 4003474 [] [8,53] [(8,rr 7 x77)] [5,7] [(7,rE 1 zC x77)] (zF 3 (zB5 (kk:=.i64) 25 2 1 2 zC (.tmp 55) (.tmp 56) h76) (zF 4 (zBU (d:=iv x75) 2 1 2 0 zC (.tmp 57) h76 (by kernel_rfl)) (zF 5 (zBw 25 2 1 6 zC [x75] [0] [(.tmp 58)] [iv x75]) (zF 6 (zFg 25 25 2 2 1 8 7 5 6 zC (.tmp 54) (.tmp 59) h78) zB)))) ?_
    exact xA (J_j (jv79 x77)) rfl
   ·refine uX 5 7 (Nat.le_of_ble_eq_true rfl) (Nat.le_of_ble_eq_true rfl) ?_
    exact xA (J_j (jv79 s70.1)) rfl
 ·exact xA (hk s70.1) rfl
theorem kX.ok (a2:(List Pack)) (x19:(Bool×zD)) (q:Wd) (kn:(List Int)→Option (D×List Ent)) (hk:∀v:(List Int),J (q.g Tryz.prog 56 2 73) c56 (atI c56 31) (St.mk' [(0,pp 0),(1,rr 1 a2),(5,rr 2 v)] [(0,.box (zD.enc false x19.2)),(1,rE 8 (Pack.enc false) a2),(2,rE 1 zC v)]) (some v) kn):
  ∀s53:(List Int),J (q.g Tryz.prog 56 2 73) c56 (atI c56 488) (St.mk' [(0,pp 0),(1,rr 1 a2),(5,rr 2 s53)] [(0,.box (zD.enc false x19.2)),(1,rE 8 (Pack.enc false) a2),(2,rE 1 zC s53)]) (kX a2 x19 s53) kn:=by
 refine zAC (fun g ih s53=>?_)
 unfold zBT
 refine zA (fun x54 h55=>?_)
 refine J_d 1952 [] [34] [(34,bv (decide ((x54.length:Int)>0)))] [] [] (zF 2 (vJ («as»:=[rr 1 a2,rr 2 s53]) [(.tmp 30),(.tmp 31)] [24,25] true [(1,rE 8 (Pack.enc false) a2),(2,rE 1 zC s53)] [] (.cons (zDY (.head _) (Pack.ro false) rfl) (.cons (zDY (.tail _ (.head _)) (fun _=>rfl) rfl) (.nil))) (jJ.ok a2 s53) h55 (.own 3) (hbor:=fun _=>⟨fhN,(zC7 (zEp (fun _=>(zO.fl _)) _))⟩)) zB) ?_
 refine zG 34 (fun h56=>?_) (fun h56=>?_)
 ·refine zA (fun x57 h58=>?_)
  refine zA (fun x59 h60=>?_)
  refine J_g 3908 [(5,4)] [(0,pp 0),(1,rr 1 a2),(5,rr 2 s53),(7,pp 4)] [(0,.box (zD.enc false x19.2)),(1,rE 8 (Pack.enc false) a2),(2,rE 1 zC s53),(4,.box (zO.enc x59))] (zF 2 (vJ («as»:=[rr 1 a2,rr 2 s53]) [(.tmp 35),(.tmp 36)] [24,25] true [(1,rE 8 (Pack.enc false) a2),(2,rE 1 zC s53)] [] (.cons (zDY (.head _) (Pack.ro false) rfl) (.cons (zDY (.tail _ (.head _)) (fun _=>rfl) rfl) (.nil))) (jJ.ok a2 s53) h58 (.own 3) (hbor:=fun _=>⟨fhN,(zC7 (zEp (fun _=>(zO.fl _)) _))⟩)) (zF 3 (zB5 (kk:=.i64) 108 125 3 3 zO.enc (.tmp 37) (.const (.int .i64 0)) h60) (zF 4 (zBU (d:=.ag (zO.enc x59)) 125 3 3 0 zO.enc (.tmp 38) h60 (by kernel_rfl)) zB))) ?_
  refine J_g 7818 [] [(0,pp 0),(1,rr 1 a2),(5,rr 2 s53),(7,pp 4),(8,rr 5 ([]:List Int))] [(0,.box (zD.enc false x19.2)),(1,rE 8 (Pack.enc false) a2),(2,rE 1 zC s53),(4,.box (zO.enc x59)),(5,rE 1 zC ([]:List Int))] (zF 0 (zBw 25 2 1 5 zC ([]:List Int) [] [] []) zB) ?_
  refine J_d 31276 [] [9] [(9,iv 0)] [] [] zB ?_
  refine zFv (kW.ok a2 x19 s53 x59 q _ (fun v80=>J_j ?_) (([]:List Int),0))
  refine J_d 15639 [] [5,8] [(5,rr 5 v80)] [] [] zB ?_
  refine uX 5 2 (Nat.le_of_ble_eq_true rfl) (Nat.le_of_ble_eq_true rfl) ?_
  exact J_q (J_b (ih v80)) rfl
 ·exact xA (hk s53) rfl
theorem zAX.ok (a2:(List Pack)) (q:Wd) (kn:((List Int)×Int×(List Int))→Option (D×List Ent)) (hk:∀v:((List Int)×Int×(List Int)),J (q.g Tryz.prog 56 2 73) c56 (atI c56 15) (St.mk' [(0,pp 0),(1,rr 1 a2),(5,rr 2 v.2.2)] [(0,.box [sl 1 eU8 v.1,iv v.2.1]),(1,rE 8 (Pack.enc false) a2),(2,rE 1 zC v.2.2)]) (some v) kn):
  ∀s10:((List Int)×Int×(List Int)×Int),J (q.g Tryz.prog 56 2 73) c56 (atI c56 116) (St.mk' [(0,pp 0),(1,rr 1 a2),(5,rr 2 s10.2.2.1),(6,iv s10.2.2.2)] [(0,.box [sl 1 eU8 s10.1,iv s10.2.1]),(1,rE 8 (Pack.enc false) a2),(2,rE 1 zC s10.2.2.1)]) (zAX a2 s10) kn:=by
 refine zAC (fun g ih s10=>?_)
 unfold zA1
 refine J_d 464 [] [14] [(14,bv (decide (s10.2.2.2< (a2.length:Int))))] [] [] zB ?_
 refine zG 14 (fun h11=>?_) (fun h11=>?_)
 ·refine zA (fun x12 h13=>?_)
  refine J_d 1864 [] [14,18] [(18,bv x12.1)] [0] [(0,.box (zD.enc false x12.2))] (zF 1 (vJ («as»:=[pp 0,iv 3]) [(.tmp 17),(.const (.int .i64 3))] [56,2] false [(0,.box [sl 1 eU8 s10.1,iv s10.2.1])] [0] (.cons (.pt rfl) (.cons (.same rfl) (.nil))) (yE.ok ({Code:=s10.1,At:=s10.2.1}:zD) 3) h13 (.same rfl rfl)) zB) ?_
  refine wU (aft c56 932) (fun v17:(List Int)=>St.mk' [(0,pp 0),(1,rr 1 a2),(5,rr 4 v17),(6,iv s10.2.2.2)] [(0,.box (zD.enc false x12.2)),(1,rE 8 (Pack.enc false) a2),(4,rE 1 zC v17)]) (fun v17=>?_) (fun jv17=>?_)
  ·refine J_d 467 [] [6] [(6,iv (w64 (s10.2.2.2+1)))] [] [] zB ?_
   refine uX 4 2 (Nat.le_of_ble_eq_true rfl) (Nat.le_of_ble_eq_true rfl) ?_
   exact J_q (J_b (ih (x12.2.Code,x12.2.At,v17,w64 (s10.2.2.2+1)))) rfl
  ·refine zG 18 (fun h14=>?_) (fun h14=>?_)
   ·refine zA (fun x15 h16=>?_)
    refine J_d 3730 [] [5,18] [(5,rr 4 x15)] [2,4] [(4,rE 1 zC x15)] (zF 2 (zBw 25 2 1 3 zC [s10.2.2.2] [0] [(.tmp 20)] [iv s10.2.2.2]) (zF 3 (zFg 25 25 2 2 1 8 4 2 3 zC (.tmp 19) (.tmp 21) h16) zB)) ?_
    exact xA (J_j (jv17 x15)) rfl
   ·refine uX 2 4 (Nat.le_of_ble_eq_true rfl) (Nat.le_of_ble_eq_true rfl) ?_
    exact xA (J_j (jv17 s10.2.2.1)) rfl
 ·exact xA (hk (s10.1,s10.2.1,s10.2.2.1)) rfl
theorem tJ.ok (a1:zD) (a2:(List Pack)):Ok Tryz.prog 56 [pp 0,rr 1 a2] [.box (zD.enc false a1),rE 8 (Pack.enc false) a2] ((tJ a1 a2).map fun r=>(so 1 zC r.1,[.box (zD.enc false r.2),rE 8 (Pack.enc false) a2])):=by
 refine zJ c56 Tryz.f56 2 73 (fun q=>?_)
 unfold tJ
 refine J_g 2 [] [(0,pp 0),(1,rr 1 a2)] [(0,.box (zD.enc false a1)),(1,rE 8 (Pack.enc false) a2)] zB ?_
 refine J_g 6 [] [(0,pp 0),(1,rr 1 a2),(5,rr 2 ([]:List Int))] [(0,.box (zD.enc false a1)),(1,rE 8 (Pack.enc false) a2),(2,rE 1 zC ([]:List Int))] (zF 0 (zBw 25 2 1 2 zC ([]:List Int) [] [] []) zB) ?_
 refine J_d 28 [] [6] [(6,iv 0)] [] [] zB ?_
 refine zFv (zAX.ok a2 q _ (fun v18=>J_j ?_) (a1.Code,a1.At,([]:List Int),0))
 refine zA (fun x19 h20=>?_)
 refine wU (atI c56 61) (fun v24:Bool=>St.mk' [(0,pp 0),(1,rr 1 a2),(5,rr 2 v18.2.2),(29,bv v24)] [(0,.box (zD.enc false x19.2)),(1,rE 8 (Pack.enc false) a2),(2,rE 1 zC v18.2.2)]) (fun v24=>?_) (fun jv24=>?_)
 ·refine wU (atI c56 31) (fun v82:(List Int)=>St.mk' [(0,pp 0),(1,rr 1 a2),(5,rr 2 v82)] [(0,.box (zD.enc false x19.2)),(1,rE 8 (Pack.enc false) a2),(2,rE 1 zC v82)]) (fun v82=>?_) (fun jv82=>?_)
  ·refine zA (fun x83 h84=>?_)
   refine J_d 124 [] [63] [(63,bv x83.1)] [0] [(0,.box (zD.enc false x83.2))] (zF 1 (vJ («as»:=[pp 0,iv 24]) [(.tmp 62),(.const (.int .i64 24))] [56,2] false [(0,.box (zD.enc false x19.2))] [0] (.cons (.pt rfl) (.cons (.same rfl) (.nil))) (yE.ok x19.2 24) h84 (.same rfl rfl)) zB) ?_
   refine wU (atI c56 63) (fun v90:((List Int)×Int×(List Int))=>St.mk' [(5,rr 5 v90.2.2)] [(0,.box [sl 1 eU8 v90.1,iv v90.2.1]),(1,rE 8 (Pack.enc false) a2),(5,rE 1 zC v90.2.2)]) (fun v90=>?_) (fun jv90=>?_)
   ·refine J_g 126 [] [(4,rr 5 v90.2.2)] [(0,.box [sl 1 eU8 v90.1,iv v90.2.1]),(1,rE 8 (Pack.enc false) a2),(5,rE 1 zC v90.2.2)] zB ?_
    exact zDZ (ds:=[rr 5 v90.2.2]) (ds':=[so 1 zC v90.2.2]) (.cons (.cell (.move (.tail _ (.tail _ (.head _))) (List.length_map _) (by decide) (.nil))) (.nil) (by decide)) rfl
   ·refine zG 63 (fun h85=>?_) (fun h85=>?_)
    ·refine zA (fun x86 h87=>?_)
     refine zA (fun x88 h89=>?_)
     refine J_g 250 [] [(5,rr 5 x88)] [(0,.box (zD.enc false x86.2)),(1,rE 8 (Pack.enc false) a2),(5,rE 1 zC x88)] (zF 4 (zBw 25 2 1 3 zC [(a2.length:Int),(-1),0] [0,1,2] [(.tmp 67),(.const (.int .i64 (-1))),(.const (.int .i64 0))] [iv (a2.length:Int),iv (-1),iv 0]) (zF 5 (vJ («as»:=[pp 0,rr 3 [(a2.length:Int),(-1),0]]) [(.tmp 65),(.tmp 68)] [56,25] false [(0,.box (zD.enc false x83.2)),(3,rE 1 zC [(a2.length:Int),(-1),0])] [0,3] (.cons (.pt rfl) (.cons (.rf rfl) (.nil))) (wR.ok x83.2 [(a2.length:Int),(-1),0]) h87 (.same rfl rfl)) (zF 6 (zBw 25 2 1 4 zC [x86.1] [0] [(.tmp 69)] [iv x86.1]) (zF 7 (zFg 25 25 2 2 1 8 5 2 4 zC (.tmp 64) (.tmp 70) h89) zB)))) ?_
     exact xA (J_j (jv90 (x86.2.Code,x86.2.At,x88))) rfl
    ·refine uX 2 5 (Nat.le_of_ble_eq_true rfl) (Nat.le_of_ble_eq_true rfl) ?_
     exact xA (J_j (jv90 (x83.2.Code,x83.2.At,v82))) rfl
  ·refine zG 29 (fun h25=>?_) (fun h25=>?_)
   ·refine zFv (kX.ok a2 x19 q _ (fun v81=>J_j ?_) v18.2.2)
    exact xA (J_j (jv82 v81)) rfl
   ·exact xA (J_j (jv82 v18.2.2)) rfl
 ·refine uN (fun h21=>?_) (fun h21=>?_)
  ·refine zA (fun x22 h23=>?_)
   refine J_d 60 [] [29] [(29,bv (x22==0))] [0] [(0,.box (zD.enc false x19.2))] (zF 1 (vJ («as»:=[pp 0,iv 2]) [(.tmp 23),(.const (.int .i64 2))] [56,2] false [(0,.box [sl 1 eU8 v18.1,iv v18.2.1])] [0] (.cons (.pt rfl) (.cons (.same rfl) (.nil))) (yE.ok ({Code:=v18.1,At:=v18.2.1}:zD) 2) h20 (.same rfl rfl)) (vV 2 [(24,bv x19.1)] [] h21 (zAR 4 2 25 true (vJ («as»:=[rr 1 a2]) [(.tmp 26)] [24] true [(1,rE 8 (Pack.enc false) a2)] [] (.cons (zDY (.head _) (Pack.ro false) rfl) (.nil)) (vF.ok a2) h23 (.same rfl rfl) (hbor:=fun _=>⟨fhN,yV⟩)) zB))) ?_
   exact xA (J_j (jv24 (x22==0))) rfl
  ·refine J_d 60 [] [29] [(29,bv false)] [0] [(0,.box (zD.enc false x19.2))] (zF 1 (vJ («as»:=[pp 0,iv 2]) [(.tmp 23),(.const (.int .i64 2))] [56,2] false [(0,.box [sl 1 eU8 v18.1,iv v18.2.1])] [0] (.cons (.pt rfl) (.cons (.same rfl) (.nil))) (yE.ok ({Code:=v18.1,At:=v18.2.1}:zD) 2) h20 (.same rfl rfl)) (vV 2 [(24,bv x19.1)] [] h21 zB)) ?_
   exact xA (J_j (jv24 false)) rfl
noncomputable def c38:Code:=(Tryz.f38.body).getD .skip
theorem zDB.ok (a1:zD):Ok Tryz.prog 38 [pp 0] [.box (zD.enc false a1)] ((zDB a1).map fun r=>(.tu [so 8 (Pack.enc false) r.1,sl 1 zC r.2.1,so 1 zC r.2.2.1],[.box (zD.enc false r.2.2.2)])):=by
 refine zJ c38 Tryz.f38 1 60 (fun q=>?_)
 unfold zDB
 refine J_d 2 [] [] [] [] [] zB ?_
 refine zA (fun x2 h3=>?_)
 refine J_g 6 [] [(0,pp 0),(5,rr 1 x2.1)] [(0,.box (zD.enc false x2.2)),(1,rE 8 (Pack.enc false) x2.1)] (zF 1 (vJ («as»:=[pp 0]) [(.tmp 9)] [56] false [(0,.box (zD.enc false a1))] [0] (.cons (.pt rfl) (.nil)) (zBi.ok a1) h3 (.own 1)) zB) ?_
 refine J_g 14 [] [(0,pp 0),(5,rr 1 x2.1),(6,rr 2 ([]:List Int))] [(0,.box (zD.enc false x2.2)),(1,rE 8 (Pack.enc false) x2.1),(2,rE 1 zC ([]:List Int))] (zF 0 (zBw 25 2 1 2 zC ([]:List Int) [] [] []) zB) ?_
 refine J_d 30 [] [7] [(7,rr 3 ([]:List Int))] [3] [(3,rE 1 zC ([]:List Int))] (zF 0 (zBw 25 2 1 3 zC ([]:List Int) [] [] []) zB) ?_
 refine zA (fun x4 h5=>?_)
 refine J_d 124 [] [15] [(15,bv (x4==0))] [] [] (zF 1 (vJ («as»:=[rr 1 x2.1]) [(.tmp 13)] [24] true [(1,rE 8 (Pack.enc false) x2.1)] [] (.cons (zDY (.head _) (Pack.ro false) rfl) (.nil)) (vF.ok x2.1) h5 (.same rfl rfl) (hbor:=fun _=>⟨fhN,yV⟩)) zB) ?_
 refine wU (atI c38 63) (fun v24:((List Int)×Int×(List Int)×(List Int))=>St.mk' [(0,pp 0),(5,rr 1 x2.1),(6,sl 1 zC v24.2.2.1),(7,rr 9 v24.2.2.2)] [(0,.box [sl 1 eU8 v24.1,iv v24.2.1]),(1,rE 8 (Pack.enc false) x2.1),(9,rE 1 zC v24.2.2.2)]) (fun v24=>?_) (fun jv24=>?_)
 ·refine zA (fun x25 h26=>?_)
  refine J_d 252 [] [48] [(48,bv x25.1)] [0] [(0,.box (zD.enc false x25.2))] (zF 1 (vJ («as»:=[pp 0,iv 14]) [(.tmp 47),(.const (.int .i64 14))] [56,2] false [(0,.box [sl 1 eU8 v24.1,iv v24.2.1])] [0] (.cons (.pt rfl) (.cons (.same rfl) (.nil))) (yE.ok ({Code:=v24.1,At:=v24.2.1}:zD) 14) h26 (.same rfl rfl)) zB) ?_
  refine wU (atI c38 127) (fun v30:((List Int)×Int×(List Int))=>St.mk' [(0,pp 0),(5,rr 1 x2.1),(6,sl 1 zC v30.2.2),(7,rr 9 v24.2.2.2)] [(0,.box [sl 1 eU8 v30.1,iv v30.2.1]),(1,rE 8 (Pack.enc false) x2.1),(9,rE 1 zC v24.2.2.2)]) (fun v30=>?_) (fun jv30=>?_)
  ·refine zA (fun x31 h32=>?_)
   refine J_d 508 [] [53] [(53,bv x31.1)] [0] [(0,.box (zD.enc false x31.2))] (zF 1 (vJ («as»:=[pp 0,iv 14]) [(.tmp 52),(.const (.int .i64 14))] [56,2] false [(0,.box [sl 1 eU8 v30.1,iv v30.2.1])] [0] (.cons (.pt rfl) (.cons (.same rfl) (.nil))) (yE.ok ({Code:=v30.1,At:=v30.2.1}:zD) 14) h32 (.same rfl rfl)) zB) ?_
   refine wU (atI c38 255) (fun v36:((List Int)×Int×(List Int))=>St.mk' [(5,rr 1 x2.1),(6,sl 1 zC v30.2.2),(7,rr 10 v36.2.2)] [(0,.box [sl 1 eU8 v36.1,iv v36.2.1]),(1,rE 8 (Pack.enc false) x2.1),(10,rE 1 zC v36.2.2)]) (fun v36=>?_) (fun jv36=>?_)
   ·refine J_g 510 [] [(2,rr 1 x2.1),(3,sl 1 zC v30.2.2),(4,rr 10 v36.2.2)] [(0,.box [sl 1 eU8 v36.1,iv v36.2.1]),(1,rE 8 (Pack.enc false) x2.1),(10,rE 1 zC v36.2.2)] zB ?_
    exact zDZ (ds:=[rr 1 x2.1,sl 1 zC v30.2.2,rr 10 v36.2.2]) (ds':=[so 8 (Pack.enc false) x2.1,sl 1 zC v30.2.2,so 1 zC v36.2.2]) (.cons (.cell (.move (.tail _ (.head _)) (List.length_map _) (by decide) (.nil))) (.cons (.cell (.keep rfl (.nil))) (.cons (.cell (.move (.tail _ (.tail _ (.head _))) (List.length_map _) (by decide) (.nil))) (.nil) (by decide)) (by decide)) (by decide)) rfl
   ·refine zG 53 (fun h33=>?_) (fun h33=>?_)
    ·refine zA (fun x34 h35=>?_)
     refine J_d 1018 [] [0,7,53] [(7,rr 10 x34.1)] [0,9,10] [(0,.box (zD.enc false x34.2)),(10,rE 1 zC x34.1)] (zF 2 (vJ («as»:=[pp 0,rr 1 x2.1]) [(.tmp 54),(.tmp 55)] [56,24] false [(0,.box (zD.enc false x31.2)),(1,rE 8 (Pack.enc false) x2.1)] [0,1] (.cons (.pt rfl) (.cons (.rf rfl) (.nil))) (tJ.ok x31.2 x2.1) h35 (.own 10)) zB) ?_
     exact xA (J_j (jv36 (x34.2.Code,x34.2.At,x34.1))) rfl
    ·refine uX 9 10 (Nat.le_of_ble_eq_true rfl) (Nat.le_of_ble_eq_true rfl) ?_
     exact xA (J_j (jv36 (x31.2.Code,x31.2.At,v24.2.2.2))) rfl
  ·refine zG 48 (fun h27=>?_) (fun h27=>?_)
   ·refine zA (fun x28 h29=>?_)
    refine J_d 506 [] [6,48] [(6,rr 10 x28.1)] [0,10] [(0,.box (zD.enc false x28.2)),(10,rE 1 zC x28.1)] (zF 2 (vJ («as»:=[pp 0,rr 1 x2.1]) [(.tmp 49),(.tmp 50)] [56,24] false [(0,.box (zD.enc false x25.2)),(1,rE 8 (Pack.enc false) x2.1)] [0,1] (.cons (.pt rfl) (.cons (.rf rfl) (.nil))) (tJ.ok x25.2 x2.1) h29 (.own 10)) zB) ?_
    refine zBv [(0,pp 0),(5,rr 1 x2.1),(6,rr 10 x28.1),(7,rr 9 v24.2.2.2)] [(10,rE 1 zC x28.1),(0,.box (zD.enc false x28.2)),(1,rE 8 (Pack.enc false) x2.1),(9,rE 1 zC v24.2.2.2)] (by kernel_rfl) ?_
    refine zGu 10 (z:=1) (xs:=x28.1.map zC) (tm2:=[(0,pp 0),(5,rr 1 x2.1),(6,sl 1 zC x28.1),(7,rr 9 v24.2.2.2)]) (hp2:=[(0,.box (zD.enc false x28.2)),(1,rE 8 (Pack.enc false) x2.1),(9,rE 1 zC v24.2.2.2)]) (.cons (.keep rfl) (.cons (.keep rfl) (.cons (.rf (by simp) (zEw (enc:=zC) (enc':=zC) (fun _=>rfl) x28.1 rfl rfl)) (.cons (.keep rfl) (.nil))))) (.keep rfl (.keep rfl (.keep rfl (.nil)))) rfl ?_
    exact xA (J_j (jv30 (x28.2.Code,x28.2.At,x28.1))) rfl
   ·exact xA (J_j (jv30 (x25.2.Code,x25.2.At,v24.2.2.1))) rfl
 ·refine zG 15 (fun h6=>?_) (fun h6=>?_)
  ·refine zA (fun x7 h8=>?_)
   refine zA (fun x9 h10=>?_)
   refine J_g 500 [(5,6)] [(0,pp 0),(5,rr 1 x2.1),(6,rr 2 ([]:List Int)),(7,rr 3 ([]:List Int)),(8,pp 6)] [(0,.box (zD.enc false x7.2)),(1,rE 8 (Pack.enc false) x2.1),(2,rE 1 zC ([]:List Int)),(3,rE 1 zC ([]:List Int)),(5,rE 1 zC x9.Set),(6,.box [iv x9.Code,iv x9.Choices,rr 5 x9.Set])] (zF 3 (vJ («as»:=[pp 0,rr 1 x2.1]) [(.tmp 17),(.tmp 18)] [56,24] false [(0,.box (zD.enc false x2.2)),(1,rE 8 (Pack.enc false) x2.1)] [0,1] (.cons (.pt rfl) (.cons (.rf rfl) (.nil))) (zA6.ok x2.2 x2.1) h8 (.own 4)) (zF 4 (vJ («as»:=[rr 1 x2.1,rr 4 x7.1,nv,iv 60]) [(.tmp 16),(.tmp 19),(.const (.slice none 0 0)),(.const (.int .i64 60))] [24,80,25,2] true [(1,rE 8 (Pack.enc false) x2.1),(4,rE 7 Term.enc x7.1)] [] (.cons (zDY (.head _) (Pack.ro false) rfl) (.cons (zDY (.tail _ (.head _)) (fun _=>rfl) rfl) (.cons (.nil false 1) (.cons (.same rfl) (.nil))))) (kS.ok x2.1 x7.1 ([]:List Int) 60) h10 (.ag (.cons (.same rfl rfl) (.cons (.same rfl rfl) (.cons (.own 5) (.nil))))) (hbor:=fun _=>⟨fhN,(zFn (SolveResult.fl _))⟩)) zB)) ?_
   refine J_d 2004 [] [23] [(23,bv (x9.Code==0))] [] [] zB ?_
   refine wU (atI c38 1003) (fun v12:(List Int)=>St.mk' [(0,pp 0),(5,rr 1 x2.1),(6,sl 1 zC v12),(7,rr 3 ([]:List Int)),(8,pp 6)] [(0,.box (zD.enc false x7.2)),(1,rE 8 (Pack.enc false) x2.1),(3,rE 1 zC ([]:List Int)),(6,.box (SolveResult.enc false x9))]) (fun v12=>?_) (fun jv12=>?_)
   ·refine zA (fun x13 h14=>?_)
    refine zA (fun x15 h16=>?_)
    refine zA (fun x17 h18=>?_)
    refine zA (fun x19 h20=>?_)
    refine J_d 2006 [] [] [] [0,6,9] [(0,.box (zD.enc false x17.2)),(6,.box [iv x19.Code,iv x19.Choices,rr 9 x19.Set]),(9,rE 1 zC x19.Set)] (zF 3 (vJ («as»:=[pp 0,rr 1 x2.1]) [(.tmp 27),(.tmp 28)] [56,24] false [(0,.box (zD.enc false x7.2)),(1,rE 8 (Pack.enc false) x2.1)] [0,1] (.cons (.pt rfl) (.cons (.rf rfl) (.nil))) (zA6.ok x7.2 x2.1) h14 (.own 7)) (zF 7 (vZ [(.const (.int .i64 1)),(.tmp 32)] [2,2] (zDF.ok 1 (x2.1.length:Int)) h16) (zF 8 (vJ («as»:=[pp 0,iv x15]) [(.tmp 30),(.tmp 33)] [56,2] false [(0,.box (zD.enc false x13.2))] [0] (.cons (.pt rfl) (.cons (.same rfl) (.nil))) (zP.ok x13.2 x15) h18 (.same rfl rfl)) (zF 9 (zBw 25 2 1 8 zC [x17.1] [0] [(.tmp 34)] [iv x17.1]) (zF 10 (vJ («as»:=[rr 1 x2.1,rr 7 x13.1,rr 8 [x17.1],iv 60]) [(.tmp 26),(.tmp 29),(.tmp 35),(.const (.int .i64 60))] [24,80,25,2] true [(1,rE 8 (Pack.enc false) x2.1),(7,rE 7 Term.enc x13.1),(8,rE 1 zC [x17.1])] [] (.cons (zDY (.head _) (Pack.ro false) rfl) (.cons (zDY (.tail _ (.head _)) (fun _=>rfl) rfl) (.cons (zDY (.tail _ (.tail _ (.head _))) (fun _=>rfl) rfl) (.cons (.same rfl) (.nil))))) (kS.ok x2.1 x13.1 [x17.1] 60) h20 (.ag (.cons (.same rfl rfl) (.cons (.same rfl rfl) (.cons (.own 9) (.nil))))) (hbor:=fun _=>⟨fhN,(zFn (SolveResult.fl _))⟩)) zB))))) ?_
    refine wU (atI c38 4015) (fun v22:Bool=>St.mk' [(0,pp 0),(5,rr 1 x2.1),(6,sl 1 zC v12),(7,rr 3 ([]:List Int)),(8,pp 6),(44,bv v22)] [(0,.box (zD.enc false x17.2)),(1,rE 8 (Pack.enc false) x2.1),(3,rE 1 zC ([]:List Int)),(6,.box [iv x19.Code,iv x19.Choices,rr 9 x19.Set]),(9,rE 1 zC x19.Set)]) (fun v22=>?_) (fun jv22=>?_)
    ·refine zG 44 (fun h23=>?_) (fun h23=>?_)
     ·refine J_d 8030 [] [7,8,44] [(7,rr 9 x19.Set)] [3,6] [] zB ?_
      exact xA (J_j (jv24 (x17.2.Code,x17.2.At,v12,x19.Set))) rfl
     ·refine uX 3 9 (Nat.le_of_ble_eq_true rfl) (Nat.le_of_ble_eq_true rfl) ?_
      exact xA (J_j (jv24 (x17.2.Code,x17.2.At,v12,([]:List Int)))) rfl
    ·refine uN (fun h21=>?_) (fun h21=>?_)
     ·refine J_d 4014 [] [44] [(44,bv (decide ((x2.1.length:Int)>0)))] [] [] (vV 3 [(39,bv (x19.Code==0))] [] h21 zB) ?_
      exact xA (J_j (jv22 (decide ((x2.1.length:Int)>0)))) rfl
     ·refine J_d 4014 [] [44] [(44,bv false)] [] [] (vV 3 [(39,bv (x19.Code==0))] [] h21 zB) ?_
      exact xA (J_j (jv22 false)) rfl
   ·refine zG 23 (fun h11=>?_) (fun h11=>?_)
    ·refine J_d 4010 [] [6,23] [(6,rr 5 x9.Set)] [2] [] zB ?_
     refine zBv [(0,pp 0),(5,rr 1 x2.1),(6,rr 5 x9.Set),(7,rr 3 ([]:List Int)),(8,pp 6)] [(5,rE 1 zC x9.Set),(0,.box (zD.enc false x7.2)),(1,rE 8 (Pack.enc false) x2.1),(3,rE 1 zC ([]:List Int)),(6,.box [iv x9.Code,iv x9.Choices,rr 5 x9.Set])] (by kernel_rfl) ?_
     refine zGu 5 (z:=1) (xs:=x9.Set.map zC) (tm2:=[(0,pp 0),(5,rr 1 x2.1),(6,sl 1 zC x9.Set),(7,rr 3 ([]:List Int)),(8,pp 6)]) (hp2:=[(0,.box (zD.enc false x7.2)),(1,rE 8 (Pack.enc false) x2.1),(3,rE 1 zC ([]:List Int)),(6,.box (SolveResult.enc false x9))]) (.cons (.keep rfl) (.cons (.keep rfl) (.cons (.rf (by simp) (zEw (enc:=zC) (enc':=zC) (fun _=>rfl) x9.Set rfl rfl)) (.cons (.keep rfl) (.cons (.keep rfl) (.nil)))))) (.keep rfl (.keep rfl (.keep rfl (.box rfl (.cons (.keep rfl) (.cons (.keep rfl) (.cons (.rf (by simp) (zEw (enc:=zC) (enc':=zC) (fun _=>rfl) x9.Set rfl rfl)) (.nil)))) (.nil))))) rfl ?_
     exact xA (J_j (jv12 x9.Set)) rfl
    ·refine zBv [(0,pp 0),(5,rr 1 x2.1),(6,rr 2 ([]:List Int)),(7,rr 3 ([]:List Int)),(8,pp 6),(23,bv false)] [(2,rE 1 zC ([]:List Int)),(0,.box (zD.enc false x7.2)),(1,rE 8 (Pack.enc false) x2.1),(3,rE 1 zC ([]:List Int)),(5,rE 1 zC x9.Set),(6,.box [iv x9.Code,iv x9.Choices,rr 5 x9.Set])] (by kernel_rfl) ?_
     refine zGu 2 (z:=1) (xs:=([]:List Int).map zC) (tm2:=[(0,pp 0),(5,rr 1 x2.1),(6,sl 1 zC ([]:List Int)),(7,rr 3 ([]:List Int)),(8,pp 6),(23,bv false)]) (hp2:=[(0,.box (zD.enc false x7.2)),(1,rE 8 (Pack.enc false) x2.1),(3,rE 1 zC ([]:List Int)),(5,rE 1 zC x9.Set),(6,.box [iv x9.Code,iv x9.Choices,rr 5 x9.Set])]) (.cons (.keep rfl) (.cons (.keep rfl) (.cons (.rf (by simp) (zEw (enc:=zC) (enc':=zC) (fun _=>rfl) ([]:List Int) rfl rfl)) (.cons (.keep rfl) (.cons (.keep rfl) (.cons (.keep rfl) (.nil))))))) (.keep rfl (.keep rfl (.keep rfl (.keep rfl (.keep rfl (.nil)))))) rfl ?_
     refine zBv [(0,pp 0),(5,rr 1 x2.1),(6,sl 1 zC ([]:List Int)),(7,rr 3 ([]:List Int)),(8,pp 6),(23,bv false)] [(5,rE 1 zC x9.Set),(0,.box (zD.enc false x7.2)),(1,rE 8 (Pack.enc false) x2.1),(3,rE 1 zC ([]:List Int)),(6,.box [iv x9.Code,iv x9.Choices,rr 5 x9.Set])] (by kernel_rfl) ?_
     refine zGu 5 (z:=1) (xs:=x9.Set.map zC) (tm2:=[(0,pp 0),(5,rr 1 x2.1),(6,sl 1 zC ([]:List Int)),(7,rr 3 ([]:List Int)),(8,pp 6),(23,bv false)]) (hp2:=[(0,.box (zD.enc false x7.2)),(1,rE 8 (Pack.enc false) x2.1),(3,rE 1 zC ([]:List Int)),(6,.box (SolveResult.enc false x9))]) (.cons (.keep rfl) (.cons (.keep rfl) (.cons (.keep rfl) (.cons (.keep rfl) (.cons (.keep rfl) (.cons (.keep rfl) (.nil))))))) (.keep rfl (.keep rfl (.keep rfl (.box rfl (.cons (.keep rfl) (.cons (.keep rfl) (.cons (.rf (by simp) (zEw (enc:=zC) (enc':=zC) (fun _=>rfl) x9.Set rfl rfl)) (.nil)))) (.nil))))) rfl ?_
     exact xA (J_j (jv12 ([]:List Int))) rfl
  ·refine zBv [(0,pp 0),(5,rr 1 x2.1),(6,rr 2 ([]:List Int)),(7,rr 3 ([]:List Int)),(15,bv false)] [(2,rE 1 zC ([]:List Int)),(0,.box (zD.enc false x2.2)),(1,rE 8 (Pack.enc false) x2.1),(3,rE 1 zC ([]:List Int))] (by kernel_rfl) ?_
   refine zGu 2 (z:=1) (xs:=([]:List Int).map zC) (tm2:=[(0,pp 0),(5,rr 1 x2.1),(6,sl 1 zC ([]:List Int)),(7,rr 3 ([]:List Int)),(15,bv false)]) (hp2:=[(0,.box (zD.enc false x2.2)),(1,rE 8 (Pack.enc false) x2.1),(3,rE 1 zC ([]:List Int))]) (.cons (.keep rfl) (.cons (.keep rfl) (.cons (.rf (by simp) (zEw (enc:=zC) (enc':=zC) (fun _=>rfl) ([]:List Int) rfl rfl)) (.cons (.keep rfl) (.cons (.keep rfl) (.nil)))))) (.keep rfl (.keep rfl (.keep rfl (.nil)))) rfl ?_
   refine uX 3 9 (Nat.le_of_ble_eq_true rfl) (Nat.le_of_ble_eq_true rfl) ?_
   exact xA (J_j (jv24 (x2.2.Code,x2.2.At,([]:List Int),([]:List Int)))) rfl
noncomputable def c15:Code:=(Tryz.f15.body).getD .skip
theorem zA9.ok (a1:(List Int)):Ok Tryz.prog 15 [sl 1 eU8 a1] [] ((zA9 a1).map fun r=>(.tu [so 8 (Pack.enc false) r.1,sl 1 zC r.2.1,so 1 zC r.2.2],[])):=by
 refine zJ c15 Tryz.f15 0 11 (fun q=>?_)
 unfold zA9
 refine J_g 2 [] [(0,sl 1 eU8 a1)] [] zB ?_
 refine zA (fun x2 h3=>?_)
 refine zA (fun x4 h5=>?_)
 refine J_g 6 [] [(2,rr 1 x4.1),(3,sl 1 zC x4.2.1),(4,rr 2 x4.2.2.1)] [(1,rE 8 (Pack.enc false) x4.1),(2,rE 1 zC x4.2.2.1)] (zF 1 (vJ («as»:=[sl 1 eU8 a1]) [(.tmp 5)] [22] false [] [] (.cons (.same rfl) (.nil)) (zDe.ok a1) h3 (.po 0 rfl)) (zF 2 (vJ («as»:=[pp 0]) [(.tmp 6)] [56] false [(0,.box (zD.enc false x2))] [0] (.cons (.pt rfl) (.nil)) (zDB.ok x2) h5 (.tu (.cons (.own 1) (.cons (.same rfl rfl) (.cons (.own 2) (.nil)))))) zB)) ?_
 exact zDZ (ds:=[rr 1 x4.1,sl 1 zC x4.2.1,rr 2 x4.2.2.1]) (ds':=[so 8 (Pack.enc false) x4.1,sl 1 zC x4.2.1,so 1 zC x4.2.2.1]) (.cons (.cell (.move (.head _) (List.length_map _) (by decide) (.nil))) (.cons (.cell (.keep rfl (.nil))) (.cons (.cell (.move (.tail _ (.head _)) (List.length_map _) (by decide) (.nil))) (.nil) (by decide)) (by decide)) (by decide)) rfl
noncomputable def zQ5:Code:=(Tryz.f207.body).getD .skip
theorem zAB.ok (a1:Int):Ok Tryz.prog 207 [uv a1] [] ((zAB a1).map fun r=>(bv r,[])):=by
 refine zJ zQ5 Tryz.f207 0 21 (fun q=>?_)
 unfold zAB
 refine J_g 2 [] [(0,uv a1)] [] zB ?_
 refine uN (fun h2=>?_) (fun h2=>?_)
 ·refine uN (fun h3=>?_) (fun h3=>?_)
  ·refine J_g 6 [] [(2,bv true)] [] (vV 2 [(4,bv (decide (a1≥97)))] [] h2 (vV 6 [(8,bv (decide (a1≤122)))] [] h3 (zHI 9 (zHP (i:=9) (g:=6) (t:=9) (b:=false) (v:=(.bool true)) (.inl rfl) (by kernel_rfl) (by kernel_rfl)) (zHI 10 (zHP (i:=10) (g:=9) (t:=12) (b:=true) (v:=undef) (.inr rfl) (by kernel_rfl) (by kernel_rfl)) (zHI 11 (zHP (i:=11) (g:=9) (t:=12) (b:=true) (v:=undef) (.inr rfl) (by kernel_rfl) (by kernel_rfl)) zB))))) ?_
   exact xJ rfl
  ·refine uN (fun h4=>?_) (fun h4=>?_)
   ·refine uN (fun h5=>?_) (fun h5=>?_)
    ·refine J_g 6 [] [(2,bv true)] [] (vV 2 [(4,bv (decide (a1≥97)))] [] h2 (vV 6 [(8,bv (decide (a1≤122)))] [] h3 (zGQ 9 6 9 false [(11,bv (decide (a1≥48)))] [] h4 (vV 14 [(16,bv (decide (a1≤57)))] [] h5 zB)))) ?_
     exact xJ rfl
    ·refine J_g 6 [] [(2,bv (a1==95))] [] (vV 2 [(4,bv (decide (a1≥97)))] [] h2 (vV 6 [(8,bv (decide (a1≤122)))] [] h3 (zGQ 9 6 9 false [(11,bv (decide (a1≥48)))] [] h4 (vV 14 [(16,bv (decide (a1≤57)))] [] h5 zB)))) ?_
     exact xJ rfl
   ·refine J_g 6 [] [(2,bv (a1==95))] [] (vV 2 [(4,bv (decide (a1≥97)))] [] h2 (vV 6 [(8,bv (decide (a1≤122)))] [] h3 (zGQ 9 6 9 false [(11,bv (decide (a1≥48)))] [] h4 zB))) ?_
    exact xJ rfl
 ·refine uN (fun h6=>?_) (fun h6=>?_)
  ·refine uN (fun h7=>?_) (fun h7=>?_)
   ·refine J_g 6 [] [(2,bv true)] [] (vV 2 [(4,bv (decide (a1≥97)))] [] h2 (zGQ 9 6 9 false [(11,bv (decide (a1≥48)))] [] h6 (vV 14 [(16,bv (decide (a1≤57)))] [] h7 zB))) ?_
    exact xJ rfl
   ·refine J_g 6 [] [(2,bv (a1==95))] [] (vV 2 [(4,bv (decide (a1≥97)))] [] h2 (zGQ 9 6 9 false [(11,bv (decide (a1≥48)))] [] h6 (vV 14 [(16,bv (decide (a1≤57)))] [] h7 zB))) ?_
    exact xJ rfl
  ·refine J_g 6 [] [(2,bv (a1==95))] [] (vV 2 [(4,bv (decide (a1≥97)))] [] h2 (zGQ 9 6 9 false [(11,bv (decide (a1≥48)))] [] h6 zB)) ?_
   exact xJ rfl
noncomputable def zO0:Code:=(Tryz.f161.body).getD .skip
theorem zAz.ok (a1:ByteArray) (q:Wd) (kn:Unit→Option (D×List Ent)) (hk:∀v:Unit,J (q.g Tryz.prog 161 0 33) zO0 (atI zO0 15) (St.mk' [] []) (some v) kn):
  ∀s17:Int,J (q.g Tryz.prog 161 0 33) zO0 (atI zO0 116) (St.mk' [(0,sv a1),(23,iv (a1.size:Int)),(24,iv s17)] []) (zAz a1 s17) (Fl.go (fun r:Int=>some (iv r,[])) kn):=by
 refine zAC (fun g ih s17=>?_)
 unfold zC3
 refine J_d 232 [] [25] [(25,bv (decide (s17< (a1.size:Int))))] [] [] zB ?_
 refine zG 25 (fun h18=>?_) (fun h18=>?_)
 ·refine J_d 3736 [] [3,25] [(3,iv s17)] [] [] zB ?_
  refine zA (fun x19 h20=>?_)
  refine zA (fun x21 h22=>?_)
  refine J_d 7474 [] [3,31] [(31,bv (!x21))] [] [] (zF 2 (zO1 (kk:=.i64) 9 (.tmp 27) (.tmp 28) h20) (zF 3 (vZ [(.tmp 29)] [5] (zAB.ok x19) h22) zB)) ?_
  refine zG 31 (fun h23=>?_) (fun h23=>?_)
  ·refine J_g 29900 [] [(2,iv 5)] [] zB ?_
   exact xJ rfl
  ·refine J_d 935 [] [24,31] [(24,iv (w64 (s17+1)))] [] [] zB ?_
   exact J_q (J_b (ih (w64 (s17+1)))) rfl
 ·exact xA (hk ()) rfl
theorem tK.ok (a1:ByteArray):Ok Tryz.prog 161 [sv a1] [] ((tK a1).map fun r=>(iv r,[])):=by
 refine zJ zO0 Tryz.f161 0 33 (fun q=>?_)
 unfold tK
 refine J_g 2 [] [(0,sv a1)] [] zB ?_
 refine wU (atI zO0 13) (fun v9:Bool=>St.mk' [(0,sv a1),(21,bv v9)] []) (fun v9=>?_) (fun jv9=>?_)
 ·refine zG 21 (fun h10=>?_) (fun h10=>?_)
  ·refine J_g 52 [] [(2,iv 5)] [] zB ?_
   exact xJ rfl
  ·refine J_g 28 [] [(0,sv a1),(23,iv (a1.size:Int)),(24,iv 0)] [] zB ?_
   refine jW (K0:=(fun r:Int=>some (iv r,[]))) (fun _=>rfl) (zAz.ok a1 q _ (fun v24=>J_j ?_) 0)
   refine J_g 30 [] [(2,iv 0)] [] zB ?_
   exact xJ rfl
 ·refine uN (fun h2=>?_) (fun h2=>?_)
  ·refine J_g 12 [] [(0,sv a1),(21,bv true)] [] (vV 3 [(6,bv (decide ((a1.size:Int)<1)))] [] h2 zB) ?_
   exact xA (J_j (jv9 true)) rfl
  ·refine uN (fun h3=>?_) (fun h3=>?_)
   ·refine J_g 12 [] [(0,sv a1),(21,bv true)] [] (vV 3 [(6,bv (decide ((a1.size:Int)<1)))] [] h2 (vV 8 [(11,bv (decide ((a1.size:Int)>12)))] [] h3 zB)) ?_
    exact xA (J_j (jv9 true)) rfl
   ·refine zA (fun x4 h5=>?_)
    refine uN (fun h6=>?_) (fun h6=>?_)
    ·refine J_g 12 [] [(0,sv a1),(21,bv true)] [] (vV 3 [(6,bv (decide ((a1.size:Int)<1)))] [] h2 (vV 8 [(11,bv (decide ((a1.size:Int)>12)))] [] h3 (zAR 10 8 12 false (zO1 (kk:=.i64) 9 (.tmp 13) (.const (.int .i64 0)) h5) (vV 13 [(16,bv (decide (x4<97)))] [] h6 zB)))) ?_
     exact xA (J_j (jv9 true)) rfl
    ·refine zA (fun x7 h8=>?_)
     refine J_g 12 [] [(0,sv a1),(21,bv (decide (x7>122)))] [] (vV 3 [(6,bv (decide ((a1.size:Int)<1)))] [] h2 (vV 8 [(11,bv (decide ((a1.size:Int)>12)))] [] h3 (zAR 10 8 12 false (zO1 (kk:=.i64) 9 (.tmp 13) (.const (.int .i64 0)) h5) (vV 13 [(16,bv (decide (x4<97)))] [] h6 (zAR 15 13 17 false (zO1 (kk:=.i64) 9 (.tmp 18) (.const (.int .i64 0)) h8) zB))))) ?_
     exact xA (J_j (jv9 (decide (x7>122)))) rfl
noncomputable def c131:Code:=(Tryz.f131.body).getD .skip
theorem uG.ok (a1:Int) (a2:Int) (a3:Int):Ok Tryz.prog 131 [iv a1,iv a2,iv a3] [] ((uG a1 a2 a3).map fun r=>(bv r,[])):=by
 refine zJ c131 Tryz.f131 0 15 (fun q=>?_)
 unfold uG
 refine J_d 2 [] [] [] [] [] zB ?_
 refine uN (fun h4=>?_) (fun h4=>?_)
 ·refine J_g 6 [] [(6,bv (decide (a1≤a3)))] [] (vV 3 [(9,bv (decide (a2≤a1)))] [] h4 zB) ?_
  exact xJ rfl
 ·refine J_g 6 [] [(6,bv false)] [] (vV 3 [(9,bv (decide (a2≤a1)))] [] h4 zB) ?_
  exact xJ rfl
noncomputable def c162:Code:=(Tryz.f162.body).getD .skip
theorem vP.ok (a1:Version):Ok Tryz.prog 162 [.ag (Version.enc a1)] [] ((vP a1).map fun r=>(iv r,[])):=by
 refine zJ c162 Tryz.f162 0 19 (fun q=>?_)
 unfold vP
 refine J_g 2 [(0,0)] [(1,pp 0)] [(0,.box (Version.enc a1))] zB ?_
 refine zA (fun x2 h3=>?_)
 refine wU (atI c162 13) (fun v10:Bool=>St.mk' [(18,bv v10)] []) (fun v10=>?_) (fun jv10=>?_)
 ·refine zG 18 (fun h11=>?_) (fun h11=>?_)
  ·refine J_g 52 [] [(2,iv 3)] [] zB ?_
   exact xJ rfl
  ·refine J_g 14 [] [(2,iv 0)] [] zB ?_
   exact xJ rfl
 ·refine uN (fun h4=>?_) (fun h4=>?_)
  ·refine J_g 12 [] [(18,bv true)] [] (zF 2 (vZ [(.tmp 4),(.const (.int .i64 0)),(.const (.int .i64 999))] [2,2,2] (uG.ok a1.A 0 999) h3) (vV 4 [(6,bv (!x2))] [] h4 zB)) ?_
   exact xA (J_j (jv10 true)) rfl
  ·refine zA (fun x5 h6=>?_)
   refine uN (fun h7=>?_) (fun h7=>?_)
   ·refine J_g 12 [] [(18,bv true)] [] (zF 2 (vZ [(.tmp 4),(.const (.int .i64 0)),(.const (.int .i64 999))] [2,2,2] (uG.ok a1.A 0 999) h3) (vV 4 [(6,bv (!x2))] [] h4 (zAR 7 4 7 false (vZ [(.tmp 9),(.const (.int .i64 0)),(.const (.int .i64 999))] [2,2,2] (uG.ok a1.B 0 999) h6) (vV 10 [(12,bv (!x5))] [] h7 zB)))) ?_
    exact xA (J_j (jv10 true)) rfl
   ·refine zA (fun x8 h9=>?_)
    refine J_g 12 [] [(18,bv (!x8))] [] (zF 2 (vZ [(.tmp 4),(.const (.int .i64 0)),(.const (.int .i64 999))] [2,2,2] (uG.ok a1.A 0 999) h3) (vV 4 [(6,bv (!x2))] [] h4 (zAR 7 4 7 false (vZ [(.tmp 9),(.const (.int .i64 0)),(.const (.int .i64 999))] [2,2,2] (uG.ok a1.B 0 999) h6) (vV 10 [(12,bv (!x5))] [] h7 (zAR 13 10 13 false (vZ [(.tmp 15),(.const (.int .i64 0)),(.const (.int .i64 999))] [2,2,2] (uG.ok a1.C 0 999) h9) zB))))) ?_
    exact xA (J_j (jv10 (!x8))) rfl
noncomputable def c43:Code:=(Tryz.f43.body).getD .skip
theorem zAt.ok (a1:(List Int)) (q:Wd) (kn:Unit→Option (D×List Ent)) (hk:∀v:Unit,J (q.g Tryz.prog 43 0 15) c43 (atI c43 7) (St.mk' [] []) (some v) kn):
  ∀s6:Int,J (q.g Tryz.prog 43 0 15) c43 (atI c43 52) (St.mk' [(5,sl 1 zC a1),(6,iv (a1.length:Int)),(7,iv s6)] []) (zAt a1 s6) (Fl.go (fun r:Int=>some (iv r,[])) kn):=by
 refine zAC (fun g ih s6=>?_)
 unfold zAU
 refine J_d 104 [] [8] [(8,bv (decide (s6< (a1.length:Int))))] [] [] zB ?_
 refine zG 8 (fun h7=>?_) (fun h7=>?_)
 ·refine zA (fun x8 h9=>?_)
  refine J_g 1688 [] [(4,iv x8),(5,sl 1 zC a1),(6,iv (a1.length:Int)),(7,iv s6)] [] (zF 0 (kD (kk:=.i64) 25 2 1 zC (.tmp 5) (.tmp 7) h9) zB) ?_
  refine J_d 3378 [] [12] [(12,bv (x8 !=0))] [] [] zB ?_
  refine zG 12 (fun h10=>?_) (fun h10=>?_)
  ·refine J_g 13516 [] [(2,iv x8)] [] zB ?_
   exact xJ rfl
  ·refine J_d 423 [] [4,7,12] [(7,iv (w64 (s6+1)))] [] [] zB ?_
   exact J_q (J_b (ih (w64 (s6+1)))) rfl
 ·exact xA (hk ()) rfl
theorem vH.ok (a1:(List Int)):Ok Tryz.prog 43 [sl 1 zC a1] [] ((vH a1).map fun r=>(iv r,[])):=by
 refine zJ c43 Tryz.f43 0 15 (fun q=>?_)
 unfold vH
 refine J_g 2 [] [(0,sl 1 zC a1)] [] zB ?_
 refine J_g 12 [] [(5,sl 1 zC a1),(6,iv (a1.length:Int)),(7,iv 0)] [] zB ?_
 refine jW (K0:=(fun r:Int=>some (iv r,[]))) (fun _=>rfl) (zAt.ok a1 q _ (fun v11=>J_j ?_) 0)
 refine J_g 14 [] [(2,iv 0)] [] zB ?_
 exact xJ rfl
noncomputable def c164:Code:=(Tryz.f164.body).getD .skip
theorem zAJ.ok (a1:(List Term)):Ok Tryz.prog 164 [sl 7 Term.enc a1] [] ((zAJ a1).map fun r=>(bv r,[])):=by
 refine zJ c164 Tryz.f164 0 6 (fun q=>?_)
 unfold zAJ
 refine J_g 2 [] [(0,sl 7 Term.enc a1)] [] zB ?_
 refine J_g 6 [] [(2,bv (decide ((a1.length:Int)>4)))] [] zB ?_
 exact xJ rfl
noncomputable def c208:Code:=(Tryz.f208.body).getD .skip
theorem xG.ok (a1:(List (List Term))) (q:Wd) (kn:Unit→Option (D×List Ent)) (hk:∀v:Unit,J (q.g Tryz.prog 208 0 19) c208 (atI c208 7) (St.mk' [] []) (some v) kn):
  ∀s8:Int,J (q.g Tryz.prog 208 0 19) c208 (atI c208 52) (St.mk' [(0,sl 1 (eSl false 7 Term.enc) a1),(1,.fn 164 []),(7,iv (a1.length:Int)),(8,iv s8)] []) (xG a1 s8) (Fl.go (fun r:Int=>some (iv r,[])) kn):=by
 refine zAC (fun g ih s8=>?_)
 unfold yY
 refine J_d 104 [] [9] [(9,bv (decide (s8< (a1.length:Int))))] [] [] zB ?_
 refine zG 9 (fun h9=>?_) (fun h9=>?_)
 ·refine J_d 1688 [] [5,9] [(5,iv s8)] [] [] zB ?_
  refine zA (fun x10 h11=>?_)
  refine zA (fun x12 h13=>?_)
  refine J_d 3378 [] [16] [(16,bv x12)] [] [] (zF 3 (kD (kk:=.i64) 89 80 1 (eSl false 7 Term.enc) (.tmp 12) (.tmp 13) h11) (zF 5 (zPJ («as»:=[sl 7 Term.enc x10]) (caps:=[]) 11 [(.tmp 15)] [80] (zAJ.ok x10) h13) zB)) ?_
  refine zG 16 (fun h14=>?_) (fun h14=>?_)
  ·refine J_g 13516 [] [(4,iv s8)] [] zB ?_
   exact xJ rfl
  ·refine J_d 423 [] [5,8,16] [(8,iv (w64 (s8+1)))] [] [] zB ?_
   exact J_q (J_b (ih (w64 (s8+1)))) rfl
 ·exact xA (hk ()) rfl
theorem yO.ok (a1:(List (List Term))):Ok Tryz.prog 208 [sl 1 (eSl false 7 Term.enc) a1,.fn 164 []] [] ((yO a1).map fun r=>(iv r,[])):=by
 refine zJ c208 Tryz.f208 0 19 (fun q=>?_)
 unfold yO
 refine J_g 2 [] [(0,sl 1 (eSl false 7 Term.enc) a1),(1,.fn 164 [])] [] zB ?_
 refine J_d 12 [] [7,8] [(7,iv (a1.length:Int)),(8,iv 0)] [] [] zB ?_
 refine jW (K0:=(fun r:Int=>some (iv r,[]))) (fun _=>rfl) (xG.ok a1 q _ (fun v15=>J_j ?_) 0)
 refine J_g 14 [] [(4,iv (-1))] [] zB ?_
 exact xJ rfl
noncomputable def zQv:Code:=(Tryz.f163.body).getD .skip
theorem zS.ok (a1:(List (List Term))):Ok Tryz.prog 163 [sl 1 (eSl false 7 Term.enc) a1,.fn 164 []] [] ((zS a1).map fun r=>(bv r,[])):=by
 refine zJ zQv Tryz.f163 0 9 (fun q=>?_)
 unfold zS
 refine J_d 2 [] [] [] [] [] zB ?_
 refine zA (fun x2 h3=>?_)
 refine J_g 6 [] [(4,bv (decide (x2≥0)))] [] (zF 2 (vJ («as»:=[sl 1 (eSl false 7 Term.enc) a1,.fn 164 []]) [(.tmp 5),(.tmp 6)] [89,147] false [] [] (.cons (.same rfl) (.cons (.fn (.nil)) (.nil))) (yO.ok a1) h3 (.same rfl rfl)) zB) ?_
 exact xJ rfl
noncomputable def c69:Code:=(Tryz.f69.body).getD .skip
theorem jO.ok (a1:(List ByteArray)) (a2:ByteArray) (q:Wd) (kn:Unit→Option (D×List Ent)) (hk:∀v:Unit,J (q.g Tryz.prog 69 0 19) c69 (atI c69 7) (St.mk' [] []) (some v) kn):
  ∀s7:Int,J (q.g Tryz.prog 69 0 19) c69 (atI c69 52) (St.mk' [(0,sl 1 eStr a1),(1,sv a2),(7,iv (a1.length:Int)),(8,iv s7)] []) (jO a1 a2 s7) (Fl.go (fun r:Int=>some (iv r,[])) kn):=by
 refine zAC (fun g ih s7=>?_)
 unfold tX
 refine J_d 104 [] [9] [(9,bv (decide (s7< (a1.length:Int))))] [] [] zB ?_
 refine zG 9 (fun h8=>?_) (fun h8=>?_)
 ·refine J_d 1688 [] [5,9] [(5,iv s7)] [] [] zB ?_
  refine zA (fun x9 h10=>?_)
  refine J_d 3378 [] [16] [(16,bv (seq a2 x9))] [] [] (zF 3 (kD (kk:=.i64) 32 9 1 eStr (.tmp 12) (.tmp 13) h10) zB) ?_
  refine zG 16 (fun h11=>?_) (fun h11=>?_)
  ·refine J_g 13516 [] [(4,iv s7)] [] zB ?_
   exact xJ rfl
  ·refine J_d 423 [] [5,8,16] [(8,iv (w64 (s7+1)))] [] [] zB ?_
   exact J_q (J_b (ih (w64 (s7+1)))) rfl
 ·exact xA (hk ()) rfl
theorem jS.ok (a1:(List ByteArray)) (a2:ByteArray):Ok Tryz.prog 69 [sl 1 eStr a1,sv a2] [] ((jS a1 a2).map fun r=>(iv r,[])):=by
 refine zJ c69 Tryz.f69 0 19 (fun q=>?_)
 unfold jS
 refine J_g 2 [] [(0,sl 1 eStr a1),(1,sv a2)] [] zB ?_
 refine J_d 12 [] [7,8] [(7,iv (a1.length:Int)),(8,iv 0)] [] [] zB ?_
 refine jW (K0:=(fun r:Int=>some (iv r,[]))) (fun _=>rfl) (jO.ok a1 a2 q _ (fun v12=>J_j ?_) 0)
 refine J_g 14 [] [(4,iv (-1))] [] zB ?_
 exact xJ rfl
noncomputable def c35:Code:=(Tryz.f35.body).getD .skip
theorem yA.ok (a1:(List ByteArray)) (a2:ByteArray):Ok Tryz.prog 35 [sl 1 eStr a1,sv a2] [] ((yA a1 a2).map fun r=>(bv r,[])):=by
 refine zJ c35 Tryz.f35 0 9 (fun q=>?_)
 unfold yA
 refine J_d 2 [] [] [] [] [] zB ?_
 refine zA (fun x3 h4=>?_)
 refine J_g 6 [] [(4,bv (decide (x3≥0)))] [] (zF 2 (vZ [(.tmp 5),(.tmp 6)] [32,9] (jS.ok a1 a2) h4) zB) ?_
 exact xJ rfl
noncomputable def zQi:Code:=(Tryz.f224.body).getD .skip
theorem zFk.ok:Ok Tryz.prog 224 [] [] ((zFk).map fun r=>(.ag (Version.enc r),[])):=by
 refine zJ zQi Tryz.f224 0 2 (fun q=>?_)
 unfold zFk
 refine J_g 2 [(0,0)] [(0,pp 0)] [(0,.box [iv 0,iv 0,iv 0])] zB ?_
 refine J_g 6 [] [(0,pp 0)] [(0,.box [iv 1000,iv 0,iv 0])] zB ?_
 exact xJ rfl
noncomputable def zQd:Code:=(Tryz.f216.body).getD .skip
theorem kK.ok (a1:Int):Ok Tryz.prog 216 [iv a1] [] ((kK a1).map fun r=>(bv r,[])):=by
 refine zJ zQd Tryz.f216 0 6 (fun q=>?_)
 unfold kK
 refine J_g 2 [] [(0,iv a1)] [] zB ?_
 refine J_g 6 [] [(2,bv (a1 !=a1))] [] zB ?_
 exact xJ rfl
noncomputable def c226:Code:=(Tryz.f226.body).getD .skip
theorem vM.ok (a1:Int) (a2:Int):Ok Tryz.prog 226 [iv a1,iv a2] [] ((vM a1 a2).map fun r=>(iv r,[])):=by
 refine zJ c226 Tryz.f226 0 20 (fun q=>?_)
 unfold vM
 refine J_d 2 [] [] [] [] [] zB ?_
 refine zA (fun x3 h4=>?_)
 refine J_d 6 [] [5] [(5,bv x3)] [] [] (zF 1 (vZ [(.tmp 7)] [2] (kK.ok a1) h4) zB) ?_
 refine zA (fun x5 h6=>?_)
 refine J_g 14 [] [(0,iv a1),(1,iv a2),(5,bv x3),(6,bv x5)] [] (zF 1 (vZ [(.tmp 9)] [2] (kK.ok a2) h6) zB) ?_
 refine J_d 60 [] [5,11] [(11,bv x3)] [] [] zB ?_
 refine zG 11 (fun h7=>?_) (fun h7=>?_)
 ·refine J_g 488 [] [(12,bv x5)] [] zB ?_
  refine zG 12 (fun h8=>?_) (fun h8=>?_)
  ·refine J_g 1956 [] [(4,iv 0)] [] zB ?_
   exact xJ rfl
  ·refine J_g 490 [] [(4,iv (-1))] [] zB ?_
   exact xJ rfl
 ·refine J_g 124 [] [(0,iv a1),(1,iv a2),(13,bv x5)] [] zB ?_
  refine zG 13 (fun h9=>?_) (fun h9=>?_)
  ·refine J_g 500 [] [(4,iv 1)] [] zB ?_
   exact xJ rfl
  ·refine J_d 252 [] [13,16] [(16,bv (decide (a1<a2)))] [] [] zB ?_
   refine zG 16 (fun h10=>?_) (fun h10=>?_)
   ·refine J_g 1012 [] [(4,iv (-1))] [] zB ?_
    exact xJ rfl
   ·refine J_g 508 [] [(19,bv (decide (a1>a2)))] [] zB ?_
    refine zG 19 (fun h11=>?_) (fun h11=>?_)
    ·refine J_g 2036 [] [(4,iv 1)] [] zB ?_
     exact xJ rfl
    ·refine J_g 510 [] [(4,iv 0)] [] zB ?_
     exact xJ rfl
noncomputable def zPg:Code:=(Tryz.f225.body).getD .skip
theorem zDU.ok (a1:(List Int)) (q:Wd) (kn:Unit→Option (D×List Ent)) (hk:∀v:Unit,J (q.g Tryz.prog 225 0 18) zPg (atI zPg 15) (St.mk' [(3,iv 0)] []) (some v) kn):
  ∀s6:Int,J (q.g Tryz.prog 225 0 18) zPg (atI zPg 116) (St.mk' [(3,iv 0),(6,sl 1 zC a1),(7,iv (a1.length:Int)),(8,iv s6)] []) (zDU a1 s6) (Fl.go (fun r:Int=>some (iv r,[])) kn):=by
 refine zAC (fun g ih s6=>?_)
 unfold zDz
 refine J_d 232 [] [9] [(9,bv (decide (s6< (a1.length:Int))))] [] [] zB ?_
 refine zG 9 (fun h7=>?_) (fun h7=>?_)
 ·refine zA (fun x8 h9=>?_)
  refine J_g 3736 [] [(3,iv 0),(5,iv x8),(6,sl 1 zC a1),(7,iv (a1.length:Int)),(8,iv s6)] [] (zF 0 (kD (kk:=.i64) 218 3 1 zC (.tmp 6) (.tmp 8) h9) zB) ?_
  refine J_d 7474 [] [14] [(14,bv (x8 !=0))] [] [] zB ?_
  refine zG 14 (fun h10=>?_) (fun h10=>?_)
  ·refine J_g 29900 [] [(2,iv x8)] [] zB ?_
   exact xJ rfl
  ·refine J_d 935 [] [5,8,14] [(8,iv (w64 (s6+1)))] [] [] zB ?_
   exact J_q (J_b (ih (w64 (s6+1)))) rfl
 ·exact xA (hk ()) rfl
theorem zE5.ok (a1:(List Int)):Ok Tryz.prog 225 [sl 1 zC a1] [] ((zE5 a1).map fun r=>(iv r,[])):=by
 refine zJ zPg Tryz.f225 0 18 (fun q=>?_)
 unfold zE5
 refine J_g 2 [] [(0,sl 1 zC a1)] [] zB ?_
 refine J_g 6 [] [(0,sl 1 zC a1),(3,iv 0)] [] zB ?_
 refine J_g 28 [] [(3,iv 0),(6,sl 1 zC a1),(7,iv (a1.length:Int)),(8,iv 0)] [] zB ?_
 refine jW (K0:=(fun r:Int=>some (iv r,[]))) (fun _=>rfl) (zDU.ok a1 q _ (fun v11=>J_j ?_) 0)
 refine J_g 30 [] [(2,iv 0)] [] zB ?_
 exact xJ rfl
noncomputable def c210:Code:=(Tryz.f210.body).getD .skip
theorem jU.ok (a1:Version) (a2:Version):Ok Tryz.prog 210 [.ag (Version.enc a1),.ag (Version.enc a2)] [] ((jU a1 a2).map fun r=>(iv r,[])):=by
 refine zJ c210 Tryz.f210 0 22 (fun q=>?_)
 unfold jU
 refine J_g 2 [(0,0),(1,1)] [(2,pp 0),(3,pp 1)] [(0,.box (Version.enc a1)),(1,.box (Version.enc a2))] zB ?_
 refine zA (fun x3 h4=>?_)
 refine zA (fun x5 h6=>?_)
 refine zA (fun x7 h8=>?_)
 refine zA (fun x9 h10=>?_)
 refine J_g 6 [] [(4,iv x9)] [] (zF 4 (vZ [(.tmp 6),(.tmp 8)] [2,2] (vM.ok a1.A a2.A) h4) (zF 9 (vZ [(.tmp 11),(.tmp 13)] [2,2] (vM.ok a1.B a2.B) h6) (zF 14 (vZ [(.tmp 16),(.tmp 18)] [2,2] (vM.ok a1.C a2.C) h8) (zF 15 (zBw 218 3 1 2 zC [x3,x5,x7] [0,1,2] [(.tmp 9),(.tmp 14),(.tmp 19)] [iv x3,iv x5,iv x7]) (zF 16 (vJ («as»:=[rr 2 [x3,x5,x7]]) [(.tmp 20)] [218] true [(2,rE 1 zC [x3,x5,x7])] [] (.cons (zDY (.head _) (fun _=>rfl) rfl) (.nil)) (zE5.ok [x3,x5,x7]) h10 (.same rfl rfl) (hbor:=fun _=>⟨fhN,yV⟩)) zB))))) ?_
 exact xJ rfl
noncomputable def zQa:Code:=(Tryz.f209.body).getD .skip
theorem zBh.ok (a1:Term):Ok Tryz.prog 209 [.ag (Term.enc a1)] [] ((zBh a1).map fun r=>(iv r,[])):=by
 refine zJ zQa Tryz.f209 0 35 (fun q=>?_)
 unfold zBh
 refine J_g 2 [(0,0)] [(1,pp 0)] [(0,.box (Term.enc a1))] zB ?_
 refine zA (fun x2 h3=>?_)
 refine J_g 12 [] [(1,pp 0),(3,iv x2)] [(0,.box (Term.enc a1))] (zF 2 (vZ [(.tmp 6)] [9] (tK.ok a1.Name) h3) zB) ?_
 refine J_d 26 [] [9] [(9,bv (x2 !=0))] [] [] zB ?_
 refine zG 9 (fun h4=>?_) (fun h4=>?_)
 ·refine J_g 108 [] [(2,iv x2)] [] zB ?_
  exact xJ rfl
 ·refine zA (fun x5 h6=>?_)
  refine J_g 28 [] [(1,pp 0),(4,iv x5)] [(0,.box (Term.enc a1))] (zF 2 (vZ [(.tmp 12)] [88] (vP.ok a1.Low) h6) zB) ?_
  refine J_d 58 [] [15] [(15,bv (x5 !=0))] [] [] zB ?_
  refine zG 15 (fun h7=>?_) (fun h7=>?_)
  ·refine J_g 236 [] [(2,iv x5)] [] zB ?_
   exact xJ rfl
  ·refine zA (fun x8 h9=>?_)
   refine wU (atI zQa 121) (fun v13:Bool=>St.mk' [(1,pp 0),(17,bv v13)] [(0,.box (Term.enc a1))]) (fun v13=>?_) (fun jv13=>?_)
   ·refine zG 17 (fun h14=>?_) (fun h14=>?_)
    ·refine J_g 484 [] [(2,iv 3)] [] zB ?_
     exact xJ rfl
    ·refine zA (fun x15 h16=>?_)
     refine J_g 486 [] [(28,bv (decide (x15≥0)))] [] (zF 4 (vZ [(.tmp 30),(.tmp 32)] [88,88] (jU.ok a1.Low a1.High) h16) zB) ?_
     refine zG 28 (fun h17=>?_) (fun h17=>?_)
     ·refine J_g 1948 [] [(2,iv 1)] [] zB ?_
      exact xJ rfl
     ·refine J_g 62 [] [(2,iv 0)] [] zB ?_
      exact xJ rfl
   ·refine uN (fun h10=>?_) (fun h10=>?_)
    ·refine zA (fun x11 h12=>?_)
     refine J_d 120 [] [4,15,17] [(17,bv (x11 !=0))] [] [] (zF 2 (vZ [] [] (zFk.ok) h9) (zF 3 (zMm (b:=.neq) (r:=(a1.High.A==x8.A&&(a1.High.B==x8.B&&(a1.High.C==x8.C&&true)))) 88 88 (.tmp 19) (.tmp 20) [.int .i64 a1.High.A,.int .i64 a1.High.B,.int .i64 a1.High.C] [.int .i64 x8.A,.int .i64 x8.B,.int .i64 x8.C] (.inr ⟨rfl,rfl⟩)) (vV 4 [(21,bv (!(a1.High.A==x8.A&&(a1.High.B==x8.B&&(a1.High.C==x8.C&&true)))))] [] h10 (zAR 7 4 22 true (vZ [(.tmp 24)] [88] (vP.ok a1.High) h12) zB)))) ?_
     exact xA (J_j (jv13 (x11 !=0))) rfl
    ·refine J_d 120 [] [4,15,17] [(17,bv false)] [] [] (zF 2 (vZ [] [] (zFk.ok) h9) (zF 3 (zMm (b:=.neq) (r:=(a1.High.A==x8.A&&(a1.High.B==x8.B&&(a1.High.C==x8.C&&true)))) 88 88 (.tmp 19) (.tmp 20) [.int .i64 a1.High.A,.int .i64 a1.High.B,.int .i64 a1.High.C] [.int .i64 x8.A,.int .i64 x8.B,.int .i64 x8.C] (.inr ⟨rfl,rfl⟩)) (vV 4 [(21,bv (!(a1.High.A==x8.A&&(a1.High.B==x8.B&&(a1.High.C==x8.C&&true)))))] [] h10 zB))) ?_
     exact xA (J_j (jv13 false)) rfl
noncomputable def zPp:Code:=(Tryz.f165.body).getD .skip
theorem zBb.ok (a1:(List Term)) (q:Wd) (kn:Unit→Option (D×List Ent)) (hk:∀v:Unit,J (q.g Tryz.prog 165 0 18) zPp (atI zPp 7) (St.mk' [] []) (some v) kn):
  ∀s8:Int,J (q.g Tryz.prog 165 0 18) zPp (atI zPp 52) (St.mk' [(6,sl 7 Term.enc a1),(7,iv (a1.length:Int)),(8,iv s8)] []) (zBb a1 s8) (Fl.go (fun r:Int=>some (iv r,[])) kn):=by
 refine zAC (fun g ih s8=>?_)
 unfold zA8
 refine J_d 104 [] [9] [(9,bv (decide (s8< (a1.length:Int))))] [] [] zB ?_
 refine zG 9 (fun h9=>?_) (fun h9=>?_)
 ·refine zA (fun x10 h11=>?_)
  refine J_d 1688 [(2,0)] [4,9] [(4,pp 0)] [0] [(0,.box (Term.enc x10))] (zF 0 (kD (kk:=.i64) 80 104 7 Term.enc (.tmp 6) (.tmp 8) h11) zB) ?_
  refine zA (fun x12 h13=>?_)
  refine J_g 3378 [] [(5,iv x12),(6,sl 7 Term.enc a1),(7,iv (a1.length:Int)),(8,iv s8)] [] (zF 1 (vZ [(.tmp 12)] [104] (zBh.ok x10) h13) zB) ?_
  refine J_d 6758 [] [15] [(15,bv (x12 !=0))] [] [] zB ?_
  refine zG 15 (fun h14=>?_) (fun h14=>?_)
  ·refine J_g 27036 [] [(2,iv x12)] [] zB ?_
   exact xJ rfl
  ·refine J_d 423 [] [5,8,15] [(8,iv (w64 (s8+1)))] [] [] zB ?_
   exact J_q (J_b (ih (w64 (s8+1)))) rfl
 ·exact xA (hk ()) rfl
theorem tH.ok (a1:(List Term)):Ok Tryz.prog 165 [sl 7 Term.enc a1] [] ((tH a1).map fun r=>(iv r,[])):=by
 refine zJ zPp Tryz.f165 0 18 (fun q=>?_)
 unfold tH
 refine J_g 2 [] [(0,sl 7 Term.enc a1)] [] zB ?_
 refine J_g 12 [] [(6,sl 7 Term.enc a1),(7,iv (a1.length:Int)),(8,iv 0)] [] zB ?_
 refine jW (K0:=(fun r:Int=>some (iv r,[]))) (fun _=>rfl) (zBb.ok a1 q _ (fun v15=>J_j ?_) 0)
 refine J_g 14 [] [(2,iv 0)] [] zB ?_
 exact xJ rfl
noncomputable def c127:Code:=(Tryz.f127.body).getD .skip
theorem zAs.ok (a1:Pack) (q:Wd) (kn:Unit→Option (D×List Ent)) (hk:∀v:Unit,J (q.g Tryz.prog 127 0 93) c127 (atI c127 63) (St.mk' [(1,pp 0)] [(0,.box (Pack.enc false a1))]) (some v) kn):
  ∀s54:Int,J (q.g Tryz.prog 127 0 93) c127 (atI c127 500) (St.mk' [(1,pp 0),(75,sl 1 (eSl false 7 Term.enc) a1.Needs),(76,iv (a1.Needs.length:Int)),(77,iv s54)] [(0,.box (Pack.enc false a1))]) (zAs a1 s54) (Fl.go (fun r:Int=>some (iv r,[])) kn):=by
 refine zAC (fun g ih s54=>?_)
 unfold zAL
 refine J_d 1000 [] [78] [(78,bv (decide (s54< (a1.Needs.length:Int))))] [] [] zB ?_
 refine zG 78 (fun h55=>?_) (fun h55=>?_)
 ·refine zA (fun x56 h57=>?_)
  refine J_g 16024 [] [(1,pp 0),(8,sl 7 Term.enc x56),(75,sl 1 (eSl false 7 Term.enc) a1.Needs),(76,iv (a1.Needs.length:Int)),(77,iv s54)] [(0,.box (Pack.enc false a1))] (zF 0 (kD (kk:=.i64) 89 80 1 (eSl false 7 Term.enc) (.tmp 75) (.tmp 77) h57) zB) ?_
  refine J_d 64100 [] [83] [(83,bv ((x56.length:Int)==0))] [] [] zB ?_
  refine zG 83 (fun h58=>?_) (fun h58=>?_)
  ·refine J_g 256404 [] [(2,iv 1)] [] zB ?_
   exact xJ rfl
  ·refine zA (fun x59 h60=>?_)
   refine J_g 64102 [] [(1,pp 0),(9,iv x59),(75,sl 1 (eSl false 7 Term.enc) a1.Needs),(76,iv (a1.Needs.length:Int)),(77,iv s54)] [(0,.box (Pack.enc false a1))] (zF 1 (vZ [(.tmp 84)] [80] (tH.ok x56) h60) zB) ?_
   refine J_d 128206 [] [87] [(87,bv (x59 !=0))] [] [] zB ?_
   refine zG 87 (fun h61=>?_) (fun h61=>?_)
   ·refine J_g 512828 [] [(2,iv x59)] [] zB ?_
    exact xJ rfl
   ·refine J_d 4007 [] [9,77,87] [(77,iv (w64 (s54+1)))] [] [] zB ?_
    exact J_q (J_b (ih (w64 (s54+1)))) rfl
 ·exact xA (hk ()) rfl
theorem zAq.ok (a1:Pack) (q:Wd) (kn:Unit→Option (D×List Ent)) (hk:∀v:Unit,J (q.g Tryz.prog 127 0 93) c127 (atI c127 31) (St.mk' [(1,pp 0)] [(0,.box (Pack.enc false a1))]) (some v) kn):
  ∀s32:Int,J (q.g Tryz.prog 127 0 93) c127 (atI c127 244) (St.mk' [(1,pp 0),(49,sl 1 eStr a1.Provides),(50,iv (a1.Provides.length:Int)),(51,iv s32)] [(0,.box (Pack.enc false a1))]) (zAq a1 s32) (Fl.go (fun r:Int=>some (iv r,[])) kn):=by
 refine zAC (fun g ih s32=>?_)
 unfold zBa
 refine J_d 488 [] [52] [(52,bv (decide (s32< (a1.Provides.length:Int))))] [] [] zB ?_
 refine zG 52 (fun h33=>?_) (fun h33=>?_)
 ·refine zA (fun x34 h35=>?_)
  refine J_d 7832 [] [4,5,52] [(4,iv s32),(5,sv x34)] [] [] (zF 1 (kD (kk:=.i64) 32 9 1 eStr (.tmp 49) (.tmp 51) h35) zB) ?_
  refine zA (fun x36 h37=>?_)
  refine J_g 31332 [] [(1,pp 0),(4,iv s32),(5,sv x34),(6,iv x36),(49,sl 1 eStr a1.Provides),(50,iv (a1.Provides.length:Int)),(51,iv s32)] [(0,.box (Pack.enc false a1))] (zF 1 (vZ [(.tmp 56)] [9] (tK.ok x34) h37) zB) ?_
  refine J_d 62666 [] [59] [(59,bv (x36 !=0))] [] [] zB ?_
  refine zG 59 (fun h38=>?_) (fun h38=>?_)
  ·refine J_g 250668 [] [(2,iv x36)] [] zB ?_
   exact xJ rfl
  ·refine wU (atI c127 31335) (fun v44:Bool=>St.mk' [(1,pp 0),(49,sl 1 eStr a1.Provides),(50,iv (a1.Provides.length:Int)),(51,iv s32),(72,bv v44)] [(0,.box (Pack.enc false a1))]) (fun v44=>?_) (fun jv44=>?_)
   ·refine zG 72 (fun h45=>?_) (fun h45=>?_)
    ·refine J_g 125340 [] [(2,iv 6)] [] zB ?_
     exact xJ rfl
    ·refine J_d 1959 [] [51,72] [(51,iv (w64 (s32+1)))] [] [] zB ?_
     exact J_q (J_b (ih (w64 (s32+1)))) rfl
   ·refine uN (fun h39=>?_) (fun h39=>?_)
    ·refine J_d 31334 [] [4,5,6,59,72] [(72,bv true)] [] [] (vV 4 [(64,bv (seq x34 a1.Name))] [] h39 zB) ?_
     exact xA (J_j (jv44 true)) rfl
    ·refine zA (fun x40 h41=>?_)
     refine zA (fun x42 h43=>?_)
     refine J_d 31334 [] [4,5,6,59,72] [(72,bv x42)] [] [] (vV 4 [(64,bv (seq x34 a1.Name))] [] h39 (zAR 8 4 65 false (zNA 32 9 1 eStr (.tmp 67) none (some (.tmp 68)) h41) (zAR 10 4 65 false (vZ [(.tmp 69),(.tmp 70)] [32,9] (yA.ok x40 x34) h43) zB))) ?_
     exact xA (J_j (jv44 x42)) rfl
 ·exact xA (hk ()) rfl
theorem zBp.ok (a1:Pack):Ok Tryz.prog 127 [.ag (Pack.enc false a1)] [] ((zBp a1).map fun r=>(iv r,[])):=by
 refine zJ c127 Tryz.f127 0 93 (fun q=>?_)
 unfold zBp
 refine J_g 2 [(0,0)] [(1,pp 0)] [(0,.box (Pack.enc false a1))] zB ?_
 refine zA (fun x2 h3=>?_)
 refine zA (fun x4 h5=>?_)
 refine zA (fun x6 h7=>?_)
 refine J_g 12 [] [(1,pp 0),(3,iv x6)] [(0,.box (Pack.enc false a1))] (zF 2 (vZ [(.tmp 11)] [9] (tK.ok a1.Name) h3) (zF 5 (vZ [(.tmp 14)] [88] (vP.ok a1.Version) h5) (zF 6 (zBw 25 2 1 1 zC [x2,x4] [0,1] [(.tmp 12),(.tmp 15)] [iv x2,iv x4]) (zF 7 (vJ («as»:=[rr 1 [x2,x4]]) [(.tmp 16)] [25] true [(1,rE 1 zC [x2,x4])] [] (.cons (zDY (.head _) (fun _=>rfl) rfl) (.nil)) (vH.ok [x2,x4]) h7 (.same rfl rfl) (hbor:=fun _=>⟨fhN,yV⟩)) zB)))) ?_
 refine J_d 26 [] [19] [(19,bv (x6 !=0))] [] [] zB ?_
 refine zG 19 (fun h8=>?_) (fun h8=>?_)
 ·refine J_g 108 [] [(2,iv x6)] [] zB ?_
  exact xJ rfl
 ·refine zA (fun x9 h10=>?_)
  refine J_d 56 [] [3,19,21] [(21,bv (!x9))] [] [] (zF 2 (vZ [(.tmp 23),(.const (.int .i64 1)),(.const (.int .i64 200))] [2,2,2] (uG.ok a1.Size 1 200) h10) zB) ?_
  refine zG 21 (fun h11=>?_) (fun h11=>?_)
  ·refine J_g 228 [] [(2,iv 3)] [] zB ?_
   exact xJ rfl
  ·refine wU (atI c127 231) (fun v17:Bool=>St.mk' [(1,pp 0),(26,bv v17)] [(0,.box (Pack.enc false a1))]) (fun v17=>?_) (fun jv17=>?_)
   ·refine zG 26 (fun h18=>?_) (fun h18=>?_)
    ·refine J_g 924 [] [(2,iv 2)] [] zB ?_
     exact xJ rfl
    ·refine J_d 60 [] [26,49,50,51] [(49,sl 1 eStr a1.Provides),(50,iv (a1.Provides.length:Int)),(51,iv 0)] [] [] zB ?_
     refine jW (K0:=(fun r:Int=>some (iv r,[]))) (fun _=>rfl) (zAq.ok a1 q _ (fun v46=>J_j ?_) 0)
     refine J_d 124 [] [75,76,77] [(75,sl 1 (eSl false 7 Term.enc) a1.Needs),(76,iv (a1.Needs.length:Int)),(77,iv 0)] [] [] zB ?_
     refine jW (K0:=(fun r:Int=>some (iv r,[]))) (fun _=>rfl) (zAs.ok a1 q _ (fun v62=>J_j ?_) 0)
     refine zA (fun x63 h64=>?_)
     refine J_g 126 [] [(2,iv x63)] [] (zF 2 (vZ [(.tmp 91)] [80] (tH.ok a1.Bars) h64) zB) ?_
     exact xJ rfl
   ·refine uN (fun h12=>?_) (fun h12=>?_)
    ·refine J_d 230 [] [21,26] [(26,bv true)] [] [] (vV 4 [(30,bv (decide ((a1.Provides.length:Int)>4)))] [] h12 zB) ?_
     exact xA (J_j (jv17 true)) rfl
    ·refine uN (fun h13=>?_) (fun h13=>?_)
     ·refine J_d 230 [] [21,26] [(26,bv true)] [] [] (vV 4 [(30,bv (decide ((a1.Provides.length:Int)>4)))] [] h12 (vV 10 [(36,bv (decide ((a1.Needs.length:Int)>4)))] [] h13 zB)) ?_
      exact xA (J_j (jv17 true)) rfl
     ·refine uN (fun h14=>?_) (fun h14=>?_)
      ·refine J_d 230 [] [21,26] [(26,bv true)] [] [] (vV 4 [(30,bv (decide ((a1.Provides.length:Int)>4)))] [] h12 (vV 10 [(36,bv (decide ((a1.Needs.length:Int)>4)))] [] h13 (vV 16 [(42,bv (decide ((a1.Bars.length:Int)>4)))] [] h14 zB))) ?_
       exact xA (J_j (jv17 true)) rfl
      ·refine zA (fun x15 h16=>?_)
       refine J_d 230 [] [21,26] [(26,bv x15)] [] [] (vV 4 [(30,bv (decide ((a1.Provides.length:Int)>4)))] [] h12 (vV 10 [(36,bv (decide ((a1.Needs.length:Int)>4)))] [] h13 (vV 16 [(42,bv (decide ((a1.Bars.length:Int)>4)))] [] h14 (zAR 19 16 43 false (vJ («as»:=[sl 1 (eSl false 7 Term.enc) a1.Needs,.fn 164 []]) [(.tmp 45),(.func 164)] [89,147] false [] [] (.cons (.same rfl) (.cons (.fn (.nil)) (.nil))) (zS.ok a1.Needs) h16 (.same rfl rfl)) zB)))) ?_
       exact xA (J_j (jv17 x15)) rfl
noncomputable def zQ7:Code:=(Tryz.f166.body).getD .skip
theorem zEb.ok (a1:Pack) (a2:ByteArray) (a3:Version):Ok Tryz.prog 166 [.ag (Pack.enc false a1),pp 0,pp 1] [.box [sv a2],.box (Version.enc a3)] ((zEb a1 a2 a3).map fun r=>(bv r,[.box [sv a2],.box (Version.enc a3)])):=by
 refine zJ zQ7 Tryz.f166 2 15 (fun q=>?_)
 unfold zEb
 refine J_d 2 [(0,2)] [0,3] [(3,pp 2)] [2] [(2,.box (Pack.enc false a1))] zB ?_
 refine uN (fun h4=>?_) (fun h4=>?_)
 ·refine J_d 6 [] [1,2,3,4] [(4,bv (a1.Version.A==a3.A&&(a1.Version.B==a3.B&&(a1.Version.C==a3.C&&true))))] [2] [] (vV 4 [(8,bv (seq a1.Name a2))] [] h4 (zAR 8 4 9 true (zMm (b:=.eql) (r:=(a1.Version.A==a3.A&&(a1.Version.B==a3.B&&(a1.Version.C==a3.C&&true)))) 88 88 (.tmp 11) (.tmp 12) [.int .i64 a1.Version.A,.int .i64 a1.Version.B,.int .i64 a1.Version.C] [.int .i64 a3.A,.int .i64 a3.B,.int .i64 a3.C] (.inl ⟨rfl,rfl⟩)) zB)) ?_
  exact xJ rfl
 ·refine J_d 6 [] [1,2,3,4] [(4,bv false)] [2] [] (vV 4 [(8,bv (seq a1.Name a2))] [] h4 zB) ?_
  exact xJ rfl
end Go.Told

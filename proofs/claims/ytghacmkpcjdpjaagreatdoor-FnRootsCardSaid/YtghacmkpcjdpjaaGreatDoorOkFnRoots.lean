import Derived.Test.YtghacmkpcjdpjaaGreatDoorToldFnRoots
import Derived.Test.YtghacmkpcjdpjaaGreatDoorShelfFnRoots
import Derived.Test.YtghacmkpcjdpjaaGreatDoorProg
import Derived.Deep.LoopGhost
import Derived.Deep.RegionLaw
import Derived.Laws.Externs
import Derived.Laws.IdiomCopy
import Derived.Laws.NewBlocks
import Derived.Lib.AppendZeros
import Derived.Lib.AppendZerosOnto
import Derived.Lib.JoinLaws
import Derived.Lib.Overlaps
import Derived.Lib.SliceRun
import Derived.Lib.SlicesDelete
import Derived.Lib.Walk
import Derived.Shelf.Lays2
import Derived.Shelf.RegionOpenPlain
import Derived.Shelf.Spec.SlicesInsert
import Derived.Sort.WalkB12
import Derived.WalkKit
set_option linter.unusedVariables false
set_option maxRecDepth 4000
namespace Go.Told
open Go Go.Im Go.Proofs
noncomputable def c5:Code:=(Tryz.f5.body).getD .skip
theorem kE.ok (a1:(List Int)):Ok Tryz.prog 5 [sl 1 eU8 a1] [] ((kE a1).map fun r=>(bv r,[])):=by
 refine zS c5 Tryz.f5 0 6 (fun q=>?_)
 unfold kE
 refine J_g 2 [] [(0,sl 1 eU8 a1)] [] zB ?_
 refine J_g 6 [] [(2,bv (decide ((a1.length:Int)>1048576)))] [] zB ?_
 exact xA rfl
noncomputable def c31:Code:=(Tryz.f31.body).getD .skip
theorem jM.ok (a1:(List Int)):Ok Tryz.prog 31 [sl 1 eU8 a1] [] ((jM a1).map fun r=>(.po [sl 1 eU8 r.Code,iv r.At],[])):=by
 refine zS c31 Tryz.f31 0 6 (fun q=>?_)
 unfold jM
 refine J_g 2 [] [(0,sl 1 eU8 a1)] [] zB ?_
 refine J_g 6 [(2,0)] [(2,pp 0)] [(0,.box [sl 1 eU8 a1,iv 0])] zB ?_
 exact zC7 (ds:=[pp 0]) (ds':=[.po [sl 1 eU8 a1,iv 0]]) (.cons (.po (.head _)) (.nil) (by decide)) rfl
noncomputable def c130:Code:=(Tryz.f130.body).getD .skip
theorem zZ.ok (a1:zK) (a2:Int):Ok Tryz.prog 130 [pp 0,iv a2] [.box (zK.enc false a1)] ((zZ a1 a2).map fun r=>(iv r.1,[.box (zK.enc false r.2)])):=by
 refine zS c130 Tryz.f130 1 71 (fun q=>?_)
 unfold zZ
 refine J_g 2 [] [(0,pp 0),(1,iv a2)] [(0,.box (zK.enc false a1))] zB ?_
 refine J_g 6 [] [(0,pp 0),(1,iv a2)] [(0,.box [sl 1 eU8 a1.Code,iv (w64 (a1.At+1))])] zB ?_
 refine J_d 28 [] [17] [(17,bv (decide (a2<1)))] [] [] zB ?_
 refine zU 17 (fun h3=>?_) (fun h3=>?_)
 ·refine J_d 116 [] [0,1,4,17] [(4,iv 0)] [] [] zB ?_
  exact xA rfl
 ·refine J_g 30 [] [(0,pp 0),(1,iv a2),(5,iv (w64 ((w64 (a1.At+1))-1)))] [(0,.box [sl 1 eU8 a1.Code,iv (w64 (a1.At+1))])] zB ?_
  refine J_g 62 [] [(0,pp 0),(1,iv a2),(5,iv (w64 ((w64 (a1.At+1))-1))),(6,iv (a1.Code.length:Int))] [(0,.box [sl 1 eU8 a1.Code,iv (w64 (a1.At+1))])] zB ?_
  refine J_d 252 [] [29] [(29,bv ((a1.Code.length:Int)==0))] [] [] zB ?_
  refine zU 29 (fun h4=>?_) (fun h4=>?_)
  ·refine zA (fun x5 h6=>?_)
   refine J_d 1012 [] [0,1,4,5,6,29] [(4,iv x5)] [] [] (zM 3 (zIr (k:=.i64) 2 2 (.tmp 31) (.tmp 32) h6) zB) ?_
   exact xA rfl
  ·refine zA (fun x7 h8=>?_)
   refine zA (fun x9 h10=>?_)
   refine zA (fun x11 h12=>?_)
   refine J_g 254 [] [(0,pp 0),(1,iv a2),(5,iv (w64 ((w64 (a1.At+1))-1))),(6,iv (a1.Code.length:Int)),(7,iv (w64 ((w64 (x9))+(w64 (x11*37)))))] [(0,.box [sl 1 eU8 a1.Code,iv (w64 (a1.At+1))])] (zM 6 (zIr (k:=.i64) 2 2 (.tmp 38) (.tmp 39) h8) (zM 7 (zFq (kk:=.i64) 22 5 1 eU8 (.tmp 37) (.tmp 40) h10) (zM 12 (zKz (k:=.i64) 2 2 (.tmp 44) (.tmp 45) h12) zB))) ?_
   refine J_d 1020 [] [50] [(50,bv (decide (a2>200)))] [] [] zB ?_
   refine xY (atI c130 511) (fun v18:Int=>St.mk' [(1,iv a2),(7,iv v18)] [(0,.box [sl 1 eU8 a1.Code,iv (w64 (a1.At+1))])]) (fun v18=>?_) (fun jv18=>?_)
   ·refine zA (fun x19 h20=>?_)
    refine J_d 1022 [] [1,4,7] [(4,iv x19)] [] [] (zM 2 (zIr (k:=.i64) 2 2 (.tmp 68) (.tmp 69) h20) zB) ?_
    exact xA rfl
   ·refine zU 50 (fun h13=>?_) (fun h13=>?_)
    ·refine zA (fun x14 h15=>?_)
     refine zA (fun x16 h17=>?_)
     refine J_d 2042 [] [0,5,6,7,50] [(7,iv (w64 ((w64 ((w64 ((w64 ((w64 (x9))+(w64 (x11*37))))*251))+(w64 ((w64 (x16))*13))))+(w64 ((w64 (a1.At+1))-1)))))] [] [] (zM 9 (zIr (k:=.i64) 2 2 (.tmp 58) (.tmp 59) h15) (zM 10 (zFq (kk:=.i64) 22 5 1 eU8 (.tmp 56) (.tmp 60) h17) zB)) ?_
     exact xS (J_j (jv18 (w64 ((w64 ((w64 ((w64 ((w64 (x9))+(w64 (x11*37))))*251))+(w64 ((w64 (x16))*13))))+(w64 ((w64 (a1.At+1))-1)))))) rfl
    ·exact xS (J_j (jv18 (w64 ((w64 (x9))+(w64 (x11*37)))))) rfl
noncomputable def c67:Code:=(Tryz.f67.body).getD .skip
theorem yM.ok (a1:zK) (a2:(List Int)):Ok Tryz.prog 67 [pp 0,rr 1 a2] [.box (zK.enc false a1),rE 1 jV a2] ((yM a1 a2).map fun r=>(iv r.1,[.box (zK.enc false r.2),rE 1 jV a2])):=by
 refine zS c67 Tryz.f67 2 12 (fun q=>?_)
 unfold yM
 refine J_d 2 [] [] [] [] [] zB ?_
 refine zA (fun x3 h4=>?_)
 refine zA (fun x5 h6=>?_)
 refine J_g 6 [] [(4,iv x5)] [(0,.box (zK.enc false x3.2)),(1,rE 1 jV a2)] (zM 4 (jC («as»:=[pp 0,iv (a2.length:Int)]) [(.tmp 6),(.tmp 8)] [67,2] false [(0,.box (zK.enc false a1))] [0] (.cons (.pt rfl) (.cons (.same rfl) (.nil))) (zZ.ok a1 (a2.length:Int)) h4 (.same rfl rfl)) (zM 5 (zBM (kk:=.i64) 49 2 1 1 jV (.tmp 5) (.tmp 9) h6) (zM 6 (zAZ (d:=iv x5) 2 1 1 0 jV (.tmp 10) h6 (by kernel_rfl)) zB))) ?_
 exact xA rfl
noncomputable def zLh:Code:=(Tryz.f132.body).getD .skip
theorem xQ.ok (a1:zK):Ok Tryz.prog 132 [pp 0] [.box (zK.enc false a1)] ((xQ a1).map fun r=>(sv r.1,[.box (zK.enc false r.2)])):=by
 refine zS zLh Tryz.f132 1 8 (fun q=>?_)
 unfold xQ
 refine J_d 2 [] [] [] [] [] zB ?_
 refine zA (fun x2 h3=>?_)
 refine zA (fun x4 h5=>?_)
 refine J_g 6 [] [(2,sv x4)] [(0,.box (zK.enc false x2.2))] (zM 0 (zDR 90 9 1 1 eStr [bs [97],bs [98],bs [99],bs [100],bs [108,105,98],bs [119,101,98]] [0,1,2,3,4,5] [(.const (.string (bs [97]))),(.const (.string (bs [98]))),(.const (.string (bs [99]))),(.const (.string (bs [100]))),(.const (.string (bs [108,105,98]))),(.const (.string (bs [119,101,98])))] [sv (bs [97]),sv (bs [98]),sv (bs [99]),sv (bs [100]),sv (bs [108,105,98]),sv (bs [119,101,98])]) (zM 2 (jC («as»:=[pp 0,iv 6]) [(.tmp 4),(.const (.int .i64 6))] [67,2] false [(0,.box (zK.enc false a1))] [0] (.cons (.pt rfl) (.cons (.same rfl) (.nil))) (zZ.ok a1 6) h3 (.same rfl rfl)) (zM 3 (zBM (kk:=.i64) 90 9 1 1 eStr (.tmp 3) (.tmp 5) h5) (zM 4 (zAZ (d:=sv x4) 9 1 1 0 eStr (.tmp 6) h5 (by kernel_rfl)) zB)))) ?_
 exact xA rfl
noncomputable def c44:Code:=(Tryz.f44.body).getD .skip
theorem tJ.ok:Ok Tryz.prog 44 [] [] ((tJ).map fun r=>(.ag (Version.enc r),[])):=by
 refine zS c44 Tryz.f44 0 2 (fun q=>?_)
 unfold tJ
 refine J_g 2 [(0,0)] [(0,pp 0)] [(0,.box [iv 0,iv 0,iv 0])] zB ?_
 refine J_g 6 [] [(0,pp 0)] [(0,.box [iv 1000,iv 0,iv 0])] zB ?_
 exact xA rfl
noncomputable def c131:Code:=(Tryz.f131.body).getD .skip
theorem kG.ok (a1:ByteArray):Ok Tryz.prog 131 [sv a1] [] ((kG a1).map fun r=>(.ag (Term.enc r),[])):=by
 refine zS c131 Tryz.f131 0 6 (fun q=>?_)
 unfold kG
 refine J_g 2 [(0,0)] [(0,sv a1),(2,pp 0)] [(0,.box [sv ByteArray.empty,iv 0,iv 0,iv 0,iv 0,iv 0,iv 0])] zB ?_
 refine zA (fun x2 h3=>?_)
 refine J_g 6 [] [(2,pp 0)] [(0,.box [sv a1,iv 0,iv 0,iv 0,iv x2.A,iv x2.B,iv x2.C])] (zM 1 (wU [] [] (tJ.ok) h3) zB) ?_
 exact xA rfl
noncomputable def c69:Code:=(Tryz.f69.body).getD .skip
theorem yZ.ok (a1:zK) (a2:Int):Ok Tryz.prog 69 [pp 0,iv a2] [.box (zK.enc false a1)] ((yZ a1 a2).map fun r=>(bv r.1,[.box (zK.enc false r.2)])):=by
 refine zS c69 Tryz.f69 1 9 (fun q=>?_)
 unfold yZ
 refine J_d 2 [] [] [] [] [] zB ?_
 refine zA (fun x3 h4=>?_)
 refine J_g 6 [] [(4,bv (x3.1==0))] [(0,.box (zK.enc false x3.2))] (zM 2 (jC («as»:=[pp 0,iv a2]) [(.tmp 5),(.tmp 6)] [67,2] false [(0,.box (zK.enc false a1))] [0] (.cons (.pt rfl) (.cons (.same rfl) (.nil))) (zZ.ok a1 a2) h4 (.same rfl rfl)) zB) ?_
 exact xA rfl
noncomputable def zLj:Code:=(Tryz.f133.body).getD .skip
theorem xL.ok (a1:zK):Ok Tryz.prog 133 [pp 0] [.box (zK.enc false a1)] ((xL a1).map fun r=>(.ag (Version.enc r.1),[.box (zK.enc false r.2)])):=by
 refine zS zLj Tryz.f133 1 16 (fun q=>?_)
 unfold xL
 refine J_d 2 [(0,1)] [2] [(2,pp 1)] [1] [(1,.box [iv 0,iv 0,iv 0])] zB ?_
 refine zA (fun x2 h3=>?_)
 refine zA (fun x4 h5=>?_)
 refine zA (fun x6 h7=>?_)
 refine zA (fun x8 h9=>?_)
 refine zA (fun x10 h11=>?_)
 refine J_g 6 [] [(2,pp 1)] [(0,.box (zK.enc false x10.2)),(1,.box [iv x2.1,iv x6.1,iv x10.1])] (zM 1 (jC («as»:=[pp 0,iv 4]) [(.tmp 3),(.const (.int .i64 4))] [67,2] false [(0,.box (zK.enc false a1))] [0] (.cons (.pt rfl) (.cons (.same rfl) (.nil))) (zZ.ok a1 4) h3 (.same rfl rfl)) (zM 4 (jC («as»:=[pp 0,iv 3]) [(.tmp 6),(.const (.int .i64 3))] [67,2] false [(0,.box (zK.enc false x2.2))] [0] (.cons (.pt rfl) (.cons (.same rfl) (.nil))) (zZ.ok x2.2 3) h5 (.same rfl rfl)) (zM 5 (zDR 49 2 1 2 jV [0,0,x4.1] [0,1,2] [(.const (.int .i64 0)),(.const (.int .i64 0)),(.tmp 7)] [iv 0,iv 0,iv x4.1]) (zM 6 (jC («as»:=[pp 0,rr 2 [0,0,x4.1]]) [(.tmp 5),(.tmp 8)] [67,49] false [(0,.box (zK.enc false x4.2)),(2,rE 1 jV [0,0,x4.1])] [0,2] (.cons (.pt rfl) (.cons (.rf rfl) (.nil))) (yM.ok x4.2 [0,0,x4.1]) h7 (.same rfl rfl)) (zM 9 (jC («as»:=[pp 0,iv 3]) [(.tmp 11),(.const (.int .i64 3))] [67,2] false [(0,.box (zK.enc false x6.2))] [0] (.cons (.pt rfl) (.cons (.same rfl) (.nil))) (zZ.ok x6.2 3) h9 (.same rfl rfl)) (zM 10 (zDR 49 2 1 3 jV [0,0,0,x8.1] [0,1,2,3] [(.const (.int .i64 0)),(.const (.int .i64 0)),(.const (.int .i64 0)),(.tmp 12)] [iv 0,iv 0,iv 0,iv x8.1]) (zM 11 (jC («as»:=[pp 0,rr 3 [0,0,0,x8.1]]) [(.tmp 10),(.tmp 13)] [67,49] false [(0,.box (zK.enc false x8.2)),(3,rE 1 jV [0,0,0,x8.1])] [0,3] (.cons (.pt rfl) (.cons (.rf rfl) (.nil))) (yM.ok x8.2 [0,0,0,x8.1]) h11 (.same rfl rfl)) zB))))))) ?_
 exact xA rfl
noncomputable def c68:Code:=(Tryz.f68.body).getD .skip
theorem uH.ok (a1:zK):Ok Tryz.prog 68 [pp 0] [.box (zK.enc false a1)] ((uH a1).map fun r=>(.ag (Term.enc r.1),[.box (zK.enc false r.2)])):=by
 refine zS c68 Tryz.f68 1 24 (fun q=>?_)
 unfold uH
 refine J_d 2 [(0,1)] [2] [(2,pp 1)] [1] [(1,.box [sv ByteArray.empty,iv 0,iv 0,iv 0,iv 0,iv 0,iv 0])] zB ?_
 refine zA (fun x2 h3=>?_)
 refine zA (fun x4 h5=>?_)
 refine J_d 6 [(3,2)] [3] [(3,pp 2)] [0,2] [(0,.box (zK.enc false x2.2)),(2,.box (Term.enc x4))] (zM 1 (jC («as»:=[pp 0]) [(.tmp 4)] [67] false [(0,.box (zK.enc false a1))] [0] (.cons (.pt rfl) (.nil)) (xQ.ok a1) h3 (.same rfl rfl)) (zM 2 (wU [(.tmp 5)] [9] (kG.ok x2.1) h5) zB)) ?_
 refine zA (fun x6 h7=>?_)
 refine J_d 28 [] [8] [(8,bv x6.1)] [0] [(0,.box (zK.enc false x6.2))] (zM 1 (jC («as»:=[pp 0,iv 2]) [(.tmp 7),(.const (.int .i64 2))] [67,2] false [(0,.box (zK.enc false x2.2))] [0] (.cons (.pt rfl) (.cons (.same rfl) (.nil))) (yZ.ok x2.2 2) h7 (.same rfl rfl)) zB) ?_
 refine xY (atI c68 15) (fun v11:((List Int)×Int×Int×Int×Int)=>St.mk' [(0,pp 0),(2,pp 1),(3,pp 2)] [(0,.box [sl 1 eU8 v11.1,iv v11.2.1]),(1,.box [sv ByteArray.empty,iv 0,iv 0,iv 0,iv 0,iv 0,iv 0]),(2,.box [sv x4.Name,iv v11.2.2.1,iv v11.2.2.2.1,iv v11.2.2.2.2,iv x4.High.A,iv x4.High.B,iv x4.High.C])]) (fun v11=>?_) (fun jv11=>?_)
 ·refine zA (fun x12 h13=>?_)
  refine J_d 60 [] [13] [(13,bv x12.1)] [0] [(0,.box (zK.enc false x12.2))] (zM 1 (jC («as»:=[pp 0,iv 3]) [(.tmp 12),(.const (.int .i64 3))] [67,2] false [(0,.box [sl 1 eU8 v11.1,iv v11.2.1])] [0] (.cons (.pt rfl) (.cons (.same rfl) (.nil))) (yZ.ok ({Code:=v11.1,At:=v11.2.1}:zK) 3) h13 (.same rfl rfl)) zB) ?_
  refine xY (atI c68 31) (fun v17:((List Int)×Int×Int×Int×Int)=>St.mk' [(2,pp 1),(3,pp 2)] [(0,.box [sl 1 eU8 v17.1,iv v17.2.1]),(1,.box [sv ByteArray.empty,iv 0,iv 0,iv 0,iv 0,iv 0,iv 0]),(2,.box [sv x4.Name,iv v11.2.2.1,iv v11.2.2.2.1,iv v11.2.2.2.2,iv v17.2.2.1,iv v17.2.2.2.1,iv v17.2.2.2.2])]) (fun v17=>?_) (fun jv17=>?_)
  ·refine J_g 62 [] [(2,pp 1)] [(0,.box [sl 1 eU8 v17.1,iv v17.2.1]),(1,.box [sv x4.Name,iv v11.2.2.1,iv v11.2.2.2.1,iv v11.2.2.2.2,iv v17.2.2.1,iv v17.2.2.2.1,iv v17.2.2.2.2])] zB ?_
   exact xA rfl
  ·refine zU 13 (fun h14=>?_) (fun h14=>?_)
   ·refine zA (fun x15 h16=>?_)
    refine J_d 122 [] [0,13] [] [0,2] [(0,.box (zK.enc false x15.2)),(2,.box [sv x4.Name,iv v11.2.2.1,iv v11.2.2.2.1,iv v11.2.2.2.2,iv (w64 ((w64 (v11.2.2.1+1))+x15.1)),iv 0,iv 0])] (zM 5 (jC («as»:=[pp 0,iv 2]) [(.tmp 18),(.const (.int .i64 2))] [67,2] false [(0,.box (zK.enc false x12.2))] [0] (.cons (.pt rfl) (.cons (.same rfl) (.nil))) (zZ.ok x12.2 2) h16 (.same rfl rfl)) zB) ?_
    exact xS (J_j (jv17 (x15.2.Code,x15.2.At,w64 ((w64 (v11.2.2.1+1))+x15.1),0,0))) rfl
   ·exact xS (J_j (jv17 (x12.2.Code,x12.2.At,x4.High.A,x4.High.B,x4.High.C))) rfl
 ·refine zU 8 (fun h8=>?_) (fun h8=>?_)
  ·refine zA (fun x9 h10=>?_)
   refine J_d 58 [] [8] [] [0,2] [(0,.box (zK.enc false x9.2)),(2,.box [sv x4.Name,iv x9.1.A,iv x9.1.B,iv x9.1.C,iv x4.High.A,iv x4.High.B,iv x4.High.C])] (zM 1 (jC («as»:=[pp 0]) [(.tmp 9)] [67] false [(0,.box (zK.enc false x6.2))] [0] (.cons (.pt rfl) (.nil)) (xL.ok x6.2) h10 (.ag (.cons (.same rfl rfl) (.cons (.same rfl rfl) (.cons (.same rfl rfl) (.nil)))))) zB) ?_
   exact xS (J_j (jv11 (x9.2.Code,x9.2.At,x9.1.A,x9.1.B,x9.1.C))) rfl
  ·exact xS (J_j (jv11 (x6.2.Code,x6.2.At,x4.Low.A,x4.Low.B,x4.Low.C))) rfl
noncomputable def zKU:Code:=(Tryz.f134.body).getD .skip
theorem vM.ok (a1:zK):Ok Tryz.prog 134 [pp 0] [.box (zK.enc false a1)] ((vM a1).map fun r=>(sv r.1,[.box (zK.enc false r.2)])):=by
 refine zS zKU Tryz.f134 1 12 (fun q=>?_)
 unfold vM
 refine J_d 2 [] [] [] [] [] zB ?_
 refine zA (fun x2 h3=>?_)
 refine J_g 12 [] [(0,pp 0),(4,bv x2.1)] [(0,.box (zK.enc false x2.2))] (zM 1 (jC («as»:=[pp 0,iv 14]) [(.tmp 3),(.const (.int .i64 14))] [67,2] false [(0,.box (zK.enc false a1))] [0] (.cons (.pt rfl) (.cons (.same rfl) (.nil))) (yZ.ok a1 14) h3 (.same rfl rfl)) zB) ?_
 refine zU 4 (fun h4=>?_) (fun h4=>?_)
 ·refine zA (fun x5 h6=>?_)
  refine zA (fun x7 h8=>?_)
  refine J_g 52 [] [(2,sv x7)] [(0,.box (zK.enc false x5.2))] (zM 0 (zDR 90 9 1 1 eStr [bs [],bs [49,97],bs [65],bs [97,98,99,100,101,102,103,104,105,106,107,108,109],bs [97,98,99,100,101,102,103,104,105,106,107,108],bs [97,32,98],bs [97,45],bs [95,97],bs [97,95,49]] [0,1,2,3,4,5,6,7,8] [(.const (.string (bs []))),(.const (.string (bs [49,97]))),(.const (.string (bs [65]))),(.const (.string (bs [97,98,99,100,101,102,103,104,105,106,107,108,109]))),(.const (.string (bs [97,98,99,100,101,102,103,104,105,106,107,108]))),(.const (.string (bs [97,32,98]))),(.const (.string (bs [97,45]))),(.const (.string (bs [95,97]))),(.const (.string (bs [97,95,49])))] [sv (bs []),sv (bs [49,97]),sv (bs [65]),sv (bs [97,98,99,100,101,102,103,104,105,106,107,108,109]),sv (bs [97,98,99,100,101,102,103,104,105,106,107,108]),sv (bs [97,32,98]),sv (bs [97,45]),sv (bs [95,97]),sv (bs [97,95,49])]) (zM 2 (jC («as»:=[pp 0,iv 9]) [(.tmp 6),(.const (.int .i64 9))] [67,2] false [(0,.box (zK.enc false x2.2))] [0] (.cons (.pt rfl) (.cons (.same rfl) (.nil))) (zZ.ok x2.2 9) h6 (.same rfl rfl)) (zM 3 (zBM (kk:=.i64) 90 9 1 1 eStr (.tmp 5) (.tmp 7) h8) (zM 4 (zAZ (d:=sv x7) 9 1 1 0 eStr (.tmp 8) h8 (by kernel_rfl)) zB)))) ?_
  exact xA rfl
 ·refine zA (fun x9 h10=>?_)
  refine J_g 14 [] [(2,sv x9.1)] [(0,.box (zK.enc false x9.2))] (zM 1 (jC («as»:=[pp 0]) [(.tmp 10)] [67] false [(0,.box (zK.enc false x2.2))] [0] (.cons (.pt rfl) (.nil)) (xQ.ok x2.2) h10 (.same rfl rfl)) zB) ?_
  exact xA rfl
noncomputable def zKN:Code:=(Tryz.f135.body).getD .skip
theorem yR.ok (a1:zK):Ok Tryz.prog 135 [pp 0] [.box (zK.enc false a1)] ((yR a1).map fun r=>(.ag (Version.enc r.1),[.box (zK.enc false r.2)])):=by
 refine zS zKN Tryz.f135 1 27 (fun q=>?_)
 unfold yR
 refine J_d 2 [(0,1)] [2] [(2,pp 1)] [1] [(1,.box [iv 0,iv 0,iv 0])] zB ?_
 refine zA (fun x2 h3=>?_)
 refine J_d 6 [(2,2)] [3] [(3,pp 2)] [0,2] [(0,.box (zK.enc false x2.2)),(2,.box (Version.enc x2.1))] (zM 1 (jC («as»:=[pp 0]) [(.tmp 4)] [67] false [(0,.box (zK.enc false a1))] [0] (.cons (.pt rfl) (.nil)) (xL.ok a1) h3 (.ag (.cons (.same rfl rfl) (.cons (.same rfl rfl) (.cons (.same rfl rfl) (.nil)))))) zB) ?_
 refine zA (fun x4 h5=>?_)
 refine J_g 28 [] [(0,pp 0),(2,pp 1),(3,pp 2),(7,iv x4.1)] [(0,.box (zK.enc false x4.2)),(1,.box [iv 0,iv 0,iv 0]),(2,.box (Version.enc x2.1))] (zM 1 (jC («as»:=[pp 0,iv 14]) [(.tmp 6),(.const (.int .i64 14))] [67,2] false [(0,.box (zK.enc false x2.2))] [0] (.cons (.pt rfl) (.cons (.same rfl) (.nil))) (zZ.ok x2.2 14) h5 (.same rfl rfl)) zB) ?_
 refine J_d 116 [] [8] [(8,bv (x4.1==0))] [] [] zB ?_
 refine xY (aft zKN 58) (fun v15:((List Int)×Int×Int×Int×Int)=>St.mk' [(2,pp 1),(3,pp 2)] [(0,.box [sl 1 eU8 v15.1,iv v15.2.1]),(1,.box [iv 0,iv 0,iv 0]),(2,.box [iv v15.2.2.1,iv v15.2.2.2.1,iv v15.2.2.2.2])]) (fun v15=>?_) (fun jv15=>?_)
 ·refine J_g 30 [] [(2,pp 1)] [(0,.box [sl 1 eU8 v15.1,iv v15.2.1]),(1,.box [iv v15.2.2.1,iv v15.2.2.2.1,iv v15.2.2.2.2])] zB ?_
  exact xA rfl
 ·refine zU 8 (fun h6=>?_) (fun h6=>?_)
  ·refine zA (fun x7 h8=>?_)
   refine J_d 234 [] [0,7,8] [] [0,2] [(0,.box (zK.enc false x7.2)),(2,.box [iv x7.1,iv x2.1.B,iv x2.1.C])] (zM 1 (zDR 49 2 1 3 jV [(-1),999,1000] [0,1,2] [(.const (.int .i64 (-1))),(.const (.int .i64 999)),(.const (.int .i64 1000))] [iv (-1),iv 999,iv 1000]) (zM 2 (jC («as»:=[pp 0,rr 3 [(-1),999,1000]]) [(.tmp 10),(.tmp 11)] [67,49] false [(0,.box (zK.enc false x4.2)),(3,rE 1 jV [(-1),999,1000])] [0,3] (.cons (.pt rfl) (.cons (.rf rfl) (.nil))) (yM.ok x4.2 [(-1),999,1000]) h8 (.same rfl rfl)) zB)) ?_
   exact xS (J_j (jv15 (x7.2.Code,x7.2.At,x7.1,x2.1.B,x2.1.C))) rfl
  ·refine J_d 470 [] [8,14] [(14,bv (x4.1==1))] [] [] zB ?_
   refine zU 14 (fun h9=>?_) (fun h9=>?_)
   ·refine zA (fun x10 h11=>?_)
    refine J_d 942 [] [0,7,14] [] [0,2] [(0,.box (zK.enc false x10.2)),(2,.box [iv x2.1.A,iv x10.1,iv x2.1.C])] (zM 1 (zDR 49 2 1 3 jV [(-1),999,1000] [0,1,2] [(.const (.int .i64 (-1))),(.const (.int .i64 999)),(.const (.int .i64 1000))] [iv (-1),iv 999,iv 1000]) (zM 2 (jC («as»:=[pp 0,rr 3 [(-1),999,1000]]) [(.tmp 16),(.tmp 17)] [67,49] false [(0,.box (zK.enc false x4.2)),(3,rE 1 jV [(-1),999,1000])] [0,3] (.cons (.pt rfl) (.cons (.rf rfl) (.nil))) (yM.ok x4.2 [(-1),999,1000]) h11 (.same rfl rfl)) zB)) ?_
    exact xS (J_j (jv15 (x10.2.Code,x10.2.At,x2.1.A,x10.1,x2.1.C))) rfl
   ·refine J_d 1886 [] [7,14,20] [(20,bv (x4.1==2))] [] [] zB ?_
    refine zU 20 (fun h12=>?_) (fun h12=>?_)
    ·refine zA (fun x13 h14=>?_)
     refine J_d 3774 [] [0,20] [] [0,2] [(0,.box (zK.enc false x13.2)),(2,.box [iv x2.1.A,iv x2.1.B,iv x13.1])] (zM 1 (zDR 49 2 1 3 jV [(-1),999,1000,4611686018427387904] [0,1,2,3] [(.const (.int .i64 (-1))),(.const (.int .i64 999)),(.const (.int .i64 1000)),(.const (.int .i64 4611686018427387904))] [iv (-1),iv 999,iv 1000,iv 4611686018427387904]) (zM 2 (jC («as»:=[pp 0,rr 3 [(-1),999,1000,4611686018427387904]]) [(.tmp 22),(.tmp 23)] [67,49] false [(0,.box (zK.enc false x4.2)),(3,rE 1 jV [(-1),999,1000,4611686018427387904])] [0,3] (.cons (.pt rfl) (.cons (.rf rfl) (.nil))) (yM.ok x4.2 [(-1),999,1000,4611686018427387904]) h14 (.same rfl rfl)) zB)) ?_
     exact xS (J_j (jv15 (x13.2.Code,x13.2.At,x2.1.A,x2.1.B,x13.1))) rfl
    ·exact xS (J_j (jv15 (x4.2.Code,x4.2.At,x2.1.A,x2.1.B,x2.1.C))) rfl
noncomputable def c70:Code:=(Tryz.f70.body).getD .skip
theorem vN.ok (a1:zK):Ok Tryz.prog 70 [pp 0] [.box (zK.enc false a1)] ((vN a1).map fun r=>(.ag (Term.enc r.1),[.box (zK.enc false r.2)])):=by
 refine zS c70 Tryz.f70 1 29 (fun q=>?_)
 unfold vN
 refine J_d 2 [(0,1)] [2] [(2,pp 1)] [1] [(1,.box [sv ByteArray.empty,iv 0,iv 0,iv 0,iv 0,iv 0,iv 0])] zB ?_
 refine zA (fun x2 h3=>?_)
 refine J_d 6 [(2,2)] [3] [(3,pp 2)] [0,2] [(0,.box (zK.enc false x2.2)),(2,.box (Term.enc x2.1))] (zM 1 (jC («as»:=[pp 0]) [(.tmp 4)] [67] false [(0,.box (zK.enc false a1))] [0] (.cons (.pt rfl) (.nil)) (uH.ok a1) h3 (.ag (.cons (.same rfl rfl) (.cons (.same rfl rfl) (.cons (.same rfl rfl) (.cons (.same rfl rfl) (.cons (.same rfl rfl) (.cons (.same rfl rfl) (.cons (.same rfl rfl) (.nil)))))))))) zB) ?_
 refine zA (fun x4 h5=>?_)
 refine J_g 28 [] [(0,pp 0),(2,pp 1),(3,pp 2),(7,iv x4.1)] [(0,.box (zK.enc false x4.2)),(1,.box [sv ByteArray.empty,iv 0,iv 0,iv 0,iv 0,iv 0,iv 0]),(2,.box (Term.enc x2.1))] (zM 1 (jC («as»:=[pp 0,iv 14]) [(.tmp 6),(.const (.int .i64 14))] [67,2] false [(0,.box (zK.enc false x2.2))] [0] (.cons (.pt rfl) (.cons (.same rfl) (.nil))) (zZ.ok x2.2 14) h5 (.same rfl rfl)) zB) ?_
 refine J_d 116 [] [8] [(8,bv (x4.1==0))] [] [] zB ?_
 refine xY (aft c70 58) (fun v16:((List Int)×Int×ByteArray×Int×Int×Int×Int×Int×Int)=>St.mk' [(2,pp 1),(3,pp 2)] [(0,.box [sl 1 eU8 v16.1,iv v16.2.1]),(1,.box [sv ByteArray.empty,iv 0,iv 0,iv 0,iv 0,iv 0,iv 0]),(2,.box [sv v16.2.2.1,iv v16.2.2.2.1,iv v16.2.2.2.2.1,iv v16.2.2.2.2.2.1,iv v16.2.2.2.2.2.2.1,iv v16.2.2.2.2.2.2.2.1,iv v16.2.2.2.2.2.2.2.2])]) (fun v16=>?_) (fun jv16=>?_)
 ·refine J_g 30 [] [(2,pp 1)] [(0,.box [sl 1 eU8 v16.1,iv v16.2.1]),(1,.box [sv v16.2.2.1,iv v16.2.2.2.1,iv v16.2.2.2.2.1,iv v16.2.2.2.2.2.1,iv v16.2.2.2.2.2.2.1,iv v16.2.2.2.2.2.2.2.1,iv v16.2.2.2.2.2.2.2.2])] zB ?_
  exact xA rfl
 ·refine zU 8 (fun h6=>?_) (fun h6=>?_)
  ·refine zA (fun x7 h8=>?_)
   refine J_d 234 [] [0,7,8] [] [0,2] [(0,.box (zK.enc false x7.2)),(2,.box [sv x7.1,iv x2.1.Low.A,iv x2.1.Low.B,iv x2.1.Low.C,iv x2.1.High.A,iv x2.1.High.B,iv x2.1.High.C])] (zM 1 (jC («as»:=[pp 0]) [(.tmp 10)] [67] false [(0,.box (zK.enc false x4.2))] [0] (.cons (.pt rfl) (.nil)) (vM.ok x4.2) h8 (.same rfl rfl)) zB) ?_
   exact xS (J_j (jv16 (x7.2.Code,x7.2.At,x7.1,x2.1.Low.A,x2.1.Low.B,x2.1.Low.C,x2.1.High.A,x2.1.High.B,x2.1.High.C))) rfl
  ·refine J_d 470 [] [8,13] [(13,bv (x4.1==1))] [] [] zB ?_
   refine zU 13 (fun h9=>?_) (fun h9=>?_)
   ·refine zA (fun x10 h11=>?_)
    refine J_d 942 [] [0,7,13] [] [0,2] [(0,.box (zK.enc false x10.2)),(2,.box [sv x2.1.Name,iv x10.1.A,iv x10.1.B,iv x10.1.C,iv x2.1.High.A,iv x2.1.High.B,iv x2.1.High.C])] (zM 1 (jC («as»:=[pp 0]) [(.tmp 15)] [67] false [(0,.box (zK.enc false x4.2))] [0] (.cons (.pt rfl) (.nil)) (yR.ok x4.2) h11 (.ag (.cons (.same rfl rfl) (.cons (.same rfl rfl) (.cons (.same rfl rfl) (.nil)))))) zB) ?_
    exact xS (J_j (jv16 (x10.2.Code,x10.2.At,x2.1.Name,x10.1.A,x10.1.B,x10.1.C,x2.1.High.A,x2.1.High.B,x2.1.High.C))) rfl
   ·refine J_d 1886 [] [13,18] [(18,bv (x4.1==2))] [] [] zB ?_
    refine zU 18 (fun h12=>?_) (fun h12=>?_)
    ·refine zA (fun x13 h14=>?_)
     refine J_d 3774 [] [0,7,18] [] [0,2] [(0,.box (zK.enc false x13.2)),(2,.box [sv x2.1.Name,iv x2.1.Low.A,iv x2.1.Low.B,iv x2.1.Low.C,iv x13.1.A,iv x13.1.B,iv x13.1.C])] (zM 1 (jC («as»:=[pp 0]) [(.tmp 20)] [67] false [(0,.box (zK.enc false x4.2))] [0] (.cons (.pt rfl) (.nil)) (yR.ok x4.2) h14 (.ag (.cons (.same rfl rfl) (.cons (.same rfl rfl) (.cons (.same rfl rfl) (.nil)))))) zB) ?_
     exact xS (J_j (jv16 (x13.2.Code,x13.2.At,x2.1.Name,x2.1.Low.A,x2.1.Low.B,x2.1.Low.C,x13.1.A,x13.1.B,x13.1.C))) rfl
    ·refine J_d 7550 [] [0,7,18,23] [(23,bv (x4.1==3))] [] [] zB ?_
     refine zU 23 (fun h15=>?_) (fun h15=>?_)
     ·refine J_d 15102 [] [23] [] [2] [(2,.box [sv x2.1.Name,iv x2.1.Low.A,iv x2.1.Low.B,iv x2.1.Low.C,iv x2.1.Low.A,iv x2.1.Low.B,iv x2.1.Low.C])] zB ?_
      exact xS (J_j (jv16 (x4.2.Code,x4.2.At,x2.1.Name,x2.1.Low.A,x2.1.Low.B,x2.1.Low.C,x2.1.Low.A,x2.1.Low.B,x2.1.Low.C))) rfl
     ·exact xS (J_j (jv16 (x4.2.Code,x4.2.At,x2.1.Name,x2.1.Low.A,x2.1.Low.B,x2.1.Low.C,x2.1.High.A,x2.1.High.B,x2.1.High.C))) rfl
noncomputable def c30:Code:=(Tryz.f30.body).getD .skip
theorem jT.ok (q:Wd) (kn:((List Int)×Int×(List Term))→Option (D×List Ent)) (hk:∀v:((List Int)×Int×(List Term)),J (q.g Tryz.prog 30 1 26) c30 (atI c30 15) (St.mk' [(0,pp 0),(3,rr 1 v.2.2)] [(0,.box [sl 1 eU8 v.1,iv v.2.1]),(1,rE 7 Term.enc v.2.2)]) (some v) kn):
  ∀s9:((List Int)×Int×(List Term)×Int),J (q.g Tryz.prog 30 1 26) c30 (atI c30 116) (St.mk' [(0,pp 0),(3,rr 1 s9.2.2.1),(4,iv s9.2.2.2)] [(0,.box [sl 1 eU8 s9.1,iv s9.2.1]),(1,rE 7 Term.enc s9.2.2.1)]) (jT s9) kn:=by
 refine zC6 (fun g ih s9=>?_)
 unfold jI
 refine J_d 464 [] [10] [(10,bv (decide (s9.2.2.2>0)))] [] [] zB ?_
 refine zU 10 (fun h10=>?_) (fun h10=>?_)
 ·refine zA (fun x11 h12=>?_)
  refine zA (fun x13 h14=>?_)
  refine J_g 932 [] [(0,pp 0),(3,rr 3 x13),(4,iv s9.2.2.2)] [(0,.box (zK.enc false x11.2)),(3,rE 7 Term.enc x13)] (zM 2 (jC («as»:=[pp 0]) [(.tmp 14)] [67] false [(0,.box [sl 1 eU8 s9.1,iv s9.2.1])] [0] (.cons (.pt rfl) (.nil)) (uH.ok ({Code:=s9.1,At:=s9.2.1}:zK)) h12 (.ag (.cons (.same rfl rfl) (.cons (.same rfl rfl) (.cons (.same rfl rfl) (.cons (.same rfl rfl) (.cons (.same rfl rfl) (.cons (.same rfl rfl) (.cons (.same rfl rfl) (.nil)))))))))) (zM 3 (zDR 24 41 7 2 Term.enc [x11.1] [0] [(.tmp 15)] [.ag (Term.enc x11.1)]) (zM 4 (zJC 24 24 41 41 7 64 3 1 2 Term.enc (.tmp 13) (.tmp 16) h14) zB))) ?_
  refine J_d 467 [] [4] [(4,iv (w64 (s9.2.2.2-1)))] [] [] zB ?_
  refine zDz 3 1 (Nat.le_of_ble_eq_true rfl) (Nat.le_of_ble_eq_true rfl) ?_
  exact J_q (J_b (ih (x11.2.Code,x11.2.At,x13,w64 (s9.2.2.2-1)))) rfl
 ·exact xS (hk (s9.1,s9.2.1,s9.2.2.1)) rfl
theorem jZ.ok (a1:zK):Ok Tryz.prog 30 [pp 0] [.box (zK.enc false a1)] ((jZ a1).map fun r=>(so 7 Term.enc r.1,[.box (zK.enc false r.2)])):=by
 refine zS c30 Tryz.f30 1 26 (fun q=>?_)
 unfold jZ
 refine J_g 2 [] [(0,pp 0)] [(0,.box (zK.enc false a1))] zB ?_
 refine J_d 6 [] [3] [(3,rr 1 ([]:List Term))] [1] [(1,rE 7 Term.enc ([]:List Term))] (zM 0 (zDR 24 41 7 1 Term.enc ([]:List Term) [] [] []) zB) ?_
 refine zA (fun x2 h3=>?_)
 refine J_d 28 [] [4] [(4,iv x2.1)] [0] [(0,.box (zK.enc false x2.2))] (zM 1 (zDR 49 2 1 2 jV [0,1,1,2,3] [0,1,2,3,4] [(.const (.int .i64 0)),(.const (.int .i64 1)),(.const (.int .i64 1)),(.const (.int .i64 2)),(.const (.int .i64 3))] [iv 0,iv 1,iv 1,iv 2,iv 3]) (zM 2 (jC («as»:=[pp 0,rr 2 [0,1,1,2,3]]) [(.tmp 6),(.tmp 7)] [67,49] false [(0,.box (zK.enc false a1)),(2,rE 1 jV [0,1,1,2,3])] [0,2] (.cons (.pt rfl) (.cons (.rf rfl) (.nil))) (yM.ok a1 [0,1,1,2,3]) h3 (.same rfl rfl)) zB)) ?_
 refine zIz (jT.ok q _ (fun v15=>J_j ?_) (x2.2.Code,x2.2.At,([]:List Term),x2.1))
 refine zA (fun x16 h17=>?_)
 refine J_d 60 [] [19] [(19,bv x16.1)] [0] [(0,.box (zK.enc false x16.2))] (zM 1 (jC («as»:=[pp 0,iv 24]) [(.tmp 18),(.const (.int .i64 24))] [67,2] false [(0,.box [sl 1 eU8 v15.1,iv v15.2.1])] [0] (.cons (.pt rfl) (.cons (.same rfl) (.nil))) (yZ.ok ({Code:=v15.1,At:=v15.2.1}:zK) 24) h17 (.same rfl rfl)) zB) ?_
 refine xY (atI c30 31) (fun v23:((List Int)×Int×(List Term))=>St.mk' [(3,rr 3 v23.2.2)] [(0,.box [sl 1 eU8 v23.1,iv v23.2.1]),(3,rE 7 Term.enc v23.2.2)]) (fun v23=>?_) (fun jv23=>?_)
 ·refine J_g 62 [] [(2,rr 3 v23.2.2)] [(0,.box [sl 1 eU8 v23.1,iv v23.2.1]),(3,rE 7 Term.enc v23.2.2)] zB ?_
  exact zC7 (ds:=[rr 3 v23.2.2]) (ds':=[so 7 Term.enc v23.2.2]) (.cons (.cell (.move (.tail _ (.head _)) (List.length_map _) (by decide) (.nil))) (.nil) (by decide)) rfl
 ·refine zU 19 (fun h18=>?_) (fun h18=>?_)
  ·refine zA (fun x19 h20=>?_)
   refine zA (fun x21 h22=>?_)
   refine J_g 122 [] [(3,rr 3 x21)] [(0,.box (zK.enc false x19.2)),(3,rE 7 Term.enc x21)] (zM 2 (jC («as»:=[pp 0]) [(.tmp 21)] [67] false [(0,.box (zK.enc false x16.2))] [0] (.cons (.pt rfl) (.nil)) (vN.ok x16.2) h20 (.ag (.cons (.same rfl rfl) (.cons (.same rfl rfl) (.cons (.same rfl rfl) (.cons (.same rfl rfl) (.cons (.same rfl rfl) (.cons (.same rfl rfl) (.cons (.same rfl rfl) (.nil)))))))))) (zM 3 (zDR 24 41 7 2 Term.enc [x19.1] [0] [(.tmp 22)] [.ag (Term.enc x19.1)]) (zM 4 (zJC 24 24 41 41 7 64 3 1 2 Term.enc (.tmp 20) (.tmp 23) h22) zB))) ?_
   exact xS (J_j (jv23 (x19.2.Code,x19.2.At,x21))) rfl
  ·refine zDz 1 3 (Nat.le_of_ble_eq_true rfl) (Nat.le_of_ble_eq_true rfl) ?_
   exact xS (J_j (jv23 (x16.2.Code,x16.2.At,v15.2.2))) rfl
noncomputable def c6:Code:=(Tryz.f6.body).getD .skip
theorem xP.ok (a1:(List Int)):Ok Tryz.prog 6 [sl 1 eU8 a1] [] ((xP a1).map fun r=>(so 7 Term.enc r,[])):=by
 refine zS c6 Tryz.f6 0 6 (fun q=>?_)
 unfold xP
 refine J_g 2 [] [(0,sl 1 eU8 a1)] [] zB ?_
 refine zA (fun x2 h3=>?_)
 refine zA (fun x4 h5=>?_)
 refine J_g 6 [] [(2,rr 1 x4.1)] [(1,rE 7 Term.enc x4.1)] (zM 1 (jC («as»:=[sl 1 eU8 a1]) [(.tmp 3)] [22] false [] [] (.cons (.same rfl) (.nil)) (jM.ok a1) h3 (.po 0 rfl)) (zM 2 (jC («as»:=[pp 0]) [(.tmp 4)] [67] false [(0,.box (zK.enc false x2))] [0] (.cons (.pt rfl) (.nil)) (jZ.ok x2) h5 (.own 1)) zB)) ?_
 exact zC7 (ds:=[rr 1 x4.1]) (ds':=[so 7 Term.enc x4.1]) (.cons (.cell (.move (.head _) (List.length_map _) (by decide) (.nil))) (.nil) (by decide)) rfl
noncomputable def zKZ:Code:=(Tryz.f151.body).getD .skip
theorem yC.ok (a1:Int):Ok Tryz.prog 151 [uv a1] [] ((yC a1).map fun r=>(bv r,[])):=by
 refine zS zKZ Tryz.f151 0 21 (fun q=>?_)
 unfold yC
 refine J_g 2 [] [(0,uv a1)] [] zB ?_
 refine wZ (fun h2=>?_) (fun h2=>?_)
 ·refine wZ (fun h3=>?_) (fun h3=>?_)
  ·refine J_g 6 [] [(2,bv true)] [] (xX 2 [(4,bv (decide (a1≥97)))] [] h2 (xX 6 [(8,bv (decide (a1≤122)))] [] h3 (zIb 9 (zIc (i:=9) (g:=6) (t:=9) (b:=false) (v:=(.bool true)) (.inl rfl) (by kernel_rfl) (by kernel_rfl)) (zIb 10 (zIc (i:=10) (g:=9) (t:=12) (b:=true) (v:=undef) (.inr rfl) (by kernel_rfl) (by kernel_rfl)) (zIb 11 (zIc (i:=11) (g:=9) (t:=12) (b:=true) (v:=undef) (.inr rfl) (by kernel_rfl) (by kernel_rfl)) zB))))) ?_
   exact xA rfl
  ·refine wZ (fun h4=>?_) (fun h4=>?_)
   ·refine wZ (fun h5=>?_) (fun h5=>?_)
    ·refine J_g 6 [] [(2,bv true)] [] (xX 2 [(4,bv (decide (a1≥97)))] [] h2 (xX 6 [(8,bv (decide (a1≤122)))] [] h3 (zFk 9 6 9 false [(11,bv (decide (a1≥48)))] [] h4 (xX 14 [(16,bv (decide (a1≤57)))] [] h5 zB)))) ?_
     exact xA rfl
    ·refine J_g 6 [] [(2,bv (a1==95))] [] (xX 2 [(4,bv (decide (a1≥97)))] [] h2 (xX 6 [(8,bv (decide (a1≤122)))] [] h3 (zFk 9 6 9 false [(11,bv (decide (a1≥48)))] [] h4 (xX 14 [(16,bv (decide (a1≤57)))] [] h5 zB)))) ?_
     exact xA rfl
   ·refine J_g 6 [] [(2,bv (a1==95))] [] (xX 2 [(4,bv (decide (a1≥97)))] [] h2 (xX 6 [(8,bv (decide (a1≤122)))] [] h3 (zFk 9 6 9 false [(11,bv (decide (a1≥48)))] [] h4 zB))) ?_
    exact xA rfl
 ·refine wZ (fun h6=>?_) (fun h6=>?_)
  ·refine wZ (fun h7=>?_) (fun h7=>?_)
   ·refine J_g 6 [] [(2,bv true)] [] (xX 2 [(4,bv (decide (a1≥97)))] [] h2 (zFk 9 6 9 false [(11,bv (decide (a1≥48)))] [] h6 (xX 14 [(16,bv (decide (a1≤57)))] [] h7 zB))) ?_
    exact xA rfl
   ·refine J_g 6 [] [(2,bv (a1==95))] [] (xX 2 [(4,bv (decide (a1≥97)))] [] h2 (zFk 9 6 9 false [(11,bv (decide (a1≥48)))] [] h6 (xX 14 [(16,bv (decide (a1≤57)))] [] h7 zB))) ?_
    exact xA rfl
  ·refine J_g 6 [] [(2,bv (a1==95))] [] (xX 2 [(4,bv (decide (a1≥97)))] [] h2 (zFk 9 6 9 false [(11,bv (decide (a1≥48)))] [] h6 zB)) ?_
   exact xA rfl
noncomputable def zJF:Code:=(Tryz.f136.body).getD .skip
theorem vD.ok (a1:ByteArray) (q:Wd) (kn:Unit→Option (D×List Ent)) (hk:∀v:Unit,J (q.g Tryz.prog 136 0 33) zJF (atI zJF 15) (St.mk' [] []) (some v) kn):
  ∀s17:Int,J (q.g Tryz.prog 136 0 33) zJF (atI zJF 116) (St.mk' [(0,sv a1),(23,iv (a1.size:Int)),(24,iv s17)] []) (vD a1 s17) (Fl.go (fun r:Int=>some (iv r,[])) kn):=by
 refine zC6 (fun g ih s17=>?_)
 unfold tV
 refine J_d 232 [] [25] [(25,bv (decide (s17< (a1.size:Int))))] [] [] zB ?_
 refine zU 25 (fun h18=>?_) (fun h18=>?_)
 ·refine J_d 3736 [] [3,25] [(3,iv s17)] [] [] zB ?_
  refine zA (fun x19 h20=>?_)
  refine zA (fun x21 h22=>?_)
  refine J_d 7474 [] [3,31] [(31,bv (!x21))] [] [] (zM 2 (zGN (kk:=.i64) 9 (.tmp 27) (.tmp 28) h20) (zM 3 (wU [(.tmp 29)] [5] (yC.ok x19) h22) zB)) ?_
  refine zU 31 (fun h23=>?_) (fun h23=>?_)
  ·refine J_g 29900 [] [(2,iv 5)] [] zB ?_
   exact xA rfl
  ·refine J_d 935 [] [24,31] [(24,iv (w64 (s17+1)))] [] [] zB ?_
   exact J_q (J_b (ih (w64 (s17+1)))) rfl
 ·exact xS (hk ()) rfl
theorem wM.ok (a1:ByteArray):Ok Tryz.prog 136 [sv a1] [] ((wM a1).map fun r=>(iv r,[])):=by
 refine zS zJF Tryz.f136 0 33 (fun q=>?_)
 unfold wM
 refine J_g 2 [] [(0,sv a1)] [] zB ?_
 refine xY (atI zJF 13) (fun v9:Bool=>St.mk' [(0,sv a1),(21,bv v9)] []) (fun v9=>?_) (fun jv9=>?_)
 ·refine zU 21 (fun h10=>?_) (fun h10=>?_)
  ·refine J_g 52 [] [(2,iv 5)] [] zB ?_
   exact xA rfl
  ·refine J_g 28 [] [(0,sv a1),(23,iv (a1.size:Int)),(24,iv 0)] [] zB ?_
   refine zBo (K0:=(fun r:Int=>some (iv r,[]))) (fun _=>rfl) (vD.ok a1 q _ (fun v24=>J_j ?_) 0)
   refine J_g 30 [] [(2,iv 0)] [] zB ?_
   exact xA rfl
 ·refine wZ (fun h2=>?_) (fun h2=>?_)
  ·refine J_g 12 [] [(0,sv a1),(21,bv true)] [] (xX 3 [(6,bv (decide ((a1.size:Int)<1)))] [] h2 zB) ?_
   exact xS (J_j (jv9 true)) rfl
  ·refine wZ (fun h3=>?_) (fun h3=>?_)
   ·refine J_g 12 [] [(0,sv a1),(21,bv true)] [] (xX 3 [(6,bv (decide ((a1.size:Int)<1)))] [] h2 (xX 8 [(11,bv (decide ((a1.size:Int)>12)))] [] h3 zB)) ?_
    exact xS (J_j (jv9 true)) rfl
   ·refine zA (fun x4 h5=>?_)
    refine wZ (fun h6=>?_) (fun h6=>?_)
    ·refine J_g 12 [] [(0,sv a1),(21,bv true)] [] (xX 3 [(6,bv (decide ((a1.size:Int)<1)))] [] h2 (xX 8 [(11,bv (decide ((a1.size:Int)>12)))] [] h3 (zB8 10 8 12 false (zGN (kk:=.i64) 9 (.tmp 13) (.const (.int .i64 0)) h5) (xX 13 [(16,bv (decide (x4<97)))] [] h6 zB)))) ?_
     exact xS (J_j (jv9 true)) rfl
    ·refine zA (fun x7 h8=>?_)
     refine J_g 12 [] [(0,sv a1),(21,bv (decide (x7>122)))] [] (xX 3 [(6,bv (decide ((a1.size:Int)<1)))] [] h2 (xX 8 [(11,bv (decide ((a1.size:Int)>12)))] [] h3 (zB8 10 8 12 false (zGN (kk:=.i64) 9 (.tmp 13) (.const (.int .i64 0)) h5) (xX 13 [(16,bv (decide (x4<97)))] [] h6 (zB8 15 13 17 false (zGN (kk:=.i64) 9 (.tmp 18) (.const (.int .i64 0)) h8) zB))))) ?_
     exact xS (J_j (jv9 (decide (x7>122)))) rfl
noncomputable def c34:Code:=(Tryz.f34.body).getD .skip
theorem yB.ok (a1:Int) (a2:Int) (a3:Int):Ok Tryz.prog 34 [iv a1,iv a2,iv a3] [] ((yB a1 a2 a3).map fun r=>(bv r,[])):=by
 refine zS c34 Tryz.f34 0 15 (fun q=>?_)
 unfold yB
 refine J_d 2 [] [] [] [] [] zB ?_
 refine wZ (fun h4=>?_) (fun h4=>?_)
 ·refine J_g 6 [] [(6,bv (decide (a1≤a3)))] [] (xX 3 [(9,bv (decide (a2≤a1)))] [] h4 zB) ?_
  exact xA rfl
 ·refine J_g 6 [] [(6,bv false)] [] (xX 3 [(9,bv (decide (a2≤a1)))] [] h4 zB) ?_
  exact xA rfl
noncomputable def zKO:Code:=(Tryz.f137.body).getD .skip
theorem xB.ok (a1:Version):Ok Tryz.prog 137 [.ag (Version.enc a1)] [] ((xB a1).map fun r=>(iv r,[])):=by
 refine zS zKO Tryz.f137 0 19 (fun q=>?_)
 unfold xB
 refine J_g 2 [(0,0)] [(1,pp 0)] [(0,.box (Version.enc a1))] zB ?_
 refine zA (fun x2 h3=>?_)
 refine xY (atI zKO 13) (fun v10:Bool=>St.mk' [(18,bv v10)] []) (fun v10=>?_) (fun jv10=>?_)
 ·refine zU 18 (fun h11=>?_) (fun h11=>?_)
  ·refine J_g 52 [] [(2,iv 3)] [] zB ?_
   exact xA rfl
  ·refine J_g 14 [] [(2,iv 0)] [] zB ?_
   exact xA rfl
 ·refine wZ (fun h4=>?_) (fun h4=>?_)
  ·refine J_g 12 [] [(18,bv true)] [] (zM 2 (wU [(.tmp 4),(.const (.int .i64 0)),(.const (.int .i64 999))] [2,2,2] (yB.ok a1.A 0 999) h3) (xX 4 [(6,bv (!x2))] [] h4 zB)) ?_
   exact xS (J_j (jv10 true)) rfl
  ·refine zA (fun x5 h6=>?_)
   refine wZ (fun h7=>?_) (fun h7=>?_)
   ·refine J_g 12 [] [(18,bv true)] [] (zM 2 (wU [(.tmp 4),(.const (.int .i64 0)),(.const (.int .i64 999))] [2,2,2] (yB.ok a1.A 0 999) h3) (xX 4 [(6,bv (!x2))] [] h4 (zB8 7 4 7 false (wU [(.tmp 9),(.const (.int .i64 0)),(.const (.int .i64 999))] [2,2,2] (yB.ok a1.B 0 999) h6) (xX 10 [(12,bv (!x5))] [] h7 zB)))) ?_
    exact xS (J_j (jv10 true)) rfl
   ·refine zA (fun x8 h9=>?_)
    refine J_g 12 [] [(18,bv (!x8))] [] (zM 2 (wU [(.tmp 4),(.const (.int .i64 0)),(.const (.int .i64 999))] [2,2,2] (yB.ok a1.A 0 999) h3) (xX 4 [(6,bv (!x2))] [] h4 (zB8 7 4 7 false (wU [(.tmp 9),(.const (.int .i64 0)),(.const (.int .i64 999))] [2,2,2] (yB.ok a1.B 0 999) h6) (xX 10 [(12,bv (!x5))] [] h7 (zB8 13 10 13 false (wU [(.tmp 15),(.const (.int .i64 0)),(.const (.int .i64 999))] [2,2,2] (yB.ok a1.C 0 999) h9) zB))))) ?_
    exact xS (J_j (jv10 (!x8))) rfl
noncomputable def c73:Code:=(Tryz.f73.body).getD .skip
theorem jP.ok:Ok Tryz.prog 73 [] [] ((jP).map fun r=>(.ag (Version.enc r),[])):=by
 refine zS c73 Tryz.f73 0 2 (fun q=>?_)
 unfold jP
 refine J_g 2 [(0,0)] [(0,pp 0)] [(0,.box [iv 0,iv 0,iv 0])] zB ?_
 refine J_g 6 [] [(0,pp 0)] [(0,.box [iv 1000,iv 0,iv 0])] zB ?_
 exact xA rfl
noncomputable def zLb:Code:=(Tryz.f225.body).getD .skip
theorem wO.ok (a1:Int):Ok Tryz.prog 225 [iv a1] [] ((wO a1).map fun r=>(bv r,[])):=by
 refine zS zLb Tryz.f225 0 6 (fun q=>?_)
 unfold wO
 refine J_g 2 [] [(0,iv a1)] [] zB ?_
 refine J_g 6 [] [(2,bv (a1 !=a1))] [] zB ?_
 exact xA rfl
noncomputable def zKX:Code:=(Tryz.f188.body).getD .skip
theorem yL.ok (a1:Int) (a2:Int):Ok Tryz.prog 188 [iv a1,iv a2] [] ((yL a1 a2).map fun r=>(iv r,[])):=by
 refine zS zKX Tryz.f188 0 20 (fun q=>?_)
 unfold yL
 refine J_d 2 [] [] [] [] [] zB ?_
 refine zA (fun x3 h4=>?_)
 refine J_d 6 [] [5] [(5,bv x3)] [] [] (zM 1 (wU [(.tmp 7)] [2] (wO.ok a1) h4) zB) ?_
 refine zA (fun x5 h6=>?_)
 refine J_g 14 [] [(0,iv a1),(1,iv a2),(5,bv x3),(6,bv x5)] [] (zM 1 (wU [(.tmp 9)] [2] (wO.ok a2) h6) zB) ?_
 refine J_d 60 [] [5,11] [(11,bv x3)] [] [] zB ?_
 refine zU 11 (fun h7=>?_) (fun h7=>?_)
 ·refine J_g 488 [] [(12,bv x5)] [] zB ?_
  refine zU 12 (fun h8=>?_) (fun h8=>?_)
  ·refine J_g 1956 [] [(4,iv 0)] [] zB ?_
   exact xA rfl
  ·refine J_g 490 [] [(4,iv (-1))] [] zB ?_
   exact xA rfl
 ·refine J_g 124 [] [(0,iv a1),(1,iv a2),(13,bv x5)] [] zB ?_
  refine zU 13 (fun h9=>?_) (fun h9=>?_)
  ·refine J_g 500 [] [(4,iv 1)] [] zB ?_
   exact xA rfl
  ·refine J_d 252 [] [13,16] [(16,bv (decide (a1<a2)))] [] [] zB ?_
   refine zU 16 (fun h10=>?_) (fun h10=>?_)
   ·refine J_g 1012 [] [(4,iv (-1))] [] zB ?_
    exact xA rfl
   ·refine J_g 508 [] [(19,bv (decide (a1>a2)))] [] zB ?_
    refine zU 19 (fun h11=>?_) (fun h11=>?_)
    ·refine J_g 2036 [] [(4,iv 1)] [] zB ?_
     exact xA rfl
    ·refine J_g 510 [] [(4,iv 0)] [] zB ?_
     exact xA rfl
noncomputable def zJS:Code:=(Tryz.f187.body).getD .skip
theorem kS.ok (a1:(List Int)) (q:Wd) (kn:Unit→Option (D×List Ent)) (hk:∀v:Unit,J (q.g Tryz.prog 187 0 18) zJS (atI zJS 15) (St.mk' [(3,iv 0)] []) (some v) kn):
  ∀s6:Int,J (q.g Tryz.prog 187 0 18) zJS (atI zJS 116) (St.mk' [(3,iv 0),(6,sl 1 jV a1),(7,iv (a1.length:Int)),(8,iv s6)] []) (kS a1 s6) (Fl.go (fun r:Int=>some (iv r,[])) kn):=by
 refine zC6 (fun g ih s6=>?_)
 unfold jU
 refine J_d 232 [] [9] [(9,bv (decide (s6< (a1.length:Int))))] [] [] zB ?_
 refine zU 9 (fun h7=>?_) (fun h7=>?_)
 ·refine zA (fun x8 h9=>?_)
  refine J_g 3736 [] [(3,iv 0),(5,iv x8),(6,sl 1 jV a1),(7,iv (a1.length:Int)),(8,iv s6)] [] (zM 0 (zFq (kk:=.i64) 245 3 1 jV (.tmp 6) (.tmp 8) h9) zB) ?_
  refine J_d 7474 [] [14] [(14,bv (x8 !=0))] [] [] zB ?_
  refine zU 14 (fun h10=>?_) (fun h10=>?_)
  ·refine J_g 29900 [] [(2,iv x8)] [] zB ?_
   exact xA rfl
  ·refine J_d 935 [] [5,8,14] [(8,iv (w64 (s6+1)))] [] [] zB ?_
   exact J_q (J_b (ih (w64 (s6+1)))) rfl
 ·exact xS (hk ()) rfl
theorem zAn.ok (a1:(List Int)):Ok Tryz.prog 187 [sl 1 jV a1] [] ((zAn a1).map fun r=>(iv r,[])):=by
 refine zS zJS Tryz.f187 0 18 (fun q=>?_)
 unfold zAn
 refine J_g 2 [] [(0,sl 1 jV a1)] [] zB ?_
 refine J_g 6 [] [(0,sl 1 jV a1),(3,iv 0)] [] zB ?_
 refine J_g 28 [] [(3,iv 0),(6,sl 1 jV a1),(7,iv (a1.length:Int)),(8,iv 0)] [] zB ?_
 refine zBo (K0:=(fun r:Int=>some (iv r,[]))) (fun _=>rfl) (kS.ok a1 q _ (fun v11=>J_j ?_) 0)
 refine J_g 30 [] [(2,iv 0)] [] zB ?_
 exact xA rfl
noncomputable def c138:Code:=(Tryz.f138.body).getD .skip
theorem tX.ok (a1:Version) (a2:Version):Ok Tryz.prog 138 [.ag (Version.enc a1),.ag (Version.enc a2)] [] ((tX a1 a2).map fun r=>(iv r,[])):=by
 refine zS c138 Tryz.f138 0 22 (fun q=>?_)
 unfold tX
 refine J_g 2 [(0,0),(1,1)] [(2,pp 0),(3,pp 1)] [(0,.box (Version.enc a1)),(1,.box (Version.enc a2))] zB ?_
 refine zA (fun x3 h4=>?_)
 refine zA (fun x5 h6=>?_)
 refine zA (fun x7 h8=>?_)
 refine zA (fun x9 h10=>?_)
 refine J_g 6 [] [(4,iv x9)] [] (zM 4 (wU [(.tmp 6),(.tmp 8)] [2,2] (yL.ok a1.A a2.A) h4) (zM 9 (wU [(.tmp 11),(.tmp 13)] [2,2] (yL.ok a1.B a2.B) h6) (zM 14 (wU [(.tmp 16),(.tmp 18)] [2,2] (yL.ok a1.C a2.C) h8) (zM 15 (zDR 245 3 1 2 jV [x3,x5,x7] [0,1,2] [(.tmp 9),(.tmp 14),(.tmp 19)] [iv x3,iv x5,iv x7]) (zM 16 (jC («as»:=[rr 2 [x3,x5,x7]]) [(.tmp 20)] [245] true [(2,rE 1 jV [x3,x5,x7])] [] (.cons (zF7 (.head _) (fun _=>rfl) rfl) (.nil)) (zAn.ok [x3,x5,x7]) h10 (.same rfl rfl) (hbor:=fun _=>⟨fhN,zW⟩)) zB))))) ?_
 exact xA rfl
noncomputable def c71:Code:=(Tryz.f71.body).getD .skip
theorem yV.ok (a1:Term):Ok Tryz.prog 71 [.ag (Term.enc a1)] [] ((yV a1).map fun r=>(iv r,[])):=by
 refine zS c71 Tryz.f71 0 35 (fun q=>?_)
 unfold yV
 refine J_g 2 [(0,0)] [(1,pp 0)] [(0,.box (Term.enc a1))] zB ?_
 refine zA (fun x2 h3=>?_)
 refine J_g 12 [] [(1,pp 0),(3,iv x2)] [(0,.box (Term.enc a1))] (zM 2 (wU [(.tmp 6)] [9] (wM.ok a1.Name) h3) zB) ?_
 refine J_d 26 [] [9] [(9,bv (x2 !=0))] [] [] zB ?_
 refine zU 9 (fun h4=>?_) (fun h4=>?_)
 ·refine J_g 108 [] [(2,iv x2)] [] zB ?_
  exact xA rfl
 ·refine zA (fun x5 h6=>?_)
  refine J_g 28 [] [(1,pp 0),(4,iv x5)] [(0,.box (Term.enc a1))] (zM 2 (wU [(.tmp 12)] [39] (xB.ok a1.Low) h6) zB) ?_
  refine J_d 58 [] [15] [(15,bv (x5 !=0))] [] [] zB ?_
  refine zU 15 (fun h7=>?_) (fun h7=>?_)
  ·refine J_g 236 [] [(2,iv x5)] [] zB ?_
   exact xA rfl
  ·refine zA (fun x8 h9=>?_)
   refine xY (atI c71 121) (fun v13:Bool=>St.mk' [(1,pp 0),(17,bv v13)] [(0,.box (Term.enc a1))]) (fun v13=>?_) (fun jv13=>?_)
   ·refine zU 17 (fun h14=>?_) (fun h14=>?_)
    ·refine J_g 484 [] [(2,iv 3)] [] zB ?_
     exact xA rfl
    ·refine zA (fun x15 h16=>?_)
     refine J_g 486 [] [(28,bv (decide (x15≥0)))] [] (zM 4 (wU [(.tmp 30),(.tmp 32)] [39,39] (tX.ok a1.Low a1.High) h16) zB) ?_
     refine zU 28 (fun h17=>?_) (fun h17=>?_)
     ·refine J_g 1948 [] [(2,iv 1)] [] zB ?_
      exact xA rfl
     ·refine J_g 62 [] [(2,iv 0)] [] zB ?_
      exact xA rfl
   ·refine wZ (fun h10=>?_) (fun h10=>?_)
    ·refine zA (fun x11 h12=>?_)
     refine J_d 120 [] [4,15,17] [(17,bv (x11 !=0))] [] [] (zM 2 (wU [] [] (jP.ok) h9) (zM 3 (zFy (b:=.neq) (r:=(a1.High.A==x8.A&&(a1.High.B==x8.B&&(a1.High.C==x8.C&&true)))) 39 39 (.tmp 19) (.tmp 20) [.int .i64 a1.High.A,.int .i64 a1.High.B,.int .i64 a1.High.C] [.int .i64 x8.A,.int .i64 x8.B,.int .i64 x8.C] (.inr ⟨rfl,rfl⟩)) (xX 4 [(21,bv (!(a1.High.A==x8.A&&(a1.High.B==x8.B&&(a1.High.C==x8.C&&true)))))] [] h10 (zB8 7 4 22 true (wU [(.tmp 24)] [39] (xB.ok a1.High) h12) zB)))) ?_
     exact xS (J_j (jv13 (x11 !=0))) rfl
    ·refine J_d 120 [] [4,15,17] [(17,bv false)] [] [] (zM 2 (wU [] [] (jP.ok) h9) (zM 3 (zFy (b:=.neq) (r:=(a1.High.A==x8.A&&(a1.High.B==x8.B&&(a1.High.C==x8.C&&true)))) 39 39 (.tmp 19) (.tmp 20) [.int .i64 a1.High.A,.int .i64 a1.High.B,.int .i64 a1.High.C] [.int .i64 x8.A,.int .i64 x8.B,.int .i64 x8.C] (.inr ⟨rfl,rfl⟩)) (xX 4 [(21,bv (!(a1.High.A==x8.A&&(a1.High.B==x8.B&&(a1.High.C==x8.C&&true)))))] [] h10 zB))) ?_
     exact xS (J_j (jv13 false)) rfl
noncomputable def c32:Code:=(Tryz.f32.body).getD .skip
theorem uD.ok (a1:(List Term)) (q:Wd) (kn:Unit→Option (D×List Ent)) (hk:∀v:Unit,J (q.g Tryz.prog 32 0 18) c32 (atI c32 7) (St.mk' [] []) (some v) kn):
  ∀s8:Int,J (q.g Tryz.prog 32 0 18) c32 (atI c32 52) (St.mk' [(6,sl 7 Term.enc a1),(7,iv (a1.length:Int)),(8,iv s8)] []) (uD a1 s8) (Fl.go (fun r:Int=>some (iv r,[])) kn):=by
 refine zC6 (fun g ih s8=>?_)
 unfold vQ
 refine J_d 104 [] [9] [(9,bv (decide (s8< (a1.length:Int))))] [] [] zB ?_
 refine zU 9 (fun h9=>?_) (fun h9=>?_)
 ·refine zA (fun x10 h11=>?_)
  refine J_d 1688 [(2,0)] [4,9] [(4,pp 0)] [0] [(0,.box (Term.enc x10))] (zM 0 (zFq (kk:=.i64) 24 41 7 Term.enc (.tmp 6) (.tmp 8) h11) zB) ?_
  refine zA (fun x12 h13=>?_)
  refine J_g 3378 [] [(5,iv x12),(6,sl 7 Term.enc a1),(7,iv (a1.length:Int)),(8,iv s8)] [] (zM 1 (wU [(.tmp 12)] [41] (yV.ok x10) h13) zB) ?_
  refine J_d 6758 [] [15] [(15,bv (x12 !=0))] [] [] zB ?_
  refine zU 15 (fun h14=>?_) (fun h14=>?_)
  ·refine J_g 27036 [] [(2,iv x12)] [] zB ?_
   exact xA rfl
  ·refine J_d 423 [] [5,8,15] [(8,iv (w64 (s8+1)))] [] [] zB ?_
   exact J_q (J_b (ih (w64 (s8+1)))) rfl
 ·exact xS (hk ()) rfl
theorem vS.ok (a1:(List Term)):Ok Tryz.prog 32 [sl 7 Term.enc a1] [] ((vS a1).map fun r=>(iv r,[])):=by
 refine zS c32 Tryz.f32 0 18 (fun q=>?_)
 unfold vS
 refine J_g 2 [] [(0,sl 7 Term.enc a1)] [] zB ?_
 refine J_g 12 [] [(6,sl 7 Term.enc a1),(7,iv (a1.length:Int)),(8,iv 0)] [] zB ?_
 refine zBo (K0:=(fun r:Int=>some (iv r,[]))) (fun _=>rfl) (uD.ok a1 q _ (fun v15=>J_j ?_) 0)
 refine J_g 14 [] [(2,iv 0)] [] zB ?_
 exact xA rfl
theorem wG.ok (a1 a2:Int):Ok Tryz.prog 144 [iv a1,iv a2] [] ((wG a1 a2).map fun r=>(sv r,[])):=by
 unfold wG
 split
 ·rename_i h
  obtain ⟨rfl,h0,h1⟩:=h
  exact zJw (vs:=[.int .i64 a1,.int .i64 10]) (fun w hG=>Tryz.strconv_FormatInt_10 a1 h0 h1 w (zIw (g:=1) hG (by kernel_rfl) (by kernel_rfl)))
 ·exact fun _ h=>by cases h
noncomputable def c77:Code:=(Tryz.f77.body).getD .skip
theorem tO.ok (a1:Int):Ok Tryz.prog 77 [iv a1] [] ((tO a1).map fun r=>(sv r,[])):=by
 refine zS c77 Tryz.f77 0 5 (fun q=>?_)
 unfold tO
 refine J_g 2 [] [(0,iv a1)] [] zB ?_
 refine zA (fun x2 h3=>?_)
 refine J_g 6 [] [(2,sv x2)] [] (zM 1 (wU [(.tmp 3),(.const (.int .i64 10))] [2,3] (wG.ok a1 10) h3) zB) ?_
 exact xA rfl
noncomputable def c72:Code:=(Tryz.f72.body).getD .skip
theorem yK.ok (a1:Version):Ok Tryz.prog 72 [.ag (Version.enc a1)] [] ((yK a1).map fun r=>(sv r,[])):=by
 refine zS c72 Tryz.f72 0 16 (fun q=>?_)
 unfold yK
 refine J_g 2 [(0,0)] [(1,pp 0)] [(0,.box (Version.enc a1))] zB ?_
 refine zA (fun x2 h3=>?_)
 refine zA (fun x4 h5=>?_)
 refine zA (fun x6 h7=>?_)
 refine zA (fun x8 h9=>?_)
 refine zA (fun x10 h11=>?_)
 refine zA (fun x12 h13=>?_)
 refine zA (fun x14 h15=>?_)
 refine J_g 6 [] [(2,sv x14)] [] (zM 2 (wU [(.tmp 4)] [2] (tO.ok a1.A) h3) (zM 3 (zC9 9 9 (.tmp 5) (.const (.string (bs [46]))) h5) (zM 6 (wU [(.tmp 8)] [2] (tO.ok a1.B) h7) (zM 7 (zC9 9 9 (.tmp 6) (.tmp 9) h9) (zM 8 (zC9 9 9 (.tmp 10) (.const (.string (bs [46]))) h11) (zM 11 (wU [(.tmp 13)] [2] (tO.ok a1.C) h13) (zM 12 (zC9 9 9 (.tmp 11) (.tmp 14) h15) zB))))))) ?_
 exact xA rfl
noncomputable def c33:Code:=(Tryz.f33.body).getD .skip
theorem vP.ok (a1:Term):Ok Tryz.prog 33 [.ag (Term.enc a1)] [] ((vP a1).map fun r=>(sv r,[])):=by
 refine zS c33 Tryz.f33 0 30 (fun q=>?_)
 unfold vP
 refine J_g 2 [(0,0)] [(1,pp 0)] [(0,.box (Term.enc a1))] zB ?_
 refine zA (fun x2 h3=>?_)
 refine J_d 12 [] [6] [(6,bv (x2 !=0))] [] [] (zM 1 (wU [(.tmp 4)] [41] (yV.ok a1) h3) zB) ?_
 refine zU 6 (fun h4=>?_) (fun h4=>?_)
 ·refine J_g 52 [] [(2,sv (bs []))] [] zB ?_
  exact xA rfl
 ·refine J_g 14 [] [(1,pp 0),(3,sv a1.Name)] [(0,.box (Term.enc a1))] zB ?_
  refine J_d 60 [] [12] [(12,bv (!(a1.Low.A==0&&(a1.Low.B==0&&(a1.Low.C==0&&true)))))] [] [] (zM 3 (zFy (b:=.neq) (r:=(a1.Low.A==0&&(a1.Low.B==0&&(a1.Low.C==0&&true)))) 39 39 (.tmp 10) (.tmp 11) [.int .i64 a1.Low.A,.int .i64 a1.Low.B,.int .i64 a1.Low.C] [.int .i64 0,.int .i64 0,.int .i64 0] (.inr ⟨rfl,rfl⟩)) zB) ?_
  refine xY (atI c33 31) (fun v12:ByteArray=>St.mk' [(1,pp 0),(3,sv v12)] [(0,.box (Term.enc a1))]) (fun v12=>?_) (fun jv12=>?_)
  ·refine zA (fun x13 h14=>?_)
   refine J_d 124 [] [22] [(22,bv (!(a1.High.A==x13.A&&(a1.High.B==x13.B&&(a1.High.C==x13.C&&true)))))] [] [] (zM 2 (wU [] [] (jP.ok) h14) (zM 3 (zFy (b:=.neq) (r:=(a1.High.A==x13.A&&(a1.High.B==x13.B&&(a1.High.C==x13.C&&true)))) 39 39 (.tmp 20) (.tmp 21) [.int .i64 a1.High.A,.int .i64 a1.High.B,.int .i64 a1.High.C] [.int .i64 x13.A,.int .i64 x13.B,.int .i64 x13.C] (.inr ⟨rfl,rfl⟩)) zB)) ?_
   refine xY (atI c33 63) (fun v22:ByteArray=>St.mk' [(3,sv v22)] []) (fun v22=>?_) (fun jv22=>?_)
   ·refine J_g 126 [] [(2,sv v22)] [] zB ?_
    exact xA rfl
   ·refine zU 22 (fun h15=>?_) (fun h15=>?_)
    ·refine zA (fun x16 h17=>?_)
     refine zA (fun x18 h19=>?_)
     refine zA (fun x20 h21=>?_)
     refine J_g 250 [] [(3,sv x20)] [] (zM 3 (wU [(.tmp 25)] [39] (yK.ok a1.High) h17) (zM 4 (zC9 9 9 (.const (.string (bs [60]))) (.tmp 26) h19) (zM 5 (zC9 9 9 (.tmp 23) (.tmp 27) h21) zB))) ?_
     exact xS (J_j (jv22 x20)) rfl
    ·exact xS (J_j (jv22 v12)) rfl
  ·refine zU 12 (fun h5=>?_) (fun h5=>?_)
   ·refine zA (fun x6 h7=>?_)
    refine zA (fun x8 h9=>?_)
    refine zA (fun x10 h11=>?_)
    refine J_d 122 [] [3,12] [(3,sv x10)] [] [] (zM 3 (wU [(.tmp 15)] [39] (yK.ok a1.Low) h7) (zM 4 (zC9 9 9 (.const (.string (bs [62,61]))) (.tmp 16) h9) (zM 5 (zC9 9 9 (.tmp 13) (.tmp 17) h11) zB))) ?_
    exact xS (J_j (jv12 x10)) rfl
   ·exact xS (J_j (jv12 a1.Name)) rfl
noncomputable def c7:Code:=(Tryz.f7.body).getD .skip
theorem uP.ok (a1:(List Term)) (q:Wd) (kn:ByteArray→Option (D×List Ent)) (hk:∀v:ByteArray,J (q.g Tryz.prog 7 0 22) c7 (atI c7 31) (St.mk' [(3,sv v)] []) (some v) kn):
  ∀s14:(ByteArray×Int),J (q.g Tryz.prog 7 0 22) c7 (atI c7 244) (St.mk' [(3,sv s14.1),(9,sl 7 Term.enc a1),(10,iv (a1.length:Int)),(11,iv s14.2)] []) (uP a1 s14) kn:=by
 refine zC6 (fun g ih s14=>?_)
 unfold vX
 refine J_d 488 [] [12] [(12,bv (decide (s14.2< (a1.length:Int))))] [] [] zB ?_
 refine zU 12 (fun h15=>?_) (fun h15=>?_)
 ·refine zA (fun x16 h17=>?_)
  refine J_d 7832 [(2,0)] [5,12] [(5,pp 0)] [0] [(0,.box (Term.enc x16))] (zM 0 (zFq (kk:=.i64) 24 41 7 Term.enc (.tmp 9) (.tmp 11) h17) zB) ?_
  refine zA (fun x18 h19=>?_)
  refine zA (fun x20 h21=>?_)
  refine zA (fun x22 h23=>?_)
  refine J_g 7833 [] [(3,sv x22),(9,sl 7 Term.enc a1),(10,iv (a1.length:Int)),(11,iv s14.2)] [] (zM 2 (wU [(.tmp 16)] [41] (vP.ok x16) h19) (zM 3 (zC9 9 9 (.tmp 17) (.const (.string (bs [10]))) h21) (zM 4 (zC9 9 9 (.tmp 15) (.tmp 18) h23) zB))) ?_
  refine J_d 1959 [] [11] [(11,iv (w64 (s14.2+1)))] [] [] zB ?_
  exact J_q (J_b (ih (x22,w64 (s14.2+1)))) rfl
 ·exact xS (hk s14.1) rfl
theorem yU.ok (a1:(List Term)):Ok Tryz.prog 7 [sl 7 Term.enc a1] [] ((yU a1).map fun r=>(sv r,[])):=by
 refine zS c7 Tryz.f7 0 22 (fun q=>?_)
 unfold yU
 refine J_d 2 [] [] [] [] [] zB ?_
 refine zA (fun x2 h3=>?_)
 refine J_d 12 [] [8] [(8,bv (x2 !=0))] [] [] (zM 1 (wU [(.tmp 6)] [24] (vS.ok a1) h3) zB) ?_
 refine zU 8 (fun h4=>?_) (fun h4=>?_)
 ·refine J_g 52 [] [(2,sv (bs []))] [] zB ?_
  exact xA rfl
 ·refine J_g 14 [] [(0,sl 7 Term.enc a1),(3,sv (bs []))] [] zB ?_
  refine J_g 60 [] [(3,sv (bs [])),(9,sl 7 Term.enc a1),(10,iv (a1.length:Int)),(11,iv 0)] [] zB ?_
  refine zIz (uP.ok a1 q _ (fun v24=>J_j ?_) (bs [],0))
  refine J_g 62 [] [(2,sv v24)] [] zB ?_
  exact xA rfl
theorem bytealg_CompareString.ok (a1 a2:ByteArray):Ok Tryz.prog 189 [sv a1,sv a2] [] ((bytealg_CompareString a1 a2).map fun r=>(iv r,[])):=
 zJY (vs:=[.string a1,.string a2]) (fun w=>Tryz.bytealg_CompareString a1 a2 w)
noncomputable def c141:Code:=(Tryz.f141.body).getD .skip
theorem strings_Compare.ok (a1:ByteArray) (a2:ByteArray):Ok Tryz.prog 141 [sv a1,sv a2] [] ((strings_Compare a1 a2).map fun r=>(iv r,[])):=by
 refine zS c141 Tryz.f141 0 8 (fun q=>?_)
 unfold strings_Compare
 refine J_d 2 [] [] [] [] [] zB ?_
 refine zA (fun x3 h4=>?_)
 refine J_g 6 [] [(4,iv x3)] [] (zM 2 (wU [(.tmp 5),(.tmp 6)] [9,9] (bytealg_CompareString.ok a1 a2) h4) zB) ?_
 exact xA rfl
noncomputable def zKV:Code:=(Tryz.f140.body).getD .skip
theorem xI.ok (a1:File) (a2:ByteArray):Ok Tryz.prog 140 [.ag (File.enc false a1),sv a2] [] ((xI a1 a2).map fun r=>(iv r,[])):=by
 refine zS zKV Tryz.f140 0 9 (fun q=>?_)
 unfold xI
 refine J_g 2 [(0,0)] [(1,sv a2),(2,pp 0)] [(0,.box (File.enc false a1))] zB ?_
 refine zA (fun x3 h4=>?_)
 refine J_g 6 [] [(4,iv x3)] [] (zM 3 (wU [(.tmp 6),(.tmp 7)] [9,9] (strings_Compare.ok a1.Path a2) h4) zB) ?_
 exact xA rfl
noncomputable def c139:Code:=(Tryz.f139.body).getD .skip
theorem zJ.ok (a1:(List File)) (a2:ByteArray) (q:Wd) (kn:Int→Option (D×List Ent)) (hk:∀v:Int,J (q.g Tryz.prog 139 0 49) c139 (atI c139 31) (St.mk' [(0,sl 2 (File.enc false) a1),(1,sv a2),(2,.fn 140 []),(8,iv (a1.length:Int)),(9,iv v)] []) (some v) kn):
  ∀s9:(Int×Int),J (q.g Tryz.prog 139 0 49) c139 (atI c139 120) (St.mk' [(0,sl 2 (File.enc false) a1),(1,sv a2),(2,.fn 140 []),(8,iv (a1.length:Int)),(9,iv s9.1),(10,iv s9.2)] []) (zJ a1 a2 s9) kn:=by
 refine zC6 (fun g ih s9=>?_)
 unfold zQ
 refine J_d 480 [] [17] [(17,bv (decide (s9.1<s9.2)))] [] [] zB ?_
 refine zU 17 (fun h10=>?_) (fun h10=>?_)
 ·refine J_d 964 [] [11,17] [(11,iv (w64 ((IntKind.u64.wrap (w64 (s9.1+s9.2))).fdiv (2^(min (1:Int).toNat 64)))))] [] [] zB ?_
  refine zA (fun x11 h12=>?_)
  refine zA (fun x13 h14=>?_)
  refine J_d 1930 [] [31] [(31,bv (decide (x13<0)))] [] [] (zM 3 (zFq (kk:=.i64) 27 124 2 (File.enc false) (.tmp 25) (.tmp 26) h12) (zM 6 (zKd («as»:=[.ag (File.enc false x11),sv a2]) (caps:=[]) 24 [(.tmp 28),(.tmp 29)] [124,9] (xI.ok x11 a2) h14) zB)) ?_
  refine zU 31 (fun h15=>?_) (fun h15=>?_)
  ·refine J_d 3862 [] [9,11,31] [(9,iv (w64 ((w64 ((IntKind.u64.wrap (w64 (s9.1+s9.2))).fdiv (2^(min (1:Int).toNat 64))))+1)))] [] [] zB ?_
   exact J_q (J_b (ih (w64 ((w64 ((IntKind.u64.wrap (w64 (s9.1+s9.2))).fdiv (2^(min (1:Int).toNat 64))))+1),s9.2))) rfl
  ·refine J_d 3863 [] [10,11,31] [(10,iv (w64 ((IntKind.u64.wrap (w64 (s9.1+s9.2))).fdiv (2^(min (1:Int).toNat 64)))))] [] [] zB ?_
   exact J_q (J_b (ih (s9.1,w64 ((IntKind.u64.wrap (w64 (s9.1+s9.2))).fdiv (2^(min (1:Int).toNat 64)))))) rfl
 ·exact xS (hk s9.1) rfl
theorem zC.ok (a1:(List File)) (a2:ByteArray):Ok Tryz.prog 139 [sl 2 (File.enc false) a1,sv a2,.fn 140 []] [] ((zC a1 a2).map fun r=>(.tu [iv r.1,bv r.2],[])):=by
 refine zS c139 Tryz.f139 0 49 (fun q=>?_)
 unfold zC
 refine J_g 2 [] [(0,sl 2 (File.enc false) a1),(1,sv a2),(2,.fn 140 [])] [] zB ?_
 refine J_g 6 [] [(0,sl 2 (File.enc false) a1),(1,sv a2),(2,.fn 140 []),(8,iv (a1.length:Int))] [] zB ?_
 refine J_d 14 [] [9,10] [(9,iv 0),(10,iv (a1.length:Int))] [] [] zB ?_
 refine zIz (zJ.ok a1 a2 q _ (fun v16=>J_j ?_) (0,(a1.length:Int)))
 refine wZ (fun h17=>?_) (fun h17=>?_)
 ·refine zA (fun x18 h19=>?_)
  refine zA (fun x20 h21=>?_)
  refine J_g 62 [] [(6,iv v16),(7,bv (x20==0))] [] (xX 4 [(38,bv (decide (v16< (a1.length:Int))))] [] h17 (zB8 8 4 39 true (zFq (kk:=.i64) 27 124 2 (File.enc false) (.tmp 41) (.tmp 42) h19) (zB8 11 4 39 true (zKd («as»:=[.ag (File.enc false x18),sv a2]) (caps:=[]) 40 [(.tmp 44),(.tmp 45)] [124,9] (xI.ok x18 a2) h21) zB))) ?_
  exact zHY rfl
 ·refine J_g 62 [] [(6,iv v16),(7,bv false)] [] (xX 4 [(38,bv (decide (v16< (a1.length:Int))))] [] h17 zB) ?_
  exact zHY rfl
noncomputable def c74:Code:=(Tryz.f74.body).getD .skip
theorem yS.ok (a1:zF) (a2:ByteArray):Ok Tryz.prog 74 [.ag (zF.enc false a1),sv a2] [] ((yS a1 a2).map fun r=>(.tu [iv r.1,bv r.2],[])):=by
 refine zS c74 Tryz.f74 0 12 (fun q=>?_)
 unfold yS
 refine J_g 2 [(0,0)] [(1,sv a2),(2,pp 0)] [(0,.box (zF.enc false a1))] zB ?_
 refine zA (fun x3 h4=>?_)
 refine J_g 6 [] [(4,iv x3.1),(5,bv x3.2)] [] (zM 3 (jC («as»:=[sl 2 (File.enc false) a1.Files,sv a2,.fn 140 []]) [(.tmp 7),(.tmp 8),(.func 140)] [27,9,173] false [] [] (.cons (.same rfl) (.cons (.same rfl) (.cons (.fn (.nil)) (.nil)))) (zC.ok a1.Files a2) h4 (.tu (.cons (.same rfl rfl) (.cons (.same rfl rfl) (.nil))))) zB) ?_
 exact zHY rfl
section
open Go.Shelf Go.RowKit Go.Lib
set_option linter.unusedVariables false
set_option linter.unusedSimpArgs false
set_option maxHeartbeats 4000000 in
set_option maxRecDepth 100000 in
theorem zG0 (b off n c i vb voff m vc:Nat) (cs vs:List Value) (w:World) (hi:i<n) (hm:0<m) (hroom:n+m≤c) (h63:n+m≤9223372036854775807) (hvb:vb≠b)
  (hcl:cs.length=n*2) (hvl:vs.length=m*2)
  (hcs:∀j v,cs[j]? =some v→w.cell? ⟨b,off+j,none⟩=some v) (hsp:∀j,j< (n+m)*2→(w.cell? ⟨b,off+j,none⟩).isSome =true) (hfz:∀j,j< (n+m)*2→w.frozen? ⟨b,off+j,none⟩=false)
  (hvs:∀j v,vs[j]? =some v→w.cell? ⟨vb,voff+j,none⟩=some v) (h1c:∀v∈cs,v.oneCell'=true) (h1v:∀v∈vs,v.oneCell'=true)
  (tA tB:TypeId) (kA kB:Nat) (hsa:w.shape? vb=some (tA,kA)) (hsb:w.shape? b=some (tB,kB)) (hkB:kB≠0) (hfa:w.frozen? ⟨vb,voff,none⟩=false) (hfe:w.frozen? ⟨vb,kA,none⟩=false):
  Calls Tryz.prog 75 #[.slice (some ⟨b,off,none⟩) n c,.int .i64 i,.slice (some ⟨vb,voff,none⟩) m vc] w fun e w'=>
   e= .returned (.slice (some ⟨b,off,none⟩) (n+m) c)∧w'=(w.drew.setCells b (off+(i+m)*2) (cs.drop (i*2))).setCells b (off+i*2) vs:=by
 have hz1:¬((m:Int)=0):=by omega
 have hz2:¬((i:Int)=(n:Int)):=by omega
 have hsz:(Tryz.prog.info? 124).map (·.size)=some 2:=by kernel_rfl
 have hov:∀lb cb,(callFunc 142 #[.slice (some ⟨vb,voff,none⟩) m vc,.slice (some ⟨b,off+(i+m)*2,none⟩) lb cb]).run Tryz.prog w= .ok (.value (.bool false)) w:=fun lb cb=>by
  rw [run_callFunc_extern Tryz.func142 (by kernel_rfl) (by kernel_rfl) (by kernel_rfl) (e:=Extern.SlicesOverlaps.overlaps #[27,27] #[4]) (by kernel_rfl),
   Lib.run_overlaps_apart w 27 4 124 Tryz.underlying27 2 Tryz.sizeOf124 ⟨vb,voff,none⟩ ⟨b,off+(i+m)*2,none⟩ m vc lb cb hvb tA tB kA kB hsa hsb hkB hfa hfe]
  rfl
 have hdl:(cs.drop (i*2)).length =(n-i)*2:=by rw [List.length_drop,hcl]; omega
 have mixed:Tryz.prog.follows .mixedOrders =true:=by kernel_rfl
 have hw1:IntKind.i64.wrap ((i:Int)+(m:Int))=(i:Int)+(m:Int):=by rw [IntKind.wrap_i64]; omega
 have hb1:(0:Int)≤(i:Int)+(m:Int):=by omega
 have hin:i≤n:=by omega
 have htn:((i:Int)+(m:Int)).toNat =i+m:=by omega
 have hb2:¬(c=i+m):=by omega
 have hb3:(i:Int)≤(n:Int)+(m:Int):=by omega
 have hb4:¬(c=i):=by omega
 have hcp1:∀ty dc sc,(Builtin.copy_ #[27,27] ty #[.slice (some ⟨b,off+(i+m)*2,none⟩) (n+m-(i+m)) dc,.slice (some ⟨b,off+i*2,none⟩) (n+m-i) sc]).run Tryz.prog w.drew= .ok (goInt (Nat.min (n+m-i) (n+m-(i+m)))) (w.drew.setCells b (off+(i+m)*2) (cs.drop (i*2))):=fun ty dc sc=>
  zBh w.drew _ _ ty 124 2 b (off+(i+m)*2) (n+m-(i+m)) dc ⟨b,off+i*2,none⟩ (n+m-i) sc (cs.drop (i*2)) Tryz.underlying27 hsz (by rw [hdl]; simp only [Nat.min_def]; split<;>omega)
   (fun j v hj=>by rw [Addr.add_lit,Nat.add_assoc]; exact hcs (i*2+j) v (by rwa [List.getElem?_drop] at hj))
   (fun j hj=>by rw [Nat.add_assoc]; exact hsp _ (by omega)) (fun j hj=>by rw [Nat.add_assoc]; exact hfz _ (by omega)) (fun v hv=>h1c v (List.mem_of_mem_drop hv))
 obtain ⟨W1,hW1⟩:∃W1,W1=w.drew.setCells b (off+(i+m)*2) (cs.drop (i*2)):=⟨_,rfl⟩
 have hsp1:∀k,k< (n+m)*2→(W1.cell? ⟨b,off+k,none⟩).isSome =true:=fun k hk=>by
  rw [hW1]
  exact isSome_setCells b _ _ _ (fun j hj=>by rw [Nat.add_assoc]; exact hsp _ (by omega)) _ (hsp k hk)
 have hcp2:∀(W:World),(∀x,W.cell? x=W1.cell? x)→(∀x,W.frozen? x=W1.frozen? x)→∀ty dc,(Builtin.copy_ #[27,27] ty #[.slice (some ⟨b,off+i*2,none⟩) (n+m-i) dc,.slice (some ⟨vb,voff,none⟩) m vc]).run Tryz.prog W= .ok (goInt (Nat.min m (n+m-i))) (W.setCells b (off+i*2) vs):=fun W hWc hWf ty dc=>
  zBh W _ _ ty 124 2 b (off+i*2) (n+m-i) dc ⟨vb,voff,none⟩ m vc vs Tryz.underlying27 hsz (by rw [hvl]; simp only [Nat.min_def]; split<;>omega)
   (fun j v hj=>by
    rw [Addr.add_lit,hWc,hW1,World.cell?_setCells_out b _ _ _ _ (fun h _=>absurd h hvb)]
    exact hvs j v hj)
   (fun j hj=>by rw [hWc,Nat.add_assoc]; exact hsp1 _ (by omega)) (fun j hj=>by rw [hWf,hW1,World.frozen?_setCells,Nat.add_assoc]; exact hfz _ (by omega)) h1v
 rw [←hW1] at hcp1
 clear hsp hfz hcs hvs hsp1 h1c h1v hdl hcl hvl
 go_enter Tryz.func75,Tryz.ntmps75
 go_wp2_with (simp only [hov])
 go_region_law_o (refine step_copy_runI rfl _ _ 27 27 rfl _ _ (by simp [Act.eval,Act.put]) (by simp [Act.eval,Act.put]) (hcp1 _ _ _) ?_)
 go_wp2_with (at_builtin; refine wpList_copy_runI _ rfl _ _ 27 27 rfl _ _ rfl rfl (hcp2 _ (fun _=>rfl) (fun _=>rfl) _ _) ?_)
 go_ret
 first|exact ⟨rfl,rfl⟩|exact ⟨rfl,by rw [hW1]⟩
set_option maxHeartbeats 4000000 in
set_option maxRecDepth 100000 in
theorem zGk (base:Option Addr) (n c vb voff m vc:Nat) (w w1:World) (r:Value) (hm:0<m) (hnc:n≤c) (h63:n+m≤9223372036854775807) (hnil:base=none→n=0∧c=0)
  (hrun:(Builtin.append_ #[27,27] 27 #[.slice base n c,.slice (some ⟨vb,voff,none⟩) m vc]).run Tryz.prog w= .ok r w1):
  Calls Tryz.prog 75 #[.slice base n c,.int .i64 n,.slice (some ⟨vb,voff,none⟩) m vc] w fun e w'=>e= .returned r∧w'=w1:=by
 have hz1:¬((m:Int)=0):=by omega
 have mixed:Tryz.prog.follows .mixedOrders =true:=by kernel_rfl
 go_enter Tryz.func75,Tryz.ntmps75
 cases base with
 |none=>
  obtain ⟨rfl,rfl⟩:=hnil rfl
  go_wp2_with (at_builtin; refine Lib.wpList_append_run _ rfl _ _ _ _ rfl _ _ rfl rfl _ _ hrun ?_)
  go_ret
  exact ⟨rfl,rfl⟩
 |some a=>
  obtain ⟨ab,ao,asp⟩:=a
  go_wp2_with (at_builtin; refine Lib.wpList_append_run _ rfl _ _ _ _ rfl _ _ rfl rfl _ _ hrun ?_)
  all_goals (go_ret; exact ⟨rfl,rfl⟩)
set_option maxHeartbeats 4000000 in
set_option maxRecDepth 100000 in
theorem zHF (b off n c i vb voff m vc:Nat) (cs vs:List Value) (w:World) (hi:i<n) (hm:0<m) (hnc:n≤c) (hroom:c<n+m) (hbig:(n+m)*40≤140737488355328)
  (hcl:cs.length=n*2) (hvl:vs.length=m*2)
  (hcs:∀j v,cs[j]? =some v→w.cell? ⟨b,off+j,none⟩=some v)
  (hvs:∀j v,vs[j]? =some v→w.cell? ⟨vb,voff+j,none⟩=some v) (h1c:∀v∈cs,v.oneCell'=true) (h1v:∀v∈vs,v.oneCell'=true) (zv:Value) (hzv:Tryz.t124.zero=some zv) (hzs:zv.cells.size=2):
  Calls Tryz.prog 75 #[.slice (some ⟨b,off,none⟩) n c,.int .i64 i,.slice (some ⟨vb,voff,none⟩) m vc] w fun e w'=>
   e= .returned (.slice (some ⟨w.heap.size,0,none⟩) (n+m) (grownCap w (n+m) c 124))∧
   w'=(((w.alloc (.cells ((cs.take (i*2)).toArray ++Builtin.zeroCells zv.cells (n+m-i)++Builtin.zeroCells zv.cells (grownCap w (n+m) c 124-(n+m))) 124)).drew.setCells w.heap.size (i*2) vs).drew).setCells w.heap.size ((i+m)*2) (cs.drop (i*2)):=by
 have mixed:Tryz.prog.follows .mixedOrders =true:=by kernel_rfl
 have hi0:Tryz.prog.info? 124=some Tryz.t124:=by kernel_rfl
 have hzz:Tryz.t124.size=2:=by kernel_rfl
 have hzb:Tryz.t124.bytes=40:=by kernel_rfl
 have hz1:¬((m:Int)=0):=by omega
 have hz2:¬((i:Int)=(n:Int)):=by omega
 have hz3:(c:Int)< (n:Int)+(m:Int):=by omega
 have hsz:(Tryz.prog.info? 124).map (·.size)=some 2:=by kernel_rfl
 have hbw:b<w.heap.size:=block_lt_of_cell (hcs 0 _ (List.getElem?_eq_getElem (by omega)))
 have hvw:vb<w.heap.size:=block_lt_of_cell (hvs 0 _ (List.getElem?_eq_getElem (by omega)))
 have hkk:(n:Int)+(m:Int)-(i:Int)=((n+m-i:Nat):Int):=by omega
 have hik:i+(n+m-i)=n+m:=by omega
 have hold:(Builtin.firstCells Tryz.t124.size i (.slice (some ⟨b,off,none⟩) i c)).run Tryz.prog w.drew= .ok (cs.take (i*2)).toArray w.drew:=by
  rw [hzz]
  exact run_firstCells_some w.drew 2 i ⟨b,off,none⟩ i c (cs.take (i*2)) (by rw [List.length_take]; omega) (fun j v hj=>by
   rw [Addr.add_lit]
   rw [List.getElem?_take] at hj
   split at hj
   ·exact hcs j v hj
   ·cases hj)
 have hrz:∀ty,(Builtin.append_ #[27,3] ty #[.slice (some ⟨b,off,none⟩) i c,.int .i64 ((n:Int)+(m:Int)-(i:Int))]).run Tryz.prog w=
   .ok (.slice (some ⟨w.heap.size,0,none⟩) (n+m) (grownCap w (n+m) c 124)) (w.drew.alloc (.cells ((cs.take (i*2)).toArray ++Builtin.zeroCells zv.cells (n+m-i)++Builtin.zeroCells zv.cells (grownCap w (n+m) c 124-(n+m))) 124)):=fun ty=>by
  have h:=Lib.run_append_grow_zeros w 27 3 ty 124 Tryz.t124 _ .i64 .i64 Tryz.underlying27 Tryz.underlying3 hi0 hzv (some ⟨b,off,none⟩) i c (cs.take (i*2)) hold (n+m-i) (by omega) (by omega) (by omega) (by omega) (by rw [hzb]; omega) (by rw [hzb,hik]; exact growslice_fits hroom hbig)
  rw [hik] at h
  rw [hkk]
  exact h
 obtain ⟨G,hG⟩:∃G,G=grownCap w (n+m) c 124:=⟨_,rfl⟩
 obtain ⟨ROW,hROW⟩:∃ROW:Array Value,ROW=(cs.take (i*2)).toArray ++Builtin.zeroCells zv.cells (n+m-i)++Builtin.zeroCells zv.cells (G-(n+m)):=⟨_,rfl⟩
 rw [←hG] at hrz ⊢
 rw [←hROW] at hrz ⊢
 have hRl:(n+m)*2≤ROW.size:=by
  rw [hROW]
  simp [Builtin.zeroCells,hzs]
  omega
 obtain ⟨W1,hW1⟩:∃W1,W1=w.drew.alloc (.cells ROW 124):=⟨_,rfl⟩
 rw [←hW1] at hrz
 have hN:∀j,j< (n+m)*2→(W1.cell? ⟨w.heap.size,j,none⟩).isSome =true:=fun j hj=>by
  rw [hW1,World.cell?_alloc_at (w:=w.drew) ROW _ w.heap.size j rfl,Array.getElem?_eq_getElem (by omega)]; rfl
 have hNf:∀j,W1.frozen? ⟨w.heap.size,j,none⟩=false:=fun j=>by rw [hW1]; exact World.frozen?_alloc_at (w:=w.drew) ROW _ w.heap.size j rfl
 have hOb:∀j v,w.cell? ⟨b,j,none⟩=some v→W1.cell? ⟨b,j,none⟩=some v:=fun j v h=>by rw [hW1,World.cell?_alloc_past (w:=w.drew) _ b j hbw]; exact h
 have hOv:∀j v,w.cell? ⟨vb,j,none⟩=some v→W1.cell? ⟨vb,j,none⟩=some v:=fun j v h=>by rw [hW1,World.cell?_alloc_past (w:=w.drew) _ vb j hvw]; exact h
 have hcpA:∀(W:World),(∀x,W.cell? x=W1.cell? x)→(∀x,W.frozen? x=W1.frozen? x)→∀ty dc,(Builtin.copy_ #[27,27] ty #[.slice (some ⟨w.heap.size,i*2,none⟩) (n+m-i) dc,.slice (some ⟨vb,voff,none⟩) m vc]).run Tryz.prog W= .ok (goInt (Nat.min m (n+m-i))) (W.setCells w.heap.size (i*2) vs):=fun W hWc hWf ty dc=>
  zBh W _ _ ty 124 2 w.heap.size (i*2) (n+m-i) dc ⟨vb,voff,none⟩ m vc vs Tryz.underlying27 hsz (by rw [hvl]; simp only [Nat.min_def]; split<;>omega)
   (fun j v hj=>by rw [Addr.add_lit,hWc]; exact hOv _ v (hvs j v hj))
   (fun j hj=>by rw [hWc]; exact hN _ (by omega)) (fun j hj=>by rw [hWf]; exact hNf _) h1v
 have hGn:n+m≤G:=by rw [hG]; exact grownCap_ge w _ _ _
 have hG63:G≤9223372036854775807:=by
  have:=grownCap_le_maxLen w (n+m) c 124 (by unfold maxLen; omega)
  rw [←hG] at this
  unfold maxLen at this
  omega
 have hGi:¬(G=i):=by omega
 have hGim:¬(G=i+m):=by omega
 have hci:¬(c=i):=by omega
 have hbN:b≠w.heap.size:=by omega
 have hdl:(cs.drop (i*2)).length =(n-i)*2:=by rw [List.length_drop,hcl]; omega
 have hcpB:∀(W:World),(∀x,W.cell? x=(W1.setCells w.heap.size (i*2) vs).cell? x)→(∀x,W.frozen? x=(W1.setCells w.heap.size (i*2) vs).frozen? x)→∀ty dc sc,(Builtin.copy_ #[27,27] ty #[.slice (some ⟨w.heap.size,(i+m)*2,none⟩) (n+m-(i+m)) dc,.slice (some ⟨b,off+i*2,none⟩) (n-i) sc]).run Tryz.prog W= .ok (goInt (Nat.min (n-i) (n+m-(i+m)))) (W.setCells w.heap.size ((i+m)*2) (cs.drop (i*2))):=fun W hWc hWf ty dc sc=>
  zBh W _ _ ty 124 2 w.heap.size ((i+m)*2) (n+m-(i+m)) dc ⟨b,off+i*2,none⟩ (n-i) sc (cs.drop (i*2)) Tryz.underlying27 hsz (by rw [hdl]; simp only [Nat.min_def]; split<;>omega)
   (fun j v hj=>by
    rw [Addr.add_lit,hWc,World.cell?_setCells_out _ _ _ _ _ (fun h _=>absurd h hbN),Nat.add_assoc]
    exact hOb _ v (hcs (i*2+j) v (by rwa [List.getElem?_drop] at hj)))
   (fun j hj=>by rw [hWc]; exact isSome_setCells _ _ _ _ (fun t ht=>hN _ (by omega)) _ (hN _ (by omega)))
   (fun j hj=>by rw [hWf,World.frozen?_setCells]; exact hNf _) (fun v hv=>h1c v (List.mem_of_mem_drop hv))
 subst hW1
 have hE1:∀x,((w.alloc (.cells ROW 124)).drew).cell? x=(w.drew.alloc (.cells ROW 124)).cell? x:=fun x=>rfl
 have hE2:∀x,((w.alloc (.cells ROW 124)).drew).frozen? x=(w.drew.alloc (.cells ROW 124)).frozen? x:=fun x=>rfl
 have hF1:∀x,(((w.alloc (.cells ROW 124)).drew.setCells w.heap.size (i*2) vs).drew).cell? x=((w.drew.alloc (.cells ROW 124)).setCells w.heap.size (i*2) vs).cell? x:=fun x=>rfl
 have hF2:∀x,(((w.alloc (.cells ROW 124)).drew.setCells w.heap.size (i*2) vs).drew).frozen? x=((w.drew.alloc (.cells ROW 124)).setCells w.heap.size (i*2) vs).frozen? x:=fun x=>rfl
 have hw1:IntKind.i64.wrap ((i:Int)+(m:Int))=(i:Int)+(m:Int):=by rw [IntKind.wrap_i64]; omega
 have hb1:(0:Int)≤(i:Int)+(m:Int):=by omega
 have hin:i≤n:=by omega
 have htn:((i:Int)+(m:Int)).toNat =i+m:=by omega
 have hb3:(i:Int)≤(n:Int):=by omega
 clear hkk hik hold hROW hG hRl hcs hvs hOb hOv hN hNf h1c h1v hcl hvl hdl hzv hzs
 go_enter Tryz.func75,Tryz.ntmps75
 go_wp2_with (first
  |(at_builtin; refine Lib.wpList_append_run _ rfl _ _ _ _ rfl _ _ rfl rfl _ _ (hrz _) ?_)
  |(at_builtin; refine wpList_copy_runI _ rfl _ _ 27 27 rfl _ _ rfl rfl (hcpA _ hE1 hE2 _ _) ?_)
  |(at_builtin; refine wpList_copy_runI _ rfl _ _ 27 27 rfl _ _ rfl rfl (hcpB _ (fun _=>rfl) (fun _=>rfl) _ _ _) ?_))
 go_region_law_o (refine step_copy_runI rfl _ _ 27 27 rfl (.slice (some ⟨w.heap.size,(i+m)*2,none⟩) (n+m-(i+m)) (G-(i+m))) (.slice (some ⟨b,off+i*2,none⟩) (n-i) (c-i)) (by simp [Act.eval,Act.put]) (by simp [Act.eval,Act.put]) (hcpB _ hF1 hF2 3 (G-(i+m)) (c-i)) ?_)
 go_wp2
 go_ret
 exact ⟨rfl,rfl⟩
theorem zIn (n m:Nat) (i:Int) (h0:0≤i) (h1:i≤n) (hm:0<m) (hbig:n+m≤1099511627776) (w:World) (v u:Value) (wx wy:List Value) (bx bz:List Nat) (hD1:Dst w 2 n v wx bx) (hD2:Dst w 2 m u wy bz) (hd:∀b∈bx,b∉bz) (q1:∀q∈wx,Value.oneCell q=true) (q2:∀q∈wy,Value.oneCell q=true):
  Calls Tryz.prog 75 #[v,.int .i64 i,u] w fun e w'=>∃r,e= .returned r∧zGO w w' 2 (n+m) 0 (wx.take (i.toNat*2)++(wy++wx.drop (i.toNat*2))) [] bx r:=by
 obtain ⟨k,rfl⟩:=Int.eq_ofNat_of_zero_le h0
 have hk:k≤n:=by omega
 rw [Int.toNat_natCast]
 have e1:∀q∈wx,q.oneCell'=true:=fun q hq=>by rw [zCs]; exact q1 q hq
 have e2:∀q∈wy,q.oneCell'=true:=fun q hq=>by rw [zCs]; exact q2 q hq
 rcases hD2 with ⟨_,hm0,_⟩|⟨vb,voff,vc,rfl,rfl,hmc,hO2,hl2⟩
 ·omega
 have hvs:∀j v,wy[j]? =some v→w.cell? ⟨vb,voff+j,none⟩=some v:=fun j v hj=>by
  obtain ⟨hlt,rfl⟩:=List.getElem?_eq_some_iff.1 hj
  exact hO2.has.cell j hlt
 by_cases hkn:k=n
 ·subst hkn
  have hsrc:Go.Src Tryz.prog 2 27 (.slice (some ⟨vb,voff,none⟩) m vc) m wy w:=zCc Tryz.underlying27 q2 (.inr ⟨vb,voff,vc,rfl,hO2.has,hl2⟩)
  have hl1:wx.length=k*2:=by
   rcases hD1 with ⟨_,rfl,rfl,_⟩|⟨_,_,_,_,_,_,_,h⟩
   ·rfl
   ·exact h
  obtain ⟨r,w1,hrun,hA⟩:=zCp (ty:=27) (T:=27) (U:=27) (bytes:=40) (zv:=zGB Tryz.prog 124) Tryz.underlying27 (by kernel_rfl) (by kernel_rfl) hD1 hsrc (by omega) (by omega)
  have hA':zGO w w1 2 (k+m) 0 (wx.take (k*2)++(wy++wx.drop (k*2))) [] bx r:=by
   rw [List.take_of_length_le (by omega),List.drop_of_length_le (by omega),List.append_nil]
   obtain ⟨g1,g2⟩:=hA
   refine ⟨g1,?_⟩
   rcases g2 with ⟨g2,_⟩|⟨b,off,c,g3,g4,g5,g6⟩
   ·omega
   ·exact .inr ⟨b,off,c,g3,g4,by rw [List.append_nil]; exact g5,g6⟩
  rcases hD1 with ⟨rfl,rfl,rfl,rfl⟩|⟨b,off,c,rfl,rfl,hnc,hO1,_⟩
  ·refine (zGk none 0 0 vb voff m vc w w1 r hm (Nat.le_refl _) (by omega) (fun _=>⟨rfl,rfl⟩) hrun).mono ?_
   rintro e w' ⟨rfl,rfl⟩
   exact ⟨_,rfl,hA'⟩
  ·refine (zGk (some ⟨b,off,none⟩) k c vb voff m vc w w1 r hm hnc (by omega) (fun h=>by cases h) hrun).mono ?_
   rintro e w' ⟨rfl,rfl⟩
   exact ⟨_,rfl,hA'⟩
 ·rcases hD1 with ⟨_,hn0,_⟩|⟨b,off,c,rfl,rfl,hnc,hO1,hl1⟩
  ·omega
  have hvb:vb≠b:=fun e=>hd b (by simp) (by simp [e])
  have hcs:∀j v,wx[j]? =some v→w.cell? ⟨b,off+j,none⟩=some v:=fun j v hj=>by
   obtain ⟨hlt,rfl⟩:=List.getElem?_eq_some_iff.1 hj
   exact hO1.has.cell j hlt
  by_cases hroom:n+m≤c
  ·obtain ⟨arr,e,lo,hi,g1,g2,g3,g4⟩:=id hO1
   obtain ⟨arr2,e',lo2,hi2,p1,p2,p3,p4⟩:=hO2
   refine (zG0 b off n c k vb voff m vc wx wy w (by omega) hm hroom (by omega) hvb hl1 hl2 hcs (fun j hj=>?_) (fun j hj=>zCm g1 g2 (by omega)) hvs e1 e2 e' e arr2.size arr.size (by simp [World.shape?,p1]) (by simp [World.shape?,g1]) (by omega) (zCm p1 p2 (by omega)) (zCm p1 p2 (Nat.le_refl _))).mono ?_
   ·rw [cell_of g1,Array.getElem?_eq_getElem (by omega)]; rfl
   ·rintro e' w' ⟨rfl,rfl⟩
    refine ⟨_,rfl,?_⟩
    rw [xO,xO]
    exact zGr (w:=w) (w0:=w.drew) ⟨rfl,rfl,rfl⟩ hO1 hl1 hl2 hk hroom
  ·refine (zHF b off n c k vb voff m vc wx wy w (by omega) hm hnc (by omega) (by omega) hl1 hl2 hcs hvs e1 e2 (zGB Tryz.prog 124) (by kernel_rfl) (by kernel_rfl)).mono ?_
   rintro e' w' ⟨rfl,rfl⟩
   refine ⟨_,rfl,?_⟩
   have hge:=grownCap_ge w (n+m) c 124
   have hz2:(zGB Tryz.prog 124).cells.size =2:=by kernel_rfl
   rw [←drew_setCells,xO,xO]
   refine zGO.world (zHn (w:=w) (w0:=(w.alloc (.cells ((wx.take (k*2)).toArray ++Builtin.zeroCells (zGB Tryz.prog 124).cells (n+m-k)++Builtin.zeroCells (zGB Tryz.prog 124).cells (grownCap w (n+m) c 124-(n+m))) 124)).drew) (c:=grownCap w (n+m) c 124) (z:=2) (blk:=[b]) ⟨rfl,rfl,rfl⟩ (fun q hq=>?_) ?_ hl1 hl2 hk hge) (by omega) rfl ⟨rfl,rfl⟩
   ·rw [Array.append_assoc,Array.getElem?_append_left (by simp; omega)]
    simp [List.getElem?_take,hq]
   ·simp [Builtin.zeroCells,hz2]
    omega
theorem wH.ok (a1:List File) (a2:Int) (a3:List File):Ok Tryz.prog 75 [rr 0 a1,iv a2,rr 1 a3] [rE 2 (File.enc true) a1,rE 2 (File.enc true) a3] ((wH a1 a2 a3).map fun r=>(so 2 (File.enc true) r,[])):=by
 unfold wH
 split
 ·rename_i h
  obtain ⟨h0,h1,h2,h3⟩:=h
  exact zHa (fun _=>rfl) h0 h1 (fun w v u wx wy bx bz hD1 hD2 hd _ q1 q2=>zIn a1.length a3.length a2 h0 h1 h2 h3 w v u wx wy bx bz hD1 hD2 hd q1 q2)
 ·exact fun _ h=>by cases h
end
noncomputable def c76:Code:=(Tryz.f76.body).getD .skip
theorem yF.ok (a1:(List Int)):Ok Tryz.prog 76 [sl 1 eU8 a1] [] ((yF a1).map fun r=>(so 1 eU8 r,[])):=by
 refine zS c76 Tryz.f76 0 8 (fun q=>?_)
 unfold yF
 refine J_g 2 [] [(0,sl 1 eU8 a1)] [] zB ?_
 refine J_d 12 [] [4] [(4,.nb a1.length)] [] [] (zM 1 (zJq (xs:=a1) 22 5 22 1 eU8 (.tmp 3)) zB) ?_
 refine zLa 4 rfl (fun h2=>?_) ?_
 ·obtain rfl:a1=[]:=List.eq_nil_of_length_eq_zero h2
  refine zKl (e':=some ([]:List Int)) (by kernel_rfl) ?_
  refine J_g 52 [] [(2,nv)] [] zB ?_
  exact zC7 (ds:=[nv]) (ds':=[so 1 eU8 ([]:List Int)]) (.cons (.cell (.nilsl true 1 (.nil))) (.nil) (by decide)) rfl
 ·refine zA (fun x3 h4=>?_)
  refine J_g 14 [] [(2,rr 1 x3)] [(1,rE 1 eU8 x3)] (zM 0 (zDR 22 5 1 0 eU8 ([]:List Int) [] [] []) (zM 2 (zK2 22 22 5 5 1 1 1 0 eU8 (.tmp 5) (.tmp 6) h4) zB)) ?_
  exact zC7 (ds:=[rr 1 x3]) (ds':=[so 1 eU8 x3]) (.cons (.cell (.move (.head _) (List.length_map _) (by decide) (.nil))) (.nil) (by decide)) rfl
noncomputable def c35:Code:=(Tryz.f35.body).getD .skip
theorem yH.ok (a1:zF) (a2:ByteArray) (a3:(List Int)):Ok Tryz.prog 35 [pp 0,sv a2,sl 1 eU8 a3] [.box (zF.enc true a1)] ((yH a1 a2 a3).map fun r=>(.tu [],[.box (zF.enc true r)])):=by
 refine zS c35 Tryz.f35 1 39 (fun q=>?_)
 unfold yH
 refine jO 0 (cs':=[rr 1 a1.Files,iv a1.Budget,iv a1.Writes,iv a1.Stop,bv a1.Down]) (es:=[(1,rE 2 (File.enc true) a1.Files)]) rfl (.cons (.own 1) (.cons (.same rfl rfl) (.cons (.same rfl rfl) (.cons (.same rfl rfl) (.cons (.same rfl rfl) (.nil)))))) rfl (by kernel_rfl) (by kernel_rfl) ?_
 refine zBq [(0,pp 0),(1,sv a2),(2,sl 1 eU8 a3)] [(0,.box [rr 1 a1.Files,iv a1.Budget,iv a1.Writes,iv a1.Stop,bv a1.Down]),(1,rE 2 (File.enc true) a1.Files)] (by kernel_rfl) ?_
 refine zA (fun x4 h5=>?_)
 refine J_g 2 [] [(0,pp 0),(1,sv a2),(2,sl 1 eU8 a3),(6,iv x4.1),(7,bv x4.2)] [(0,.box [rr 1 a1.Files,iv a1.Budget,iv a1.Writes,iv a1.Stop,bv a1.Down]),(1,rE 2 (File.enc true) a1.Files)] (zM 4 (jC («as»:=[.ag [rr 1 a1.Files,iv a1.Budget,iv a1.Writes,iv a1.Stop,bv a1.Down],sv a2]) [(.tmp 11),(.tmp 12)] [75,9] true [(1,rE 2 (File.enc true) a1.Files)] [] (.cons (.ag (.cons (zF7 (.head _) (File.ro true) rfl) (.cons (.same rfl) (.cons (.same rfl) (.cons (.same rfl) (.cons (.same rfl) (.nil))))))) (.cons (.same rfl) (.nil))) (yS.ok a1 a2) h5 (.tu (.cons (.same rfl rfl) (.cons (.same rfl rfl) (.nil)))) (hbor:=fun _=>⟨fhN,(zHX (flatK zW (flatK zW zAQ)))⟩)) zB) ?_
 refine J_d 12 [] [7,17] [(17,bv (!x4.2))] [] [] zB ?_
 refine xY (atI c35 7) (fun v9:(List File)=>St.mk' [(0,pp 0),(2,sl 1 eU8 a3),(6,iv x4.1)] [(0,.box [rr 3 v9,iv a1.Budget,iv a1.Writes,iv a1.Stop,bv a1.Down]),(3,rE 2 (File.enc true) v9)]) (fun v9=>?_) (fun jv9=>?_)
 ·refine zA (fun x10 h11=>?_)
  refine zA (fun x12 h13=>?_)
  refine J_g 7 [] [] [(0,.box [rr 3 v9,iv a1.Budget,iv a1.Writes,iv a1.Stop,bv a1.Down]),(3,rE 2 (File.enc true) (v9.set x4.1.toNat ({Path:=x12.Path,Data:=x10}:File)))] (zM 6 (jC («as»:=[sl 1 eU8 a3]) [(.tmp 35)] [22] false [] [] (.cons (.same rfl) (.nil)) (yF.ok a3) h11 (.own 4)) (zM 7 (zBM (kk:=.i64) 27 124 2 3 (File.enc true) (.tmp 33) (.tmp 34) h13) (zKP 9 (zKJ (b:=({Path:=x12.Path,Data:=x10}:File)) (es':=[so 1 eU8 x10]) (ts:=[4]) 22 2 3 1 (File.enc true) (rr 4 x10) (.tmp 38) (.tmp 36) [(4,rE 1 eU8 x10)] h13 (.move (.head _) (List.length_map _) (by decide) (.nil)) rfl) zB))) ?_
  refine zKT (σ':=St.mk' [] [(0,.box [rr 3 (v9.set x4.1.toNat ({Path:=x12.Path,Data:=x10}:File)),iv a1.Budget,iv a1.Writes,iv a1.Stop,bv a1.Down]),(3,rE 2 (File.enc true) (v9.set x4.1.toNat ({Path:=x12.Path,Data:=x10}:File)))]) (by simp only [rr,List.length_set]) ?_
  refine zAd 0 (cs':=[so 2 (File.enc true) (v9.set x4.1.toNat ({Path:=x12.Path,Data:=x10}:File)),iv a1.Budget,iv a1.Writes,iv a1.Stop,bv a1.Down]) (ts:=[3]) rfl (.move (.head _) (List.length_map _) (by decide) (.keep rfl (.keep rfl (.keep rfl (.keep rfl (.nil)))))) ?_
  refine zBq [] [(0,.box [so 2 (File.enc true) (v9.set x4.1.toNat ({Path:=x12.Path,Data:=x10}:File)),iv a1.Budget,iv a1.Writes,iv a1.Stop,bv a1.Down])] (by kernel_rfl) ?_
  exact zHY rfl
 ·refine zU 17 (fun h6=>?_) (fun h6=>?_)
  ·refine zA (fun x7 h8=>?_)
   refine J_d 26 [] [1,17] [] [0,1,3] [(0,.box [rr 3 x7,iv a1.Budget,iv a1.Writes,iv a1.Stop,bv a1.Down]),(3,rE 2 (File.enc true) x7)] (zM 8 (zKx (ds:=[sv a2,nv]) (ts:=[]) 27 124 2 2 (File.enc true) [({Path:=a2,Data:=([]:List Int)}:File)] [0] [(.tmp 25)] [.ag [sv a2,nv]] [] (.keep rfl (.nilsl true 1 (.nil)))) (zM 9 (jC («as»:=[rr 1 a1.Files,iv x4.1,rr 2 [({Path:=a2,Data:=([]:List Int)}:File)]]) [(.tmp 22),(.tmp 23),(.tmp 26)] [27,3,27] false [(1,rE 2 (File.enc true) a1.Files),(2,rE 2 (File.enc true) [({Path:=a2,Data:=([]:List Int)}:File)])] [1,2] (.cons (.rf rfl) (.cons (.same rfl) (.cons (.rf rfl) (.nil)))) (wH.ok a1.Files x4.1 [({Path:=a2,Data:=([]:List Int)}:File)]) h8 (.own 3)) zB)) ?_
   exact xS (J_j (jv9 x7)) rfl
  ·refine zDz 1 3 (Nat.le_of_ble_eq_true rfl) (Nat.le_of_ble_eq_true rfl) ?_
   exact xS (J_j (jv9 a1.Files)) rfl
theorem strings_Repeat.ok (a1:ByteArray) (a2:Int):Ok Tryz.prog 78 [sv a1,iv a2] [] ((strings_Repeat a1 a2).map fun r=>(sv r,[])):=by
 unfold strings_Repeat
 split
 ·rename_i h
  obtain ⟨h0,h1,h2⟩:=h
  obtain ⟨n,rfl⟩:=Int.eq_ofNat_of_zero_le h0
  exact zIu (vs:=[.string a1,.int .i64 n]) (fun w=>Tryz.strings_Repeat a1 n w (by omega) h2)
 ·exact fun _ h=>by cases h
noncomputable def c36:Code:=(Tryz.f36.body).getD .skip
theorem jF.ok (a1:Int):Ok Tryz.prog 36 [iv a1] [] ((jF a1).map fun r=>(sv r,[])):=by
 refine zS c36 Tryz.f36 0 13 (fun q=>?_)
 unfold jF
 refine J_g 2 [] [(0,iv a1)] [] zB ?_
 refine zA (fun x2 h3=>?_)
 refine J_g 6 [] [(3,sv x2)] [] (zM 1 (wU [(.tmp 4)] [2] (tO.ok a1) h3) zB) ?_
 refine zA (fun x4 h5=>?_)
 refine zA (fun x6 h7=>?_)
 refine zA (fun x8 h9=>?_)
 refine J_g 14 [] [(2,sv x8)] [] (zM 3 (wU [(.const (.string (bs [48]))),(.tmp 8)] [9,3] (strings_Repeat.ok (bs [48]) (w64 (6-(x2.size:Int)))) h5) (zM 4 (zC9 9 9 (.const (.string (bs [103,101,110,47]))) (.tmp 9) h7) (zM 6 (zC9 9 9 (.tmp 10) (.tmp 11) h9) zB))) ?_
 exact xA rfl
noncomputable def c8:Code:=(Tryz.f8.body).getD .skip
theorem uV.ok (a1:Int):Ok Tryz.prog 8 [iv a1] [] ((uV a1).map fun r=>(.ag (zL.enc true r),[])):=by
 refine zS c8 Tryz.f8 0 23 (fun q=>?_)
 unfold uV
 refine J_g 2 [(0,0)] [(0,iv a1),(2,pp 0)] [(0,.box [iv 0,nv,iv 0,iv 0,iv 0,bv false])] zB ?_
 refine zA (fun x2 h3=>?_)
 refine J_d 24 [] [4] [(4,bv (!x2))] [] [] (zM 1 (wU [(.tmp 5),(.const (.int .i64 0)),(.const (.int .i64 20000))] [2,2,2] (yB.ok a1 0 20000) h3) zB) ?_
 refine zU 4 (fun h4=>?_) (fun h4=>?_)
 ·refine J_g 100 [] [(2,pp 0)] [(0,.box [iv 3,nv,iv 0,iv 0,iv 0,bv false])] zB ?_
  exact zC7 (ds:=[.ag [iv 3,nv,iv 0,iv 0,iv 0,bv false]]) (ds':=[.ag [iv 3,so 2 (File.enc true) ([]:List File),iv 0,iv 0,iv 0,bv false]]) (.cons (.ag (.keep rfl (.nilsl true 2 (.keep rfl (.keep rfl (.keep rfl (.keep rfl (.nil)))))))) (.nil) (by decide)) rfl
 ·refine J_d 102 [] [4,9] [(9,bv (a1==0))] [] [] zB ?_
  refine zU 9 (fun h5=>?_) (fun h5=>?_)
  ·refine J_g 412 [] [(2,pp 0)] [(0,.box [iv 8,nv,iv 0,iv 0,iv 0,bv false])] zB ?_
   exact zC7 (ds:=[.ag [iv 8,nv,iv 0,iv 0,iv 0,bv false]]) (ds':=[.ag [iv 8,so 2 (File.enc true) ([]:List File),iv 0,iv 0,iv 0,bv false]]) (.cons (.ag (.keep rfl (.nilsl true 2 (.keep rfl (.keep rfl (.keep rfl (.keep rfl (.nil)))))))) (.nil) (by decide)) rfl
  ·refine J_g 14 [(2,1)] [(2,pp 0),(3,pp 1)] [(0,.box [iv 0,nv,iv 0,iv 0,iv 0,bv false]),(1,.box [nv,iv a1,iv 0,iv (-1),bv false])] zB ?_
   refine zAd 1 (cs':=[so 2 (File.enc true) ([]:List File),iv a1,iv 0,iv (-1),bv false]) (ts:=[]) rfl (.nilsl true 2 (.keep rfl (.keep rfl (.keep rfl (.keep rfl (.nil)))))) ?_
   refine zBq [(2,pp 0),(3,pp 1)] [(0,.box [iv 0,nv,iv 0,iv 0,iv 0,bv false]),(1,.box [so 2 (File.enc true) ([]:List File),iv a1,iv 0,iv (-1),bv false])] (by kernel_rfl) ?_
   refine zA (fun x6 h7=>?_)
   refine J_g 30 [] [(2,pp 0),(3,pp 1)] [(0,.box [iv 0,nv,iv 0,iv 0,iv 0,bv false]),(1,.box (zF.enc true x6))] (zM 0 (zDR 22 5 1 2 eU8 [49] [0] [(.const (.int .u8 49))] [uv 49]) (zM 1 (zKH (xs:=[49]) 22 5 2 (.tmp 15)) (zM 2 (jC («as»:=[pp 1,sv (bs [99,117,114]),sl 1 eU8 [49]]) [(.tmp 3),(.const (.string (bs [99,117,114]))),(.tmp 16)] [29,9,22] false [(1,.box [so 2 (File.enc true) ([]:List File),iv a1,iv 0,iv (-1),bv false])] [1] (.cons (.pt rfl) (.cons (.same rfl) (.cons (.same rfl) (.nil)))) (yH.ok ({Files:=([]:List File),Budget:=a1,Writes:=0,Stop:=(-1),Down:=false}:zF) (bs [99,117,114]) [49]) h7 (.tu (.nil))) zB))) ?_
   refine jO 1 (cs':=[rr 2 x6.Files,iv x6.Budget,iv x6.Writes,iv x6.Stop,bv x6.Down]) (es:=[(2,rE 2 (File.enc true) x6.Files)]) rfl (.cons (.own 2) (.cons (.same rfl rfl) (.cons (.same rfl rfl) (.cons (.same rfl rfl) (.cons (.same rfl rfl) (.nil)))))) rfl (by kernel_rfl) (by kernel_rfl) ?_
   refine zBq [(2,pp 0),(3,pp 1)] [(0,.box [iv 0,nv,iv 0,iv 0,iv 0,bv false]),(1,.box [rr 2 x6.Files,iv x6.Budget,iv x6.Writes,iv x6.Stop,bv x6.Down]),(2,rE 2 (File.enc true) x6.Files)] (by kernel_rfl) ?_
   refine zA (fun x8 h9=>?_)
   refine zAd 1 (cs':=[so 2 (File.enc true) x6.Files,iv x6.Budget,iv x6.Writes,iv x6.Stop,bv x6.Down]) (ts:=[2]) rfl (.move (.tail _ (.head _)) (List.length_map _) (by decide) (.keep rfl (.keep rfl (.keep rfl (.keep rfl (.nil)))))) ?_
   refine zBq [(2,pp 0),(3,pp 1)] [(0,.box [iv 0,nv,iv 0,iv 0,iv 0,bv false]),(1,.box (zF.enc true x6))] (by kernel_rfl) ?_
   refine zA (fun x10 h11=>?_)
   refine J_g 62 [] [(2,pp 0),(3,pp 1)] [(0,.box [iv 0,nv,iv 0,iv 0,iv 0,bv false]),(1,.box (zF.enc true x10))] (zM 0 (wU [(.const (.int .i64 1))] [2] (jF.ok 1) h9) (zM 1 (jC («as»:=[pp 1,sv x8,nv]) [(.tmp 3),(.tmp 18),(.const (.slice none 0 0))] [29,9,22] false [(1,.box (zF.enc true x6))] [1] (.cons (.pt rfl) (.cons (.same rfl) (.cons (.nil false 1) (.nil)))) (yH.ok x6 x8 ([]:List Int)) h11 (.tu (.nil))) zB)) ?_
   refine jO 1 (cs':=[rr 2 x10.Files,iv x10.Budget,iv x10.Writes,iv x10.Stop,bv x10.Down]) (es:=[(2,rE 2 (File.enc true) x10.Files)]) rfl (.cons (.own 2) (.cons (.same rfl rfl) (.cons (.same rfl rfl) (.cons (.same rfl rfl) (.cons (.same rfl rfl) (.nil)))))) rfl (by kernel_rfl) (by kernel_rfl) ?_
   refine zBq [(2,pp 0),(3,pp 1)] [(0,.box [iv 0,nv,iv 0,iv 0,iv 0,bv false]),(1,.box [rr 2 x10.Files,iv x10.Budget,iv x10.Writes,iv x10.Stop,bv x10.Down]),(2,rE 2 (File.enc true) x10.Files)] (by kernel_rfl) ?_
   refine zAd 1 (cs':=[so 2 (File.enc true) x10.Files,iv x10.Budget,iv x10.Writes,iv x10.Stop,bv x10.Down]) (ts:=[2]) rfl (.move (.tail _ (.head _)) (List.length_map _) (by decide) (.keep rfl (.keep rfl (.keep rfl (.keep rfl (.nil)))))) ?_
   refine zBq [(2,pp 0),(3,pp 1)] [(0,.box [iv 0,nv,iv 0,iv 0,iv 0,bv false]),(1,.box (zF.enc true x10))] (by kernel_rfl) ?_
   refine zA (fun x12 h13=>?_)
   refine J_g 126 [] [(2,pp 0),(3,pp 1)] [(0,.box [iv 0,nv,iv 0,iv 0,iv 0,bv false]),(1,.box (zF.enc true x12))] (zM 0 (jC («as»:=[pp 1,sv (bs [114,111,111,116,115]),nv]) [(.tmp 3),(.const (.string (bs [114,111,111,116,115]))),(.const (.slice none 0 0))] [29,9,22] false [(1,.box (zF.enc true x10))] [1] (.cons (.pt rfl) (.cons (.same rfl) (.cons (.nil false 1) (.nil)))) (yH.ok x10 (bs [114,111,111,116,115]) ([]:List Int)) h13 (.tu (.nil))) zB) ?_
   refine jO 1 (cs':=[rr 2 x12.Files,iv x12.Budget,iv x12.Writes,iv x12.Stop,bv x12.Down]) (es:=[(2,rE 2 (File.enc true) x12.Files)]) rfl (.cons (.own 2) (.cons (.same rfl rfl) (.cons (.same rfl rfl) (.cons (.same rfl rfl) (.cons (.same rfl rfl) (.nil)))))) rfl (by kernel_rfl) (by kernel_rfl) ?_
   refine zBq [(2,pp 0),(3,pp 1)] [(0,.box [iv 0,nv,iv 0,iv 0,iv 0,bv false]),(1,.box [rr 2 x12.Files,iv x12.Budget,iv x12.Writes,iv x12.Stop,bv x12.Down]),(2,rE 2 (File.enc true) x12.Files)] (by kernel_rfl) ?_
   refine J_g 254 [] [(2,pp 0)] [(0,.box [iv 0,rr 2 x12.Files,iv x12.Budget,iv x12.Writes,iv x12.Stop,bv x12.Down]),(2,rE 2 (File.enc true) x12.Files)] zB ?_
   exact zC7 (ds:=[.ag [iv 0,rr 2 x12.Files,iv x12.Budget,iv x12.Writes,iv x12.Stop,bv x12.Down]]) (ds':=[.ag [iv 0,so 2 (File.enc true) x12.Files,iv x12.Budget,iv x12.Writes,iv x12.Stop,bv x12.Down]]) (.cons (.ag (.keep rfl (.move (.tail _ (.head _)) (List.length_map _) (by decide) (.keep rfl (.keep rfl (.keep rfl (.keep rfl (.nil)))))))) (.nil) (by decide)) rfl
noncomputable def c82:Code:=(Tryz.f82.body).getD .skip
theorem vB.ok (a1:ByteArray) (q:Wd) (kn:Unit→Option (D×List Ent)) (hk:∀v:Unit,J (q.g Tryz.prog 82 0 37) c82 (atI c82 15) (St.mk' [] []) (some v) kn):
  ∀s15:Int,J (q.g Tryz.prog 82 0 37) c82 (atI c82 116) (St.mk' [(0,sv a1),(14,iv (a1.size:Int)),(15,iv s15)] []) (vB a1 s15) (Fl.go (fun r:Int=>some (iv r,[])) kn):=by
 refine zC6 (fun g ih s15=>?_)
 unfold kJ
 refine J_d 232 [] [16] [(16,bv (decide (s15< (a1.size:Int))))] [] [] zB ?_
 refine zU 16 (fun h16=>?_) (fun h16=>?_)
 ·refine J_d 3736 [] [3,16] [(3,iv s15)] [] [] zB ?_
  refine zA (fun x17 h18=>?_)
  refine J_d 7474 [] [3,4] [(4,uv x17)] [] [] (zM 2 (zGN (kk:=.i64) 9 (.tmp 18) (.tmp 19) h18) zB) ?_
  refine zA (fun x19 h20=>?_)
  refine xY (atI c82 14951) (fun v24:Bool=>St.mk' [(0,sv a1),(14,iv (a1.size:Int)),(15,iv s15),(35,bv v24)] []) (fun v24=>?_) (fun jv24=>?_)
  ·refine zU 35 (fun h25=>?_) (fun h25=>?_)
   ·refine J_g 59804 [] [(2,iv 5)] [] zB ?_
    exact xA rfl
   ·refine J_d 935 [] [15,35] [(15,iv (w64 (s15+1)))] [] [] zB ?_
    exact J_q (J_b (ih (w64 (s15+1)))) rfl
  ·refine wZ (fun h21=>?_) (fun h21=>?_)
   ·refine wZ (fun h22=>?_) (fun h22=>?_)
    ·refine wZ (fun h23=>?_) (fun h23=>?_)
     ·refine J_d 14950 [] [4,35] [(35,bv (x17 !=47))] [] [] (zM 1 (wU [(.tmp 21)] [5] (yC.ok x17) h20) (xX 3 [(23,bv (!x19))] [] h21 (xX 7 [(27,bv (x17 !=46))] [] h22 (xX 11 [(31,bv (x17 !=45))] [] h23 zB)))) ?_
      exact xS (J_j (jv24 (x17 !=47))) rfl
     ·refine J_d 14950 [] [4,35] [(35,bv false)] [] [] (zM 1 (wU [(.tmp 21)] [5] (yC.ok x17) h20) (xX 3 [(23,bv (!x19))] [] h21 (xX 7 [(27,bv (x17 !=46))] [] h22 (xX 11 [(31,bv (x17 !=45))] [] h23 zB)))) ?_
      exact xS (J_j (jv24 false)) rfl
    ·refine J_d 14950 [] [4,35] [(35,bv false)] [] [] (zM 1 (wU [(.tmp 21)] [5] (yC.ok x17) h20) (xX 3 [(23,bv (!x19))] [] h21 (xX 7 [(27,bv (x17 !=46))] [] h22 zB))) ?_
     exact xS (J_j (jv24 false)) rfl
   ·refine J_d 14950 [] [4,35] [(35,bv false)] [] [] (zM 1 (wU [(.tmp 21)] [5] (yC.ok x17) h20) (xX 3 [(23,bv (!x19))] [] h21 zB)) ?_
    exact xS (J_j (jv24 false)) rfl
 ·exact xS (hk ()) rfl
theorem xK.ok (a1:ByteArray):Ok Tryz.prog 82 [sv a1] [] ((xK a1).map fun r=>(iv r,[])):=by
 refine zS c82 Tryz.f82 0 37 (fun q=>?_)
 unfold xK
 refine J_g 2 [] [(0,sv a1)] [] zB ?_
 refine xY (atI c82 13) (fun v3:Bool=>St.mk' [(0,sv a1),(12,bv v3)] []) (fun v3=>?_) (fun jv3=>?_)
 ·refine zU 12 (fun h4=>?_) (fun h4=>?_)
  ·refine J_g 52 [] [(2,iv 5)] [] zB ?_
   exact xA rfl
  ·refine J_g 28 [] [(0,sv a1),(14,iv (a1.size:Int)),(15,iv 0)] [] zB ?_
   refine zBo (K0:=(fun r:Int=>some (iv r,[]))) (fun _=>rfl) (vB.ok a1 q _ (fun v26=>J_j ?_) 0)
   refine J_g 30 [] [(2,iv 0)] [] zB ?_
   exact xA rfl
 ·refine wZ (fun h2=>?_) (fun h2=>?_)
  ·refine J_g 12 [] [(0,sv a1),(12,bv true)] [] (xX 3 [(7,bv (decide ((a1.size:Int)<1)))] [] h2 zB) ?_
   exact xS (J_j (jv3 true)) rfl
  ·refine J_g 12 [] [(0,sv a1),(12,bv (decide ((a1.size:Int)>40)))] [] (xX 3 [(7,bv (decide ((a1.size:Int)<1)))] [] h2 zB) ?_
   exact xS (J_j (jv3 (decide ((a1.size:Int)>40)))) rfl
noncomputable def c83:Code:=(Tryz.f83.body).getD .skip
theorem tT.ok (a1:zF) (q:Wd) (kn:Int→Option (D×List Ent)) (hk:∀v:Int,J (q.g Tryz.prog 83 0 20) c83 (atI c83 15) (St.mk' [(3,iv v)] []) (some v) kn):
  ∀s5:(Int×Int),J (q.g Tryz.prog 83 0 20) c83 (atI c83 116) (St.mk' [(3,iv s5.1),(7,sl 2 (File.enc false) a1.Files),(8,iv (a1.Files.length:Int)),(9,iv s5.2)] []) (tT a1 s5) kn:=by
 refine zC6 (fun g ih s5=>?_)
 unfold zAu
 refine J_d 232 [] [10] [(10,bv (decide (s5.2< (a1.Files.length:Int))))] [] [] zB ?_
 refine zU 10 (fun h6=>?_) (fun h6=>?_)
 ·refine zA (fun x7 h8=>?_)
  refine J_g 3736 [(2,0)] [(3,iv s5.1),(5,pp 0),(7,sl 2 (File.enc false) a1.Files),(8,iv (a1.Files.length:Int)),(9,iv s5.2)] [(0,.box (File.enc false x7))] (zM 0 (zFq (kk:=.i64) 27 124 2 (File.enc false) (.tmp 7) (.tmp 9) h8) zB) ?_
  refine J_g 3737 [] [(3,iv (w64 (s5.1+(x7.Data.length:Int)))),(7,sl 2 (File.enc false) a1.Files),(8,iv (a1.Files.length:Int)),(9,iv s5.2)] [] zB ?_
  refine J_d 935 [] [9] [(9,iv (w64 (s5.2+1)))] [] [] zB ?_
  exact J_q (J_b (ih (w64 (s5.1+(x7.Data.length:Int)),w64 (s5.2+1)))) rfl
 ·exact xS (hk s5.1) rfl
theorem xM.ok (a1:zF):Ok Tryz.prog 83 [.ag (zF.enc false a1)] [] ((xM a1).map fun r=>(iv r,[])):=by
 refine zS c83 Tryz.f83 0 20 (fun q=>?_)
 unfold xM
 refine J_g 2 [(0,0)] [(1,pp 0)] [(0,.box (zF.enc false a1))] zB ?_
 refine J_g 6 [] [(1,pp 0),(3,iv 0)] [(0,.box (zF.enc false a1))] zB ?_
 refine J_g 28 [] [(3,iv 0),(7,sl 2 (File.enc false) a1.Files),(8,iv (a1.Files.length:Int)),(9,iv 0)] [] zB ?_
 refine zIz (tT.ok a1 q _ (fun v9=>J_j ?_) (0,0))
 refine J_g 30 [] [(2,iv v9)] [] zB ?_
 exact xA rfl
noncomputable def c40:Code:=(Tryz.f40.body).getD .skip
theorem vF.ok (a1:zF) (q:Wd) (kn:Unit→Option (D×List Ent)) (hk:∀v:Unit,J (q.g Tryz.prog 40 0 68) c40 (atI c40 15) (St.mk' [(1,pp 0)] [(0,.box (zF.enc false a1))]) (some v) kn):
  ∀s25:Int,J (q.g Tryz.prog 40 0 68) c40 (atI c40 116) (St.mk' [(1,pp 0),(29,sl 2 (File.enc false) a1.Files),(30,iv (a1.Files.length:Int)),(31,iv s25)] [(0,.box (zF.enc false a1))]) (vF a1 s25) (Fl.go (fun r:Int=>some (iv r,[])) kn):=by
 refine zC6 (fun g ih s25=>?_)
 unfold kR
 refine J_d 232 [] [32] [(32,bv (decide (s25< (a1.Files.length:Int))))] [] [] zB ?_
 refine zU 32 (fun h26=>?_) (fun h26=>?_)
 ·refine zA (fun x27 h28=>?_)
  refine J_d 3736 [(3,1)] [3,4,32] [(3,iv s25),(4,pp 1)] [1] [(1,.box (File.enc false x27))] (zM 1 (zFq (kk:=.i64) 27 124 2 (File.enc false) (.tmp 29) (.tmp 31) h28) zB) ?_
  refine zA (fun x29 h30=>?_)
  refine J_g 14948 [] [(1,pp 0),(3,iv s25),(4,pp 1),(5,iv x29),(29,sl 2 (File.enc false) a1.Files),(30,iv (a1.Files.length:Int)),(31,iv s25)] [(0,.box (zF.enc false a1)),(1,.box (File.enc false x27))] (zM 2 (wU [(.tmp 37)] [9] (xK.ok x27.Path) h30) zB) ?_
  refine J_d 29898 [] [40] [(40,bv (x29 !=0))] [] [] zB ?_
  refine zU 40 (fun h31=>?_) (fun h31=>?_)
  ·refine J_g 119596 [] [(2,iv x29)] [] zB ?_
   exact xA rfl
  ·refine xY (atI c40 29901) (fun v35:Bool=>St.mk' [(1,pp 0),(4,pp 1),(29,sl 2 (File.enc false) a1.Files),(30,iv (a1.Files.length:Int)),(31,iv s25),(42,bv v35)] [(0,.box (zF.enc false a1)),(1,.box (File.enc false x27))]) (fun v35=>?_) (fun jv35=>?_)
   ·refine zU 42 (fun h36=>?_) (fun h36=>?_)
    ·refine J_g 119604 [] [(2,iv 1)] [] zB ?_
     exact xA rfl
    ·refine J_d 119606 [] [4,42,57] [(57,bv (decide ((x27.Data.length:Int)>4000)))] [1] [] zB ?_
     refine zU 57 (fun h37=>?_) (fun h37=>?_)
     ·refine J_g 478428 [] [(2,iv 2)] [] zB ?_
      exact xA rfl
     ·refine J_d 935 [] [31,57] [(31,iv (w64 (s25+1)))] [] [] zB ?_
      exact J_q (J_b (ih (w64 (s25+1)))) rfl
   ·refine wZ (fun h32=>?_) (fun h32=>?_)
    ·refine zA (fun x33 h34=>?_)
     refine J_d 29900 [] [3,5,40,42] [(42,bv (slt x27.Path x33.Path||seq x27.Path x33.Path))] [] [] (xX 2 [(44,bv (decide (s25>0)))] [] h32 (zB8 9 2 45 true (zFq (kk:=.i64) 27 124 2 (File.enc false) (.tmp 49) (.tmp 51) h34) zB)) ?_
     exact xS (J_j (jv35 (slt x27.Path x33.Path||seq x27.Path x33.Path))) rfl
    ·refine J_d 29900 [] [3,5,40,42] [(42,bv false)] [] [] (xX 2 [(44,bv (decide (s25>0)))] [] h32 zB) ?_
     exact xS (J_j (jv35 false)) rfl
 ·exact xS (hk ()) rfl
theorem yO.ok (a1:zF):Ok Tryz.prog 40 [.ag (zF.enc false a1)] [] ((yO a1).map fun r=>(iv r,[])):=by
 refine zS c40 Tryz.f40 0 68 (fun q=>?_)
 unfold yO
 refine J_g 2 [(0,0)] [(1,pp 0)] [(0,.box (zF.enc false a1))] zB ?_
 refine zA (fun x2 h3=>?_)
 refine xY (atI c40 25) (fun v10:Bool=>St.mk' [(1,pp 0),(6,bv v10)] [(0,.box (zF.enc false a1))]) (fun v10=>?_) (fun jv10=>?_)
 ·refine zU 6 (fun h11=>?_) (fun h11=>?_)
  ·refine J_g 100 [] [(2,iv 3)] [] zB ?_
   exact xA rfl
  ·refine J_d 102 [] [6,23] [(23,bv (decide ((a1.Files.length:Int)>120)))] [] [] zB ?_
   refine zU 23 (fun h12=>?_) (fun h12=>?_)
   ·refine J_g 412 [] [(2,iv 2)] [] zB ?_
    exact xA rfl
   ·refine J_d 28 [] [23,29,30,31] [(29,sl 2 (File.enc false) a1.Files),(30,iv (a1.Files.length:Int)),(31,iv 0)] [] [] zB ?_
    refine zBo (K0:=(fun r:Int=>some (iv r,[]))) (fun _=>rfl) (vF.ok a1 q _ (fun v38=>J_j ?_) 0)
    refine zA (fun x39 h40=>?_)
    refine J_g 60 [] [(67,bv (decide (x39>a1.Budget)))] [] (zM 1 (wU [(.tmp 63)] [29] (xM.ok a1) h40) zB) ?_
    refine zU 67 (fun h41=>?_) (fun h41=>?_)
    ·refine J_g 244 [] [(2,iv 8)] [] zB ?_
     exact xA rfl
    ·refine J_g 62 [] [(2,iv 0)] [] zB ?_
     exact xA rfl
 ·refine wZ (fun h4=>?_) (fun h4=>?_)
  ·refine J_d 24 [] [6] [(6,bv true)] [] [] (zM 2 (wU [(.tmp 8),(.const (.int .i64 0)),(.const (.int .i64 20000))] [2,2,2] (yB.ok a1.Budget 0 20000) h3) (xX 4 [(10,bv (!x2))] [] h4 zB)) ?_
   exact xS (J_j (jv10 true)) rfl
  ·refine zA (fun x5 h6=>?_)
   refine wZ (fun h7=>?_) (fun h7=>?_)
   ·refine J_d 24 [] [6] [(6,bv true)] [] [] (zM 2 (wU [(.tmp 8),(.const (.int .i64 0)),(.const (.int .i64 20000))] [2,2,2] (yB.ok a1.Budget 0 20000) h3) (xX 4 [(10,bv (!x2))] [] h4 (zB8 7 4 11 false (wU [(.tmp 13),(.const (.int .i64 0)),(.const (.int .i64 1000000000))] [2,2,2] (yB.ok a1.Writes 0 1000000000) h6) (xX 10 [(16,bv (!x5))] [] h7 zB)))) ?_
    exact xS (J_j (jv10 true)) rfl
   ·refine zA (fun x8 h9=>?_)
    refine J_d 24 [] [6] [(6,bv (!x8))] [] [] (zM 2 (wU [(.tmp 8),(.const (.int .i64 0)),(.const (.int .i64 20000))] [2,2,2] (yB.ok a1.Budget 0 20000) h3) (xX 4 [(10,bv (!x2))] [] h4 (zB8 7 4 11 false (wU [(.tmp 13),(.const (.int .i64 0)),(.const (.int .i64 1000000000))] [2,2,2] (yB.ok a1.Writes 0 1000000000) h6) (xX 10 [(16,bv (!x5))] [] h7 (zB8 13 10 17 false (wU [(.tmp 19),(.const (.int .i64 (-1))),(.const (.int .i64 1000000000))] [2,2,2] (yB.ok a1.Stop (-1) 1000000000) h9) zB))))) ?_
    exact xS (J_j (jv10 (!x8))) rfl
noncomputable def c79:Code:=(Tryz.f79.body).getD .skip
theorem wF.ok (a1:zF) (q:Wd) (kn:(List File)→Option (D×List Ent)) (hk:∀v:(List File),J (q.g Tryz.prog 79 0 28) c79 (atI c79 31) (St.mk' [(2,pp 1),(3,pp 2)] [(1,.box [nv,iv 0,iv 0,iv 0,bv false]),(2,.box [rr 3 v,iv a1.Budget,iv a1.Writes,iv a1.Stop,bv a1.Down]),(3,rE 2 (File.enc true) v)]) (some v) kn):
  ∀s16:((List File)×Int),J (q.g Tryz.prog 79 0 28) c79 (atI c79 244) (St.mk' [(2,pp 1),(3,pp 2),(9,sl 2 (File.enc false) a1.Files),(10,iv (a1.Files.length:Int)),(11,iv s16.2)] [(1,.box [nv,iv 0,iv 0,iv 0,bv false]),(2,.box [rr 3 s16.1,iv a1.Budget,iv a1.Writes,iv a1.Stop,bv a1.Down]),(3,rE 2 (File.enc true) s16.1)]) (wF a1 s16) kn:=by
 refine zC6 (fun g ih s16=>?_)
 unfold jR
 refine J_d 488 [] [12] [(12,bv (decide (s16.2< (a1.Files.length:Int))))] [] [] zB ?_
 refine zU 12 (fun h17=>?_) (fun h17=>?_)
 ·refine zA (fun x18 h19=>?_)
  refine J_d 7832 [(2,4)] [5,12] [(5,pp 4)] [4] [(4,.box (File.enc false x18))] (zM 0 (zFq (kk:=.i64) 27 124 2 (File.enc false) (.tmp 9) (.tmp 11) h19) zB) ?_
  refine zA (fun x20 h21=>?_)
  refine zA (fun x22 h23=>?_)
  refine J_g 7833 [] [(2,pp 1),(3,pp 2),(9,sl 2 (File.enc false) a1.Files),(10,iv (a1.Files.length:Int)),(11,iv s16.2)] [(1,.box [nv,iv 0,iv 0,iv 0,bv false]),(2,.box [rr 7 x22,iv a1.Budget,iv a1.Writes,iv a1.Stop,bv a1.Down]),(7,rE 2 (File.enc true) x22)] (zM 6 (jC («as»:=[sl 1 eU8 x18.Data]) [(.tmp 20)] [22] false [] [] (.cons (.same rfl) (.nil)) (yF.ok x18.Data) h21 (.own 5)) (zM 8 (zKx (ds:=[sv x18.Path,rr 5 x20]) (ts:=[5]) 27 124 2 6 (File.enc true) [({Path:=x18.Path,Data:=x20}:File)] [0] [(.tmp 22)] [.ag [sv x18.Path,rr 5 x20]] [(5,rE 1 eU8 x20)] (.keep rfl (.move (.head _) (List.length_map _) (by decide) (.nil)))) (zM 9 (zJC 27 27 124 124 2 40 7 3 6 (File.enc true) (.tmp 16) (.tmp 23) h23) zB))) ?_
  refine J_d 1959 [] [11] [(11,iv (w64 (s16.2+1)))] [] [] zB ?_
  refine zDz 7 3 (Nat.le_of_ble_eq_true rfl) (Nat.le_of_ble_eq_true rfl) ?_
  exact J_q (J_b (ih (x22,w64 (s16.2+1)))) rfl
 ·exact xS (hk s16.1) rfl
theorem xU.ok (a1:zF):Ok Tryz.prog 79 [.ag (zF.enc false a1)] [] ((xU a1).map fun r=>(.ag (zF.enc true r),[])):=by
 refine zS c79 Tryz.f79 0 28 (fun q=>?_)
 unfold xU
 refine J_g 2 [(0,0),(1,1)] [(1,pp 0),(2,pp 1)] [(0,.box (zF.enc false a1)),(1,.box [nv,iv 0,iv 0,iv 0,bv false])] zB ?_
 refine J_g 6 [(1,2)] [(1,pp 0),(2,pp 1),(3,pp 2)] [(0,.box (zF.enc false a1)),(1,.box [nv,iv 0,iv 0,iv 0,bv false]),(2,.box (zF.enc false a1))] zB ?_
 refine J_g 14 [] [(1,pp 0),(2,pp 1),(3,pp 2)] [(0,.box (zF.enc false a1)),(1,.box [nv,iv 0,iv 0,iv 0,bv false]),(2,.box [nv,iv a1.Budget,iv a1.Writes,iv a1.Stop,bv a1.Down])] zB ?_
 refine J_d 60 [] [1,9,10,11] [(9,sl 2 (File.enc false) a1.Files),(10,iv (a1.Files.length:Int)),(11,iv 0)] [0] [] zB ?_
 refine zJM 2 0 3 2 rfl rfl (Nat.le_of_ble_eq_true rfl) (by kernel_rfl) ?_
 refine zIz (wF.ok a1 q _ (fun v24=>J_j ?_) (([]:List File),0))
 refine J_g 62 [] [(2,pp 1)] [(1,.box [rr 3 v24,iv a1.Budget,iv a1.Writes,iv a1.Stop,bv a1.Down]),(3,rE 2 (File.enc true) v24)] zB ?_
 exact zC7 (ds:=[.ag [rr 3 v24,iv a1.Budget,iv a1.Writes,iv a1.Stop,bv a1.Down]]) (ds':=[.ag [so 2 (File.enc true) v24,iv a1.Budget,iv a1.Writes,iv a1.Stop,bv a1.Down]]) (.cons (.ag (.move (.tail _ (.head _)) (List.length_map _) (by decide) (.keep rfl (.keep rfl (.keep rfl (.keep rfl (.nil))))))) (.nil) (by decide)) rfl
noncomputable def c81:Code:=(Tryz.f81.body).getD .skip
theorem yA.ok (a1:zF) (a2:ByteArray):Ok Tryz.prog 81 [.ag (zF.enc false a1),sv a2] [] ((yA a1 a2).map fun r=>(.tu [sl 1 eU8 r.1,bv r.2],[])):=by
 refine zS c81 Tryz.f81 0 22 (fun q=>?_)
 unfold yA
 refine J_g 2 [(0,0)] [(1,sv a2),(2,pp 0)] [(0,.box (zF.enc false a1))] zB ?_
 refine zA (fun x3 h4=>?_)
 refine J_g 6 [] [(2,pp 0),(6,iv x3.1),(7,bv x3.2)] [(0,.box (zF.enc false a1))] (zM 2 (wU [(.tmp 9),(.tmp 10)] [29,9] (yS.ok a1 a2) h4) zB) ?_
 refine J_d 28 [] [7,15] [(15,bv (!x3.2))] [] [] zB ?_
 refine zU 15 (fun h5=>?_) (fun h5=>?_)
 ·refine J_g 116 [] [(4,nv),(5,bv false)] [] zB ?_
  exact zC7 (ds:=[nv,bv false]) (ds':=[sl 1 eU8 ([]:List Int),bv false]) (.cons (.cell (.nilsl false 1 (.nil))) (.cons (.cell (.keep rfl (.nil))) (.nil) (by decide)) (by decide)) rfl
 ·refine zA (fun x6 h7=>?_)
  refine J_g 30 [] [(4,sl 1 eU8 x6.Data),(5,bv true)] [] (zM 3 (zFq (kk:=.i64) 27 124 2 (File.enc false) (.tmp 17) (.tmp 18) h7) zB) ?_
  exact zHY rfl
noncomputable def c85:Code:=(Tryz.f85.body).getD .skip
theorem wE.ok (a1:zF) (a2:ByteArray) (a3:(List Int)):Ok Tryz.prog 85 [.pb [pp 0],pp 1,pp 2] [.box (zF.enc true a1),.box [sv a2],.box [sl 1 eU8 a3]] ((wE a1 a2 a3).map fun r=>(.tu [],[.box (zF.enc true r),.box [sv a2],.box [sl 1 eU8 a3]])):=by
 refine zS c85 Tryz.f85 3 7 (fun q=>?_)
 unfold wE
 refine jO 0 (cs':=[rr 3 a1.Files,iv a1.Budget,iv a1.Writes,iv a1.Stop,bv a1.Down]) (es:=[(3,rE 2 (File.enc true) a1.Files)]) rfl (.cons (.own 3) (.cons (.same rfl rfl) (.cons (.same rfl rfl) (.cons (.same rfl rfl) (.cons (.same rfl rfl) (.nil)))))) rfl (by kernel_rfl) (by kernel_rfl) ?_
 refine zBq [(0,.pb [pp 0]),(1,pp 1),(2,pp 2)] [(0,.box [rr 3 a1.Files,iv a1.Budget,iv a1.Writes,iv a1.Stop,bv a1.Down]),(1,.box [sv a2]),(2,.box [sl 1 eU8 a3]),(3,rE 2 (File.enc true) a1.Files)] (by kernel_rfl) ?_
 refine zAd 0 (cs':=[so 2 (File.enc true) a1.Files,iv a1.Budget,iv a1.Writes,iv a1.Stop,bv a1.Down]) (ts:=[3]) rfl (.move (.tail _ (.tail _ (.head _))) (List.length_map _) (by decide) (.keep rfl (.keep rfl (.keep rfl (.keep rfl (.nil)))))) ?_
 refine zBq [(0,.pb [pp 0]),(1,pp 1),(2,pp 2)] [(0,.box (zF.enc true a1)),(1,.box [sv a2]),(2,.box [sl 1 eU8 a3])] (by kernel_rfl) ?_
 refine zA (fun x4 h5=>?_)
 refine J_g 1 [] [] [(0,.box (zF.enc true x4)),(1,.box [sv a2]),(2,.box [sl 1 eU8 a3])] (zM 0 (zDP (d:=pp 0) 75 (.tmp 0) [pp 0]) (zM 3 (jC («as»:=[pp 0,sv a2,sl 1 eU8 a3]) [(.tmp 3),(.tmp 4),(.tmp 5)] [75,9,22] false [(0,.box (zF.enc true a1))] [0] (.cons (.pt rfl) (.cons (.same rfl) (.cons (.same rfl) (.nil)))) (yH.ok a1 a2 a3) h5 (.tu (.nil))) zB)) ?_
 refine jO 0 (cs':=[rr 3 x4.Files,iv x4.Budget,iv x4.Writes,iv x4.Stop,bv x4.Down]) (es:=[(3,rE 2 (File.enc true) x4.Files)]) rfl (.cons (.own 3) (.cons (.same rfl rfl) (.cons (.same rfl rfl) (.cons (.same rfl rfl) (.cons (.same rfl rfl) (.nil)))))) rfl (by kernel_rfl) (by kernel_rfl) ?_
 refine zBq [] [(0,.box [rr 3 x4.Files,iv x4.Budget,iv x4.Writes,iv x4.Stop,bv x4.Down]),(1,.box [sv a2]),(2,.box [sl 1 eU8 a3]),(3,rE 2 (File.enc true) x4.Files)] (by kernel_rfl) ?_
 refine zAd 0 (cs':=[so 2 (File.enc true) x4.Files,iv x4.Budget,iv x4.Writes,iv x4.Stop,bv x4.Down]) (ts:=[3]) rfl (.move (.tail _ (.tail _ (.head _))) (List.length_map _) (by decide) (.keep rfl (.keep rfl (.keep rfl (.keep rfl (.nil)))))) ?_
 refine zBq [] [(0,.box (zF.enc true x4)),(1,.box [sv a2]),(2,.box [sl 1 eU8 a3])] (by kernel_rfl) ?_
 exact zHY rfl
noncomputable def c84:Code:=(Tryz.f84.body).getD .skip
theorem zY.ok (a1:zF) (a2:ByteArray) (a3:(List Int)):Ok Tryz.prog 84 [pp 0,.fn 85 [.pb [pp 0],pp 1,pp 2]] [.box (zF.enc true a1),.box [sv a2],.box [sl 1 eU8 a3]] ((zY a1 a2 a3).map fun r=>(iv r.1,[.box (zF.enc true r.2),.box [sv a2],.box [sl 1 eU8 a3]])):=by
 refine zS c84 Tryz.f84 3 33 (fun q=>?_)
 unfold zY
 refine jO 0 (cs':=[rr 3 a1.Files,iv a1.Budget,iv a1.Writes,iv a1.Stop,bv a1.Down]) (es:=[(3,rE 2 (File.enc true) a1.Files)]) rfl (.cons (.own 3) (.cons (.same rfl rfl) (.cons (.same rfl rfl) (.cons (.same rfl rfl) (.cons (.same rfl rfl) (.nil)))))) rfl (by kernel_rfl) (by kernel_rfl) ?_
 refine zBq [(0,pp 0),(1,.fn 85 [.pb [pp 0],pp 1,pp 2])] [(0,.box [rr 3 a1.Files,iv a1.Budget,iv a1.Writes,iv a1.Stop,bv a1.Down]),(1,.box [sv a2]),(2,.box [sl 1 eU8 a3]),(3,rE 2 (File.enc true) a1.Files)] (by kernel_rfl) ?_
 refine J_d 2 [] [] [] [] [] zB ?_
 refine xY (atI c84 13) (fun v5:Bool=>St.mk' [(0,pp 0),(1,.fn 85 [.pb [pp 0],pp 1,pp 2]),(20,bv v5)] [(0,.box [rr 3 a1.Files,iv a1.Budget,iv a1.Writes,iv a1.Stop,bv a1.Down]),(1,.box [sv a2]),(2,.box [sl 1 eU8 a3]),(3,rE 2 (File.enc true) a1.Files)]) (fun v5=>?_) (fun jv5=>?_)
 ·refine zU 20 (fun h6=>?_) (fun h6=>?_)
  ·refine J_g 52 [] [] [(0,.box [rr 3 a1.Files,iv a1.Budget,iv a1.Writes,iv a1.Stop,bv true]),(1,.box [sv a2]),(2,.box [sl 1 eU8 a3]),(3,rE 2 (File.enc true) a1.Files)] zB ?_
   refine J_g 106 [] [(4,iv 9)] [(0,.box [rr 3 a1.Files,iv a1.Budget,iv a1.Writes,iv a1.Stop,bv true]),(1,.box [sv a2]),(2,.box [sl 1 eU8 a3]),(3,rE 2 (File.enc true) a1.Files)] zB ?_
   refine zAd 0 (cs':=[so 2 (File.enc true) a1.Files,iv a1.Budget,iv a1.Writes,iv a1.Stop,bv true]) (ts:=[3]) rfl (.move (.tail _ (.tail _ (.head _))) (List.length_map _) (by decide) (.keep rfl (.keep rfl (.keep rfl (.keep rfl (.nil)))))) ?_
   refine zBq [(4,iv 9)] [(0,.box [so 2 (File.enc true) a1.Files,iv a1.Budget,iv a1.Writes,iv a1.Stop,bv true]),(1,.box [sv a2]),(2,.box [sl 1 eU8 a3])] (by kernel_rfl) ?_
   exact xA rfl
  ·refine zAd 0 (cs':=[so 2 (File.enc true) a1.Files,iv a1.Budget,iv a1.Writes,iv a1.Stop,bv a1.Down]) (ts:=[3]) rfl (.move (.tail _ (.tail _ (.head _))) (List.length_map _) (by decide) (.keep rfl (.keep rfl (.keep rfl (.keep rfl (.nil)))))) ?_
   refine zBq [(0,pp 0),(1,.fn 85 [.pb [pp 0],pp 1,pp 2]),(20,bv false)] [(0,.box (zF.enc true a1)),(1,.box [sv a2]),(2,.box [sl 1 eU8 a3])] (by kernel_rfl) ?_
   refine zA (fun x7 h8=>?_)
   refine J_g 14 [] [(0,pp 0)] [(0,.box (zF.enc true x7)),(1,.box [sv a2]),(2,.box [sl 1 eU8 a3])] (zM 1 (zJh 24 [] [] false [(0,.box (zF.enc true a1)),(1,.box [sv a2]),(2,.box [sl 1 eU8 a3])] [0,1,2] [] [.pb [pp 0],pp 1,pp 2] (.cons (.pb (.cons (.pt rfl) (.nil))) (.cons (.pt rfl) (.cons (.pt rfl) (.nil)))) (wE.ok a1 a2 a3) h8 (.tu (.nil))) zB) ?_
   refine jO 0 (cs':=[rr 3 x7.Files,iv x7.Budget,iv x7.Writes,iv x7.Stop,bv x7.Down]) (es:=[(3,rE 2 (File.enc true) x7.Files)]) rfl (.cons (.own 3) (.cons (.same rfl rfl) (.cons (.same rfl rfl) (.cons (.same rfl rfl) (.cons (.same rfl rfl) (.nil)))))) rfl (by kernel_rfl) (by kernel_rfl) ?_
   refine zBq [(0,pp 0)] [(0,.box [rr 3 x7.Files,iv x7.Budget,iv x7.Writes,iv x7.Stop,bv x7.Down]),(1,.box [sv a2]),(2,.box [sl 1 eU8 a3]),(3,rE 2 (File.enc true) x7.Files)] (by kernel_rfl) ?_
   refine J_g 30 [] [] [(0,.box [rr 3 x7.Files,iv x7.Budget,iv (w64 (x7.Writes+1)),iv x7.Stop,bv x7.Down]),(1,.box [sv a2]),(2,.box [sl 1 eU8 a3]),(3,rE 2 (File.enc true) x7.Files)] zB ?_
   refine J_g 62 [] [(4,iv 0)] [(0,.box [rr 3 x7.Files,iv x7.Budget,iv (w64 (x7.Writes+1)),iv x7.Stop,bv x7.Down]),(1,.box [sv a2]),(2,.box [sl 1 eU8 a3]),(3,rE 2 (File.enc true) x7.Files)] zB ?_
   refine zAd 0 (cs':=[so 2 (File.enc true) x7.Files,iv x7.Budget,iv (w64 (x7.Writes+1)),iv x7.Stop,bv x7.Down]) (ts:=[3]) rfl (.move (.tail _ (.tail _ (.head _))) (List.length_map _) (by decide) (.keep rfl (.keep rfl (.keep rfl (.keep rfl (.nil)))))) ?_
   refine zBq [(4,iv 0)] [(0,.box [so 2 (File.enc true) x7.Files,iv x7.Budget,iv (w64 (x7.Writes+1)),iv x7.Stop,bv x7.Down]),(1,.box [sv a2]),(2,.box [sl 1 eU8 a3])] (by kernel_rfl) ?_
   exact xA rfl
 ·refine wZ (fun h4=>?_) (fun h4=>?_)
  ·refine J_d 12 [] [20] [(20,bv (decide (a1.Writes≥a1.Stop)))] [] [] (xX 5 [(9,bv (decide (a1.Stop≥0)))] [] h4 zB) ?_
   exact xS (J_j (jv5 (decide (a1.Writes≥a1.Stop)))) rfl
  ·refine J_d 12 [] [20] [(20,bv false)] [] [] (xX 5 [(9,bv (decide (a1.Stop≥0)))] [] h4 zB) ?_
   exact xS (J_j (jv5 false)) rfl
noncomputable def c39:Code:=(Tryz.f39.body).getD .skip
theorem wI.ok (a1:zF) (a2:ByteArray) (a3:(List Int)):Ok Tryz.prog 39 [pp 0,sv a2,sl 1 eU8 a3] [.box (zF.enc true a1)] ((wI a1 a2 a3).map fun r=>(iv r.1,[.box (zF.enc true r.2)])):=by
 refine zS c39 Tryz.f39 1 56 (fun q=>?_)
 unfold wI
 refine jO 0 (cs':=[rr 1 a1.Files,iv a1.Budget,iv a1.Writes,iv a1.Stop,bv a1.Down]) (es:=[(1,rE 2 (File.enc true) a1.Files)]) rfl (.cons (.own 1) (.cons (.same rfl rfl) (.cons (.same rfl rfl) (.cons (.same rfl rfl) (.cons (.same rfl rfl) (.nil)))))) rfl (by kernel_rfl) (by kernel_rfl) ?_
 refine zBq [(0,pp 0),(1,sv a2),(2,sl 1 eU8 a3)] [(0,.box [rr 1 a1.Files,iv a1.Budget,iv a1.Writes,iv a1.Stop,bv a1.Down]),(1,rE 2 (File.enc true) a1.Files)] (by kernel_rfl) ?_
 refine J_d 2 [(1,2),(2,3)] [0,1,2,3,4,5] [(3,.pb [pp 0]),(4,pp 2),(5,pp 3)] [2,3] [(2,.box [sv a2]),(3,.box [sl 1 eU8 a3])] (zM 0 (zJp 75 (.tmp 0) (pp 0)) zB) ?_
 refine zA (fun x4 h5=>?_)
 refine J_d 6 [] [7,8] [(7,.ln x4.1.length),(8,bv x4.2)] [] [] (zM 0 (zDP (d:=pp 0) 75 (.tmp 3) [pp 0]) (zM 4 (jC («as»:=[.ag [rr 1 a1.Files,iv a1.Budget,iv a1.Writes,iv a1.Stop,bv a1.Down],sv a2]) [(.tmp 12),(.tmp 13)] [75,9] true [(1,rE 2 (File.enc true) a1.Files)] [] (.cons (.ag (.cons (zF7 (.head _) (File.ro true) rfl) (.cons (.same rfl) (.cons (.same rfl) (.cons (.same rfl) (.cons (.same rfl) (.nil))))))) (.cons (.same rfl) (.nil))) (zKF (fun r=>(.tu [.ln r.1.length,bv r.2],[])) (yA.ok a1 a2) (fun r=>.tu (.cons zKA (.cons .same (.nil))))) h5 (.tu (.cons (.same rfl rfl) (.cons (.same rfl rfl) (.nil)))) (hbor:=fun _=>⟨fhN,(zHX (flatK trivial (flatK zW zAQ)))⟩)) zB)) ?_
 refine zA (fun x6 h7=>?_)
 refine J_d 56 [] [17] [(17,bv (x6 !=0))] [] [] (zM 1 (wU [(.tmp 18)] [9] (xK.ok a2) h7) zB) ?_
 refine zU 17 (fun h8=>?_) (fun h8=>?_)
 ·refine J_g 228 [] [(6,iv 5)] [(0,.box [rr 1 a1.Files,iv a1.Budget,iv a1.Writes,iv a1.Stop,bv a1.Down]),(1,rE 2 (File.enc true) a1.Files)] zB ?_
  refine zAd 0 (cs':=[so 2 (File.enc true) a1.Files,iv a1.Budget,iv a1.Writes,iv a1.Stop,bv a1.Down]) (ts:=[1]) rfl (.move (.head _) (List.length_map _) (by decide) (.keep rfl (.keep rfl (.keep rfl (.keep rfl (.nil)))))) ?_
  refine zBq [(6,iv 5)] [(0,.box (zF.enc true a1))] (by kernel_rfl) ?_
  exact xA rfl
 ·refine xY (atI c39 231) (fun v11:Bool=>St.mk' [(3,.pb [pp 0]),(4,pp 2),(5,pp 3),(7,.ln x4.1.length),(21,bv v11)] [(0,.box [rr 1 a1.Files,iv a1.Budget,iv a1.Writes,iv a1.Stop,bv a1.Down]),(1,rE 2 (File.enc true) a1.Files),(2,.box [sv a2]),(3,.box [sl 1 eU8 a3])]) (fun v11=>?_) (fun jv11=>?_)
  ·refine zU 21 (fun h12=>?_) (fun h12=>?_)
   ·refine J_g 924 [] [(6,iv 2)] [(0,.box [rr 1 a1.Files,iv a1.Budget,iv a1.Writes,iv a1.Stop,bv a1.Down]),(1,rE 2 (File.enc true) a1.Files)] zB ?_
    refine zAd 0 (cs':=[so 2 (File.enc true) a1.Files,iv a1.Budget,iv a1.Writes,iv a1.Stop,bv a1.Down]) (ts:=[1]) rfl (.move (.head _) (List.length_map _) (by decide) (.keep rfl (.keep rfl (.keep rfl (.keep rfl (.nil)))))) ?_
    refine zBq [(6,iv 2)] [(0,.box (zF.enc true a1))] (by kernel_rfl) ?_
    exact xA rfl
   ·refine zA (fun x13 h14=>?_)
    refine J_d 926 [] [7,21,37] [(37,bv (decide ((w64 ((w64 (x13-(x4.1.length:Int)))+(a3.length:Int)))>a1.Budget)))] [] [] (zM 0 (zDP (d:=pp 0) 75 (.tmp 3) [pp 0]) (zM 3 (jC («as»:=[.ag [rr 1 a1.Files,iv a1.Budget,iv a1.Writes,iv a1.Stop,bv a1.Down]]) [(.tmp 40)] [75] true [(1,rE 2 (File.enc true) a1.Files)] [] (.cons (.ag (.cons (zF7 (.head _) (File.ro true) rfl) (.cons (.same rfl) (.cons (.same rfl) (.cons (.same rfl) (.cons (.same rfl) (.nil))))))) (.nil)) (xM.ok a1) h14 (.same rfl rfl) (hbor:=fun _=>⟨fhN,zW⟩)) (zM 10 (zDP (d:=pp 0) 75 (.tmp 3) [pp 0]) zB))) ?_
    refine zU 37 (fun h15=>?_) (fun h15=>?_)
    ·refine J_g 3708 [] [(6,iv 8)] [(0,.box [rr 1 a1.Files,iv a1.Budget,iv a1.Writes,iv a1.Stop,bv a1.Down]),(1,rE 2 (File.enc true) a1.Files)] zB ?_
     refine zAd 0 (cs':=[so 2 (File.enc true) a1.Files,iv a1.Budget,iv a1.Writes,iv a1.Stop,bv a1.Down]) (ts:=[1]) rfl (.move (.head _) (List.length_map _) (by decide) (.keep rfl (.keep rfl (.keep rfl (.keep rfl (.nil)))))) ?_
     refine zBq [(6,iv 8)] [(0,.box (zF.enc true a1))] (by kernel_rfl) ?_
     exact xA rfl
    ·refine zAd 0 (cs':=[so 2 (File.enc true) a1.Files,iv a1.Budget,iv a1.Writes,iv a1.Stop,bv a1.Down]) (ts:=[1]) rfl (.move (.head _) (List.length_map _) (by decide) (.keep rfl (.keep rfl (.keep rfl (.keep rfl (.nil)))))) ?_
     refine zBq [(3,.pb [pp 0]),(4,pp 2),(5,pp 3),(37,bv false)] [(0,.box (zF.enc true a1)),(2,.box [sv a2]),(3,.box [sl 1 eU8 a3])] (by kernel_rfl) ?_
     refine zA (fun x16 h17=>?_)
     refine J_g 30 [] [(6,iv x16.1)] [(0,.box (zF.enc true x16.2))] (zM 0 (zDP (d:=pp 0) 75 (.tmp 3) [pp 0]) (zM 2 (jC («as»:=[pp 0,.fn 85 [.pb [pp 0],pp 2,pp 3]]) [(.tmp 53),(.tmp 54)] [75,1] false [(0,.box (zF.enc true a1)),(2,.box [sv a2]),(3,.box [sl 1 eU8 a3])] [0,2,3] (.cons (.pt rfl) (.cons (.fn (.cons (.pb (.cons (.pt rfl) (.nil))) (.cons (.pt rfl) (.cons (.pt rfl) (.nil))))) (.nil))) (zY.ok a1 a2 a3) h17 (.same rfl rfl)) zB)) ?_
     refine jO 0 (cs':=[rr 1 x16.2.Files,iv x16.2.Budget,iv x16.2.Writes,iv x16.2.Stop,bv x16.2.Down]) (es:=[(1,rE 2 (File.enc true) x16.2.Files)]) rfl (.cons (.own 1) (.cons (.same rfl rfl) (.cons (.same rfl rfl) (.cons (.same rfl rfl) (.cons (.same rfl rfl) (.nil)))))) rfl (by kernel_rfl) (by kernel_rfl) ?_
     refine zBq [(6,iv x16.1)] [(0,.box [rr 1 x16.2.Files,iv x16.2.Budget,iv x16.2.Writes,iv x16.2.Stop,bv x16.2.Down]),(1,rE 2 (File.enc true) x16.2.Files)] (by kernel_rfl) ?_
     refine zAd 0 (cs':=[so 2 (File.enc true) x16.2.Files,iv x16.2.Budget,iv x16.2.Writes,iv x16.2.Stop,bv x16.2.Down]) (ts:=[1]) rfl (.move (.head _) (List.length_map _) (by decide) (.keep rfl (.keep rfl (.keep rfl (.keep rfl (.nil)))))) ?_
     refine zBq [(6,iv x16.1)] [(0,.box (zF.enc true x16.2))] (by kernel_rfl) ?_
     exact xA rfl
  ·refine wZ (fun h9=>?_) (fun h9=>?_)
   ·refine J_d 230 [] [8,17,21] [(21,bv true)] [] [] (xX 3 [(24,bv (decide ((a3.length:Int)>4000)))] [] h9 (zIb 6 (zIc (i:=6) (g:=3) (t:=25) (b:=false) (v:=(.bool true)) (.inl rfl) (by kernel_rfl) (by kernel_rfl)) (zIb 7 (zIc (i:=7) (g:=6) (t:=28) (b:=true) (v:=undef) (.inr rfl) (by kernel_rfl) (by kernel_rfl)) (zIb 8 (zIc (i:=8) (g:=6) (t:=28) (b:=true) (v:=undef) (.inr rfl) (by kernel_rfl) (by kernel_rfl)) (zIb 9 (zIc (i:=9) (g:=6) (t:=28) (b:=true) (v:=undef) (.inr rfl) (by kernel_rfl) (by kernel_rfl)) (zIb 10 (zIc (i:=10) (g:=6) (t:=28) (b:=true) (v:=undef) (.inr rfl) (by kernel_rfl) (by kernel_rfl)) (zIb 11 (zIc (i:=11) (g:=6) (t:=28) (b:=true) (v:=undef) (.inr rfl) (by kernel_rfl) (by kernel_rfl)) (zIb 12 (zIc (i:=12) (g:=6) (t:=28) (b:=true) (v:=undef) (.inr rfl) (by kernel_rfl) (by kernel_rfl)) zB)))))))) ?_
    exact xS (J_j (jv11 true)) rfl
   ·refine wZ (fun h10=>?_) (fun h10=>?_)
    ·refine J_d 230 [] [8,17,21] [(21,bv ((a1.Files.length:Int)==120))] [] [] (xX 3 [(24,bv (decide ((a3.length:Int)>4000)))] [] h9 (zFk 6 3 25 false [(27,bv (!x4.2))] [] h10 (zB8 7 6 28 true (zDP (d:=pp 0) 75 (.tmp 3) [pp 0]) zB))) ?_
     exact xS (J_j (jv11 ((a1.Files.length:Int)==120))) rfl
    ·refine J_d 230 [] [8,17,21] [(21,bv false)] [] [] (xX 3 [(24,bv (decide ((a3.length:Int)>4000)))] [] h9 (zFk 6 3 25 false [(27,bv (!x4.2))] [] h10 zB)) ?_
     exact xS (J_j (jv11 false)) rfl
noncomputable def c38:Code:=(Tryz.f38.body).getD .skip
theorem vH.ok (a1:zF) (a2:ByteArray) (a3:(List Int)):Ok Tryz.prog 38 [pp 0,pp 1,pp 2] [.box (zF.enc true a1),.box [sv a2],.box [sl 1 eU8 a3]] ((vH a1 a2 a3).map fun r=>(iv r.1,[.box (zF.enc true r.2),.box [sv a2],.box [sl 1 eU8 a3]])):=by
 refine zS c38 Tryz.f38 3 9 (fun q=>?_)
 unfold vH
 refine jO 0 (cs':=[rr 3 a1.Files,iv a1.Budget,iv a1.Writes,iv a1.Stop,bv a1.Down]) (es:=[(3,rE 2 (File.enc true) a1.Files)]) rfl (.cons (.own 3) (.cons (.same rfl rfl) (.cons (.same rfl rfl) (.cons (.same rfl rfl) (.cons (.same rfl rfl) (.nil)))))) rfl (by kernel_rfl) (by kernel_rfl) ?_
 refine zBq [(0,pp 0),(1,pp 1),(2,pp 2)] [(0,.box [rr 3 a1.Files,iv a1.Budget,iv a1.Writes,iv a1.Stop,bv a1.Down]),(1,.box [sv a2]),(2,.box [sl 1 eU8 a3]),(3,rE 2 (File.enc true) a1.Files)] (by kernel_rfl) ?_
 refine J_g 2 [] [(0,pp 0),(1,pp 1),(2,pp 2)] [(0,.box [rr 3 a1.Files,iv a1.Budget,iv a1.Writes,iv a1.Stop,bv a1.Down]),(1,.box [sv a2]),(2,.box [sl 1 eU8 a3]),(3,rE 2 (File.enc true) a1.Files)] zB ?_
 refine zAd 0 (cs':=[so 2 (File.enc true) a1.Files,iv a1.Budget,iv a1.Writes,iv a1.Stop,bv a1.Down]) (ts:=[3]) rfl (.move (.tail _ (.tail _ (.head _))) (List.length_map _) (by decide) (.keep rfl (.keep rfl (.keep rfl (.keep rfl (.nil)))))) ?_
 refine zBq [(0,pp 0),(1,pp 1),(2,pp 2)] [(0,.box (zF.enc true a1)),(1,.box [sv a2]),(2,.box [sl 1 eU8 a3])] (by kernel_rfl) ?_
 refine zA (fun x4 h5=>?_)
 refine J_g 6 [] [(4,iv x4.1)] [(0,.box (zF.enc true x4.2)),(1,.box [sv a2]),(2,.box [sl 1 eU8 a3])] (zM 3 (jC («as»:=[pp 0,sv a2,sl 1 eU8 a3]) [(.tmp 5),(.tmp 6),(.tmp 7)] [75,9,22] false [(0,.box (zF.enc true a1))] [0] (.cons (.pt rfl) (.cons (.same rfl) (.cons (.same rfl) (.nil)))) (wI.ok a1 a2 a3) h5 (.same rfl rfl)) zB) ?_
 refine jO 0 (cs':=[rr 3 x4.2.Files,iv x4.2.Budget,iv x4.2.Writes,iv x4.2.Stop,bv x4.2.Down]) (es:=[(3,rE 2 (File.enc true) x4.2.Files)]) rfl (.cons (.own 3) (.cons (.same rfl rfl) (.cons (.same rfl rfl) (.cons (.same rfl rfl) (.cons (.same rfl rfl) (.nil)))))) rfl (by kernel_rfl) (by kernel_rfl) ?_
 refine zBq [(4,iv x4.1)] [(0,.box [rr 3 x4.2.Files,iv x4.2.Budget,iv x4.2.Writes,iv x4.2.Stop,bv x4.2.Down]),(1,.box [sv a2]),(2,.box [sl 1 eU8 a3]),(3,rE 2 (File.enc true) x4.2.Files)] (by kernel_rfl) ?_
 refine zAd 0 (cs':=[so 2 (File.enc true) x4.2.Files,iv x4.2.Budget,iv x4.2.Writes,iv x4.2.Stop,bv x4.2.Down]) (ts:=[3]) rfl (.move (.tail _ (.tail _ (.head _))) (List.length_map _) (by decide) (.keep rfl (.keep rfl (.keep rfl (.keep rfl (.nil)))))) ?_
 refine zBq [(4,iv x4.1)] [(0,.box (zF.enc true x4.2)),(1,.box [sv a2]),(2,.box [sl 1 eU8 a3])] (by kernel_rfl) ?_
 exact xA rfl
noncomputable def c80:Code:=(Tryz.f80.body).getD .skip
theorem zGD.ok (a1:zF) (a2:Int):Ok Tryz.prog 80 [.ag [rr 0 a1.Files,iv a1.Budget,iv a1.Writes,iv a1.Stop,bv a1.Down],iv a2] [rE 2 (File.enc true) a1.Files] ((zBf a1 a2).map fun r=>(.ag (zL.enc true r),[])):=by
 refine zS c80 Tryz.f80 1 16 (fun q=>?_)
 unfold zBf
 refine J_d 2 [(0,1),(1,2)] [0,2,4] [(2,pp 1),(4,pp 2)] [1,2] [(1,.box [rr 0 a1.Files,iv a1.Budget,iv a1.Writes,iv a1.Stop,bv a1.Down]),(2,.box [iv 0,nv,iv 0,iv 0,iv 0,bv false])] zB ?_
 refine xY (atI c80 13) (fun v4:Bool=>St.mk' [(1,iv a2),(2,pp 1),(4,pp 2),(10,bv v4)] [(0,rE 2 (File.enc true) a1.Files),(1,.box [rr 0 a1.Files,iv a1.Budget,iv a1.Writes,iv a1.Stop,bv a1.Down]),(2,.box [iv 0,nv,iv 0,iv 0,iv 0,bv false])]) (fun v4=>?_) (fun jv4=>?_)
 ·refine zU 10 (fun h5=>?_) (fun h5=>?_)
  ·refine J_g 52 [] [(4,pp 2)] [(0,rE 2 (File.enc true) a1.Files),(2,.box [iv a2,nv,iv 0,iv 0,iv 0,bv false])] zB ?_
   exact zC7 (ds:=[.ag [iv a2,nv,iv 0,iv 0,iv 0,bv false]]) (ds':=[.ag [iv a2,so 2 (File.enc true) ([]:List File),iv 0,iv 0,iv 0,bv false]]) (.cons (.ag (.keep rfl (.nilsl true 2 (.keep rfl (.keep rfl (.keep rfl (.keep rfl (.nil)))))))) (.nil) (by decide)) rfl
  ·refine J_g 14 [] [(4,pp 2)] [(0,rE 2 (File.enc true) a1.Files),(2,.box [iv a2,rr 0 a1.Files,iv a1.Budget,iv a1.Writes,iv a1.Stop,bv a1.Down])] zB ?_
   exact zC7 (ds:=[.ag [iv a2,rr 0 a1.Files,iv a1.Budget,iv a1.Writes,iv a1.Stop,bv a1.Down]]) (ds':=[.ag [iv a2,so 2 (File.enc true) a1.Files,iv a1.Budget,iv a1.Writes,iv a1.Stop,bv a1.Down]]) (.cons (.ag (.keep rfl (.move (.head _) (List.length_map _) (by decide) (.keep rfl (.keep rfl (.keep rfl (.keep rfl (.nil)))))))) (.nil) (by decide)) rfl
 ·refine wZ (fun h3=>?_) (fun h3=>?_)
  ·refine J_d 12 [] [10] [(10,bv (a2 !=9))] [] [] (xX 2 [(6,bv (a2 !=0))] [] h3 zB) ?_
   exact xS (J_j (jv4 (a2 !=9))) rfl
  ·refine J_d 12 [] [10] [(10,bv false)] [] [] (xX 2 [(6,bv (a2 !=0))] [] h3 zB) ?_
   exact xS (J_j (jv4 false)) rfl
noncomputable def c37:Code:=(Tryz.f37.body).getD .skip
theorem yJ.ok (a1:zF) (a2:ByteArray) (a3:(List Int)):Ok Tryz.prog 37 [.ag (zF.enc false a1),.fn 38 [pp 0,pp 1]] [.box [sv a2],.box [sl 1 eU8 a3]] ((yJ a1 a2 a3).map fun r=>(.ag (zL.enc true r),[.box [sv a2],.box [sl 1 eU8 a3]])):=by
 refine zS c37 Tryz.f37 2 26 (fun q=>?_)
 unfold yJ
 refine J_d 2 [(0,2),(1,3)] [0,2,4] [(2,pp 2),(4,pp 3)] [2,3] [(2,.box (zF.enc false a1)),(3,.box [iv 0,nv,iv 0,iv 0,iv 0,bv false])] zB ?_
 refine zA (fun x4 h5=>?_)
 refine J_d 6 [] [5] [(5,iv x4)] [] [] (zM 1 (wU [(.tmp 7)] [29] (yO.ok a1) h5) zB) ?_
 refine xY (atI c37 29) (fun v7:Bool=>St.mk' [(1,.fn 38 [pp 0,pp 1]),(2,pp 2),(4,pp 3),(5,iv x4),(14,bv v7)] [(0,.box [sv a2]),(1,.box [sl 1 eU8 a3]),(2,.box (zF.enc false a1)),(3,.box [iv 0,nv,iv 0,iv 0,iv 0,bv false])]) (fun v7=>?_) (fun jv7=>?_)
 ·refine xY (atI c37 15) (fun v9:Int=>St.mk' [(1,.fn 38 [pp 0,pp 1]),(2,pp 2),(4,pp 3),(5,iv v9)] [(0,.box [sv a2]),(1,.box [sl 1 eU8 a3]),(2,.box (zF.enc false a1)),(3,.box [iv 0,nv,iv 0,iv 0,iv 0,bv false])]) (fun v9=>?_) (fun jv9=>?_)
  ·refine J_d 60 [] [16] [(16,bv (v9 !=0))] [] [] zB ?_
   refine zU 16 (fun h10=>?_) (fun h10=>?_)
   ·refine J_g 244 [] [(4,pp 3)] [(0,.box [sv a2]),(1,.box [sl 1 eU8 a3]),(3,.box [iv v9,nv,iv 0,iv 0,iv 0,bv false])] zB ?_
    exact zC7 (ds:=[.ag [iv v9,nv,iv 0,iv 0,iv 0,bv false]]) (ds':=[.ag [iv v9,so 2 (File.enc true) ([]:List File),iv 0,iv 0,iv 0,bv false]]) (.cons (.ag (.keep rfl (.nilsl true 2 (.keep rfl (.keep rfl (.keep rfl (.keep rfl (.nil)))))))) (.nil) (by decide)) rfl
   ·refine zA (fun x11 h12=>?_)
    refine J_g 62 [(2,5)] [(1,.fn 38 [pp 0,pp 1]),(4,pp 3),(6,pp 5)] [(0,.box [sv a2]),(1,.box [sl 1 eU8 a3]),(3,.box [iv 0,nv,iv 0,iv 0,iv 0,bv false]),(4,rE 2 (File.enc true) x11.Files),(5,.box [rr 4 x11.Files,iv x11.Budget,iv x11.Writes,iv x11.Stop,bv x11.Down])] (zM 1 (jC («as»:=[.ag (zF.enc false a1)]) [(.tmp 19)] [29] false [] [] (.cons (.same rfl) (.nil)) (xU.ok a1) h12 (.ag (.cons (.own 4) (.cons (.same rfl rfl) (.cons (.same rfl rfl) (.cons (.same rfl rfl) (.cons (.same rfl rfl) (.nil)))))))) zB) ?_
    refine zAd 5 (cs':=[so 2 (File.enc true) x11.Files,iv x11.Budget,iv x11.Writes,iv x11.Stop,bv x11.Down]) (ts:=[4]) rfl (.move (.tail _ (.tail _ (.tail _ (.head _)))) (List.length_map _) (by decide) (.keep rfl (.keep rfl (.keep rfl (.keep rfl (.nil)))))) ?_
    refine zBq [(1,.fn 38 [pp 0,pp 1]),(4,pp 3),(6,pp 5)] [(0,.box [sv a2]),(1,.box [sl 1 eU8 a3]),(3,.box [iv 0,nv,iv 0,iv 0,iv 0,bv false]),(5,.box (zF.enc true x11))] (by kernel_rfl) ?_
    refine zA (fun x13 h14=>?_)
    refine J_g 126 [] [(4,pp 3),(5,iv x13.1),(6,pp 5)] [(0,.box [sv a2]),(1,.box [sl 1 eU8 a3]),(3,.box [iv 0,nv,iv 0,iv 0,iv 0,bv false]),(5,.box (zF.enc true x13.2))] (zM 1 (zJh 21 [(.tmp 6)] [75] false [(5,.box (zF.enc true x11)),(0,.box [sv a2]),(1,.box [sl 1 eU8 a3])] [5,0,1] [pp 5] [pp 0,pp 1] (.cons (.pt rfl) (.cons (.pt rfl) (.cons (.pt rfl) (.nil)))) (vH.ok x11 a2 a3) h14 (.same rfl rfl)) zB) ?_
    refine jO 5 (cs':=[rr 6 x13.2.Files,iv x13.2.Budget,iv x13.2.Writes,iv x13.2.Stop,bv x13.2.Down]) (es:=[(6,rE 2 (File.enc true) x13.2.Files)]) rfl (.cons (.own 6) (.cons (.same rfl rfl) (.cons (.same rfl rfl) (.cons (.same rfl rfl) (.cons (.same rfl rfl) (.nil)))))) rfl (by kernel_rfl) (by kernel_rfl) ?_
    refine zBq [(4,pp 3),(5,iv x13.1),(6,pp 5)] [(0,.box [sv a2]),(1,.box [sl 1 eU8 a3]),(3,.box [iv 0,nv,iv 0,iv 0,iv 0,bv false]),(5,.box [rr 6 x13.2.Files,iv x13.2.Budget,iv x13.2.Writes,iv x13.2.Stop,bv x13.2.Down]),(6,rE 2 (File.enc true) x13.2.Files)] (by kernel_rfl) ?_
    refine zA (fun x15 h16=>?_)
    refine J_g 254 [] [(4,pp 3)] [(0,.box [sv a2]),(1,.box [sl 1 eU8 a3]),(3,.box [iv x15.Code,rr 7 x15.zF.Files,iv x15.zF.Budget,iv x15.zF.Writes,iv x15.zF.Stop,bv x15.zF.Down]),(7,rE 2 (File.enc true) x15.zF.Files)] (zM 2 (jC («as»:=[.ag [rr 6 x13.2.Files,iv x13.2.Budget,iv x13.2.Writes,iv x13.2.Stop,bv x13.2.Down],iv x13.1]) [(.tmp 23),(.tmp 24)] [29,2] false [(6,rE 2 (File.enc true) x13.2.Files)] [6] (.cons (.ag (.cons (.rf rfl) (.cons (.same rfl) (.cons (.same rfl) (.cons (.same rfl) (.cons (.same rfl) (.nil))))))) (.cons (.same rfl) (.nil))) (zGD.ok x13.2 x13.1) h16 (.ag (.cons (.same rfl rfl) (.cons (.own 7) (.cons (.same rfl rfl) (.cons (.same rfl rfl) (.cons (.same rfl rfl) (.cons (.same rfl rfl) (.nil))))))))) zB) ?_
    exact zC7 (ds:=[.ag [iv x15.Code,rr 7 x15.zF.Files,iv x15.zF.Budget,iv x15.zF.Writes,iv x15.zF.Stop,bv x15.zF.Down]]) (ds':=[.ag (zL.enc true x15)]) (.cons (.ag (.keep rfl (.move (.tail _ (.tail _ (.tail _ (.head _)))) (List.length_map _) (by decide) (.keep rfl (.keep rfl (.keep rfl (.keep rfl (.nil)))))))) (.nil) (by decide)) rfl
  ·refine zU 14 (fun h8=>?_) (fun h8=>?_)
   ·refine J_d 58 [] [5,14] [(5,iv 9)] [] [] zB ?_
    exact xS (J_j (jv9 9)) rfl
   ·exact xS (J_j (jv9 x4)) rfl
 ·refine wZ (fun h6=>?_) (fun h6=>?_)
  ·refine J_d 28 [] [14] [(14,bv a1.Down)] [] [] (xX 2 [(10,bv (x4==0))] [] h6 zB) ?_
   exact xS (J_j (jv7 a1.Down)) rfl
  ·refine J_d 28 [] [14] [(14,bv false)] [] [] (xX 2 [(10,bv (x4==0))] [] h6 zB) ?_
   exact xS (J_j (jv7 false)) rfl
noncomputable def c9:Code:=(Tryz.f9.body).getD .skip
theorem uK.ok (a1:zF) (a2:ByteArray) (a3:(List Int)):Ok Tryz.prog 9 [.ag (zF.enc false a1),sv a2,sl 1 eU8 a3] [] ((uK a1 a2 a3).map fun r=>(.ag (zL.enc true r),[])):=by
 refine zS c9 Tryz.f9 0 10 (fun q=>?_)
 unfold uK
 refine J_g 2 [(0,0),(1,1),(2,2),(3,3)] [(3,pp 0),(4,pp 1),(5,pp 2),(6,pp 3)] [(0,.box (zF.enc false a1)),(1,.box [sv a2]),(2,.box [sl 1 eU8 a3]),(3,.box [iv 0,nv,iv 0,iv 0,iv 0,bv false])] zB ?_
 refine zA (fun x4 h5=>?_)
 refine J_g 6 [] [(6,pp 3)] [(3,.box [iv x4.Code,rr 4 x4.zF.Files,iv x4.zF.Budget,iv x4.zF.Writes,iv x4.zF.Stop,bv x4.zF.Down]),(4,rE 2 (File.enc true) x4.zF.Files)] (zM 2 (zKu [(1,.box [sv a2]),(2,.box [sl 1 eU8 a3])] [(4,rE 2 (File.enc true) x4.zF.Files)] (jC («as»:=[.ag (zF.enc false a1),.fn 38 [pp 1,pp 2]]) [(.tmp 7),(.tmp 8)] [29,77] false [(1,.box [sv a2]),(2,.box [sl 1 eU8 a3])] [1,2] (.cons (.same rfl) (.cons (.fn (.cons (.pt rfl) (.cons (.pt rfl) (.nil)))) (.nil))) (yJ.ok a1 a2 a3) h5 (.ag (.cons (.same rfl rfl) (.cons (.own 4) (.cons (.same rfl rfl) (.cons (.same rfl rfl) (.cons (.same rfl rfl) (.cons (.same rfl rfl) (.nil)))))))))) zB) ?_
 exact zC7 (ds:=[.ag [iv x4.Code,rr 4 x4.zF.Files,iv x4.zF.Budget,iv x4.zF.Writes,iv x4.zF.Stop,bv x4.zF.Down]]) (ds':=[.ag (zL.enc true x4)]) (.cons (.ag (.keep rfl (.move (.tail _ (.head _)) (List.length_map _) (by decide) (.keep rfl (.keep rfl (.keep rfl (.keep rfl (.nil)))))))) (.nil) (by decide)) rfl
theorem strings_Split.ok (a1 a2:ByteArray):Ok Tryz.prog 152 [sv a1,sv a2] [] ((strings_Split a1 a2).map fun r=>(so 1 eStr r,[])):=by
 unfold strings_Split
 split
 ·rename_i h
  refine zIC (t:=9) (fun w hG=>?_)
  obtain ⟨m,hm⟩:=zGX (g:=0) hG (by kernel_rfl)
  rw [Lib.splitB_all a2 h.2 0 _ a1 rfl]
  exact Tryz.strings_Split a1 a2 m w h.1 hm h.2
 ·exact fun _ h=>by cases h
noncomputable def c86:Code:=(Tryz.f86.body).getD .skip
theorem uT.ok (a1:ByteArray):Ok Tryz.prog 86 [sv a1] [] ((uT a1).map fun r=>(so 1 eStr r,[])):=by
 refine zS c86 Tryz.f86 0 19 (fun q=>?_)
 unfold uT
 refine J_g 2 [] [(0,sv a1)] [] zB ?_
 refine zA (fun x2 h3=>?_)
 refine J_g 6 [] [(3,rr 0 x2)] [(0,rE 1 eStr x2)] (zM 1 (jC («as»:=[sv a1,sv (bs [10])]) [(.tmp 4),(.const (.string (bs [10])))] [9,9] false [] [] (.cons (.same rfl) (.cons (.same rfl) (.nil))) (strings_Split.ok a1 (bs [10])) h3 (.own 0)) zB) ?_
 refine zA (fun x4 h5=>?_)
 refine J_d 28 [] [12] [(12,bv (seq x4 (bs [])))] [] [] (zM 4 (zBM (kk:=.i64) 90 9 1 0 eStr (.tmp 6) (.tmp 9) h5) (zM 5 (zAZ (d:=sv x4) 9 1 0 0 eStr (.tmp 10) h5 (by kernel_rfl)) zB)) ?_
 refine xY (atI c86 15) (fun v9:(List ByteArray)=>St.mk' [(3,rr 1 v9)] [(1,rE 1 eStr v9)]) (fun v9=>?_) (fun jv9=>?_)
 ·refine J_g 30 [] [(2,rr 1 v9)] [(1,rE 1 eStr v9)] zB ?_
  exact zC7 (ds:=[rr 1 v9]) (ds':=[so 1 eStr v9]) (.cons (.cell (.move (.head _) (List.length_map _) (by decide) (.nil))) (.nil) (by decide)) rfl
 ·refine zU 12 (fun h6=>?_) (fun h6=>?_)
  ·refine zA (fun x7 h8=>?_)
   refine J_g 58 [] [(3,rr 1 x7)] [(1,rE 1 eStr x7)] (zM 4 (zK6 90 9 1 0 1 eStr (.tmp 13) none (some (.tmp 16)) h8) zB) ?_
   exact xS (J_j (jv9 x7)) rfl
  ·refine zDz 0 1 (Nat.le_of_ble_eq_true rfl) (Nat.le_of_ble_eq_true rfl) ?_
   exact xS (J_j (jv9 x2)) rfl
noncomputable def zLe:Code:=(Tryz.f153.body).getD .skip
theorem kF.ok (a1:ByteArray):Ok Tryz.prog 153 [sv a1] [] ((kF a1).map fun r=>(.ag (Term.enc r),[])):=by
 refine zS zLe Tryz.f153 0 6 (fun q=>?_)
 unfold kF
 refine J_g 2 [(0,0)] [(0,sv a1),(2,pp 0)] [(0,.box [sv ByteArray.empty,iv 0,iv 0,iv 0,iv 0,iv 0,iv 0])] zB ?_
 refine zA (fun x2 h3=>?_)
 refine J_g 6 [] [(2,pp 0)] [(0,.box [sv a1,iv 0,iv 0,iv 0,iv x2.A,iv x2.B,iv x2.C])] (zM 1 (wU [] [] (jP.ok) h3) zB) ?_
 exact xA rfl
noncomputable def c194:Code:=(Tryz.f194.body).getD .skip
theorem zP.ok (a1:ByteArray) (a2:ByteArray):Ok Tryz.prog 194 [sv a1,sv a2] [] ((zP a1 a2).map fun r=>(bv r,[])):=by
 refine zS c194 Tryz.f194 0 18 (fun q=>?_)
 unfold zP
 refine J_d 2 [] [] [] [] [] zB ?_
 refine wZ (fun h3=>?_) (fun h3=>?_)
 ·refine zA (fun x4 h5=>?_)
  refine J_g 6 [] [(4,bv (seq x4 a2))] [] (xX 5 [(9,bv (decide ((a1.size:Int)≥(a2.size:Int))))] [] h3 (zB8 9 5 10 true (zJj 9 (.tmp 11) none (some (.tmp 13)) h5) zB)) ?_
  exact xA rfl
 ·refine J_g 6 [] [(4,bv false)] [] (xX 5 [(9,bv (decide ((a1.size:Int)≥(a2.size:Int))))] [] h3 zB) ?_
  exact xA rfl
noncomputable def c198:Code:=(Tryz.f198.body).getD .skip
theorem yG.ok (a1:ByteArray) (a2:ByteArray):Ok Tryz.prog 198 [sv a1,sv a2] [] ((yG a1 a2).map fun r=>(.tu [sv r.1,bv r.2],[])):=by
 refine zS c198 Tryz.f198 0 15 (fun q=>?_)
 unfold yG
 refine J_d 2 [] [] [] [] [] zB ?_
 refine zA (fun x3 h4=>?_)
 refine J_d 12 [] [9] [(9,bv (!x3))] [] [] (zM 2 (wU [(.tmp 6),(.tmp 7)] [9,9] (zP.ok a1 a2) h4) zB) ?_
 refine zU 9 (fun h5=>?_) (fun h5=>?_)
 ·refine J_g 52 [] [(4,sv a1),(5,bv false)] [] zB ?_
  exact zHY rfl
 ·refine zA (fun x6 h7=>?_)
  refine J_g 14 [] [(4,sv x6),(5,bv true)] [] (zM 3 (zJj 9 (.tmp 11) (some (.tmp 13)) none h7) zB) ?_
  exact zHY rfl
noncomputable def c154:Code:=(Tryz.f154.body).getD .skip
theorem strings_CutPrefix.ok (a1:ByteArray) (a2:ByteArray):Ok Tryz.prog 154 [sv a1,sv a2] [] ((strings_CutPrefix a1 a2).map fun r=>(.tu [sv r.1,bv r.2],[])):=by
 refine zS c154 Tryz.f154 0 11 (fun q=>?_)
 unfold strings_CutPrefix
 refine J_d 2 [] [] [] [] [] zB ?_
 refine zA (fun x3 h4=>?_)
 refine J_g 6 [] [(4,sv x3.1),(5,bv x3.2)] [] (zM 2 (wU [(.tmp 6),(.tmp 7)] [9,9] (yG.ok a1 a2) h4) zB) ?_
 exact zHY rfl
theorem strings_IndexByte.ok (a1:ByteArray) (a2:Int):Ok Tryz.prog 155 [sv a1,uv a2] [] ((strings_IndexByte a1 a2).map fun r=>(iv r,[])):=
 zJY (vs:=[.string a1,.int .u8 a2]) (fun w=>Tryz.strings_IndexByte a1 a2 w)
noncomputable def c93:Code:=(Tryz.f93.body).getD .skip
theorem jS.ok (a1:ByteArray) (q:Wd) (kn:Int→Option (D×List Ent)) (hk:∀v:Int,J (q.g Tryz.prog 93 0 40) c93 (atI c93 31) (St.mk' [(5,iv v)] []) (some v) kn):
  ∀s16:(Int×Int),J (q.g Tryz.prog 93 0 40) c93 (atI c93 244) (St.mk' [(0,sv a1),(5,iv s16.1),(16,iv (a1.size:Int)),(17,iv s16.2)] []) (jS a1 s16) (Fl.go (fun r:Int=>some (iv r,[])) kn):=by
 refine zC6 (fun g ih s16=>?_)
 unfold jG
 refine J_d 488 [] [18] [(18,bv (decide (s16.2< (a1.size:Int))))] [] [] zB ?_
 refine zU 18 (fun h17=>?_) (fun h17=>?_)
 ·refine J_d 7832 [] [6,18] [(6,iv s16.2)] [] [] zB ?_
  refine zA (fun x18 h19=>?_)
  refine xY (atI c93 31333) (fun v23:Bool=>St.mk' [(0,sv a1),(5,iv s16.1),(6,iv s16.2),(16,iv (a1.size:Int)),(17,iv s16.2),(29,bv v23)] []) (fun v23=>?_) (fun jv23=>?_)
  ·refine zU 29 (fun h24=>?_) (fun h24=>?_)
   ·refine J_g 125332 [] [(4,iv (-1))] [] zB ?_
    exact xA rfl
   ·refine zA (fun x25 h26=>?_)
    refine J_g 15667 [] [(0,sv a1),(5,iv (w64 ((w64 (10*s16.1))+(w64 (IntKind.u8.wrap (x25-48)))))),(16,iv (a1.size:Int)),(17,iv s16.2)] [] (zM 4 (zGN (kk:=.i64) 9 (.tmp 32) (.tmp 33) h26) zB) ?_
    refine J_d 1959 [] [17] [(17,iv (w64 (s16.2+1)))] [] [] zB ?_
    exact J_q (J_b (ih (w64 ((w64 (10*s16.1))+(w64 (IntKind.u8.wrap (x25-48)))),w64 (s16.2+1)))) rfl
  ·refine wZ (fun h20=>?_) (fun h20=>?_)
   ·refine J_d 31332 [] [29] [(29,bv true)] [] [] (zM 2 (zGN (kk:=.i64) 9 (.tmp 20) (.tmp 21) h19) (xX 4 [(23,bv (decide (x18<48)))] [] h20 zB)) ?_
    exact xS (J_j (jv23 true)) rfl
   ·refine zA (fun x21 h22=>?_)
    refine J_d 31332 [] [29] [(29,bv (decide (x21>57)))] [] [] (zM 2 (zGN (kk:=.i64) 9 (.tmp 20) (.tmp 21) h19) (xX 4 [(23,bv (decide (x18<48)))] [] h20 (zB8 7 4 24 false (zGN (kk:=.i64) 9 (.tmp 25) (.tmp 26) h22) zB))) ?_
    exact xS (J_j (jv23 (decide (x21>57)))) rfl
 ·exact xS (hk s16.1) rfl
theorem wV.ok (a1:ByteArray) (a2:Int):Ok Tryz.prog 93 [sv a1,iv a2] [] ((wV a1 a2).map fun r=>(iv r,[])):=by
 refine zS c93 Tryz.f93 0 40 (fun q=>?_)
 unfold wV
 refine J_d 2 [] [] [] [] [] zB ?_
 refine xY (atI c93 13) (fun v4:Bool=>St.mk' [(0,sv a1),(14,bv v4)] []) (fun v4=>?_) (fun jv4=>?_)
 ·refine zU 14 (fun h5=>?_) (fun h5=>?_)
  ·refine J_g 52 [] [(4,iv (-1))] [] zB ?_
   exact xA rfl
  ·refine J_g 14 [] [(0,sv a1),(5,iv 0)] [] zB ?_
   refine J_d 60 [] [16,17] [(16,iv (a1.size:Int)),(17,iv 0)] [] [] zB ?_
   refine zBo (K0:=(fun r:Int=>some (iv r,[]))) (fun _=>rfl) (jS.ok a1 q _ (fun v27=>J_j ?_) (0,0))
   refine J_g 62 [] [(4,iv v27)] [] zB ?_
   exact xA rfl
 ·refine wZ (fun h3=>?_) (fun h3=>?_)
  ·refine J_g 12 [] [(0,sv a1),(14,bv true)] [] (xX 2 [(8,bv (seq a1 (bs [])))] [] h3 zB) ?_
   exact xS (J_j (jv4 true)) rfl
  ·refine J_g 12 [] [(0,sv a1),(14,bv (decide ((a1.size:Int)>a2)))] [] (xX 2 [(8,bv (seq a1 (bs [])))] [] h3 zB) ?_
   exact xS (J_j (jv4 (decide ((a1.size:Int)>a2)))) rfl
noncomputable def c156:Code:=(Tryz.f156.body).getD .skip
theorem wY.ok (x2:(List ByteArray)) (q:Wd) (kn:(List Int)→Option (D×List Ent)) (hk:∀v:(List Int),J (q.g Tryz.prog 156 0 39) c156 (atI c156 63) (St.mk' [(2,pp 0),(4,pp 2)] [(0,.box [iv 0,iv 0,iv 0,iv 0]),(2,rE 1 jV v)]) (some v) kn):
  ∀s15:((List Int)×Int),J (q.g Tryz.prog 156 0 39) c156 (atI c156 500) (St.mk' [(2,pp 0),(4,pp 2),(14,rr 1 x2),(15,iv (x2.length:Int)),(16,iv s15.2)] [(0,.box [iv 0,iv 0,iv 0,iv 0]),(1,rE 1 eStr x2),(2,rE 1 jV s15.1)]) (wY x2 s15) (Fl.go (fun r:zV=>some (.ag (zV.enc r),[])) kn):=by
 refine zC6 (fun g ih s15=>?_)
 unfold wP
 refine J_d 1000 [] [17] [(17,bv (decide (s15.2< (x2.length:Int))))] [] [] zB ?_
 refine zU 17 (fun h16=>?_) (fun h16=>?_)
 ·refine zA (fun x17 h18=>?_)
  refine J_d 16024 [] [5,6,17] [(5,iv s15.2),(6,sv x17)] [] [] (zM 1 (zBM (kk:=.i64) 90 9 1 1 eStr (.tmp 14) (.tmp 16) h18) (zM 2 (zAZ (d:=sv x17) 9 1 1 0 eStr (.tmp 19) h18 (by kernel_rfl)) zB)) ?_
  refine zA (fun x19 h20=>?_)
  refine zA (fun x21 h22=>?_)
  refine J_d 32050 [] [6] [] [2] [(2,rE 1 jV (s15.1.set s15.2.toNat x19))] (zM 2 (wU [(.tmp 22),(.const (.int .i64 3))] [9,3] (wV.ok x17 3) h20) (zM 3 (zGZ (kk:=.i64) 225 2 1 2 jV (.tmp 4) (.tmp 21) 3 h22) (zKP 4 (zLk (b:=x19) 2 1 2 0 jV (iv x19) (.tmp 24) (.tmp 23) (zBU h22) rfl) zB))) ?_
  refine zA (fun x23 h24=>?_)
  refine J_d 64102 [] [5,28] [(28,bv (decide (x23<0)))] [] [] (zM 1 (zGZ (kk:=.i64) 225 2 1 2 jV (.tmp 4) (.tmp 25) 3 h24) (zM 2 (zAZ (d:=iv x23) 2 1 2 0 jV (.tmp 26) (zBU h24) (by kernel_rfl)) zB)) ?_
  refine zU 28 (fun h25=>?_) (fun h25=>?_)
  ·refine J_g 256412 [] [(2,pp 0)] [(0,.box [iv 5,iv 0,iv 0,iv 0])] zB ?_
   exact xA rfl
  ·refine J_d 4007 [] [16,28] [(16,iv (w64 (s15.2+1)))] [] [] zB ?_
   exact J_q (J_b (ih (s15.1.set s15.2.toNat x19,w64 (s15.2+1)))) rfl
 ·exact xS (hk s15.1) rfl
theorem yY.ok (a1:ByteArray):Ok Tryz.prog 156 [sv a1] [] ((yY a1).map fun r=>(.ag (zV.enc r),[])):=by
 refine zS c156 Tryz.f156 0 39 (fun q=>?_)
 unfold yY
 refine J_g 2 [(0,0)] [(0,sv a1),(2,pp 0)] [(0,.box [iv 0,iv 0,iv 0,iv 0])] zB ?_
 refine zA (fun x2 h3=>?_)
 refine J_g 6 [] [(2,pp 0),(3,rr 1 x2)] [(0,.box [iv 0,iv 0,iv 0,iv 0]),(1,rE 1 eStr x2)] (zM 1 (jC («as»:=[sv a1,sv (bs [46])]) [(.tmp 7),(.const (.string (bs [46])))] [9,9] false [] [] (.cons (.same rfl) (.cons (.same rfl) (.nil))) (strings_Split.ok a1 (bs [46])) h3 (.own 1)) zB) ?_
 refine J_g 14 [(1,2)] [(2,pp 0),(3,rr 1 x2),(4,pp 2)] [(0,.box [iv 0,iv 0,iv 0,iv 0]),(1,rE 1 eStr x2),(2,.box [iv 0,iv 0,iv 0])] (zM 0 (zIq 225 [.int .i64 0,.int .i64 0,.int .i64 0]) zB) ?_
 refine zBq [(2,pp 0),(3,rr 1 x2),(4,pp 2)] [(2,.box [iv 0,iv 0,iv 0]),(0,.box [iv 0,iv 0,iv 0,iv 0]),(1,rE 1 eStr x2)] (by kernel_rfl) ?_
 refine zIG 2 (z:=1) (xs:=([0,0,0]:(List Int)).map jV) (by kernel_rfl) (by kernel_rfl) (by kernel_rfl) (by kernel_rfl) rfl ?_
 refine zBq [(2,pp 0),(3,rr 1 x2),(4,pp 2)] [(0,.box [iv 0,iv 0,iv 0,iv 0]),(1,rE 1 eStr x2),(2,rE 1 jV ([0,0,0]:(List Int)))] (by kernel_rfl) ?_
 refine J_d 60 [] [12] [(12,bv (decide ((x2.length:Int)>3)))] [] [] zB ?_
 refine zU 12 (fun h4=>?_) (fun h4=>?_)
 ·refine J_g 244 [] [(2,pp 0)] [(0,.box [iv 5,iv 0,iv 0,iv 0])] zB ?_
  exact xA rfl
 ·refine J_d 124 [] [3,12,14,15,16] [(14,rr 1 x2),(15,iv (x2.length:Int)),(16,iv 0)] [] [] zB ?_
  refine zBo (K0:=(fun r:zV=>some (.ag (zV.enc r),[]))) (fun _=>rfl) (wY.ok x2 q _ (fun v26=>J_j ?_) (([0,0,0]:(List Int)),0))
  refine zA (fun x27 h28=>?_)
  refine zA (fun x29 h30=>?_)
  refine zA (fun x31 h32=>?_)
  refine J_g 126 [] [(2,pp 0)] [(0,.box [iv 0,iv x27,iv x29,iv x31])] (zM 0 (zGZ (kk:=.i64) 225 2 1 2 jV (.tmp 4) (.const (.int .i64 0)) 3 h28) (zM 1 (zAZ (d:=iv x27) 2 1 2 0 jV (.tmp 31) (zBU h28) (by kernel_rfl)) (zM 2 (zGZ (kk:=.i64) 225 2 1 2 jV (.tmp 4) (.const (.int .i64 1)) 3 h30) (zM 3 (zAZ (d:=iv x29) 2 1 2 0 jV (.tmp 33) (zBU h30) (by kernel_rfl)) (zM 4 (zGZ (kk:=.i64) 225 2 1 2 jV (.tmp 4) (.const (.int .i64 2)) 3 h32) (zM 5 (zAZ (d:=iv x31) 2 1 2 0 jV (.tmp 35) (zBU h32) (by kernel_rfl)) zB)))))) ?_
  exact xA rfl
noncomputable def c87:Code:=(Tryz.f87.body).getD .skip
theorem vI.ok (a1:ByteArray) (q:Wd) (kn:Int→Option (D×List Ent)) (hk:∀v:Int,J (q.g Tryz.prog 87 0 90) c87 (atI c87 15) (St.mk' [(0,sv a1),(2,pp 0),(3,iv v)] [(0,.box [iv 0,sv ByteArray.empty,iv 0,iv 0,iv 0,iv 0,iv 0,iv 0])]) (some v) kn):
  ∀s9:Int,J (q.g Tryz.prog 87 0 90) c87 (atI c87 56) (St.mk' [(0,sv a1),(2,pp 0),(3,iv s9)] [(0,.box [iv 0,sv ByteArray.empty,iv 0,iv 0,iv 0,iv 0,iv 0,iv 0])]) (vI a1 s9) kn:=by
 refine zC6 (fun g ih s9=>?_)
 unfold tN
 refine xY (atI c87 225) (fun v15:Bool=>St.mk' [(0,sv a1),(2,pp 0),(3,iv s9),(23,bv v15)] [(0,.box [iv 0,sv ByteArray.empty,iv 0,iv 0,iv 0,iv 0,iv 0,iv 0])]) (fun v15=>?_) (fun jv15=>?_)
 ·refine zU 23 (fun h16=>?_) (fun h16=>?_)
  ·refine J_d 226 [] [3,23] [(3,iv (w64 (s9+1)))] [] [] zB ?_
   exact J_q (J_b (ih (w64 (s9+1)))) rfl
  ·exact xS (hk s9) rfl
 ·refine wZ (fun h10=>?_) (fun h10=>?_)
  ·refine zA (fun x11 h12=>?_)
   refine zA (fun x13 h14=>?_)
   refine J_d 224 [] [23] [(23,bv x13)] [] [] (xX 4 [(17,bv (decide (s9< (a1.size:Int))))] [] h10 (zB8 7 4 18 true (zGN (kk:=.i64) 9 (.tmp 19) (.tmp 20) h12) (zB8 8 4 18 true (wU [(.tmp 21)] [5] (yC.ok x11) h14) zB))) ?_
   exact xS (J_j (jv15 x13)) rfl
  ·refine J_d 224 [] [23] [(23,bv false)] [] [] (xX 4 [(17,bv (decide (s9< (a1.size:Int))))] [] h10 zB) ?_
   exact xS (J_j (jv15 false)) rfl
theorem uI.ok (a1:ByteArray):Ok Tryz.prog 87 [sv a1] [] ((uI a1).map fun r=>(.ag (xG.enc r),[])):=by
 refine zS c87 Tryz.f87 0 90 (fun q=>?_)
 unfold uI
 refine J_g 2 [(0,0)] [(0,sv a1),(2,pp 0)] [(0,.box [iv 0,sv ByteArray.empty,iv 0,iv 0,iv 0,iv 0,iv 0,iv 0])] zB ?_
 refine J_d 6 [] [3] [(3,iv 0)] [] [] zB ?_
 refine zIz (vI.ok a1 q _ (fun v17=>J_j ?_) 0)
 refine zA (fun x18 h19=>?_)
 refine zA (fun x20 h21=>?_)
 refine J_d 30 [(4,1)] [4] [(4,pp 1)] [1] [(1,.box (Term.enc x20))] (zM 2 (zJj 9 (.tmp 26) none (some (.tmp 27)) h19) (zM 3 (wU [(.tmp 28)] [9] (kF.ok x18) h21) zB)) ?_
 refine zA (fun x22 h23=>?_)
 refine J_d 62 [] [0,3,5] [(5,sv x22)] [] [] (zM 2 (zJj 9 (.tmp 30) (some (.tmp 31)) none h23) zB) ?_
 refine zA (fun x24 h25=>?_)
 refine J_d 252 [] [36] [(36,bv (x24 !=0))] [] [] (zM 2 (wU [(.tmp 34)] [9] (wM.ok x20.Name) h25) zB) ?_
 refine zU 36 (fun h26=>?_) (fun h26=>?_)
 ·refine J_g 1012 [] [(2,pp 0)] [(0,.box [iv 5,sv ByteArray.empty,iv 0,iv 0,iv 0,iv 0,iv 0,iv 0])] zB ?_
  exact xA rfl
 ·refine zA (fun x27 h28=>?_)
  refine J_g 508 [] [(2,pp 0),(4,pp 1),(5,sv x22),(6,sv x27.1),(7,bv x27.2)] [(0,.box [iv 0,sv ByteArray.empty,iv 0,iv 0,iv 0,iv 0,iv 0,iv 0]),(1,.box (Term.enc x20))] (zM 1 (wU [(.tmp 39),(.const (.string (bs [62,61])))] [9,9] (strings_CutPrefix.ok x22 (bs [62,61])) h28) zB) ?_
  refine J_d 1018 [] [7,43] [(43,bv x27.2)] [] [] zB ?_
  refine zHH (atI c87 255) (fun v41:(Int×Int×Int×ByteArray)=>St.mk' [(2,pp 0),(4,pp 1),(5,sv v41.2.2.2)] [(0,.box [iv 0,sv ByteArray.empty,iv 0,iv 0,iv 0,iv 0,iv 0,iv 0]),(1,.box [sv x20.Name,iv v41.1,iv v41.2.1,iv v41.2.2.1,iv x20.High.A,iv x20.High.B,iv x20.High.C])]) (fun v41=>?_) (fun jv41=>?_)
  ·refine zA (fun x42 h43=>?_)
   refine J_g 1020 [] [(2,pp 0),(4,pp 1),(5,sv v41.2.2.2),(10,sv x42.1),(11,bv x42.2)] [(0,.box [iv 0,sv ByteArray.empty,iv 0,iv 0,iv 0,iv 0,iv 0,iv 0]),(1,.box [sv x20.Name,iv v41.1,iv v41.2.1,iv v41.2.2.1,iv x20.High.A,iv x20.High.B,iv x20.High.C])] (zM 1 (wU [(.tmp 65),(.const (.string (bs [60])))] [9,9] (strings_CutPrefix.ok v41.2.2.2 (bs [60])) h43) zB) ?_
   refine J_d 2042 [] [11,69] [(69,bv x42.2)] [] [] zB ?_
   refine zHH (atI c87 511) (fun v48:(Int×Int×Int×ByteArray)=>St.mk' [(2,pp 0),(4,pp 1),(5,sv v48.2.2.2)] [(0,.box [iv 0,sv ByteArray.empty,iv 0,iv 0,iv 0,iv 0,iv 0,iv 0]),(1,.box [sv x20.Name,iv v41.1,iv v41.2.1,iv v41.2.2.1,iv v48.1,iv v48.2.1,iv v48.2.2.1])]) (fun v48=>?_) (fun jv48=>?_)
   ·refine J_d 2044 [] [5,80] [(80,bv (!(seq v48.2.2.2 (bs []))))] [] [] zB ?_
    refine zU 80 (fun h49=>?_) (fun h49=>?_)
    ·refine J_g 8180 [] [(2,pp 0)] [(0,.box [iv 5,sv ByteArray.empty,iv 0,iv 0,iv 0,iv 0,iv 0,iv 0])] zB ?_
     exact xA rfl
    ·refine zA (fun x50 h51=>?_)
     refine J_g 4092 [] [(2,pp 0),(4,pp 1),(13,iv x50)] [(0,.box [iv 0,sv ByteArray.empty,iv 0,iv 0,iv 0,iv 0,iv 0,iv 0]),(1,.box [sv x20.Name,iv v41.1,iv v41.2.1,iv v41.2.2.1,iv v48.1,iv v48.2.1,iv v48.2.2.1])] (zM 1 (wU [(.tmp 82)] [41] (yV.ok ({Name:=x20.Name,Low:=({A:=v41.1,B:=v41.2.1,C:=v41.2.2.1}:Version),High:=({A:=v48.1,B:=v48.2.1,C:=v48.2.2.1}:Version)}:Term)) h51) zB) ?_
     refine J_d 8186 [] [85] [(85,bv (x50 !=0))] [] [] zB ?_
     refine zU 85 (fun h52=>?_) (fun h52=>?_)
     ·refine J_g 32748 [] [(2,pp 0)] [(0,.box [iv x50,sv ByteArray.empty,iv 0,iv 0,iv 0,iv 0,iv 0,iv 0])] zB ?_
      exact xA rfl
     ·refine J_g 4094 [] [(2,pp 0)] [(0,.box [iv 0,sv x20.Name,iv v41.1,iv v41.2.1,iv v41.2.2.1,iv v48.1,iv v48.2.1,iv v48.2.2.1])] zB ?_
      exact xA rfl
   ·refine zU 69 (fun h44=>?_) (fun h44=>?_)
    ·refine zA (fun x45 h46=>?_)
     refine J_g 8172 [(2,2)] [(2,pp 0),(4,pp 1),(12,pp 2)] [(0,.box [iv 0,sv ByteArray.empty,iv 0,iv 0,iv 0,iv 0,iv 0,iv 0]),(1,.box [sv x20.Name,iv v41.1,iv v41.2.1,iv v41.2.2.1,iv x20.High.A,iv x20.High.B,iv x20.High.C]),(2,.box (zV.enc x45))] (zM 1 (wU [(.tmp 70)] [9] (yY.ok x42.1) h46) zB) ?_
     refine J_d 32692 [] [74] [(74,bv (x45.Code !=0))] [] [] zB ?_
     refine zU 74 (fun h47=>?_) (fun h47=>?_)
     ·refine J_g 130772 [] [(2,pp 0)] [(0,.box [iv 5,sv ByteArray.empty,iv 0,iv 0,iv 0,iv 0,iv 0,iv 0])] zB ?_
      exact xA rfl
     ·refine J_d 16347 [] [5,12,74] [(5,sv (bs []))] [1,2] [(1,.box [sv x20.Name,iv v41.1,iv v41.2.1,iv v41.2.2.1,iv x45.Version.A,iv x45.Version.B,iv x45.Version.C])] zB ?_
      exact xS (J_j (jv48 (x45.Version.A,x45.Version.B,x45.Version.C,bs []))) rfl
    ·exact xS (J_j (jv48 (x20.High.A,x20.High.B,x20.High.C,v41.2.2.2))) rfl
  ·refine zU 43 (fun h29=>?_) (fun h29=>?_)
   ·refine zA (fun x30 h31=>?_)
    refine J_g 4076 [] [(2,pp 0),(4,pp 1),(6,sv x27.1),(8,iv x30)] [(0,.box [iv 0,sv ByteArray.empty,iv 0,iv 0,iv 0,iv 0,iv 0,iv 0]),(1,.box (Term.enc x20))] (zM 1 (wU [(.tmp 44),(.const (.int .u8 60))] [9,5] (strings_IndexByte.ok x27.1 60) h31) zB) ?_
    refine J_d 16308 [] [47] [(47,bv (decide (x30<0)))] [] [] zB ?_
    refine xY (atI c87 8155) (fun v33:Int=>St.mk' [(2,pp 0),(4,pp 1),(6,sv x27.1),(8,iv v33)] [(0,.box [iv 0,sv ByteArray.empty,iv 0,iv 0,iv 0,iv 0,iv 0,iv 0]),(1,.box (Term.enc x20))]) (fun v33=>?_) (fun jv33=>?_)
    ·refine zA (fun x34 h35=>?_)
     refine zA (fun x36 h37=>?_)
     refine J_g 16310 [(4,2)] [(2,pp 0),(4,pp 1),(6,sv x27.1),(8,iv v33),(9,pp 2)] [(0,.box [iv 0,sv ByteArray.empty,iv 0,iv 0,iv 0,iv 0,iv 0,iv 0]),(1,.box (Term.enc x20)),(2,.box (zV.enc x36))] (zM 2 (zJj 9 (.tmp 50) none (some (.tmp 51)) h35) (zM 3 (wU [(.tmp 52)] [9] (yY.ok x34) h37) zB)) ?_
     refine J_d 65244 [] [56] [(56,bv (x36.Code !=0))] [] [] zB ?_
     refine zU 56 (fun h38=>?_) (fun h38=>?_)
     ·refine J_g 260980 [] [(2,pp 0)] [(0,.box [iv 5,sv ByteArray.empty,iv 0,iv 0,iv 0,iv 0,iv 0,iv 0])] zB ?_
      exact xA rfl
     ·refine zA (fun x39 h40=>?_)
      refine J_d 32623 [] [5,6,8,9,56] [(5,sv x39)] [1,2] [(1,.box [sv x20.Name,iv x36.Version.A,iv x36.Version.B,iv x36.Version.C,iv x20.High.A,iv x20.High.B,iv x20.High.C])] (zM 4 (zJj 9 (.tmp 60) (some (.tmp 61)) none h40) zB) ?_
      exact xS (J_j (jv41 (x36.Version.A,x36.Version.B,x36.Version.C,x39))) rfl
    ·refine zU 47 (fun h32=>?_) (fun h32=>?_)
     ·refine J_d 32618 [] [8,47] [(8,iv (x27.1.size:Int))] [] [] zB ?_
      exact xS (J_j (jv33 (x27.1.size:Int))) rfl
     ·exact xS (J_j (jv33 x30)) rfl
   ·exact xS (J_j (jv41 (x20.Low.A,x20.Low.B,x20.Low.C,x22))) rfl
noncomputable def zKR:Code:=(Tryz.f158.body).getD .skip
theorem uN.ok (a1:Term) (a2:Term):Ok Tryz.prog 158 [.ag (Term.enc a1),pp 0] [.box (Term.enc a2)] ((uN a1 a2).map fun r=>(bv r,[.box (Term.enc a2)])):=by
 refine zS zKR Tryz.f158 1 9 (fun q=>?_)
 unfold uN
 refine J_g 2 [(0,1)] [(1,pp 0),(2,pp 1)] [(0,.box (Term.enc a2)),(1,.box (Term.enc a1))] zB ?_
 refine J_g 6 [] [(3,bv (seq a1.Name a2.Name))] [(0,.box (Term.enc a2))] zB ?_
 exact xA rfl
noncomputable def zJR:Code:=(Tryz.f200.body).getD .skip
theorem zT.ok (a1:(List Term)) (a2:Term) (q:Wd) (kn:Unit→Option (D×List Ent)) (hk:∀v:Unit,J (q.g Tryz.prog 200 1 19) zJR (atI zJR 7) (St.mk' [] [(0,.box (Term.enc a2))]) (some v) kn):
  ∀s9:Int,J (q.g Tryz.prog 200 1 19) zJR (atI zJR 52) (St.mk' [(0,sl 7 Term.enc a1),(1,.fn 158 [pp 0]),(7,iv (a1.length:Int)),(8,iv s9)] [(0,.box (Term.enc a2))]) (zT a1 a2 s9) (Fl.go (fun r:Int=>some (iv r,[.box (Term.enc a2)])) kn):=by
 refine zC6 (fun g ih s9=>?_)
 unfold zR
 refine J_d 104 [] [9] [(9,bv (decide (s9< (a1.length:Int))))] [] [] zB ?_
 refine zU 9 (fun h10=>?_) (fun h10=>?_)
 ·refine J_d 1688 [] [5,9] [(5,iv s9)] [] [] zB ?_
  refine zA (fun x11 h12=>?_)
  refine zA (fun x13 h14=>?_)
  refine J_d 3378 [] [16] [(16,bv x13)] [] [] (zM 3 (zFq (kk:=.i64) 24 41 7 Term.enc (.tmp 12) (.tmp 13) h12) (zM 5 (zKu [(0,.box (Term.enc a2))] [] (zJh 11 [(.tmp 15)] [41] false [(0,.box (Term.enc a2))] [0] [.ag (Term.enc x11)] [pp 0] (.cons (.same rfl) (.cons (.pt rfl) (.nil))) (uN.ok x11 a2) h14 (.same rfl rfl))) zB)) ?_
  refine zU 16 (fun h15=>?_) (fun h15=>?_)
  ·refine J_g 13516 [] [(4,iv s9)] [(0,.box (Term.enc a2))] zB ?_
   exact xA rfl
  ·refine J_d 423 [] [5,8,16] [(8,iv (w64 (s9+1)))] [] [] zB ?_
   exact J_q (J_b (ih (w64 (s9+1)))) rfl
 ·exact xS (hk ()) rfl
theorem zO.ok (a1:(List Term)) (a2:Term):Ok Tryz.prog 200 [sl 7 Term.enc a1,.fn 158 [pp 0]] [.box (Term.enc a2)] ((zO a1 a2).map fun r=>(iv r,[.box (Term.enc a2)])):=by
 refine zS zJR Tryz.f200 1 19 (fun q=>?_)
 unfold zO
 refine J_g 2 [] [(0,sl 7 Term.enc a1),(1,.fn 158 [pp 0])] [(0,.box (Term.enc a2))] zB ?_
 refine J_d 12 [] [7,8] [(7,iv (a1.length:Int)),(8,iv 0)] [] [] zB ?_
 refine zBo (K0:=(fun r:Int=>some (iv r,[.box (Term.enc a2)]))) (fun _=>rfl) (zT.ok a1 a2 q _ (fun v16=>J_j ?_) 0)
 refine J_d 14 [] [4] [(4,iv (-1))] [] [] zB ?_
 exact xA rfl
noncomputable def c157:Code:=(Tryz.f157.body).getD .skip
theorem zH.ok (a1:(List Term)) (a2:Term):Ok Tryz.prog 157 [sl 7 Term.enc a1,.fn 158 [pp 0]] [.box (Term.enc a2)] ((zH a1 a2).map fun r=>(bv r,[.box (Term.enc a2)])):=by
 refine zS c157 Tryz.f157 1 9 (fun q=>?_)
 unfold zH
 refine J_d 2 [] [] [] [] [] zB ?_
 refine zA (fun x3 h4=>?_)
 refine J_g 6 [] [(4,bv (decide (x3≥0)))] [(0,.box (Term.enc a2))] (zM 2 (zKu [(0,.box (Term.enc a2))] [] (jC («as»:=[sl 7 Term.enc a1,.fn 158 [pp 0]]) [(.tmp 5),(.tmp 6)] [24,197] false [(0,.box (Term.enc a2))] [0] (.cons (.same rfl) (.cons (.fn (.cons (.pt rfl) (.nil))) (.nil))) (zO.ok a1 a2) h4 (.same rfl rfl))) zB) ?_
 exact xA rfl
noncomputable def c88:Code:=(Tryz.f88.body).getD .skip
theorem tF.ok (a1:(List Term)) (q:Wd) (kn:Unit→Option (D×List Ent)) (hk:∀v:Unit,J (q.g Tryz.prog 88 0 18) c88 (atI c88 7) (St.mk' [] []) (some v) kn):
  ∀s10:Int,J (q.g Tryz.prog 88 0 18) c88 (atI c88 52) (St.mk' [(0,sl 7 Term.enc a1),(5,sl 7 Term.enc a1),(6,iv (a1.length:Int)),(7,iv s10)] []) (tF a1 s10) (Fl.go (fun r:Bool=>some (bv r,[])) kn):=by
 refine zC6 (fun g ih s10=>?_)
 unfold vG
 refine J_d 104 [] [8] [(8,bv (decide (s10< (a1.length:Int))))] [] [] zB ?_
 refine zU 8 (fun h11=>?_) (fun h11=>?_)
 ·refine zA (fun x12 h13=>?_)
  refine J_d 1688 [(3,0)] [3,4,8] [(3,iv s10),(4,pp 0)] [0] [(0,.box (Term.enc x12))] (zM 1 (zFq (kk:=.i64) 24 41 7 Term.enc (.tmp 5) (.tmp 7) h13) zB) ?_
  refine zA (fun x14 h15=>?_)
  refine zA (fun x16 h17=>?_)
  refine J_d 3378 [] [3,4,16] [(16,bv x16)] [0] [] (zM 2 (zKS 24 41 7 Term.enc (.tmp 12) none (some (.tmp 13)) h15) (zM 4 (zKu [(0,.box (Term.enc x12))] [] (jC («as»:=[sl 7 Term.enc x14,.fn 158 [pp 0]]) [(.tmp 14),(.tmp 15)] [24,197] false [(0,.box (Term.enc x12))] [0] (.cons (.same rfl) (.cons (.fn (.cons (.pt rfl) (.nil))) (.nil))) (zH.ok x14 x12) h17 (.same rfl rfl))) zB)) ?_
  refine zU 16 (fun h18=>?_) (fun h18=>?_)
  ·refine J_g 13516 [] [(2,bv true)] [] zB ?_
   exact xA rfl
  ·refine J_d 423 [] [7,16] [(7,iv (w64 (s10+1)))] [] [] zB ?_
   exact J_q (J_b (ih (w64 (s10+1)))) rfl
 ·exact xS (hk ()) rfl
theorem vZ.ok (a1:(List Term)):Ok Tryz.prog 88 [sl 7 Term.enc a1] [] ((vZ a1).map fun r=>(bv r,[])):=by
 refine zS c88 Tryz.f88 0 18 (fun q=>?_)
 unfold vZ
 refine J_g 2 [] [(0,sl 7 Term.enc a1)] [] zB ?_
 refine J_g 12 [] [(0,sl 7 Term.enc a1),(5,sl 7 Term.enc a1),(6,iv (a1.length:Int)),(7,iv 0)] [] zB ?_
 refine zBo (K0:=(fun r:Bool=>some (bv r,[]))) (fun _=>rfl) (tF.ok a1 q _ (fun v19=>J_j ?_) 0)
 refine J_g 14 [] [(2,bv false)] [] zB ?_
 exact xA rfl
noncomputable def c41:Code:=(Tryz.f41.body).getD .skip
theorem wT.ok (x2:((List Int)×Bool)) (x4:(List ByteArray)) (q:Wd) (kn:(List Term)→Option (D×List Ent)) (hk:∀v:(List Term),J (q.g Tryz.prog 41 0 51) c41 (atI c41 31) (St.mk' [(6,sv (b2s x2.1)),(7,rr 0 v)] [(0,rE 7 Term.enc v)]) (some v) kn):
  ∀s14:((List Term)×Int),J (q.g Tryz.prog 41 0 51) c41 (atI c41 244) (St.mk' [(6,sv (b2s x2.1)),(7,rr 0 s14.1),(20,rr 1 x4),(21,iv (x4.length:Int)),(22,iv s14.2)] [(0,rE 7 Term.enc s14.1),(1,rE 1 eStr x4)]) (wT x2 x4 s14) (Fl.go (fun r:((List Term)×Int)=>some (.tu [so 7 Term.enc r.1,iv r.2],[])) kn):=by
 refine zC6 (fun g ih s14=>?_)
 unfold vK
 refine J_d 488 [] [23] [(23,bv (decide (s14.2< (x4.length:Int))))] [] [] zB ?_
 refine zU 23 (fun h15=>?_) (fun h15=>?_)
 ·refine zA (fun x16 h17=>?_)
  refine J_d 7832 [] [9,23] [(9,sv x16)] [] [] (zM 0 (zBM (kk:=.i64) 90 9 1 1 eStr (.tmp 20) (.tmp 22) h17) (zM 1 (zAZ (d:=sv x16) 9 1 1 0 eStr (.tmp 24) h17 (by kernel_rfl)) zB)) ?_
  refine zA (fun x18 h19=>?_)
  refine J_g 15666 [(2,2)] [(6,sv (b2s x2.1)),(7,rr 0 s14.1),(10,pp 2),(20,rr 1 x4),(21,iv (x4.length:Int)),(22,iv s14.2)] [(0,rE 7 Term.enc s14.1),(1,rE 1 eStr x4),(2,.box (xG.enc x18))] (zM 1 (wU [(.tmp 26)] [9] (uI.ok x16) h19) zB) ?_
  refine J_d 62668 [] [30] [(30,bv (x18.Code !=0))] [] [] zB ?_
  refine zU 30 (fun h20=>?_) (fun h20=>?_)
  ·refine J_g 250676 [] [(2,nv),(3,iv 5)] [] zB ?_
   exact zC7 (ds:=[nv,iv 5]) (ds':=[so 7 Term.enc ([]:List Term),iv 5]) (.cons (.cell (.nilsl true 7 (.nil))) (.cons (.cell (.keep rfl (.nil))) (.nil) (by decide)) (by decide)) rfl
  ·refine zA (fun x21 h22=>?_)
   refine J_g 31335 [] [(6,sv (b2s x2.1)),(7,rr 4 x21),(20,rr 1 x4),(21,iv (x4.length:Int)),(22,iv s14.2)] [(1,rE 1 eStr x4),(4,rE 7 Term.enc x21)] (zM 3 (zDR 24 41 7 3 Term.enc [x18.Term] [0] [(.tmp 33)] [.ag (Term.enc x18.Term)]) (zM 4 (zJC 24 24 41 41 7 64 4 0 3 Term.enc (.tmp 31) (.tmp 34) h22) zB)) ?_
   refine J_d 1959 [] [22] [(22,iv (w64 (s14.2+1)))] [] [] zB ?_
   refine zDz 4 0 (Nat.le_of_ble_eq_true rfl) (Nat.le_of_ble_eq_true rfl) ?_
   exact J_q (J_b (ih (x21,w64 (s14.2+1)))) rfl
 ·exact xS (hk s14.1) rfl
theorem vL.ok (a1:zF):Ok Tryz.prog 41 [.ag (zF.enc false a1)] [] ((vL a1).map fun r=>(.tu [so 7 Term.enc r.1,iv r.2],[])):=by
 refine zS c41 Tryz.f41 0 51 (fun q=>?_)
 unfold vL
 refine J_g 2 [(0,0)] [(1,pp 0)] [(0,.box (zF.enc false a1))] zB ?_
 refine zA (fun x2 h3=>?_)
 refine J_g 6 [] [(4,sl 1 eU8 x2.1)] [] (zM 1 (wU [(.tmp 12),(.const (.string (bs [114,111,111,116,115])))] [29,9] (yA.ok a1 (bs [114,111,111,116,115])) h3) zB) ?_
 refine J_g 14 [] [(6,sv (b2s x2.1)),(7,rr 0 ([]:List Term))] [(0,rE 7 Term.enc ([]:List Term))] (zM 1 (zKf (xs:=x2.1) 22 9 5 (.tmp 16)) (zM 2 (zDR 24 41 7 0 Term.enc ([]:List Term) [] [] []) zB)) ?_
 refine zA (fun x4 h5=>?_)
 refine J_d 60 [] [20,21,22] [(20,rr 1 x4),(21,iv (x4.length:Int)),(22,iv 0)] [1] [(1,rE 1 eStr x4)] (zM 1 (jC («as»:=[sv (b2s x2.1)]) [(.tmp 19)] [9] false [] [] (.cons (.same rfl) (.nil)) (uT.ok (b2s x2.1)) h5 (.own 1)) zB) ?_
 refine zBo (K0:=(fun r:((List Term)×Int)=>some (.tu [so 7 Term.enc r.1,iv r.2],[]))) (fun _=>rfl) (wT.ok x2 x4 q _ (fun v23=>J_j ?_) (([]:List Term),0))
 refine zA (fun x24 h25=>?_)
 refine xY (atI c41 125) (fun v30:Bool=>St.mk' [(7,rr 0 v23),(49,bv v30)] [(0,rE 7 Term.enc v23)]) (fun v30=>?_) (fun jv30=>?_)
 ·refine zU 49 (fun h31=>?_) (fun h31=>?_)
  ·refine J_g 500 [] [(2,nv),(3,iv 5)] [] zB ?_
   exact zC7 (ds:=[nv,iv 5]) (ds':=[so 7 Term.enc ([]:List Term),iv 5]) (.cons (.cell (.nilsl true 7 (.nil))) (.cons (.cell (.keep rfl (.nil))) (.nil) (by decide)) (by decide)) rfl
  ·refine J_g 126 [] [(2,rr 0 v23),(3,iv 0)] [(0,rE 7 Term.enc v23)] zB ?_
   exact zC7 (ds:=[rr 0 v23,iv 0]) (ds':=[so 7 Term.enc v23,iv 0]) (.cons (.cell (.move (.head _) (List.length_map _) (by decide) (.nil))) (.cons (.cell (.keep rfl (.nil))) (.nil) (by decide)) (by decide)) rfl
 ·refine wZ (fun h26=>?_) (fun h26=>?_)
  ·refine J_d 124 [] [6,49] [(49,bv true)] [] [] (zM 1 (jC («as»:=[rr 0 v23]) [(.tmp 37)] [24] true [(0,rE 7 Term.enc v23)] [] (.cons (zF7 (.head _) (fun _=>rfl) rfl) (.nil)) (yU.ok v23) h25 (.same rfl rfl) (hbor:=fun _=>⟨fhN,zW⟩)) (xX 4 [(40,bv (!(seq x24 (b2s x2.1))))] [] h26 zB)) ?_
   exact xS (J_j (jv30 true)) rfl
  ·refine wZ (fun h27=>?_) (fun h27=>?_)
   ·refine J_d 124 [] [6,49] [(49,bv true)] [] [] (zM 1 (jC («as»:=[rr 0 v23]) [(.tmp 37)] [24] true [(0,rE 7 Term.enc v23)] [] (.cons (zF7 (.head _) (fun _=>rfl) rfl) (.nil)) (yU.ok v23) h25 (.same rfl rfl) (hbor:=fun _=>⟨fhN,zW⟩)) (xX 4 [(40,bv (!(seq x24 (b2s x2.1))))] [] h26 (xX 9 [(45,bv (decide ((v23.length:Int)>8)))] [] h27 zB))) ?_
    exact xS (J_j (jv30 true)) rfl
   ·refine zA (fun x28 h29=>?_)
    refine J_d 124 [] [6,49] [(49,bv x28)] [] [] (zM 1 (jC («as»:=[rr 0 v23]) [(.tmp 37)] [24] true [(0,rE 7 Term.enc v23)] [] (.cons (zF7 (.head _) (fun _=>rfl) rfl) (.nil)) (yU.ok v23) h25 (.same rfl rfl) (hbor:=fun _=>⟨fhN,zW⟩)) (xX 4 [(40,bv (!(seq x24 (b2s x2.1))))] [] h26 (xX 9 [(45,bv (decide ((v23.length:Int)>8)))] [] h27 (zB8 11 9 46 false (jC («as»:=[rr 0 v23]) [(.tmp 47)] [24] true [(0,rE 7 Term.enc v23)] [] (.cons (zF7 (.head _) (fun _=>rfl) rfl) (.nil)) (vZ.ok v23) h29 (.same rfl rfl) (hbor:=fun _=>⟨fhN,zW⟩)) zB)))) ?_
    exact xS (J_j (jv30 x28)) rfl
noncomputable def c10:Code:=(Tryz.f10.body).getD .skip
theorem tY.ok (a1:zF):Ok Tryz.prog 10 [.ag (zF.enc false a1)] [] ((tY a1).map fun r=>(.ag [iv r.Code,so 7 Term.enc r.Asks],[])):=by
 refine zS c10 Tryz.f10 0 20 (fun q=>?_)
 unfold tY
 refine J_g 2 [(0,0),(1,1)] [(1,pp 0),(2,pp 1)] [(0,.box (zF.enc false a1)),(1,.box [iv 0,nv])] zB ?_
 refine zA (fun x2 h3=>?_)
 refine J_g 12 [] [(1,pp 0),(2,pp 1),(3,iv x2)] [(0,.box (zF.enc false a1)),(1,.box [iv 0,nv])] (zM 1 (wU [(.tmp 6)] [29] (yO.ok a1) h3) zB) ?_
 refine J_d 26 [] [9] [(9,bv (x2 !=0))] [] [] zB ?_
 refine zU 9 (fun h4=>?_) (fun h4=>?_)
 ·refine J_g 108 [] [(2,pp 1)] [(1,.box [iv x2,nv])] zB ?_
  exact zC7 (ds:=[.ag [iv x2,nv]]) (ds':=[.ag [iv x2,so 7 Term.enc ([]:List Term)]]) (.cons (.ag (.keep rfl (.nilsl true 7 (.nil)))) (.nil) (by decide)) rfl
 ·refine zA (fun x5 h6=>?_)
  refine J_g 14 [] [(2,pp 1),(4,rr 2 x5.1),(5,iv x5.2)] [(1,.box [iv 0,nv]),(2,rE 7 Term.enc x5.1)] (zM 1 (jC («as»:=[.ag (zF.enc false a1)]) [(.tmp 13)] [29] false [] [] (.cons (.same rfl) (.nil)) (vL.ok a1) h6 (.tu (.cons (.own 2) (.cons (.same rfl rfl) (.nil))))) zB) ?_
  refine J_g 30 [] [(2,pp 1)] [(1,.box [iv x5.2,rr 2 x5.1]),(2,rE 7 Term.enc x5.1)] zB ?_
  exact zC7 (ds:=[.ag [iv x5.2,rr 2 x5.1]]) (ds':=[.ag [iv x5.2,so 7 Term.enc x5.1]]) (.cons (.ag (.keep rfl (.move (.tail _ (.head _)) (List.length_map _) (by decide) (.nil)))) (.nil) (by decide)) rfl
noncomputable def c89:Code:=(Tryz.f89.body).getD .skip
theorem xH.ok (a1:Int):Ok Tryz.prog 89 [uv a1] [] ((xH a1).map fun r=>(bv r,[])):=by
 refine zS c89 Tryz.f89 0 9 (fun q=>?_)
 unfold xH
 refine J_g 2 [] [(0,uv a1)] [] zB ?_
 refine wZ (fun h2=>?_) (fun h2=>?_)
 ·refine J_g 6 [] [(2,bv (decide (a1≤122)))] [] (xX 2 [(4,bv (decide (a1≥97)))] [] h2 zB) ?_
  exact xA rfl
 ·refine J_g 6 [] [(2,bv false)] [] (xX 2 [(4,bv (decide (a1≥97)))] [] h2 zB) ?_
  exact xA rfl
noncomputable def c159:Code:=(Tryz.f159.body).getD .skip
theorem xW.ok (a1:Int):Ok Tryz.prog 159 [uv a1] [] ((xW a1).map fun r=>(bv r,[])):=by
 refine zS c159 Tryz.f159 0 9 (fun q=>?_)
 unfold xW
 refine J_g 2 [] [(0,uv a1)] [] zB ?_
 refine wZ (fun h2=>?_) (fun h2=>?_)
 ·refine J_g 6 [] [(2,bv (decide (a1≤57)))] [] (xX 2 [(4,bv (decide (a1≥48)))] [] h2 zB) ?_
  exact xA rfl
 ·refine J_g 6 [] [(2,bv false)] [] (xX 2 [(4,bv (decide (a1≥48)))] [] h2 zB) ?_
  exact xA rfl
noncomputable def c90:Code:=(Tryz.f90.body).getD .skip
theorem uF.ok (a1:Int):Ok Tryz.prog 90 [uv a1] [] ((uF a1).map fun r=>(bv r,[])):=by
 refine zS c90 Tryz.f90 0 13 (fun q=>?_)
 unfold uF
 refine J_g 2 [] [(0,uv a1)] [] zB ?_
 refine zA (fun x2 h3=>?_)
 refine wZ (fun h4=>?_) (fun h4=>?_)
 ·refine J_g 6 [] [(2,bv true)] [] (zM 1 (wU [(.tmp 3)] [5] (xH.ok a1) h3) (xX 2 [(4,bv x2)] [] h4 zB)) ?_
  exact xA rfl
 ·refine zA (fun x5 h6=>?_)
  refine wZ (fun h7=>?_) (fun h7=>?_)
  ·refine J_g 6 [] [(2,bv true)] [] (zM 1 (wU [(.tmp 3)] [5] (xH.ok a1) h3) (xX 2 [(4,bv x2)] [] h4 (zB8 4 2 5 false (wU [(.tmp 6)] [5] (xW.ok a1) h6) (xX 6 [(8,bv x5)] [] h7 zB)))) ?_
   exact xA rfl
  ·refine J_g 6 [] [(2,bv (a1==95))] [] (zM 1 (wU [(.tmp 3)] [5] (xH.ok a1) h3) (xX 2 [(4,bv x2)] [] h4 (zB8 4 2 5 false (wU [(.tmp 6)] [5] (xW.ok a1) h6) (xX 6 [(8,bv x5)] [] h7 zB)))) ?_
   exact xA rfl
noncomputable def c42:Code:=(Tryz.f42.body).getD .skip
theorem vE.ok (a1:ByteArray) (q:Wd) (kn:Unit→Option (D×List Ent)) (hk:∀v:Unit,J (q.g Tryz.prog 42 0 29) c42 (atI c42 15) (St.mk' [] []) (some v) kn):
  ∀s16:Int,J (q.g Tryz.prog 42 0 29) c42 (atI c42 116) (St.mk' [(0,sv a1),(3,iv s16)] []) (vE a1 s16) (Fl.go (fun r:Int=>some (iv r,[])) kn):=by
 refine zC6 (fun g ih s16=>?_)
 unfold tQ
 refine J_d 464 [] [21] [(21,bv (decide (s16< (a1.size:Int))))] [] [] zB ?_
 refine zU 21 (fun h17=>?_) (fun h17=>?_)
 ·refine zA (fun x18 h19=>?_)
  refine zA (fun x20 h21=>?_)
  refine J_d 1864 [] [21,28] [(28,bv (!x20))] [] [] (zM 2 (zGN (kk:=.i64) 9 (.tmp 24) (.tmp 25) h19) (zM 3 (wU [(.tmp 26)] [5] (uF.ok x18) h21) zB)) ?_
  refine zU 28 (fun h22=>?_) (fun h22=>?_)
  ·refine J_g 7460 [] [(2,iv 5)] [] zB ?_
   exact xA rfl
  ·refine J_g 467 [] [(0,sv a1),(3,iv (w64 (s16+1)))] [] zB ?_
   exact J_q (J_b (ih (w64 (s16+1)))) rfl
 ·exact xS (hk ()) rfl
theorem uL.ok (a1:ByteArray):Ok Tryz.prog 42 [sv a1] [] ((uL a1).map fun r=>(iv r,[])):=by
 refine zS c42 Tryz.f42 0 29 (fun q=>?_)
 unfold uL
 refine J_g 2 [] [(0,sv a1)] [] zB ?_
 refine xY (atI c42 13) (fun v8:Bool=>St.mk' [(0,sv a1),(17,bv v8)] []) (fun v8=>?_) (fun jv8=>?_)
 ·refine zU 17 (fun h9=>?_) (fun h9=>?_)
  ·refine J_g 52 [] [(2,iv 5)] [] zB ?_
   exact xA rfl
  ·refine J_g 28 [] [(0,sv a1),(3,iv 0)] [] zB ?_
   refine zBo (K0:=(fun r:Int=>some (iv r,[]))) (fun _=>rfl) (vE.ok a1 q _ (fun v23=>J_j ?_) 0)
   refine J_g 30 [] [(2,iv 0)] [] zB ?_
   exact xA rfl
 ·refine wZ (fun h2=>?_) (fun h2=>?_)
  ·refine J_g 12 [] [(0,sv a1),(17,bv true)] [] (xX 3 [(6,bv (decide ((a1.size:Int)<1)))] [] h2 zB) ?_
   exact xS (J_j (jv8 true)) rfl
  ·refine wZ (fun h3=>?_) (fun h3=>?_)
   ·refine J_g 12 [] [(0,sv a1),(17,bv true)] [] (xX 3 [(6,bv (decide ((a1.size:Int)<1)))] [] h2 (xX 8 [(11,bv (decide ((a1.size:Int)>12)))] [] h3 zB)) ?_
    exact xS (J_j (jv8 true)) rfl
   ·refine zA (fun x4 h5=>?_)
    refine zA (fun x6 h7=>?_)
    refine J_g 12 [] [(0,sv a1),(17,bv (!x6))] [] (xX 3 [(6,bv (decide ((a1.size:Int)<1)))] [] h2 (xX 8 [(11,bv (decide ((a1.size:Int)>12)))] [] h3 (zB8 10 8 12 false (zGN (kk:=.i64) 9 (.tmp 13) (.const (.int .i64 0)) h5) (zB8 11 8 12 false (wU [(.tmp 14)] [5] (xH.ok x4) h7) zB)))) ?_
    exact xS (J_j (jv8 (!x6))) rfl
noncomputable def c91:Code:=(Tryz.f91.body).getD .skip
theorem xJ.ok (a1:Int) (a2:Int) (a3:Int):Ok Tryz.prog 91 [iv a1,iv a2,iv a3] [] ((xJ a1 a2 a3).map fun r=>(bv r,[])):=by
 refine zS c91 Tryz.f91 0 15 (fun q=>?_)
 unfold xJ
 refine J_d 2 [] [] [] [] [] zB ?_
 refine wZ (fun h4=>?_) (fun h4=>?_)
 ·refine J_g 6 [] [(6,bv (decide (a1≤a3)))] [] (xX 3 [(9,bv (decide (a1≥a2)))] [] h4 zB) ?_
  exact xA rfl
 ·refine J_g 6 [] [(6,bv false)] [] (xX 3 [(9,bv (decide (a1≥a2)))] [] h4 zB) ?_
  exact xA rfl
noncomputable def c43:Code:=(Tryz.f43.body).getD .skip
theorem yX.ok (a1:Version):Ok Tryz.prog 43 [.ag (Version.enc a1)] [] ((yX a1).map fun r=>(iv r,[])):=by
 refine zS c43 Tryz.f43 0 19 (fun q=>?_)
 unfold yX
 refine J_g 2 [(0,0)] [(1,pp 0)] [(0,.box (Version.enc a1))] zB ?_
 refine zA (fun x2 h3=>?_)
 refine xY (atI c43 13) (fun v10:Bool=>St.mk' [(18,bv v10)] []) (fun v10=>?_) (fun jv10=>?_)
 ·refine zU 18 (fun h11=>?_) (fun h11=>?_)
  ·refine J_g 52 [] [(2,iv 3)] [] zB ?_
   exact xA rfl
  ·refine J_g 14 [] [(2,iv 0)] [] zB ?_
   exact xA rfl
 ·refine wZ (fun h4=>?_) (fun h4=>?_)
  ·refine J_g 12 [] [(18,bv true)] [] (zM 2 (wU [(.tmp 4),(.const (.int .i64 0)),(.const (.int .i64 999))] [2,2,2] (xJ.ok a1.A 0 999) h3) (xX 4 [(6,bv (!x2))] [] h4 zB)) ?_
   exact xS (J_j (jv10 true)) rfl
  ·refine zA (fun x5 h6=>?_)
   refine wZ (fun h7=>?_) (fun h7=>?_)
   ·refine J_g 12 [] [(18,bv true)] [] (zM 2 (wU [(.tmp 4),(.const (.int .i64 0)),(.const (.int .i64 999))] [2,2,2] (xJ.ok a1.A 0 999) h3) (xX 4 [(6,bv (!x2))] [] h4 (zB8 7 4 7 false (wU [(.tmp 9),(.const (.int .i64 0)),(.const (.int .i64 999))] [2,2,2] (xJ.ok a1.B 0 999) h6) (xX 10 [(12,bv (!x5))] [] h7 zB)))) ?_
    exact xS (J_j (jv10 true)) rfl
   ·refine zA (fun x8 h9=>?_)
    refine J_g 12 [] [(18,bv (!x8))] [] (zM 2 (wU [(.tmp 4),(.const (.int .i64 0)),(.const (.int .i64 999))] [2,2,2] (xJ.ok a1.A 0 999) h3) (xX 4 [(6,bv (!x2))] [] h4 (zB8 7 4 7 false (wU [(.tmp 9),(.const (.int .i64 0)),(.const (.int .i64 999))] [2,2,2] (xJ.ok a1.B 0 999) h6) (xX 10 [(12,bv (!x5))] [] h7 (zB8 13 10 13 false (wU [(.tmp 15),(.const (.int .i64 0)),(.const (.int .i64 999))] [2,2,2] (xJ.ok a1.C 0 999) h9) zB))))) ?_
    exact xS (J_j (jv10 (!x8))) rfl
noncomputable def c92:Code:=(Tryz.f92.body).getD .skip
theorem vR.ok (a1:Int) (a2:Int):Ok Tryz.prog 92 [iv a1,iv a2] [] ((vR a1 a2).map fun r=>(iv r,[])):=by
 refine zS c92 Tryz.f92 0 11 (fun q=>?_)
 unfold vR
 refine J_g 2 [] [(0,iv a1),(1,iv a2)] [] zB ?_
 refine J_d 12 [] [7] [(7,bv (decide (a1<a2)))] [] [] zB ?_
 refine zU 7 (fun h3=>?_) (fun h3=>?_)
 ·refine J_g 52 [] [(4,iv (-1))] [] zB ?_
  exact xA rfl
 ·refine J_g 28 [] [(10,bv (decide (a1>a2)))] [] zB ?_
  refine zU 10 (fun h4=>?_) (fun h4=>?_)
  ·refine J_g 116 [] [(4,iv 1)] [] zB ?_
   exact xA rfl
  ·refine J_g 30 [] [(4,iv 0)] [] zB ?_
   exact xA rfl
noncomputable def c45:Code:=(Tryz.f45.body).getD .skip
theorem xC.ok (a1:Version) (a2:Version):Ok Tryz.prog 45 [.ag (Version.enc a1),.ag (Version.enc a2)] [] ((xC a1 a2).map fun r=>(iv r,[])):=by
 refine zS c45 Tryz.f45 0 28 (fun q=>?_)
 unfold xC
 refine J_g 2 [(0,0),(1,1)] [(2,pp 0),(3,pp 1)] [(0,.box (Version.enc a1)),(1,.box (Version.enc a2))] zB ?_
 refine zA (fun x3 h4=>?_)
 refine J_g 12 [] [(2,pp 0),(3,pp 1),(5,iv x3)] [(0,.box (Version.enc a1)),(1,.box (Version.enc a2))] (zM 4 (wU [(.tmp 8),(.tmp 10)] [2,2] (vR.ok a1.A a2.A) h4) zB) ?_
 refine J_d 26 [] [13] [(13,bv (x3 !=0))] [] [] zB ?_
 refine zU 13 (fun h5=>?_) (fun h5=>?_)
 ·refine J_g 108 [] [(4,iv x3)] [] zB ?_
  exact xA rfl
 ·refine zA (fun x6 h7=>?_)
  refine J_g 28 [] [(2,pp 0),(3,pp 1),(6,iv x6)] [(0,.box (Version.enc a1)),(1,.box (Version.enc a2))] (zM 4 (wU [(.tmp 16),(.tmp 18)] [2,2] (vR.ok a1.B a2.B) h7) zB) ?_
  refine J_d 58 [] [21] [(21,bv (x6 !=0))] [] [] zB ?_
  refine zU 21 (fun h8=>?_) (fun h8=>?_)
  ·refine J_g 236 [] [(4,iv x6)] [] zB ?_
   exact xA rfl
  ·refine zA (fun x9 h10=>?_)
   refine J_g 30 [] [(4,iv x9)] [] (zM 4 (wU [(.tmp 24),(.tmp 26)] [2,2] (vR.ok a1.C a2.C) h10) zB) ?_
   exact xA rfl
noncomputable def c11:Code:=(Tryz.f11.body).getD .skip
theorem uJ.ok (a1:Term):Ok Tryz.prog 11 [.ag (Term.enc a1)] [] ((uJ a1).map fun r=>(iv r,[])):=by
 refine zS c11 Tryz.f11 0 33 (fun q=>?_)
 unfold uJ
 refine J_g 2 [(0,0)] [(1,pp 0)] [(0,.box (Term.enc a1))] zB ?_
 refine zA (fun x2 h3=>?_)
 refine J_g 12 [] [(1,pp 0),(3,iv x2)] [(0,.box (Term.enc a1))] (zM 2 (wU [(.tmp 6)] [9] (uL.ok a1.Name) h3) zB) ?_
 refine J_d 26 [] [9] [(9,bv (x2 !=0))] [] [] zB ?_
 refine zU 9 (fun h4=>?_) (fun h4=>?_)
 ·refine J_g 108 [] [(2,iv x2)] [] zB ?_
  exact xA rfl
 ·refine zA (fun x5 h6=>?_)
  refine J_g 28 [] [(1,pp 0),(4,iv x5)] [(0,.box (Term.enc a1))] (zM 2 (wU [(.tmp 12)] [39] (yX.ok a1.Low) h6) zB) ?_
  refine J_d 58 [] [15] [(15,bv (x5 !=0))] [] [] zB ?_
  refine zU 15 (fun h7=>?_) (fun h7=>?_)
  ·refine J_g 236 [] [(2,iv x5)] [] zB ?_
   exact xA rfl
  ·refine zA (fun x8 h9=>?_)
   refine xY (atI c11 61) (fun v13:Bool=>St.mk' [(1,pp 0),(26,bv v13)] [(0,.box (Term.enc a1))]) (fun v13=>?_) (fun jv13=>?_)
   ·refine zU 26 (fun h14=>?_) (fun h14=>?_)
    ·refine J_g 244 [] [(2,iv 3)] [] zB ?_
     exact xA rfl
    ·refine zA (fun x15 h16=>?_)
     refine J_g 124 [] [(32,bv (decide (x15≥0)))] [] (zM 4 (wU [(.tmp 28),(.tmp 30)] [39,39] (xC.ok a1.Low a1.High) h16) zB) ?_
     refine zU 32 (fun h17=>?_) (fun h17=>?_)
     ·refine J_g 500 [] [(2,iv 1)] [] zB ?_
      exact xA rfl
     ·refine J_g 126 [] [(2,iv 0)] [] zB ?_
      exact xA rfl
   ·refine wZ (fun h10=>?_) (fun h10=>?_)
    ·refine zA (fun x11 h12=>?_)
     refine J_d 60 [] [4,15,26] [(26,bv (x11 !=0))] [] [] (zM 2 (wU [] [] (tJ.ok) h9) (zM 3 (zFy (b:=.neq) (r:=(a1.High.A==x8.A&&(a1.High.B==x8.B&&(a1.High.C==x8.C&&true)))) 39 39 (.tmp 18) (.tmp 19) [.int .i64 a1.High.A,.int .i64 a1.High.B,.int .i64 a1.High.C] [.int .i64 x8.A,.int .i64 x8.B,.int .i64 x8.C] (.inr ⟨rfl,rfl⟩)) (xX 4 [(20,bv (!(a1.High.A==x8.A&&(a1.High.B==x8.B&&(a1.High.C==x8.C&&true)))))] [] h10 (zB8 7 4 21 true (wU [(.tmp 23)] [39] (yX.ok a1.High) h12) zB)))) ?_
     exact xS (J_j (jv13 (x11 !=0))) rfl
    ·refine J_d 60 [] [4,15,26] [(26,bv false)] [] [] (zM 2 (wU [] [] (tJ.ok) h9) (zM 3 (zFy (b:=.neq) (r:=(a1.High.A==x8.A&&(a1.High.B==x8.B&&(a1.High.C==x8.C&&true)))) 39 39 (.tmp 18) (.tmp 19) [.int .i64 a1.High.A,.int .i64 a1.High.B,.int .i64 a1.High.C] [.int .i64 x8.A,.int .i64 x8.B,.int .i64 x8.C] (.inr ⟨rfl,rfl⟩)) (xX 4 [(20,bv (!(a1.High.A==x8.A&&(a1.High.B==x8.B&&(a1.High.C==x8.C&&true)))))] [] h10 zB))) ?_
     exact xS (J_j (jv13 false)) rfl
noncomputable def c146:Code:=(Tryz.f146.body).getD .skip
theorem strings_HasPrefix.ok (a1:ByteArray) (a2:ByteArray):Ok Tryz.prog 146 [sv a1,sv a2] [] ((strings_HasPrefix a1 a2).map fun r=>(bv r,[])):=by
 refine zS c146 Tryz.f146 0 8 (fun q=>?_)
 unfold strings_HasPrefix
 refine J_d 2 [] [] [] [] [] zB ?_
 refine zA (fun x3 h4=>?_)
 refine J_g 6 [] [(4,bv x3)] [] (zM 2 (wU [(.tmp 5),(.tmp 6)] [9,9] (zP.ok a1 a2) h4) zB) ?_
 exact xA rfl
noncomputable def zJD:Code:=(Tryz.f161.body).getD .skip
theorem wR.ok (a1:zF) (a2:ByteArray) (q:Wd) (kn:(List ByteArray)→Option (D×List Ent)) (hk:∀v:(List ByteArray),J (q.g Tryz.prog 161 0 27) zJD (atI zJD 15) (St.mk' [(5,rr 1 v)] [(1,rE 1 eStr v)]) (some v) kn):
  ∀s12:((List ByteArray)×Int),J (q.g Tryz.prog 161 0 27) zJD (atI zJD 116) (St.mk' [(1,sv a2),(5,rr 1 s12.1),(10,sl 2 (File.enc false) a1.Files),(11,iv (a1.Files.length:Int)),(12,iv s12.2)] [(1,rE 1 eStr s12.1)]) (wR a1 a2 s12) kn:=by
 refine zC6 (fun g ih s12=>?_)
 unfold kC
 refine J_d 232 [] [13] [(13,bv (decide (s12.2< (a1.Files.length:Int))))] [] [] zB ?_
 refine zU 13 (fun h13=>?_) (fun h13=>?_)
 ·refine zA (fun x14 h15=>?_)
  refine J_d 3736 [(2,2)] [7,13] [(7,pp 2)] [2] [(2,.box (File.enc false x14))] (zM 0 (zFq (kk:=.i64) 27 124 2 (File.enc false) (.tmp 10) (.tmp 12) h15) zB) ?_
  refine zA (fun x16 h17=>?_)
  refine J_d 7474 [] [19] [(19,bv x16)] [] [] (zM 3 (wU [(.tmp 17),(.tmp 18)] [9,9] (strings_HasPrefix.ok x14.Path a2) h17) zB) ?_
  refine xY (aft zJD 1868) (fun v21:(List ByteArray)=>St.mk' [(1,sv a2),(5,rr 4 v21),(10,sl 2 (File.enc false) a1.Files),(11,iv (a1.Files.length:Int)),(12,iv s12.2)] [(4,rE 1 eStr v21)]) (fun v21=>?_) (fun jv21=>?_)
  ·refine J_d 935 [] [12] [(12,iv (w64 (s12.2+1)))] [] [] zB ?_
   refine zDz 4 1 (Nat.le_of_ble_eq_true rfl) (Nat.le_of_ble_eq_true rfl) ?_
   exact J_q (J_b (ih (v21,w64 (s12.2+1)))) rfl
  ·refine zU 19 (fun h18=>?_) (fun h18=>?_)
   ·refine zA (fun x19 h20=>?_)
    refine J_d 14950 [] [5,7,19] [(5,rr 4 x19)] [1,2,4] [(4,rE 1 eStr x19)] (zM 3 (zDR 90 9 1 3 eStr [x14.Path] [0] [(.tmp 22)] [sv x14.Path]) (zM 4 (zJC 90 90 9 9 1 16 4 1 3 eStr (.tmp 20) (.tmp 23) h20) zB)) ?_
    exact xS (J_j (jv21 x19)) rfl
   ·refine zDz 1 4 (Nat.le_of_ble_eq_true rfl) (Nat.le_of_ble_eq_true rfl) ?_
    exact xS (J_j (jv21 s12.1)) rfl
 ·exact xS (hk s12.1) rfl
theorem vJ.ok (a1:zF) (a2:ByteArray):Ok Tryz.prog 161 [.ag (zF.enc false a1),sv a2] [] ((vJ a1 a2).map fun r=>(so 1 eStr r,[])):=by
 refine zS zJD Tryz.f161 0 27 (fun q=>?_)
 unfold vJ
 refine J_g 2 [(0,0)] [(1,sv a2),(2,pp 0)] [(0,.box (zF.enc false a1))] zB ?_
 refine J_g 6 [] [(1,sv a2),(2,pp 0),(5,rr 1 ([]:List ByteArray))] [(0,.box (zF.enc false a1)),(1,rE 1 eStr ([]:List ByteArray))] (zM 0 (zDR 90 9 1 1 eStr ([]:List ByteArray) [] [] []) zB) ?_
 refine J_d 28 [] [2,10,11,12] [(10,sl 2 (File.enc false) a1.Files),(11,iv (a1.Files.length:Int)),(12,iv 0)] [0] [] zB ?_
 refine zIz (wR.ok a1 a2 q _ (fun v22=>J_j ?_) (([]:List ByteArray),0))
 refine J_g 30 [] [(4,rr 1 v22)] [(1,rE 1 eStr v22)] zB ?_
 exact zC7 (ds:=[rr 1 v22]) (ds':=[so 1 eStr v22]) (.cons (.cell (.move (.head _) (List.length_map _) (by decide) (.nil))) (.nil) (by decide)) rfl
noncomputable def c95:Code:=(Tryz.f95.body).getD .skip
theorem uS.ok (x2:(List ByteArray)) (q:Wd) (kn:(List Int)→Option (D×List Ent)) (hk:∀v:(List Int),J (q.g Tryz.prog 95 0 31) c95 (atI c95 15) (St.mk' [(3,rr 1 v)] [(1,rE 1 jV v)]) (some v) kn):
  ∀s17:((List Int)×Int),J (q.g Tryz.prog 95 0 31) c95 (atI c95 116) (St.mk' [(3,rr 1 s17.1),(9,rr 2 x2),(10,iv (x2.length:Int)),(11,iv s17.2)] [(1,rE 1 jV s17.1),(2,rE 1 eStr x2)]) (uS x2 s17) kn:=by
 refine zC6 (fun g ih s17=>?_)
 unfold vW
 refine J_d 232 [] [12] [(12,bv (decide (s17.2< (x2.length:Int))))] [] [] zB ?_
 refine zU 12 (fun h18=>?_) (fun h18=>?_)
 ·refine zA (fun x19 h20=>?_)
  refine J_d 3736 [] [5,12] [(5,sv x19)] [] [] (zM 0 (zBM (kk:=.i64) 90 9 1 2 eStr (.tmp 9) (.tmp 11) h20) (zM 1 (zAZ (d:=sv x19) 9 1 2 0 eStr (.tmp 13) h20 (by kernel_rfl)) zB)) ?_
  refine zA (fun x21 h22=>?_)
  refine zA (fun x23 h24=>?_)
  refine J_d 7474 [] [6] [(6,iv x23)] [] [] (zM 1 (zJj 9 (.tmp 15) (some (.const (.int .i64 4))) none h22) (zM 2 (wU [(.tmp 16),(.const (.int .i64 6))] [9,3] (wV.ok x21 6) h24) zB)) ?_
  refine xY (atI c95 14951) (fun v26:Bool=>St.mk' [(3,rr 1 s17.1),(6,iv x23),(9,rr 2 x2),(10,iv (x2.length:Int)),(11,iv s17.2),(24,bv v26)] [(1,rE 1 jV s17.1),(2,rE 1 eStr x2)]) (fun v26=>?_) (fun jv26=>?_)
  ·refine xY (aft c95 1868) (fun v30:(List Int)=>St.mk' [(3,rr 4 v30),(9,rr 2 x2),(10,iv (x2.length:Int)),(11,iv s17.2)] [(2,rE 1 eStr x2),(4,rE 1 jV v30)]) (fun v30=>?_) (fun jv30=>?_)
   ·refine J_d 935 [] [11] [(11,iv (w64 (s17.2+1)))] [] [] zB ?_
    refine zDz 4 1 (Nat.le_of_ble_eq_true rfl) (Nat.le_of_ble_eq_true rfl) ?_
    exact J_q (J_b (ih (v30,w64 (s17.2+1)))) rfl
   ·refine zU 24 (fun h27=>?_) (fun h27=>?_)
    ·refine zA (fun x28 h29=>?_)
     refine J_d 29902 [] [3,6,24] [(3,rr 4 x28)] [1,4] [(4,rE 1 jV x28)] (zM 2 (zDR 49 2 1 3 jV [x23] [0] [(.tmp 26)] [iv x23]) (zM 3 (zJC 49 49 2 2 1 8 4 1 3 jV (.tmp 25) (.tmp 27) h29) zB)) ?_
     exact xS (J_j (jv30 x28)) rfl
    ·refine zDz 1 4 (Nat.le_of_ble_eq_true rfl) (Nat.le_of_ble_eq_true rfl) ?_
     exact xS (J_j (jv30 s17.1)) rfl
  ·refine wZ (fun h25=>?_) (fun h25=>?_)
   ·refine J_d 14950 [] [5,24] [(24,bv ((x19.size:Int)==10))] [] [] (xX 2 [(19,bv (decide (x23≥1)))] [] h25 zB) ?_
    exact xS (J_j (jv26 ((x19.size:Int)==10))) rfl
   ·refine J_d 14950 [] [5,24] [(24,bv false)] [] [] (xX 2 [(19,bv (decide (x23≥1)))] [] h25 zB) ?_
    exact xS (J_j (jv26 false)) rfl
 ·exact xS (hk s17.1) rfl
theorem wN.ok (a1:zF):Ok Tryz.prog 95 [.ag (zF.enc false a1)] [] ((wN a1).map fun r=>(so 1 jV r,[])):=by
 refine zS c95 Tryz.f95 0 31 (fun q=>?_)
 unfold wN
 refine J_g 2 [(0,0)] [(1,pp 0)] [(0,.box (zF.enc false a1))] zB ?_
 refine J_d 6 [] [3] [(3,rr 1 ([]:List Int))] [1] [(1,rE 1 jV ([]:List Int))] (zM 0 (zDR 49 2 1 1 jV ([]:List Int) [] [] []) zB) ?_
 refine zA (fun x2 h3=>?_)
 refine J_d 28 [] [1,9,10,11] [(9,rr 2 x2),(10,iv (x2.length:Int)),(11,iv 0)] [0,2] [(2,rE 1 eStr x2)] (zM 1 (jC («as»:=[.ag (zF.enc false a1),sv (bs [103,101,110,47])]) [(.tmp 8),(.const (.string (bs [103,101,110,47])))] [29,9] false [] [] (.cons (.same rfl) (.cons (.same rfl) (.nil))) (vJ.ok a1 (bs [103,101,110,47])) h3 (.own 2)) zB) ?_
 refine zIz (uS.ok x2 q _ (fun v31=>J_j ?_) (([]:List Int),0))
 refine J_g 30 [] [(2,rr 1 v31)] [(1,rE 1 jV v31)] zB ?_
 exact zC7 (ds:=[rr 1 v31]) (ds':=[so 1 jV v31]) (.cons (.cell (.move (.head _) (List.length_map _) (by decide) (.nil))) (.nil) (by decide)) rfl
noncomputable def c160:Code:=(Tryz.f160.body).getD .skip
theorem wB.ok (a1:(List Int)) (a2:Int) (q:Wd) (kn:Unit→Option (D×List Ent)) (hk:∀v:Unit,J (q.g Tryz.prog 160 0 19) c160 (atI c160 7) (St.mk' [] []) (some v) kn):
  ∀s7:Int,J (q.g Tryz.prog 160 0 19) c160 (atI c160 52) (St.mk' [(0,sl 1 jV a1),(1,iv a2),(7,iv (a1.length:Int)),(8,iv s7)] []) (wB a1 a2 s7) (Fl.go (fun r:Int=>some (iv r,[])) kn):=by
 refine zC6 (fun g ih s7=>?_)
 unfold xR
 refine J_d 104 [] [9] [(9,bv (decide (s7< (a1.length:Int))))] [] [] zB ?_
 refine zU 9 (fun h8=>?_) (fun h8=>?_)
 ·refine J_d 1688 [] [5,9] [(5,iv s7)] [] [] zB ?_
  refine zA (fun x9 h10=>?_)
  refine J_d 3378 [] [16] [(16,bv (a2==x9))] [] [] (zM 3 (zFq (kk:=.i64) 49 2 1 jV (.tmp 12) (.tmp 13) h10) zB) ?_
  refine zU 16 (fun h11=>?_) (fun h11=>?_)
  ·refine J_g 13516 [] [(4,iv s7)] [] zB ?_
   exact xA rfl
  ·refine J_d 423 [] [5,8,16] [(8,iv (w64 (s7+1)))] [] [] zB ?_
   exact J_q (J_b (ih (w64 (s7+1)))) rfl
 ·exact xS (hk ()) rfl
theorem wJ.ok (a1:(List Int)) (a2:Int):Ok Tryz.prog 160 [sl 1 jV a1,iv a2] [] ((wJ a1 a2).map fun r=>(iv r,[])):=by
 refine zS c160 Tryz.f160 0 19 (fun q=>?_)
 unfold wJ
 refine J_g 2 [] [(0,sl 1 jV a1),(1,iv a2)] [] zB ?_
 refine J_d 12 [] [7,8] [(7,iv (a1.length:Int)),(8,iv 0)] [] [] zB ?_
 refine zBo (K0:=(fun r:Int=>some (iv r,[]))) (fun _=>rfl) (wB.ok a1 a2 q _ (fun v12=>J_j ?_) 0)
 refine J_g 14 [] [(4,iv (-1))] [] zB ?_
 exact xA rfl
noncomputable def c94:Code:=(Tryz.f94.body).getD .skip
theorem yP.ok (a1:(List Int)) (a2:Int):Ok Tryz.prog 94 [sl 1 jV a1,iv a2] [] ((yP a1 a2).map fun r=>(bv r,[])):=by
 refine zS c94 Tryz.f94 0 9 (fun q=>?_)
 unfold yP
 refine J_d 2 [] [] [] [] [] zB ?_
 refine zA (fun x3 h4=>?_)
 refine J_g 6 [] [(4,bv (decide (x3≥0)))] [] (zM 2 (wU [(.tmp 5),(.tmp 6)] [49,2] (wJ.ok a1 a2) h4) zB) ?_
 exact xA rfl
noncomputable def c46:Code:=(Tryz.f46.body).getD .skip
theorem vC.ok (a1:zF):Ok Tryz.prog 46 [.ag (zF.enc false a1)] [] ((vC a1).map fun r=>(.tu [iv r.1,iv r.2],[])):=by
 refine zS c46 Tryz.f46 0 25 (fun q=>?_)
 unfold vC
 refine J_g 2 [(0,0)] [(1,pp 0)] [(0,.box (zF.enc false a1))] zB ?_
 refine zA (fun x2 h3=>?_)
 refine J_d 6 [] [4,5] [(4,sl 1 eU8 x2.1),(5,bv x2.2)] [] [] (zM 1 (wU [(.tmp 8),(.const (.string (bs [99,117,114])))] [29,9] (yA.ok a1 (bs [99,117,114])) h3) zB) ?_
 refine zA (fun x4 h5=>?_)
 refine J_d 14 [] [4,6] [(6,iv x4)] [] [] (zM 1 (zKf (xs:=x2.1) 22 9 5 (.tmp 12)) (zM 2 (wU [(.tmp 13),(.const (.int .i64 6))] [9,3] (wV.ok (b2s x2.1) 6) h5) zB)) ?_
 refine xY (atI c46 61) (fun v11:Bool=>St.mk' [(6,iv x4),(23,bv v11)] []) (fun v11=>?_) (fun jv11=>?_)
 ·refine zU 23 (fun h12=>?_) (fun h12=>?_)
  ·refine J_g 244 [] [(2,iv 0),(3,iv 4)] [] zB ?_
   exact zHY rfl
  ·refine J_g 62 [] [(2,iv x4),(3,iv 0)] [] zB ?_
   exact zHY rfl
 ·refine wZ (fun h6=>?_) (fun h6=>?_)
  ·refine J_g 60 [] [(6,iv x4),(23,bv true)] [] (xX 2 [(16,bv (!x2.2))] [] h6 zB) ?_
   exact xS (J_j (jv11 true)) rfl
  ·refine zA (fun x7 h8=>?_)
   refine zA (fun x9 h10=>?_)
   refine J_g 60 [] [(6,iv x4),(23,bv (!x9))] [] (xX 2 [(16,bv (!x2.2))] [] h6 (zB8 4 2 17 false (jC («as»:=[.ag (zF.enc false a1)]) [(.tmp 18)] [29] false [] [] (.cons (.same rfl) (.nil)) (wN.ok a1) h8 (.own 1)) (zB8 6 2 17 false (jC («as»:=[rr 1 x7,iv x4]) [(.tmp 19),(.tmp 20)] [49,2] true [(1,rE 1 jV x7)] [] (.cons (zF7 (.head _) (fun _=>rfl) rfl) (.cons (.same rfl) (.nil))) (yP.ok x7 x4) h10 (.same rfl rfl) (hbor:=fun _=>⟨fhN,zW⟩)) zB))) ?_
   exact xS (J_j (jv11 (!x9))) rfl
noncomputable def c12:Code:=(Tryz.f12.body).getD .skip
theorem wQ.ok (a1:zF):Ok Tryz.prog 12 [.ag (zF.enc false a1)] [] ((wQ a1).map fun r=>(.ag (wX.enc r),[])):=by
 refine zS c12 Tryz.f12 0 20 (fun q=>?_)
 unfold wQ
 refine J_g 2 [(0,0),(1,1)] [(1,pp 0),(2,pp 1)] [(0,.box (zF.enc false a1)),(1,.box [iv 0,iv 0])] zB ?_
 refine zA (fun x2 h3=>?_)
 refine J_g 12 [] [(1,pp 0),(2,pp 1),(3,iv x2)] [(0,.box (zF.enc false a1)),(1,.box [iv 0,iv 0])] (zM 1 (wU [(.tmp 6)] [29] (yO.ok a1) h3) zB) ?_
 refine J_d 26 [] [9] [(9,bv (x2 !=0))] [] [] zB ?_
 refine zU 9 (fun h4=>?_) (fun h4=>?_)
 ·refine J_g 108 [] [(2,pp 1)] [(1,.box [iv x2,iv 0])] zB ?_
  exact xA rfl
 ·refine zA (fun x5 h6=>?_)
  refine J_g 14 [] [(2,pp 1),(4,iv x5.1),(5,iv x5.2)] [(1,.box [iv 0,iv 0])] (zM 1 (wU [(.tmp 13)] [29] (vC.ok a1) h6) zB) ?_
  refine J_g 30 [] [(2,pp 1)] [(1,.box [iv x5.2,iv x5.1])] zB ?_
  exact xA rfl
noncomputable def c47:Code:=(Tryz.f47.body).getD .skip
theorem uR.ok (x2:(List Int)) (q:Wd) (kn:Int→Option (D×List Ent)) (hk:∀v:Int,J (q.g Tryz.prog 47 0 19) c47 (atI c47 15) (St.mk' [(3,iv v)] []) (some v) kn):
  ∀s7:(Int×Int),J (q.g Tryz.prog 47 0 19) c47 (atI c47 116) (St.mk' [(3,iv s7.1),(7,rr 1 x2),(8,iv (x2.length:Int)),(9,iv s7.2)] [(1,rE 1 jV x2)]) (uR x2 s7) kn:=by
 refine zC6 (fun g ih s7=>?_)
 unfold vV
 refine J_d 232 [] [10] [(10,bv (decide (s7.2< (x2.length:Int))))] [] [] zB ?_
 refine zU 10 (fun h8=>?_) (fun h8=>?_)
 ·refine zA (fun x9 h10=>?_)
  refine J_g 3736 [] [(3,iv s7.1),(5,iv x9),(7,rr 1 x2),(8,iv (x2.length:Int)),(9,iv s7.2)] [(1,rE 1 jV x2)] (zM 0 (zBM (kk:=.i64) 49 2 1 1 jV (.tmp 7) (.tmp 9) h10) (zM 1 (zAZ (d:=iv x9) 2 1 1 0 jV (.tmp 11) h10 (by kernel_rfl)) zB)) ?_
  refine J_g 3737 [] [(3,iv (if (w64 (x9+1))>s7.1 then (w64 (x9+1)) else s7.1)),(7,rr 1 x2),(8,iv (x2.length:Int)),(9,iv s7.2)] [(1,rE 1 jV x2)] zB ?_
  refine J_d 935 [] [9] [(9,iv (w64 (s7.2+1)))] [] [] zB ?_
  exact J_q (J_b (ih ((if (w64 (x9+1))>s7.1 then (w64 (x9+1)) else s7.1),w64 (s7.2+1)))) rfl
 ·exact xS (hk s7.1) rfl
theorem wL.ok (a1:zF):Ok Tryz.prog 47 [.ag (zF.enc false a1)] [] ((wL a1).map fun r=>(iv r,[])):=by
 refine zS c47 Tryz.f47 0 19 (fun q=>?_)
 unfold wL
 refine J_g 2 [(0,0)] [(1,pp 0)] [(0,.box (zF.enc false a1))] zB ?_
 refine J_d 6 [] [3] [(3,iv 1)] [] [] zB ?_
 refine zA (fun x2 h3=>?_)
 refine J_g 28 [] [(3,iv 1),(7,rr 1 x2),(8,iv (x2.length:Int)),(9,iv 0)] [(1,rE 1 jV x2)] (zM 1 (jC («as»:=[.ag (zF.enc false a1)]) [(.tmp 6)] [29] false [] [] (.cons (.same rfl) (.nil)) (wN.ok a1) h3 (.own 1)) zB) ?_
 refine zIz (uR.ok x2 q _ (fun v11=>J_j ?_) (1,0))
 refine J_g 30 [] [(2,iv v11)] [] zB ?_
 exact xA rfl
noncomputable def c13:Code:=(Tryz.f13.body).getD .skip
theorem jH.ok (a1:zF):Ok Tryz.prog 13 [.ag (zF.enc false a1)] [] ((jH a1).map fun r=>(.ag (wX.enc r),[])):=by
 refine zS c13 Tryz.f13 0 20 (fun q=>?_)
 unfold jH
 refine J_g 2 [(0,0),(1,1)] [(1,pp 0),(2,pp 1)] [(0,.box (zF.enc false a1)),(1,.box [iv 0,iv 0])] zB ?_
 refine zA (fun x2 h3=>?_)
 refine J_d 6 [] [3] [(3,iv x2)] [] [] (zM 1 (wU [(.tmp 4)] [29] (yO.ok a1) h3) zB) ?_
 refine xY (atI c13 29) (fun v7:Bool=>St.mk' [(1,pp 0),(2,pp 1),(3,iv x2),(12,bv v7)] [(0,.box (zF.enc false a1)),(1,.box [iv 0,iv 0])]) (fun v7=>?_) (fun jv7=>?_)
 ·refine xY (atI c13 15) (fun v9:Int=>St.mk' [(1,pp 0),(2,pp 1),(3,iv v9)] [(0,.box (zF.enc false a1)),(1,.box [iv 0,iv 0])]) (fun v9=>?_) (fun jv9=>?_)
  ·refine J_d 60 [] [14] [(14,bv (v9 !=0))] [] [] zB ?_
   refine zU 14 (fun h10=>?_) (fun h10=>?_)
   ·refine J_g 244 [] [(2,pp 1)] [(1,.box [iv v9,iv 0])] zB ?_
    exact xA rfl
   ·refine zA (fun x11 h12=>?_)
    refine J_g 62 [] [(2,pp 1)] [(1,.box [iv 0,iv x11])] (zM 1 (wU [(.tmp 17)] [29] (wL.ok a1) h12) zB) ?_
    exact xA rfl
  ·refine zU 12 (fun h8=>?_) (fun h8=>?_)
   ·refine J_d 58 [] [3,12] [(3,iv 2)] [] [] zB ?_
    exact xS (J_j (jv9 2)) rfl
   ·exact xS (J_j (jv9 x2)) rfl
 ·refine wZ (fun h4=>?_) (fun h4=>?_)
  ·refine zA (fun x5 h6=>?_)
   refine J_d 28 [] [12] [(12,bv (decide (x5>999999)))] [] [] (xX 2 [(7,bv (x2==0))] [] h4 (zB8 4 2 8 true (wU [(.tmp 9)] [29] (wL.ok a1) h6) zB)) ?_
   exact xS (J_j (jv7 (decide (x5>999999)))) rfl
  ·refine J_d 28 [] [12] [(12,bv false)] [] [] (xX 2 [(7,bv (x2==0))] [] h4 zB) ?_
   exact xS (J_j (jv7 false)) rfl
noncomputable def c3:Code:=(Tryz.f3.body).getD .skip
theorem uO.ok (x5:(List Term)) (x12:zL) (x14:yE) (s49:Int) (q:Wd) (kn:Unit→Option (D×List Ent)) (hk:∀v:Unit,J (q.g Tryz.prog 3 0 119) c3 (aft c3 130980) (St.mk' [(3,rr 0 x5),(6,pp 4),(7,pp 6),(9,iv s49)] [(0,rE 7 Term.enc x5),(3,rE 2 (File.enc true) x12.zF.Files),(4,.box [iv x12.Code,rr 3 x12.zF.Files,iv x12.zF.Budget,iv x12.zF.Writes,iv x12.zF.Stop,bv x12.zF.Down]),(5,rE 7 Term.enc x14.Asks),(6,.box [iv x14.Code,rr 5 x14.Asks])]) (some v) kn):
  ∀s57:Int,J (q.g Tryz.prog 3 0 119) c3 (atI c3 1047844) (St.mk' [(3,rr 0 x5),(6,pp 4),(7,pp 6),(9,iv s49),(10,iv s57)] [(0,rE 7 Term.enc x5),(3,rE 2 (File.enc true) x12.zF.Files),(4,.box [iv x12.Code,rr 3 x12.zF.Files,iv x12.zF.Budget,iv x12.zF.Writes,iv x12.zF.Stop,bv x12.zF.Down]),(5,rE 7 Term.enc x14.Asks),(6,.box [iv x14.Code,rr 5 x14.Asks])]) (uO x5 x12 x14 s49 s57) (Fl.go (fun r:Bool=>some (bv r,[])) kn):=by
 refine zC6 (fun g ih s57=>?_)
 unfold tH
 refine J_d 4191376 [] [63] [(63,bv (decide (s57<s49)))] [] [] zB ?_
 refine zU 63 (fun h58=>?_) (fun h58=>?_)
 ·refine zA (fun x59 h60=>?_)
  refine zA (fun x61 h62=>?_)
  refine J_d 16765512 [] [63,76] [(76,bv (seq x59.Name x61.Name))] [] [] (zM 2 (zBM (kk:=.i64) 24 41 7 0 Term.enc (.tmp 66) (.tmp 67) h60) (zM 4 (zAZ (d:=sv x59.Name) 9 7 0 0 Term.enc (.tmp 69) h60 (by kernel_rfl)) (zM 7 (zBM (kk:=.i64) 24 41 7 0 Term.enc (.tmp 71) (.tmp 72) h62) (zM 9 (zAZ (d:=sv x61.Name) 9 7 0 0 Term.enc (.tmp 74) h62 (by kernel_rfl)) zB)))) ?_
  refine zU 76 (fun h63=>?_) (fun h63=>?_)
  ·refine J_g 67062052 [] [(2,bv (x14.Code==5))] [] zB ?_
   exact xA rfl
  ·refine J_d 4191379 [] [10,76] [(10,iv (w64 (s57+1)))] [] [] zB ?_
   exact J_q (J_b (ih (w64 (s57+1)))) rfl
 ·exact xS (hk ()) rfl
theorem uQ.ok (x5:(List Term)) (x12:zL) (x14:yE) (q:Wd) (kn:Unit→Option (D×List Ent)) (hk:∀v:Unit,J (q.g Tryz.prog 3 0 119) c3 (atI c3 8191) (St.mk' [(6,pp 4)] [(3,rE 2 (File.enc true) x12.zF.Files),(4,.box [iv x12.Code,rr 3 x12.zF.Files,iv x12.zF.Budget,iv x12.zF.Writes,iv x12.zF.Stop,bv x12.zF.Down])]) (some v) kn):
  ∀s75:Int,J (q.g Tryz.prog 3 0 119) c3 (atI c3 65524) (St.mk' [(3,rr 0 x5),(6,pp 4),(7,pp 6),(11,iv s75)] [(0,rE 7 Term.enc x5),(3,rE 2 (File.enc true) x12.zF.Files),(4,.box [iv x12.Code,rr 3 x12.zF.Files,iv x12.zF.Budget,iv x12.zF.Writes,iv x12.zF.Stop,bv x12.zF.Down]),(5,rE 7 Term.enc x14.Asks),(6,.box [iv x14.Code,rr 5 x14.Asks])]) (uQ x5 x12 x14 s75) (Fl.go (fun r:Bool=>some (bv r,[])) kn):=by
 refine zC6 (fun g ih s75=>?_)
 unfold jX
 refine J_d 262096 [] [94] [(94,bv (decide (s75< (x5.length:Int))))] [] [] zB ?_
 refine zU 94 (fun h76=>?_) (fun h76=>?_)
 ·refine zA (fun x77 h78=>?_)
  refine zA (fun x79 h80=>?_)
  refine J_d 1048392 [] [94,106] [(106,bv (!(seq x77.Name x79.Name&&((x77.Low.A==x79.Low.A&&(x77.Low.B==x79.Low.B&&(x77.Low.C==x79.Low.C&&true)))&&((x77.High.A==x79.High.A&&(x77.High.B==x79.High.B&&(x77.High.C==x79.High.C&&true)))&&true)))))] [] [] (zM 3 (zBM (kk:=.i64) 24 41 7 5 Term.enc (.tmp 98) (.tmp 99) h78) (zM 4 (zAZ (d:=.ag (Term.enc x77)) 41 7 5 0 Term.enc (.tmp 100) h78 (by kernel_rfl)) (zM 7 (zBM (kk:=.i64) 24 41 7 0 Term.enc (.tmp 102) (.tmp 103) h80) (zM 8 (zAZ (d:=.ag (Term.enc x79)) 41 7 0 0 Term.enc (.tmp 104) h80 (by kernel_rfl)) (zM 9 (zFy (b:=.neq) (r:=(seq x77.Name x79.Name&&((x77.Low.A==x79.Low.A&&(x77.Low.B==x79.Low.B&&(x77.Low.C==x79.Low.C&&true)))&&((x77.High.A==x79.High.A&&(x77.High.B==x79.High.B&&(x77.High.C==x79.High.C&&true)))&&true)))) 41 41 (.tmp 101) (.tmp 105) [.string x77.Name,.int .i64 x77.Low.A,.int .i64 x77.Low.B,.int .i64 x77.Low.C,.int .i64 x77.High.A,.int .i64 x77.High.B,.int .i64 x77.High.C] [.string x79.Name,.int .i64 x79.Low.A,.int .i64 x79.Low.B,.int .i64 x79.Low.C,.int .i64 x79.High.A,.int .i64 x79.High.B,.int .i64 x79.High.C] (.inr ⟨rfl,rfl⟩)) zB))))) ?_
  refine zU 106 (fun h81=>?_) (fun h81=>?_)
  ·refine J_g 4193572 [] [(2,bv false)] [] zB ?_
   exact xA rfl
  ·refine J_d 262099 [] [11,106] [(11,iv (w64 (s75+1)))] [] [] zB ?_
   exact J_q (J_b (ih (w64 (s75+1)))) rfl
 ·exact xS (hk ()) rfl
theorem jA.ok (x5:(List Term)) (x12:zL) (x14:yE) (q:Wd) (kn:Unit→Option (D×List Ent)) (hk:∀v:Unit,J (q.g Tryz.prog 3 0 119) c3 (atI c3 2047) (St.mk' [(3,rr 0 x5),(6,pp 4),(7,pp 6)] [(0,rE 7 Term.enc x5),(3,rE 2 (File.enc true) x12.zF.Files),(4,.box [iv x12.Code,rr 3 x12.zF.Files,iv x12.zF.Budget,iv x12.zF.Writes,iv x12.zF.Stop,bv x12.zF.Down]),(5,rE 7 Term.enc x14.Asks),(6,.box [iv x14.Code,rr 5 x14.Asks])]) (some v) kn):
  ∀s49:Int,J (q.g Tryz.prog 3 0 119) c3 (atI c3 16372) (St.mk' [(3,rr 0 x5),(6,pp 4),(7,pp 6),(9,iv s49)] [(0,rE 7 Term.enc x5),(3,rE 2 (File.enc true) x12.zF.Files),(4,.box [iv x12.Code,rr 3 x12.zF.Files,iv x12.zF.Budget,iv x12.zF.Writes,iv x12.zF.Stop,bv x12.zF.Down]),(5,rE 7 Term.enc x14.Asks),(6,.box [iv x14.Code,rr 5 x14.Asks])]) (jA x5 x12 x14 s49) (Fl.go (fun r:Bool=>some (bv r,[])) kn):=by
 refine zC6 (fun g ih s49=>?_)
 unfold uY
 refine J_d 65488 [] [58] [(58,bv (decide (s49< (x5.length:Int))))] [] [] zB ?_
 refine zU 58 (fun h50=>?_) (fun h50=>?_)
 ·refine J_d 261960 [] [10,58] [(10,iv 0)] [] [] zB ?_
  refine zBo (K0:=(fun r:Bool=>some (bv r,[]))) (fun _=>rfl) (uO.ok x5 x12 x14 s49 q _ (fun v64=>J_j ?_) 0)
  refine J_d 65491 [] [9] [(9,iv (w64 (s49+1)))] [] [] zB ?_
  exact J_q (J_b (ih (w64 (s49+1)))) rfl
 ·exact xS (hk ()) rfl
theorem jJ.ok (x5:(List Term)) (x7:ByteArray) (x12:zL) (x14:yE) (q:Wd) (kn:Unit→Option (D×List Ent)) (hk:∀v:Unit,J (q.g Tryz.prog 3 0 119) c3 (atI c3 1023) (St.mk' [(3,rr 0 x5),(6,pp 4),(7,pp 6)] [(0,rE 7 Term.enc x5),(3,rE 2 (File.enc true) x12.zF.Files),(4,.box [iv x12.Code,rr 3 x12.zF.Files,iv x12.zF.Budget,iv x12.zF.Writes,iv x12.zF.Stop,bv x12.zF.Down]),(5,rE 7 Term.enc x14.Asks),(6,.box [iv x14.Code,rr 5 x14.Asks])]) (some v) kn):
  ∀s24:Int,J (q.g Tryz.prog 3 0 119) c3 (atI c3 8180) (St.mk' [(3,rr 0 x5),(4,sv x7),(6,pp 4),(7,pp 6),(8,iv s24)] [(0,rE 7 Term.enc x5),(3,rE 2 (File.enc true) x12.zF.Files),(4,.box [iv x12.Code,rr 3 x12.zF.Files,iv x12.zF.Budget,iv x12.zF.Writes,iv x12.zF.Stop,bv x12.zF.Down]),(5,rE 7 Term.enc x14.Asks),(6,.box [iv x14.Code,rr 5 x14.Asks])]) (jJ x5 x7 x12 x14 s24) (Fl.go (fun r:Bool=>some (bv r,[])) kn):=by
 refine zC6 (fun g ih s24=>?_)
 unfold tC
 refine J_d 32720 [] [33] [(33,bv (decide (s24< (x5.length:Int))))] [] [] zB ?_
 refine zU 33 (fun h25=>?_) (fun h25=>?_)
 ·refine zA (fun x26 h27=>?_)
  refine zA (fun x28 h29=>?_)
  refine J_d 130888 [] [33,41] [(41,bv (x28 !=0))] [] [] (zM 2 (zBM (kk:=.i64) 24 41 7 0 Term.enc (.tmp 36) (.tmp 37) h27) (zM 3 (zAZ (d:=.ag (Term.enc x26)) 41 7 0 0 Term.enc (.tmp 38) h27 (by kernel_rfl)) (zM 4 (wU [(.tmp 39)] [41] (uJ.ok x26) h29) zB))) ?_
  refine zU 41 (fun h30=>?_) (fun h30=>?_)
  ·refine wZ (fun h31=>?_) (fun h31=>?_)
   ·refine wZ (fun h32=>?_) (fun h32=>?_)
    ·refine J_g 523556 [] [(2,bv ((x14.Asks.length:Int)==0))] [] (xX 2 [(43,bv (seq x7 (bs [])))] [] h31 (xX 7 [(48,bv (x14.Code==0))] [] h32 zB)) ?_
     exact xA rfl
    ·refine J_g 523556 [] [(2,bv false)] [] (xX 2 [(43,bv (seq x7 (bs [])))] [] h31 (xX 7 [(48,bv (x14.Code==0))] [] h32 zB)) ?_
     exact xA rfl
   ·refine J_g 523556 [] [(2,bv false)] [] (xX 2 [(43,bv (seq x7 (bs [])))] [] h31 zB) ?_
    exact xA rfl
  ·refine J_d 32723 [] [8,41] [(8,iv (w64 (s24+1)))] [] [] zB ?_
   exact J_q (J_b (ih (w64 (s24+1)))) rfl
 ·exact xS (hk ()) rfl
theorem uU.ok (a1:(List Int)):Ok Tryz.prog 3 [sl 1 eU8 a1] [] ((uU a1).map fun r=>(bv r,[])):=by
 refine zS c3 Tryz.f3 0 119 (fun q=>?_)
 unfold uU
 refine J_g 2 [] [(0,sl 1 eU8 a1)] [] zB ?_
 refine zA (fun x2 h3=>?_)
 refine J_g 12 [] [(0,sl 1 eU8 a1),(13,bv x2)] [] (zM 1 (wU [(.tmp 12)] [22] (kE.ok a1) h3) zB) ?_
 refine zU 13 (fun h4=>?_) (fun h4=>?_)
 ·refine J_g 52 [] [(2,bv true)] [] zB ?_
  exact xA rfl
 ·refine zA (fun x5 h6=>?_)
  refine J_g 14 [] [(3,rr 0 x5)] [(0,rE 7 Term.enc x5)] (zM 1 (jC («as»:=[sl 1 eU8 a1]) [(.tmp 14)] [22] false [] [] (.cons (.same rfl) (.nil)) (xP.ok a1) h6 (.own 0)) zB) ?_
  refine zA (fun x7 h8=>?_)
  refine J_d 30 [] [4] [(4,sv x7)] [] [] (zM 1 (jC («as»:=[rr 0 x5]) [(.tmp 16)] [24] true [(0,rE 7 Term.enc x5)] [] (.cons (zF7 (.head _) (fun _=>rfl) rfl) (.nil)) (yU.ok x5) h8 (.same rfl rfl) (hbor:=fun _=>⟨fhN,zW⟩)) zB) ?_
  refine zA (fun x9 h10=>?_)
  refine J_g 62 [(1,2)] [(3,rr 0 x5),(4,sv x7),(5,pp 2)] [(0,rE 7 Term.enc x5),(1,rE 2 (File.enc true) x9.zF.Files),(2,.box [iv x9.Code,rr 1 x9.zF.Files,iv x9.zF.Budget,iv x9.zF.Writes,iv x9.zF.Stop,bv x9.zF.Down])] (zM 0 (jC («as»:=[iv 20000]) [(.const (.int .i64 20000))] [2] false [] [] (.cons (.same rfl) (.nil)) (uV.ok 20000) h10 (.ag (.cons (.same rfl rfl) (.cons (.own 1) (.cons (.same rfl rfl) (.cons (.same rfl rfl) (.cons (.same rfl rfl) (.cons (.same rfl rfl) (.nil))))))))) zB) ?_
  refine J_d 252 [] [21] [(21,bv (x9.Code !=0))] [] [] zB ?_
  refine zU 21 (fun h11=>?_) (fun h11=>?_)
  ·refine J_g 1012 [] [(2,bv false)] [] zB ?_
   exact xA rfl
  ·refine zA (fun x12 h13=>?_)
   refine J_d 254 [(5,4)] [5,6,21] [(6,pp 4)] [1,2,3,4] [(3,rE 2 (File.enc true) x12.zF.Files),(4,.box [iv x12.Code,rr 3 x12.zF.Files,iv x12.zF.Budget,iv x12.zF.Writes,iv x12.zF.Stop,bv x12.zF.Down])] (zM 3 (zKC (s:=x7) 9 22 5 (.tmp 24)) (zM 4 (jC («as»:=[.ag [rr 1 x9.zF.Files,iv x9.zF.Budget,iv x9.zF.Writes,iv x9.zF.Stop,bv x9.zF.Down],sv (bs [114,111,111,116,115]),sl 1 eU8 (s2b x7)]) [(.tmp 23),(.const (.string (bs [114,111,111,116,115]))),(.tmp 25)] [29,9,22] true [(1,rE 2 (File.enc true) x9.zF.Files)] [] (.cons (.ag (.cons (zF7 (.head _) (File.ro true) rfl) (.cons (.same rfl) (.cons (.same rfl) (.cons (.same rfl) (.cons (.same rfl) (.nil))))))) (.cons (.same rfl) (.cons (.same rfl) (.nil)))) (uK.ok x9.zF (bs [114,111,111,116,115]) (s2b x7)) h13 (.ag (.cons (.same rfl rfl) (.cons (.own 3) (.cons (.same rfl rfl) (.cons (.same rfl rfl) (.cons (.same rfl rfl) (.cons (.same rfl rfl) (.nil)))))))) (hbor:=fun _=>⟨fhN,(zDu (zL.fl _))⟩)) zB)) ?_
   refine zA (fun x14 h15=>?_)
   refine J_g 510 [(3,6)] [(3,rr 0 x5),(4,sv x7),(6,pp 4),(7,pp 6)] [(0,rE 7 Term.enc x5),(3,rE 2 (File.enc true) x12.zF.Files),(4,.box [iv x12.Code,rr 3 x12.zF.Files,iv x12.zF.Budget,iv x12.zF.Writes,iv x12.zF.Stop,bv x12.zF.Down]),(5,rE 7 Term.enc x14.Asks),(6,.box [iv x14.Code,rr 5 x14.Asks])] (zM 2 (jC («as»:=[.ag [rr 3 x12.zF.Files,iv x12.zF.Budget,iv x12.zF.Writes,iv x12.zF.Stop,bv x12.zF.Down]]) [(.tmp 28)] [29] true [(3,rE 2 (File.enc true) x12.zF.Files)] [] (.cons (.ag (.cons (zF7 (.head _) (File.ro true) rfl) (.cons (.same rfl) (.cons (.same rfl) (.cons (.same rfl) (.cons (.same rfl) (.nil))))))) (.nil)) (tY.ok x12.zF) h15 (.ag (.cons (.same rfl rfl) (.cons (.own 5) (.nil)))) (hbor:=fun _=>⟨fhN,(zDu (yE.fl _))⟩)) zB) ?_
   refine J_d 2044 [] [8] [(8,iv 0)] [] [] zB ?_
   refine zBo (K0:=(fun r:Bool=>some (bv r,[]))) (fun _=>rfl) (jJ.ok x5 x7 x12 x14 q _ (fun v33=>J_j ?_) 0)
   refine J_d 4092 [] [9] [(9,iv 0)] [] [] zB ?_
   refine zBo (K0:=(fun r:Bool=>some (bv r,[]))) (fun _=>rfl) (jA.ok x5 x12 x14 q _ (fun v65=>J_j ?_) 0)
   refine xY (atI c3 8189) (fun v67:Bool=>St.mk' [(3,rr 0 x5),(6,pp 4),(7,pp 6),(90,bv v67)] [(0,rE 7 Term.enc x5),(3,rE 2 (File.enc true) x12.zF.Files),(4,.box [iv x12.Code,rr 3 x12.zF.Files,iv x12.zF.Budget,iv x12.zF.Writes,iv x12.zF.Stop,bv x12.zF.Down]),(5,rE 7 Term.enc x14.Asks),(6,.box [iv x14.Code,rr 5 x14.Asks])]) (fun v67=>?_) (fun jv67=>?_)
   ·refine zU 90 (fun h68=>?_) (fun h68=>?_)
    ·refine J_g 32756 [] [(2,bv false)] [] zB ?_
     exact xA rfl
    ·refine J_d 16380 [] [11,90] [(11,iv 0)] [] [] zB ?_
     refine zBo (K0:=(fun r:Bool=>some (bv r,[]))) (fun _=>rfl) (uQ.ok x5 x12 x14 q _ (fun v82=>J_j ?_) 0)
     refine zA (fun x83 h84=>?_)
     refine wZ (fun h85=>?_) (fun h85=>?_)
     ·refine zA (fun x86 h87=>?_)
      refine J_g 16382 [] [(2,bv (x86.Value==2))] [] (zM 2 (jC («as»:=[.ag [rr 3 x12.zF.Files,iv x12.zF.Budget,iv x12.zF.Writes,iv x12.zF.Stop,bv x12.zF.Down]]) [(.tmp 108)] [29] true [(3,rE 2 (File.enc true) x12.zF.Files)] [] (.cons (.ag (.cons (zF7 (.head _) (File.ro true) rfl) (.cons (.same rfl) (.cons (.same rfl) (.cons (.same rfl) (.cons (.same rfl) (.nil))))))) (.nil)) (wQ.ok x12.zF) h84 (.ag (.cons (.same rfl rfl) (.cons (.same rfl rfl) (.nil)))) (hbor:=fun _=>⟨fhN,(zDu (wX.fl _))⟩)) (xX 5 [(111,bv (x83.Value==1))] [] h85 (zB8 8 5 112 true (jC («as»:=[.ag [rr 3 x12.zF.Files,iv x12.zF.Budget,iv x12.zF.Writes,iv x12.zF.Stop,bv x12.zF.Down]]) [(.tmp 114)] [29] true [(3,rE 2 (File.enc true) x12.zF.Files)] [] (.cons (.ag (.cons (zF7 (.head _) (File.ro true) rfl) (.cons (.same rfl) (.cons (.same rfl) (.cons (.same rfl) (.cons (.same rfl) (.nil))))))) (.nil)) (jH.ok x12.zF) h87 (.ag (.cons (.same rfl rfl) (.cons (.same rfl rfl) (.nil)))) (hbor:=fun _=>⟨fhN,(zDu (wX.fl _))⟩)) zB))) ?_
      exact xA rfl
     ·refine J_g 16382 [] [(2,bv false)] [] (zM 2 (jC («as»:=[.ag [rr 3 x12.zF.Files,iv x12.zF.Budget,iv x12.zF.Writes,iv x12.zF.Stop,bv x12.zF.Down]]) [(.tmp 108)] [29] true [(3,rE 2 (File.enc true) x12.zF.Files)] [] (.cons (.ag (.cons (zF7 (.head _) (File.ro true) rfl) (.cons (.same rfl) (.cons (.same rfl) (.cons (.same rfl) (.cons (.same rfl) (.nil))))))) (.nil)) (wQ.ok x12.zF) h84 (.ag (.cons (.same rfl rfl) (.cons (.same rfl rfl) (.nil)))) (hbor:=fun _=>⟨fhN,(zDu (wX.fl _))⟩)) (xX 5 [(111,bv (x83.Value==1))] [] h85 zB)) ?_
      exact xA rfl
   ·refine wZ (fun h66=>?_) (fun h66=>?_)
    ·refine J_d 8188 [] [90] [(90,bv true)] [] [] (xX 3 [(82,bv (x14.Code !=0))] [] h66 zB) ?_
     exact xS (J_j (jv67 true)) rfl
    ·refine J_d 8188 [] [90] [(90,bv ((x14.Asks.length:Int) !=(x5.length:Int)))] [] [] (xX 3 [(82,bv (x14.Code !=0))] [] h66 zB) ?_
     exact xS (J_j (jv67 ((x14.Asks.length:Int) !=(x5.length:Int)))) rfl
end Go.Told

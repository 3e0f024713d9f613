import Derived.Test.YtghacmkpcjdpjaaToldFnFiles
import Derived.Test.YtghacmkpcjdpjaaShelfFnFiles
import Derived.Test.YtghacmkpcjdpjaaProg
import Derived.Deep.LoopGhost
import Derived.Deep.RegionLaw
import Derived.Laws.Externs
import Derived.Laws.IdiomCopy
import Derived.Laws.NewBlocks
import Derived.Lib.AppendZeros
import Derived.Lib.AppendZerosOnto
import Derived.Lib.JoinLaws
import Derived.Lib.Overlaps
import Derived.Lib.SliceRun
import Derived.Lib.SlicesDelete
import Derived.Lib.Walk
import Derived.Shelf.Lays2
import Derived.Shelf.RegionOpenPlain
import Derived.Shelf.Spec.SlicesInsert
import Derived.Sort.WalkB12
import Derived.WalkKit
set_option linter.unusedVariables false
set_option maxRecDepth 4000
namespace Go.Told
open Go Go.Im Go.Proofs
noncomputable def c4:Code:=(Try.f4.body).getD .skip
theorem uQ.ok (a1:(List Int)):Ok Try.prog 4 [sl 1 eU8 a1] [] ((uQ a1).map fun r=>(bv r,[])):=by
 refine zS c4 Try.f4 0 6 (fun q=>?_)
 unfold uQ
 refine J_g 2 [] [(0,sl 1 eU8 a1)] [] zC ?_
 refine J_g 6 [] [(2,bv (decide ((a1.length:Int)>1048576)))] [] zC ?_
 exact xI rfl
noncomputable def c17:Code:=(Try.f17.body).getD .skip
theorem uE.ok (a1:(List Int)):Ok Try.prog 17 [sl 1 eU8 a1] [] ((uE a1).map fun r=>(.po [sl 1 eU8 r.Code,iv r.At],[])):=by
 refine zS c17 Try.f17 0 6 (fun q=>?_)
 unfold uE
 refine J_g 2 [] [(0,sl 1 eU8 a1)] [] zC ?_
 refine J_g 6 [(2,0)] [(2,pp 0)] [(0,.box [sl 1 eU8 a1,iv 0])] zC ?_
 exact jS (ds:=[pp 0]) (ds':=[.po [sl 1 eU8 a1,iv 0]]) (.cons (.po (.head _)) (.nil) (by decide)) rfl
noncomputable def c21:Code:=(Try.f21.body).getD .skip
theorem zM.ok (a1:zL) (a2:Int):Ok Try.prog 21 [pp 0,iv a2] [.box (zL.enc false a1)] ((zM a1 a2).map fun r=>(iv r.1,[.box (zL.enc false r.2)])):=by
 refine zS c21 Try.f21 1 71 (fun q=>?_)
 unfold zM
 refine J_g 2 [] [(0,pp 0),(1,iv a2)] [(0,.box (zL.enc false a1))] zC ?_
 refine J_g 6 [] [(0,pp 0),(1,iv a2)] [(0,.box [sl 1 eU8 a1.Code,iv (w64 (a1.At+1))])] zC ?_
 refine J_d 28 [] [17] [(17,bv (decide (a2<1)))] [] [] zC ?_
 refine zU 17 (fun h3=>?_) (fun h3=>?_)
 ·refine J_d 116 [] [0,1,4,17] [(4,iv 0)] [] [] zC ?_
  exact xI rfl
 ·refine J_g 30 [] [(0,pp 0),(1,iv a2),(5,iv (w64 ((w64 (a1.At+1))-1)))] [(0,.box [sl 1 eU8 a1.Code,iv (w64 (a1.At+1))])] zC ?_
  refine J_g 62 [] [(0,pp 0),(1,iv a2),(5,iv (w64 ((w64 (a1.At+1))-1))),(6,iv (a1.Code.length:Int))] [(0,.box [sl 1 eU8 a1.Code,iv (w64 (a1.At+1))])] zC ?_
  refine J_d 252 [] [29] [(29,bv ((a1.Code.length:Int)==0))] [] [] zC ?_
  refine zU 29 (fun h4=>?_) (fun h4=>?_)
  ·refine zB (fun x5 h6=>?_)
   refine J_d 1012 [] [0,1,4,5,6,29] [(4,iv x5)] [] [] (zP 3 (zDT (k:=.i64) 2 2 (.tmp 31) (.tmp 32) h6) zC) ?_
   exact xI rfl
  ·refine zB (fun x7 h8=>?_)
   refine zB (fun x9 h10=>?_)
   refine zB (fun x11 h12=>?_)
   refine J_g 254 [] [(0,pp 0),(1,iv a2),(5,iv (w64 ((w64 (a1.At+1))-1))),(6,iv (a1.Code.length:Int)),(7,iv (w64 ((w64 (x9))+(w64 (x11*37)))))] [(0,.box [sl 1 eU8 a1.Code,iv (w64 (a1.At+1))])] (zP 6 (zDT (k:=.i64) 2 2 (.tmp 38) (.tmp 39) h8) (zP 7 (zBl (kk:=.i64) 22 5 1 eU8 (.tmp 37) (.tmp 40) h10) (zP 12 (zFA (k:=.i64) 2 2 (.tmp 44) (.tmp 45) h12) zC))) ?_
   refine J_d 1020 [] [50] [(50,bv (decide (a2>200)))] [] [] zC ?_
   refine xV (atI c21 511) (fun v18:Int=>St.mk' [(1,iv a2),(7,iv v18)] [(0,.box [sl 1 eU8 a1.Code,iv (w64 (a1.At+1))])]) (fun v18=>?_) (fun jv18=>?_)
   ·refine zB (fun x19 h20=>?_)
    refine J_d 1022 [] [1,4,7] [(4,iv x19)] [] [] (zP 2 (zDT (k:=.i64) 2 2 (.tmp 68) (.tmp 69) h20) zC) ?_
    exact xI rfl
   ·refine zU 50 (fun h13=>?_) (fun h13=>?_)
    ·refine zB (fun x14 h15=>?_)
     refine zB (fun x16 h17=>?_)
     refine J_d 2042 [] [0,5,6,7,50] [(7,iv (w64 ((w64 ((w64 ((w64 ((w64 (x9))+(w64 (x11*37))))*251))+(w64 ((w64 (x16))*13))))+(w64 ((w64 (a1.At+1))-1)))))] [] [] (zP 9 (zDT (k:=.i64) 2 2 (.tmp 58) (.tmp 59) h15) (zP 10 (zBl (kk:=.i64) 22 5 1 eU8 (.tmp 56) (.tmp 60) h17) zC)) ?_
     exact xZ (J_j (jv18 (w64 ((w64 ((w64 ((w64 ((w64 (x9))+(w64 (x11*37))))*251))+(w64 ((w64 (x16))*13))))+(w64 ((w64 (a1.At+1))-1)))))) rfl
    ·exact xZ (J_j (jv18 (w64 ((w64 (x9))+(w64 (x11*37)))))) rfl
noncomputable def c20:Code:=(Try.f20.body).getD .skip
theorem yL.ok (a1:zL) (a2:(List Int)):Ok Try.prog 20 [pp 0,rr 1 a2] [.box (zL.enc false a1),rE 1 zBJ a2] ((yL a1 a2).map fun r=>(iv r.1,[.box (zL.enc false r.2),rE 1 zBJ a2])):=by
 refine zS c20 Try.f20 2 12 (fun q=>?_)
 unfold yL
 refine J_d 2 [] [] [] [] [] zC ?_
 refine zB (fun x3 h4=>?_)
 refine zB (fun x5 h6=>?_)
 refine J_g 6 [] [(4,iv x5)] [(0,.box (zL.enc false x3.2)),(1,rE 1 zBJ a2)] (zP 4 (wH («as»:=[pp 0,iv (a2.length:Int)]) [(.tmp 6),(.tmp 8)] [48,2] false [(0,.box (zL.enc false a1))] [0] (.cons (.pt rfl) (.cons (.same rfl) (.nil))) (zM.ok a1 (a2.length:Int)) h4 (.same rfl rfl)) (zP 5 (zAf (kk:=.i64) 75 2 1 1 zBJ (.tmp 5) (.tmp 9) h6) (zP 6 (zBt (d:=iv x5) 2 1 1 0 zBJ (.tmp 10) h6 (by kernel_rfl)) zC))) ?_
 exact xI rfl
noncomputable def c30:Code:=(Try.f30.body).getD .skip
theorem xP.ok (a1:Int) (a2:Int) (a3:Int):Ok Try.prog 30 [iv a1,iv a2,iv a3] [] ((xP a1 a2 a3).map fun r=>(bv r,[])):=by
 refine zS c30 Try.f30 0 15 (fun q=>?_)
 unfold xP
 refine J_d 2 [] [] [] [] [] zC ?_
 refine xK (fun h4=>?_) (fun h4=>?_)
 ·refine J_g 6 [] [(6,bv (decide (a1≤a3)))] [] (yQ 3 [(9,bv (decide (a1≥a2)))] [] h4 zC) ?_
  exact xI rfl
 ·refine J_g 6 [] [(6,bv false)] [] (yQ 3 [(9,bv (decide (a1≥a2)))] [] h4 zC) ?_
  exact xI rfl
noncomputable def c46:Code:=(Try.f46.body).getD .skip
theorem vF.ok (a1:Int):Ok Try.prog 46 [iv a1] [] ((vF a1).map fun r=>(.ag (zG.enc true r),[])):=by
 refine zS c46 Try.f46 0 10 (fun q=>?_)
 unfold vF
 refine J_g 2 [(0,0)] [(0,iv a1),(2,pp 0)] [(0,.box [iv 0,nv,iv 0,iv 0,iv 0,bv false])] zC ?_
 refine zB (fun x2 h3=>?_)
 refine J_d 12 [] [5] [(5,bv (!x2))] [] [] (zP 1 (tJ [(.tmp 3),(.const (.int .i64 0)),(.const (.int .i64 20000))] [2,2,2] (xP.ok a1 0 20000) h3) zC) ?_
 refine zU 5 (fun h4=>?_) (fun h4=>?_)
 ·refine J_g 52 [] [(2,pp 0)] [(0,.box [iv 3,nv,iv 0,iv 0,iv 0,bv false])] zC ?_
  exact jS (ds:=[.ag [iv 3,nv,iv 0,iv 0,iv 0,bv false]]) (ds':=[.ag [iv 3,so 2 (File.enc true) ([]:List File),iv 0,iv 0,iv 0,bv false]]) (.cons (.ag (.keep rfl (.nilsl true 2 (.keep rfl (.keep rfl (.keep rfl (.keep rfl (.nil)))))))) (.nil) (by decide)) rfl
 ·refine J_g 14 [] [(2,pp 0)] [(0,.box [iv 0,nv,iv a1,iv 0,iv (-1),bv false])] zC ?_
  exact jS (ds:=[.ag [iv 0,nv,iv a1,iv 0,iv (-1),bv false]]) (ds':=[.ag [iv 0,so 2 (File.enc true) ([]:List File),iv a1,iv 0,iv (-1),bv false]]) (.cons (.ag (.keep rfl (.nilsl true 2 (.keep rfl (.keep rfl (.keep rfl (.keep rfl (.nil)))))))) (.nil) (by decide)) rfl
noncomputable def c47:Code:=(Try.f47.body).getD .skip
theorem vC.ok (a1:zL):Ok Try.prog 47 [pp 0] [.box (zL.enc false a1)] ((vC a1).map fun r=>(sv r.1,[.box (zL.enc false r.2)])):=by
 refine zS c47 Try.f47 1 8 (fun q=>?_)
 unfold vC
 refine J_d 2 [] [] [] [] [] zC ?_
 refine zB (fun x2 h3=>?_)
 refine zB (fun x4 h5=>?_)
 refine J_g 6 [] [(2,sv x4)] [(0,.box (zL.enc false x2.2))] (zP 0 (zAN 44 9 1 1 eStr [bs [97],bs [98,47,99],bs [99,117,114],bs [103,101,110,47,48,48,48,48,48,49],bs [112,107,103,47,97,45,49,46,48,46,48],bs [112,108,97,110],bs [120,95,49]] [0,1,2,3,4,5,6] [(.const (.string (bs [97]))),(.const (.string (bs [98,47,99]))),(.const (.string (bs [99,117,114]))),(.const (.string (bs [103,101,110,47,48,48,48,48,48,49]))),(.const (.string (bs [112,107,103,47,97,45,49,46,48,46,48]))),(.const (.string (bs [112,108,97,110]))),(.const (.string (bs [120,95,49])))] [sv (bs [97]),sv (bs [98,47,99]),sv (bs [99,117,114]),sv (bs [103,101,110,47,48,48,48,48,48,49]),sv (bs [112,107,103,47,97,45,49,46,48,46,48]),sv (bs [112,108,97,110]),sv (bs [120,95,49])]) (zP 2 (wH («as»:=[pp 0,iv 7]) [(.tmp 4),(.const (.int .i64 7))] [48,2] false [(0,.box (zL.enc false a1))] [0] (.cons (.pt rfl) (.cons (.same rfl) (.nil))) (zM.ok a1 7) h3 (.same rfl rfl)) (zP 3 (zAf (kk:=.i64) 44 9 1 1 eStr (.tmp 3) (.tmp 5) h5) (zP 4 (zBt (d:=sv x4) 9 1 1 0 eStr (.tmp 6) h5 (by kernel_rfl)) zC)))) ?_
 exact xI rfl
noncomputable def c24:Code:=(Try.f24.body).getD .skip
theorem uJ.ok (q:Wd) (kn:((List Int)×Int×(List Int))→Option (D×List Ent)) (hk:∀v:((List Int)×Int×(List Int)),J (q.g Try.prog 24 1 18) c24 (atI c24 15) (St.mk' [(5,rr 1 v.2.2)] [(0,.box [sl 1 eU8 v.1,iv v.2.1]),(1,rE 1 eU8 v.2.2)]) (some v) kn):
  ∀s8:((List Int)×Int×Int×(List Int)),J (q.g Try.prog 24 1 18) c24 (atI c24 56) (St.mk' [(0,pp 0),(1,iv s8.2.2.1),(5,rr 1 s8.2.2.2)] [(0,.box [sl 1 eU8 s8.1,iv s8.2.1]),(1,rE 1 eU8 s8.2.2.2)]) (uJ s8) kn:=by
 refine zBg (fun g ih s8=>?_)
 unfold uD
 refine J_d 224 [] [8] [(8,bv (decide (s8.2.2.1>0)))] [] [] zC ?_
 refine zU 8 (fun h9=>?_) (fun h9=>?_)
 ·refine zB (fun x10 h11=>?_)
  refine zB (fun x12 h13=>?_)
  refine J_g 452 [] [(0,pp 0),(1,iv s8.2.2.1),(5,rr 3 x12)] [(0,.box (zL.enc false x10.2)),(3,rE 1 eU8 x12)] (zP 2 (wH («as»:=[pp 0,iv 256]) [(.tmp 12),(.const (.int .i64 256))] [48,2] false [(0,.box [sl 1 eU8 s8.1,iv s8.2.1])] [0] (.cons (.pt rfl) (.cons (.same rfl) (.nil))) (zM.ok ({Code:=s8.1,At:=s8.2.1}:zL) 256) h11 (.same rfl rfl)) (zP 4 (zAN 22 5 1 2 eU8 [IntKind.u8.wrap (x10.1)] [0] [(.tmp 14)] [uv (IntKind.u8.wrap (x10.1))]) (zP 5 (zEg 22 22 5 5 1 1 3 1 2 eU8 (.tmp 11) (.tmp 15) h13) zC))) ?_
  refine J_d 227 [] [1] [(1,iv (w64 (s8.2.2.1-1)))] [] [] zC ?_
  refine zAT 3 1 (Nat.le_of_ble_eq_true rfl) (Nat.le_of_ble_eq_true rfl) ?_
  exact J_q (J_b (ih (x10.2.Code,x10.2.At,w64 (s8.2.2.1-1),x12))) rfl
 ·exact xZ (hk (s8.1,s8.2.1,s8.2.2.2)) rfl
theorem wR.ok (a1:zL) (a2:Int):Ok Try.prog 24 [pp 0,iv a2] [.box (zL.enc false a1)] ((wR a1 a2).map fun r=>(so 1 eU8 r.1,[.box (zL.enc false r.2)])):=by
 refine zS c24 Try.f24 1 18 (fun q=>?_)
 unfold wR
 refine J_g 2 [] [(0,pp 0),(1,iv a2)] [(0,.box (zL.enc false a1))] zC ?_
 refine J_d 6 [] [5] [(5,rr 1 ([]:List Int))] [1] [(1,rE 1 eU8 ([]:List Int))] (zP 0 (zAN 22 5 1 1 eU8 ([]:List Int) [] [] []) zC) ?_
 refine zDi (uJ.ok q _ (fun v14=>J_j ?_) (a1.Code,a1.At,a2,([]:List Int)))
 refine J_g 30 [] [(4,rr 1 v14.2.2)] [(0,.box [sl 1 eU8 v14.1,iv v14.2.1]),(1,rE 1 eU8 v14.2.2)] zC ?_
 exact jS (ds:=[rr 1 v14.2.2]) (ds':=[so 1 eU8 v14.2.2]) (.cons (.cell (.move (.tail _ (.head _)) (List.length_map _) (by decide) (.nil))) (.nil) (by decide)) rfl
noncomputable def c36:Code:=(Try.f36.body).getD .skip
theorem zAI.ok (a1:zA) (a2:ByteArray) (q:Wd) (kn:Unit→Option (D×List Ent)) (hk:∀v:Unit,J (q.g Try.prog 36 1 26) c36 (atI c36 7) (St.mk' [] [(0,.box [rr 1 a1.Files,iv a1.Budget,iv a1.Writes,iv a1.Stop,bv a1.Down]),(1,rE 2 (File.enc true) a1.Files)]) (some v) kn):
  ∀s7:Int,J (q.g Try.prog 36 1 26) c36 (atI c36 52) (St.mk' [(0,pp 0),(1,sv a2),(5,iv s7)] [(0,.box [rr 1 a1.Files,iv a1.Budget,iv a1.Writes,iv a1.Stop,bv a1.Down]),(1,rE 2 (File.enc true) a1.Files)]) (vG a1 a2 s7) (Fl.go (fun r:Int=>some (iv r,[.box (zA.enc true a1)])) kn):=by
 refine zBg (fun g ih s7=>?_)
 unfold wO
 refine J_d 208 [] [12] [(12,bv (decide (s7< (a1.Files.length:Int))))] [] [] zC ?_
 refine zU 12 (fun h8=>?_) (fun h8=>?_)
 ·refine zB (fun x9 h10=>?_)
  refine J_d 840 [] [12,24] [(24,bv (seq x9.Path a2))] [] [] (zP 5 (zAf (kk:=.i64) 24 35 2 1 (File.enc true) (.tmp 18) (.tmp 19) h10) (zP 7 (zBt (d:=sv x9.Path) 9 2 1 0 (File.enc true) (.tmp 21) h10 (by kernel_rfl)) zC)) ?_
  refine zU 24 (fun h11=>?_) (fun h11=>?_)
  ·refine J_g 3364 [] [(4,iv s7)] [(0,.box [rr 1 a1.Files,iv a1.Budget,iv a1.Writes,iv a1.Stop,bv a1.Down]),(1,rE 2 (File.enc true) a1.Files)] zC ?_
   refine yI 0 (cs':=[so 2 (File.enc true) a1.Files,iv a1.Budget,iv a1.Writes,iv a1.Stop,bv a1.Down]) (ts:=[1]) rfl (.move (.head _) (List.length_map _) (by decide) (.keep rfl (.keep rfl (.keep rfl (.keep rfl (.nil)))))) ?_
   refine xW [(4,iv s7)] [(0,.box (zA.enc true a1))] (by kernel_rfl) ?_
   exact xI rfl
  ·refine J_d 211 [] [5,24] [(5,iv (w64 (s7+1)))] [] [] zC ?_
   exact J_q (J_b (ih (w64 (s7+1)))) rfl
 ·exact xZ (hk ()) rfl
theorem zBO.ok (a1:zA) (a2:ByteArray):Ok Try.prog 36 [pp 0,sv a2] [.box (zA.enc true a1)] ((yM a1 a2).map fun r=>(iv r,[.box (zA.enc true a1)])):=by
 refine zS c36 Try.f36 1 26 (fun q=>?_)
 unfold yM
 refine yB 0 (cs':=[rr 1 a1.Files,iv a1.Budget,iv a1.Writes,iv a1.Stop,bv a1.Down]) (es:=[(1,rE 2 (File.enc true) a1.Files)]) rfl (.cons (.own 1) (.cons (.same rfl rfl) (.cons (.same rfl rfl) (.cons (.same rfl rfl) (.cons (.same rfl rfl) (.nil)))))) rfl (by kernel_rfl) (by kernel_rfl) ?_
 refine xW [(0,pp 0),(1,sv a2)] [(0,.box [rr 1 a1.Files,iv a1.Budget,iv a1.Writes,iv a1.Stop,bv a1.Down]),(1,rE 2 (File.enc true) a1.Files)] (by kernel_rfl) ?_
 refine J_g 2 [] [(0,pp 0),(1,sv a2)] [(0,.box [rr 1 a1.Files,iv a1.Budget,iv a1.Writes,iv a1.Stop,bv a1.Down]),(1,rE 2 (File.enc true) a1.Files)] zC ?_
 refine J_d 12 [] [5] [(5,iv 0)] [] [] zC ?_
 refine zB9 (K0:=(fun r:Int=>some (iv r,[.box (zA.enc true a1)]))) (fun _=>rfl) (zAI.ok a1 a2 q _ (fun v12=>J_j ?_) 0)
 refine J_g 14 [] [(4,iv (-1))] [(0,.box [rr 1 a1.Files,iv a1.Budget,iv a1.Writes,iv a1.Stop,bv a1.Down]),(1,rE 2 (File.enc true) a1.Files)] zC ?_
 refine yI 0 (cs':=[so 2 (File.enc true) a1.Files,iv a1.Budget,iv a1.Writes,iv a1.Stop,bv a1.Down]) (ts:=[1]) rfl (.move (.head _) (List.length_map _) (by decide) (.keep rfl (.keep rfl (.keep rfl (.keep rfl (.nil)))))) ?_
 refine xW [(4,iv (-1))] [(0,.box (zA.enc true a1))] (by kernel_rfl) ?_
 exact xI rfl
noncomputable def c22:Code:=(Try.f22.body).getD .skip
theorem zAv.ok (a1:zA) (q:Wd) (kn:Int→Option (D×List Ent)) (hk:∀v:Int,J (q.g Try.prog 22 1 26) c22 (atI c22 15) (St.mk' [(3,iv v)] [(0,.box [rr 1 a1.Files,iv a1.Budget,iv a1.Writes,iv a1.Stop,bv a1.Down]),(1,rE 2 (File.enc true) a1.Files)]) (some v) kn):
  ∀s5:(Int×Int),J (q.g Try.prog 22 1 26) c22 (atI c22 116) (St.mk' [(0,pp 0),(3,iv s5.1),(4,iv s5.2)] [(0,.box [rr 1 a1.Files,iv a1.Budget,iv a1.Writes,iv a1.Stop,bv a1.Down]),(1,rE 2 (File.enc true) a1.Files)]) (wP a1 s5) kn:=by
 refine zBg (fun g ih s5=>?_)
 unfold wF
 refine J_d 464 [] [11] [(11,bv (decide (s5.2< (a1.Files.length:Int))))] [] [] zC ?_
 refine zU 11 (fun h6=>?_) (fun h6=>?_)
 ·refine zB (fun x7 h8=>?_)
  refine J_g 932 [] [(0,pp 0),(3,iv (w64 (s5.1+(x7.Data.length:Int)))),(4,iv s5.2)] [(0,.box [rr 1 a1.Files,iv a1.Budget,iv a1.Writes,iv a1.Stop,bv a1.Down]),(1,rE 2 (File.enc true) a1.Files)] (zP 6 (zAf (kk:=.i64) 24 35 2 1 (File.enc true) (.tmp 18) (.tmp 19) h8) (zP 8 (zFu (d:=.ln x7.Data.length) 22 2 1 1 (File.enc true) (.tmp 21) h8 (by kernel_rfl)) zC)) ?_
  refine J_d 467 [] [4] [(4,iv (w64 (s5.2+1)))] [] [] zC ?_
  exact J_q (J_b (ih (w64 (s5.1+(x7.Data.length:Int)),w64 (s5.2+1)))) rfl
 ·exact xZ (hk s5.1) rfl
theorem zB2.ok (a1:zA):Ok Try.prog 22 [pp 0] [.box (zA.enc true a1)] ((yP a1).map fun r=>(iv r,[.box (zA.enc true a1)])):=by
 refine zS c22 Try.f22 1 26 (fun q=>?_)
 unfold yP
 refine yB 0 (cs':=[rr 1 a1.Files,iv a1.Budget,iv a1.Writes,iv a1.Stop,bv a1.Down]) (es:=[(1,rE 2 (File.enc true) a1.Files)]) rfl (.cons (.own 1) (.cons (.same rfl rfl) (.cons (.same rfl rfl) (.cons (.same rfl rfl) (.cons (.same rfl rfl) (.nil)))))) rfl (by kernel_rfl) (by kernel_rfl) ?_
 refine xW [(0,pp 0)] [(0,.box [rr 1 a1.Files,iv a1.Budget,iv a1.Writes,iv a1.Stop,bv a1.Down]),(1,rE 2 (File.enc true) a1.Files)] (by kernel_rfl) ?_
 refine J_g 2 [] [(0,pp 0)] [(0,.box [rr 1 a1.Files,iv a1.Budget,iv a1.Writes,iv a1.Stop,bv a1.Down]),(1,rE 2 (File.enc true) a1.Files)] zC ?_
 refine J_g 6 [] [(0,pp 0),(3,iv 0)] [(0,.box [rr 1 a1.Files,iv a1.Budget,iv a1.Writes,iv a1.Stop,bv a1.Down]),(1,rE 2 (File.enc true) a1.Files)] zC ?_
 refine J_d 28 [] [4] [(4,iv 0)] [] [] zC ?_
 refine zDi (zAv.ok a1 q _ (fun v9=>J_j ?_) (0,0))
 refine J_g 30 [] [(2,iv v9)] [(0,.box [rr 1 a1.Files,iv a1.Budget,iv a1.Writes,iv a1.Stop,bv a1.Down]),(1,rE 2 (File.enc true) a1.Files)] zC ?_
 refine yI 0 (cs':=[so 2 (File.enc true) a1.Files,iv a1.Budget,iv a1.Writes,iv a1.Stop,bv a1.Down]) (ts:=[1]) rfl (.move (.head _) (List.length_map _) (by decide) (.keep rfl (.keep rfl (.keep rfl (.keep rfl (.nil)))))) ?_
 refine xW [(2,iv v9)] [(0,.box (zA.enc true a1))] (by kernel_rfl) ?_
 exact xI rfl
noncomputable def c54:Code:=(Try.f54.body).getD .skip
theorem vP.ok (a1:zA):Ok Try.prog 54 [pp 0] [.box (zA.enc true a1)] ((vP a1).map fun r=>(bv r.1,[.box (zA.enc true r.2)])):=by
 refine zS c54 Try.f54 1 34 (fun q=>?_)
 unfold vP
 refine yB 0 (cs':=[rr 1 a1.Files,iv a1.Budget,iv a1.Writes,iv a1.Stop,bv a1.Down]) (es:=[(1,rE 2 (File.enc true) a1.Files)]) rfl (.cons (.own 1) (.cons (.same rfl rfl) (.cons (.same rfl rfl) (.cons (.same rfl rfl) (.cons (.same rfl rfl) (.nil)))))) rfl (by kernel_rfl) (by kernel_rfl) ?_
 refine xW [(0,pp 0)] [(0,.box [rr 1 a1.Files,iv a1.Budget,iv a1.Writes,iv a1.Stop,bv a1.Down]),(1,rE 2 (File.enc true) a1.Files)] (by kernel_rfl) ?_
 refine J_g 2 [] [(0,pp 0)] [(0,.box [rr 1 a1.Files,iv a1.Budget,iv a1.Writes,iv a1.Stop,bv a1.Down]),(1,rE 2 (File.enc true) a1.Files)] zC ?_
 refine J_d 12 [] [6] [(6,bv a1.Down)] [] [] zC ?_
 refine zU 6 (fun h2=>?_) (fun h2=>?_)
 ·refine J_g 52 [] [(2,bv false)] [(0,.box [rr 1 a1.Files,iv a1.Budget,iv a1.Writes,iv a1.Stop,bv a1.Down]),(1,rE 2 (File.enc true) a1.Files)] zC ?_
  refine yI 0 (cs':=[so 2 (File.enc true) a1.Files,iv a1.Budget,iv a1.Writes,iv a1.Stop,bv a1.Down]) (ts:=[1]) rfl (.move (.head _) (List.length_map _) (by decide) (.keep rfl (.keep rfl (.keep rfl (.keep rfl (.nil)))))) ?_
  refine xW [(2,bv false)] [(0,.box (zA.enc true a1))] (by kernel_rfl) ?_
  exact xI rfl
 ·refine xV (atI c54 29) (fun v4:Bool=>St.mk' [(0,pp 0),(22,bv v4)] [(0,.box [rr 1 a1.Files,iv a1.Budget,iv a1.Writes,iv a1.Stop,bv a1.Down]),(1,rE 2 (File.enc true) a1.Files)]) (fun v4=>?_) (fun jv4=>?_)
  ·refine zU 22 (fun h5=>?_) (fun h5=>?_)
   ·refine J_g 116 [] [] [(0,.box [rr 1 a1.Files,iv a1.Budget,iv a1.Writes,iv a1.Stop,bv true]),(1,rE 2 (File.enc true) a1.Files)] zC ?_
    refine J_g 234 [] [(2,bv false)] [(0,.box [rr 1 a1.Files,iv a1.Budget,iv a1.Writes,iv a1.Stop,bv true]),(1,rE 2 (File.enc true) a1.Files)] zC ?_
    refine yI 0 (cs':=[so 2 (File.enc true) a1.Files,iv a1.Budget,iv a1.Writes,iv a1.Stop,bv true]) (ts:=[1]) rfl (.move (.head _) (List.length_map _) (by decide) (.keep rfl (.keep rfl (.keep rfl (.keep rfl (.nil)))))) ?_
    refine xW [(2,bv false)] [(0,.box [so 2 (File.enc true) a1.Files,iv a1.Budget,iv a1.Writes,iv a1.Stop,bv true])] (by kernel_rfl) ?_
    exact xI rfl
   ·refine J_g 30 [] [] [(0,.box [rr 1 a1.Files,iv a1.Budget,iv (w64 (a1.Writes+1)),iv a1.Stop,bv a1.Down]),(1,rE 2 (File.enc true) a1.Files)] zC ?_
    refine J_g 62 [] [(2,bv true)] [(0,.box [rr 1 a1.Files,iv a1.Budget,iv (w64 (a1.Writes+1)),iv a1.Stop,bv a1.Down]),(1,rE 2 (File.enc true) a1.Files)] zC ?_
    refine yI 0 (cs':=[so 2 (File.enc true) a1.Files,iv a1.Budget,iv (w64 (a1.Writes+1)),iv a1.Stop,bv a1.Down]) (ts:=[1]) rfl (.move (.head _) (List.length_map _) (by decide) (.keep rfl (.keep rfl (.keep rfl (.keep rfl (.nil)))))) ?_
    refine xW [(2,bv true)] [(0,.box [so 2 (File.enc true) a1.Files,iv a1.Budget,iv (w64 (a1.Writes+1)),iv a1.Stop,bv a1.Down])] (by kernel_rfl) ?_
    exact xI rfl
  ·refine xK (fun h3=>?_) (fun h3=>?_)
   ·refine J_d 28 [] [6,22] [(22,bv (decide (a1.Writes≥a1.Stop)))] [] [] (yQ 5 [(11,bv (a1.Stop !=(-1)))] [] h3 zC) ?_
    exact xZ (J_j (jv4 (decide (a1.Writes≥a1.Stop)))) rfl
   ·refine J_d 28 [] [6,22] [(22,bv false)] [] [] (yQ 5 [(11,bv (a1.Stop !=(-1)))] [] h3 zC) ?_
    exact xZ (J_j (jv4 false)) rfl
noncomputable def c40:Code:=(Try.f40.body).getD .skip
theorem zAj.ok (a2:ByteArray) (x17:(Bool×zA)) (x20:(List Int)) (q:Wd) (kn:Int→Option (D×List Ent)) (hk:∀v:Int,J (q.g Try.prog 40 2 110) c40 (atI c40 4095) (St.mk' [(0,pp 0),(7,iv v),(9,pp 5)] [(0,.box [rr 2 x17.2.Files,iv x17.2.Budget,iv x17.2.Writes,iv x17.2.Stop,bv x17.2.Down]),(2,rE 2 (File.enc true) x17.2.Files),(4,rE 1 eU8 x20),(5,.box [sv a2,rr 4 x20])]) (some v) kn):
  ∀s30:Int,J (q.g Try.prog 40 2 110) c40 (atI c40 16376) (St.mk' [(0,pp 0),(1,sv a2),(7,iv s30),(9,pp 5)] [(0,.box [rr 2 x17.2.Files,iv x17.2.Budget,iv x17.2.Writes,iv x17.2.Stop,bv x17.2.Down]),(2,rE 2 (File.enc true) x17.2.Files),(4,rE 1 eU8 x20),(5,.box [sv a2,rr 4 x20])]) (uS a2 x17 x20 s30) kn:=by
 refine zBg (fun g ih s30=>?_)
 unfold wW
 refine xV (atI c40 65505) (fun v34:Bool=>St.mk' [(0,pp 0),(1,sv a2),(7,iv s30),(9,pp 5),(86,bv v34)] [(0,.box [rr 2 x17.2.Files,iv x17.2.Budget,iv x17.2.Writes,iv x17.2.Stop,bv x17.2.Down]),(2,rE 2 (File.enc true) x17.2.Files),(4,rE 1 eU8 x20),(5,.box [sv a2,rr 4 x20])]) (fun v34=>?_) (fun jv34=>?_)
 ·refine zU 86 (fun h35=>?_) (fun h35=>?_)
  ·refine J_d 65506 [] [7,86] [(7,iv (w64 (s30+1)))] [] [] zC ?_
   exact J_q (J_b (ih (w64 (s30+1)))) rfl
  ·exact xZ (hk s30) rfl
 ·refine xK (fun h31=>?_) (fun h31=>?_)
  ·refine zB (fun x32 h33=>?_)
   refine J_d 65504 [] [86] [(86,bv (slt x32.Path a2))] [] [] (yQ 7 [(74,bv (decide (s30< (x17.2.Files.length:Int))))] [] h31 (tH 13 7 75 true (zAf (kk:=.i64) 24 35 2 2 (File.enc true) (.tmp 79) (.tmp 80) h33) (tH 15 7 75 true (zBt (d:=sv x32.Path) 9 2 2 0 (File.enc true) (.tmp 82) h33 (by kernel_rfl)) zC))) ?_
   exact xZ (J_j (jv34 (slt x32.Path a2))) rfl
  ·refine J_d 65504 [] [86] [(86,bv false)] [] [] (yQ 7 [(74,bv (decide (s30< (x17.2.Files.length:Int))))] [] h31 zC) ?_
   exact xZ (J_j (jv34 false)) rfl
theorem zAO.ok (a1:zA) (a2:ByteArray) (a3:(List Int)):Ok Try.prog 40 [pp 0,sv a2,rr 1 a3] [.box (zA.enc true a1),rE 1 eU8 a3] ((yY a1 a2 a3).map fun r=>(iv r.1,[.box [so 2 (File.enc false) r.2.Files,iv r.2.Budget,iv r.2.Writes,iv r.2.Stop,bv r.2.Down]])):=by
 refine zS c40 Try.f40 2 110 (fun q=>?_)
 unfold yY
 refine yB 0 (cs':=[rr 2 a1.Files,iv a1.Budget,iv a1.Writes,iv a1.Stop,bv a1.Down]) (es:=[(2,rE 2 (File.enc true) a1.Files)]) rfl (.cons (.own 2) (.cons (.same rfl rfl) (.cons (.same rfl rfl) (.cons (.same rfl rfl) (.cons (.same rfl rfl) (.nil)))))) rfl (by kernel_rfl) (by kernel_rfl) ?_
 refine xW [(0,pp 0),(1,sv a2),(2,rr 1 a3)] [(0,.box [rr 2 a1.Files,iv a1.Budget,iv a1.Writes,iv a1.Stop,bv a1.Down]),(1,rE 1 eU8 a3),(2,rE 2 (File.enc true) a1.Files)] (by kernel_rfl) ?_
 refine J_g 2 [] [(0,pp 0),(1,sv a2),(2,rr 1 a3)] [(0,.box [rr 2 a1.Files,iv a1.Budget,iv a1.Writes,iv a1.Stop,bv a1.Down]),(1,rE 1 eU8 a3),(2,rE 2 (File.enc true) a1.Files)] zC ?_
 refine yI 0 (cs':=[so 2 (File.enc true) a1.Files,iv a1.Budget,iv a1.Writes,iv a1.Stop,bv a1.Down]) (ts:=[2]) rfl (.move (.tail _ (.head _)) (List.length_map _) (by decide) (.keep rfl (.keep rfl (.keep rfl (.keep rfl (.nil)))))) ?_
 refine xW [(0,pp 0),(1,sv a2),(2,rr 1 a3)] [(0,.box (zA.enc true a1)),(1,rE 1 eU8 a3)] (by kernel_rfl) ?_
 refine zB (fun x4 h5=>?_)
 refine J_g 6 [] [(0,pp 0),(1,sv a2),(2,rr 1 a3),(7,iv x4)] [(0,.box (zA.enc true a1)),(1,rE 1 eU8 a3)] (zP 2 (zDN [(0,.box (zA.enc true a1))] [] (wH («as»:=[pp 0,sv a2]) [(.tmp 10),(.tmp 11)] [55,9] false [(0,.box (zA.enc true a1))] [0] (.cons (.pt rfl) (.cons (.same rfl) (.nil))) (zBO.ok a1 a2) h5 (.same rfl rfl))) zC) ?_
 refine yB 0 (cs':=[rr 2 a1.Files,iv a1.Budget,iv a1.Writes,iv a1.Stop,bv a1.Down]) (es:=[(2,rE 2 (File.enc true) a1.Files)]) rfl (.cons (.own 2) (.cons (.same rfl rfl) (.cons (.same rfl rfl) (.cons (.same rfl rfl) (.cons (.same rfl rfl) (.nil)))))) rfl (by kernel_rfl) (by kernel_rfl) ?_
 refine xW [(0,pp 0),(1,sv a2),(2,rr 1 a3),(7,iv x4)] [(0,.box [rr 2 a1.Files,iv a1.Budget,iv a1.Writes,iv a1.Stop,bv a1.Down]),(1,rE 1 eU8 a3),(2,rE 2 (File.enc true) a1.Files)] (by kernel_rfl) ?_
 refine J_g 14 [] [(0,pp 0),(1,sv a2),(2,rr 1 a3),(7,iv x4),(8,iv 0)] [(0,.box [rr 2 a1.Files,iv a1.Budget,iv a1.Writes,iv a1.Stop,bv a1.Down]),(1,rE 1 eU8 a3),(2,rE 2 (File.enc true) a1.Files)] zC ?_
 refine J_d 60 [] [14] [(14,bv (decide (x4≥0)))] [] [] zC ?_
 refine xV (atI c40 31) (fun v9:Int=>St.mk' [(0,pp 0),(1,sv a2),(2,rr 1 a3),(7,iv x4),(8,iv v9)] [(0,.box [rr 2 a1.Files,iv a1.Budget,iv a1.Writes,iv a1.Stop,bv a1.Down]),(1,rE 1 eU8 a3),(2,rE 2 (File.enc true) a1.Files)]) (fun v9=>?_) (fun jv9=>?_)
 ·refine xV (atI c40 125) (fun v12:Bool=>St.mk' [(0,pp 0),(1,sv a2),(2,rr 1 a3),(7,iv x4),(8,iv v9),(38,bv v12)] [(0,.box [rr 2 a1.Files,iv a1.Budget,iv a1.Writes,iv a1.Stop,bv a1.Down]),(1,rE 1 eU8 a3),(2,rE 2 (File.enc true) a1.Files)]) (fun v12=>?_) (fun jv12=>?_)
  ·refine zU 38 (fun h13=>?_) (fun h13=>?_)
   ·refine J_g 500 [] [(6,iv 2)] [(0,.box [rr 2 a1.Files,iv a1.Budget,iv a1.Writes,iv a1.Stop,bv a1.Down]),(1,rE 1 eU8 a3),(2,rE 2 (File.enc true) a1.Files)] zC ?_
    refine xW [(6,iv 2)] [(2,rE 2 (File.enc true) a1.Files),(0,.box [rr 2 a1.Files,iv a1.Budget,iv a1.Writes,iv a1.Stop,bv a1.Down]),(1,rE 1 eU8 a3)] (by kernel_rfl) ?_
    refine zBC 2 (uU (enc:=(File.enc true)) (enc':=(File.enc false)) (File.ro true) _) ?_
    refine xW [(6,iv 2)] [(0,.box [rr 2 a1.Files,iv a1.Budget,iv a1.Writes,iv a1.Stop,bv a1.Down]),(1,rE 1 eU8 a3),(2,rE 2 (File.enc false) a1.Files)] (by kernel_rfl) ?_
    refine yI 0 (cs':=[so 2 (File.enc false) a1.Files,iv a1.Budget,iv a1.Writes,iv a1.Stop,bv a1.Down]) (ts:=[2]) rfl (.move (.tail _ (.head _)) (List.length_map _) (by decide) (.keep rfl (.keep rfl (.keep rfl (.keep rfl (.nil)))))) ?_
    refine xW [(6,iv 2)] [(0,.box [so 2 (File.enc false) a1.Files,iv a1.Budget,iv a1.Writes,iv a1.Stop,bv a1.Down]),(1,rE 1 eU8 a3)] (by kernel_rfl) ?_
    exact xI rfl
   ·refine yI 0 (cs':=[so 2 (File.enc true) a1.Files,iv a1.Budget,iv a1.Writes,iv a1.Stop,bv a1.Down]) (ts:=[2]) rfl (.move (.tail _ (.head _)) (List.length_map _) (by decide) (.keep rfl (.keep rfl (.keep rfl (.keep rfl (.nil)))))) ?_
    refine xW [(0,pp 0),(1,sv a2),(2,rr 1 a3),(7,iv x4),(8,iv v9),(38,bv false)] [(0,.box (zA.enc true a1)),(1,rE 1 eU8 a3)] (by kernel_rfl) ?_
    refine zB (fun x14 h15=>?_)
    refine J_g 252 [] [(0,pp 0),(1,sv a2),(2,rr 1 a3),(7,iv x4),(50,bv (decide ((w64 ((w64 (x14-v9))+(a3.length:Int)))>a1.Budget)))] [(0,.box (zA.enc true a1)),(1,rE 1 eU8 a3)] (zP 1 (zDN [(0,.box (zA.enc true a1))] [] (wH («as»:=[pp 0]) [(.tmp 39)] [55] false [(0,.box (zA.enc true a1))] [0] (.cons (.pt rfl) (.nil)) (zB2.ok a1) h15 (.same rfl rfl))) zC) ?_
    refine yB 0 (cs':=[rr 2 a1.Files,iv a1.Budget,iv a1.Writes,iv a1.Stop,bv a1.Down]) (es:=[(2,rE 2 (File.enc true) a1.Files)]) rfl (.cons (.own 2) (.cons (.same rfl rfl) (.cons (.same rfl rfl) (.cons (.same rfl rfl) (.cons (.same rfl rfl) (.nil)))))) rfl (by kernel_rfl) (by kernel_rfl) ?_
    refine xW [(0,pp 0),(1,sv a2),(2,rr 1 a3),(7,iv x4),(50,bv (decide ((w64 ((w64 (x14-v9))+(a3.length:Int)))>a1.Budget)))] [(0,.box [rr 2 a1.Files,iv a1.Budget,iv a1.Writes,iv a1.Stop,bv a1.Down]),(1,rE 1 eU8 a3),(2,rE 2 (File.enc true) a1.Files)] (by kernel_rfl) ?_
    refine zU 50 (fun h16=>?_) (fun h16=>?_)
    ·refine J_g 1012 [] [(6,iv 8)] [(0,.box [rr 2 a1.Files,iv a1.Budget,iv a1.Writes,iv a1.Stop,bv a1.Down]),(1,rE 1 eU8 a3),(2,rE 2 (File.enc true) a1.Files)] zC ?_
     refine xW [(6,iv 8)] [(2,rE 2 (File.enc true) a1.Files),(0,.box [rr 2 a1.Files,iv a1.Budget,iv a1.Writes,iv a1.Stop,bv a1.Down]),(1,rE 1 eU8 a3)] (by kernel_rfl) ?_
     refine zBC 2 (uU (enc:=(File.enc true)) (enc':=(File.enc false)) (File.ro true) _) ?_
     refine xW [(6,iv 8)] [(0,.box [rr 2 a1.Files,iv a1.Budget,iv a1.Writes,iv a1.Stop,bv a1.Down]),(1,rE 1 eU8 a3),(2,rE 2 (File.enc false) a1.Files)] (by kernel_rfl) ?_
     refine yI 0 (cs':=[so 2 (File.enc false) a1.Files,iv a1.Budget,iv a1.Writes,iv a1.Stop,bv a1.Down]) (ts:=[2]) rfl (.move (.tail _ (.head _)) (List.length_map _) (by decide) (.keep rfl (.keep rfl (.keep rfl (.keep rfl (.nil)))))) ?_
     refine xW [(6,iv 8)] [(0,.box [so 2 (File.enc false) a1.Files,iv a1.Budget,iv a1.Writes,iv a1.Stop,bv a1.Down]),(1,rE 1 eU8 a3)] (by kernel_rfl) ?_
     exact xI rfl
    ·refine yI 0 (cs':=[so 2 (File.enc true) a1.Files,iv a1.Budget,iv a1.Writes,iv a1.Stop,bv a1.Down]) (ts:=[2]) rfl (.move (.tail _ (.head _)) (List.length_map _) (by decide) (.keep rfl (.keep rfl (.keep rfl (.keep rfl (.nil)))))) ?_
     refine xW [(0,pp 0),(1,sv a2),(2,rr 1 a3),(7,iv x4),(50,bv false)] [(0,.box (zA.enc true a1)),(1,rE 1 eU8 a3)] (by kernel_rfl) ?_
     refine zB (fun x17 h18=>?_)
     refine J_g 508 [] [(0,pp 0),(1,sv a2),(2,rr 1 a3),(7,iv x4),(53,bv (!x17.1))] [(0,.box (zA.enc true x17.2)),(1,rE 1 eU8 a3)] (zP 1 (wH («as»:=[pp 0]) [(.tmp 51)] [55] false [(0,.box (zA.enc true a1))] [0] (.cons (.pt rfl) (.nil)) (vP.ok a1) h18 (.same rfl rfl)) zC) ?_
     refine yB 0 (cs':=[rr 2 x17.2.Files,iv x17.2.Budget,iv x17.2.Writes,iv x17.2.Stop,bv x17.2.Down]) (es:=[(2,rE 2 (File.enc true) x17.2.Files)]) rfl (.cons (.own 2) (.cons (.same rfl rfl) (.cons (.same rfl rfl) (.cons (.same rfl rfl) (.cons (.same rfl rfl) (.nil)))))) rfl (by kernel_rfl) (by kernel_rfl) ?_
     refine xW [(0,pp 0),(1,sv a2),(2,rr 1 a3),(7,iv x4),(53,bv (!x17.1))] [(0,.box [rr 2 x17.2.Files,iv x17.2.Budget,iv x17.2.Writes,iv x17.2.Stop,bv x17.2.Down]),(1,rE 1 eU8 a3),(2,rE 2 (File.enc true) x17.2.Files)] (by kernel_rfl) ?_
     refine zU 53 (fun h19=>?_) (fun h19=>?_)
     ·refine J_g 2036 [] [(6,iv 9)] [(0,.box [rr 2 x17.2.Files,iv x17.2.Budget,iv x17.2.Writes,iv x17.2.Stop,bv x17.2.Down]),(1,rE 1 eU8 a3),(2,rE 2 (File.enc true) x17.2.Files)] zC ?_
      refine xW [(6,iv 9)] [(2,rE 2 (File.enc true) x17.2.Files),(0,.box [rr 2 x17.2.Files,iv x17.2.Budget,iv x17.2.Writes,iv x17.2.Stop,bv x17.2.Down]),(1,rE 1 eU8 a3)] (by kernel_rfl) ?_
      refine zBC 2 (uU (enc:=(File.enc true)) (enc':=(File.enc false)) (File.ro true) _) ?_
      refine xW [(6,iv 9)] [(0,.box [rr 2 x17.2.Files,iv x17.2.Budget,iv x17.2.Writes,iv x17.2.Stop,bv x17.2.Down]),(1,rE 1 eU8 a3),(2,rE 2 (File.enc false) x17.2.Files)] (by kernel_rfl) ?_
      refine yI 0 (cs':=[so 2 (File.enc false) x17.2.Files,iv x17.2.Budget,iv x17.2.Writes,iv x17.2.Stop,bv x17.2.Down]) (ts:=[2]) rfl (.move (.tail _ (.head _)) (List.length_map _) (by decide) (.keep rfl (.keep rfl (.keep rfl (.keep rfl (.nil)))))) ?_
      refine xW [(6,iv 9)] [(0,.box [so 2 (File.enc false) x17.2.Files,iv x17.2.Budget,iv x17.2.Writes,iv x17.2.Stop,bv x17.2.Down]),(1,rE 1 eU8 a3)] (by kernel_rfl) ?_
      exact xI rfl
     ·refine zB (fun x20 h21=>?_)
      refine J_g 510 [(5,5)] [(0,pp 0),(1,sv a2),(7,iv x4),(9,pp 5)] [(0,.box [rr 2 x17.2.Files,iv x17.2.Budget,iv x17.2.Writes,iv x17.2.Stop,bv x17.2.Down]),(2,rE 2 (File.enc true) x17.2.Files),(4,rE 1 eU8 x20),(5,.box [sv a2,rr 4 x20])] (zP 1 (zAN 22 5 1 3 eU8 ([]:List Int) [] [] []) (zP 3 (zEg 22 22 5 5 1 1 4 3 1 eU8 (.tmp 55) (.tmp 56) h21) zC)) ?_
      refine J_d 2044 [] [60] [(60,bv (decide (x4≥0)))] [] [] zC ?_
      refine zU 60 (fun h22=>?_) (fun h22=>?_)
      ·refine zB (fun x23 h24=>?_)
       refine J_g 8180 [] [] [(0,.box [rr 2 x17.2.Files,iv x17.2.Budget,iv x17.2.Writes,iv x17.2.Stop,bv x17.2.Down]),(2,rE 2 (File.enc true) (x17.2.Files.set x4.toNat ({Path:=a2,Data:=x20}:File)))] (zP 6 (zAf (kk:=.i64) 24 35 2 2 (File.enc true) (.tmp 64) (.tmp 65) h24) (zF4 7 (zFd (b:=({Path:=a2,Data:=x20}:File)) (es':=[sv a2,so 1 eU8 x20]) (ts:=[4]) 35 2 2 0 (File.enc true) (.ag [sv a2,rr 4 x20]) (.tmp 67) (.tmp 66) [(4,rE 1 eU8 x20)] h24 (.keep rfl (.move (.head _) (List.length_map _) (by decide) (.nil))) rfl) zC)) ?_
       refine zF1 (σ':=St.mk' [] [(0,.box [rr 2 (x17.2.Files.set x4.toNat ({Path:=a2,Data:=x20}:File)),iv x17.2.Budget,iv x17.2.Writes,iv x17.2.Stop,bv x17.2.Down]),(2,rE 2 (File.enc true) (x17.2.Files.set x4.toNat ({Path:=a2,Data:=x20}:File)))]) (by simp only [rr,List.length_set]) ?_
       refine J_g 16362 [] [(6,iv 0)] [(0,.box [rr 2 (x17.2.Files.set x4.toNat ({Path:=a2,Data:=x20}:File)),iv x17.2.Budget,iv x17.2.Writes,iv x17.2.Stop,bv x17.2.Down]),(2,rE 2 (File.enc true) (x17.2.Files.set x4.toNat ({Path:=a2,Data:=x20}:File)))] zC ?_
       refine xW [(6,iv 0)] [(2,rE 2 (File.enc true) (x17.2.Files.set x4.toNat ({Path:=a2,Data:=x20}:File))),(0,.box [rr 2 (x17.2.Files.set x4.toNat ({Path:=a2,Data:=x20}:File)),iv x17.2.Budget,iv x17.2.Writes,iv x17.2.Stop,bv x17.2.Down])] (by kernel_rfl) ?_
       refine zBC 2 (uU (enc:=(File.enc true)) (enc':=(File.enc false)) (File.ro true) _) ?_
       refine xW [(6,iv 0)] [(0,.box [rr 2 (x17.2.Files.set x4.toNat ({Path:=a2,Data:=x20}:File)),iv x17.2.Budget,iv x17.2.Writes,iv x17.2.Stop,bv x17.2.Down]),(2,rE 2 (File.enc false) (x17.2.Files.set x4.toNat ({Path:=a2,Data:=x20}:File)))] (by kernel_rfl) ?_
       refine yI 0 (cs':=[so 2 (File.enc false) (x17.2.Files.set x4.toNat ({Path:=a2,Data:=x20}:File)),iv x17.2.Budget,iv x17.2.Writes,iv x17.2.Stop,bv x17.2.Down]) (ts:=[2]) rfl (.move (.head _) (List.length_map _) (by decide) (.keep rfl (.keep rfl (.keep rfl (.keep rfl (.nil)))))) ?_
       refine xW [(6,iv 0)] [(0,.box [so 2 (File.enc false) (x17.2.Files.set x4.toNat ({Path:=a2,Data:=x20}:File)),iv x17.2.Budget,iv x17.2.Writes,iv x17.2.Stop,bv x17.2.Down])] (by kernel_rfl) ?_
       exact xI rfl
      ·refine J_d 2046 [] [7,60] [(7,iv 0)] [] [] zC ?_
       refine zDi (zAj.ok a2 x17 x20 q _ (fun v36=>J_j ?_) 0)
       refine zB (fun x37 h38=>?_)
       refine xW [(0,pp 0),(7,iv v36),(9,pp 5)] [(2,rE 2 (File.enc true) x17.2.Files),(0,.box [rr 2 x17.2.Files,iv x17.2.Budget,iv x17.2.Writes,iv x17.2.Stop,bv x17.2.Down]),(4,rE 1 eU8 x20),(5,.box [sv a2,rr 4 x20])] (by kernel_rfl) ?_
       refine zBC 2 (uU (enc:=(File.enc true)) (enc':=(File.enc false)) (File.ro true) _) ?_
       refine xW [(0,pp 0),(7,iv v36),(9,pp 5)] [(0,.box [rr 2 x17.2.Files,iv x17.2.Budget,iv x17.2.Writes,iv x17.2.Stop,bv x17.2.Down]),(2,rE 2 (File.enc false) x17.2.Files),(4,rE 1 eU8 x20),(5,.box [sv a2,rr 4 x20])] (by kernel_rfl) ?_
       refine zB (fun x39 h40=>?_)
       refine xW [(0,pp 0),(7,iv v36),(9,pp 5)] [(4,rE 1 eU8 x20),(0,.box [rr 2 x17.2.Files,iv x17.2.Budget,iv x17.2.Writes,iv x17.2.Stop,bv x17.2.Down]),(2,rE 2 (File.enc false) x17.2.Files),(5,.box [sv a2,rr 4 x20])] (by kernel_rfl) ?_
       refine zEO 4 (z:=1) (xs:=x20.map eU8) (tm2:=[(0,pp 0),(7,iv v36),(9,pp 5)]) (hp2:=[(0,.box [rr 2 x17.2.Files,iv x17.2.Budget,iv x17.2.Writes,iv x17.2.Stop,bv x17.2.Down]),(2,rE 2 (File.enc false) x17.2.Files),(5,.box [sv a2,sl 1 eU8 x20])]) (.cons (.keep rfl) (.cons (.keep rfl) (.cons (.keep rfl) (.nil)))) (.keep rfl (.keep rfl (.box rfl (.cons (.keep rfl) (.cons (.rf (by simp) (zBD (enc:=eU8) (enc':=eU8) (fun _=>rfl) x20 rfl rfl)) (.nil))) (.nil)))) rfl ?_
       refine zB (fun x41 h42=>?_)
       refine zB (fun x43 h44=>?_)
       refine zB (fun x45 h46=>?_)
       refine J_g 8190 [] [] [(0,.box [rr 10 x45,iv x17.2.Budget,iv x17.2.Writes,iv x17.2.Stop,bv x17.2.Down]),(10,rE 2 (File.enc false) x45)] (zP 1 (zAN 24 35 2 6 (File.enc false) ([]:List File) [] [] []) (zP 7 (zEh 24 35 2 2 (File.enc false) (.tmp 94) none (some (.tmp 95)) h38) (zP 8 (zEa (ys:=x17.2.Files) (l:=0) (hi:=v36) 24 24 35 35 2 40 7 6 2 (File.enc false) (.tmp 90) (.tmp 96) h38 h40) (zP 10 (zAN 24 35 2 8 (File.enc false) [({Path:=a2,Data:=x20}:File)] [0] [(.tmp 98)] [.ag [sv a2,sl 1 eU8 x20]]) (zP 11 (zEg 24 24 35 35 2 40 9 7 8 (File.enc false) (.tmp 97) (.tmp 99) h42) (zP 17 (zEh 24 35 2 2 (File.enc false) (.tmp 104) (some (.tmp 105)) none h44) (zP 18 (zEa (ys:=x17.2.Files) (l:=v36) (hi:=(x17.2.Files.length:Int)) 24 24 35 35 2 40 10 9 2 (File.enc false) (.tmp 100) (.tmp 106) h44 h46) zC))))))) ?_
       refine J_g 16382 [] [(6,iv 0)] [(0,.box [rr 10 x45,iv x17.2.Budget,iv x17.2.Writes,iv x17.2.Stop,bv x17.2.Down]),(10,rE 2 (File.enc false) x45)] zC ?_
       refine yI 0 (cs':=[so 2 (File.enc false) x45,iv x17.2.Budget,iv x17.2.Writes,iv x17.2.Stop,bv x17.2.Down]) (ts:=[10]) rfl (.move (.head _) (List.length_map _) (by decide) (.keep rfl (.keep rfl (.keep rfl (.keep rfl (.nil)))))) ?_
       refine xW [(6,iv 0)] [(0,.box [so 2 (File.enc false) x45,iv x17.2.Budget,iv x17.2.Writes,iv x17.2.Stop,bv x17.2.Down])] (by kernel_rfl) ?_
       exact xI rfl
  ·refine xK (fun h10=>?_) (fun h10=>?_)
   ·refine J_d 124 [] [38] [(38,bv true)] [] [] (yQ 3 [(26,bv (decide ((a3.length:Int)>4000)))] [] h10 (wT 6 (wU (i:=6) (g:=3) (t:=27) (b:=false) (v:=(.bool true)) (.inl rfl) (by kernel_rfl) (by kernel_rfl)) (wT 7 (wU (i:=7) (g:=6) (t:=30) (b:=true) (v:=undef) (.inr rfl) (by kernel_rfl) (by kernel_rfl)) (wT 8 (wU (i:=8) (g:=6) (t:=30) (b:=true) (v:=undef) (.inr rfl) (by kernel_rfl) (by kernel_rfl)) (wT 9 (wU (i:=9) (g:=6) (t:=30) (b:=true) (v:=undef) (.inr rfl) (by kernel_rfl) (by kernel_rfl)) (wT 10 (wU (i:=10) (g:=6) (t:=30) (b:=true) (v:=undef) (.inr rfl) (by kernel_rfl) (by kernel_rfl)) (wT 11 (wU (i:=11) (g:=6) (t:=30) (b:=true) (v:=undef) (.inr rfl) (by kernel_rfl) (by kernel_rfl)) (wT 12 (wU (i:=12) (g:=6) (t:=30) (b:=true) (v:=undef) (.inr rfl) (by kernel_rfl) (by kernel_rfl)) zC)))))))) ?_
    exact xZ (J_j (jv12 true)) rfl
   ·refine xK (fun h11=>?_) (fun h11=>?_)
    ·refine J_d 124 [] [38] [(38,bv (decide ((a1.Files.length:Int)≥120)))] [] [] (yQ 3 [(26,bv (decide ((a3.length:Int)>4000)))] [] h10 (jX 6 3 27 false [(29,bv (decide (x4<0)))] [] h11 zC)) ?_
     exact xZ (J_j (jv12 (decide ((a1.Files.length:Int)≥120)))) rfl
    ·refine J_d 124 [] [38] [(38,bv false)] [] [] (yQ 3 [(26,bv (decide ((a3.length:Int)>4000)))] [] h10 (jX 6 3 27 false [(29,bv (decide (x4<0)))] [] h11 zC)) ?_
     exact xZ (J_j (jv12 false)) rfl
 ·refine zU 14 (fun h6=>?_) (fun h6=>?_)
  ·refine zB (fun x7 h8=>?_)
   refine J_d 122 [] [8,14] [(8,iv (x7.Data.length:Int))] [] [] (zP 5 (zAf (kk:=.i64) 24 35 2 2 (File.enc true) (.tmp 18) (.tmp 19) h8) (zP 7 (zFu (d:=.ln x7.Data.length) 22 2 2 1 (File.enc true) (.tmp 21) h8 (by kernel_rfl)) zC)) ?_
   exact xZ (J_j (jv9 (x7.Data.length:Int))) rfl
  ·exact xZ (J_j (jv9 0)) rfl
theorem zAi.ok (a1:zA) (a2:ByteArray) (q:Wd) (kn:Unit→Option (D×List Ent)) (hk:∀v:Unit,J (q.g Try.prog 36 1 26) c36 (atI c36 7) (St.mk' [] [(0,.box [rr 1 a1.Files,iv a1.Budget,iv a1.Writes,iv a1.Stop,bv a1.Down]),(1,rE 2 (File.enc false) a1.Files)]) (some v) kn):
  ∀s7:Int,J (q.g Try.prog 36 1 26) c36 (atI c36 52) (St.mk' [(0,pp 0),(1,sv a2),(5,iv s7)] [(0,.box [rr 1 a1.Files,iv a1.Budget,iv a1.Writes,iv a1.Stop,bv a1.Down]),(1,rE 2 (File.enc false) a1.Files)]) (vG a1 a2 s7) (Fl.go (fun r:Int=>some (iv r,[.box [so 2 (File.enc false) a1.Files,iv a1.Budget,iv a1.Writes,iv a1.Stop,bv a1.Down]])) kn):=by
 refine zBg (fun g ih s7=>?_)
 unfold wO
 refine J_d 208 [] [12] [(12,bv (decide (s7< (a1.Files.length:Int))))] [] [] zC ?_
 refine zU 12 (fun h8=>?_) (fun h8=>?_)
 ·refine zB (fun x9 h10=>?_)
  refine J_d 840 [] [12,24] [(24,bv (seq x9.Path a2))] [] [] (zP 5 (zAf (kk:=.i64) 24 35 2 1 (File.enc false) (.tmp 18) (.tmp 19) h10) (zP 7 (zBt (d:=sv x9.Path) 9 2 1 0 (File.enc false) (.tmp 21) h10 (by kernel_rfl)) zC)) ?_
  refine zU 24 (fun h11=>?_) (fun h11=>?_)
  ·refine J_g 3364 [] [(4,iv s7)] [(0,.box [rr 1 a1.Files,iv a1.Budget,iv a1.Writes,iv a1.Stop,bv a1.Down]),(1,rE 2 (File.enc false) a1.Files)] zC ?_
   refine yI 0 (cs':=[so 2 (File.enc false) a1.Files,iv a1.Budget,iv a1.Writes,iv a1.Stop,bv a1.Down]) (ts:=[1]) rfl (.move (.head _) (List.length_map _) (by decide) (.keep rfl (.keep rfl (.keep rfl (.keep rfl (.nil)))))) ?_
   refine xW [(4,iv s7)] [(0,.box [so 2 (File.enc false) a1.Files,iv a1.Budget,iv a1.Writes,iv a1.Stop,bv a1.Down])] (by kernel_rfl) ?_
   exact xI rfl
  ·refine J_d 211 [] [5,24] [(5,iv (w64 (s7+1)))] [] [] zC ?_
   exact J_q (J_b (ih (w64 (s7+1)))) rfl
 ·exact xZ (hk ()) rfl
theorem zAS.ok (a1:zA) (a2:ByteArray):Ok Try.prog 36 [pp 0,sv a2] [.box [so 2 (File.enc false) a1.Files,iv a1.Budget,iv a1.Writes,iv a1.Stop,bv a1.Down]] ((yM a1 a2).map fun r=>(iv r,[.box [so 2 (File.enc false) a1.Files,iv a1.Budget,iv a1.Writes,iv a1.Stop,bv a1.Down]])):=by
 refine zS c36 Try.f36 1 26 (fun q=>?_)
 unfold yM
 refine yB 0 (cs':=[rr 1 a1.Files,iv a1.Budget,iv a1.Writes,iv a1.Stop,bv a1.Down]) (es:=[(1,rE 2 (File.enc false) a1.Files)]) rfl (.cons (.own 1) (.cons (.same rfl rfl) (.cons (.same rfl rfl) (.cons (.same rfl rfl) (.cons (.same rfl rfl) (.nil)))))) rfl (by kernel_rfl) (by kernel_rfl) ?_
 refine xW [(0,pp 0),(1,sv a2)] [(0,.box [rr 1 a1.Files,iv a1.Budget,iv a1.Writes,iv a1.Stop,bv a1.Down]),(1,rE 2 (File.enc false) a1.Files)] (by kernel_rfl) ?_
 refine J_g 2 [] [(0,pp 0),(1,sv a2)] [(0,.box [rr 1 a1.Files,iv a1.Budget,iv a1.Writes,iv a1.Stop,bv a1.Down]),(1,rE 2 (File.enc false) a1.Files)] zC ?_
 refine J_d 12 [] [5] [(5,iv 0)] [] [] zC ?_
 refine zB9 (K0:=(fun r:Int=>some (iv r,[.box [so 2 (File.enc false) a1.Files,iv a1.Budget,iv a1.Writes,iv a1.Stop,bv a1.Down]]))) (fun _=>rfl) (zAi.ok a1 a2 q _ (fun v12=>J_j ?_) 0)
 refine J_g 14 [] [(4,iv (-1))] [(0,.box [rr 1 a1.Files,iv a1.Budget,iv a1.Writes,iv a1.Stop,bv a1.Down]),(1,rE 2 (File.enc false) a1.Files)] zC ?_
 refine yI 0 (cs':=[so 2 (File.enc false) a1.Files,iv a1.Budget,iv a1.Writes,iv a1.Stop,bv a1.Down]) (ts:=[1]) rfl (.move (.head _) (List.length_map _) (by decide) (.keep rfl (.keep rfl (.keep rfl (.keep rfl (.nil)))))) ?_
 refine xW [(4,iv (-1))] [(0,.box [so 2 (File.enc false) a1.Files,iv a1.Budget,iv a1.Writes,iv a1.Stop,bv a1.Down])] (by kernel_rfl) ?_
 exact xI rfl
theorem zAb.ok (a1:zA) (q:Wd) (kn:Int→Option (D×List Ent)) (hk:∀v:Int,J (q.g Try.prog 22 1 26) c22 (atI c22 15) (St.mk' [(3,iv v)] [(0,.box [rr 1 a1.Files,iv a1.Budget,iv a1.Writes,iv a1.Stop,bv a1.Down]),(1,rE 2 (File.enc false) a1.Files)]) (some v) kn):
  ∀s5:(Int×Int),J (q.g Try.prog 22 1 26) c22 (atI c22 116) (St.mk' [(0,pp 0),(3,iv s5.1),(4,iv s5.2)] [(0,.box [rr 1 a1.Files,iv a1.Budget,iv a1.Writes,iv a1.Stop,bv a1.Down]),(1,rE 2 (File.enc false) a1.Files)]) (wP a1 s5) kn:=by
 refine zBg (fun g ih s5=>?_)
 unfold wF
 refine J_d 464 [] [11] [(11,bv (decide (s5.2< (a1.Files.length:Int))))] [] [] zC ?_
 refine zU 11 (fun h6=>?_) (fun h6=>?_)
 ·refine zB (fun x7 h8=>?_)
  refine J_g 932 [] [(0,pp 0),(3,iv (w64 (s5.1+(x7.Data.length:Int)))),(4,iv s5.2)] [(0,.box [rr 1 a1.Files,iv a1.Budget,iv a1.Writes,iv a1.Stop,bv a1.Down]),(1,rE 2 (File.enc false) a1.Files)] (zP 6 (zAf (kk:=.i64) 24 35 2 1 (File.enc false) (.tmp 18) (.tmp 19) h8) (zP 8 (zBt (d:=sl 1 eU8 x7.Data) 22 2 1 1 (File.enc false) (.tmp 21) h8 (by kernel_rfl)) zC)) ?_
  refine J_d 467 [] [4] [(4,iv (w64 (s5.2+1)))] [] [] zC ?_
  exact J_q (J_b (ih (w64 (s5.1+(x7.Data.length:Int)),w64 (s5.2+1)))) rfl
 ·exact xZ (hk s5.1) rfl
theorem tX.ok (a1:zA):Ok Try.prog 22 [pp 0] [.box [so 2 (File.enc false) a1.Files,iv a1.Budget,iv a1.Writes,iv a1.Stop,bv a1.Down]] ((yP a1).map fun r=>(iv r,[.box [so 2 (File.enc false) a1.Files,iv a1.Budget,iv a1.Writes,iv a1.Stop,bv a1.Down]])):=by
 refine zS c22 Try.f22 1 26 (fun q=>?_)
 unfold yP
 refine yB 0 (cs':=[rr 1 a1.Files,iv a1.Budget,iv a1.Writes,iv a1.Stop,bv a1.Down]) (es:=[(1,rE 2 (File.enc false) a1.Files)]) rfl (.cons (.own 1) (.cons (.same rfl rfl) (.cons (.same rfl rfl) (.cons (.same rfl rfl) (.cons (.same rfl rfl) (.nil)))))) rfl (by kernel_rfl) (by kernel_rfl) ?_
 refine xW [(0,pp 0)] [(0,.box [rr 1 a1.Files,iv a1.Budget,iv a1.Writes,iv a1.Stop,bv a1.Down]),(1,rE 2 (File.enc false) a1.Files)] (by kernel_rfl) ?_
 refine J_g 2 [] [(0,pp 0)] [(0,.box [rr 1 a1.Files,iv a1.Budget,iv a1.Writes,iv a1.Stop,bv a1.Down]),(1,rE 2 (File.enc false) a1.Files)] zC ?_
 refine J_g 6 [] [(0,pp 0),(3,iv 0)] [(0,.box [rr 1 a1.Files,iv a1.Budget,iv a1.Writes,iv a1.Stop,bv a1.Down]),(1,rE 2 (File.enc false) a1.Files)] zC ?_
 refine J_d 28 [] [4] [(4,iv 0)] [] [] zC ?_
 refine zDi (zAb.ok a1 q _ (fun v9=>J_j ?_) (0,0))
 refine J_g 30 [] [(2,iv v9)] [(0,.box [rr 1 a1.Files,iv a1.Budget,iv a1.Writes,iv a1.Stop,bv a1.Down]),(1,rE 2 (File.enc false) a1.Files)] zC ?_
 refine yI 0 (cs':=[so 2 (File.enc false) a1.Files,iv a1.Budget,iv a1.Writes,iv a1.Stop,bv a1.Down]) (ts:=[1]) rfl (.move (.head _) (List.length_map _) (by decide) (.keep rfl (.keep rfl (.keep rfl (.keep rfl (.nil)))))) ?_
 refine xW [(2,iv v9)] [(0,.box [so 2 (File.enc false) a1.Files,iv a1.Budget,iv a1.Writes,iv a1.Stop,bv a1.Down])] (by kernel_rfl) ?_
 exact xI rfl
theorem zBs.ok (a1:zA):Ok Try.prog 54 [pp 0] [.box [so 2 (File.enc false) a1.Files,iv a1.Budget,iv a1.Writes,iv a1.Stop,bv a1.Down]] ((vP a1).map fun r=>(bv r.1,[.box [so 2 (File.enc false) r.2.Files,iv r.2.Budget,iv r.2.Writes,iv r.2.Stop,bv r.2.Down]])):=by
 refine zS c54 Try.f54 1 34 (fun q=>?_)
 unfold vP
 refine yB 0 (cs':=[rr 1 a1.Files,iv a1.Budget,iv a1.Writes,iv a1.Stop,bv a1.Down]) (es:=[(1,rE 2 (File.enc false) a1.Files)]) rfl (.cons (.own 1) (.cons (.same rfl rfl) (.cons (.same rfl rfl) (.cons (.same rfl rfl) (.cons (.same rfl rfl) (.nil)))))) rfl (by kernel_rfl) (by kernel_rfl) ?_
 refine xW [(0,pp 0)] [(0,.box [rr 1 a1.Files,iv a1.Budget,iv a1.Writes,iv a1.Stop,bv a1.Down]),(1,rE 2 (File.enc false) a1.Files)] (by kernel_rfl) ?_
 refine J_g 2 [] [(0,pp 0)] [(0,.box [rr 1 a1.Files,iv a1.Budget,iv a1.Writes,iv a1.Stop,bv a1.Down]),(1,rE 2 (File.enc false) a1.Files)] zC ?_
 refine J_d 12 [] [6] [(6,bv a1.Down)] [] [] zC ?_
 refine zU 6 (fun h2=>?_) (fun h2=>?_)
 ·refine J_g 52 [] [(2,bv false)] [(0,.box [rr 1 a1.Files,iv a1.Budget,iv a1.Writes,iv a1.Stop,bv a1.Down]),(1,rE 2 (File.enc false) a1.Files)] zC ?_
  refine yI 0 (cs':=[so 2 (File.enc false) a1.Files,iv a1.Budget,iv a1.Writes,iv a1.Stop,bv a1.Down]) (ts:=[1]) rfl (.move (.head _) (List.length_map _) (by decide) (.keep rfl (.keep rfl (.keep rfl (.keep rfl (.nil)))))) ?_
  refine xW [(2,bv false)] [(0,.box [so 2 (File.enc false) a1.Files,iv a1.Budget,iv a1.Writes,iv a1.Stop,bv a1.Down])] (by kernel_rfl) ?_
  exact xI rfl
 ·refine xV (atI c54 29) (fun v4:Bool=>St.mk' [(0,pp 0),(22,bv v4)] [(0,.box [rr 1 a1.Files,iv a1.Budget,iv a1.Writes,iv a1.Stop,bv a1.Down]),(1,rE 2 (File.enc false) a1.Files)]) (fun v4=>?_) (fun jv4=>?_)
  ·refine zU 22 (fun h5=>?_) (fun h5=>?_)
   ·refine J_g 116 [] [] [(0,.box [rr 1 a1.Files,iv a1.Budget,iv a1.Writes,iv a1.Stop,bv true]),(1,rE 2 (File.enc false) a1.Files)] zC ?_
    refine J_g 234 [] [(2,bv false)] [(0,.box [rr 1 a1.Files,iv a1.Budget,iv a1.Writes,iv a1.Stop,bv true]),(1,rE 2 (File.enc false) a1.Files)] zC ?_
    refine yI 0 (cs':=[so 2 (File.enc false) a1.Files,iv a1.Budget,iv a1.Writes,iv a1.Stop,bv true]) (ts:=[1]) rfl (.move (.head _) (List.length_map _) (by decide) (.keep rfl (.keep rfl (.keep rfl (.keep rfl (.nil)))))) ?_
    refine xW [(2,bv false)] [(0,.box [so 2 (File.enc false) a1.Files,iv a1.Budget,iv a1.Writes,iv a1.Stop,bv true])] (by kernel_rfl) ?_
    exact xI rfl
   ·refine J_g 30 [] [] [(0,.box [rr 1 a1.Files,iv a1.Budget,iv (w64 (a1.Writes+1)),iv a1.Stop,bv a1.Down]),(1,rE 2 (File.enc false) a1.Files)] zC ?_
    refine J_g 62 [] [(2,bv true)] [(0,.box [rr 1 a1.Files,iv a1.Budget,iv (w64 (a1.Writes+1)),iv a1.Stop,bv a1.Down]),(1,rE 2 (File.enc false) a1.Files)] zC ?_
    refine yI 0 (cs':=[so 2 (File.enc false) a1.Files,iv a1.Budget,iv (w64 (a1.Writes+1)),iv a1.Stop,bv a1.Down]) (ts:=[1]) rfl (.move (.head _) (List.length_map _) (by decide) (.keep rfl (.keep rfl (.keep rfl (.keep rfl (.nil)))))) ?_
    refine xW [(2,bv true)] [(0,.box [so 2 (File.enc false) a1.Files,iv a1.Budget,iv (w64 (a1.Writes+1)),iv a1.Stop,bv a1.Down])] (by kernel_rfl) ?_
    exact xI rfl
  ·refine xK (fun h3=>?_) (fun h3=>?_)
   ·refine J_d 28 [] [6,22] [(22,bv (decide (a1.Writes≥a1.Stop)))] [] [] (yQ 5 [(11,bv (a1.Stop !=(-1)))] [] h3 zC) ?_
    exact xZ (J_j (jv4 (decide (a1.Writes≥a1.Stop)))) rfl
   ·refine J_d 28 [] [6,22] [(22,bv false)] [] [] (yQ 5 [(11,bv (a1.Stop !=(-1)))] [] h3 zC) ?_
    exact xZ (J_j (jv4 false)) rfl
theorem kQ.ok (a2:ByteArray) (x17:(Bool×zA)) (x20:(List Int)) (q:Wd) (kn:Int→Option (D×List Ent)) (hk:∀v:Int,J (q.g Try.prog 40 2 110) c40 (atI c40 4095) (St.mk' [(0,pp 0),(7,iv v),(9,pp 5)] [(0,.box [rr 2 x17.2.Files,iv x17.2.Budget,iv x17.2.Writes,iv x17.2.Stop,bv x17.2.Down]),(2,rE 2 (File.enc false) x17.2.Files),(4,rE 1 eU8 x20),(5,.box [sv a2,rr 4 x20])]) (some v) kn):
  ∀s30:Int,J (q.g Try.prog 40 2 110) c40 (atI c40 16376) (St.mk' [(0,pp 0),(1,sv a2),(7,iv s30),(9,pp 5)] [(0,.box [rr 2 x17.2.Files,iv x17.2.Budget,iv x17.2.Writes,iv x17.2.Stop,bv x17.2.Down]),(2,rE 2 (File.enc false) x17.2.Files),(4,rE 1 eU8 x20),(5,.box [sv a2,rr 4 x20])]) (uS a2 x17 x20 s30) kn:=by
 refine zBg (fun g ih s30=>?_)
 unfold wW
 refine xV (atI c40 65505) (fun v34:Bool=>St.mk' [(0,pp 0),(1,sv a2),(7,iv s30),(9,pp 5),(86,bv v34)] [(0,.box [rr 2 x17.2.Files,iv x17.2.Budget,iv x17.2.Writes,iv x17.2.Stop,bv x17.2.Down]),(2,rE 2 (File.enc false) x17.2.Files),(4,rE 1 eU8 x20),(5,.box [sv a2,rr 4 x20])]) (fun v34=>?_) (fun jv34=>?_)
 ·refine zU 86 (fun h35=>?_) (fun h35=>?_)
  ·refine J_d 65506 [] [7,86] [(7,iv (w64 (s30+1)))] [] [] zC ?_
   exact J_q (J_b (ih (w64 (s30+1)))) rfl
  ·exact xZ (hk s30) rfl
 ·refine xK (fun h31=>?_) (fun h31=>?_)
  ·refine zB (fun x32 h33=>?_)
   refine J_d 65504 [] [86] [(86,bv (slt x32.Path a2))] [] [] (yQ 7 [(74,bv (decide (s30< (x17.2.Files.length:Int))))] [] h31 (tH 13 7 75 true (zAf (kk:=.i64) 24 35 2 2 (File.enc false) (.tmp 79) (.tmp 80) h33) (tH 15 7 75 true (zBt (d:=sv x32.Path) 9 2 2 0 (File.enc false) (.tmp 82) h33 (by kernel_rfl)) zC))) ?_
   exact xZ (J_j (jv34 (slt x32.Path a2))) rfl
  ·refine J_d 65504 [] [86] [(86,bv false)] [] [] (yQ 7 [(74,bv (decide (s30< (x17.2.Files.length:Int))))] [] h31 zC) ?_
   exact xZ (J_j (jv34 false)) rfl
theorem zAu.ok (a1:zA) (a2:ByteArray) (a3:(List Int)):Ok Try.prog 40 [pp 0,sv a2,rr 1 a3] [.box [so 2 (File.enc false) a1.Files,iv a1.Budget,iv a1.Writes,iv a1.Stop,bv a1.Down],rE 1 eU8 a3] ((yY a1 a2 a3).map fun r=>(iv r.1,[.box [so 2 (File.enc false) r.2.Files,iv r.2.Budget,iv r.2.Writes,iv r.2.Stop,bv r.2.Down]])):=by
 refine zS c40 Try.f40 2 110 (fun q=>?_)
 unfold yY
 refine yB 0 (cs':=[rr 2 a1.Files,iv a1.Budget,iv a1.Writes,iv a1.Stop,bv a1.Down]) (es:=[(2,rE 2 (File.enc false) a1.Files)]) rfl (.cons (.own 2) (.cons (.same rfl rfl) (.cons (.same rfl rfl) (.cons (.same rfl rfl) (.cons (.same rfl rfl) (.nil)))))) rfl (by kernel_rfl) (by kernel_rfl) ?_
 refine xW [(0,pp 0),(1,sv a2),(2,rr 1 a3)] [(0,.box [rr 2 a1.Files,iv a1.Budget,iv a1.Writes,iv a1.Stop,bv a1.Down]),(1,rE 1 eU8 a3),(2,rE 2 (File.enc false) a1.Files)] (by kernel_rfl) ?_
 refine J_g 2 [] [(0,pp 0),(1,sv a2),(2,rr 1 a3)] [(0,.box [rr 2 a1.Files,iv a1.Budget,iv a1.Writes,iv a1.Stop,bv a1.Down]),(1,rE 1 eU8 a3),(2,rE 2 (File.enc false) a1.Files)] zC ?_
 refine yI 0 (cs':=[so 2 (File.enc false) a1.Files,iv a1.Budget,iv a1.Writes,iv a1.Stop,bv a1.Down]) (ts:=[2]) rfl (.move (.tail _ (.head _)) (List.length_map _) (by decide) (.keep rfl (.keep rfl (.keep rfl (.keep rfl (.nil)))))) ?_
 refine xW [(0,pp 0),(1,sv a2),(2,rr 1 a3)] [(0,.box [so 2 (File.enc false) a1.Files,iv a1.Budget,iv a1.Writes,iv a1.Stop,bv a1.Down]),(1,rE 1 eU8 a3)] (by kernel_rfl) ?_
 refine zB (fun x4 h5=>?_)
 refine J_g 6 [] [(0,pp 0),(1,sv a2),(2,rr 1 a3),(7,iv x4)] [(0,.box [so 2 (File.enc false) a1.Files,iv a1.Budget,iv a1.Writes,iv a1.Stop,bv a1.Down]),(1,rE 1 eU8 a3)] (zP 2 (zDN [(0,.box [so 2 (File.enc false) a1.Files,iv a1.Budget,iv a1.Writes,iv a1.Stop,bv a1.Down])] [] (wH («as»:=[pp 0,sv a2]) [(.tmp 10),(.tmp 11)] [55,9] false [(0,.box [so 2 (File.enc false) a1.Files,iv a1.Budget,iv a1.Writes,iv a1.Stop,bv a1.Down])] [0] (.cons (.pt rfl) (.cons (.same rfl) (.nil))) (zAS.ok a1 a2) h5 (.same rfl rfl))) zC) ?_
 refine yB 0 (cs':=[rr 2 a1.Files,iv a1.Budget,iv a1.Writes,iv a1.Stop,bv a1.Down]) (es:=[(2,rE 2 (File.enc false) a1.Files)]) rfl (.cons (.own 2) (.cons (.same rfl rfl) (.cons (.same rfl rfl) (.cons (.same rfl rfl) (.cons (.same rfl rfl) (.nil)))))) rfl (by kernel_rfl) (by kernel_rfl) ?_
 refine xW [(0,pp 0),(1,sv a2),(2,rr 1 a3),(7,iv x4)] [(0,.box [rr 2 a1.Files,iv a1.Budget,iv a1.Writes,iv a1.Stop,bv a1.Down]),(1,rE 1 eU8 a3),(2,rE 2 (File.enc false) a1.Files)] (by kernel_rfl) ?_
 refine J_g 14 [] [(0,pp 0),(1,sv a2),(2,rr 1 a3),(7,iv x4),(8,iv 0)] [(0,.box [rr 2 a1.Files,iv a1.Budget,iv a1.Writes,iv a1.Stop,bv a1.Down]),(1,rE 1 eU8 a3),(2,rE 2 (File.enc false) a1.Files)] zC ?_
 refine J_d 60 [] [14] [(14,bv (decide (x4≥0)))] [] [] zC ?_
 refine xV (atI c40 31) (fun v9:Int=>St.mk' [(0,pp 0),(1,sv a2),(2,rr 1 a3),(7,iv x4),(8,iv v9)] [(0,.box [rr 2 a1.Files,iv a1.Budget,iv a1.Writes,iv a1.Stop,bv a1.Down]),(1,rE 1 eU8 a3),(2,rE 2 (File.enc false) a1.Files)]) (fun v9=>?_) (fun jv9=>?_)
 ·refine xV (atI c40 125) (fun v12:Bool=>St.mk' [(0,pp 0),(1,sv a2),(2,rr 1 a3),(7,iv x4),(8,iv v9),(38,bv v12)] [(0,.box [rr 2 a1.Files,iv a1.Budget,iv a1.Writes,iv a1.Stop,bv a1.Down]),(1,rE 1 eU8 a3),(2,rE 2 (File.enc false) a1.Files)]) (fun v12=>?_) (fun jv12=>?_)
  ·refine zU 38 (fun h13=>?_) (fun h13=>?_)
   ·refine J_g 500 [] [(6,iv 2)] [(0,.box [rr 2 a1.Files,iv a1.Budget,iv a1.Writes,iv a1.Stop,bv a1.Down]),(1,rE 1 eU8 a3),(2,rE 2 (File.enc false) a1.Files)] zC ?_
    refine yI 0 (cs':=[so 2 (File.enc false) a1.Files,iv a1.Budget,iv a1.Writes,iv a1.Stop,bv a1.Down]) (ts:=[2]) rfl (.move (.tail _ (.head _)) (List.length_map _) (by decide) (.keep rfl (.keep rfl (.keep rfl (.keep rfl (.nil)))))) ?_
    refine xW [(6,iv 2)] [(0,.box [so 2 (File.enc false) a1.Files,iv a1.Budget,iv a1.Writes,iv a1.Stop,bv a1.Down]),(1,rE 1 eU8 a3)] (by kernel_rfl) ?_
    exact xI rfl
   ·refine yI 0 (cs':=[so 2 (File.enc false) a1.Files,iv a1.Budget,iv a1.Writes,iv a1.Stop,bv a1.Down]) (ts:=[2]) rfl (.move (.tail _ (.head _)) (List.length_map _) (by decide) (.keep rfl (.keep rfl (.keep rfl (.keep rfl (.nil)))))) ?_
    refine xW [(0,pp 0),(1,sv a2),(2,rr 1 a3),(7,iv x4),(8,iv v9),(38,bv false)] [(0,.box [so 2 (File.enc false) a1.Files,iv a1.Budget,iv a1.Writes,iv a1.Stop,bv a1.Down]),(1,rE 1 eU8 a3)] (by kernel_rfl) ?_
    refine zB (fun x14 h15=>?_)
    refine J_g 252 [] [(0,pp 0),(1,sv a2),(2,rr 1 a3),(7,iv x4),(50,bv (decide ((w64 ((w64 (x14-v9))+(a3.length:Int)))>a1.Budget)))] [(0,.box [so 2 (File.enc false) a1.Files,iv a1.Budget,iv a1.Writes,iv a1.Stop,bv a1.Down]),(1,rE 1 eU8 a3)] (zP 1 (zDN [(0,.box [so 2 (File.enc false) a1.Files,iv a1.Budget,iv a1.Writes,iv a1.Stop,bv a1.Down])] [] (wH («as»:=[pp 0]) [(.tmp 39)] [55] false [(0,.box [so 2 (File.enc false) a1.Files,iv a1.Budget,iv a1.Writes,iv a1.Stop,bv a1.Down])] [0] (.cons (.pt rfl) (.nil)) (tX.ok a1) h15 (.same rfl rfl))) zC) ?_
    refine yB 0 (cs':=[rr 2 a1.Files,iv a1.Budget,iv a1.Writes,iv a1.Stop,bv a1.Down]) (es:=[(2,rE 2 (File.enc false) a1.Files)]) rfl (.cons (.own 2) (.cons (.same rfl rfl) (.cons (.same rfl rfl) (.cons (.same rfl rfl) (.cons (.same rfl rfl) (.nil)))))) rfl (by kernel_rfl) (by kernel_rfl) ?_
    refine xW [(0,pp 0),(1,sv a2),(2,rr 1 a3),(7,iv x4),(50,bv (decide ((w64 ((w64 (x14-v9))+(a3.length:Int)))>a1.Budget)))] [(0,.box [rr 2 a1.Files,iv a1.Budget,iv a1.Writes,iv a1.Stop,bv a1.Down]),(1,rE 1 eU8 a3),(2,rE 2 (File.enc false) a1.Files)] (by kernel_rfl) ?_
    refine zU 50 (fun h16=>?_) (fun h16=>?_)
    ·refine J_g 1012 [] [(6,iv 8)] [(0,.box [rr 2 a1.Files,iv a1.Budget,iv a1.Writes,iv a1.Stop,bv a1.Down]),(1,rE 1 eU8 a3),(2,rE 2 (File.enc false) a1.Files)] zC ?_
     refine yI 0 (cs':=[so 2 (File.enc false) a1.Files,iv a1.Budget,iv a1.Writes,iv a1.Stop,bv a1.Down]) (ts:=[2]) rfl (.move (.tail _ (.head _)) (List.length_map _) (by decide) (.keep rfl (.keep rfl (.keep rfl (.keep rfl (.nil)))))) ?_
     refine xW [(6,iv 8)] [(0,.box [so 2 (File.enc false) a1.Files,iv a1.Budget,iv a1.Writes,iv a1.Stop,bv a1.Down]),(1,rE 1 eU8 a3)] (by kernel_rfl) ?_
     exact xI rfl
    ·refine yI 0 (cs':=[so 2 (File.enc false) a1.Files,iv a1.Budget,iv a1.Writes,iv a1.Stop,bv a1.Down]) (ts:=[2]) rfl (.move (.tail _ (.head _)) (List.length_map _) (by decide) (.keep rfl (.keep rfl (.keep rfl (.keep rfl (.nil)))))) ?_
     refine xW [(0,pp 0),(1,sv a2),(2,rr 1 a3),(7,iv x4),(50,bv false)] [(0,.box [so 2 (File.enc false) a1.Files,iv a1.Budget,iv a1.Writes,iv a1.Stop,bv a1.Down]),(1,rE 1 eU8 a3)] (by kernel_rfl) ?_
     refine zB (fun x17 h18=>?_)
     refine J_g 508 [] [(0,pp 0),(1,sv a2),(2,rr 1 a3),(7,iv x4),(53,bv (!x17.1))] [(0,.box [so 2 (File.enc false) x17.2.Files,iv x17.2.Budget,iv x17.2.Writes,iv x17.2.Stop,bv x17.2.Down]),(1,rE 1 eU8 a3)] (zP 1 (wH («as»:=[pp 0]) [(.tmp 51)] [55] false [(0,.box [so 2 (File.enc false) a1.Files,iv a1.Budget,iv a1.Writes,iv a1.Stop,bv a1.Down])] [0] (.cons (.pt rfl) (.nil)) (zBs.ok a1) h18 (.same rfl rfl)) zC) ?_
     refine yB 0 (cs':=[rr 2 x17.2.Files,iv x17.2.Budget,iv x17.2.Writes,iv x17.2.Stop,bv x17.2.Down]) (es:=[(2,rE 2 (File.enc false) x17.2.Files)]) rfl (.cons (.own 2) (.cons (.same rfl rfl) (.cons (.same rfl rfl) (.cons (.same rfl rfl) (.cons (.same rfl rfl) (.nil)))))) rfl (by kernel_rfl) (by kernel_rfl) ?_
     refine xW [(0,pp 0),(1,sv a2),(2,rr 1 a3),(7,iv x4),(53,bv (!x17.1))] [(0,.box [rr 2 x17.2.Files,iv x17.2.Budget,iv x17.2.Writes,iv x17.2.Stop,bv x17.2.Down]),(1,rE 1 eU8 a3),(2,rE 2 (File.enc false) x17.2.Files)] (by kernel_rfl) ?_
     refine zU 53 (fun h19=>?_) (fun h19=>?_)
     ·refine J_g 2036 [] [(6,iv 9)] [(0,.box [rr 2 x17.2.Files,iv x17.2.Budget,iv x17.2.Writes,iv x17.2.Stop,bv x17.2.Down]),(1,rE 1 eU8 a3),(2,rE 2 (File.enc false) x17.2.Files)] zC ?_
      refine yI 0 (cs':=[so 2 (File.enc false) x17.2.Files,iv x17.2.Budget,iv x17.2.Writes,iv x17.2.Stop,bv x17.2.Down]) (ts:=[2]) rfl (.move (.tail _ (.head _)) (List.length_map _) (by decide) (.keep rfl (.keep rfl (.keep rfl (.keep rfl (.nil)))))) ?_
      refine xW [(6,iv 9)] [(0,.box [so 2 (File.enc false) x17.2.Files,iv x17.2.Budget,iv x17.2.Writes,iv x17.2.Stop,bv x17.2.Down]),(1,rE 1 eU8 a3)] (by kernel_rfl) ?_
      exact xI rfl
     ·refine zB (fun x20 h21=>?_)
      refine J_g 510 [(5,5)] [(0,pp 0),(1,sv a2),(7,iv x4),(9,pp 5)] [(0,.box [rr 2 x17.2.Files,iv x17.2.Budget,iv x17.2.Writes,iv x17.2.Stop,bv x17.2.Down]),(2,rE 2 (File.enc false) x17.2.Files),(4,rE 1 eU8 x20),(5,.box [sv a2,rr 4 x20])] (zP 1 (zAN 22 5 1 3 eU8 ([]:List Int) [] [] []) (zP 3 (zEg 22 22 5 5 1 1 4 3 1 eU8 (.tmp 55) (.tmp 56) h21) zC)) ?_
      refine J_d 2044 [] [60] [(60,bv (decide (x4≥0)))] [] [] zC ?_
      refine zU 60 (fun h22=>?_) (fun h22=>?_)
      ·refine zB (fun x23 h24=>?_)
       refine xW [(0,pp 0),(1,sv a2),(7,iv x4),(9,pp 5),(60,bv true)] [(4,rE 1 eU8 x20),(0,.box [rr 2 x17.2.Files,iv x17.2.Budget,iv x17.2.Writes,iv x17.2.Stop,bv x17.2.Down]),(2,rE 2 (File.enc false) x17.2.Files),(5,.box [sv a2,rr 4 x20])] (by kernel_rfl) ?_
       refine zEO 4 (z:=1) (xs:=x20.map eU8) (tm2:=[(0,pp 0),(1,sv a2),(7,iv x4),(9,pp 5),(60,bv true)]) (hp2:=[(0,.box [rr 2 x17.2.Files,iv x17.2.Budget,iv x17.2.Writes,iv x17.2.Stop,bv x17.2.Down]),(2,rE 2 (File.enc false) x17.2.Files),(5,.box [sv a2,sl 1 eU8 x20])]) (.cons (.keep rfl) (.cons (.keep rfl) (.cons (.keep rfl) (.cons (.keep rfl) (.cons (.keep rfl) (.nil)))))) (.keep rfl (.keep rfl (.box rfl (.cons (.keep rfl) (.cons (.rf (by simp) (zBD (enc:=eU8) (enc':=eU8) (fun _=>rfl) x20 rfl rfl)) (.nil))) (.nil)))) rfl ?_
       refine J_g 8180 [] [] [(0,.box [rr 2 x17.2.Files,iv x17.2.Budget,iv x17.2.Writes,iv x17.2.Stop,bv x17.2.Down]),(2,rE 2 (File.enc false) (x17.2.Files.set x4.toNat ({Path:=a2,Data:=x20}:File)))] (zP 6 (zAf (kk:=.i64) 24 35 2 2 (File.enc false) (.tmp 64) (.tmp 65) h24) (zF4 7 (zFS (b:=({Path:=a2,Data:=x20}:File)) 35 2 2 0 (File.enc false) (.ag [sv a2,sl 1 eU8 x20]) (.tmp 67) (.tmp 66) h24 rfl) zC)) ?_
       refine zF1 (σ':=St.mk' [] [(0,.box [rr 2 (x17.2.Files.set x4.toNat ({Path:=a2,Data:=x20}:File)),iv x17.2.Budget,iv x17.2.Writes,iv x17.2.Stop,bv x17.2.Down]),(2,rE 2 (File.enc false) (x17.2.Files.set x4.toNat ({Path:=a2,Data:=x20}:File)))]) (by simp only [rr,List.length_set]) ?_
       refine J_g 16362 [] [(6,iv 0)] [(0,.box [rr 2 (x17.2.Files.set x4.toNat ({Path:=a2,Data:=x20}:File)),iv x17.2.Budget,iv x17.2.Writes,iv x17.2.Stop,bv x17.2.Down]),(2,rE 2 (File.enc false) (x17.2.Files.set x4.toNat ({Path:=a2,Data:=x20}:File)))] zC ?_
       refine yI 0 (cs':=[so 2 (File.enc false) (x17.2.Files.set x4.toNat ({Path:=a2,Data:=x20}:File)),iv x17.2.Budget,iv x17.2.Writes,iv x17.2.Stop,bv x17.2.Down]) (ts:=[2]) rfl (.move (.head _) (List.length_map _) (by decide) (.keep rfl (.keep rfl (.keep rfl (.keep rfl (.nil)))))) ?_
       refine xW [(6,iv 0)] [(0,.box [so 2 (File.enc false) (x17.2.Files.set x4.toNat ({Path:=a2,Data:=x20}:File)),iv x17.2.Budget,iv x17.2.Writes,iv x17.2.Stop,bv x17.2.Down])] (by kernel_rfl) ?_
       exact xI rfl
      ·refine J_d 2046 [] [7,60] [(7,iv 0)] [] [] zC ?_
       refine zDi (kQ.ok a2 x17 x20 q _ (fun v36=>J_j ?_) 0)
       refine zB (fun x37 h38=>?_)
       refine zB (fun x39 h40=>?_)
       refine xW [(0,pp 0),(7,iv v36),(9,pp 5)] [(4,rE 1 eU8 x20),(0,.box [rr 2 x17.2.Files,iv x17.2.Budget,iv x17.2.Writes,iv x17.2.Stop,bv x17.2.Down]),(2,rE 2 (File.enc false) x17.2.Files),(5,.box [sv a2,rr 4 x20])] (by kernel_rfl) ?_
       refine zEO 4 (z:=1) (xs:=x20.map eU8) (tm2:=[(0,pp 0),(7,iv v36),(9,pp 5)]) (hp2:=[(0,.box [rr 2 x17.2.Files,iv x17.2.Budget,iv x17.2.Writes,iv x17.2.Stop,bv x17.2.Down]),(2,rE 2 (File.enc false) x17.2.Files),(5,.box [sv a2,sl 1 eU8 x20])]) (.cons (.keep rfl) (.cons (.keep rfl) (.cons (.keep rfl) (.nil)))) (.keep rfl (.keep rfl (.box rfl (.cons (.keep rfl) (.cons (.rf (by simp) (zBD (enc:=eU8) (enc':=eU8) (fun _=>rfl) x20 rfl rfl)) (.nil))) (.nil)))) rfl ?_
       refine zB (fun x41 h42=>?_)
       refine zB (fun x43 h44=>?_)
       refine zB (fun x45 h46=>?_)
       refine J_g 8190 [] [] [(0,.box [rr 10 x45,iv x17.2.Budget,iv x17.2.Writes,iv x17.2.Stop,bv x17.2.Down]),(10,rE 2 (File.enc false) x45)] (zP 1 (zAN 24 35 2 6 (File.enc false) ([]:List File) [] [] []) (zP 7 (zEh 24 35 2 2 (File.enc false) (.tmp 94) none (some (.tmp 95)) h38) (zP 8 (zEa (ys:=x17.2.Files) (l:=0) (hi:=v36) 24 24 35 35 2 40 7 6 2 (File.enc false) (.tmp 90) (.tmp 96) h38 h40) (zP 10 (zAN 24 35 2 8 (File.enc false) [({Path:=a2,Data:=x20}:File)] [0] [(.tmp 98)] [.ag [sv a2,sl 1 eU8 x20]]) (zP 11 (zEg 24 24 35 35 2 40 9 7 8 (File.enc false) (.tmp 97) (.tmp 99) h42) (zP 17 (zEh 24 35 2 2 (File.enc false) (.tmp 104) (some (.tmp 105)) none h44) (zP 18 (zEa (ys:=x17.2.Files) (l:=v36) (hi:=(x17.2.Files.length:Int)) 24 24 35 35 2 40 10 9 2 (File.enc false) (.tmp 100) (.tmp 106) h44 h46) zC))))))) ?_
       refine J_g 16382 [] [(6,iv 0)] [(0,.box [rr 10 x45,iv x17.2.Budget,iv x17.2.Writes,iv x17.2.Stop,bv x17.2.Down]),(10,rE 2 (File.enc false) x45)] zC ?_
       refine yI 0 (cs':=[so 2 (File.enc false) x45,iv x17.2.Budget,iv x17.2.Writes,iv x17.2.Stop,bv x17.2.Down]) (ts:=[10]) rfl (.move (.head _) (List.length_map _) (by decide) (.keep rfl (.keep rfl (.keep rfl (.keep rfl (.nil)))))) ?_
       refine xW [(6,iv 0)] [(0,.box [so 2 (File.enc false) x45,iv x17.2.Budget,iv x17.2.Writes,iv x17.2.Stop,bv x17.2.Down])] (by kernel_rfl) ?_
       exact xI rfl
  ·refine xK (fun h10=>?_) (fun h10=>?_)
   ·refine J_d 124 [] [38] [(38,bv true)] [] [] (yQ 3 [(26,bv (decide ((a3.length:Int)>4000)))] [] h10 (wT 6 (wU (i:=6) (g:=3) (t:=27) (b:=false) (v:=(.bool true)) (.inl rfl) (by kernel_rfl) (by kernel_rfl)) (wT 7 (wU (i:=7) (g:=6) (t:=30) (b:=true) (v:=undef) (.inr rfl) (by kernel_rfl) (by kernel_rfl)) (wT 8 (wU (i:=8) (g:=6) (t:=30) (b:=true) (v:=undef) (.inr rfl) (by kernel_rfl) (by kernel_rfl)) (wT 9 (wU (i:=9) (g:=6) (t:=30) (b:=true) (v:=undef) (.inr rfl) (by kernel_rfl) (by kernel_rfl)) (wT 10 (wU (i:=10) (g:=6) (t:=30) (b:=true) (v:=undef) (.inr rfl) (by kernel_rfl) (by kernel_rfl)) (wT 11 (wU (i:=11) (g:=6) (t:=30) (b:=true) (v:=undef) (.inr rfl) (by kernel_rfl) (by kernel_rfl)) (wT 12 (wU (i:=12) (g:=6) (t:=30) (b:=true) (v:=undef) (.inr rfl) (by kernel_rfl) (by kernel_rfl)) zC)))))))) ?_
    exact xZ (J_j (jv12 true)) rfl
   ·refine xK (fun h11=>?_) (fun h11=>?_)
    ·refine J_d 124 [] [38] [(38,bv (decide ((a1.Files.length:Int)≥120)))] [] [] (yQ 3 [(26,bv (decide ((a3.length:Int)>4000)))] [] h10 (jX 6 3 27 false [(29,bv (decide (x4<0)))] [] h11 zC)) ?_
     exact xZ (J_j (jv12 (decide ((a1.Files.length:Int)≥120)))) rfl
    ·refine J_d 124 [] [38] [(38,bv false)] [] [] (yQ 3 [(26,bv (decide ((a3.length:Int)>4000)))] [] h10 (jX 6 3 27 false [(29,bv (decide (x4<0)))] [] h11 zC)) ?_
     exact xZ (J_j (jv12 false)) rfl
 ·refine zU 14 (fun h6=>?_) (fun h6=>?_)
  ·refine zB (fun x7 h8=>?_)
   refine J_d 122 [] [8,14] [(8,iv (x7.Data.length:Int))] [] [] (zP 5 (zAf (kk:=.i64) 24 35 2 2 (File.enc false) (.tmp 18) (.tmp 19) h8) (zP 7 (zBt (d:=sl 1 eU8 x7.Data) 22 2 2 1 (File.enc false) (.tmp 21) h8 (by kernel_rfl)) zC)) ?_
   exact xZ (J_j (jv9 (x7.Data.length:Int))) rfl
  ·exact xZ (J_j (jv9 0)) rfl
noncomputable def c23:Code:=(Try.f23.body).getD .skip
theorem xM.ok (a1:zL) (a2:Int):Ok Try.prog 23 [pp 0,iv a2] [.box (zL.enc false a1)] ((xM a1 a2).map fun r=>(bv r.1,[.box (zL.enc false r.2)])):=by
 refine zS c23 Try.f23 1 9 (fun q=>?_)
 unfold xM
 refine J_d 2 [] [] [] [] [] zC ?_
 refine zB (fun x3 h4=>?_)
 refine J_g 6 [] [(4,bv (x3.1==0))] [(0,.box (zL.enc false x3.2))] (zP 2 (wH («as»:=[pp 0,iv a2]) [(.tmp 5),(.tmp 6)] [48,2] false [(0,.box (zL.enc false a1))] [0] (.cons (.pt rfl) (.cons (.same rfl) (.nil))) (zM.ok a1 a2) h4 (.same rfl rfl)) zC) ?_
 exact xI rfl
noncomputable def c19:Code:=(Try.f19.body).getD .skip
theorem xL.ok (a1:zL):Ok Try.prog 19 [pp 0] [.box (zL.enc false a1)] ((xL a1).map fun r=>(sv r.1,[.box (zL.enc false r.2)])):=by
 refine zS c19 Try.f19 1 12 (fun q=>?_)
 unfold xL
 refine J_d 2 [] [] [] [] [] zC ?_
 refine zB (fun x2 h3=>?_)
 refine J_g 12 [] [(0,pp 0),(4,bv x2.1)] [(0,.box (zL.enc false x2.2))] (zP 1 (wH («as»:=[pp 0,iv 14]) [(.tmp 3),(.const (.int .i64 14))] [48,2] false [(0,.box (zL.enc false a1))] [0] (.cons (.pt rfl) (.cons (.same rfl) (.nil))) (xM.ok a1 14) h3 (.same rfl rfl)) zC) ?_
 refine zU 4 (fun h4=>?_) (fun h4=>?_)
 ·refine zB (fun x5 h6=>?_)
  refine zB (fun x7 h8=>?_)
  refine J_g 52 [] [(2,sv x7)] [(0,.box (zL.enc false x5.2))] (zP 0 (zAN 44 9 1 1 eStr [bs [],bs [65],bs [97,32,98],bs [97,98,99,100,101,102,103,104,105,106,97,98,99,100,101,102,103,104,105,106,97,98,99,100,101,102,103,104,105,106,97,98,99,100,101,102,103,104,105,106],bs [97,98,99,100,101,102,103,104,105,106,97,98,99,100,101,102,103,104,105,106,97,98,99,100,101,102,103,104,105,106,97,98,99,100,101,102,103,104,105,106,107],bs [97,10]] [0,1,2,3,4,5] [(.const (.string (bs []))),(.const (.string (bs [65]))),(.const (.string (bs [97,32,98]))),(.const (.string (bs [97,98,99,100,101,102,103,104,105,106,97,98,99,100,101,102,103,104,105,106,97,98,99,100,101,102,103,104,105,106,97,98,99,100,101,102,103,104,105,106]))),(.const (.string (bs [97,98,99,100,101,102,103,104,105,106,97,98,99,100,101,102,103,104,105,106,97,98,99,100,101,102,103,104,105,106,97,98,99,100,101,102,103,104,105,106,107]))),(.const (.string (bs [97,10])))] [sv (bs []),sv (bs [65]),sv (bs [97,32,98]),sv (bs [97,98,99,100,101,102,103,104,105,106,97,98,99,100,101,102,103,104,105,106,97,98,99,100,101,102,103,104,105,106,97,98,99,100,101,102,103,104,105,106]),sv (bs [97,98,99,100,101,102,103,104,105,106,97,98,99,100,101,102,103,104,105,106,97,98,99,100,101,102,103,104,105,106,97,98,99,100,101,102,103,104,105,106,107]),sv (bs [97,10])]) (zP 2 (wH («as»:=[pp 0,iv 6]) [(.tmp 6),(.const (.int .i64 6))] [48,2] false [(0,.box (zL.enc false x2.2))] [0] (.cons (.pt rfl) (.cons (.same rfl) (.nil))) (zM.ok x2.2 6) h6 (.same rfl rfl)) (zP 3 (zAf (kk:=.i64) 44 9 1 1 eStr (.tmp 5) (.tmp 7) h8) (zP 4 (zBt (d:=sv x7) 9 1 1 0 eStr (.tmp 8) h8 (by kernel_rfl)) zC)))) ?_
  exact xI rfl
 ·refine zB (fun x9 h10=>?_)
  refine J_g 14 [] [(2,sv x9.1)] [(0,.box (zL.enc false x9.2))] (zP 1 (wH («as»:=[pp 0]) [(.tmp 10)] [48] false [(0,.box (zL.enc false x2.2))] [0] (.cons (.pt rfl) (.nil)) (vC.ok x2.2) h10 (.same rfl rfl)) zC) ?_
  exact xI rfl
noncomputable def c18:Code:=(Try.f18.body).getD .skip
theorem uL.ok (q:Wd) (kn:((List Int)×Int×(List File)×Int×Int×Int×Bool)→Option (D×List Ent)) (hk:∀v:((List Int)×Int×(List File)×Int×Int×Int×Bool),J (q.g Try.prog 18 1 82) c18 (atI c18 15) (St.mk' [(0,pp 0),(2,pp 1),(3,pp 4)] [(0,.box [sl 1 eU8 v.1,iv v.2.1]),(1,.box [nv,iv 0,iv 0,iv 0,bv false]),(3,rE 2 (File.enc false) v.2.2.1),(4,.box [rr 3 v.2.2.1,iv v.2.2.2.1,iv v.2.2.2.2.1,iv v.2.2.2.2.2.1,bv v.2.2.2.2.2.2])]) (some v) kn):
  ∀s26:((List Int)×Int×(List File)×Int×Int×Int×Bool×Int),J (q.g Try.prog 18 1 82) c18 (atI c18 116) (St.mk' [(0,pp 0),(2,pp 1),(3,pp 4),(4,iv s26.2.2.2.2.2.2.2)] [(0,.box [sl 1 eU8 s26.1,iv s26.2.1]),(1,.box [nv,iv 0,iv 0,iv 0,bv false]),(3,rE 2 (File.enc false) s26.2.2.1),(4,.box [rr 3 s26.2.2.1,iv s26.2.2.2.1,iv s26.2.2.2.2.1,iv s26.2.2.2.2.2.1,bv s26.2.2.2.2.2.2.1])]) (uL s26) kn:=by
 refine zBg (fun g ih s26=>?_)
 unfold vZ
 refine J_d 464 [] [13] [(13,bv (decide (s26.2.2.2.2.2.2.2>0)))] [] [] zC ?_
 refine zU 13 (fun h27=>?_) (fun h27=>?_)
 ·refine zB (fun x28 h29=>?_)
  refine zB (fun x30 h31=>?_)
  refine zB (fun x32 h33=>?_)
  refine yI 4 (cs':=[so 2 (File.enc false) s26.2.2.1,iv s26.2.2.2.1,iv s26.2.2.2.2.1,iv s26.2.2.2.2.2.1,bv s26.2.2.2.2.2.2.1]) (ts:=[3]) rfl (.move (.tail _ (.tail _ (.head _))) (List.length_map _) (by decide) (.keep rfl (.keep rfl (.keep rfl (.keep rfl (.nil)))))) ?_
  refine xW [(0,pp 0),(2,pp 1),(3,pp 4),(4,iv s26.2.2.2.2.2.2.2),(13,bv true)] [(0,.box [sl 1 eU8 s26.1,iv s26.2.1]),(1,.box [nv,iv 0,iv 0,iv 0,bv false]),(4,.box [so 2 (File.enc false) s26.2.2.1,iv s26.2.2.2.1,iv s26.2.2.2.2.1,iv s26.2.2.2.2.2.1,bv s26.2.2.2.2.2.2.1])] (by kernel_rfl) ?_
  refine zB (fun x34 h35=>?_)
  refine J_g 932 [] [(0,pp 0),(2,pp 1),(3,pp 4),(4,iv s26.2.2.2.2.2.2.2)] [(0,.box (zL.enc false x32.2)),(1,.box [nv,iv 0,iv 0,iv 0,bv false]),(4,.box [so 2 (File.enc false) x34.2.Files,iv x34.2.Budget,iv x34.2.Writes,iv x34.2.Stop,bv x34.2.Down])] (zP 1 (wH («as»:=[pp 0]) [(.tmp 16)] [48] false [(0,.box [sl 1 eU8 s26.1,iv s26.2.1])] [0] (.cons (.pt rfl) (.nil)) (vC.ok ({Code:=s26.1,At:=s26.2.1}:zL)) h29 (.same rfl rfl)) (zP 4 (wH («as»:=[pp 0,iv 20]) [(.tmp 19),(.const (.int .i64 20))] [48,2] false [(0,.box (zL.enc false x28.2))] [0] (.cons (.pt rfl) (.cons (.same rfl) (.nil))) (zM.ok x28.2 20) h31 (.same rfl rfl)) (zP 5 (wH («as»:=[pp 0,iv x30.1]) [(.tmp 18),(.tmp 20)] [48,2] false [(0,.box (zL.enc false x30.2))] [0] (.cons (.pt rfl) (.cons (.same rfl) (.nil))) (wR.ok x30.2 x30.1) h33 (.own 5)) (zP 6 (wH («as»:=[pp 4,sv x28.1,rr 5 x32.1]) [(.tmp 3),(.tmp 17),(.tmp 21)] [55,9,22] false [(4,.box [so 2 (File.enc false) s26.2.2.1,iv s26.2.2.2.1,iv s26.2.2.2.2.1,iv s26.2.2.2.2.2.1,bv s26.2.2.2.2.2.2.1]),(5,rE 1 eU8 x32.1)] [4,5] (.cons (.pt rfl) (.cons (.same rfl) (.cons (.rf rfl) (.nil)))) (zAu.ok ({Files:=s26.2.2.1,Budget:=s26.2.2.2.1,Writes:=s26.2.2.2.2.1,Stop:=s26.2.2.2.2.2.1,Down:=s26.2.2.2.2.2.2.1}:zA) x28.1 x32.1) h35 (.same rfl rfl)) zC)))) ?_
  refine yB 4 (cs':=[rr 5 x34.2.Files,iv x34.2.Budget,iv x34.2.Writes,iv x34.2.Stop,bv x34.2.Down]) (es:=[(5,rE 2 (File.enc false) x34.2.Files)]) rfl (.cons (.own 5) (.cons (.same rfl rfl) (.cons (.same rfl rfl) (.cons (.same rfl rfl) (.cons (.same rfl rfl) (.nil)))))) rfl (by kernel_rfl) (by kernel_rfl) ?_
  refine xW [(0,pp 0),(2,pp 1),(3,pp 4),(4,iv s26.2.2.2.2.2.2.2)] [(0,.box (zL.enc false x32.2)),(1,.box [nv,iv 0,iv 0,iv 0,bv false]),(4,.box [rr 5 x34.2.Files,iv x34.2.Budget,iv x34.2.Writes,iv x34.2.Stop,bv x34.2.Down]),(5,rE 2 (File.enc false) x34.2.Files)] (by kernel_rfl) ?_
  refine J_d 467 [] [4] [(4,iv (w64 (s26.2.2.2.2.2.2.2-1)))] [] [] zC ?_
  refine zAT 5 3 (Nat.le_of_ble_eq_true rfl) (Nat.le_of_ble_eq_true rfl) ?_
  exact J_q (J_b (ih (x32.2.Code,x32.2.At,x34.2.Files,x34.2.Budget,x34.2.Writes,x34.2.Stop,x34.2.Down,w64 (s26.2.2.2.2.2.2.2-1)))) rfl
 ·exact xZ (hk (s26.1,s26.2.1,s26.2.2.1,s26.2.2.2.1,s26.2.2.2.2.1,s26.2.2.2.2.2.1,s26.2.2.2.2.2.2.1)) rfl
theorem uO.ok (a1:zL):Ok Try.prog 18 [pp 0] [.box (zL.enc false a1)] ((uO a1).map fun r=>(.ag [so 2 (File.enc false) r.1.Files,iv r.1.Budget,iv r.1.Writes,iv r.1.Stop,bv r.1.Down],[.box (zL.enc false r.2)])):=by
 refine zS c18 Try.f18 1 82 (fun q=>?_)
 unfold uO
 refine J_d 2 [(0,1)] [2] [(2,pp 1)] [1] [(1,.box [nv,iv 0,iv 0,iv 0,bv false])] zC ?_
 refine zB (fun x2 h3=>?_)
 refine zB (fun x4 h5=>?_)
 refine J_d 6 [(5,4)] [3] [(3,pp 4)] [0,3,4] [(0,.box (zL.enc false x2.2)),(3,rE 2 (File.enc true) x4.zA.Files),(4,.box [rr 3 x4.zA.Files,iv x4.zA.Budget,iv x4.zA.Writes,iv x4.zA.Stop,bv x4.zA.Down])] (zP 1 (zAN 75 2 1 2 zBJ [100,40,1000,20000] [0,1,2,3] [(.const (.int .i64 100)),(.const (.int .i64 40)),(.const (.int .i64 1000)),(.const (.int .i64 20000))] [iv 100,iv 40,iv 1000,iv 20000]) (zP 2 (wH («as»:=[pp 0,rr 2 [100,40,1000,20000]]) [(.tmp 5),(.tmp 6)] [48,75] false [(0,.box (zL.enc false a1)),(2,rE 1 zBJ [100,40,1000,20000])] [0,2] (.cons (.pt rfl) (.cons (.rf rfl) (.nil))) (yL.ok a1 [100,40,1000,20000]) h3 (.same rfl rfl)) (zP 3 (wH («as»:=[iv x2.1]) [(.tmp 7)] [2] false [] [] (.cons (.same rfl) (.nil)) (vF.ok x2.1) h5 (.ag (.cons (.same rfl rfl) (.cons (.own 3) (.cons (.same rfl rfl) (.cons (.same rfl rfl) (.cons (.same rfl rfl) (.cons (.same rfl rfl) (.nil))))))))) zC))) ?_
 refine zB (fun x6 h7=>?_)
 refine J_d 28 [] [4] [(4,iv x6.1)] [0] [(0,.box (zL.enc false x6.2))] (zP 1 (wH («as»:=[pp 0,iv 6]) [(.tmp 10),(.const (.int .i64 6))] [48,2] false [(0,.box (zL.enc false x2.2))] [0] (.cons (.pt rfl) (.cons (.same rfl) (.nil))) (zM.ok x2.2 6) h7 (.same rfl rfl)) zC) ?_
 refine xW [(0,pp 0),(2,pp 1),(3,pp 4),(4,iv x6.1)] [(3,rE 2 (File.enc true) x4.zA.Files),(0,.box (zL.enc false x6.2)),(1,.box [nv,iv 0,iv 0,iv 0,bv false]),(4,.box [rr 3 x4.zA.Files,iv x4.zA.Budget,iv x4.zA.Writes,iv x4.zA.Stop,bv x4.zA.Down])] (by kernel_rfl) ?_
 refine zBC 3 (uU (enc:=(File.enc true)) (enc':=(File.enc false)) (File.ro true) _) ?_
 refine xW [(0,pp 0),(2,pp 1),(3,pp 4),(4,iv x6.1)] [(0,.box (zL.enc false x6.2)),(1,.box [nv,iv 0,iv 0,iv 0,bv false]),(3,rE 2 (File.enc false) x4.zA.Files),(4,.box [rr 3 x4.zA.Files,iv x4.zA.Budget,iv x4.zA.Writes,iv x4.zA.Stop,bv x4.zA.Down])] (by kernel_rfl) ?_
 refine zDi (uL.ok q _ (fun v36=>J_j ?_) (x6.2.Code,x6.2.At,x4.zA.Files,x4.zA.Budget,x4.zA.Writes,x4.zA.Stop,x4.zA.Down,x6.1))
 refine zB (fun x37 h38=>?_)
 refine J_d 30 [] [] [] [0,4] [(0,.box (zL.enc false x37.2)),(4,.box [rr 3 v36.2.2.1,iv v36.2.2.2.1,iv v36.2.2.2.2.1,iv x37.1,bv v36.2.2.2.2.2.2])] (zP 6 (zAN 75 2 1 5 zBJ [(-1),(-1),(-1),v36.2.2.2.2.1,w64 (v36.2.2.2.2.1+1),0] [0,1,2,3,4,5] [(.const (.int .i64 (-1))),(.const (.int .i64 (-1))),(.const (.int .i64 (-1))),(.tmp 25),(.tmp 28),(.const (.int .i64 0))] [iv (-1),iv (-1),iv (-1),iv v36.2.2.2.2.1,iv (w64 (v36.2.2.2.2.1+1)),iv 0]) (zP 7 (wH («as»:=[pp 0,rr 5 [(-1),(-1),(-1),v36.2.2.2.2.1,w64 (v36.2.2.2.2.1+1),0]]) [(.tmp 23),(.tmp 29)] [48,75] false [(0,.box [sl 1 eU8 v36.1,iv v36.2.1]),(5,rE 1 zBJ [(-1),(-1),(-1),v36.2.2.2.2.1,w64 (v36.2.2.2.2.1+1),0])] [0,5] (.cons (.pt rfl) (.cons (.rf rfl) (.nil))) (yL.ok ({Code:=v36.1,At:=v36.2.1}:zL) [(-1),(-1),(-1),v36.2.2.2.2.1,w64 (v36.2.2.2.2.1+1),0]) h38 (.same rfl rfl)) zC)) ?_
 refine zB (fun x39 h40=>?_)
 refine J_d 124 [] [33] [(33,bv x39.1)] [0] [(0,.box (zL.enc false x39.2))] (zP 1 (wH («as»:=[pp 0,iv 10]) [(.tmp 32),(.const (.int .i64 10))] [48,2] false [(0,.box (zL.enc false x37.2))] [0] (.cons (.pt rfl) (.cons (.same rfl) (.nil))) (xM.ok x37.2 10) h40 (.same rfl rfl)) zC) ?_
 refine xV (atI c18 63) (fun v42:Bool=>St.mk' [(0,pp 0),(2,pp 1),(3,pp 4)] [(0,.box (zL.enc false x39.2)),(1,.box [nv,iv 0,iv 0,iv 0,bv false]),(3,rE 2 (File.enc false) v36.2.2.1),(4,.box [rr 3 v36.2.2.1,iv v36.2.2.2.1,iv v36.2.2.2.2.1,iv x37.1,bv v42])]) (fun v42=>?_) (fun jv42=>?_)
 ·refine zB (fun x43 h44=>?_)
  refine J_g 252 [] [(0,pp 0),(2,pp 1),(3,pp 4),(36,iv x43.1)] [(0,.box (zL.enc false x43.2)),(1,.box [nv,iv 0,iv 0,iv 0,bv false]),(3,rE 2 (File.enc false) v36.2.2.1),(4,.box [rr 3 v36.2.2.1,iv v36.2.2.2.1,iv v36.2.2.2.2.1,iv x37.1,bv v42])] (zP 1 (wH («as»:=[pp 0,iv 30]) [(.tmp 35),(.const (.int .i64 30))] [48,2] false [(0,.box (zL.enc false x39.2))] [0] (.cons (.pt rfl) (.cons (.same rfl) (.nil))) (zM.ok x39.2 30) h44 (.same rfl rfl)) zC) ?_
  refine J_d 1012 [] [37] [(37,bv (x43.1==0))] [] [] zC ?_
  refine xV (aft c18 506) (fun v69:((List Int)×Int×(List File)×Int×Int×Int)=>St.mk' [(2,pp 1),(3,pp 4)] [(0,.box [sl 1 eU8 v69.1,iv v69.2.1]),(1,.box [nv,iv 0,iv 0,iv 0,bv false]),(3,rE 2 (File.enc false) v69.2.2.1),(4,.box [rr 3 v69.2.2.1,iv v69.2.2.2.1,iv v69.2.2.2.2.1,iv v69.2.2.2.2.2,bv v42])]) (fun v69=>?_) (fun jv69=>?_)
  ·refine J_g 254 [] [(2,pp 1)] [(0,.box [sl 1 eU8 v69.1,iv v69.2.1]),(1,.box [rr 3 v69.2.2.1,iv v69.2.2.2.1,iv v69.2.2.2.2.1,iv v69.2.2.2.2.2,bv v42]),(3,rE 2 (File.enc false) v69.2.2.1)] zC ?_
   exact jS (ds:=[.ag [rr 3 v69.2.2.1,iv v69.2.2.2.1,iv v69.2.2.2.2.1,iv v69.2.2.2.2.2,bv v42]]) (ds':=[.ag [so 2 (File.enc false) v69.2.2.1,iv v69.2.2.2.1,iv v69.2.2.2.2.1,iv v69.2.2.2.2.2,bv v42]]) (.cons (.ag (.move (.tail _ (.tail _ (.head _))) (List.length_map _) (by decide) (.keep rfl (.keep rfl (.keep rfl (.keep rfl (.nil))))))) (.nil) (by decide)) rfl
  ·refine zU 37 (fun h45=>?_) (fun h45=>?_)
   ·refine zB (fun x46 h47=>?_)
    refine J_d 2026 [] [0,36,37] [] [0,4] [(0,.box (zL.enc false x46.2)),(4,.box [rr 3 v36.2.2.1,iv x46.1,iv v36.2.2.2.2.1,iv x37.1,bv v42])] (zP 1 (zAN 75 2 1 5 zBJ [(-1),0,5,20001] [0,1,2,3] [(.const (.int .i64 (-1))),(.const (.int .i64 0)),(.const (.int .i64 5)),(.const (.int .i64 20001))] [iv (-1),iv 0,iv 5,iv 20001]) (zP 2 (wH («as»:=[pp 0,rr 5 [(-1),0,5,20001]]) [(.tmp 39),(.tmp 40)] [48,75] false [(0,.box (zL.enc false x43.2)),(5,rE 1 zBJ [(-1),0,5,20001])] [0,5] (.cons (.pt rfl) (.cons (.rf rfl) (.nil))) (yL.ok x43.2 [(-1),0,5,20001]) h47 (.same rfl rfl)) zC)) ?_
    exact xZ (J_j (jv69 (x46.2.Code,x46.2.At,v36.2.2.1,x46.1,v36.2.2.2.2.1,x37.1))) rfl
   ·refine J_d 4054 [] [37,43] [(43,bv (x43.1==1))] [] [] zC ?_
    refine zU 43 (fun h48=>?_) (fun h48=>?_)
    ·refine zB (fun x49 h50=>?_)
     refine J_d 8110 [] [0,36,43] [] [0,4] [(0,.box (zL.enc false x49.2)),(4,.box [rr 3 v36.2.2.1,iv v36.2.2.2.1,iv x49.1,iv x37.1,bv v42])] (zP 1 (zAN 75 2 1 5 zBJ [(-1),1000000001] [0,1] [(.const (.int .i64 (-1))),(.const (.int .i64 1000000001))] [iv (-1),iv 1000000001]) (zP 2 (wH («as»:=[pp 0,rr 5 [(-1),1000000001]]) [(.tmp 45),(.tmp 46)] [48,75] false [(0,.box (zL.enc false x43.2)),(5,rE 1 zBJ [(-1),1000000001])] [0,5] (.cons (.pt rfl) (.cons (.rf rfl) (.nil))) (yL.ok x43.2 [(-1),1000000001]) h50 (.same rfl rfl)) zC)) ?_
     exact xZ (J_j (jv69 (x49.2.Code,x49.2.At,v36.2.2.1,v36.2.2.2.1,x49.1,x37.1))) rfl
    ·refine J_d 16222 [] [43,49] [(49,bv (x43.1==2))] [] [] zC ?_
     refine zU 49 (fun h51=>?_) (fun h51=>?_)
     ·refine zB (fun x52 h53=>?_)
      refine J_d 32446 [] [0,36,49] [] [0,4] [(0,.box (zL.enc false x52.2)),(4,.box [rr 3 v36.2.2.1,iv v36.2.2.2.1,iv v36.2.2.2.2.1,iv x52.1,bv v42])] (zP 1 (zAN 75 2 1 5 zBJ [(-2),1000000001] [0,1] [(.const (.int .i64 (-2))),(.const (.int .i64 1000000001))] [iv (-2),iv 1000000001]) (zP 2 (wH («as»:=[pp 0,rr 5 [(-2),1000000001]]) [(.tmp 51),(.tmp 52)] [48,75] false [(0,.box (zL.enc false x43.2)),(5,rE 1 zBJ [(-2),1000000001])] [0,5] (.cons (.pt rfl) (.cons (.rf rfl) (.nil))) (yL.ok x43.2 [(-2),1000000001]) h53 (.same rfl rfl)) zC)) ?_
      exact xZ (J_j (jv69 (x52.2.Code,x52.2.At,v36.2.2.1,v36.2.2.2.1,v36.2.2.2.2.1,x52.1))) rfl
     ·refine J_d 64894 [] [49,55] [(55,bv (x43.1==3))] [] [] zC ?_
      refine zU 55 (fun h54=>?_) (fun h54=>?_)
      ·refine zB (fun x55 h56=>?_)
       refine zB (fun x57 h58=>?_)
       refine zB (fun x59 h60=>?_)
       refine J_d 129790 [] [0,36,55] [] [0,3,4,7] [(0,.box (zL.enc false x57.2)),(4,.box [rr 7 x59,iv v36.2.2.2.1,iv v36.2.2.2.2.1,iv x37.1,bv v42]),(7,rE 2 (File.enc false) x59)] (zP 3 (wH («as»:=[pp 0]) [(.tmp 59)] [48] false [(0,.box (zL.enc false x43.2))] [0] (.cons (.pt rfl) (.nil)) (xL.ok x43.2) h56 (.same rfl rfl)) (zP 5 (zFH (d2:=sl 1 eU8 x57.1) 5 [(0,.box (zL.enc false x57.2))] (wH («as»:=[pp 0,iv 3]) [(.tmp 61),(.const (.int .i64 3))] [48,2] false [(0,.box (zL.enc false x55.2))] [0] (.cons (.pt rfl) (.cons (.same rfl) (.nil))) (wR.ok x55.2 3) h58 (.own 5)) (.rf (Nat.le_of_eq (by simp)) (zBD (enc:=eU8) (enc':=eU8) (fun _=>rfl) x57.1 rfl rfl))) (zP 7 (zAN 24 35 2 6 (File.enc false) [({Path:=x55.1,Data:=x57.1}:File)] [0] [(.tmp 63)] [.ag [sv x55.1,sl 1 eU8 x57.1]]) (zP 8 (zEg 24 24 35 35 2 40 7 3 6 (File.enc false) (.tmp 58) (.tmp 64) h60) zC)))) ?_
       refine zAT 7 3 (Nat.le_of_ble_eq_true rfl) (Nat.le_of_ble_eq_true rfl) ?_
       exact xZ (J_j (jv69 (x57.2.Code,x57.2.At,x59,v36.2.2.2.1,v36.2.2.2.2.1,x37.1))) rfl
      ·refine J_d 259582 [] [55,67] [(67,bv (x43.1==4))] [] [] zC ?_
       refine zU 67 (fun h61=>?_) (fun h61=>?_)
       ·refine zB (fun x62 h63=>?_)
        refine J_d 519166 [] [0,36,67] [] [3,4,5] [(4,.box [rr 5 x62,iv v36.2.2.2.1,iv v36.2.2.2.2.1,iv x37.1,bv v42]),(5,rE 2 (File.enc true) x62)] (zP 0 (zFJ 24 35 2 40 5 (File.enc true) ({Path:=ByteArray.empty,Data:=([]:List Int)}:File) (.const (.int .i64 121)) h63 (.keep rfl (.nilsl true 1 (.nil)))) zC) ?_
        refine xW [(2,pp 1),(3,pp 4)] [(5,rE 2 (File.enc true) x62),(0,.box (zL.enc false x43.2)),(1,.box [nv,iv 0,iv 0,iv 0,bv false]),(4,.box [rr 5 x62,iv v36.2.2.2.1,iv v36.2.2.2.2.1,iv x37.1,bv v42])] (by kernel_rfl) ?_
        refine zBC 5 (uU (enc:=(File.enc true)) (enc':=(File.enc false)) (File.ro true) _) ?_
        refine xW [(2,pp 1),(3,pp 4)] [(0,.box (zL.enc false x43.2)),(1,.box [nv,iv 0,iv 0,iv 0,bv false]),(4,.box [rr 5 x62,iv v36.2.2.2.1,iv v36.2.2.2.2.1,iv x37.1,bv v42]),(5,rE 2 (File.enc false) x62)] (by kernel_rfl) ?_
        refine zAT 5 3 (Nat.le_of_ble_eq_true rfl) (Nat.le_of_ble_eq_true rfl) ?_
        exact xZ (J_j (jv69 (x43.2.Code,x43.2.At,x62,v36.2.2.2.1,v36.2.2.2.2.1,x37.1))) rfl
       ·refine J_d 1038334 [] [36,67,71] [(71,bv (x43.1==5))] [] [] zC ?_
        refine zU 71 (fun h64=>?_) (fun h64=>?_)
        ·refine zB (fun x65 h66=>?_)
         refine zB (fun x67 h68=>?_)
         refine J_g 4153340 [] [(2,pp 1),(3,pp 4)] [(0,.box (zL.enc false x65.2)),(1,.box [nv,iv 0,iv 0,iv 0,bv false]),(4,.box [rr 6 [({Path:=bs [97],Data:=x67}:File)],iv v36.2.2.2.1,iv v36.2.2.2.2.1,iv x37.1,bv v42]),(6,rE 2 (File.enc true) [({Path:=bs [97],Data:=x67}:File)])] (zP 1 (wH («as»:=[pp 0,iv 2]) [(.tmp 73),(.const (.int .i64 2))] [48,2] false [(0,.box (zL.enc false x43.2))] [0] (.cons (.pt rfl) (.cons (.same rfl) (.nil))) (zM.ok x43.2 2) h66 (.same rfl rfl)) (zP 3 (zFJ 22 5 1 1 5 eU8 0 (.tmp 75) h68 (.keep rfl (.nil))) (zP 5 (zEZ (ds:=[sv (bs [97]),rr 5 x67]) (ts:=[5]) 24 35 2 6 (File.enc true) [({Path:=bs [97],Data:=x67}:File)] [0] [(.tmp 77)] [.ag [sv (bs [97]),rr 5 x67]] [(5,rE 1 eU8 x67)] (.keep rfl (.move (.head _) (List.length_map _) (by decide) (.nil)))) zC))) ?_
         refine J_d 4153341 [] [] [] [4] [(4,.box [rr 6 [({Path:=bs [97],Data:=x67}:File)],iv 20000,iv v36.2.2.2.2.1,iv x37.1,bv v42])] zC ?_
         refine xW [(2,pp 1),(3,pp 4)] [(6,rE 2 (File.enc true) [({Path:=bs [97],Data:=x67}:File)]),(0,.box (zL.enc false x65.2)),(1,.box [nv,iv 0,iv 0,iv 0,bv false]),(4,.box [rr 6 [({Path:=bs [97],Data:=x67}:File)],iv 20000,iv v36.2.2.2.2.1,iv x37.1,bv v42])] (by kernel_rfl) ?_
         refine zBC 6 (uU (enc:=(File.enc true)) (enc':=(File.enc false)) (File.ro true) _) ?_
         refine xW [(2,pp 1),(3,pp 4)] [(0,.box (zL.enc false x65.2)),(1,.box [nv,iv 0,iv 0,iv 0,bv false]),(4,.box [rr 6 [({Path:=bs [97],Data:=x67}:File)],iv 20000,iv v36.2.2.2.2.1,iv x37.1,bv v42]),(6,rE 2 (File.enc false) [({Path:=bs [97],Data:=x67}:File)])] (by kernel_rfl) ?_
         refine zAT 6 3 (Nat.le_of_ble_eq_true rfl) (Nat.le_of_ble_eq_true rfl) ?_
         exact xZ (J_j (jv69 (x65.2.Code,x65.2.At,[({Path:=bs [97],Data:=x67}:File)],20000,v36.2.2.2.2.1,x37.1))) rfl
        ·exact xZ (J_j (jv69 (x43.2.Code,x43.2.At,v36.2.2.1,v36.2.2.2.1,v36.2.2.2.2.1,x37.1))) rfl
 ·refine zU 33 (fun h41=>?_) (fun h41=>?_)
  ·refine J_d 250 [] [33] [] [4] [(4,.box [rr 3 v36.2.2.1,iv v36.2.2.2.1,iv v36.2.2.2.2.1,iv x37.1,bv true])] zC ?_
   exact xZ (J_j (jv42 true)) rfl
  ·exact xZ (J_j (jv42 v36.2.2.2.2.2.2)) rfl
noncomputable def c26:Code:=(Try.f26.body).getD .skip
theorem uY.ok (a1:Int) (a2:Int):Ok Try.prog 26 [iv a1,iv a2] [] ((uY a1 a2).map fun r=>(iv r,[])):=by
 refine zS c26 Try.f26 0 10 (fun q=>?_)
 unfold uY
 refine J_g 2 [] [(0,iv a1),(1,iv a2)] [] zC ?_
 refine J_d 12 [] [7] [(7,bv (decide (a1<a2)))] [] [] zC ?_
 refine zU 7 (fun h3=>?_) (fun h3=>?_)
 ·refine J_g 52 [] [(4,iv a1)] [] zC ?_
  exact xI rfl
 ·refine J_g 14 [] [(4,iv a2)] [] zC ?_
  exact xI rfl
noncomputable def c25:Code:=(Try.f25.body).getD .skip
theorem uZ.ok (a1:Int) (a2:Int):Ok Try.prog 25 [iv a1,iv a2] [] ((uZ a1 a2).map fun r=>(iv r,[])):=by
 refine zS c25 Try.f25 0 10 (fun q=>?_)
 unfold uZ
 refine J_g 2 [] [(0,iv a1),(1,iv a2)] [] zC ?_
 refine J_d 12 [] [7] [(7,bv (decide (a1>a2)))] [] [] zC ?_
 refine zU 7 (fun h3=>?_) (fun h3=>?_)
 ·refine J_g 52 [] [(4,iv a1)] [] zC ?_
  exact xI rfl
 ·refine J_g 14 [] [(4,iv a2)] [] zC ?_
  exact xI rfl
noncomputable def c5:Code:=(Try.f5.body).getD .skip
theorem yZ.ok (a1:(List Int)):Ok Try.prog 5 [sl 1 eU8 a1] [] ((yZ a1).map fun r=>(.tu [.ag [so 2 (File.enc false) r.1.Files,iv r.1.Budget,iv r.1.Writes,iv r.1.Stop,bv r.1.Down],sv r.2.1,so 1 eU8 r.2.2],[])):=by
 refine zS c5 Try.f5 0 43 (fun q=>?_)
 unfold yZ
 refine J_g 2 [(0,0)] [(0,sl 1 eU8 a1),(2,pp 0)] [(0,.box [nv,iv 0,iv 0,iv 0,bv false])] zC ?_
 refine zB (fun x2 h3=>?_)
 refine J_d 6 [] [0,5] [(5,pp 1)] [1] [(1,.box (zL.enc false x2))] (zP 1 (wH («as»:=[sl 1 eU8 a1]) [(.tmp 9)] [22] false [] [] (.cons (.same rfl) (.nil)) (uE.ok a1) h3 (.po 1 rfl)) zC) ?_
 refine zB (fun x4 h5=>?_)
 refine J_d 14 [(2,3)] [6] [(6,pp 3)] [1,2,3] [(1,.box (zL.enc false x4.2)),(2,rE 2 (File.enc false) x4.1.Files),(3,.box [rr 2 x4.1.Files,iv x4.1.Budget,iv x4.1.Writes,iv x4.1.Stop,bv x4.1.Down])] (zP 1 (wH («as»:=[pp 1]) [(.tmp 11)] [48] false [(1,.box (zL.enc false x2))] [1] (.cons (.pt rfl) (.nil)) (uO.ok x2) h5 (.ag (.cons (.own 2) (.cons (.same rfl rfl) (.cons (.same rfl rfl) (.cons (.same rfl rfl) (.cons (.same rfl rfl) (.nil)))))))) zC) ?_
 refine zB (fun x6 h7=>?_)
 refine J_g 30 [] [(2,pp 0),(5,pp 1),(6,pp 3),(7,sv x6.1)] [(0,.box [nv,iv 0,iv 0,iv 0,bv false]),(1,.box (zL.enc false x6.2)),(2,rE 2 (File.enc false) x4.1.Files),(3,.box [rr 2 x4.1.Files,iv x4.1.Budget,iv x4.1.Writes,iv x4.1.Stop,bv x4.1.Down])] (zP 1 (wH («as»:=[pp 1]) [(.tmp 13)] [48] false [(1,.box (zL.enc false x4.2))] [1] (.cons (.pt rfl) (.nil)) (xL.ok x4.2) h7 (.same rfl rfl)) zC) ?_
 refine zB (fun x8 h9=>?_)
 refine zB (fun x10 h11=>?_)
 refine yI 3 (cs':=[so 2 (File.enc false) x4.1.Files,iv x4.1.Budget,iv x4.1.Writes,iv x4.1.Stop,bv x4.1.Down]) (ts:=[2]) rfl (.move (.tail _ (.tail _ (.head _))) (List.length_map _) (by decide) (.keep rfl (.keep rfl (.keep rfl (.keep rfl (.nil)))))) ?_
 refine xW [(2,pp 0),(5,pp 1),(6,pp 3),(7,sv x6.1)] [(0,.box [nv,iv 0,iv 0,iv 0,bv false]),(1,.box (zL.enc false x6.2)),(3,.box [so 2 (File.enc false) x4.1.Files,iv x4.1.Budget,iv x4.1.Writes,iv x4.1.Stop,bv x4.1.Down])] (by kernel_rfl) ?_
 refine zB (fun x12 h13=>?_)
 refine zB (fun x14 h15=>?_)
 refine zB (fun x16 h17=>?_)
 refine J_g 62 [] [(2,pp 0),(5,pp 1),(6,pp 3),(7,sv x6.1),(8,iv x16.1)] [(0,.box [nv,iv 0,iv 0,iv 0,bv false]),(1,.box (zL.enc false x16.2)),(3,.box [so 2 (File.enc false) x4.1.Files,iv x4.1.Budget,iv x4.1.Writes,iv x4.1.Stop,bv x4.1.Down])] (zP 2 (wH («as»:=[pp 1,iv 20]) [(.tmp 16),(.const (.int .i64 20))] [48,2] false [(1,.box (zL.enc false x6.2))] [1] (.cons (.pt rfl) (.cons (.same rfl) (.nil))) (zM.ok x6.2 20) h9 (.same rfl rfl)) (zP 4 (wH («as»:=[pp 1,iv 60]) [(.tmp 18),(.const (.int .i64 60))] [48,2] false [(1,.box (zL.enc false x8.2))] [1] (.cons (.pt rfl) (.cons (.same rfl) (.nil))) (zM.ok x8.2 60) h11 (.same rfl rfl)) (zP 7 (zDN [(3,.box [so 2 (File.enc false) x4.1.Files,iv x4.1.Budget,iv x4.1.Writes,iv x4.1.Stop,bv x4.1.Down])] [] (wH («as»:=[pp 3]) [(.tmp 6)] [55] false [(3,.box [so 2 (File.enc false) x4.1.Files,iv x4.1.Budget,iv x4.1.Writes,iv x4.1.Stop,bv x4.1.Down])] [3] (.cons (.pt rfl) (.nil)) (tX.ok x4.1) h13 (.same rfl rfl))) (zP 11 (zDN [(3,.box [so 2 (File.enc false) x4.1.Files,iv x4.1.Budget,iv x4.1.Writes,iv x4.1.Stop,bv x4.1.Down])] [] (wH («as»:=[pp 3]) [(.tmp 6)] [55] false [(3,.box [so 2 (File.enc false) x4.1.Files,iv x4.1.Budget,iv x4.1.Writes,iv x4.1.Stop,bv x4.1.Down])] [3] (.cons (.pt rfl) (.nil)) (tX.ok x4.1) h15 (.same rfl rfl))) (zP 14 (zAN 75 2 1 4 zBJ [x8.1,x10.1,0,w64 (x4.1.Budget-x12),w64 ((w64 (x4.1.Budget-x14))+1)] [0,1,2,3,4] [(.tmp 17),(.tmp 19),(.const (.int .i64 0)),(.tmp 23),(.tmp 28)] [iv x8.1,iv x10.1,iv 0,iv (w64 (x4.1.Budget-x12)),iv (w64 ((w64 (x4.1.Budget-x14))+1))]) (zP 15 (wH («as»:=[pp 1,rr 4 [x8.1,x10.1,0,w64 (x4.1.Budget-x12),w64 ((w64 (x4.1.Budget-x14))+1)]]) [(.tmp 15),(.tmp 29)] [48,75] false [(1,.box (zL.enc false x10.2)),(4,rE 1 zBJ [x8.1,x10.1,0,w64 (x4.1.Budget-x12),w64 ((w64 (x4.1.Budget-x14))+1)])] [1,4] (.cons (.pt rfl) (.cons (.rf rfl) (.nil))) (yL.ok x10.2 [x8.1,x10.1,0,w64 (x4.1.Budget-x12),w64 ((w64 (x4.1.Budget-x14))+1)]) h17 (.same rfl rfl)) zC)))))) ?_
 refine yB 3 (cs':=[rr 4 x4.1.Files,iv x4.1.Budget,iv x4.1.Writes,iv x4.1.Stop,bv x4.1.Down]) (es:=[(4,rE 2 (File.enc false) x4.1.Files)]) rfl (.cons (.own 4) (.cons (.same rfl rfl) (.cons (.same rfl rfl) (.cons (.same rfl rfl) (.cons (.same rfl rfl) (.nil)))))) rfl (by kernel_rfl) (by kernel_rfl) ?_
 refine xW [(2,pp 0),(5,pp 1),(6,pp 3),(7,sv x6.1),(8,iv x16.1)] [(0,.box [nv,iv 0,iv 0,iv 0,bv false]),(1,.box (zL.enc false x16.2)),(3,.box [rr 4 x4.1.Files,iv x4.1.Budget,iv x4.1.Writes,iv x4.1.Stop,bv x4.1.Down]),(4,rE 2 (File.enc false) x4.1.Files)] (by kernel_rfl) ?_
 refine zB (fun x18 h19=>?_)
 refine J_d 252 [] [32] [(32,bv x18.1)] [1] [(1,.box (zL.enc false x18.2))] (zP 1 (wH («as»:=[pp 1,iv 40]) [(.tmp 31),(.const (.int .i64 40))] [48,2] false [(1,.box (zL.enc false x16.2))] [1] (.cons (.pt rfl) (.cons (.same rfl) (.nil))) (xM.ok x16.2 40) h19 (.same rfl rfl)) zC) ?_
 refine xV (atI c5 127) (fun v23:((List Int)×Int×Int)=>St.mk' [(2,pp 0),(5,pp 1),(6,pp 3),(7,sv x6.1),(8,iv v23.2.2)] [(0,.box [nv,iv 0,iv 0,iv 0,bv false]),(1,.box [sl 1 eU8 v23.1,iv v23.2.1]),(3,.box [rr 4 x4.1.Files,iv x4.1.Budget,iv x4.1.Writes,iv x4.1.Stop,bv x4.1.Down]),(4,rE 2 (File.enc false) x4.1.Files)]) (fun v23=>?_) (fun jv23=>?_)
 ·refine zB (fun x24 h25=>?_)
  refine zB (fun x26 h27=>?_)
  refine zB (fun x28 h29=>?_)
  refine J_g 254 [] [(2,pp 0),(3,sv x6.1),(4,rr 5 x28.1)] [(0,.box [rr 4 x4.1.Files,iv x4.1.Budget,iv x4.1.Writes,iv x4.1.Stop,bv x4.1.Down]),(4,rE 2 (File.enc false) x4.1.Files),(5,rE 1 eU8 x28.1)] (zP 4 (tJ [(.tmp 39),(.const (.int .i64 4001))] [2,2] (uY.ok v23.2.2 4001) h25) (zP 5 (tJ [(.const (.int .i64 0)),(.tmp 40)] [2,2] (uZ.ok 0 x24) h27) (zP 6 (wH («as»:=[pp 1,iv x26]) [(.tmp 38),(.tmp 41)] [48,2] false [(1,.box [sl 1 eU8 v23.1,iv v23.2.1])] [1] (.cons (.pt rfl) (.cons (.same rfl) (.nil))) (wR.ok ({Code:=v23.1,At:=v23.2.1}:zL) x26) h29 (.own 5)) zC))) ?_
  exact jS (ds:=[.ag [rr 4 x4.1.Files,iv x4.1.Budget,iv x4.1.Writes,iv x4.1.Stop,bv x4.1.Down],sv x6.1,rr 5 x28.1]) (ds':=[.ag [so 2 (File.enc false) x4.1.Files,iv x4.1.Budget,iv x4.1.Writes,iv x4.1.Stop,bv x4.1.Down],sv x6.1,so 1 eU8 x28.1]) (.cons (.ag (.move (.tail _ (.head _)) (List.length_map _) (by decide) (.keep rfl (.keep rfl (.keep rfl (.keep rfl (.nil))))))) (.cons (.cell (.keep rfl (.nil))) (.cons (.cell (.move (.tail _ (.tail _ (.head _))) (List.length_map _) (by decide) (.nil))) (.nil) (by decide)) (by decide)) (by decide)) rfl
 ·refine zU 32 (fun h20=>?_) (fun h20=>?_)
  ·refine zB (fun x21 h22=>?_)
   refine J_d 506 [] [8,32] [(8,iv (w64 (4000+x21.1)))] [1] [(1,.box (zL.enc false x21.2))] (zP 1 (wH («as»:=[pp 1,iv 2]) [(.tmp 33),(.const (.int .i64 2))] [48,2] false [(1,.box (zL.enc false x18.2))] [1] (.cons (.pt rfl) (.cons (.same rfl) (.nil))) (zM.ok x18.2 2) h22 (.same rfl rfl)) zC) ?_
   exact xZ (J_j (jv23 (x21.2.Code,x21.2.At,w64 (4000+x21.1)))) rfl
  ·exact xZ (J_j (jv23 (x18.2.Code,x18.2.At,x16.1))) rfl
noncomputable def c32:Code:=(Try.f32.body).getD .skip
theorem yX.ok (a1:Int) (a2:Int) (a3:Int):Ok Try.prog 32 [iv a1,iv a2,iv a3] [] ((yX a1 a2 a3).map fun r=>(bv r,[])):=by
 refine zS c32 Try.f32 0 15 (fun q=>?_)
 unfold yX
 refine J_d 2 [] [] [] [] [] zC ?_
 refine xK (fun h4=>?_) (fun h4=>?_)
 ·refine J_g 6 [] [(6,bv (decide (a1≤a3)))] [] (yQ 3 [(9,bv (decide (a2≤a1)))] [] h4 zC) ?_
  exact xI rfl
 ·refine J_g 6 [] [(6,bv false)] [] (yQ 3 [(9,bv (decide (a2≤a1)))] [] h4 zC) ?_
  exact xI rfl
noncomputable def c57:Code:=(Try.f57.body).getD .skip
theorem xB.ok (a1:Int):Ok Try.prog 57 [uv a1] [] ((xB a1).map fun r=>(bv r,[])):=by
 refine zS c57 Try.f57 0 21 (fun q=>?_)
 unfold xB
 refine J_g 2 [] [(0,uv a1)] [] zC ?_
 refine xK (fun h2=>?_) (fun h2=>?_)
 ·refine xK (fun h3=>?_) (fun h3=>?_)
  ·refine J_g 6 [] [(2,bv true)] [] (yQ 2 [(4,bv (decide (a1≥97)))] [] h2 (yQ 6 [(8,bv (decide (a1≤122)))] [] h3 (wT 9 (wU (i:=9) (g:=6) (t:=9) (b:=false) (v:=(.bool true)) (.inl rfl) (by kernel_rfl) (by kernel_rfl)) (wT 10 (wU (i:=10) (g:=9) (t:=12) (b:=true) (v:=undef) (.inr rfl) (by kernel_rfl) (by kernel_rfl)) (wT 11 (wU (i:=11) (g:=9) (t:=12) (b:=true) (v:=undef) (.inr rfl) (by kernel_rfl) (by kernel_rfl)) zC))))) ?_
   exact xI rfl
  ·refine xK (fun h4=>?_) (fun h4=>?_)
   ·refine xK (fun h5=>?_) (fun h5=>?_)
    ·refine J_g 6 [] [(2,bv true)] [] (yQ 2 [(4,bv (decide (a1≥97)))] [] h2 (yQ 6 [(8,bv (decide (a1≤122)))] [] h3 (jX 9 6 9 false [(11,bv (decide (a1≥48)))] [] h4 (yQ 14 [(16,bv (decide (a1≤57)))] [] h5 zC)))) ?_
     exact xI rfl
    ·refine J_g 6 [] [(2,bv (a1==95))] [] (yQ 2 [(4,bv (decide (a1≥97)))] [] h2 (yQ 6 [(8,bv (decide (a1≤122)))] [] h3 (jX 9 6 9 false [(11,bv (decide (a1≥48)))] [] h4 (yQ 14 [(16,bv (decide (a1≤57)))] [] h5 zC)))) ?_
     exact xI rfl
   ·refine J_g 6 [] [(2,bv (a1==95))] [] (yQ 2 [(4,bv (decide (a1≥97)))] [] h2 (yQ 6 [(8,bv (decide (a1≤122)))] [] h3 (jX 9 6 9 false [(11,bv (decide (a1≥48)))] [] h4 zC))) ?_
    exact xI rfl
 ·refine xK (fun h6=>?_) (fun h6=>?_)
  ·refine xK (fun h7=>?_) (fun h7=>?_)
   ·refine J_g 6 [] [(2,bv true)] [] (yQ 2 [(4,bv (decide (a1≥97)))] [] h2 (jX 9 6 9 false [(11,bv (decide (a1≥48)))] [] h6 (yQ 14 [(16,bv (decide (a1≤57)))] [] h7 zC))) ?_
    exact xI rfl
   ·refine J_g 6 [] [(2,bv (a1==95))] [] (yQ 2 [(4,bv (decide (a1≥97)))] [] h2 (jX 9 6 9 false [(11,bv (decide (a1≥48)))] [] h6 (yQ 14 [(16,bv (decide (a1≤57)))] [] h7 zC))) ?_
    exact xI rfl
  ·refine J_g 6 [] [(2,bv (a1==95))] [] (yQ 2 [(4,bv (decide (a1≥97)))] [] h2 (jX 9 6 9 false [(11,bv (decide (a1≥48)))] [] h6 zC)) ?_
   exact xI rfl
noncomputable def c44:Code:=(Try.f44.body).getD .skip
theorem wL.ok (a1:ByteArray) (q:Wd) (kn:Unit→Option (D×List Ent)) (hk:∀v:Unit,J (q.g Try.prog 44 0 37) c44 (atI c44 15) (St.mk' [] []) (some v) kn):
  ∀s15:Int,J (q.g Try.prog 44 0 37) c44 (atI c44 116) (St.mk' [(0,sv a1),(14,iv (a1.size:Int)),(15,iv s15)] []) (wL a1 s15) (Fl.go (fun r:Int=>some (iv r,[])) kn):=by
 refine zBg (fun g ih s15=>?_)
 unfold uR
 refine J_d 232 [] [16] [(16,bv (decide (s15< (a1.size:Int))))] [] [] zC ?_
 refine zU 16 (fun h16=>?_) (fun h16=>?_)
 ·refine J_d 3736 [] [3,16] [(3,iv s15)] [] [] zC ?_
  refine zB (fun x17 h18=>?_)
  refine J_d 7474 [] [3,4] [(4,uv x17)] [] [] (zP 2 (zFM (kk:=.i64) 9 (.tmp 18) (.tmp 19) h18) zC) ?_
  refine zB (fun x19 h20=>?_)
  refine xV (atI c44 14951) (fun v24:Bool=>St.mk' [(0,sv a1),(14,iv (a1.size:Int)),(15,iv s15),(35,bv v24)] []) (fun v24=>?_) (fun jv24=>?_)
  ·refine zU 35 (fun h25=>?_) (fun h25=>?_)
   ·refine J_g 59804 [] [(2,iv 5)] [] zC ?_
    exact xI rfl
   ·refine J_d 935 [] [15,35] [(15,iv (w64 (s15+1)))] [] [] zC ?_
    exact J_q (J_b (ih (w64 (s15+1)))) rfl
  ·refine xK (fun h21=>?_) (fun h21=>?_)
   ·refine xK (fun h22=>?_) (fun h22=>?_)
    ·refine xK (fun h23=>?_) (fun h23=>?_)
     ·refine J_d 14950 [] [4,35] [(35,bv (x17 !=47))] [] [] (zP 1 (tJ [(.tmp 21)] [5] (xB.ok x17) h20) (yQ 3 [(23,bv (!x19))] [] h21 (yQ 7 [(27,bv (x17 !=46))] [] h22 (yQ 11 [(31,bv (x17 !=45))] [] h23 zC)))) ?_
      exact xZ (J_j (jv24 (x17 !=47))) rfl
     ·refine J_d 14950 [] [4,35] [(35,bv false)] [] [] (zP 1 (tJ [(.tmp 21)] [5] (xB.ok x17) h20) (yQ 3 [(23,bv (!x19))] [] h21 (yQ 7 [(27,bv (x17 !=46))] [] h22 (yQ 11 [(31,bv (x17 !=45))] [] h23 zC)))) ?_
      exact xZ (J_j (jv24 false)) rfl
    ·refine J_d 14950 [] [4,35] [(35,bv false)] [] [] (zP 1 (tJ [(.tmp 21)] [5] (xB.ok x17) h20) (yQ 3 [(23,bv (!x19))] [] h21 (yQ 7 [(27,bv (x17 !=46))] [] h22 zC))) ?_
     exact xZ (J_j (jv24 false)) rfl
   ·refine J_d 14950 [] [4,35] [(35,bv false)] [] [] (zP 1 (tJ [(.tmp 21)] [5] (xB.ok x17) h20) (yQ 3 [(23,bv (!x19))] [] h21 zC)) ?_
    exact xZ (J_j (jv24 false)) rfl
 ·exact xZ (hk ()) rfl
theorem xJ.ok (a1:ByteArray):Ok Try.prog 44 [sv a1] [] ((xJ a1).map fun r=>(iv r,[])):=by
 refine zS c44 Try.f44 0 37 (fun q=>?_)
 unfold xJ
 refine J_g 2 [] [(0,sv a1)] [] zC ?_
 refine xV (atI c44 13) (fun v3:Bool=>St.mk' [(0,sv a1),(12,bv v3)] []) (fun v3=>?_) (fun jv3=>?_)
 ·refine zU 12 (fun h4=>?_) (fun h4=>?_)
  ·refine J_g 52 [] [(2,iv 5)] [] zC ?_
   exact xI rfl
  ·refine J_g 28 [] [(0,sv a1),(14,iv (a1.size:Int)),(15,iv 0)] [] zC ?_
   refine zB9 (K0:=(fun r:Int=>some (iv r,[]))) (fun _=>rfl) (wL.ok a1 q _ (fun v26=>J_j ?_) 0)
   refine J_g 30 [] [(2,iv 0)] [] zC ?_
   exact xI rfl
 ·refine xK (fun h2=>?_) (fun h2=>?_)
  ·refine J_g 12 [] [(0,sv a1),(12,bv true)] [] (yQ 3 [(7,bv (decide ((a1.size:Int)<1)))] [] h2 zC) ?_
   exact xZ (J_j (jv3 true)) rfl
  ·refine J_g 12 [] [(0,sv a1),(12,bv (decide ((a1.size:Int)>40)))] [] (yQ 3 [(7,bv (decide ((a1.size:Int)<1)))] [] h2 zC) ?_
   exact xZ (J_j (jv3 (decide ((a1.size:Int)>40)))) rfl
noncomputable def c37:Code:=(Try.f37.body).getD .skip
theorem vV.ok (a1:zA) (q:Wd) (kn:Int→Option (D×List Ent)) (hk:∀v:Int,J (q.g Try.prog 37 0 20) c37 (atI c37 15) (St.mk' [(3,iv v)] []) (some v) kn):
  ∀s5:(Int×Int),J (q.g Try.prog 37 0 20) c37 (atI c37 116) (St.mk' [(3,iv s5.1),(7,sl 2 (File.enc false) a1.Files),(8,iv (a1.Files.length:Int)),(9,iv s5.2)] []) (vV a1 s5) kn:=by
 refine zBg (fun g ih s5=>?_)
 unfold tT
 refine J_d 232 [] [10] [(10,bv (decide (s5.2< (a1.Files.length:Int))))] [] [] zC ?_
 refine zU 10 (fun h6=>?_) (fun h6=>?_)
 ·refine zB (fun x7 h8=>?_)
  refine J_g 3736 [(2,0)] [(3,iv s5.1),(5,pp 0),(7,sl 2 (File.enc false) a1.Files),(8,iv (a1.Files.length:Int)),(9,iv s5.2)] [(0,.box (File.enc false x7))] (zP 0 (zBl (kk:=.i64) 24 35 2 (File.enc false) (.tmp 7) (.tmp 9) h8) zC) ?_
  refine J_g 3737 [] [(3,iv (w64 (s5.1+(x7.Data.length:Int)))),(7,sl 2 (File.enc false) a1.Files),(8,iv (a1.Files.length:Int)),(9,iv s5.2)] [] zC ?_
  refine J_d 935 [] [9] [(9,iv (w64 (s5.2+1)))] [] [] zC ?_
  exact J_q (J_b (ih (w64 (s5.1+(x7.Data.length:Int)),w64 (s5.2+1)))) rfl
 ·exact xZ (hk s5.1) rfl
theorem yT.ok (a1:zA):Ok Try.prog 37 [.ag (zA.enc false a1)] [] ((yT a1).map fun r=>(iv r,[])):=by
 refine zS c37 Try.f37 0 20 (fun q=>?_)
 unfold yT
 refine J_g 2 [(0,0)] [(1,pp 0)] [(0,.box (zA.enc false a1))] zC ?_
 refine J_g 6 [] [(1,pp 0),(3,iv 0)] [(0,.box (zA.enc false a1))] zC ?_
 refine J_g 28 [] [(3,iv 0),(7,sl 2 (File.enc false) a1.Files),(8,iv (a1.Files.length:Int)),(9,iv 0)] [] zC ?_
 refine zDi (vV.ok a1 q _ (fun v9=>J_j ?_) (0,0))
 refine J_g 30 [] [(2,iv v9)] [] zC ?_
 exact xI rfl
noncomputable def c14:Code:=(Try.f14.body).getD .skip
theorem wK.ok (a1:zA) (q:Wd) (kn:Unit→Option (D×List Ent)) (hk:∀v:Unit,J (q.g Try.prog 14 0 68) c14 (atI c14 15) (St.mk' [(1,pp 0)] [(0,.box (zA.enc false a1))]) (some v) kn):
  ∀s25:Int,J (q.g Try.prog 14 0 68) c14 (atI c14 116) (St.mk' [(1,pp 0),(29,sl 2 (File.enc false) a1.Files),(30,iv (a1.Files.length:Int)),(31,iv s25)] [(0,.box (zA.enc false a1))]) (wK a1 s25) (Fl.go (fun r:Int=>some (iv r,[])) kn):=by
 refine zBg (fun g ih s25=>?_)
 unfold uT
 refine J_d 232 [] [32] [(32,bv (decide (s25< (a1.Files.length:Int))))] [] [] zC ?_
 refine zU 32 (fun h26=>?_) (fun h26=>?_)
 ·refine zB (fun x27 h28=>?_)
  refine J_d 3736 [(3,1)] [3,4,32] [(3,iv s25),(4,pp 1)] [1] [(1,.box (File.enc false x27))] (zP 1 (zBl (kk:=.i64) 24 35 2 (File.enc false) (.tmp 29) (.tmp 31) h28) zC) ?_
  refine zB (fun x29 h30=>?_)
  refine J_g 14948 [] [(1,pp 0),(3,iv s25),(4,pp 1),(5,iv x29),(29,sl 2 (File.enc false) a1.Files),(30,iv (a1.Files.length:Int)),(31,iv s25)] [(0,.box (zA.enc false a1)),(1,.box (File.enc false x27))] (zP 2 (tJ [(.tmp 37)] [9] (xJ.ok x27.Path) h30) zC) ?_
  refine J_d 29898 [] [40] [(40,bv (x29 !=0))] [] [] zC ?_
  refine zU 40 (fun h31=>?_) (fun h31=>?_)
  ·refine J_g 119596 [] [(2,iv x29)] [] zC ?_
   exact xI rfl
  ·refine xV (atI c14 29901) (fun v35:Bool=>St.mk' [(1,pp 0),(4,pp 1),(29,sl 2 (File.enc false) a1.Files),(30,iv (a1.Files.length:Int)),(31,iv s25),(42,bv v35)] [(0,.box (zA.enc false a1)),(1,.box (File.enc false x27))]) (fun v35=>?_) (fun jv35=>?_)
   ·refine zU 42 (fun h36=>?_) (fun h36=>?_)
    ·refine J_g 119604 [] [(2,iv 1)] [] zC ?_
     exact xI rfl
    ·refine J_d 119606 [] [4,42,57] [(57,bv (decide ((x27.Data.length:Int)>4000)))] [1] [] zC ?_
     refine zU 57 (fun h37=>?_) (fun h37=>?_)
     ·refine J_g 478428 [] [(2,iv 2)] [] zC ?_
      exact xI rfl
     ·refine J_d 935 [] [31,57] [(31,iv (w64 (s25+1)))] [] [] zC ?_
      exact J_q (J_b (ih (w64 (s25+1)))) rfl
   ·refine xK (fun h32=>?_) (fun h32=>?_)
    ·refine zB (fun x33 h34=>?_)
     refine J_d 29900 [] [3,5,40,42] [(42,bv (slt x27.Path x33.Path||seq x27.Path x33.Path))] [] [] (yQ 2 [(44,bv (decide (s25>0)))] [] h32 (tH 9 2 45 true (zBl (kk:=.i64) 24 35 2 (File.enc false) (.tmp 49) (.tmp 51) h34) zC)) ?_
     exact xZ (J_j (jv35 (slt x27.Path x33.Path||seq x27.Path x33.Path))) rfl
    ·refine J_d 29900 [] [3,5,40,42] [(42,bv false)] [] [] (yQ 2 [(44,bv (decide (s25>0)))] [] h32 zC) ?_
     exact xZ (J_j (jv35 false)) rfl
 ·exact xZ (hk ()) rfl
theorem zI.ok (a1:zA):Ok Try.prog 14 [.ag (zA.enc false a1)] [] ((zI a1).map fun r=>(iv r,[])):=by
 refine zS c14 Try.f14 0 68 (fun q=>?_)
 unfold zI
 refine J_g 2 [(0,0)] [(1,pp 0)] [(0,.box (zA.enc false a1))] zC ?_
 refine zB (fun x2 h3=>?_)
 refine xV (atI c14 25) (fun v10:Bool=>St.mk' [(1,pp 0),(6,bv v10)] [(0,.box (zA.enc false a1))]) (fun v10=>?_) (fun jv10=>?_)
 ·refine zU 6 (fun h11=>?_) (fun h11=>?_)
  ·refine J_g 100 [] [(2,iv 3)] [] zC ?_
   exact xI rfl
  ·refine J_d 102 [] [6,23] [(23,bv (decide ((a1.Files.length:Int)>120)))] [] [] zC ?_
   refine zU 23 (fun h12=>?_) (fun h12=>?_)
   ·refine J_g 412 [] [(2,iv 2)] [] zC ?_
    exact xI rfl
   ·refine J_d 28 [] [23,29,30,31] [(29,sl 2 (File.enc false) a1.Files),(30,iv (a1.Files.length:Int)),(31,iv 0)] [] [] zC ?_
    refine zB9 (K0:=(fun r:Int=>some (iv r,[]))) (fun _=>rfl) (wK.ok a1 q _ (fun v38=>J_j ?_) 0)
    refine zB (fun x39 h40=>?_)
    refine J_g 60 [] [(67,bv (decide (x39>a1.Budget)))] [] (zP 1 (tJ [(.tmp 63)] [26] (yT.ok a1) h40) zC) ?_
    refine zU 67 (fun h41=>?_) (fun h41=>?_)
    ·refine J_g 244 [] [(2,iv 8)] [] zC ?_
     exact xI rfl
    ·refine J_g 62 [] [(2,iv 0)] [] zC ?_
     exact xI rfl
 ·refine xK (fun h4=>?_) (fun h4=>?_)
  ·refine J_d 24 [] [6] [(6,bv true)] [] [] (zP 2 (tJ [(.tmp 8),(.const (.int .i64 0)),(.const (.int .i64 20000))] [2,2,2] (yX.ok a1.Budget 0 20000) h3) (yQ 4 [(10,bv (!x2))] [] h4 zC)) ?_
   exact xZ (J_j (jv10 true)) rfl
  ·refine zB (fun x5 h6=>?_)
   refine xK (fun h7=>?_) (fun h7=>?_)
   ·refine J_d 24 [] [6] [(6,bv true)] [] [] (zP 2 (tJ [(.tmp 8),(.const (.int .i64 0)),(.const (.int .i64 20000))] [2,2,2] (yX.ok a1.Budget 0 20000) h3) (yQ 4 [(10,bv (!x2))] [] h4 (tH 7 4 11 false (tJ [(.tmp 13),(.const (.int .i64 0)),(.const (.int .i64 1000000000))] [2,2,2] (yX.ok a1.Writes 0 1000000000) h6) (yQ 10 [(16,bv (!x5))] [] h7 zC)))) ?_
    exact xZ (J_j (jv10 true)) rfl
   ·refine zB (fun x8 h9=>?_)
    refine J_d 24 [] [6] [(6,bv (!x8))] [] [] (zP 2 (tJ [(.tmp 8),(.const (.int .i64 0)),(.const (.int .i64 20000))] [2,2,2] (yX.ok a1.Budget 0 20000) h3) (yQ 4 [(10,bv (!x2))] [] h4 (tH 7 4 11 false (tJ [(.tmp 13),(.const (.int .i64 0)),(.const (.int .i64 1000000000))] [2,2,2] (yX.ok a1.Writes 0 1000000000) h6) (yQ 10 [(16,bv (!x5))] [] h7 (tH 13 10 17 false (tJ [(.tmp 19),(.const (.int .i64 (-1))),(.const (.int .i64 1000000000))] [2,2,2] (yX.ok a1.Stop (-1) 1000000000) h9) zC))))) ?_
    exact xZ (J_j (jv10 (!x8))) rfl
noncomputable def c35:Code:=(Try.f35.body).getD .skip
theorem zV.ok (a1:(List Int)):Ok Try.prog 35 [sl 1 eU8 a1] [] ((zV a1).map fun r=>(so 1 eU8 r,[])):=by
 refine zS c35 Try.f35 0 8 (fun q=>?_)
 unfold zV
 refine J_g 2 [] [(0,sl 1 eU8 a1)] [] zC ?_
 refine J_d 12 [] [4] [(4,.nb a1.length)] [] [] (zP 1 (zE4 (xs:=a1) 22 5 22 1 eU8 (.tmp 3)) zC) ?_
 refine zFP 4 rfl (fun h2=>?_) ?_
 ·obtain rfl:a1=[]:=List.eq_nil_of_length_eq_zero h2
  refine zFf (e':=some ([]:List Int)) (by kernel_rfl) ?_
  refine J_g 52 [] [(2,nv)] [] zC ?_
  exact jS (ds:=[nv]) (ds':=[so 1 eU8 ([]:List Int)]) (.cons (.cell (.nilsl true 1 (.nil))) (.nil) (by decide)) rfl
 ·refine zB (fun x3 h4=>?_)
  refine J_g 14 [] [(2,rr 1 x3)] [(1,rE 1 eU8 x3)] (zP 0 (zAN 22 5 1 0 eU8 ([]:List Int) [] [] []) (zP 2 (zEM 22 22 5 5 1 1 1 0 eU8 (.tmp 5) (.tmp 6) h4) zC)) ?_
  exact jS (ds:=[rr 1 x3]) (ds':=[so 1 eU8 x3]) (.cons (.cell (.move (.head _) (List.length_map _) (by decide) (.nil))) (.nil) (by decide)) rfl
noncomputable def c33:Code:=(Try.f33.body).getD .skip
theorem xU.ok (a1:zA) (q:Wd) (kn:(List File)→Option (D×List Ent)) (hk:∀v:(List File),J (q.g Try.prog 33 0 28) c33 (atI c33 31) (St.mk' [(2,pp 1),(3,pp 2)] [(1,.box [nv,iv 0,iv 0,iv 0,bv false]),(2,.box [rr 3 v,iv a1.Budget,iv a1.Writes,iv a1.Stop,bv a1.Down]),(3,rE 2 (File.enc true) v)]) (some v) kn):
  ∀s16:((List File)×Int),J (q.g Try.prog 33 0 28) c33 (atI c33 244) (St.mk' [(2,pp 1),(3,pp 2),(9,sl 2 (File.enc false) a1.Files),(10,iv (a1.Files.length:Int)),(11,iv s16.2)] [(1,.box [nv,iv 0,iv 0,iv 0,bv false]),(2,.box [rr 3 s16.1,iv a1.Budget,iv a1.Writes,iv a1.Stop,bv a1.Down]),(3,rE 2 (File.enc true) s16.1)]) (xU a1 s16) kn:=by
 refine zBg (fun g ih s16=>?_)
 unfold uH
 refine J_d 488 [] [12] [(12,bv (decide (s16.2< (a1.Files.length:Int))))] [] [] zC ?_
 refine zU 12 (fun h17=>?_) (fun h17=>?_)
 ·refine zB (fun x18 h19=>?_)
  refine J_d 7832 [(2,4)] [5,12] [(5,pp 4)] [4] [(4,.box (File.enc false x18))] (zP 0 (zBl (kk:=.i64) 24 35 2 (File.enc false) (.tmp 9) (.tmp 11) h19) zC) ?_
  refine zB (fun x20 h21=>?_)
  refine zB (fun x22 h23=>?_)
  refine J_g 7833 [] [(2,pp 1),(3,pp 2),(9,sl 2 (File.enc false) a1.Files),(10,iv (a1.Files.length:Int)),(11,iv s16.2)] [(1,.box [nv,iv 0,iv 0,iv 0,bv false]),(2,.box [rr 7 x22,iv a1.Budget,iv a1.Writes,iv a1.Stop,bv a1.Down]),(7,rE 2 (File.enc true) x22)] (zP 6 (wH («as»:=[sl 1 eU8 x18.Data]) [(.tmp 20)] [22] false [] [] (.cons (.same rfl) (.nil)) (zV.ok x18.Data) h21 (.own 5)) (zP 8 (zEZ (ds:=[sv x18.Path,rr 5 x20]) (ts:=[5]) 24 35 2 6 (File.enc true) [({Path:=x18.Path,Data:=x20}:File)] [0] [(.tmp 22)] [.ag [sv x18.Path,rr 5 x20]] [(5,rE 1 eU8 x20)] (.keep rfl (.move (.head _) (List.length_map _) (by decide) (.nil)))) (zP 9 (zEg 24 24 35 35 2 40 7 3 6 (File.enc true) (.tmp 16) (.tmp 23) h23) zC))) ?_
  refine J_d 1959 [] [11] [(11,iv (w64 (s16.2+1)))] [] [] zC ?_
  refine zAT 7 3 (Nat.le_of_ble_eq_true rfl) (Nat.le_of_ble_eq_true rfl) ?_
  exact J_q (J_b (ih (x22,w64 (s16.2+1)))) rfl
 ·exact xZ (hk s16.1) rfl
theorem yG.ok (a1:zA):Ok Try.prog 33 [.ag (zA.enc false a1)] [] ((yG a1).map fun r=>(.ag (zA.enc true r),[])):=by
 refine zS c33 Try.f33 0 28 (fun q=>?_)
 unfold yG
 refine J_g 2 [(0,0),(1,1)] [(1,pp 0),(2,pp 1)] [(0,.box (zA.enc false a1)),(1,.box [nv,iv 0,iv 0,iv 0,bv false])] zC ?_
 refine J_g 6 [(1,2)] [(1,pp 0),(2,pp 1),(3,pp 2)] [(0,.box (zA.enc false a1)),(1,.box [nv,iv 0,iv 0,iv 0,bv false]),(2,.box (zA.enc false a1))] zC ?_
 refine J_g 14 [] [(1,pp 0),(2,pp 1),(3,pp 2)] [(0,.box (zA.enc false a1)),(1,.box [nv,iv 0,iv 0,iv 0,bv false]),(2,.box [nv,iv a1.Budget,iv a1.Writes,iv a1.Stop,bv a1.Down])] zC ?_
 refine J_d 60 [] [1,9,10,11] [(9,sl 2 (File.enc false) a1.Files),(10,iv (a1.Files.length:Int)),(11,iv 0)] [0] [] zC ?_
 refine zEy 2 0 3 2 rfl rfl (Nat.le_of_ble_eq_true rfl) (by kernel_rfl) ?_
 refine zDi (xU.ok a1 q _ (fun v24=>J_j ?_) (([]:List File),0))
 refine J_g 62 [] [(2,pp 1)] [(1,.box [rr 3 v24,iv a1.Budget,iv a1.Writes,iv a1.Stop,bv a1.Down]),(3,rE 2 (File.enc true) v24)] zC ?_
 exact jS (ds:=[.ag [rr 3 v24,iv a1.Budget,iv a1.Writes,iv a1.Stop,bv a1.Down]]) (ds':=[.ag [so 2 (File.enc true) v24,iv a1.Budget,iv a1.Writes,iv a1.Stop,bv a1.Down]]) (.cons (.ag (.move (.tail _ (.head _)) (List.length_map _) (by decide) (.keep rfl (.keep rfl (.keep rfl (.keep rfl (.nil))))))) (.nil) (by decide)) rfl
theorem bytealg_CompareString.ok (a1 a2:ByteArray):Ok Try.prog 69 [sv a1,sv a2] [] ((bytealg_CompareString a1 a2).map fun r=>(iv r,[])):=
 zF2 (vs:=[.string a1,.string a2]) (fun w=>Try.bytealg_CompareString a1 a2 w)
noncomputable def c63:Code:=(Try.f63.body).getD .skip
theorem strings_Compare.ok (a1:ByteArray) (a2:ByteArray):Ok Try.prog 63 [sv a1,sv a2] [] ((strings_Compare a1 a2).map fun r=>(iv r,[])):=by
 refine zS c63 Try.f63 0 8 (fun q=>?_)
 unfold strings_Compare
 refine J_d 2 [] [] [] [] [] zC ?_
 refine zB (fun x3 h4=>?_)
 refine J_g 6 [] [(4,iv x3)] [] (zP 2 (tJ [(.tmp 5),(.tmp 6)] [9,9] (bytealg_CompareString.ok a1 a2) h4) zC) ?_
 exact xI rfl
noncomputable def c62:Code:=(Try.f62.body).getD .skip
theorem xG.ok (a1:File) (a2:ByteArray):Ok Try.prog 62 [.ag (File.enc false a1),sv a2] [] ((xG a1 a2).map fun r=>(iv r,[])):=by
 refine zS c62 Try.f62 0 9 (fun q=>?_)
 unfold xG
 refine J_g 2 [(0,0)] [(1,sv a2),(2,pp 0)] [(0,.box (File.enc false a1))] zC ?_
 refine zB (fun x3 h4=>?_)
 refine J_g 6 [] [(4,iv x3)] [] (zP 3 (tJ [(.tmp 6),(.tmp 7)] [9,9] (strings_Compare.ok a1.Path a2) h4) zC) ?_
 exact xI rfl
noncomputable def c61:Code:=(Try.f61.body).getD .skip
theorem zH.ok (a1:(List File)) (a2:ByteArray) (q:Wd) (kn:Int→Option (D×List Ent)) (hk:∀v:Int,J (q.g Try.prog 61 0 49) c61 (atI c61 31) (St.mk' [(0,sl 2 (File.enc false) a1),(1,sv a2),(2,.fn 62 []),(8,iv (a1.length:Int)),(9,iv v)] []) (some v) kn):
  ∀s9:(Int×Int),J (q.g Try.prog 61 0 49) c61 (atI c61 120) (St.mk' [(0,sl 2 (File.enc false) a1),(1,sv a2),(2,.fn 62 []),(8,iv (a1.length:Int)),(9,iv s9.1),(10,iv s9.2)] []) (zH a1 a2 s9) kn:=by
 refine zBg (fun g ih s9=>?_)
 unfold zO
 refine J_d 480 [] [17] [(17,bv (decide (s9.1<s9.2)))] [] [] zC ?_
 refine zU 17 (fun h10=>?_) (fun h10=>?_)
 ·refine J_d 964 [] [11,17] [(11,iv (w64 ((IntKind.u64.wrap (w64 (s9.1+s9.2))).fdiv (2^(min (1:Int).toNat 64)))))] [] [] zC ?_
  refine zB (fun x11 h12=>?_)
  refine zB (fun x13 h14=>?_)
  refine J_d 1930 [] [31] [(31,bv (decide (x13<0)))] [] [] (zP 3 (zBl (kk:=.i64) 24 35 2 (File.enc false) (.tmp 25) (.tmp 26) h12) (zP 6 (zFb («as»:=[.ag (File.enc false x11),sv a2]) (caps:=[]) 24 [(.tmp 28),(.tmp 29)] [35,9] (xG.ok x11 a2) h14) zC)) ?_
  refine zU 31 (fun h15=>?_) (fun h15=>?_)
  ·refine J_d 3862 [] [9,11,31] [(9,iv (w64 ((w64 ((IntKind.u64.wrap (w64 (s9.1+s9.2))).fdiv (2^(min (1:Int).toNat 64))))+1)))] [] [] zC ?_
   exact J_q (J_b (ih (w64 ((w64 ((IntKind.u64.wrap (w64 (s9.1+s9.2))).fdiv (2^(min (1:Int).toNat 64))))+1),s9.2))) rfl
  ·refine J_d 3863 [] [10,11,31] [(10,iv (w64 ((IntKind.u64.wrap (w64 (s9.1+s9.2))).fdiv (2^(min (1:Int).toNat 64)))))] [] [] zC ?_
   exact J_q (J_b (ih (s9.1,w64 ((IntKind.u64.wrap (w64 (s9.1+s9.2))).fdiv (2^(min (1:Int).toNat 64)))))) rfl
 ·exact xZ (hk s9.1) rfl
theorem zD.ok (a1:(List File)) (a2:ByteArray):Ok Try.prog 61 [sl 2 (File.enc false) a1,sv a2,.fn 62 []] [] ((zD a1 a2).map fun r=>(.tu [iv r.1,bv r.2],[])):=by
 refine zS c61 Try.f61 0 49 (fun q=>?_)
 unfold zD
 refine J_g 2 [] [(0,sl 2 (File.enc false) a1),(1,sv a2),(2,.fn 62 [])] [] zC ?_
 refine J_g 6 [] [(0,sl 2 (File.enc false) a1),(1,sv a2),(2,.fn 62 []),(8,iv (a1.length:Int))] [] zC ?_
 refine J_d 14 [] [9,10] [(9,iv 0),(10,iv (a1.length:Int))] [] [] zC ?_
 refine zDi (zH.ok a1 a2 q _ (fun v16=>J_j ?_) (0,(a1.length:Int)))
 refine xK (fun h17=>?_) (fun h17=>?_)
 ·refine zB (fun x18 h19=>?_)
  refine zB (fun x20 h21=>?_)
  refine J_g 62 [] [(6,iv v16),(7,bv (x20==0))] [] (yQ 4 [(38,bv (decide (v16< (a1.length:Int))))] [] h17 (tH 8 4 39 true (zBl (kk:=.i64) 24 35 2 (File.enc false) (.tmp 41) (.tmp 42) h19) (tH 11 4 39 true (zFb («as»:=[.ag (File.enc false x18),sv a2]) (caps:=[]) 40 [(.tmp 44),(.tmp 45)] [35,9] (xG.ok x18 a2) h21) zC))) ?_
  exact zEG rfl
 ·refine J_g 62 [] [(6,iv v16),(7,bv false)] [] (yQ 4 [(38,bv (decide (v16< (a1.length:Int))))] [] h17 zC) ?_
  exact zEG rfl
noncomputable def c53:Code:=(Try.f53.body).getD .skip
theorem zX.ok (a1:zA) (a2:ByteArray):Ok Try.prog 53 [.ag (zA.enc false a1),sv a2] [] ((zX a1 a2).map fun r=>(.tu [iv r.1,bv r.2],[])):=by
 refine zS c53 Try.f53 0 12 (fun q=>?_)
 unfold zX
 refine J_g 2 [(0,0)] [(1,sv a2),(2,pp 0)] [(0,.box (zA.enc false a1))] zC ?_
 refine zB (fun x3 h4=>?_)
 refine J_g 6 [] [(4,iv x3.1),(5,bv x3.2)] [] (zP 3 (wH («as»:=[sl 2 (File.enc false) a1.Files,sv a2,.fn 62 []]) [(.tmp 7),(.tmp 8),(.func 62)] [24,9,87] false [] [] (.cons (.same rfl) (.cons (.same rfl) (.cons (.fn (.nil)) (.nil)))) (zD.ok a1.Files a2) h4 (.tu (.cons (.same rfl rfl) (.cons (.same rfl rfl) (.nil))))) zC) ?_
 exact zEG rfl
noncomputable def c34:Code:=(Try.f34.body).getD .skip
theorem zW.ok (a1:zA) (a2:ByteArray):Ok Try.prog 34 [.ag (zA.enc false a1),sv a2] [] ((zW a1 a2).map fun r=>(.tu [sl 1 eU8 r.1,bv r.2],[])):=by
 refine zS c34 Try.f34 0 22 (fun q=>?_)
 unfold zW
 refine J_g 2 [(0,0)] [(1,sv a2),(2,pp 0)] [(0,.box (zA.enc false a1))] zC ?_
 refine zB (fun x3 h4=>?_)
 refine J_g 6 [] [(2,pp 0),(6,iv x3.1),(7,bv x3.2)] [(0,.box (zA.enc false a1))] (zP 2 (tJ [(.tmp 9),(.tmp 10)] [26,9] (zX.ok a1 a2) h4) zC) ?_
 refine J_d 28 [] [7,15] [(15,bv (!x3.2))] [] [] zC ?_
 refine zU 15 (fun h5=>?_) (fun h5=>?_)
 ·refine J_g 116 [] [(4,nv),(5,bv false)] [] zC ?_
  exact jS (ds:=[nv,bv false]) (ds':=[sl 1 eU8 ([]:List Int),bv false]) (.cons (.cell (.nilsl false 1 (.nil))) (.cons (.cell (.keep rfl (.nil))) (.nil) (by decide)) (by decide)) rfl
 ·refine zB (fun x6 h7=>?_)
  refine J_g 30 [] [(4,sl 1 eU8 x6.Data),(5,bv true)] [] (zP 3 (zBl (kk:=.i64) 24 35 2 (File.enc false) (.tmp 17) (.tmp 18) h7) zC) ?_
  exact zEG rfl
section
open Go.Shelf Go.RowKit Go.Lib
set_option linter.unusedVariables false
set_option linter.unusedSimpArgs false
set_option maxHeartbeats 4000000 in
set_option maxRecDepth 100000 in
theorem zCT (b off n c i vb voff m vc:Nat) (cs vs:List Value) (w:World) (hi:i<n) (hm:0<m) (hroom:n+m≤c) (h63:n+m≤9223372036854775807) (hvb:vb≠b)
  (hcl:cs.length=n*2) (hvl:vs.length=m*2)
  (hcs:∀j v,cs[j]? =some v→w.cell? ⟨b,off+j,none⟩=some v) (hsp:∀j,j< (n+m)*2→(w.cell? ⟨b,off+j,none⟩).isSome =true) (hfz:∀j,j< (n+m)*2→w.frozen? ⟨b,off+j,none⟩=false)
  (hvs:∀j v,vs[j]? =some v→w.cell? ⟨vb,voff+j,none⟩=some v) (h1c:∀v∈cs,v.oneCell'=true) (h1v:∀v∈vs,v.oneCell'=true)
  (tA tB:TypeId) (kA kB:Nat) (hsa:w.shape? vb=some (tA,kA)) (hsb:w.shape? b=some (tB,kB)) (hkB:kB≠0) (hfa:w.frozen? ⟨vb,voff,none⟩=false) (hfe:w.frozen? ⟨vb,kA,none⟩=false):
  Calls Try.prog 59 #[.slice (some ⟨b,off,none⟩) n c,.int .i64 i,.slice (some ⟨vb,voff,none⟩) m vc] w fun e w'=>
   e= .returned (.slice (some ⟨b,off,none⟩) (n+m) c)∧w'=(w.drew.setCells b (off+(i+m)*2) (cs.drop (i*2))).setCells b (off+i*2) vs:=by
 have hz1:¬((m:Int)=0):=by omega
 have hz2:¬((i:Int)=(n:Int)):=by omega
 have hsz:(Try.prog.info? 35).map (·.size)=some 2:=by kernel_rfl
 have hov:∀lb cb,(callFunc 65 #[.slice (some ⟨vb,voff,none⟩) m vc,.slice (some ⟨b,off+(i+m)*2,none⟩) lb cb]).run Try.prog w= .ok (.value (.bool false)) w:=fun lb cb=>by
  rw [run_callFunc_extern Try.func65 (by kernel_rfl) (by kernel_rfl) (by kernel_rfl) (e:=Extern.SlicesOverlaps.overlaps #[24,24] #[4]) (by kernel_rfl),
   Lib.run_overlaps_apart w 24 4 35 Try.underlying24 2 Try.sizeOf35 ⟨vb,voff,none⟩ ⟨b,off+(i+m)*2,none⟩ m vc lb cb hvb tA tB kA kB hsa hsb hkB hfa hfe]
  rfl
 have hdl:(cs.drop (i*2)).length =(n-i)*2:=by rw [List.length_drop,hcl]; omega
 have mixed:Try.prog.follows .mixedOrders =true:=by kernel_rfl
 have hw1:IntKind.i64.wrap ((i:Int)+(m:Int))=(i:Int)+(m:Int):=by rw [IntKind.wrap_i64]; omega
 have hb1:(0:Int)≤(i:Int)+(m:Int):=by omega
 have hin:i≤n:=by omega
 have htn:((i:Int)+(m:Int)).toNat =i+m:=by omega
 have hb2:¬(c=i+m):=by omega
 have hb3:(i:Int)≤(n:Int)+(m:Int):=by omega
 have hb4:¬(c=i):=by omega
 have hcp1:∀ty dc sc,(Builtin.copy_ #[24,24] ty #[.slice (some ⟨b,off+(i+m)*2,none⟩) (n+m-(i+m)) dc,.slice (some ⟨b,off+i*2,none⟩) (n+m-i) sc]).run Try.prog w.drew= .ok (goInt (Nat.min (n+m-i) (n+m-(i+m)))) (w.drew.setCells b (off+(i+m)*2) (cs.drop (i*2))):=fun ty dc sc=>
  kF w.drew _ _ ty 35 2 b (off+(i+m)*2) (n+m-(i+m)) dc ⟨b,off+i*2,none⟩ (n+m-i) sc (cs.drop (i*2)) Try.underlying24 hsz (by rw [hdl]; simp only [Nat.min_def]; split<;>omega)
   (fun j v hj=>by rw [Addr.add_lit,Nat.add_assoc]; exact hcs (i*2+j) v (by rwa [List.getElem?_drop] at hj))
   (fun j hj=>by rw [Nat.add_assoc]; exact hsp _ (by omega)) (fun j hj=>by rw [Nat.add_assoc]; exact hfz _ (by omega)) (fun v hv=>h1c v (List.mem_of_mem_drop hv))
 obtain ⟨W1,hW1⟩:∃W1,W1=w.drew.setCells b (off+(i+m)*2) (cs.drop (i*2)):=⟨_,rfl⟩
 have hsp1:∀k,k< (n+m)*2→(W1.cell? ⟨b,off+k,none⟩).isSome =true:=fun k hk=>by
  rw [hW1]
  exact isSome_setCells b _ _ _ (fun j hj=>by rw [Nat.add_assoc]; exact hsp _ (by omega)) _ (hsp k hk)
 have hcp2:∀(W:World),(∀x,W.cell? x=W1.cell? x)→(∀x,W.frozen? x=W1.frozen? x)→∀ty dc,(Builtin.copy_ #[24,24] ty #[.slice (some ⟨b,off+i*2,none⟩) (n+m-i) dc,.slice (some ⟨vb,voff,none⟩) m vc]).run Try.prog W= .ok (goInt (Nat.min m (n+m-i))) (W.setCells b (off+i*2) vs):=fun W hWc hWf ty dc=>
  kF W _ _ ty 35 2 b (off+i*2) (n+m-i) dc ⟨vb,voff,none⟩ m vc vs Try.underlying24 hsz (by rw [hvl]; simp only [Nat.min_def]; split<;>omega)
   (fun j v hj=>by
    rw [Addr.add_lit,hWc,hW1,World.cell?_setCells_out b _ _ _ _ (fun h _=>absurd h hvb)]
    exact hvs j v hj)
   (fun j hj=>by rw [hWc,Nat.add_assoc]; exact hsp1 _ (by omega)) (fun j hj=>by rw [hWf,hW1,World.frozen?_setCells,Nat.add_assoc]; exact hfz _ (by omega)) h1v
 rw [←hW1] at hcp1
 clear hsp hfz hcs hvs hsp1 h1c h1v hdl hcl hvl
 go_enter Try.func59,Try.ntmps59
 go_wp2_with (simp only [hov])
 go_region_law_o (refine step_copy_runI rfl _ _ 24 24 rfl _ _ (by simp [Act.eval,Act.put]) (by simp [Act.eval,Act.put]) (hcp1 _ _ _) ?_)
 go_wp2_with (at_builtin; refine wpList_copy_runI _ rfl _ _ 24 24 rfl _ _ rfl rfl (hcp2 _ (fun _=>rfl) (fun _=>rfl) _ _) ?_)
 go_ret
 first|exact ⟨rfl,rfl⟩|exact ⟨rfl,by rw [hW1]⟩
set_option maxHeartbeats 4000000 in
set_option maxRecDepth 100000 in
theorem zCE (base:Option Addr) (n c vb voff m vc:Nat) (w w1:World) (r:Value) (hm:0<m) (hnc:n≤c) (h63:n+m≤9223372036854775807) (hnil:base=none→n=0∧c=0)
  (hrun:(Builtin.append_ #[24,24] 24 #[.slice base n c,.slice (some ⟨vb,voff,none⟩) m vc]).run Try.prog w= .ok r w1):
  Calls Try.prog 59 #[.slice base n c,.int .i64 n,.slice (some ⟨vb,voff,none⟩) m vc] w fun e w'=>e= .returned r∧w'=w1:=by
 have hz1:¬((m:Int)=0):=by omega
 have mixed:Try.prog.follows .mixedOrders =true:=by kernel_rfl
 go_enter Try.func59,Try.ntmps59
 cases base with
 |none=>
  obtain ⟨rfl,rfl⟩:=hnil rfl
  go_wp2_with (at_builtin; refine Lib.wpList_append_run _ rfl _ _ _ _ rfl _ _ rfl rfl _ _ hrun ?_)
  go_ret
  exact ⟨rfl,rfl⟩
 |some a=>
  obtain ⟨ab,ao,asp⟩:=a
  go_wp2_with (at_builtin; refine Lib.wpList_append_run _ rfl _ _ _ _ rfl _ _ rfl rfl _ _ hrun ?_)
  all_goals (go_ret; exact ⟨rfl,rfl⟩)
set_option maxHeartbeats 4000000 in
set_option maxRecDepth 100000 in
theorem zDK (b off n c i vb voff m vc:Nat) (cs vs:List Value) (w:World) (hi:i<n) (hm:0<m) (hnc:n≤c) (hroom:c<n+m) (hbig:(n+m)*40≤140737488355328)
  (hcl:cs.length=n*2) (hvl:vs.length=m*2)
  (hcs:∀j v,cs[j]? =some v→w.cell? ⟨b,off+j,none⟩=some v)
  (hvs:∀j v,vs[j]? =some v→w.cell? ⟨vb,voff+j,none⟩=some v) (h1c:∀v∈cs,v.oneCell'=true) (h1v:∀v∈vs,v.oneCell'=true) (zv:Value) (hzv:Try.t35.zero=some zv) (hzs:zv.cells.size=2):
  Calls Try.prog 59 #[.slice (some ⟨b,off,none⟩) n c,.int .i64 i,.slice (some ⟨vb,voff,none⟩) m vc] w fun e w'=>
   e= .returned (.slice (some ⟨w.heap.size,0,none⟩) (n+m) (grownCap w (n+m) c 35))∧
   w'=(((w.alloc (.cells ((cs.take (i*2)).toArray ++Builtin.zeroCells zv.cells (n+m-i)++Builtin.zeroCells zv.cells (grownCap w (n+m) c 35-(n+m))) 35)).drew.setCells w.heap.size (i*2) vs).drew).setCells w.heap.size ((i+m)*2) (cs.drop (i*2)):=by
 have mixed:Try.prog.follows .mixedOrders =true:=by kernel_rfl
 have hi0:Try.prog.info? 35=some Try.t35:=by kernel_rfl
 have hzz:Try.t35.size=2:=by kernel_rfl
 have hzb:Try.t35.bytes=40:=by kernel_rfl
 have hz1:¬((m:Int)=0):=by omega
 have hz2:¬((i:Int)=(n:Int)):=by omega
 have hz3:(c:Int)< (n:Int)+(m:Int):=by omega
 have hsz:(Try.prog.info? 35).map (·.size)=some 2:=by kernel_rfl
 have hbw:b<w.heap.size:=block_lt_of_cell (hcs 0 _ (List.getElem?_eq_getElem (by omega)))
 have hvw:vb<w.heap.size:=block_lt_of_cell (hvs 0 _ (List.getElem?_eq_getElem (by omega)))
 have hkk:(n:Int)+(m:Int)-(i:Int)=((n+m-i:Nat):Int):=by omega
 have hik:i+(n+m-i)=n+m:=by omega
 have hold:(Builtin.firstCells Try.t35.size i (.slice (some ⟨b,off,none⟩) i c)).run Try.prog w.drew= .ok (cs.take (i*2)).toArray w.drew:=by
  rw [hzz]
  exact run_firstCells_some w.drew 2 i ⟨b,off,none⟩ i c (cs.take (i*2)) (by rw [List.length_take]; omega) (fun j v hj=>by
   rw [Addr.add_lit]
   rw [List.getElem?_take] at hj
   split at hj
   ·exact hcs j v hj
   ·cases hj)
 have hrz:∀ty,(Builtin.append_ #[24,3] ty #[.slice (some ⟨b,off,none⟩) i c,.int .i64 ((n:Int)+(m:Int)-(i:Int))]).run Try.prog w=
   .ok (.slice (some ⟨w.heap.size,0,none⟩) (n+m) (grownCap w (n+m) c 35)) (w.drew.alloc (.cells ((cs.take (i*2)).toArray ++Builtin.zeroCells zv.cells (n+m-i)++Builtin.zeroCells zv.cells (grownCap w (n+m) c 35-(n+m))) 35)):=fun ty=>by
  have h:=Lib.run_append_grow_zeros w 24 3 ty 35 Try.t35 _ .i64 .i64 Try.underlying24 Try.underlying3 hi0 hzv (some ⟨b,off,none⟩) i c (cs.take (i*2)) hold (n+m-i) (by omega) (by omega) (by omega) (by omega) (by rw [hzb]; omega) (by rw [hzb,hik]; exact growslice_fits hroom hbig)
  rw [hik] at h
  rw [hkk]
  exact h
 obtain ⟨G,hG⟩:∃G,G=grownCap w (n+m) c 35:=⟨_,rfl⟩
 obtain ⟨ROW,hROW⟩:∃ROW:Array Value,ROW=(cs.take (i*2)).toArray ++Builtin.zeroCells zv.cells (n+m-i)++Builtin.zeroCells zv.cells (G-(n+m)):=⟨_,rfl⟩
 rw [←hG] at hrz ⊢
 rw [←hROW] at hrz ⊢
 have hRl:(n+m)*2≤ROW.size:=by
  rw [hROW]
  simp [Builtin.zeroCells,hzs]
  omega
 obtain ⟨W1,hW1⟩:∃W1,W1=w.drew.alloc (.cells ROW 35):=⟨_,rfl⟩
 rw [←hW1] at hrz
 have hN:∀j,j< (n+m)*2→(W1.cell? ⟨w.heap.size,j,none⟩).isSome =true:=fun j hj=>by
  rw [hW1,World.cell?_alloc_at (w:=w.drew) ROW _ w.heap.size j rfl,Array.getElem?_eq_getElem (by omega)]; rfl
 have hNf:∀j,W1.frozen? ⟨w.heap.size,j,none⟩=false:=fun j=>by rw [hW1]; exact World.frozen?_alloc_at (w:=w.drew) ROW _ w.heap.size j rfl
 have hOb:∀j v,w.cell? ⟨b,j,none⟩=some v→W1.cell? ⟨b,j,none⟩=some v:=fun j v h=>by rw [hW1,World.cell?_alloc_past (w:=w.drew) _ b j hbw]; exact h
 have hOv:∀j v,w.cell? ⟨vb,j,none⟩=some v→W1.cell? ⟨vb,j,none⟩=some v:=fun j v h=>by rw [hW1,World.cell?_alloc_past (w:=w.drew) _ vb j hvw]; exact h
 have hcpA:∀(W:World),(∀x,W.cell? x=W1.cell? x)→(∀x,W.frozen? x=W1.frozen? x)→∀ty dc,(Builtin.copy_ #[24,24] ty #[.slice (some ⟨w.heap.size,i*2,none⟩) (n+m-i) dc,.slice (some ⟨vb,voff,none⟩) m vc]).run Try.prog W= .ok (goInt (Nat.min m (n+m-i))) (W.setCells w.heap.size (i*2) vs):=fun W hWc hWf ty dc=>
  kF W _ _ ty 35 2 w.heap.size (i*2) (n+m-i) dc ⟨vb,voff,none⟩ m vc vs Try.underlying24 hsz (by rw [hvl]; simp only [Nat.min_def]; split<;>omega)
   (fun j v hj=>by rw [Addr.add_lit,hWc]; exact hOv _ v (hvs j v hj))
   (fun j hj=>by rw [hWc]; exact hN _ (by omega)) (fun j hj=>by rw [hWf]; exact hNf _) h1v
 have hGn:n+m≤G:=by rw [hG]; exact grownCap_ge w _ _ _
 have hG63:G≤9223372036854775807:=by
  have:=grownCap_le_maxLen w (n+m) c 35 (by unfold maxLen; omega)
  rw [←hG] at this
  unfold maxLen at this
  omega
 have hGi:¬(G=i):=by omega
 have hGim:¬(G=i+m):=by omega
 have hci:¬(c=i):=by omega
 have hbN:b≠w.heap.size:=by omega
 have hdl:(cs.drop (i*2)).length =(n-i)*2:=by rw [List.length_drop,hcl]; omega
 have hcpB:∀(W:World),(∀x,W.cell? x=(W1.setCells w.heap.size (i*2) vs).cell? x)→(∀x,W.frozen? x=(W1.setCells w.heap.size (i*2) vs).frozen? x)→∀ty dc sc,(Builtin.copy_ #[24,24] ty #[.slice (some ⟨w.heap.size,(i+m)*2,none⟩) (n+m-(i+m)) dc,.slice (some ⟨b,off+i*2,none⟩) (n-i) sc]).run Try.prog W= .ok (goInt (Nat.min (n-i) (n+m-(i+m)))) (W.setCells w.heap.size ((i+m)*2) (cs.drop (i*2))):=fun W hWc hWf ty dc sc=>
  kF W _ _ ty 35 2 w.heap.size ((i+m)*2) (n+m-(i+m)) dc ⟨b,off+i*2,none⟩ (n-i) sc (cs.drop (i*2)) Try.underlying24 hsz (by rw [hdl]; simp only [Nat.min_def]; split<;>omega)
   (fun j v hj=>by
    rw [Addr.add_lit,hWc,World.cell?_setCells_out _ _ _ _ _ (fun h _=>absurd h hbN),Nat.add_assoc]
    exact hOb _ v (hcs (i*2+j) v (by rwa [List.getElem?_drop] at hj)))
   (fun j hj=>by rw [hWc]; exact isSome_setCells _ _ _ _ (fun t ht=>hN _ (by omega)) _ (hN _ (by omega)))
   (fun j hj=>by rw [hWf,World.frozen?_setCells]; exact hNf _) (fun v hv=>h1c v (List.mem_of_mem_drop hv))
 subst hW1
 have hE1:∀x,((w.alloc (.cells ROW 35)).drew).cell? x=(w.drew.alloc (.cells ROW 35)).cell? x:=fun x=>rfl
 have hE2:∀x,((w.alloc (.cells ROW 35)).drew).frozen? x=(w.drew.alloc (.cells ROW 35)).frozen? x:=fun x=>rfl
 have hF1:∀x,(((w.alloc (.cells ROW 35)).drew.setCells w.heap.size (i*2) vs).drew).cell? x=((w.drew.alloc (.cells ROW 35)).setCells w.heap.size (i*2) vs).cell? x:=fun x=>rfl
 have hF2:∀x,(((w.alloc (.cells ROW 35)).drew.setCells w.heap.size (i*2) vs).drew).frozen? x=((w.drew.alloc (.cells ROW 35)).setCells w.heap.size (i*2) vs).frozen? x:=fun x=>rfl
 have hw1:IntKind.i64.wrap ((i:Int)+(m:Int))=(i:Int)+(m:Int):=by rw [IntKind.wrap_i64]; omega
 have hb1:(0:Int)≤(i:Int)+(m:Int):=by omega
 have hin:i≤n:=by omega
 have htn:((i:Int)+(m:Int)).toNat =i+m:=by omega
 have hb3:(i:Int)≤(n:Int):=by omega
 clear hkk hik hold hROW hG hRl hcs hvs hOb hOv hN hNf h1c h1v hcl hvl hdl hzv hzs
 go_enter Try.func59,Try.ntmps59
 go_wp2_with (first
  |(at_builtin; refine Lib.wpList_append_run _ rfl _ _ _ _ rfl _ _ rfl rfl _ _ (hrz _) ?_)
  |(at_builtin; refine wpList_copy_runI _ rfl _ _ 24 24 rfl _ _ rfl rfl (hcpA _ hE1 hE2 _ _) ?_)
  |(at_builtin; refine wpList_copy_runI _ rfl _ _ 24 24 rfl _ _ rfl rfl (hcpB _ (fun _=>rfl) (fun _=>rfl) _ _ _) ?_))
 go_region_law_o (refine step_copy_runI rfl _ _ 24 24 rfl (.slice (some ⟨w.heap.size,(i+m)*2,none⟩) (n+m-(i+m)) (G-(i+m))) (.slice (some ⟨b,off+i*2,none⟩) (n-i) (c-i)) (by simp [Act.eval,Act.put]) (by simp [Act.eval,Act.put]) (hcpB _ hF1 hF2 3 (G-(i+m)) (c-i)) ?_)
 go_wp2
 go_ret
 exact ⟨rfl,rfl⟩
theorem zEd (n m:Nat) (i:Int) (h0:0≤i) (h1:i≤n) (hm:0<m) (hbig:n+m≤1099511627776) (w:World) (v u:Value) (wx wy:List Value) (bx bz:List Nat) (hD1:Dst w 2 n v wx bx) (hD2:Dst w 2 m u wy bz) (hd:∀b∈bx,b∉bz) (q1:∀q∈wx,Value.oneCell q=true) (q2:∀q∈wy,Value.oneCell q=true):
  Calls Try.prog 59 #[v,.int .i64 i,u] w fun e w'=>∃r,e= .returned r∧zBZ w w' 2 (n+m) 0 (wx.take (i.toNat*2)++(wy++wx.drop (i.toNat*2))) [] bx r:=by
 obtain ⟨k,rfl⟩:=Int.eq_ofNat_of_zero_le h0
 have hk:k≤n:=by omega
 rw [Int.toNat_natCast]
 have e1:∀q∈wx,q.oneCell'=true:=fun q hq=>by rw [jD]; exact q1 q hq
 have e2:∀q∈wy,q.oneCell'=true:=fun q hq=>by rw [jD]; exact q2 q hq
 rcases hD2 with ⟨_,hm0,_⟩|⟨vb,voff,vc,rfl,rfl,hmc,hO2,hl2⟩
 ·omega
 have hvs:∀j v,wy[j]? =some v→w.cell? ⟨vb,voff+j,none⟩=some v:=fun j v hj=>by
  obtain ⟨hlt,rfl⟩:=List.getElem?_eq_some_iff.1 hj
  exact hO2.has.cell j hlt
 by_cases hkn:k=n
 ·subst hkn
  have hsrc:Go.Src Try.prog 2 24 (.slice (some ⟨vb,voff,none⟩) m vc) m wy w:=jW Try.underlying24 q2 (.inr ⟨vb,voff,vc,rfl,hO2.has,hl2⟩)
  have hl1:wx.length=k*2:=by
   rcases hD1 with ⟨_,rfl,rfl,_⟩|⟨_,_,_,_,_,_,_,h⟩
   ·rfl
   ·exact h
  obtain ⟨r,w1,hrun,hA⟩:=kE (ty:=24) (T:=24) (U:=24) (bytes:=40) (zv:=zAQ Try.prog 35) Try.underlying24 (by kernel_rfl) (by kernel_rfl) hD1 hsrc (by omega) (by omega)
  have hA':zBZ w w1 2 (k+m) 0 (wx.take (k*2)++(wy++wx.drop (k*2))) [] bx r:=by
   rw [List.take_of_length_le (by omega),List.drop_of_length_le (by omega),List.append_nil]
   obtain ⟨g1,g2⟩:=hA
   refine ⟨g1,?_⟩
   rcases g2 with ⟨g2,_⟩|⟨b,off,c,g3,g4,g5,g6⟩
   ·omega
   ·exact .inr ⟨b,off,c,g3,g4,by rw [List.append_nil]; exact g5,g6⟩
  rcases hD1 with ⟨rfl,rfl,rfl,rfl⟩|⟨b,off,c,rfl,rfl,hnc,hO1,_⟩
  ·refine (zCE none 0 0 vb voff m vc w w1 r hm (Nat.le_refl _) (by omega) (fun _=>⟨rfl,rfl⟩) hrun).mono ?_
   rintro e w' ⟨rfl,rfl⟩
   exact ⟨_,rfl,hA'⟩
  ·refine (zCE (some ⟨b,off,none⟩) k c vb voff m vc w w1 r hm hnc (by omega) (fun h=>by cases h) hrun).mono ?_
   rintro e w' ⟨rfl,rfl⟩
   exact ⟨_,rfl,hA'⟩
 ·rcases hD1 with ⟨_,hn0,_⟩|⟨b,off,c,rfl,rfl,hnc,hO1,hl1⟩
  ·omega
  have hvb:vb≠b:=fun e=>hd b (by simp) (by simp [e])
  have hcs:∀j v,wx[j]? =some v→w.cell? ⟨b,off+j,none⟩=some v:=fun j v hj=>by
   obtain ⟨hlt,rfl⟩:=List.getElem?_eq_some_iff.1 hj
   exact hO1.has.cell j hlt
  by_cases hroom:n+m≤c
  ·obtain ⟨arr,e,lo,hi,g1,g2,g3,g4⟩:=id hO1
   obtain ⟨arr2,e',lo2,hi2,p1,p2,p3,p4⟩:=hO2
   refine (zCT b off n c k vb voff m vc wx wy w (by omega) hm hroom (by omega) hvb hl1 hl2 hcs (fun j hj=>?_) (fun j hj=>kG g1 g2 (by omega)) hvs e1 e2 e' e arr2.size arr.size (by simp [World.shape?,p1]) (by simp [World.shape?,g1]) (by omega) (kG p1 p2 (by omega)) (kG p1 p2 (Nat.le_refl _))).mono ?_
   ·rw [cell_of g1,Array.getElem?_eq_getElem (by omega)]; rfl
   ·rintro e' w' ⟨rfl,rfl⟩
    refine ⟨_,rfl,?_⟩
    rw [yU,yU]
    exact zCR (w:=w) (w0:=w.drew) ⟨rfl,rfl,rfl⟩ hO1 hl1 hl2 hk hroom
  ·refine (zDK b off n c k vb voff m vc wx wy w (by omega) hm hnc (by omega) (by omega) hl1 hl2 hcs hvs e1 e2 (zAQ Try.prog 35) (by kernel_rfl) (by kernel_rfl)).mono ?_
   rintro e' w' ⟨rfl,rfl⟩
   refine ⟨_,rfl,?_⟩
   have hge:=grownCap_ge w (n+m) c 35
   have hz2:(zAQ Try.prog 35).cells.size =2:=by kernel_rfl
   rw [←drew_setCells,yU,yU]
   refine zBZ.world (zD3 (w:=w) (w0:=(w.alloc (.cells ((wx.take (k*2)).toArray ++Builtin.zeroCells (zAQ Try.prog 35).cells (n+m-k)++Builtin.zeroCells (zAQ Try.prog 35).cells (grownCap w (n+m) c 35-(n+m))) 35)).drew) (c:=grownCap w (n+m) c 35) (z:=2) (blk:=[b]) ⟨rfl,rfl,rfl⟩ (fun q hq=>?_) ?_ hl1 hl2 hk hge) (by omega) rfl ⟨rfl,rfl⟩
   ·rw [Array.append_assoc,Array.getElem?_append_left (by simp; omega)]
    simp [List.getElem?_take,hq]
   ·simp [Builtin.zeroCells,hz2]
    omega
theorem xD.ok (a1:List File) (a2:Int) (a3:List File):Ok Try.prog 59 [rr 0 a1,iv a2,rr 1 a3] [rE 2 (File.enc true) a1,rE 2 (File.enc true) a3] ((xD a1 a2 a3).map fun r=>(so 2 (File.enc true) r,[])):=by
 unfold xD
 split
 ·rename_i h
  obtain ⟨h0,h1,h2,h3⟩:=h
  exact zDE (fun _=>rfl) h0 h1 (fun w v u wx wy bx bz hD1 hD2 hd _ q1 q2=>zEd a1.length a3.length a2 h0 h1 h2 h3 w v u wx wy bx bz hD1 hD2 hd q1 q2)
 ·exact fun _ h=>by cases h
end
noncomputable def c51:Code:=(Try.f51.body).getD .skip
theorem wN.ok (a1:zA) (a2:ByteArray) (a3:(List Int)):Ok Try.prog 51 [pp 0,sv a2,sl 1 eU8 a3] [.box (zA.enc true a1)] ((wN a1 a2 a3).map fun r=>(.tu [],[.box (zA.enc true r)])):=by
 refine zS c51 Try.f51 1 39 (fun q=>?_)
 unfold wN
 refine yB 0 (cs':=[rr 1 a1.Files,iv a1.Budget,iv a1.Writes,iv a1.Stop,bv a1.Down]) (es:=[(1,rE 2 (File.enc true) a1.Files)]) rfl (.cons (.own 1) (.cons (.same rfl rfl) (.cons (.same rfl rfl) (.cons (.same rfl rfl) (.cons (.same rfl rfl) (.nil)))))) rfl (by kernel_rfl) (by kernel_rfl) ?_
 refine xW [(0,pp 0),(1,sv a2),(2,sl 1 eU8 a3)] [(0,.box [rr 1 a1.Files,iv a1.Budget,iv a1.Writes,iv a1.Stop,bv a1.Down]),(1,rE 2 (File.enc true) a1.Files)] (by kernel_rfl) ?_
 refine zB (fun x4 h5=>?_)
 refine J_g 2 [] [(0,pp 0),(1,sv a2),(2,sl 1 eU8 a3),(6,iv x4.1),(7,bv x4.2)] [(0,.box [rr 1 a1.Files,iv a1.Budget,iv a1.Writes,iv a1.Stop,bv a1.Down]),(1,rE 2 (File.enc true) a1.Files)] (zP 4 (wH («as»:=[.ag [rr 1 a1.Files,iv a1.Budget,iv a1.Writes,iv a1.Stop,bv a1.Down],sv a2]) [(.tmp 11),(.tmp 12)] [55,9] true [(1,rE 2 (File.enc true) a1.Files)] [] (.cons (.ag (.cons (jP (.head _) (File.ro true) rfl) (.cons (.same rfl) (.cons (.same rfl) (.cons (.same rfl) (.cons (.same rfl) (.nil))))))) (.cons (.same rfl) (.nil))) (zX.ok a1 a2) h5 (.tu (.cons (.same rfl rfl) (.cons (.same rfl rfl) (.nil)))) (hbor:=fun _=>⟨fhN,(zCq (flatK yK (flatK yK kX)))⟩)) zC) ?_
 refine J_d 12 [] [7,17] [(17,bv (!x4.2))] [] [] zC ?_
 refine xV (atI c51 7) (fun v9:(List File)=>St.mk' [(0,pp 0),(2,sl 1 eU8 a3),(6,iv x4.1)] [(0,.box [rr 3 v9,iv a1.Budget,iv a1.Writes,iv a1.Stop,bv a1.Down]),(3,rE 2 (File.enc true) v9)]) (fun v9=>?_) (fun jv9=>?_)
 ·refine zB (fun x10 h11=>?_)
  refine zB (fun x12 h13=>?_)
  refine J_g 7 [] [] [(0,.box [rr 3 v9,iv a1.Budget,iv a1.Writes,iv a1.Stop,bv a1.Down]),(3,rE 2 (File.enc true) (v9.set x4.1.toNat ({Path:=x12.Path,Data:=x10}:File)))] (zP 6 (wH («as»:=[sl 1 eU8 a3]) [(.tmp 35)] [22] false [] [] (.cons (.same rfl) (.nil)) (zV.ok a3) h11 (.own 4)) (zP 7 (zAf (kk:=.i64) 24 35 2 3 (File.enc true) (.tmp 33) (.tmp 34) h13) (zF4 9 (zFd (b:=({Path:=x12.Path,Data:=x10}:File)) (es':=[so 1 eU8 x10]) (ts:=[4]) 22 2 3 1 (File.enc true) (rr 4 x10) (.tmp 38) (.tmp 36) [(4,rE 1 eU8 x10)] h13 (.move (.head _) (List.length_map _) (by decide) (.nil)) rfl) zC))) ?_
  refine zF1 (σ':=St.mk' [] [(0,.box [rr 3 (v9.set x4.1.toNat ({Path:=x12.Path,Data:=x10}:File)),iv a1.Budget,iv a1.Writes,iv a1.Stop,bv a1.Down]),(3,rE 2 (File.enc true) (v9.set x4.1.toNat ({Path:=x12.Path,Data:=x10}:File)))]) (by simp only [rr,List.length_set]) ?_
  refine yI 0 (cs':=[so 2 (File.enc true) (v9.set x4.1.toNat ({Path:=x12.Path,Data:=x10}:File)),iv a1.Budget,iv a1.Writes,iv a1.Stop,bv a1.Down]) (ts:=[3]) rfl (.move (.head _) (List.length_map _) (by decide) (.keep rfl (.keep rfl (.keep rfl (.keep rfl (.nil)))))) ?_
  refine xW [] [(0,.box [so 2 (File.enc true) (v9.set x4.1.toNat ({Path:=x12.Path,Data:=x10}:File)),iv a1.Budget,iv a1.Writes,iv a1.Stop,bv a1.Down])] (by kernel_rfl) ?_
  exact zEG rfl
 ·refine zU 17 (fun h6=>?_) (fun h6=>?_)
  ·refine zB (fun x7 h8=>?_)
   refine J_d 26 [] [1,17] [] [0,1,3] [(0,.box [rr 3 x7,iv a1.Budget,iv a1.Writes,iv a1.Stop,bv a1.Down]),(3,rE 2 (File.enc true) x7)] (zP 8 (zEZ (ds:=[sv a2,nv]) (ts:=[]) 24 35 2 2 (File.enc true) [({Path:=a2,Data:=([]:List Int)}:File)] [0] [(.tmp 25)] [.ag [sv a2,nv]] [] (.keep rfl (.nilsl true 1 (.nil)))) (zP 9 (wH («as»:=[rr 1 a1.Files,iv x4.1,rr 2 [({Path:=a2,Data:=([]:List Int)}:File)]]) [(.tmp 22),(.tmp 23),(.tmp 26)] [24,3,24] false [(1,rE 2 (File.enc true) a1.Files),(2,rE 2 (File.enc true) [({Path:=a2,Data:=([]:List Int)}:File)])] [1,2] (.cons (.rf rfl) (.cons (.same rfl) (.cons (.rf rfl) (.nil)))) (xD.ok a1.Files x4.1 [({Path:=a2,Data:=([]:List Int)}:File)]) h8 (.own 3)) zC)) ?_
   exact xZ (J_j (jv9 x7)) rfl
  ·refine zAT 1 3 (Nat.le_of_ble_eq_true rfl) (Nat.le_of_ble_eq_true rfl) ?_
   exact xZ (J_j (jv9 a1.Files)) rfl
noncomputable def c50:Code:=(Try.f50.body).getD .skip
theorem xE.ok (a1:zA) (a2:ByteArray) (a3:(List Int)):Ok Try.prog 50 [.pb [pp 0],pp 1,pp 2] [.box (zA.enc true a1),.box [sv a2],.box [sl 1 eU8 a3]] ((xE a1 a2 a3).map fun r=>(.tu [],[.box (zA.enc true r),.box [sv a2],.box [sl 1 eU8 a3]])):=by
 refine zS c50 Try.f50 3 7 (fun q=>?_)
 unfold xE
 refine yB 0 (cs':=[rr 3 a1.Files,iv a1.Budget,iv a1.Writes,iv a1.Stop,bv a1.Down]) (es:=[(3,rE 2 (File.enc true) a1.Files)]) rfl (.cons (.own 3) (.cons (.same rfl rfl) (.cons (.same rfl rfl) (.cons (.same rfl rfl) (.cons (.same rfl rfl) (.nil)))))) rfl (by kernel_rfl) (by kernel_rfl) ?_
 refine xW [(0,.pb [pp 0]),(1,pp 1),(2,pp 2)] [(0,.box [rr 3 a1.Files,iv a1.Budget,iv a1.Writes,iv a1.Stop,bv a1.Down]),(1,.box [sv a2]),(2,.box [sl 1 eU8 a3]),(3,rE 2 (File.enc true) a1.Files)] (by kernel_rfl) ?_
 refine yI 0 (cs':=[so 2 (File.enc true) a1.Files,iv a1.Budget,iv a1.Writes,iv a1.Stop,bv a1.Down]) (ts:=[3]) rfl (.move (.tail _ (.tail _ (.head _))) (List.length_map _) (by decide) (.keep rfl (.keep rfl (.keep rfl (.keep rfl (.nil)))))) ?_
 refine xW [(0,.pb [pp 0]),(1,pp 1),(2,pp 2)] [(0,.box (zA.enc true a1)),(1,.box [sv a2]),(2,.box [sl 1 eU8 a3])] (by kernel_rfl) ?_
 refine zB (fun x4 h5=>?_)
 refine J_g 1 [] [] [(0,.box (zA.enc true x4)),(1,.box [sv a2]),(2,.box [sl 1 eU8 a3])] (zP 0 (kM (d:=pp 0) 55 (.tmp 0) [pp 0]) (zP 3 (wH («as»:=[pp 0,sv a2,sl 1 eU8 a3]) [(.tmp 3),(.tmp 4),(.tmp 5)] [55,9,22] false [(0,.box (zA.enc true a1))] [0] (.cons (.pt rfl) (.cons (.same rfl) (.cons (.same rfl) (.nil)))) (wN.ok a1 a2 a3) h5 (.tu (.nil))) zC)) ?_
 refine yB 0 (cs':=[rr 3 x4.Files,iv x4.Budget,iv x4.Writes,iv x4.Stop,bv x4.Down]) (es:=[(3,rE 2 (File.enc true) x4.Files)]) rfl (.cons (.own 3) (.cons (.same rfl rfl) (.cons (.same rfl rfl) (.cons (.same rfl rfl) (.cons (.same rfl rfl) (.nil)))))) rfl (by kernel_rfl) (by kernel_rfl) ?_
 refine xW [] [(0,.box [rr 3 x4.Files,iv x4.Budget,iv x4.Writes,iv x4.Stop,bv x4.Down]),(1,.box [sv a2]),(2,.box [sl 1 eU8 a3]),(3,rE 2 (File.enc true) x4.Files)] (by kernel_rfl) ?_
 refine yI 0 (cs':=[so 2 (File.enc true) x4.Files,iv x4.Budget,iv x4.Writes,iv x4.Stop,bv x4.Down]) (ts:=[3]) rfl (.move (.tail _ (.tail _ (.head _))) (List.length_map _) (by decide) (.keep rfl (.keep rfl (.keep rfl (.keep rfl (.nil)))))) ?_
 refine xW [] [(0,.box (zA.enc true x4)),(1,.box [sv a2]),(2,.box [sl 1 eU8 a3])] (by kernel_rfl) ?_
 exact zEG rfl
noncomputable def c49:Code:=(Try.f49.body).getD .skip
theorem zN.ok (a1:zA) (a2:ByteArray) (a3:(List Int)):Ok Try.prog 49 [pp 0,.fn 50 [.pb [pp 0],pp 1,pp 2]] [.box (zA.enc true a1),.box [sv a2],.box [sl 1 eU8 a3]] ((zN a1 a2 a3).map fun r=>(iv r.1,[.box (zA.enc true r.2),.box [sv a2],.box [sl 1 eU8 a3]])):=by
 refine zS c49 Try.f49 3 33 (fun q=>?_)
 unfold zN
 refine yB 0 (cs':=[rr 3 a1.Files,iv a1.Budget,iv a1.Writes,iv a1.Stop,bv a1.Down]) (es:=[(3,rE 2 (File.enc true) a1.Files)]) rfl (.cons (.own 3) (.cons (.same rfl rfl) (.cons (.same rfl rfl) (.cons (.same rfl rfl) (.cons (.same rfl rfl) (.nil)))))) rfl (by kernel_rfl) (by kernel_rfl) ?_
 refine xW [(0,pp 0),(1,.fn 50 [.pb [pp 0],pp 1,pp 2])] [(0,.box [rr 3 a1.Files,iv a1.Budget,iv a1.Writes,iv a1.Stop,bv a1.Down]),(1,.box [sv a2]),(2,.box [sl 1 eU8 a3]),(3,rE 2 (File.enc true) a1.Files)] (by kernel_rfl) ?_
 refine J_d 2 [] [] [] [] [] zC ?_
 refine xV (atI c49 13) (fun v5:Bool=>St.mk' [(0,pp 0),(1,.fn 50 [.pb [pp 0],pp 1,pp 2]),(20,bv v5)] [(0,.box [rr 3 a1.Files,iv a1.Budget,iv a1.Writes,iv a1.Stop,bv a1.Down]),(1,.box [sv a2]),(2,.box [sl 1 eU8 a3]),(3,rE 2 (File.enc true) a1.Files)]) (fun v5=>?_) (fun jv5=>?_)
 ·refine zU 20 (fun h6=>?_) (fun h6=>?_)
  ·refine J_g 52 [] [] [(0,.box [rr 3 a1.Files,iv a1.Budget,iv a1.Writes,iv a1.Stop,bv true]),(1,.box [sv a2]),(2,.box [sl 1 eU8 a3]),(3,rE 2 (File.enc true) a1.Files)] zC ?_
   refine J_g 106 [] [(4,iv 9)] [(0,.box [rr 3 a1.Files,iv a1.Budget,iv a1.Writes,iv a1.Stop,bv true]),(1,.box [sv a2]),(2,.box [sl 1 eU8 a3]),(3,rE 2 (File.enc true) a1.Files)] zC ?_
   refine yI 0 (cs':=[so 2 (File.enc true) a1.Files,iv a1.Budget,iv a1.Writes,iv a1.Stop,bv true]) (ts:=[3]) rfl (.move (.tail _ (.tail _ (.head _))) (List.length_map _) (by decide) (.keep rfl (.keep rfl (.keep rfl (.keep rfl (.nil)))))) ?_
   refine xW [(4,iv 9)] [(0,.box [so 2 (File.enc true) a1.Files,iv a1.Budget,iv a1.Writes,iv a1.Stop,bv true]),(1,.box [sv a2]),(2,.box [sl 1 eU8 a3])] (by kernel_rfl) ?_
   exact xI rfl
  ·refine yI 0 (cs':=[so 2 (File.enc true) a1.Files,iv a1.Budget,iv a1.Writes,iv a1.Stop,bv a1.Down]) (ts:=[3]) rfl (.move (.tail _ (.tail _ (.head _))) (List.length_map _) (by decide) (.keep rfl (.keep rfl (.keep rfl (.keep rfl (.nil)))))) ?_
   refine xW [(0,pp 0),(1,.fn 50 [.pb [pp 0],pp 1,pp 2]),(20,bv false)] [(0,.box (zA.enc true a1)),(1,.box [sv a2]),(2,.box [sl 1 eU8 a3])] (by kernel_rfl) ?_
   refine zB (fun x7 h8=>?_)
   refine J_g 14 [] [(0,pp 0)] [(0,.box (zA.enc true x7)),(1,.box [sv a2]),(2,.box [sl 1 eU8 a3])] (zP 1 (zEi 24 [] [] false [(0,.box (zA.enc true a1)),(1,.box [sv a2]),(2,.box [sl 1 eU8 a3])] [0,1,2] [] [.pb [pp 0],pp 1,pp 2] (.cons (.pb (.cons (.pt rfl) (.nil))) (.cons (.pt rfl) (.cons (.pt rfl) (.nil)))) (xE.ok a1 a2 a3) h8 (.tu (.nil))) zC) ?_
   refine yB 0 (cs':=[rr 3 x7.Files,iv x7.Budget,iv x7.Writes,iv x7.Stop,bv x7.Down]) (es:=[(3,rE 2 (File.enc true) x7.Files)]) rfl (.cons (.own 3) (.cons (.same rfl rfl) (.cons (.same rfl rfl) (.cons (.same rfl rfl) (.cons (.same rfl rfl) (.nil)))))) rfl (by kernel_rfl) (by kernel_rfl) ?_
   refine xW [(0,pp 0)] [(0,.box [rr 3 x7.Files,iv x7.Budget,iv x7.Writes,iv x7.Stop,bv x7.Down]),(1,.box [sv a2]),(2,.box [sl 1 eU8 a3]),(3,rE 2 (File.enc true) x7.Files)] (by kernel_rfl) ?_
   refine J_g 30 [] [] [(0,.box [rr 3 x7.Files,iv x7.Budget,iv (w64 (x7.Writes+1)),iv x7.Stop,bv x7.Down]),(1,.box [sv a2]),(2,.box [sl 1 eU8 a3]),(3,rE 2 (File.enc true) x7.Files)] zC ?_
   refine J_g 62 [] [(4,iv 0)] [(0,.box [rr 3 x7.Files,iv x7.Budget,iv (w64 (x7.Writes+1)),iv x7.Stop,bv x7.Down]),(1,.box [sv a2]),(2,.box [sl 1 eU8 a3]),(3,rE 2 (File.enc true) x7.Files)] zC ?_
   refine yI 0 (cs':=[so 2 (File.enc true) x7.Files,iv x7.Budget,iv (w64 (x7.Writes+1)),iv x7.Stop,bv x7.Down]) (ts:=[3]) rfl (.move (.tail _ (.tail _ (.head _))) (List.length_map _) (by decide) (.keep rfl (.keep rfl (.keep rfl (.keep rfl (.nil)))))) ?_
   refine xW [(4,iv 0)] [(0,.box [so 2 (File.enc true) x7.Files,iv x7.Budget,iv (w64 (x7.Writes+1)),iv x7.Stop,bv x7.Down]),(1,.box [sv a2]),(2,.box [sl 1 eU8 a3])] (by kernel_rfl) ?_
   exact xI rfl
 ·refine xK (fun h4=>?_) (fun h4=>?_)
  ·refine J_d 12 [] [20] [(20,bv (decide (a1.Writes≥a1.Stop)))] [] [] (yQ 5 [(9,bv (decide (a1.Stop≥0)))] [] h4 zC) ?_
   exact xZ (J_j (jv5 (decide (a1.Writes≥a1.Stop)))) rfl
  ·refine J_d 12 [] [20] [(20,bv false)] [] [] (yQ 5 [(9,bv (decide (a1.Stop≥0)))] [] h4 zC) ?_
   exact xZ (J_j (jv5 false)) rfl
noncomputable def c29:Code:=(Try.f29.body).getD .skip
theorem yA.ok (a1:zA) (a2:ByteArray) (a3:(List Int)):Ok Try.prog 29 [pp 0,sv a2,sl 1 eU8 a3] [.box (zA.enc true a1)] ((yA a1 a2 a3).map fun r=>(iv r.1,[.box (zA.enc true r.2)])):=by
 refine zS c29 Try.f29 1 56 (fun q=>?_)
 unfold yA
 refine yB 0 (cs':=[rr 1 a1.Files,iv a1.Budget,iv a1.Writes,iv a1.Stop,bv a1.Down]) (es:=[(1,rE 2 (File.enc true) a1.Files)]) rfl (.cons (.own 1) (.cons (.same rfl rfl) (.cons (.same rfl rfl) (.cons (.same rfl rfl) (.cons (.same rfl rfl) (.nil)))))) rfl (by kernel_rfl) (by kernel_rfl) ?_
 refine xW [(0,pp 0),(1,sv a2),(2,sl 1 eU8 a3)] [(0,.box [rr 1 a1.Files,iv a1.Budget,iv a1.Writes,iv a1.Stop,bv a1.Down]),(1,rE 2 (File.enc true) a1.Files)] (by kernel_rfl) ?_
 refine J_d 2 [(1,2),(2,3)] [0,1,2,3,4,5] [(3,.pb [pp 0]),(4,pp 2),(5,pp 3)] [2,3] [(2,.box [sv a2]),(3,.box [sl 1 eU8 a3])] (zP 0 (zDA 55 (.tmp 0) (pp 0)) zC) ?_
 refine zB (fun x4 h5=>?_)
 refine J_d 6 [] [7,8] [(7,.ln x4.1.length),(8,bv x4.2)] [] [] (zP 0 (kM (d:=pp 0) 55 (.tmp 3) [pp 0]) (zP 4 (wH («as»:=[.ag [rr 1 a1.Files,iv a1.Budget,iv a1.Writes,iv a1.Stop,bv a1.Down],sv a2]) [(.tmp 12),(.tmp 13)] [55,9] true [(1,rE 2 (File.enc true) a1.Files)] [] (.cons (.ag (.cons (jP (.head _) (File.ro true) rfl) (.cons (.same rfl) (.cons (.same rfl) (.cons (.same rfl) (.cons (.same rfl) (.nil))))))) (.cons (.same rfl) (.nil))) (zFI (fun r=>(.tu [.ln r.1.length,bv r.2],[])) (zW.ok a1 a2) (fun r=>.tu (.cons zFF (.cons .same (.nil))))) h5 (.tu (.cons (.same rfl rfl) (.cons (.same rfl rfl) (.nil)))) (hbor:=fun _=>⟨fhN,(zCq (flatK trivial (flatK yK kX)))⟩)) zC)) ?_
 refine zB (fun x6 h7=>?_)
 refine J_d 56 [] [17] [(17,bv (x6 !=0))] [] [] (zP 1 (tJ [(.tmp 18)] [9] (xJ.ok a2) h7) zC) ?_
 refine zU 17 (fun h8=>?_) (fun h8=>?_)
 ·refine J_g 228 [] [(6,iv 5)] [(0,.box [rr 1 a1.Files,iv a1.Budget,iv a1.Writes,iv a1.Stop,bv a1.Down]),(1,rE 2 (File.enc true) a1.Files)] zC ?_
  refine yI 0 (cs':=[so 2 (File.enc true) a1.Files,iv a1.Budget,iv a1.Writes,iv a1.Stop,bv a1.Down]) (ts:=[1]) rfl (.move (.head _) (List.length_map _) (by decide) (.keep rfl (.keep rfl (.keep rfl (.keep rfl (.nil)))))) ?_
  refine xW [(6,iv 5)] [(0,.box (zA.enc true a1))] (by kernel_rfl) ?_
  exact xI rfl
 ·refine xV (atI c29 231) (fun v11:Bool=>St.mk' [(3,.pb [pp 0]),(4,pp 2),(5,pp 3),(7,.ln x4.1.length),(21,bv v11)] [(0,.box [rr 1 a1.Files,iv a1.Budget,iv a1.Writes,iv a1.Stop,bv a1.Down]),(1,rE 2 (File.enc true) a1.Files),(2,.box [sv a2]),(3,.box [sl 1 eU8 a3])]) (fun v11=>?_) (fun jv11=>?_)
  ·refine zU 21 (fun h12=>?_) (fun h12=>?_)
   ·refine J_g 924 [] [(6,iv 2)] [(0,.box [rr 1 a1.Files,iv a1.Budget,iv a1.Writes,iv a1.Stop,bv a1.Down]),(1,rE 2 (File.enc true) a1.Files)] zC ?_
    refine yI 0 (cs':=[so 2 (File.enc true) a1.Files,iv a1.Budget,iv a1.Writes,iv a1.Stop,bv a1.Down]) (ts:=[1]) rfl (.move (.head _) (List.length_map _) (by decide) (.keep rfl (.keep rfl (.keep rfl (.keep rfl (.nil)))))) ?_
    refine xW [(6,iv 2)] [(0,.box (zA.enc true a1))] (by kernel_rfl) ?_
    exact xI rfl
   ·refine zB (fun x13 h14=>?_)
    refine J_d 926 [] [7,21,37] [(37,bv (decide ((w64 ((w64 (x13-(x4.1.length:Int)))+(a3.length:Int)))>a1.Budget)))] [] [] (zP 0 (kM (d:=pp 0) 55 (.tmp 3) [pp 0]) (zP 3 (wH («as»:=[.ag [rr 1 a1.Files,iv a1.Budget,iv a1.Writes,iv a1.Stop,bv a1.Down]]) [(.tmp 40)] [55] true [(1,rE 2 (File.enc true) a1.Files)] [] (.cons (.ag (.cons (jP (.head _) (File.ro true) rfl) (.cons (.same rfl) (.cons (.same rfl) (.cons (.same rfl) (.cons (.same rfl) (.nil))))))) (.nil)) (yT.ok a1) h14 (.same rfl rfl) (hbor:=fun _=>⟨fhN,yK⟩)) (zP 10 (kM (d:=pp 0) 55 (.tmp 3) [pp 0]) zC))) ?_
    refine zU 37 (fun h15=>?_) (fun h15=>?_)
    ·refine J_g 3708 [] [(6,iv 8)] [(0,.box [rr 1 a1.Files,iv a1.Budget,iv a1.Writes,iv a1.Stop,bv a1.Down]),(1,rE 2 (File.enc true) a1.Files)] zC ?_
     refine yI 0 (cs':=[so 2 (File.enc true) a1.Files,iv a1.Budget,iv a1.Writes,iv a1.Stop,bv a1.Down]) (ts:=[1]) rfl (.move (.head _) (List.length_map _) (by decide) (.keep rfl (.keep rfl (.keep rfl (.keep rfl (.nil)))))) ?_
     refine xW [(6,iv 8)] [(0,.box (zA.enc true a1))] (by kernel_rfl) ?_
     exact xI rfl
    ·refine yI 0 (cs':=[so 2 (File.enc true) a1.Files,iv a1.Budget,iv a1.Writes,iv a1.Stop,bv a1.Down]) (ts:=[1]) rfl (.move (.head _) (List.length_map _) (by decide) (.keep rfl (.keep rfl (.keep rfl (.keep rfl (.nil)))))) ?_
     refine xW [(3,.pb [pp 0]),(4,pp 2),(5,pp 3),(37,bv false)] [(0,.box (zA.enc true a1)),(2,.box [sv a2]),(3,.box [sl 1 eU8 a3])] (by kernel_rfl) ?_
     refine zB (fun x16 h17=>?_)
     refine J_g 30 [] [(6,iv x16.1)] [(0,.box (zA.enc true x16.2))] (zP 0 (kM (d:=pp 0) 55 (.tmp 3) [pp 0]) (zP 2 (wH («as»:=[pp 0,.fn 50 [.pb [pp 0],pp 2,pp 3]]) [(.tmp 53),(.tmp 54)] [55,1] false [(0,.box (zA.enc true a1)),(2,.box [sv a2]),(3,.box [sl 1 eU8 a3])] [0,2,3] (.cons (.pt rfl) (.cons (.fn (.cons (.pb (.cons (.pt rfl) (.nil))) (.cons (.pt rfl) (.cons (.pt rfl) (.nil))))) (.nil))) (zN.ok a1 a2 a3) h17 (.same rfl rfl)) zC)) ?_
     refine yB 0 (cs':=[rr 1 x16.2.Files,iv x16.2.Budget,iv x16.2.Writes,iv x16.2.Stop,bv x16.2.Down]) (es:=[(1,rE 2 (File.enc true) x16.2.Files)]) rfl (.cons (.own 1) (.cons (.same rfl rfl) (.cons (.same rfl rfl) (.cons (.same rfl rfl) (.cons (.same rfl rfl) (.nil)))))) rfl (by kernel_rfl) (by kernel_rfl) ?_
     refine xW [(6,iv x16.1)] [(0,.box [rr 1 x16.2.Files,iv x16.2.Budget,iv x16.2.Writes,iv x16.2.Stop,bv x16.2.Down]),(1,rE 2 (File.enc true) x16.2.Files)] (by kernel_rfl) ?_
     refine yI 0 (cs':=[so 2 (File.enc true) x16.2.Files,iv x16.2.Budget,iv x16.2.Writes,iv x16.2.Stop,bv x16.2.Down]) (ts:=[1]) rfl (.move (.head _) (List.length_map _) (by decide) (.keep rfl (.keep rfl (.keep rfl (.keep rfl (.nil)))))) ?_
     refine xW [(6,iv x16.1)] [(0,.box (zA.enc true x16.2))] (by kernel_rfl) ?_
     exact xI rfl
  ·refine xK (fun h9=>?_) (fun h9=>?_)
   ·refine J_d 230 [] [8,17,21] [(21,bv true)] [] [] (yQ 3 [(24,bv (decide ((a3.length:Int)>4000)))] [] h9 (wT 6 (wU (i:=6) (g:=3) (t:=25) (b:=false) (v:=(.bool true)) (.inl rfl) (by kernel_rfl) (by kernel_rfl)) (wT 7 (wU (i:=7) (g:=6) (t:=28) (b:=true) (v:=undef) (.inr rfl) (by kernel_rfl) (by kernel_rfl)) (wT 8 (wU (i:=8) (g:=6) (t:=28) (b:=true) (v:=undef) (.inr rfl) (by kernel_rfl) (by kernel_rfl)) (wT 9 (wU (i:=9) (g:=6) (t:=28) (b:=true) (v:=undef) (.inr rfl) (by kernel_rfl) (by kernel_rfl)) (wT 10 (wU (i:=10) (g:=6) (t:=28) (b:=true) (v:=undef) (.inr rfl) (by kernel_rfl) (by kernel_rfl)) (wT 11 (wU (i:=11) (g:=6) (t:=28) (b:=true) (v:=undef) (.inr rfl) (by kernel_rfl) (by kernel_rfl)) (wT 12 (wU (i:=12) (g:=6) (t:=28) (b:=true) (v:=undef) (.inr rfl) (by kernel_rfl) (by kernel_rfl)) zC)))))))) ?_
    exact xZ (J_j (jv11 true)) rfl
   ·refine xK (fun h10=>?_) (fun h10=>?_)
    ·refine J_d 230 [] [8,17,21] [(21,bv ((a1.Files.length:Int)==120))] [] [] (yQ 3 [(24,bv (decide ((a3.length:Int)>4000)))] [] h9 (jX 6 3 25 false [(27,bv (!x4.2))] [] h10 (tH 7 6 28 true (kM (d:=pp 0) 55 (.tmp 3) [pp 0]) zC))) ?_
     exact xZ (J_j (jv11 ((a1.Files.length:Int)==120))) rfl
    ·refine J_d 230 [] [8,17,21] [(21,bv false)] [] [] (yQ 3 [(24,bv (decide ((a3.length:Int)>4000)))] [] h9 (jX 6 3 25 false [(27,bv (!x4.2))] [] h10 zC)) ?_
     exact xZ (J_j (jv11 false)) rfl
noncomputable def c28:Code:=(Try.f28.body).getD .skip
theorem wJ.ok (a1:zA) (a2:ByteArray) (a3:(List Int)):Ok Try.prog 28 [pp 0,pp 1,pp 2] [.box (zA.enc true a1),.box [sv a2],.box [sl 1 eU8 a3]] ((wJ a1 a2 a3).map fun r=>(iv r.1,[.box (zA.enc true r.2),.box [sv a2],.box [sl 1 eU8 a3]])):=by
 refine zS c28 Try.f28 3 9 (fun q=>?_)
 unfold wJ
 refine yB 0 (cs':=[rr 3 a1.Files,iv a1.Budget,iv a1.Writes,iv a1.Stop,bv a1.Down]) (es:=[(3,rE 2 (File.enc true) a1.Files)]) rfl (.cons (.own 3) (.cons (.same rfl rfl) (.cons (.same rfl rfl) (.cons (.same rfl rfl) (.cons (.same rfl rfl) (.nil)))))) rfl (by kernel_rfl) (by kernel_rfl) ?_
 refine xW [(0,pp 0),(1,pp 1),(2,pp 2)] [(0,.box [rr 3 a1.Files,iv a1.Budget,iv a1.Writes,iv a1.Stop,bv a1.Down]),(1,.box [sv a2]),(2,.box [sl 1 eU8 a3]),(3,rE 2 (File.enc true) a1.Files)] (by kernel_rfl) ?_
 refine J_g 2 [] [(0,pp 0),(1,pp 1),(2,pp 2)] [(0,.box [rr 3 a1.Files,iv a1.Budget,iv a1.Writes,iv a1.Stop,bv a1.Down]),(1,.box [sv a2]),(2,.box [sl 1 eU8 a3]),(3,rE 2 (File.enc true) a1.Files)] zC ?_
 refine yI 0 (cs':=[so 2 (File.enc true) a1.Files,iv a1.Budget,iv a1.Writes,iv a1.Stop,bv a1.Down]) (ts:=[3]) rfl (.move (.tail _ (.tail _ (.head _))) (List.length_map _) (by decide) (.keep rfl (.keep rfl (.keep rfl (.keep rfl (.nil)))))) ?_
 refine xW [(0,pp 0),(1,pp 1),(2,pp 2)] [(0,.box (zA.enc true a1)),(1,.box [sv a2]),(2,.box [sl 1 eU8 a3])] (by kernel_rfl) ?_
 refine zB (fun x4 h5=>?_)
 refine J_g 6 [] [(4,iv x4.1)] [(0,.box (zA.enc true x4.2)),(1,.box [sv a2]),(2,.box [sl 1 eU8 a3])] (zP 3 (wH («as»:=[pp 0,sv a2,sl 1 eU8 a3]) [(.tmp 5),(.tmp 6),(.tmp 7)] [55,9,22] false [(0,.box (zA.enc true a1))] [0] (.cons (.pt rfl) (.cons (.same rfl) (.cons (.same rfl) (.nil)))) (yA.ok a1 a2 a3) h5 (.same rfl rfl)) zC) ?_
 refine yB 0 (cs':=[rr 3 x4.2.Files,iv x4.2.Budget,iv x4.2.Writes,iv x4.2.Stop,bv x4.2.Down]) (es:=[(3,rE 2 (File.enc true) x4.2.Files)]) rfl (.cons (.own 3) (.cons (.same rfl rfl) (.cons (.same rfl rfl) (.cons (.same rfl rfl) (.cons (.same rfl rfl) (.nil)))))) rfl (by kernel_rfl) (by kernel_rfl) ?_
 refine xW [(4,iv x4.1)] [(0,.box [rr 3 x4.2.Files,iv x4.2.Budget,iv x4.2.Writes,iv x4.2.Stop,bv x4.2.Down]),(1,.box [sv a2]),(2,.box [sl 1 eU8 a3]),(3,rE 2 (File.enc true) x4.2.Files)] (by kernel_rfl) ?_
 refine yI 0 (cs':=[so 2 (File.enc true) x4.2.Files,iv x4.2.Budget,iv x4.2.Writes,iv x4.2.Stop,bv x4.2.Down]) (ts:=[3]) rfl (.move (.tail _ (.tail _ (.head _))) (List.length_map _) (by decide) (.keep rfl (.keep rfl (.keep rfl (.keep rfl (.nil)))))) ?_
 refine xW [(4,iv x4.1)] [(0,.box (zA.enc true x4.2)),(1,.box [sv a2]),(2,.box [sl 1 eU8 a3])] (by kernel_rfl) ?_
 exact xI rfl
noncomputable def c48:Code:=(Try.f48.body).getD .skip
theorem zBb.ok (a1:zA) (a2:Int):Ok Try.prog 48 [.ag [rr 0 a1.Files,iv a1.Budget,iv a1.Writes,iv a1.Stop,bv a1.Down],iv a2] [rE 2 (File.enc true) a1.Files] ((jI a1 a2).map fun r=>(.ag (zG.enc true r),[])):=by
 refine zS c48 Try.f48 1 16 (fun q=>?_)
 unfold jI
 refine J_d 2 [(0,1),(1,2)] [0,2,4] [(2,pp 1),(4,pp 2)] [1,2] [(1,.box [rr 0 a1.Files,iv a1.Budget,iv a1.Writes,iv a1.Stop,bv a1.Down]),(2,.box [iv 0,nv,iv 0,iv 0,iv 0,bv false])] zC ?_
 refine xV (atI c48 13) (fun v4:Bool=>St.mk' [(1,iv a2),(2,pp 1),(4,pp 2),(10,bv v4)] [(0,rE 2 (File.enc true) a1.Files),(1,.box [rr 0 a1.Files,iv a1.Budget,iv a1.Writes,iv a1.Stop,bv a1.Down]),(2,.box [iv 0,nv,iv 0,iv 0,iv 0,bv false])]) (fun v4=>?_) (fun jv4=>?_)
 ·refine zU 10 (fun h5=>?_) (fun h5=>?_)
  ·refine J_g 52 [] [(4,pp 2)] [(0,rE 2 (File.enc true) a1.Files),(2,.box [iv a2,nv,iv 0,iv 0,iv 0,bv false])] zC ?_
   exact jS (ds:=[.ag [iv a2,nv,iv 0,iv 0,iv 0,bv false]]) (ds':=[.ag [iv a2,so 2 (File.enc true) ([]:List File),iv 0,iv 0,iv 0,bv false]]) (.cons (.ag (.keep rfl (.nilsl true 2 (.keep rfl (.keep rfl (.keep rfl (.keep rfl (.nil)))))))) (.nil) (by decide)) rfl
  ·refine J_g 14 [] [(4,pp 2)] [(0,rE 2 (File.enc true) a1.Files),(2,.box [iv a2,rr 0 a1.Files,iv a1.Budget,iv a1.Writes,iv a1.Stop,bv a1.Down])] zC ?_
   exact jS (ds:=[.ag [iv a2,rr 0 a1.Files,iv a1.Budget,iv a1.Writes,iv a1.Stop,bv a1.Down]]) (ds':=[.ag [iv a2,so 2 (File.enc true) a1.Files,iv a1.Budget,iv a1.Writes,iv a1.Stop,bv a1.Down]]) (.cons (.ag (.keep rfl (.move (.head _) (List.length_map _) (by decide) (.keep rfl (.keep rfl (.keep rfl (.keep rfl (.nil)))))))) (.nil) (by decide)) rfl
 ·refine xK (fun h3=>?_) (fun h3=>?_)
  ·refine J_d 12 [] [10] [(10,bv (a2 !=9))] [] [] (yQ 2 [(6,bv (a2 !=0))] [] h3 zC) ?_
   exact xZ (J_j (jv4 (a2 !=9))) rfl
  ·refine J_d 12 [] [10] [(10,bv false)] [] [] (yQ 2 [(6,bv (a2 !=0))] [] h3 zC) ?_
   exact xZ (J_j (jv4 false)) rfl
noncomputable def c27:Code:=(Try.f27.body).getD .skip
theorem zQ.ok (a1:zA) (a2:ByteArray) (a3:(List Int)):Ok Try.prog 27 [.ag (zA.enc false a1),.fn 28 [pp 0,pp 1]] [.box [sv a2],.box [sl 1 eU8 a3]] ((zQ a1 a2 a3).map fun r=>(.ag (zG.enc true r),[.box [sv a2],.box [sl 1 eU8 a3]])):=by
 refine zS c27 Try.f27 2 26 (fun q=>?_)
 unfold zQ
 refine J_d 2 [(0,2),(1,3)] [0,2,4] [(2,pp 2),(4,pp 3)] [2,3] [(2,.box (zA.enc false a1)),(3,.box [iv 0,nv,iv 0,iv 0,iv 0,bv false])] zC ?_
 refine zB (fun x4 h5=>?_)
 refine J_d 6 [] [5] [(5,iv x4)] [] [] (zP 1 (tJ [(.tmp 7)] [26] (zI.ok a1) h5) zC) ?_
 refine xV (atI c27 29) (fun v7:Bool=>St.mk' [(1,.fn 28 [pp 0,pp 1]),(2,pp 2),(4,pp 3),(5,iv x4),(14,bv v7)] [(0,.box [sv a2]),(1,.box [sl 1 eU8 a3]),(2,.box (zA.enc false a1)),(3,.box [iv 0,nv,iv 0,iv 0,iv 0,bv false])]) (fun v7=>?_) (fun jv7=>?_)
 ·refine xV (atI c27 15) (fun v9:Int=>St.mk' [(1,.fn 28 [pp 0,pp 1]),(2,pp 2),(4,pp 3),(5,iv v9)] [(0,.box [sv a2]),(1,.box [sl 1 eU8 a3]),(2,.box (zA.enc false a1)),(3,.box [iv 0,nv,iv 0,iv 0,iv 0,bv false])]) (fun v9=>?_) (fun jv9=>?_)
  ·refine J_d 60 [] [16] [(16,bv (v9 !=0))] [] [] zC ?_
   refine zU 16 (fun h10=>?_) (fun h10=>?_)
   ·refine J_g 244 [] [(4,pp 3)] [(0,.box [sv a2]),(1,.box [sl 1 eU8 a3]),(3,.box [iv v9,nv,iv 0,iv 0,iv 0,bv false])] zC ?_
    exact jS (ds:=[.ag [iv v9,nv,iv 0,iv 0,iv 0,bv false]]) (ds':=[.ag [iv v9,so 2 (File.enc true) ([]:List File),iv 0,iv 0,iv 0,bv false]]) (.cons (.ag (.keep rfl (.nilsl true 2 (.keep rfl (.keep rfl (.keep rfl (.keep rfl (.nil)))))))) (.nil) (by decide)) rfl
   ·refine zB (fun x11 h12=>?_)
    refine J_g 62 [(2,5)] [(1,.fn 28 [pp 0,pp 1]),(4,pp 3),(6,pp 5)] [(0,.box [sv a2]),(1,.box [sl 1 eU8 a3]),(3,.box [iv 0,nv,iv 0,iv 0,iv 0,bv false]),(4,rE 2 (File.enc true) x11.Files),(5,.box [rr 4 x11.Files,iv x11.Budget,iv x11.Writes,iv x11.Stop,bv x11.Down])] (zP 1 (wH («as»:=[.ag (zA.enc false a1)]) [(.tmp 19)] [26] false [] [] (.cons (.same rfl) (.nil)) (yG.ok a1) h12 (.ag (.cons (.own 4) (.cons (.same rfl rfl) (.cons (.same rfl rfl) (.cons (.same rfl rfl) (.cons (.same rfl rfl) (.nil)))))))) zC) ?_
    refine yI 5 (cs':=[so 2 (File.enc true) x11.Files,iv x11.Budget,iv x11.Writes,iv x11.Stop,bv x11.Down]) (ts:=[4]) rfl (.move (.tail _ (.tail _ (.tail _ (.head _)))) (List.length_map _) (by decide) (.keep rfl (.keep rfl (.keep rfl (.keep rfl (.nil)))))) ?_
    refine xW [(1,.fn 28 [pp 0,pp 1]),(4,pp 3),(6,pp 5)] [(0,.box [sv a2]),(1,.box [sl 1 eU8 a3]),(3,.box [iv 0,nv,iv 0,iv 0,iv 0,bv false]),(5,.box (zA.enc true x11))] (by kernel_rfl) ?_
    refine zB (fun x13 h14=>?_)
    refine J_g 126 [] [(4,pp 3),(5,iv x13.1),(6,pp 5)] [(0,.box [sv a2]),(1,.box [sl 1 eU8 a3]),(3,.box [iv 0,nv,iv 0,iv 0,iv 0,bv false]),(5,.box (zA.enc true x13.2))] (zP 1 (zEi 21 [(.tmp 6)] [55] false [(5,.box (zA.enc true x11)),(0,.box [sv a2]),(1,.box [sl 1 eU8 a3])] [5,0,1] [pp 5] [pp 0,pp 1] (.cons (.pt rfl) (.cons (.pt rfl) (.cons (.pt rfl) (.nil)))) (wJ.ok x11 a2 a3) h14 (.same rfl rfl)) zC) ?_
    refine yB 5 (cs':=[rr 6 x13.2.Files,iv x13.2.Budget,iv x13.2.Writes,iv x13.2.Stop,bv x13.2.Down]) (es:=[(6,rE 2 (File.enc true) x13.2.Files)]) rfl (.cons (.own 6) (.cons (.same rfl rfl) (.cons (.same rfl rfl) (.cons (.same rfl rfl) (.cons (.same rfl rfl) (.nil)))))) rfl (by kernel_rfl) (by kernel_rfl) ?_
    refine xW [(4,pp 3),(5,iv x13.1),(6,pp 5)] [(0,.box [sv a2]),(1,.box [sl 1 eU8 a3]),(3,.box [iv 0,nv,iv 0,iv 0,iv 0,bv false]),(5,.box [rr 6 x13.2.Files,iv x13.2.Budget,iv x13.2.Writes,iv x13.2.Stop,bv x13.2.Down]),(6,rE 2 (File.enc true) x13.2.Files)] (by kernel_rfl) ?_
    refine zB (fun x15 h16=>?_)
    refine J_g 254 [] [(4,pp 3)] [(0,.box [sv a2]),(1,.box [sl 1 eU8 a3]),(3,.box [iv x15.Code,rr 7 x15.zA.Files,iv x15.zA.Budget,iv x15.zA.Writes,iv x15.zA.Stop,bv x15.zA.Down]),(7,rE 2 (File.enc true) x15.zA.Files)] (zP 2 (wH («as»:=[.ag [rr 6 x13.2.Files,iv x13.2.Budget,iv x13.2.Writes,iv x13.2.Stop,bv x13.2.Down],iv x13.1]) [(.tmp 23),(.tmp 24)] [26,2] false [(6,rE 2 (File.enc true) x13.2.Files)] [6] (.cons (.ag (.cons (.rf rfl) (.cons (.same rfl) (.cons (.same rfl) (.cons (.same rfl) (.cons (.same rfl) (.nil))))))) (.cons (.same rfl) (.nil))) (zBb.ok x13.2 x13.1) h16 (.ag (.cons (.same rfl rfl) (.cons (.own 7) (.cons (.same rfl rfl) (.cons (.same rfl rfl) (.cons (.same rfl rfl) (.cons (.same rfl rfl) (.nil))))))))) zC) ?_
    exact jS (ds:=[.ag [iv x15.Code,rr 7 x15.zA.Files,iv x15.zA.Budget,iv x15.zA.Writes,iv x15.zA.Stop,bv x15.zA.Down]]) (ds':=[.ag (zG.enc true x15)]) (.cons (.ag (.keep rfl (.move (.tail _ (.tail _ (.tail _ (.head _)))) (List.length_map _) (by decide) (.keep rfl (.keep rfl (.keep rfl (.keep rfl (.nil)))))))) (.nil) (by decide)) rfl
  ·refine zU 14 (fun h8=>?_) (fun h8=>?_)
   ·refine J_d 58 [] [5,14] [(5,iv 9)] [] [] zC ?_
    exact xZ (J_j (jv9 9)) rfl
   ·exact xZ (J_j (jv9 x4)) rfl
 ·refine xK (fun h6=>?_) (fun h6=>?_)
  ·refine J_d 28 [] [14] [(14,bv a1.Down)] [] [] (yQ 2 [(10,bv (x4==0))] [] h6 zC) ?_
   exact xZ (J_j (jv7 a1.Down)) rfl
  ·refine J_d 28 [] [14] [(14,bv false)] [] [] (yQ 2 [(10,bv (x4==0))] [] h6 zC) ?_
   exact xZ (J_j (jv7 false)) rfl
noncomputable def c6:Code:=(Try.f6.body).getD .skip
theorem xA.ok (a1:zA) (a2:ByteArray) (a3:(List Int)):Ok Try.prog 6 [.ag (zA.enc false a1),sv a2,sl 1 eU8 a3] [] ((xA a1 a2 a3).map fun r=>(.ag (zG.enc true r),[])):=by
 refine zS c6 Try.f6 0 10 (fun q=>?_)
 unfold xA
 refine J_g 2 [(0,0),(1,1),(2,2),(3,3)] [(3,pp 0),(4,pp 1),(5,pp 2),(6,pp 3)] [(0,.box (zA.enc false a1)),(1,.box [sv a2]),(2,.box [sl 1 eU8 a3]),(3,.box [iv 0,nv,iv 0,iv 0,iv 0,bv false])] zC ?_
 refine zB (fun x4 h5=>?_)
 refine J_g 6 [] [(6,pp 3)] [(3,.box [iv x4.Code,rr 4 x4.zA.Files,iv x4.zA.Budget,iv x4.zA.Writes,iv x4.zA.Stop,bv x4.zA.Down]),(4,rE 2 (File.enc true) x4.zA.Files)] (zP 2 (zDN [(1,.box [sv a2]),(2,.box [sl 1 eU8 a3])] [(4,rE 2 (File.enc true) x4.zA.Files)] (wH («as»:=[.ag (zA.enc false a1),.fn 28 [pp 1,pp 2]]) [(.tmp 7),(.tmp 8)] [26,54] false [(1,.box [sv a2]),(2,.box [sl 1 eU8 a3])] [1,2] (.cons (.same rfl) (.cons (.fn (.cons (.pt rfl) (.cons (.pt rfl) (.nil)))) (.nil))) (zQ.ok a1 a2 a3) h5 (.ag (.cons (.same rfl rfl) (.cons (.own 4) (.cons (.same rfl rfl) (.cons (.same rfl rfl) (.cons (.same rfl rfl) (.cons (.same rfl rfl) (.nil)))))))))) zC) ?_
 exact jS (ds:=[.ag [iv x4.Code,rr 4 x4.zA.Files,iv x4.zA.Budget,iv x4.zA.Writes,iv x4.zA.Stop,bv x4.zA.Down]]) (ds':=[.ag (zG.enc true x4)]) (.cons (.ag (.keep rfl (.move (.tail _ (.head _)) (List.length_map _) (by decide) (.keep rfl (.keep rfl (.keep rfl (.keep rfl (.nil)))))))) (.nil) (by decide)) rfl
noncomputable def c67:Code:=(Try.f67.body).getD .skip
theorem wY.ok (a1:Int):Ok Try.prog 67 [uv a1] [] ((wY a1).map fun r=>(bv r,[])):=by
 refine zS c67 Try.f67 0 9 (fun q=>?_)
 unfold wY
 refine J_g 2 [] [(0,uv a1)] [] zC ?_
 refine xK (fun h2=>?_) (fun h2=>?_)
 ·refine J_g 6 [] [(2,bv (decide (a1≤122)))] [] (yQ 2 [(4,bv (decide (a1≥97)))] [] h2 zC) ?_
  exact xI rfl
 ·refine J_g 6 [] [(2,bv false)] [] (yQ 2 [(4,bv (decide (a1≥97)))] [] h2 zC) ?_
  exact xI rfl
noncomputable def c68:Code:=(Try.f68.body).getD .skip
theorem vW.ok (a1:Int):Ok Try.prog 68 [uv a1] [] ((vW a1).map fun r=>(bv r,[])):=by
 refine zS c68 Try.f68 0 9 (fun q=>?_)
 unfold vW
 refine J_g 2 [] [(0,uv a1)] [] zC ?_
 refine xK (fun h2=>?_) (fun h2=>?_)
 ·refine J_g 6 [] [(2,bv (decide (a1≤57)))] [] (yQ 2 [(4,bv (decide (a1≥48)))] [] h2 zC) ?_
  exact xI rfl
 ·refine J_g 6 [] [(2,bv false)] [] (yQ 2 [(4,bv (decide (a1≥48)))] [] h2 zC) ?_
  exact xI rfl
noncomputable def c60:Code:=(Try.f60.body).getD .skip
theorem vD.ok (a1:Int):Ok Try.prog 60 [uv a1] [] ((vD a1).map fun r=>(bv r,[])):=by
 refine zS c60 Try.f60 0 13 (fun q=>?_)
 unfold vD
 refine J_g 2 [] [(0,uv a1)] [] zC ?_
 refine zB (fun x2 h3=>?_)
 refine xK (fun h4=>?_) (fun h4=>?_)
 ·refine J_g 6 [] [(2,bv true)] [] (zP 1 (tJ [(.tmp 3)] [5] (wY.ok a1) h3) (yQ 2 [(4,bv x2)] [] h4 zC)) ?_
  exact xI rfl
 ·refine zB (fun x5 h6=>?_)
  refine xK (fun h7=>?_) (fun h7=>?_)
  ·refine J_g 6 [] [(2,bv true)] [] (zP 1 (tJ [(.tmp 3)] [5] (wY.ok a1) h3) (yQ 2 [(4,bv x2)] [] h4 (tH 4 2 5 false (tJ [(.tmp 6)] [5] (vW.ok a1) h6) (yQ 6 [(8,bv x5)] [] h7 zC)))) ?_
   exact xI rfl
  ·refine J_g 6 [] [(2,bv (a1==95))] [] (zP 1 (tJ [(.tmp 3)] [5] (wY.ok a1) h3) (yQ 2 [(4,bv x2)] [] h4 (tH 4 2 5 false (tJ [(.tmp 6)] [5] (vW.ok a1) h6) (yQ 6 [(8,bv x5)] [] h7 zC)))) ?_
   exact xI rfl
noncomputable def c52:Code:=(Try.f52.body).getD .skip
theorem uN.ok (a1:Int):Ok Try.prog 52 [uv a1] [] ((uN a1).map fun r=>(bv r,[])):=by
 refine zS c52 Try.f52 0 17 (fun q=>?_)
 unfold uN
 refine J_g 2 [] [(0,uv a1)] [] zC ?_
 refine zB (fun x2 h3=>?_)
 refine xK (fun h4=>?_) (fun h4=>?_)
 ·refine J_g 6 [] [(2,bv true)] [] (zP 1 (tJ [(.tmp 3)] [5] (vD.ok a1) h3) (yQ 2 [(4,bv x2)] [] h4 zC)) ?_
  exact xI rfl
 ·refine xK (fun h5=>?_) (fun h5=>?_)
  ·refine J_g 6 [] [(2,bv true)] [] (zP 1 (tJ [(.tmp 3)] [5] (vD.ok a1) h3) (yQ 2 [(4,bv x2)] [] h4 (yQ 6 [(8,bv (a1==46))] [] h5 zC))) ?_
   exact xI rfl
  ·refine xK (fun h6=>?_) (fun h6=>?_)
   ·refine J_g 6 [] [(2,bv true)] [] (zP 1 (tJ [(.tmp 3)] [5] (vD.ok a1) h3) (yQ 2 [(4,bv x2)] [] h4 (yQ 6 [(8,bv (a1==46))] [] h5 (yQ 10 [(12,bv (a1==45))] [] h6 zC)))) ?_
    exact xI rfl
   ·refine J_g 6 [] [(2,bv (a1==47))] [] (zP 1 (tJ [(.tmp 3)] [5] (vD.ok a1) h3) (yQ 2 [(4,bv x2)] [] h4 (yQ 6 [(8,bv (a1==46))] [] h5 (yQ 10 [(12,bv (a1==45))] [] h6 zC)))) ?_
    exact xI rfl
noncomputable def c31:Code:=(Try.f31.body).getD .skip
theorem xR.ok (a1:ByteArray) (q:Wd) (kn:Unit→Option (D×List Ent)) (hk:∀v:Unit,J (q.g Try.prog 31 0 23) c31 (atI c31 15) (St.mk' [] []) (some v) kn):
  ∀s11:Int,J (q.g Try.prog 31 0 23) c31 (atI c31 116) (St.mk' [(0,sv a1),(3,iv s11)] []) (xR a1 s11) (Fl.go (fun r:Int=>some (iv r,[])) kn):=by
 refine zBg (fun g ih s11=>?_)
 unfold wE
 refine J_d 464 [] [15] [(15,bv (decide (s11< (a1.size:Int))))] [] [] zC ?_
 refine zU 15 (fun h12=>?_) (fun h12=>?_)
 ·refine zB (fun x13 h14=>?_)
  refine zB (fun x15 h16=>?_)
  refine J_d 1864 [] [15,22] [(22,bv (!x15))] [] [] (zP 2 (zFM (kk:=.i64) 9 (.tmp 18) (.tmp 19) h14) (zP 3 (tJ [(.tmp 20)] [5] (uN.ok x13) h16) zC)) ?_
  refine zU 22 (fun h17=>?_) (fun h17=>?_)
  ·refine J_g 7460 [] [(2,iv 5)] [] zC ?_
   exact xI rfl
  ·refine J_g 467 [] [(0,sv a1),(3,iv (w64 (s11+1)))] [] zC ?_
   exact J_q (J_b (ih (w64 (s11+1)))) rfl
 ·exact xZ (hk ()) rfl
theorem yJ.ok (a1:ByteArray):Ok Try.prog 31 [sv a1] [] ((yJ a1).map fun r=>(iv r,[])):=by
 refine zS c31 Try.f31 0 23 (fun q=>?_)
 unfold yJ
 refine J_g 2 [] [(0,sv a1)] [] zC ?_
 refine xV (atI c31 13) (fun v3:Bool=>St.mk' [(0,sv a1),(11,bv v3)] []) (fun v3=>?_) (fun jv3=>?_)
 ·refine zU 11 (fun h4=>?_) (fun h4=>?_)
  ·refine J_g 52 [] [(2,iv 5)] [] zC ?_
   exact xI rfl
  ·refine J_g 28 [] [(0,sv a1),(3,iv 0)] [] zC ?_
   refine zB9 (K0:=(fun r:Int=>some (iv r,[]))) (fun _=>rfl) (xR.ok a1 q _ (fun v18=>J_j ?_) 0)
   refine J_g 30 [] [(2,iv 0)] [] zC ?_
   exact xI rfl
 ·refine xK (fun h2=>?_) (fun h2=>?_)
  ·refine J_g 12 [] [(0,sv a1),(11,bv true)] [] (yQ 3 [(6,bv (decide ((a1.size:Int)<1)))] [] h2 zC) ?_
   exact xZ (J_j (jv3 true)) rfl
  ·refine J_g 12 [] [(0,sv a1),(11,bv (decide ((a1.size:Int)>40)))] [] (yQ 3 [(6,bv (decide ((a1.size:Int)<1)))] [] h2 zC) ?_
   exact xZ (J_j (jv3 (decide ((a1.size:Int)>40)))) rfl
theorem wP.ok (a1:zA) (q:Wd) (kn:Int→Option (D×List Ent)) (hk:∀v:Int,J (q.g Try.prog 22 1 26) c22 (atI c22 15) (St.mk' [(3,iv v)] [(0,.box (zA.enc false a1))]) (some v) kn):
  ∀s5:(Int×Int),J (q.g Try.prog 22 1 26) c22 (atI c22 116) (St.mk' [(0,pp 0),(3,iv s5.1),(4,iv s5.2)] [(0,.box (zA.enc false a1))]) (wP a1 s5) kn:=by
 refine zBg (fun g ih s5=>?_)
 unfold wF
 refine J_d 464 [] [11] [(11,bv (decide (s5.2< (a1.Files.length:Int))))] [] [] zC ?_
 refine zU 11 (fun h6=>?_) (fun h6=>?_)
 ·refine zB (fun x7 h8=>?_)
  refine J_g 932 [] [(0,pp 0),(3,iv (w64 (s5.1+(x7.Data.length:Int)))),(4,iv s5.2)] [(0,.box (zA.enc false a1))] (zP 6 (zBl (kk:=.i64) 24 35 2 (File.enc false) (.tmp 18) (.tmp 19) h8) zC) ?_
  refine J_d 467 [] [4] [(4,iv (w64 (s5.2+1)))] [] [] zC ?_
  exact J_q (J_b (ih (w64 (s5.1+(x7.Data.length:Int)),w64 (s5.2+1)))) rfl
 ·exact xZ (hk s5.1) rfl
theorem yP.ok (a1:zA):Ok Try.prog 22 [pp 0] [.box (zA.enc false a1)] ((yP a1).map fun r=>(iv r,[.box (zA.enc false a1)])):=by
 refine zS c22 Try.f22 1 26 (fun q=>?_)
 unfold yP
 refine J_g 2 [] [(0,pp 0)] [(0,.box (zA.enc false a1))] zC ?_
 refine J_g 6 [] [(0,pp 0),(3,iv 0)] [(0,.box (zA.enc false a1))] zC ?_
 refine J_d 28 [] [4] [(4,iv 0)] [] [] zC ?_
 refine zDi (wP.ok a1 q _ (fun v9=>J_j ?_) (0,0))
 refine J_d 30 [] [2,3] [(2,iv v9)] [] [] zC ?_
 exact xI rfl
noncomputable def c7:Code:=(Try.f7.body).getD .skip
theorem xH.ok (a1:zA) (q:Wd) (kn:Unit→Option (D×List Ent)) (hk:∀v:Unit,J (q.g Try.prog 7 0 72) c7 (atI c7 31) (St.mk' [(1,pp 0)] [(0,.box (zA.enc false a1))]) (some v) kn):
  ∀s29:Int,J (q.g Try.prog 7 0 72) c7 (atI c7 244) (St.mk' [(1,pp 0),(3,iv s29)] [(0,.box (zA.enc false a1))]) (xH a1 s29) (Fl.go (fun r:Int=>some (iv r,[])) kn):=by
 refine zBg (fun g ih s29=>?_)
 unfold yR
 refine J_d 976 [] [29] [(29,bv (decide (s29< (a1.Files.length:Int))))] [] [] zC ?_
 refine zU 29 (fun h30=>?_) (fun h30=>?_)
 ·refine zB (fun x31 h32=>?_)
  refine zB (fun x33 h34=>?_)
  refine J_g 7824 [] [(1,pp 0),(3,iv s29),(4,iv x33)] [(0,.box (zA.enc false a1))] (zP 3 (zBl (kk:=.i64) 24 35 2 (File.enc false) (.tmp 33) (.tmp 34) h32) (zP 6 (tJ [(.tmp 37)] [9] (yJ.ok x31.Path) h34) zC)) ?_
  refine J_d 15650 [] [40] [(40,bv (x33 !=0))] [] [] zC ?_
  refine zU 40 (fun h35=>?_) (fun h35=>?_)
  ·refine J_g 62604 [] [(2,iv x33)] [] zC ?_
   exact xI rfl
  ·refine xV (atI c7 15653) (fun v41:Bool=>St.mk' [(1,pp 0),(3,iv s29),(59,bv v41)] [(0,.box (zA.enc false a1))]) (fun v41=>?_) (fun jv41=>?_)
   ·refine zU 59 (fun h42=>?_) (fun h42=>?_)
    ·refine J_g 62612 [] [(2,iv 1)] [] zC ?_
     exact xI rfl
    ·refine zB (fun x43 h44=>?_)
     refine J_d 15654 [] [59,67] [(67,bv (decide ((x43.Data.length:Int)>4000)))] [] [] (zP 3 (zBl (kk:=.i64) 24 35 2 (File.enc false) (.tmp 61) (.tmp 62) h44) zC) ?_
     refine zU 67 (fun h45=>?_) (fun h45=>?_)
     ·refine J_g 62620 [] [(2,iv 2)] [] zC ?_
      exact xI rfl
     ·refine J_d 979 [] [3,67] [(3,iv (w64 (s29+1)))] [] [] zC ?_
      exact J_q (J_b (ih (w64 (s29+1)))) rfl
   ·refine xK (fun h36=>?_) (fun h36=>?_)
    ·refine zB (fun x37 h38=>?_)
     refine zB (fun x39 h40=>?_)
     refine J_d 15652 [] [4,40,59] [(59,bv (slt x37.Path x39.Path||seq x37.Path x39.Path))] [] [] (yQ 2 [(43,bv (decide (s29>0)))] [] h36 (tH 6 2 44 true (zBl (kk:=.i64) 24 35 2 (File.enc false) (.tmp 46) (.tmp 47) h38) (tH 13 2 44 true (zBl (kk:=.i64) 24 35 2 (File.enc false) (.tmp 52) (.tmp 54) h40) zC))) ?_
     exact xZ (J_j (jv41 (slt x37.Path x39.Path||seq x37.Path x39.Path))) rfl
    ·refine J_d 15652 [] [4,40,59] [(59,bv false)] [] [] (yQ 2 [(43,bv (decide (s29>0)))] [] h36 zC) ?_
     exact xZ (J_j (jv41 false)) rfl
 ·exact xZ (hk ()) rfl
theorem yD.ok (a1:zA):Ok Try.prog 7 [.ag (zA.enc false a1)] [] ((yD a1).map fun r=>(iv r,[])):=by
 refine zS c7 Try.f7 0 72 (fun q=>?_)
 unfold yD
 refine J_g 2 [(0,0)] [(1,pp 0)] [(0,.box (zA.enc false a1))] zC ?_
 refine zB (fun x2 h3=>?_)
 refine xV (atI c7 13) (fun v10:Bool=>St.mk' [(1,pp 0),(20,bv v10)] [(0,.box (zA.enc false a1))]) (fun v10=>?_) (fun jv10=>?_)
 ·refine zU 20 (fun h11=>?_) (fun h11=>?_)
  ·refine J_g 52 [] [(2,iv 3)] [] zC ?_
   exact xI rfl
  ·refine J_d 28 [] [20,24] [(24,bv (decide ((a1.Files.length:Int)>120)))] [] [] zC ?_
   refine zU 24 (fun h12=>?_) (fun h12=>?_)
   ·refine J_g 116 [] [(2,iv 2)] [] zC ?_
    exact xI rfl
   ·refine J_d 60 [] [3,24] [(3,iv 0)] [] [] zC ?_
    refine zB9 (K0:=(fun r:Int=>some (iv r,[]))) (fun _=>rfl) (xH.ok a1 q _ (fun v46=>J_j ?_) 0)
    refine zB (fun x47 h48=>?_)
    refine J_g 124 [] [(71,bv (decide (x47>a1.Budget)))] [] (zP 0 (zDN [(0,.box (zA.enc false a1))] [] (wH («as»:=[pp 0]) [(.tmp 1)] [55] false [(0,.box (zA.enc false a1))] [0] (.cons (.pt rfl) (.nil)) (yP.ok a1) h48 (.same rfl rfl))) zC) ?_
    refine zU 71 (fun h49=>?_) (fun h49=>?_)
    ·refine J_g 500 [] [(2,iv 8)] [] zC ?_
     exact xI rfl
    ·refine J_g 126 [] [(2,iv 0)] [] zC ?_
     exact xI rfl
 ·refine xK (fun h4=>?_) (fun h4=>?_)
  ·refine J_d 12 [] [20] [(20,bv true)] [] [] (zP 2 (tJ [(.tmp 6),(.const (.int .i64 0)),(.const (.int .i64 20000))] [2,2,2] (xP.ok a1.Budget 0 20000) h3) (yQ 4 [(8,bv (!x2))] [] h4 zC)) ?_
   exact xZ (J_j (jv10 true)) rfl
  ·refine zB (fun x5 h6=>?_)
   refine xK (fun h7=>?_) (fun h7=>?_)
   ·refine J_d 12 [] [20] [(20,bv true)] [] [] (zP 2 (tJ [(.tmp 6),(.const (.int .i64 0)),(.const (.int .i64 20000))] [2,2,2] (xP.ok a1.Budget 0 20000) h3) (yQ 4 [(8,bv (!x2))] [] h4 (tH 7 4 9 false (tJ [(.tmp 11),(.const (.int .i64 0)),(.const (.int .i64 1000000000))] [2,2,2] (xP.ok a1.Writes 0 1000000000) h6) (yQ 10 [(14,bv (!x5))] [] h7 zC)))) ?_
    exact xZ (J_j (jv10 true)) rfl
   ·refine zB (fun x8 h9=>?_)
    refine J_d 12 [] [20] [(20,bv (!x8))] [] [] (zP 2 (tJ [(.tmp 6),(.const (.int .i64 0)),(.const (.int .i64 20000))] [2,2,2] (xP.ok a1.Budget 0 20000) h3) (yQ 4 [(8,bv (!x2))] [] h4 (tH 7 4 9 false (tJ [(.tmp 11),(.const (.int .i64 0)),(.const (.int .i64 1000000000))] [2,2,2] (xP.ok a1.Writes 0 1000000000) h6) (yQ 10 [(14,bv (!x5))] [] h7 (tH 13 10 15 false (tJ [(.tmp 17),(.const (.int .i64 (-1))),(.const (.int .i64 1000000000))] [2,2,2] (xP.ok a1.Stop (-1) 1000000000) h9) zC))))) ?_
    exact xZ (J_j (jv10 (!x8))) rfl
noncomputable def c8:Code:=(Try.f8.body).getD .skip
theorem vE.ok (a1:zA) (a2:Int):Ok Try.prog 8 [.ag (zA.enc false a1),iv a2] [] ((vE a1 a2).map fun r=>(.ag (zG.enc true r),[])):=by
 refine zS c8 Try.f8 0 32 (fun q=>?_)
 unfold vE
 refine J_g 2 [(0,0),(1,1)] [(1,iv a2),(2,pp 0),(4,pp 1)] [(0,.box (zA.enc false a1)),(1,.box [iv 0,nv,iv 0,iv 0,iv 0,bv false])] zC ?_
 refine zB (fun x3 h4=>?_)
 refine J_g 6 [] [(1,iv a2),(2,pp 0),(4,pp 1),(5,iv x3)] [(0,.box (zA.enc false a1)),(1,.box [iv 0,nv,iv 0,iv 0,iv 0,bv false])] (zP 1 (tJ [(.tmp 7)] [26] (zI.ok a1) h4) zC) ?_
 refine J_d 56 [] [9] [(9,bv (x3 !=0))] [] [] zC ?_
 refine xV (aft c8 28) (fun v10:Int=>St.mk' [(1,iv a2),(2,pp 0),(4,pp 1),(5,iv v10)] [(0,.box (zA.enc false a1)),(1,.box [iv 0,nv,iv 0,iv 0,iv 0,bv false])]) (fun v10=>?_) (fun jv10=>?_)
 ·refine J_d 60 [] [21] [(21,bv (v10 !=0))] [] [] zC ?_
  refine zU 21 (fun h11=>?_) (fun h11=>?_)
  ·refine J_g 244 [] [(4,pp 1)] [(1,.box [iv v10,nv,iv 0,iv 0,iv 0,bv false])] zC ?_
   exact jS (ds:=[.ag [iv v10,nv,iv 0,iv 0,iv 0,bv false]]) (ds':=[.ag [iv v10,so 2 (File.enc true) ([]:List File),iv 0,iv 0,iv 0,bv false]]) (.cons (.ag (.keep rfl (.nilsl true 2 (.keep rfl (.keep rfl (.keep rfl (.keep rfl (.nil)))))))) (.nil) (by decide)) rfl
  ·refine zB (fun x12 h13=>?_)
   refine J_g 62 [(2,3)] [(1,iv a2),(4,pp 1),(6,pp 3)] [(1,.box [iv 0,nv,iv 0,iv 0,iv 0,bv false]),(2,rE 2 (File.enc true) x12.Files),(3,.box [rr 2 x12.Files,iv x12.Budget,iv x12.Writes,iv x12.Stop,bv x12.Down])] (zP 1 (wH («as»:=[.ag (zA.enc false a1)]) [(.tmp 24)] [26] false [] [] (.cons (.same rfl) (.nil)) (yG.ok a1) h13 (.ag (.cons (.own 2) (.cons (.same rfl rfl) (.cons (.same rfl rfl) (.cons (.same rfl rfl) (.cons (.same rfl rfl) (.nil)))))))) zC) ?_
   refine J_g 126 [] [(4,pp 1),(6,pp 3)] [(1,.box [iv 0,nv,iv 0,iv 0,iv 0,bv false]),(2,rE 2 (File.enc true) x12.Files),(3,.box [rr 2 x12.Files,iv x12.Budget,iv 0,iv a2,bv false])] zC ?_
   refine J_g 254 [] [(4,pp 1)] [(1,.box [iv 0,rr 2 x12.Files,iv x12.Budget,iv 0,iv a2,bv false]),(2,rE 2 (File.enc true) x12.Files)] zC ?_
   exact jS (ds:=[.ag [iv 0,rr 2 x12.Files,iv x12.Budget,iv 0,iv a2,bv false]]) (ds':=[.ag [iv 0,so 2 (File.enc true) x12.Files,iv x12.Budget,iv 0,iv a2,bv false]]) (.cons (.ag (.keep rfl (.move (.tail _ (.head _)) (List.length_map _) (by decide) (.keep rfl (.keep rfl (.keep rfl (.keep rfl (.nil)))))))) (.nil) (by decide)) rfl
 ·refine zU 9 (fun h5=>?_) (fun h5=>?_)
  ·exact xZ (J_j (jv10 x3)) rfl
  ·refine zB (fun x6 h7=>?_)
   refine J_d 230 [] [9,12] [(12,bv (!x6))] [] [] (zP 1 (tJ [(.tmp 13),(.const (.int .i64 (-1))),(.const (.int .i64 1000000000))] [2,2,2] (yX.ok a2 (-1) 1000000000) h7) zC) ?_
   refine zU 12 (fun h8=>?_) (fun h8=>?_)
   ·refine J_d 462 [] [5,12] [(5,iv 3)] [] [] zC ?_
    exact xZ (J_j (jv10 3)) rfl
   ·refine J_d 926 [] [12,16] [(16,bv (!a1.Down))] [] [] zC ?_
    refine zU 16 (fun h9=>?_) (fun h9=>?_)
    ·refine J_d 1854 [] [5,16] [(5,iv 1)] [] [] zC ?_
     exact xZ (J_j (jv10 1)) rfl
    ·exact xZ (J_j (jv10 x3)) rfl
noncomputable def c9:Code:=(Try.f9.body).getD .skip
theorem yV.ok (a1:zA) (a2:ByteArray):Ok Try.prog 9 [.ag (zA.enc false a1),sv a2] [] ((yV a1 a2).map fun r=>(.ag [iv r.Code,sv r.File.Path,so 1 eU8 r.File.Data],[])):=by
 refine zS c9 Try.f9 0 37 (fun q=>?_)
 unfold yV
 refine J_g 2 [(0,0),(1,1)] [(1,sv a2),(2,pp 0),(4,pp 1)] [(0,.box (zA.enc false a1)),(1,.box [iv 0,sv ByteArray.empty,nv])] zC ?_
 refine zB (fun x3 h4=>?_)
 refine J_d 6 [] [5] [(5,iv x3)] [] [] (zP 1 (tJ [(.tmp 8)] [26] (zI.ok a1) h4) zC) ?_
 refine xV (atI c9 29) (fun v6:Bool=>St.mk' [(1,sv a2),(2,pp 0),(4,pp 1),(5,iv x3),(15,bv v6)] [(0,.box (zA.enc false a1)),(1,.box [iv 0,sv ByteArray.empty,nv])]) (fun v6=>?_) (fun jv6=>?_)
 ·refine xV (atI c9 15) (fun v8:Int=>St.mk' [(1,sv a2),(2,pp 0),(4,pp 1),(5,iv v8)] [(0,.box (zA.enc false a1)),(1,.box [iv 0,sv ByteArray.empty,nv])]) (fun v8=>?_) (fun jv8=>?_)
  ·refine zB (fun x9 h10=>?_)
   refine J_d 30 [] [2,6,7] [(6,sl 1 eU8 x9.1),(7,bv x9.2)] [0] [] (zP 2 (tJ [(.tmp 17),(.tmp 18)] [26,9] (zW.ok a1 a2) h10) zC) ?_
   refine xV (atI c9 125) (fun v12:Bool=>St.mk' [(1,sv a2),(4,pp 1),(5,iv v8),(6,sl 1 eU8 x9.1),(27,bv v12)] [(1,.box [iv 0,sv ByteArray.empty,nv])]) (fun v12=>?_) (fun jv12=>?_)
   ·refine xV (atI c9 63) (fun v14:Int=>St.mk' [(1,sv a2),(4,pp 1),(5,iv v14),(6,sl 1 eU8 x9.1)] [(1,.box [iv 0,sv ByteArray.empty,nv])]) (fun v14=>?_) (fun jv14=>?_)
    ·refine J_d 252 [] [29] [(29,bv (v14 !=0))] [] [] zC ?_
     refine zU 29 (fun h15=>?_) (fun h15=>?_)
     ·refine J_g 1012 [] [(4,pp 1)] [(1,.box [iv v14,sv ByteArray.empty,nv])] zC ?_
      exact jS (ds:=[.ag [iv v14,sv ByteArray.empty,nv]]) (ds':=[.ag [iv v14,sv ByteArray.empty,so 1 eU8 ([]:List Int)]]) (.cons (.ag (.keep rfl (.keep rfl (.nilsl true 1 (.nil))))) (.nil) (by decide)) rfl
     ·refine zB (fun x16 h17=>?_)
      refine J_g 254 [] [(4,pp 1)] [(1,.box [iv 0,sv a2,rr 2 x16]),(2,rE 1 eU8 x16)] (zP 2 (wH («as»:=[sl 1 eU8 x9.1]) [(.tmp 33)] [22] false [] [] (.cons (.same rfl) (.nil)) (zV.ok x9.1) h17 (.own 2)) zC) ?_
      exact jS (ds:=[.ag [iv 0,sv a2,rr 2 x16]]) (ds':=[.ag [iv 0,sv a2,so 1 eU8 x16]]) (.cons (.ag (.keep rfl (.keep rfl (.move (.tail _ (.head _)) (List.length_map _) (by decide) (.nil))))) (.nil) (by decide)) rfl
    ·refine zU 27 (fun h13=>?_) (fun h13=>?_)
     ·refine J_d 250 [] [5,27] [(5,iv 4)] [] [] zC ?_
      exact xZ (J_j (jv14 4)) rfl
     ·exact xZ (J_j (jv14 v8)) rfl
   ·refine xK (fun h11=>?_) (fun h11=>?_)
    ·refine J_d 124 [] [7,27] [(27,bv (!x9.2))] [] [] (yQ 2 [(23,bv (v8==0))] [] h11 zC) ?_
     exact xZ (J_j (jv12 (!x9.2))) rfl
    ·refine J_d 124 [] [7,27] [(27,bv false)] [] [] (yQ 2 [(23,bv (v8==0))] [] h11 zC) ?_
     exact xZ (J_j (jv12 false)) rfl
  ·refine zU 15 (fun h7=>?_) (fun h7=>?_)
   ·refine J_d 58 [] [5,15] [(5,iv 9)] [] [] zC ?_
    exact xZ (J_j (jv8 9)) rfl
   ·exact xZ (J_j (jv8 x3)) rfl
 ·refine xK (fun h5=>?_) (fun h5=>?_)
  ·refine J_d 28 [] [15] [(15,bv a1.Down)] [] [] (yQ 2 [(11,bv (x3==0))] [] h5 zC) ?_
   exact xZ (J_j (jv6 a1.Down)) rfl
  ·refine J_d 28 [] [15] [(15,bv false)] [] [] (yQ 2 [(11,bv (x3==0))] [] h5 zC) ?_
   exact xZ (J_j (jv6 false)) rfl
theorem vG.ok (a1:zA) (a2:ByteArray) (q:Wd) (kn:Unit→Option (D×List Ent)) (hk:∀v:Unit,J (q.g Try.prog 36 1 26) c36 (atI c36 7) (St.mk' [] [(0,.box (zA.enc false a1))]) (some v) kn):
  ∀s7:Int,J (q.g Try.prog 36 1 26) c36 (atI c36 52) (St.mk' [(0,pp 0),(1,sv a2),(5,iv s7)] [(0,.box (zA.enc false a1))]) (vG a1 a2 s7) (Fl.go (fun r:Int=>some (iv r,[.box (zA.enc false a1)])) kn):=by
 refine zBg (fun g ih s7=>?_)
 unfold wO
 refine J_d 208 [] [12] [(12,bv (decide (s7< (a1.Files.length:Int))))] [] [] zC ?_
 refine zU 12 (fun h8=>?_) (fun h8=>?_)
 ·refine zB (fun x9 h10=>?_)
  refine J_d 840 [] [12,24] [(24,bv (seq x9.Path a2))] [] [] (zP 5 (zBl (kk:=.i64) 24 35 2 (File.enc false) (.tmp 18) (.tmp 19) h10) zC) ?_
  refine zU 24 (fun h11=>?_) (fun h11=>?_)
  ·refine J_g 3364 [] [(4,iv s7)] [(0,.box (zA.enc false a1))] zC ?_
   exact xI rfl
  ·refine J_d 211 [] [5,24] [(5,iv (w64 (s7+1)))] [] [] zC ?_
   exact J_q (J_b (ih (w64 (s7+1)))) rfl
 ·exact xZ (hk ()) rfl
theorem yM.ok (a1:zA) (a2:ByteArray):Ok Try.prog 36 [pp 0,sv a2] [.box (zA.enc false a1)] ((yM a1 a2).map fun r=>(iv r,[.box (zA.enc false a1)])):=by
 refine zS c36 Try.f36 1 26 (fun q=>?_)
 unfold yM
 refine J_g 2 [] [(0,pp 0),(1,sv a2)] [(0,.box (zA.enc false a1))] zC ?_
 refine J_d 12 [] [5] [(5,iv 0)] [] [] zC ?_
 refine zB9 (K0:=(fun r:Int=>some (iv r,[.box (zA.enc false a1)]))) (fun _=>rfl) (vG.ok a1 a2 q _ (fun v12=>J_j ?_) 0)
 refine J_d 14 [] [4] [(4,iv (-1))] [] [] zC ?_
 exact xI rfl
noncomputable def c10:Code:=(Try.f10.body).getD .skip
theorem vB.ok (a1:zA) (a2:ByteArray):Ok Try.prog 10 [.ag (zA.enc false a1),sv a2] [] ((vB a1 a2).map fun r=>(.ag [iv r.Code,sv r.File.Path,so 1 eU8 r.File.Data],[])):=by
 refine zS c10 Try.f10 0 32 (fun q=>?_)
 unfold vB
 refine J_g 2 [(0,0),(1,1)] [(1,sv a2),(2,pp 0),(4,pp 1)] [(0,.box (zA.enc false a1)),(1,.box [iv 0,sv ByteArray.empty,nv])] zC ?_
 refine zB (fun x3 h4=>?_)
 refine J_g 12 [] [(1,sv a2),(2,pp 0),(4,pp 1),(5,iv x3)] [(0,.box (zA.enc false a1)),(1,.box [iv 0,sv ByteArray.empty,nv])] (zP 1 (tJ [(.tmp 7)] [26] (yD.ok a1) h4) zC) ?_
 refine J_d 26 [] [10] [(10,bv (x3 !=0))] [] [] zC ?_
 refine zU 10 (fun h5=>?_) (fun h5=>?_)
 ·refine J_g 108 [] [(4,pp 1)] [(1,.box [iv x3,sv ByteArray.empty,nv])] zC ?_
  exact jS (ds:=[.ag [iv x3,sv ByteArray.empty,nv]]) (ds':=[.ag [iv x3,sv ByteArray.empty,so 1 eU8 ([]:List Int)]]) (.cons (.ag (.keep rfl (.keep rfl (.nilsl true 1 (.nil))))) (.nil) (by decide)) rfl
 ·refine J_d 28 [] [5,10,14] [(14,bv a1.Down)] [] [] zC ?_
  refine zU 14 (fun h6=>?_) (fun h6=>?_)
  ·refine J_g 116 [] [(4,pp 1)] [(1,.box [iv 9,sv ByteArray.empty,nv])] zC ?_
   exact jS (ds:=[.ag [iv 9,sv ByteArray.empty,nv]]) (ds':=[.ag [iv 9,sv ByteArray.empty,so 1 eU8 ([]:List Int)]]) (.cons (.ag (.keep rfl (.keep rfl (.nilsl true 1 (.nil))))) (.nil) (by decide)) rfl
  ·refine zB (fun x7 h8=>?_)
   refine J_g 30 [] [(1,sv a2),(2,pp 0),(4,pp 1),(6,iv x7)] [(0,.box (zA.enc false a1)),(1,.box [iv 0,sv ByteArray.empty,nv])] (zP 1 (zDN [(0,.box (zA.enc false a1))] [] (wH («as»:=[pp 0,sv a2]) [(.tmp 2),(.tmp 16)] [55,9] false [(0,.box (zA.enc false a1))] [0] (.cons (.pt rfl) (.cons (.same rfl) (.nil))) (yM.ok a1 a2) h8 (.same rfl rfl))) zC) ?_
   refine J_d 124 [] [19] [(19,bv (decide (x7<0)))] [] [] zC ?_
   refine zU 19 (fun h9=>?_) (fun h9=>?_)
   ·refine J_g 500 [] [(4,pp 1)] [(1,.box [iv 4,sv ByteArray.empty,nv])] zC ?_
    exact jS (ds:=[.ag [iv 4,sv ByteArray.empty,nv]]) (ds':=[.ag [iv 4,sv ByteArray.empty,so 1 eU8 ([]:List Int)]]) (.cons (.ag (.keep rfl (.keep rfl (.nilsl true 1 (.nil))))) (.nil) (by decide)) rfl
   ·refine zB (fun x10 h11=>?_)
    refine zB (fun x12 h13=>?_)
    refine J_g 126 [] [(4,pp 1)] [(1,.box [iv 0,sv a2,rr 3 x12]),(3,rE 1 eU8 x12)] (zP 1 (zAN 22 5 1 2 eU8 ([]:List Int) [] [] []) (zP 5 (zBl (kk:=.i64) 24 35 2 (File.enc false) (.tmp 24) (.tmp 25) h11) (zP 8 (zEM 22 22 5 5 1 1 3 2 eU8 (.tmp 22) (.tmp 28) h13) zC))) ?_
    exact jS (ds:=[.ag [iv 0,sv a2,rr 3 x12]]) (ds':=[.ag [iv 0,sv a2,so 1 eU8 x12]]) (.cons (.ag (.keep rfl (.keep rfl (.move (.tail _ (.head _)) (List.length_map _) (by decide) (.nil))))) (.nil) (by decide)) rfl
noncomputable def c11:Code:=(Try.f11.body).getD .skip
theorem yS.ok (a1:zA):Ok Try.prog 11 [.ag (zA.enc false a1)] [] ((yS a1).map fun r=>(.ag (xQ.enc r),[])):=by
 refine zS c11 Try.f11 0 13 (fun q=>?_)
 unfold yS
 refine J_g 2 [(0,0),(1,1)] [(1,pp 0),(2,pp 1)] [(0,.box (zA.enc false a1)),(1,.box [iv 0,iv 0])] zC ?_
 refine zB (fun x2 h3=>?_)
 refine J_g 12 [] [(1,pp 0),(2,pp 1),(3,iv x2)] [(0,.box (zA.enc false a1)),(1,.box [iv 0,iv 0])] (zP 1 (tJ [(.tmp 4)] [26] (zI.ok a1) h3) zC) ?_
 refine J_d 26 [] [7] [(7,bv (x2 !=0))] [] [] zC ?_
 refine zU 7 (fun h4=>?_) (fun h4=>?_)
 ·refine J_g 108 [] [(2,pp 1)] [(1,.box [iv x2,iv 0])] zC ?_
  exact xI rfl
 ·refine zB (fun x5 h6=>?_)
  refine J_g 14 [] [(2,pp 1)] [(1,.box [iv 0,iv x5])] (zP 1 (tJ [(.tmp 10)] [26] (yT.ok a1) h6) zC) ?_
  exact xI rfl
noncomputable def c38:Code:=(Try.f38.body).getD .skip
theorem vK.ok (a1:zA):Ok Try.prog 38 [.ag (zA.enc false a1)] [] ((vK a1).map fun r=>(iv r,[])):=by
 refine zS c38 Try.f38 0 11 (fun q=>?_)
 unfold vK
 refine J_g 2 [(0,0)] [(1,pp 0)] [(0,.box (zA.enc false a1))] zC ?_
 refine zB (fun x2 h3=>?_)
 refine J_g 12 [] [(1,pp 0),(3,iv x2)] [(0,.box (zA.enc false a1))] (zP 1 (tJ [(.tmp 4)] [26] (yD.ok a1) h3) zC) ?_
 refine J_d 26 [] [7] [(7,bv (x2 !=0))] [] [] zC ?_
 refine zU 7 (fun h4=>?_) (fun h4=>?_)
 ·refine J_g 108 [] [(2,iv x2)] [] zC ?_
  exact xI rfl
 ·refine J_g 28 [] [(10,bv a1.Down)] [] zC ?_
  refine zU 10 (fun h5=>?_) (fun h5=>?_)
  ·refine J_g 116 [] [(2,iv 9)] [] zC ?_
   exact xI rfl
  ·refine J_g 30 [] [(2,iv 0)] [] zC ?_
   exact xI rfl
noncomputable def c39:Code:=(Try.f39.body).getD .skip
theorem vH.ok (a1:zA) (q:Wd) (kn:(List File)→Option (D×List Ent)) (hk:∀v:(List File),J (q.g Try.prog 39 0 35) c39 (atI c39 31) (St.mk' [(2,pp 1),(3,pp 2)] [(1,.box [nv,iv 0,iv 0,iv 0,bv false]),(2,.box [rr 3 v,iv a1.Budget,iv a1.Writes,iv a1.Stop,bv a1.Down]),(3,rE 2 (File.enc true) v)]) (some v) kn):
  ∀s20:((List File)×Int),J (q.g Try.prog 39 0 35) c39 (atI c39 244) (St.mk' [(1,pp 0),(2,pp 1),(3,pp 2),(4,iv s20.2)] [(0,.box (zA.enc false a1)),(1,.box [nv,iv 0,iv 0,iv 0,bv false]),(2,.box [rr 3 s20.1,iv a1.Budget,iv a1.Writes,iv a1.Stop,bv a1.Down]),(3,rE 2 (File.enc true) s20.1)]) (vH a1 s20) kn:=by
 refine zBg (fun g ih s20=>?_)
 unfold vI
 refine J_d 976 [] [11] [(11,bv (decide (s20.2< (a1.Files.length:Int))))] [] [] zC ?_
 refine zU 11 (fun h21=>?_) (fun h21=>?_)
 ·refine zB (fun x22 h23=>?_)
  refine zB (fun x24 h25=>?_)
  refine zB (fun x26 h27=>?_)
  refine zB (fun x28 h29=>?_)
  refine J_g 1956 [] [(1,pp 0),(2,pp 1),(3,pp 2),(4,iv s20.2)] [(0,.box (zA.enc false a1)),(1,.box [nv,iv 0,iv 0,iv 0,bv false]),(2,.box [rr 7 x28,iv a1.Budget,iv a1.Writes,iv a1.Stop,bv a1.Down]),(7,rE 2 (File.enc true) x28)] (zP 5 (zBl (kk:=.i64) 24 35 2 (File.enc false) (.tmp 17) (.tmp 18) h23) (zP 8 (zAN 22 5 1 4 eU8 ([]:List Int) [] [] []) (zP 12 (zBl (kk:=.i64) 24 35 2 (File.enc false) (.tmp 24) (.tmp 25) h25) (zP 15 (zEM 22 22 5 5 1 1 5 4 eU8 (.tmp 22) (.tmp 28) h27) (zP 17 (zEZ (ds:=[sv x22.Path,rr 5 x26]) (ts:=[5]) 24 35 2 6 (File.enc true) [({Path:=x22.Path,Data:=x26}:File)] [0] [(.tmp 30)] [.ag [sv x22.Path,rr 5 x26]] [(5,rE 1 eU8 x26)] (.keep rfl (.move (.head _) (List.length_map _) (by decide) (.nil)))) (zP 18 (zEg 24 24 35 35 2 40 7 3 6 (File.enc true) (.tmp 15) (.tmp 31) h29) zC)))))) ?_
  refine J_d 979 [] [4] [(4,iv (w64 (s20.2+1)))] [] [] zC ?_
  refine zAT 7 3 (Nat.le_of_ble_eq_true rfl) (Nat.le_of_ble_eq_true rfl) ?_
  exact J_q (J_b (ih (x28,w64 (s20.2+1)))) rfl
 ·exact xZ (hk s20.1) rfl
theorem vO.ok (a1:zA):Ok Try.prog 39 [.ag (zA.enc false a1)] [] ((vO a1).map fun r=>(.ag (zA.enc true r),[])):=by
 refine zS c39 Try.f39 0 35 (fun q=>?_)
 unfold vO
 refine J_g 2 [(0,0),(1,1)] [(1,pp 0),(2,pp 1)] [(0,.box (zA.enc false a1)),(1,.box [nv,iv 0,iv 0,iv 0,bv false])] zC ?_
 refine J_g 6 [(1,2)] [(1,pp 0),(2,pp 1),(3,pp 2)] [(0,.box (zA.enc false a1)),(1,.box [nv,iv 0,iv 0,iv 0,bv false]),(2,.box (zA.enc false a1))] zC ?_
 refine J_g 14 [] [(1,pp 0),(2,pp 1),(3,pp 2)] [(0,.box (zA.enc false a1)),(1,.box [nv,iv 0,iv 0,iv 0,bv false]),(2,.box [nv,iv a1.Budget,iv a1.Writes,iv a1.Stop,bv a1.Down])] zC ?_
 refine J_d 60 [] [4] [(4,iv 0)] [] [] zC ?_
 refine zEy 2 0 3 2 rfl rfl (Nat.le_of_ble_eq_true rfl) (by kernel_rfl) ?_
 refine zDi (vH.ok a1 q _ (fun v30=>J_j ?_) (([]:List File),0))
 refine J_g 62 [] [(2,pp 1)] [(1,.box [rr 3 v30,iv a1.Budget,iv a1.Writes,iv a1.Stop,bv a1.Down]),(3,rE 2 (File.enc true) v30)] zC ?_
 exact jS (ds:=[.ag [rr 3 v30,iv a1.Budget,iv a1.Writes,iv a1.Stop,bv a1.Down]]) (ds':=[.ag [so 2 (File.enc true) v30,iv a1.Budget,iv a1.Writes,iv a1.Stop,bv a1.Down]]) (.cons (.ag (.move (.tail _ (.head _)) (List.length_map _) (by decide) (.keep rfl (.keep rfl (.keep rfl (.keep rfl (.nil))))))) (.nil) (by decide)) rfl
noncomputable def c41:Code:=(Try.f41.body).getD .skip
theorem zBR.ok (a1:zA) (a2:Int):Ok Try.prog 41 [.ag [rr 0 a1.Files,iv a1.Budget,iv a1.Writes,iv a1.Stop,bv a1.Down],iv a2] [rE 2 (File.enc false) a1.Files] ((tV a1 a2).map fun r=>(.ag [iv r.Code,so 2 (File.enc false) r.zA.Files,iv r.zA.Budget,iv r.zA.Writes,iv r.zA.Stop,bv r.zA.Down],[])):=by
 refine zS c41 Try.f41 1 16 (fun q=>?_)
 unfold tV
 refine J_d 2 [(0,1),(1,2)] [0,2,4] [(2,pp 1),(4,pp 2)] [1,2] [(1,.box [rr 0 a1.Files,iv a1.Budget,iv a1.Writes,iv a1.Stop,bv a1.Down]),(2,.box [iv 0,nv,iv 0,iv 0,iv 0,bv false])] zC ?_
 refine xV (atI c41 13) (fun v4:Bool=>St.mk' [(1,iv a2),(2,pp 1),(4,pp 2),(10,bv v4)] [(0,rE 2 (File.enc false) a1.Files),(1,.box [rr 0 a1.Files,iv a1.Budget,iv a1.Writes,iv a1.Stop,bv a1.Down]),(2,.box [iv 0,nv,iv 0,iv 0,iv 0,bv false])]) (fun v4=>?_) (fun jv4=>?_)
 ·refine zU 10 (fun h5=>?_) (fun h5=>?_)
  ·refine J_g 52 [] [(4,pp 2)] [(0,rE 2 (File.enc false) a1.Files),(2,.box [iv a2,nv,iv 0,iv 0,iv 0,bv false])] zC ?_
   exact jS (ds:=[.ag [iv a2,nv,iv 0,iv 0,iv 0,bv false]]) (ds':=[.ag [iv a2,so 2 (File.enc false) ([]:List File),iv 0,iv 0,iv 0,bv false]]) (.cons (.ag (.keep rfl (.nilsl true 2 (.keep rfl (.keep rfl (.keep rfl (.keep rfl (.nil)))))))) (.nil) (by decide)) rfl
  ·refine J_g 14 [] [(4,pp 2)] [(0,rE 2 (File.enc false) a1.Files),(2,.box [iv a2,rr 0 a1.Files,iv a1.Budget,iv a1.Writes,iv a1.Stop,bv a1.Down])] zC ?_
   exact jS (ds:=[.ag [iv a2,rr 0 a1.Files,iv a1.Budget,iv a1.Writes,iv a1.Stop,bv a1.Down]]) (ds':=[.ag [iv a2,so 2 (File.enc false) a1.Files,iv a1.Budget,iv a1.Writes,iv a1.Stop,bv a1.Down]]) (.cons (.ag (.keep rfl (.move (.head _) (List.length_map _) (by decide) (.keep rfl (.keep rfl (.keep rfl (.keep rfl (.nil)))))))) (.nil) (by decide)) rfl
 ·refine xK (fun h3=>?_) (fun h3=>?_)
  ·refine J_d 12 [] [10] [(10,bv (a2 !=9))] [] [] (yQ 2 [(6,bv (a2 !=0))] [] h3 zC) ?_
   exact xZ (J_j (jv4 (a2 !=9))) rfl
  ·refine J_d 12 [] [10] [(10,bv false)] [] [] (yQ 2 [(6,bv (a2 !=0))] [] h3 zC) ?_
   exact xZ (J_j (jv4 false)) rfl
noncomputable def c12:Code:=(Try.f12.body).getD .skip
theorem zAt.ok (a1:zA) (a2:ByteArray) (a3:(List Int)):Ok Try.prog 12 [.ag [rr 0 a1.Files,iv a1.Budget,iv a1.Writes,iv a1.Stop,bv a1.Down],sv a2,rr 1 a3] [rE 2 (File.enc false) a1.Files,rE 1 eU8 a3] ((xX a1 a2 a3).map fun r=>(.ag [iv r.Code,so 2 (File.enc false) r.zA.Files,iv r.zA.Budget,iv r.zA.Writes,iv r.zA.Stop,bv r.zA.Down],[rE 2 (File.enc false) a1.Files])):=by
 refine zS c12 Try.f12 2 31 (fun q=>?_)
 unfold xX
 refine J_d 2 [(0,2),(1,3)] [0,3,6] [(3,pp 2),(6,pp 3)] [2,3] [(2,.box [rr 0 a1.Files,iv a1.Budget,iv a1.Writes,iv a1.Stop,bv a1.Down]),(3,.box [iv 0,nv,iv 0,iv 0,iv 0,bv false])] zC ?_
 refine zB (fun x4 h5=>?_)
 refine J_g 12 [] [(1,sv a2),(2,rr 1 a3),(3,pp 2),(6,pp 3),(7,iv x4)] [(0,rE 2 (File.enc false) a1.Files),(1,rE 1 eU8 a3),(2,.box [rr 0 a1.Files,iv a1.Budget,iv a1.Writes,iv a1.Stop,bv a1.Down]),(3,.box [iv 0,nv,iv 0,iv 0,iv 0,bv false])] (zP 1 (wH («as»:=[.ag [rr 0 a1.Files,iv a1.Budget,iv a1.Writes,iv a1.Stop,bv a1.Down]]) [(.tmp 11)] [26] true [(0,rE 2 (File.enc false) a1.Files)] [] (.cons (.ag (.cons (jP (.head _) (File.ro false) rfl) (.cons (.same rfl) (.cons (.same rfl) (.cons (.same rfl) (.cons (.same rfl) (.nil))))))) (.nil)) (vK.ok a1) h5 (.same rfl rfl) (hbor:=fun _=>⟨fhN,yK⟩)) zC) ?_
 refine J_d 26 [] [14] [(14,bv (x4 !=0))] [] [] zC ?_
 refine zU 14 (fun h6=>?_) (fun h6=>?_)
 ·refine J_g 108 [] [(6,pp 3)] [(0,rE 2 (File.enc false) a1.Files),(1,rE 1 eU8 a3),(3,.box [iv x4,nv,iv 0,iv 0,iv 0,bv false])] zC ?_
  exact jS (ds:=[.ag [iv x4,nv,iv 0,iv 0,iv 0,bv false]]) (ds':=[.ag [iv x4,so 2 (File.enc false) ([]:List File),iv 0,iv 0,iv 0,bv false]]) (.cons (.ag (.keep rfl (.nilsl true 2 (.keep rfl (.keep rfl (.keep rfl (.keep rfl (.nil)))))))) (.nil) (by decide)) rfl
 ·refine zB (fun x7 h8=>?_)
  refine J_g 28 [] [(1,sv a2),(2,rr 1 a3),(3,pp 2),(6,pp 3),(8,iv x7)] [(0,rE 2 (File.enc false) a1.Files),(1,rE 1 eU8 a3),(2,.box [rr 0 a1.Files,iv a1.Budget,iv a1.Writes,iv a1.Stop,bv a1.Down]),(3,.box [iv 0,nv,iv 0,iv 0,iv 0,bv false])] (zP 1 (tJ [(.tmp 17)] [9] (yJ.ok a2) h8) zC) ?_
  refine J_d 58 [] [20] [(20,bv (x7 !=0))] [] [] zC ?_
  refine zU 20 (fun h9=>?_) (fun h9=>?_)
  ·refine J_g 236 [] [(6,pp 3)] [(0,rE 2 (File.enc false) a1.Files),(1,rE 1 eU8 a3),(3,.box [iv x7,nv,iv 0,iv 0,iv 0,bv false])] zC ?_
   exact jS (ds:=[.ag [iv x7,nv,iv 0,iv 0,iv 0,bv false]]) (ds':=[.ag [iv x7,so 2 (File.enc false) ([]:List File),iv 0,iv 0,iv 0,bv false]]) (.cons (.ag (.keep rfl (.nilsl true 2 (.keep rfl (.keep rfl (.keep rfl (.keep rfl (.nil)))))))) (.nil) (by decide)) rfl
  ·refine zB (fun x10 h11=>?_)
   refine J_g 30 [(2,5)] [(1,sv a2),(2,rr 1 a3),(6,pp 3),(9,pp 5)] [(0,rE 2 (File.enc false) a1.Files),(1,rE 1 eU8 a3),(3,.box [iv 0,nv,iv 0,iv 0,iv 0,bv false]),(4,rE 2 (File.enc true) x10.Files),(5,.box [rr 4 x10.Files,iv x10.Budget,iv x10.Writes,iv x10.Stop,bv x10.Down])] (zP 1 (wH («as»:=[.ag [rr 0 a1.Files,iv a1.Budget,iv a1.Writes,iv a1.Stop,bv a1.Down]]) [(.tmp 23)] [26] true [(0,rE 2 (File.enc false) a1.Files)] [] (.cons (.ag (.cons (jP (.head _) (File.ro false) rfl) (.cons (.same rfl) (.cons (.same rfl) (.cons (.same rfl) (.cons (.same rfl) (.nil))))))) (.nil)) (vO.ok a1) h11 (.ag (.cons (.own 4) (.cons (.same rfl rfl) (.cons (.same rfl rfl) (.cons (.same rfl rfl) (.cons (.same rfl rfl) (.nil))))))) (hbor:=fun _=>⟨fhN,(vQ (zA.fl _))⟩)) zC) ?_
   refine yI 5 (cs':=[so 2 (File.enc true) x10.Files,iv x10.Budget,iv x10.Writes,iv x10.Stop,bv x10.Down]) (ts:=[4]) rfl (.move (.tail _ (.tail _ (.tail _ (.head _)))) (List.length_map _) (by decide) (.keep rfl (.keep rfl (.keep rfl (.keep rfl (.nil)))))) ?_
   refine xW [(1,sv a2),(2,rr 1 a3),(6,pp 3),(9,pp 5)] [(0,rE 2 (File.enc false) a1.Files),(1,rE 1 eU8 a3),(3,.box [iv 0,nv,iv 0,iv 0,iv 0,bv false]),(5,.box (zA.enc true x10))] (by kernel_rfl) ?_
   refine zB (fun x12 h13=>?_)
   refine J_g 62 [] [(6,pp 3),(9,pp 5),(10,iv x12.1)] [(0,rE 2 (File.enc false) a1.Files),(3,.box [iv 0,nv,iv 0,iv 0,iv 0,bv false]),(5,.box [so 2 (File.enc false) x12.2.Files,iv x12.2.Budget,iv x12.2.Writes,iv x12.2.Stop,bv x12.2.Down])] (zP 2 (wH («as»:=[pp 5,sv a2,rr 1 a3]) [(.tmp 9),(.tmp 25),(.tmp 26)] [55,9,22] false [(5,.box (zA.enc true x10)),(1,rE 1 eU8 a3)] [5,1] (.cons (.pt rfl) (.cons (.same rfl) (.cons (.rf rfl) (.nil)))) (zAO.ok x10 a2 a3) h13 (.same rfl rfl)) zC) ?_
   refine yB 5 (cs':=[rr 6 x12.2.Files,iv x12.2.Budget,iv x12.2.Writes,iv x12.2.Stop,bv x12.2.Down]) (es:=[(6,rE 2 (File.enc false) x12.2.Files)]) rfl (.cons (.own 6) (.cons (.same rfl rfl) (.cons (.same rfl rfl) (.cons (.same rfl rfl) (.cons (.same rfl rfl) (.nil)))))) rfl (by kernel_rfl) (by kernel_rfl) ?_
   refine xW [(6,pp 3),(9,pp 5),(10,iv x12.1)] [(0,rE 2 (File.enc false) a1.Files),(3,.box [iv 0,nv,iv 0,iv 0,iv 0,bv false]),(5,.box [rr 6 x12.2.Files,iv x12.2.Budget,iv x12.2.Writes,iv x12.2.Stop,bv x12.2.Down]),(6,rE 2 (File.enc false) x12.2.Files)] (by kernel_rfl) ?_
   refine zB (fun x14 h15=>?_)
   refine J_g 126 [] [(6,pp 3)] [(0,rE 2 (File.enc false) a1.Files),(3,.box [iv x14.Code,rr 7 x14.zA.Files,iv x14.zA.Budget,iv x14.zA.Writes,iv x14.zA.Stop,bv x14.zA.Down]),(7,rE 2 (File.enc false) x14.zA.Files)] (zP 2 (wH («as»:=[.ag [rr 6 x12.2.Files,iv x12.2.Budget,iv x12.2.Writes,iv x12.2.Stop,bv x12.2.Down],iv x12.1]) [(.tmp 28),(.tmp 29)] [26,2] false [(6,rE 2 (File.enc false) x12.2.Files)] [6] (.cons (.ag (.cons (.rf rfl) (.cons (.same rfl) (.cons (.same rfl) (.cons (.same rfl) (.cons (.same rfl) (.nil))))))) (.cons (.same rfl) (.nil))) (zBR.ok x12.2 x12.1) h15 (.ag (.cons (.same rfl rfl) (.cons (.own 7) (.cons (.same rfl rfl) (.cons (.same rfl rfl) (.cons (.same rfl rfl) (.cons (.same rfl rfl) (.nil))))))))) zC) ?_
   exact jS (ds:=[.ag [iv x14.Code,rr 7 x14.zA.Files,iv x14.zA.Budget,iv x14.zA.Writes,iv x14.zA.Stop,bv x14.zA.Down]]) (ds':=[.ag [iv x14.Code,so 2 (File.enc false) x14.zA.Files,iv x14.zA.Budget,iv x14.zA.Writes,iv x14.zA.Stop,bv x14.zA.Down]]) (.cons (.ag (.keep rfl (.move (.tail _ (.tail _ (.head _))) (List.length_map _) (by decide) (.keep rfl (.keep rfl (.keep rfl (.keep rfl (.nil)))))))) (.nil) (by decide)) rfl
section
open Go.Shelf Go.RowKit Go.Lib
set_option linter.unusedVariables false
set_option linter.unusedSimpArgs false
set_option maxHeartbeats 4000000 in
set_option maxRecDepth 1000000 in
theorem zDW (b off n cap i j:Nat) (news:List Value) (w:World) (hcap:n≤cap) (hij:i<j) (hj:j≤n) (hlen:news.length=(n-j)*2)
  (hcs:∀k v,news[k]? =some v→w.cell? ⟨b,off+j*2+k,none⟩=some v) (h1c:∀u∈news,u.oneCell'=true)
  (hsp:∀k,k<n*2→(w.cell? ⟨b,off+k,none⟩).isSome =true∧w.frozen? ⟨b,off+k,none⟩=false)
  (zs:List Value) (hcl:∀ty W,W=w.drew.setCells b (off+i*2) news→(Builtin.clear_ #[24] ty #[.slice (some ⟨b,off+(i+(n-j))*2,none⟩) (n-(i+(n-j))) (cap-(i+(n-j)))]).run Try.prog W= .ok (.tuple #[]) (W.setCells b (off+(i+(n-j))*2) zs)):
  Calls Try.prog 56 #[.slice (some ⟨b,off,none⟩) n cap,.int .i64 i,.int .i64 j] w fun e w'=>e= .returned (.slice (some ⟨b,off,none⟩) (i+(n-j)) cap)∧w'=(w.drew.setCells b (off+i*2) news).setCells b (off+(i+(n-j))*2) zs:=by
 obtain ⟨A,hA,hsrc⟩:∃A:Addr,(if cap=j then some (⟨b,off,none⟩:Addr) else some ⟨b,off+j*2,none⟩)=some A∧Hid (∀t u,news[t]? =some u→w.drew.cell? (A.add t)=some u):=by
  by_cases h:cap=j
  ·refine ⟨⟨b,off,none⟩,by simp [h],fun t u hu=>?_⟩
   have h0:news.length=0:=by omega
   rw [List.length_eq_zero_iff.1 h0] at hu
   simp at hu
  ·exact ⟨⟨b,off+j*2,none⟩,by simp [h],fun t u hu=>by rw [Addr.add_lit]; exact hcs t u hu⟩
 have s1:Hid (news.length=(n-j)*2):=hlen
 have s2:Hid (∀u∈news,u.oneCell'=true):=h1c
 have s3:Hid (∀t,t<news.length→(w.drew.cell? ⟨b,off+i*2+t,none⟩).isSome =true∧w.drew.frozen? ⟨b,off+i*2+t,none⟩=false):=by
  intro t ht
  rw [Nat.add_assoc]
  exact hsp (i*2+t) (by omega)
 obtain ⟨W1,hW1⟩:∃W1,W1=w.drew.setCells b (off+i*2) news:=⟨_,rfl⟩
 have hW:Hid (W1=w.drew.setCells b (off+i*2) news):=hW1
 have hcl':∀ty,(Builtin.clear_ #[24] ty #[.slice (some ⟨b,off+(i+(n-j))*2,none⟩) (n-(i+(n-j))) (cap-(i+(n-j)))]).run Try.prog W1= .ok (.tuple #[]) (W1.setCells b (off+(i+(n-j))*2) zs):=fun ty=>hcl ty W1 hW1
 have X:Aside (W1=w.drew.setCells b (off+i*2) news):=hW1
 have hic:i≤cap:=by omega
 have hjc:j≤cap:=by omega
 have hi0:Try.prog.info? 35=some Try.t35:=by kernel_rfl
 have hi1:Try.t35.size=2:=by kernel_rfl
 have mixed:Try.prog.follows .mixedOrders =true:=by kernel_rfl
 clear hW1 hcl hlen hcs h1c hsp
 go_enter Try.func56,Try.ntmps56
 go_wp2_with fail
 go_region_law_o (refine step_append_room rfl (.tmp 22) (.tmp 25) 24 rfl 35 Try.t35 2 Try.underlying24 hi0 hi1 b off i cap (by simp [Act.eval,Act.put]) A (n-j) (cap-j) news (by simp [Act.eval,Act.put]) s1.out hsrc.out s2.out (by omega) s3.out ?_; rw [←hW.out])
 go_wp2
 go_ret
 exact ⟨rfl,by rw [←X.out]⟩
set_option maxHeartbeats 4000000 in
set_option maxRecDepth 1000000 in
theorem zB5 (base:Option Addr) (n cap i:Nat) (w:World) (hnc:n≤cap) (hi:i≤n) (hnil:base=none→n=0∧cap=0):Calls Try.prog 56 #[.slice base n cap,.int .i64 i,.int .i64 i] w fun e w'=>e= .returned (.slice base n cap)∧w'=w:=by
 have mixed:Try.prog.follows .mixedOrders =true:=by kernel_rfl
 cases base with
 |none=>
  obtain ⟨rfl,rfl⟩:=hnil rfl
  obtain rfl:i=0:=by omega
  go_enter Try.func56,Try.ntmps56
  go_wp2
  all_goals (go_ret; exact ⟨rfl,rfl⟩)
 |some a=>
  obtain ⟨ab,ao,asp⟩:=a
  go_enter Try.func56,Try.ntmps56
  go_wp2
  all_goals (go_ret; exact ⟨rfl,rfl⟩)
theorem zDS (n:Nat) (i j:Int) (h0:0≤i) (h1:i≤j) (h2:j≤n) (hbig:n≤1099511627776) (w:World) (v:Value) (wx:List Value) (bx:List Nat) (hD1:Dst w 2 n v wx bx) (hlt:∀b∈bx,b<w.heap.size) (q1:∀q∈wx,Value.oneCell q=true):
  Calls Try.prog 56 #[v,.int .i64 i,.int .i64 j] w fun e w'=>∃r,e= .returned r∧zBZ w w' 2 (i.toNat+(n-j.toNat)) 0 (wx.take (i.toNat*2)++wx.drop (j.toNat*2)) [] bx r:=by
 obtain ⟨i,rfl⟩:=Int.eq_ofNat_of_zero_le h0
 obtain ⟨j,rfl⟩:=Int.eq_ofNat_of_zero_le (show 0≤j by omega)
 rw [Int.toNat_natCast,Int.toNat_natCast]
 have hij:i≤j:=by omega
 have hj:j≤n:=by omega
 have e1:∀q∈wx,q.oneCell'=true:=fun q hq=>by rw [jD]; exact q1 q hq
 by_cases hc:i=j
 ·subst hc
  rw [List.take_append_drop,show i+(n-i)=n by omega]
  rcases hD1 with ⟨rfl,rfl,rfl,rfl⟩|⟨b,off,c,rfl,rfl,hnc,hO1,hl1⟩
  ·refine (zB5 none 0 0 i w (Nat.le_refl _) hj (fun _=>⟨rfl,rfl⟩)).mono ?_
   rintro e w' ⟨rfl,rfl⟩
   exact ⟨_,rfl,⟨rfl,rfl⟩,.inl ⟨rfl,rfl,rfl,rfl⟩⟩
  ·refine (zB5 (some ⟨b,off,none⟩) n c i w hnc hj (fun h=>by cases h)).mono ?_
   rintro e w' ⟨rfl,rfl⟩
   exact ⟨_,rfl,⟨rfl,rfl⟩,.inr ⟨b,off,c,rfl,hnc,by rw [List.append_nil]; exact hO1,hlt b (by simp),.inl ⟨rfl,fun _ _=>rfl,rfl⟩⟩⟩
 ·rcases hD1 with ⟨_,hn0,_⟩|⟨b,off,c,rfl,rfl,hnc,hO1,hl1⟩
  ·omega
  obtain ⟨arr,e,lo,hi,g1,g2,g3,g4⟩:=id hO1
  have hz2:(zAQ Try.prog 35).cells.size =2:=by kernel_rfl
  have hsp:∀k,k<n*2→(w.cell? ⟨b,off+k,none⟩).isSome =true∧w.frozen? ⟨b,off+k,none⟩=false:=fun k hk=>by
   refine ⟨?_,kG g1 g2 (by omega)⟩
   rw [cell_of g1,Array.getElem?_eq_getElem (by omega)]; rfl
  have hld:(wx.drop (j*2)).length =(n-j)*2:=by rw [List.length_drop,hl1]; omega
  refine (zDW b off n c i j (wx.drop (j*2)) w hnc (by omega) hj hld (fun k v hk=>?_) (fun u hu=>e1 u (List.mem_of_mem_drop hu)) hsp (Builtin.zeroCells (zAQ Try.prog 35).cells (n-(i+(n-j)))).toList (fun ty W hW=>?_)).mono ?_
  ·rw [List.getElem?_drop] at hk
   obtain ⟨hlt',rfl⟩:=List.getElem?_eq_some_iff.1 hk
   rw [Nat.add_assoc]
   exact hO1.has.cell _ hlt'
  ·refine zCo W 24 35 ty (zAQ Try.prog 35) 2 Try.underlying24 (by kernel_rfl) hz2 (by kernel_rfl) b _ _ _ (by omega) (fun k hk=>?_) (fun k hk=>?_)
   ·rw [hW,Nat.add_assoc]
    refine isSome_setCells b _ _ _ (fun t ht=>?_) _ ?_
    ·rw [Nat.add_assoc]; exact (hsp _ (by omega)).1
    ·exact (hsp _ (by omega)).1
   ·rw [hW,World.frozen?_setCells,Nat.add_assoc]
    exact (hsp _ (by omega)).2
  ·rintro e w' ⟨rfl,rfl⟩
   refine ⟨_,rfl,?_⟩
   rw [yU,yU]
   exact zEr (w:=w) (w0:=w.drew) ⟨rfl,rfl,rfl⟩ hO1 hl1 hij hj hnc (by simp [Builtin.zeroCells,hz2]; omega)
theorem xC.ok (a1:List File) (a2 a3:Int):Ok Try.prog 56 [rr 0 a1,iv a2,iv a3] [rE 2 (File.enc true) a1] ((xC a1 a2 a3).map fun r=>(so 2 (File.enc true) r,[])):=by
 unfold xC
 split
 ·rename_i h
  obtain ⟨h0,h1,h2,h3⟩:=h
  exact zDr (fun _=>rfl) h0 h1 h2 (fun w v wx bx hD1 hlt q1=>zDS a1.length a2 a3 h0 h1 h2 h3 w v wx bx hD1 hlt q1)
 ·exact fun _ h=>by cases h
end
noncomputable def c55:Code:=(Try.f55.body).getD .skip
theorem wC.ok (a1:zA) (a2:Int):Ok Try.prog 55 [.pb [pp 0],pp 1] [.box (zA.enc true a1),.box [iv a2]] ((wC a1 a2).map fun r=>(.tu [],[.box (zA.enc true r),.box [iv a2]])):=by
 refine zS c55 Try.f55 2 13 (fun q=>?_)
 unfold wC
 refine yB 0 (cs':=[rr 2 a1.Files,iv a1.Budget,iv a1.Writes,iv a1.Stop,bv a1.Down]) (es:=[(2,rE 2 (File.enc true) a1.Files)]) rfl (.cons (.own 2) (.cons (.same rfl rfl) (.cons (.same rfl rfl) (.cons (.same rfl rfl) (.cons (.same rfl rfl) (.nil)))))) rfl (by kernel_rfl) (by kernel_rfl) ?_
 refine xW [(0,.pb [pp 0]),(1,pp 1)] [(0,.box [rr 2 a1.Files,iv a1.Budget,iv a1.Writes,iv a1.Stop,bv a1.Down]),(1,.box [iv a2]),(2,rE 2 (File.enc true) a1.Files)] (by kernel_rfl) ?_
 refine zB (fun x3 h4=>?_)
 refine J_g 1 [] [] [(0,.box [rr 3 x3,iv a1.Budget,iv a1.Writes,iv a1.Stop,bv a1.Down]),(1,.box [iv a2]),(3,rE 2 (File.enc true) x3)] (zP 0 (kM (d:=pp 0) 55 (.tmp 0) [pp 0]) (zP 1 (kM (d:=pp 0) 55 (.tmp 0) [pp 0]) (zP 8 (wH («as»:=[rr 2 a1.Files,iv a2,iv (w64 (a2+1))]) [(.tmp 6),(.tmp 7),(.tmp 9)] [24,3,3] false [(2,rE 2 (File.enc true) a1.Files)] [2] (.cons (.rf rfl) (.cons (.same rfl) (.cons (.same rfl) (.nil)))) (xC.ok a1.Files a2 (w64 (a2+1))) h4 (.own 3)) zC))) ?_
 refine yI 0 (cs':=[so 2 (File.enc true) x3,iv a1.Budget,iv a1.Writes,iv a1.Stop,bv a1.Down]) (ts:=[3]) rfl (.move (.tail _ (.head _)) (List.length_map _) (by decide) (.keep rfl (.keep rfl (.keep rfl (.keep rfl (.nil)))))) ?_
 refine xW [] [(0,.box [so 2 (File.enc true) x3,iv a1.Budget,iv a1.Writes,iv a1.Stop,bv a1.Down]),(1,.box [iv a2])] (by kernel_rfl) ?_
 exact zEG rfl
theorem zR.ok (a1:zA) (a2:Int):Ok Try.prog 49 [pp 0,.fn 55 [.pb [pp 0],pp 1]] [.box (zA.enc true a1),.box [iv a2]] ((zR a1 a2).map fun r=>(iv r.1,[.box (zA.enc true r.2),.box [iv a2]])):=by
 refine zS c49 Try.f49 2 33 (fun q=>?_)
 unfold zR
 refine yB 0 (cs':=[rr 2 a1.Files,iv a1.Budget,iv a1.Writes,iv a1.Stop,bv a1.Down]) (es:=[(2,rE 2 (File.enc true) a1.Files)]) rfl (.cons (.own 2) (.cons (.same rfl rfl) (.cons (.same rfl rfl) (.cons (.same rfl rfl) (.cons (.same rfl rfl) (.nil)))))) rfl (by kernel_rfl) (by kernel_rfl) ?_
 refine xW [(0,pp 0),(1,.fn 55 [.pb [pp 0],pp 1])] [(0,.box [rr 2 a1.Files,iv a1.Budget,iv a1.Writes,iv a1.Stop,bv a1.Down]),(1,.box [iv a2]),(2,rE 2 (File.enc true) a1.Files)] (by kernel_rfl) ?_
 refine J_d 2 [] [] [] [] [] zC ?_
 refine xV (atI c49 13) (fun v4:Bool=>St.mk' [(0,pp 0),(1,.fn 55 [.pb [pp 0],pp 1]),(20,bv v4)] [(0,.box [rr 2 a1.Files,iv a1.Budget,iv a1.Writes,iv a1.Stop,bv a1.Down]),(1,.box [iv a2]),(2,rE 2 (File.enc true) a1.Files)]) (fun v4=>?_) (fun jv4=>?_)
 ·refine zU 20 (fun h5=>?_) (fun h5=>?_)
  ·refine J_g 52 [] [] [(0,.box [rr 2 a1.Files,iv a1.Budget,iv a1.Writes,iv a1.Stop,bv true]),(1,.box [iv a2]),(2,rE 2 (File.enc true) a1.Files)] zC ?_
   refine J_g 106 [] [(4,iv 9)] [(0,.box [rr 2 a1.Files,iv a1.Budget,iv a1.Writes,iv a1.Stop,bv true]),(1,.box [iv a2]),(2,rE 2 (File.enc true) a1.Files)] zC ?_
   refine yI 0 (cs':=[so 2 (File.enc true) a1.Files,iv a1.Budget,iv a1.Writes,iv a1.Stop,bv true]) (ts:=[2]) rfl (.move (.tail _ (.head _)) (List.length_map _) (by decide) (.keep rfl (.keep rfl (.keep rfl (.keep rfl (.nil)))))) ?_
   refine xW [(4,iv 9)] [(0,.box [so 2 (File.enc true) a1.Files,iv a1.Budget,iv a1.Writes,iv a1.Stop,bv true]),(1,.box [iv a2])] (by kernel_rfl) ?_
   exact xI rfl
  ·refine yI 0 (cs':=[so 2 (File.enc true) a1.Files,iv a1.Budget,iv a1.Writes,iv a1.Stop,bv a1.Down]) (ts:=[2]) rfl (.move (.tail _ (.head _)) (List.length_map _) (by decide) (.keep rfl (.keep rfl (.keep rfl (.keep rfl (.nil)))))) ?_
   refine xW [(0,pp 0),(1,.fn 55 [.pb [pp 0],pp 1]),(20,bv false)] [(0,.box (zA.enc true a1)),(1,.box [iv a2])] (by kernel_rfl) ?_
   refine zB (fun x6 h7=>?_)
   refine J_g 14 [] [(0,pp 0)] [(0,.box (zA.enc true x6)),(1,.box [iv a2])] (zP 1 (zEi 24 [] [] false [(0,.box (zA.enc true a1)),(1,.box [iv a2])] [0,1] [] [.pb [pp 0],pp 1] (.cons (.pb (.cons (.pt rfl) (.nil))) (.cons (.pt rfl) (.nil))) (wC.ok a1 a2) h7 (.tu (.nil))) zC) ?_
   refine yB 0 (cs':=[rr 2 x6.Files,iv x6.Budget,iv x6.Writes,iv x6.Stop,bv x6.Down]) (es:=[(2,rE 2 (File.enc true) x6.Files)]) rfl (.cons (.own 2) (.cons (.same rfl rfl) (.cons (.same rfl rfl) (.cons (.same rfl rfl) (.cons (.same rfl rfl) (.nil)))))) rfl (by kernel_rfl) (by kernel_rfl) ?_
   refine xW [(0,pp 0)] [(0,.box [rr 2 x6.Files,iv x6.Budget,iv x6.Writes,iv x6.Stop,bv x6.Down]),(1,.box [iv a2]),(2,rE 2 (File.enc true) x6.Files)] (by kernel_rfl) ?_
   refine J_g 30 [] [] [(0,.box [rr 2 x6.Files,iv x6.Budget,iv (w64 (x6.Writes+1)),iv x6.Stop,bv x6.Down]),(1,.box [iv a2]),(2,rE 2 (File.enc true) x6.Files)] zC ?_
   refine J_g 62 [] [(4,iv 0)] [(0,.box [rr 2 x6.Files,iv x6.Budget,iv (w64 (x6.Writes+1)),iv x6.Stop,bv x6.Down]),(1,.box [iv a2]),(2,rE 2 (File.enc true) x6.Files)] zC ?_
   refine yI 0 (cs':=[so 2 (File.enc true) x6.Files,iv x6.Budget,iv (w64 (x6.Writes+1)),iv x6.Stop,bv x6.Down]) (ts:=[2]) rfl (.move (.tail _ (.head _)) (List.length_map _) (by decide) (.keep rfl (.keep rfl (.keep rfl (.keep rfl (.nil)))))) ?_
   refine xW [(4,iv 0)] [(0,.box [so 2 (File.enc true) x6.Files,iv x6.Budget,iv (w64 (x6.Writes+1)),iv x6.Stop,bv x6.Down]),(1,.box [iv a2])] (by kernel_rfl) ?_
   exact xI rfl
 ·refine xK (fun h3=>?_) (fun h3=>?_)
  ·refine J_d 12 [] [20] [(20,bv (decide (a1.Writes≥a1.Stop)))] [] [] (yQ 5 [(9,bv (decide (a1.Stop≥0)))] [] h3 zC) ?_
   exact xZ (J_j (jv4 (decide (a1.Writes≥a1.Stop)))) rfl
  ·refine J_d 12 [] [20] [(20,bv false)] [] [] (yQ 5 [(9,bv (decide (a1.Stop≥0)))] [] h3 zC) ?_
   exact xZ (J_j (jv4 false)) rfl
noncomputable def c43:Code:=(Try.f43.body).getD .skip
theorem wG.ok (a1:zA) (a2:ByteArray):Ok Try.prog 43 [pp 0,sv a2] [.box (zA.enc true a1)] ((wG a1 a2).map fun r=>(iv r.1,[.box (zA.enc true r.2)])):=by
 refine zS c43 Try.f43 1 20 (fun q=>?_)
 unfold wG
 refine yB 0 (cs':=[rr 1 a1.Files,iv a1.Budget,iv a1.Writes,iv a1.Stop,bv a1.Down]) (es:=[(1,rE 2 (File.enc true) a1.Files)]) rfl (.cons (.own 1) (.cons (.same rfl rfl) (.cons (.same rfl rfl) (.cons (.same rfl rfl) (.cons (.same rfl rfl) (.nil)))))) rfl (by kernel_rfl) (by kernel_rfl) ?_
 refine xW [(0,pp 0),(1,sv a2)] [(0,.box [rr 1 a1.Files,iv a1.Budget,iv a1.Writes,iv a1.Stop,bv a1.Down]),(1,rE 2 (File.enc true) a1.Files)] (by kernel_rfl) ?_
 refine J_d 2 [] [0,2] [(2,.pb [pp 0])] [] [] (zP 0 (zDA 55 (.tmp 0) (pp 0)) zC) ?_
 refine zB (fun x3 h4=>?_)
 refine J_g 6 [(8,2)] [(2,.pb [pp 0]),(5,pp 2),(6,bv x3.2)] [(0,.box [rr 1 a1.Files,iv a1.Budget,iv a1.Writes,iv a1.Stop,bv a1.Down]),(1,rE 2 (File.enc true) a1.Files),(2,.box [iv x3.1])] (zP 0 (kM (d:=pp 0) 55 (.tmp 2) [pp 0]) (zP 4 (wH («as»:=[.ag [rr 1 a1.Files,iv a1.Budget,iv a1.Writes,iv a1.Stop,bv a1.Down],sv a2]) [(.tmp 10),(.tmp 11)] [55,9] true [(1,rE 2 (File.enc true) a1.Files)] [] (.cons (.ag (.cons (jP (.head _) (File.ro true) rfl) (.cons (.same rfl) (.cons (.same rfl) (.cons (.same rfl) (.cons (.same rfl) (.nil))))))) (.cons (.same rfl) (.nil))) (zX.ok a1 a2) h4 (.tu (.cons (.same rfl rfl) (.cons (.same rfl rfl) (.nil)))) (hbor:=fun _=>⟨fhN,(zCq (flatK yK (flatK yK kX)))⟩)) zC)) ?_
 refine J_d 28 [] [6,16] [(16,bv (!x3.2))] [] [] zC ?_
 refine zU 16 (fun h5=>?_) (fun h5=>?_)
 ·refine J_g 116 [] [(4,iv 4)] [(0,.box [rr 1 a1.Files,iv a1.Budget,iv a1.Writes,iv a1.Stop,bv a1.Down]),(1,rE 2 (File.enc true) a1.Files)] zC ?_
  refine yI 0 (cs':=[so 2 (File.enc true) a1.Files,iv a1.Budget,iv a1.Writes,iv a1.Stop,bv a1.Down]) (ts:=[1]) rfl (.move (.head _) (List.length_map _) (by decide) (.keep rfl (.keep rfl (.keep rfl (.keep rfl (.nil)))))) ?_
  refine xW [(4,iv 4)] [(0,.box (zA.enc true a1))] (by kernel_rfl) ?_
  exact xI rfl
 ·refine yI 0 (cs':=[so 2 (File.enc true) a1.Files,iv a1.Budget,iv a1.Writes,iv a1.Stop,bv a1.Down]) (ts:=[1]) rfl (.move (.head _) (List.length_map _) (by decide) (.keep rfl (.keep rfl (.keep rfl (.keep rfl (.nil)))))) ?_
  refine xW [(2,.pb [pp 0]),(5,pp 2),(16,bv false)] [(0,.box (zA.enc true a1)),(2,.box [iv x3.1])] (by kernel_rfl) ?_
  refine zB (fun x6 h7=>?_)
  refine J_g 30 [] [(4,iv x6.1)] [(0,.box (zA.enc true x6.2))] (zP 0 (kM (d:=pp 0) 55 (.tmp 2) [pp 0]) (zP 2 (wH («as»:=[pp 0,.fn 55 [.pb [pp 0],pp 2]]) [(.tmp 17),(.tmp 18)] [55,1] false [(0,.box (zA.enc true a1)),(2,.box [iv x3.1])] [0,2] (.cons (.pt rfl) (.cons (.fn (.cons (.pb (.cons (.pt rfl) (.nil))) (.cons (.pt rfl) (.nil)))) (.nil))) (zR.ok a1 x3.1) h7 (.same rfl rfl)) zC)) ?_
  refine yB 0 (cs':=[rr 1 x6.2.Files,iv x6.2.Budget,iv x6.2.Writes,iv x6.2.Stop,bv x6.2.Down]) (es:=[(1,rE 2 (File.enc true) x6.2.Files)]) rfl (.cons (.own 1) (.cons (.same rfl rfl) (.cons (.same rfl rfl) (.cons (.same rfl rfl) (.cons (.same rfl rfl) (.nil)))))) rfl (by kernel_rfl) (by kernel_rfl) ?_
  refine xW [(4,iv x6.1)] [(0,.box [rr 1 x6.2.Files,iv x6.2.Budget,iv x6.2.Writes,iv x6.2.Stop,bv x6.2.Down]),(1,rE 2 (File.enc true) x6.2.Files)] (by kernel_rfl) ?_
  refine yI 0 (cs':=[so 2 (File.enc true) x6.2.Files,iv x6.2.Budget,iv x6.2.Writes,iv x6.2.Stop,bv x6.2.Down]) (ts:=[1]) rfl (.move (.head _) (List.length_map _) (by decide) (.keep rfl (.keep rfl (.keep rfl (.keep rfl (.nil)))))) ?_
  refine xW [(4,iv x6.1)] [(0,.box (zA.enc true x6.2))] (by kernel_rfl) ?_
  exact xI rfl
end Go.Told

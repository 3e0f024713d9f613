import Derived.Test.YtlagdfkkokgakaaGreatDoorToldNewSystem
import Derived.Test.YtlagdfkkokgakaaGreatDoorShelfNewSystem
import Derived.Test.YtlagdfkkokgakaaGreatDoorProg
import Derived.Deep.LoopGhost
import Derived.Deep.RegionLaw
import Derived.Laws.Externs
import Derived.Laws.IdiomCopy
import Derived.Laws.NewBlocks
import Derived.Lib.AppendZeros
import Derived.Lib.AppendZerosOnto
import Derived.Lib.JoinLaws
import Derived.Lib.Overlaps
import Derived.Lib.SliceRun
import Derived.Lib.SlicesDelete
import Derived.Lib.Walk
import Derived.Shelf.Lays2
import Derived.Shelf.RegionOpenPlain
import Derived.Shelf.Spec.SlicesInsert
import Derived.Sort.WalkB12
import Derived.WalkKit
set_option linter.unusedVariables false
set_option maxRecDepth 4000
namespace Go.Told
open Go Go.Im Go.Proofs
noncomputable def zID:Code:=(Tryz.f100.body).getD .skip
theorem jH.ok (a1:(List ByteArray)) (q:Wd) (kn:Int→Option (D×List Ent)) (hk:∀v:Int,J (q.g Tryz.prog 100 0 28) zID (atI zID 31) (St.mk' [(1,iv v)] []) (some v) kn):
  ∀s8:(Int×Int),J (q.g Tryz.prog 100 0 28) zID (atI zID 244) (St.mk' [(0,sl 1 eStr a1),(1,iv s8.1),(5,iv s8.2)] []) (jH a1 s8) (Fl.go (fun r:Int=>some (iv r,[])) kn):=by
 refine zAV (fun g ih s8=>?_)
 unfold uM
 refine J_d 976 [] [15] [(15,bv (decide (s8.2< (a1.length:Int))))] [] [] zB ?_
 refine zG 15 (fun h9=>?_) (fun h9=>?_)
 ·refine zA (fun x10 h11=>?_)
  refine J_g 3912 [] [(0,sl 1 eStr a1),(1,iv (w64 (s8.1-(x10.size:Int)))),(5,iv s8.2)] [] (zK 3 (kQ (kk:=.i64) 70 9 1 eStr (.tmp 19) (.tmp 20) h11) zB) ?_
  refine J_d 7826 [] [26] [(26,bv (decide ((w64 (s8.1-(x10.size:Int)))<0)))] [] [] zB ?_
  refine zG 26 (fun h12=>?_) (fun h12=>?_)
  ·refine J_g 31308 [] [(4,iv (-1))] [] zB ?_
   exact zU rfl
  ·refine J_d 979 [] [5,26] [(5,iv (w64 (s8.2+1)))] [] [] zB ?_
   exact J_q (J_b (ih (w64 (s8.1-(x10.size:Int)),w64 (s8.2+1)))) rfl
 ·exact vX (hk s8.1) rfl
theorem tQ.ok (a1:(List ByteArray)) (a2:Int):Ok Tryz.prog 100 [sl 1 eStr a1,iv a2] [] ((tQ a1 a2).map fun r=>(iv r,[])):=by
 refine zL zID Tryz.f100 0 28 (fun q=>?_)
 unfold tQ
 refine J_g 2 [] [(0,sl 1 eStr a1),(1,iv a2)] [] zB ?_
 refine J_g 6 [] [(0,sl 1 eStr a1),(1,iv (w64 (a2-(a1.length:Int))))] [] zB ?_
 refine J_d 28 [] [11] [(11,bv (decide ((w64 (a2-(a1.length:Int)))<0)))] [] [] zB ?_
 refine zG 11 (fun h3=>?_) (fun h3=>?_)
 ·refine J_g 116 [] [(4,iv (-1))] [] zB ?_
  exact zU rfl
 ·refine J_d 60 [] [5,11] [(5,iv 0)] [] [] zB ?_
  refine zAt (K0:=(fun r:Int=>some (iv r,[]))) (fun _=>rfl) (jH.ok a1 q _ (fun v13=>J_j ?_) (w64 (a2-(a1.length:Int)),0))
  refine J_g 62 [] [(4,iv v13)] [] zB ?_
  exact zU rfl
noncomputable def c183:Code:=(Tryz.f183.body).getD .skip
theorem zA5.ok (a1:Term) (a2:Int):Ok Tryz.prog 183 [.ag (Term.enc a1),iv a2] [] ((zA5 a1 a2).map fun r=>(iv r,[])):=by
 refine zL c183 Tryz.f183 0 13 (fun q=>?_)
 unfold zA5
 refine J_g 2 [(0,0)] [(1,iv a2),(2,pp 0)] [(0,.box (Term.enc a1))] zB ?_
 refine J_g 6 [] [(1,iv (w64 (a2-(a1.Name.size:Int))))] [] zB ?_
 refine J_d 28 [] [11] [(11,bv (decide ((w64 (a2-(a1.Name.size:Int)))<0)))] [] [] zB ?_
 refine zG 11 (fun h3=>?_) (fun h3=>?_)
 ·refine J_g 116 [] [(4,iv (-1))] [] zB ?_
  exact zU rfl
 ·refine J_g 30 [] [(4,iv (w64 (a2-(a1.Name.size:Int))))] [] zB ?_
  exact zU rfl
noncomputable def zJb:Code:=(Tryz.f102.body).getD .skip
theorem zAc.ok (a1:(List Term)) (q:Wd) (kn:Int→Option (D×List Ent)) (hk:∀v:Int,J (q.g Tryz.prog 102 0 27) zJb (atI zJb 31) (St.mk' [(1,iv v)] []) (some v) kn):
  ∀s10:(Int×Int),J (q.g Tryz.prog 102 0 27) zJb (atI zJb 244) (St.mk' [(0,sl 7 Term.enc a1),(1,iv s10.1),(5,iv s10.2)] []) (zAc a1 s10) (Fl.go (fun r:Int=>some (iv r,[])) kn):=by
 refine zAV (fun g ih s10=>?_)
 unfold kG
 refine J_d 976 [] [15] [(15,bv (decide (s10.2< (a1.length:Int))))] [] [] zB ?_
 refine zG 15 (fun h11=>?_) (fun h11=>?_)
 ·refine zA (fun x12 h13=>?_)
  refine zA (fun x14 h15=>?_)
  refine J_g 3912 [] [(0,sl 7 Term.enc a1),(1,iv x14),(5,iv s10.2)] [] (zK 2 (kQ (kk:=.i64) 80 207 7 Term.enc (.tmp 18) (.tmp 19) h13) (zK 5 (xP [(.tmp 21),(.tmp 22)] [207,3] (zA5.ok x12 s10.1) h15) zB)) ?_
  refine J_d 7826 [] [25] [(25,bv (decide (x14<0)))] [] [] zB ?_
  refine zG 25 (fun h16=>?_) (fun h16=>?_)
  ·refine J_g 31308 [] [(4,iv (-1))] [] zB ?_
   exact zU rfl
  ·refine J_d 979 [] [5,25] [(5,iv (w64 (s10.2+1)))] [] [] zB ?_
   exact J_q (J_b (ih (x14,w64 (s10.2+1)))) rfl
 ·exact vX (hk s10.1) rfl
theorem uT.ok (a1:(List Term)) (a2:Int):Ok Tryz.prog 102 [sl 7 Term.enc a1,iv a2] [] ((uT a1 a2).map fun r=>(iv r,[])):=by
 refine zL zJb Tryz.f102 0 27 (fun q=>?_)
 unfold uT
 refine J_g 2 [] [(0,sl 7 Term.enc a1),(1,iv a2)] [] zB ?_
 refine J_g 6 [] [(0,sl 7 Term.enc a1),(1,iv (w64 (a2-(a1.length:Int))))] [] zB ?_
 refine J_d 28 [] [11] [(11,bv (decide ((w64 (a2-(a1.length:Int)))<0)))] [] [] zB ?_
 refine zG 11 (fun h3=>?_) (fun h3=>?_)
 ·refine J_g 116 [] [(4,iv (-1))] [] zB ?_
  exact zU rfl
 ·refine J_d 60 [] [5,11] [(5,iv 0)] [] [] zB ?_
  refine zAt (K0:=(fun r:Int=>some (iv r,[]))) (fun _=>rfl) (zAc.ok a1 q _ (fun v17=>J_j ?_) (w64 (a2-(a1.length:Int)),0))
  refine J_g 62 [] [(4,iv v17)] [] zB ?_
  exact zU rfl
noncomputable def zI5:Code:=(Tryz.f101.body).getD .skip
theorem kD.ok (a1:(List (List Term))) (q:Wd) (kn:Int→Option (D×List Ent)) (hk:∀v:Int,J (q.g Tryz.prog 101 0 27) zI5 (atI zI5 31) (St.mk' [(1,iv v)] []) (some v) kn):
  ∀s10:(Int×Int),J (q.g Tryz.prog 101 0 27) zI5 (atI zI5 244) (St.mk' [(0,sl 1 (eSl false 7 Term.enc) a1),(1,iv s10.1),(5,iv s10.2)] []) (kD a1 s10) (Fl.go (fun r:Int=>some (iv r,[])) kn):=by
 refine zAV (fun g ih s10=>?_)
 unfold jI
 refine J_d 976 [] [15] [(15,bv (decide (s10.2< (a1.length:Int))))] [] [] zB ?_
 refine zG 15 (fun h11=>?_) (fun h11=>?_)
 ·refine zA (fun x12 h13=>?_)
  refine zA (fun x14 h15=>?_)
  refine J_g 3912 [] [(0,sl 1 (eSl false 7 Term.enc) a1),(1,iv x14),(5,iv s10.2)] [] (zK 2 (kQ (kk:=.i64) 79 80 1 (eSl false 7 Term.enc) (.tmp 18) (.tmp 19) h13) (zK 5 (xP [(.tmp 21),(.tmp 22)] [80,3] (uT.ok x12 s10.1) h15) zB)) ?_
  refine J_d 7826 [] [25] [(25,bv (decide (x14<0)))] [] [] zB ?_
  refine zG 25 (fun h16=>?_) (fun h16=>?_)
  ·refine J_g 31308 [] [(4,iv (-1))] [] zB ?_
   exact zU rfl
  ·refine J_d 979 [] [5,25] [(5,iv (w64 (s10.2+1)))] [] [] zB ?_
   exact J_q (J_b (ih (x14,w64 (s10.2+1)))) rfl
 ·exact vX (hk s10.1) rfl
theorem jT.ok (a1:(List (List Term))) (a2:Int):Ok Tryz.prog 101 [sl 1 (eSl false 7 Term.enc) a1,iv a2] [] ((jT a1 a2).map fun r=>(iv r,[])):=by
 refine zL zI5 Tryz.f101 0 27 (fun q=>?_)
 unfold jT
 refine J_g 2 [] [(0,sl 1 (eSl false 7 Term.enc) a1),(1,iv a2)] [] zB ?_
 refine J_g 6 [] [(0,sl 1 (eSl false 7 Term.enc) a1),(1,iv (w64 (a2-(a1.length:Int))))] [] zB ?_
 refine J_d 28 [] [11] [(11,bv (decide ((w64 (a2-(a1.length:Int)))<0)))] [] [] zB ?_
 refine zG 11 (fun h3=>?_) (fun h3=>?_)
 ·refine J_g 116 [] [(4,iv (-1))] [] zB ?_
  exact zU rfl
 ·refine J_d 60 [] [5,11] [(5,iv 0)] [] [] zB ?_
  refine zAt (K0:=(fun r:Int=>some (iv r,[]))) (fun _=>rfl) (kD.ok a1 q _ (fun v17=>J_j ?_) (w64 (a2-(a1.length:Int)),0))
  refine J_g 62 [] [(4,iv v17)] [] zB ?_
  exact zU rfl
noncomputable def c45:Code:=(Tryz.f45.body).getD .skip
theorem zA9.ok (a1:Pack) (a2:Int):Ok Tryz.prog 45 [.ag (Pack.enc false a1),iv a2] [] ((zA9 a1 a2).map fun r=>(iv r,[])):=by
 refine zL c45 Tryz.f45 0 31 (fun q=>?_)
 unfold zA9
 refine J_g 2 [(0,0)] [(1,iv a2),(2,pp 0)] [(0,.box (Pack.enc false a1))] zB ?_
 refine J_g 6 [] [(1,iv (w64 (a2-(a1.Name.size:Int)))),(2,pp 0)] [(0,.box (Pack.enc false a1))] zB ?_
 refine J_d 28 [] [11] [(11,bv (decide ((w64 (a2-(a1.Name.size:Int)))<0)))] [] [] zB ?_
 refine zG 11 (fun h3=>?_) (fun h3=>?_)
 ·refine J_g 116 [] [(4,iv (-1))] [] zB ?_
  exact zU rfl
 ·refine zA (fun x4 h5=>?_)
  refine J_g 30 [] [(1,iv x4),(2,pp 0)] [(0,.box (Pack.enc false a1))] (zK 3 (xP [(.tmp 13),(.tmp 14)] [70,3] (tQ.ok a1.Provides (w64 (a2-(a1.Name.size:Int)))) h5) zB) ?_
  refine J_d 124 [] [17] [(17,bv (decide (x4<0)))] [] [] zB ?_
  refine zG 17 (fun h6=>?_) (fun h6=>?_)
  ·refine J_g 500 [] [(4,iv (-1))] [] zB ?_
   exact zU rfl
  ·refine zA (fun x7 h8=>?_)
   refine J_g 126 [] [(1,iv x7),(2,pp 0)] [(0,.box (Pack.enc false a1))] (zK 3 (xP [(.tmp 19),(.tmp 20)] [79,3] (jT.ok a1.Needs x4) h8) zB) ?_
   refine J_d 508 [] [23] [(23,bv (decide (x7<0)))] [] [] zB ?_
   refine zG 23 (fun h9=>?_) (fun h9=>?_)
   ·refine J_g 2036 [] [(4,iv (-1))] [] zB ?_
    exact zU rfl
   ·refine zA (fun x10 h11=>?_)
    refine J_g 510 [] [(1,iv x10)] [] (zK 3 (xP [(.tmp 25),(.tmp 26)] [80,3] (uT.ok a1.Bars x7) h11) zB) ?_
    refine J_g 2044 [] [(1,iv x10),(29,bv (decide (x10<0)))] [] zB ?_
    refine zG 29 (fun h12=>?_) (fun h12=>?_)
    ·refine J_g 8180 [] [(4,iv (-1))] [] zB ?_
     exact zU rfl
    ·refine J_g 2046 [] [(4,iv x10)] [] zB ?_
     exact zU rfl
noncomputable def c9:Code:=(Tryz.f9.body).getD .skip
theorem zAk.ok (a1:(List Pack)) (q:Wd) (kn:Int→Option (D×List Ent)) (hk:∀v:Int,J (q.g Tryz.prog 9 0 27) c9 (atI c9 31) (St.mk' [(1,iv v)] []) (some v) kn):
  ∀s10:(Int×Int),J (q.g Tryz.prog 9 0 27) c9 (atI c9 244) (St.mk' [(0,sl 8 (Pack.enc false) a1),(1,iv s10.1),(5,iv s10.2)] []) (zAk a1 s10) (Fl.go (fun r:Int=>some (iv r,[])) kn):=by
 refine zAV (fun g ih s10=>?_)
 unfold kH
 refine J_d 976 [] [15] [(15,bv (decide (s10.2< (a1.length:Int))))] [] [] zB ?_
 refine zG 15 (fun h11=>?_) (fun h11=>?_)
 ·refine zA (fun x12 h13=>?_)
  refine zA (fun x14 h15=>?_)
  refine J_g 3912 [] [(0,sl 8 (Pack.enc false) a1),(1,iv x14),(5,iv s10.2)] [] (zK 2 (kQ (kk:=.i64) 22 82 8 (Pack.enc false) (.tmp 18) (.tmp 19) h13) (zK 5 (xP [(.tmp 21),(.tmp 22)] [82,3] (zA9.ok x12 s10.1) h15) zB)) ?_
  refine J_d 7826 [] [25] [(25,bv (decide (x14<0)))] [] [] zB ?_
  refine zG 25 (fun h16=>?_) (fun h16=>?_)
  ·refine J_g 31308 [] [(4,iv (-1))] [] zB ?_
   exact zU rfl
  ·refine J_d 979 [] [5,25] [(5,iv (w64 (s10.2+1)))] [] [] zB ?_
   exact J_q (J_b (ih (x14,w64 (s10.2+1)))) rfl
 ·exact vX (hk s10.1) rfl
theorem zAd.ok (a1:(List Pack)) (a2:Int):Ok Tryz.prog 9 [sl 8 (Pack.enc false) a1,iv a2] [] ((zAd a1 a2).map fun r=>(iv r,[])):=by
 refine zL c9 Tryz.f9 0 27 (fun q=>?_)
 unfold zAd
 refine J_g 2 [] [(0,sl 8 (Pack.enc false) a1),(1,iv a2)] [] zB ?_
 refine J_g 6 [] [(0,sl 8 (Pack.enc false) a1),(1,iv (w64 (a2-(a1.length:Int))))] [] zB ?_
 refine J_d 28 [] [11] [(11,bv (decide ((w64 (a2-(a1.length:Int)))<0)))] [] [] zB ?_
 refine zG 11 (fun h3=>?_) (fun h3=>?_)
 ·refine J_g 116 [] [(4,iv (-1))] [] zB ?_
  exact zU rfl
 ·refine J_d 60 [] [5,11] [(5,iv 0)] [] [] zB ?_
  refine zAt (K0:=(fun r:Int=>some (iv r,[]))) (fun _=>rfl) (zAk.ok a1 q _ (fun v17=>J_j ?_) (w64 (a2-(a1.length:Int)),0))
  refine J_g 62 [] [(4,iv v17)] [] zB ?_
  exact zU rfl
noncomputable def zJX:Code:=(Tryz.f108.body).getD .skip
theorem yZ.ok (a1:Version):Ok Tryz.prog 108 [.ag (Version.enc a1)] [] ((yZ a1).map fun r=>(.ag (Version.enc r),[])):=by
 refine zL zJX Tryz.f108 0 14 (fun q=>?_)
 unfold yZ
 refine J_g 2 [(0,0),(1,1)] [(1,pp 0),(2,pp 1)] [(0,.box (Version.enc a1)),(1,.box [iv 0,iv 0,iv 0])] zB ?_
 refine J_g 6 [(0,2)] [(1,pp 0),(2,pp 1),(3,pp 2)] [(0,.box (Version.enc a1)),(1,.box [iv 0,iv 0,iv 0]),(2,.box [iv 0,iv 0,iv 0])] zB ?_
 refine J_g 14 [] [(1,pp 0),(2,pp 1),(3,pp 2)] [(0,.box (Version.enc a1)),(1,.box [iv 0,iv 0,iv 0]),(2,.box [iv a1.A,iv 0,iv 0])] zB ?_
 refine J_g 30 [] [(1,pp 0),(2,pp 1),(3,pp 2)] [(0,.box (Version.enc a1)),(1,.box [iv 0,iv 0,iv 0]),(2,.box [iv a1.A,iv a1.B,iv 0])] zB ?_
 refine J_g 62 [] [(2,pp 1),(3,pp 2)] [(1,.box [iv 0,iv 0,iv 0]),(2,.box (Version.enc a1))] zB ?_
 refine J_g 126 [] [(2,pp 1)] [(1,.box (Version.enc a1))] zB ?_
 exact zU rfl
noncomputable def c109:Code:=(Tryz.f109.body).getD .skip
theorem tV.ok (a1:(List ByteArray)) (q:Wd) (kn:(List ByteArray)→Option (D×List Ent)) (hk:∀v:(List ByteArray),J (q.g Tryz.prog 109 0 22) c109 (atI c109 15) (St.mk' [(3,rr 0 v)] [(0,rE 1 eStr v)]) (some v) kn):
  ∀s9:((List ByteArray)×Int),J (q.g Tryz.prog 109 0 22) c109 (atI c109 116) (St.mk' [(0,sl 1 eStr a1),(3,rr 0 s9.1),(4,iv s9.2)] [(0,rE 1 eStr s9.1)]) (tV a1 s9) kn:=by
 refine zAV (fun g ih s9=>?_)
 unfold kL
 refine J_d 464 [] [11] [(11,bv (decide (s9.2< (a1.length:Int))))] [] [] zB ?_
 refine zG 11 (fun h10=>?_) (fun h10=>?_)
 ·refine zA (fun x11 h12=>?_)
  refine zA (fun x13 h14=>?_)
  refine J_g 932 [] [(0,sl 1 eStr a1),(3,rr 0 s9.1),(4,iv s9.2)] [(0,rE 1 eStr (s9.1.set s9.2.toNat x11))] (zK 4 (kQ (kk:=.i64) 70 9 1 eStr (.tmp 16) (.tmp 17) h12) (zK 6 (zBk (kk:=.i64) 70 9 1 0 eStr (.tmp 14) (.tmp 15) h14) (zD3 7 (zEu (b:=x11) 9 1 0 0 eStr (sv x11) (.tmp 20) (.tmp 19) h14 rfl) zB))) ?_
  refine zCj (σ':=St.mk' [(0,sl 1 eStr a1),(3,rr 0 (s9.1.set s9.2.toNat x11)),(4,iv s9.2)] [(0,rE 1 eStr (s9.1.set s9.2.toNat x11))]) (by simp only [rr,List.length_set]) ?_
  refine J_d 467 [] [4] [(4,iv (w64 (s9.2+1)))] [] [] zB ?_
  exact J_q (J_b (ih (s9.1.set s9.2.toNat x11,w64 (s9.2+1)))) rfl
 ·exact vX (hk s9.1) rfl
theorem tL.ok (a1:(List ByteArray)):Ok Tryz.prog 109 [sl 1 eStr a1] [] ((tL a1).map fun r=>(so 1 eStr r,[])):=by
 refine zL c109 Tryz.f109 0 22 (fun q=>?_)
 unfold tL
 refine J_d 2 [] [] [] [] [] zB ?_
 refine zA (fun x2 h3=>?_)
 refine J_g 6 [] [(0,sl 1 eStr a1),(3,rr 0 x2)] [(0,rE 1 eStr x2)] (zK 2 (zJl 70 9 1 16 0 eStr ByteArray.empty (.tmp 6) h3 (.keep rfl (.nil))) zB) ?_
 refine J_d 28 [] [4] [(4,iv 0)] [] [] zB ?_
 refine zES (tV.ok a1 q _ (fun v15=>J_j ?_) (x2,0))
 refine J_g 30 [] [(2,rr 0 v15)] [(0,rE 1 eStr v15)] zB ?_
 exact zBG (ds:=[rr 0 v15]) (ds':=[so 1 eStr v15]) (.cons (.cell (.move (.head _) (List.length_map _) (by decide) (.nil))) (.nil) (by decide)) rfl
noncomputable def zJW:Code:=(Tryz.f188.body).getD .skip
theorem zAA.ok (a1:Term):Ok Tryz.prog 188 [.ag (Term.enc a1)] [] ((zAA a1).map fun r=>(.ag (Term.enc r),[])):=by
 refine zL zJW Tryz.f188 0 16 (fun q=>?_)
 unfold zAA
 refine J_g 2 [(0,0),(1,1)] [(1,pp 0),(2,pp 1)] [(0,.box (Term.enc a1)),(1,.box [sv ByteArray.empty,iv 0,iv 0,iv 0,iv 0,iv 0,iv 0])] zB ?_
 refine J_g 6 [(0,2)] [(1,pp 0),(2,pp 1),(3,pp 2)] [(0,.box (Term.enc a1)),(1,.box [sv ByteArray.empty,iv 0,iv 0,iv 0,iv 0,iv 0,iv 0]),(2,.box [sv ByteArray.empty,iv 0,iv 0,iv 0,iv 0,iv 0,iv 0])] zB ?_
 refine J_d 14 [] [] [] [2] [(2,.box [sv a1.Name,iv 0,iv 0,iv 0,iv 0,iv 0,iv 0])] zB ?_
 refine zA (fun x2 h3=>?_)
 refine J_d 30 [] [] [] [2] [(2,.box [sv a1.Name,iv x2.A,iv x2.B,iv x2.C,iv 0,iv 0,iv 0])] (zK 2 (xP [(.tmp 8)] [78] (yZ.ok a1.Low) h3) zB) ?_
 refine zA (fun x4 h5=>?_)
 refine J_g 62 [] [(2,pp 1),(3,pp 2)] [(1,.box [sv ByteArray.empty,iv 0,iv 0,iv 0,iv 0,iv 0,iv 0]),(2,.box [sv a1.Name,iv x2.A,iv x2.B,iv x2.C,iv x4.A,iv x4.B,iv x4.C])] (zK 2 (xP [(.tmp 12)] [78] (yZ.ok a1.High) h5) zB) ?_
 refine J_g 126 [] [(2,pp 1)] [(1,.box [sv a1.Name,iv x2.A,iv x2.B,iv x2.C,iv x4.A,iv x4.B,iv x4.C])] zB ?_
 exact zU rfl
noncomputable def zJc:Code:=(Tryz.f111.body).getD .skip
theorem kU.ok (a1:(List Term)) (q:Wd) (kn:(List Term)→Option (D×List Ent)) (hk:∀v:(List Term),J (q.g Tryz.prog 111 0 23) zJc (atI zJc 15) (St.mk' [(3,rr 0 v)] [(0,rE 7 Term.enc v)]) (some v) kn):
  ∀s11:((List Term)×Int),J (q.g Tryz.prog 111 0 23) zJc (atI zJc 116) (St.mk' [(0,sl 7 Term.enc a1),(3,rr 0 s11.1),(4,iv s11.2)] [(0,rE 7 Term.enc s11.1)]) (kU a1 s11) kn:=by
 refine zAV (fun g ih s11=>?_)
 unfold zA0
 refine J_d 464 [] [11] [(11,bv (decide (s11.2< (a1.length:Int))))] [] [] zB ?_
 refine zG 11 (fun h12=>?_) (fun h12=>?_)
 ·refine zA (fun x13 h14=>?_)
  refine zA (fun x15 h16=>?_)
  refine zA (fun x17 h18=>?_)
  refine J_g 932 [] [(0,sl 7 Term.enc a1),(3,rr 0 s11.1),(4,iv s11.2)] [(0,rE 7 Term.enc (s11.1.set s11.2.toNat x15))] (zK 4 (kQ (kk:=.i64) 80 207 7 Term.enc (.tmp 16) (.tmp 17) h14) (zK 6 (xP [(.tmp 19)] [207] (zAA.ok x13) h16) (zK 7 (zBk (kk:=.i64) 53 153 7 0 Term.enc (.tmp 14) (.tmp 15) h18) (zD3 8 (zEu (b:=x15) 153 7 0 0 Term.enc (.ag (Term.enc x15)) (.tmp 21) (.tmp 20) h18 rfl) zB)))) ?_
  refine zCj (σ':=St.mk' [(0,sl 7 Term.enc a1),(3,rr 0 (s11.1.set s11.2.toNat x15)),(4,iv s11.2)] [(0,rE 7 Term.enc (s11.1.set s11.2.toNat x15))]) (by simp only [rr,List.length_set]) ?_
  refine J_d 467 [] [4] [(4,iv (w64 (s11.2+1)))] [] [] zB ?_
  exact J_q (J_b (ih (s11.1.set s11.2.toNat x15,w64 (s11.2+1)))) rfl
 ·exact vX (hk s11.1) rfl
theorem uP.ok (a1:(List Term)):Ok Tryz.prog 111 [sl 7 Term.enc a1] [] ((uP a1).map fun r=>(so 7 Term.enc r,[])):=by
 refine zL zJc Tryz.f111 0 23 (fun q=>?_)
 unfold uP
 refine J_d 2 [] [] [] [] [] zB ?_
 refine zA (fun x2 h3=>?_)
 refine J_g 6 [] [(0,sl 7 Term.enc a1),(3,rr 0 x2)] [(0,rE 7 Term.enc x2)] (zK 2 (zJl 53 153 7 64 0 Term.enc ({Name:=ByteArray.empty,Low:=({A:=0,B:=0,C:=0}:Version),High:=({A:=0,B:=0,C:=0}:Version)}:Term) (.tmp 6) h3 (.keep rfl (.keep rfl (.keep rfl (.keep rfl (.keep rfl (.keep rfl (.keep rfl (.nil))))))))) zB) ?_
 refine J_d 28 [] [4] [(4,iv 0)] [] [] zB ?_
 refine zES (kU.ok a1 q _ (fun v19=>J_j ?_) (x2,0))
 refine J_g 30 [] [(2,rr 0 v19)] [(0,rE 7 Term.enc v19)] zB ?_
 exact zBG (ds:=[rr 0 v19]) (ds':=[so 7 Term.enc v19]) (.cons (.cell (.move (.head _) (List.length_map _) (by decide) (.nil))) (.nil) (by decide)) rfl
noncomputable def zIS:Code:=(Tryz.f110.body).getD .skip
theorem jY.ok (a1:(List (List Term))) (q:Wd) (kn:(List (List Term))→Option (D×List Ent)) (hk:∀v:(List (List Term)),J (q.g Tryz.prog 110 0 23) zIS (atI zIS 15) (St.mk' [(3,rr 0 v)] [(0,rE 1 (eSl true 7 Term.enc) v)]) (some v) kn):
  ∀s11:((List (List Term))×Int),J (q.g Tryz.prog 110 0 23) zIS (atI zIS 116) (St.mk' [(0,sl 1 (eSl false 7 Term.enc) a1),(3,rr 0 s11.1),(4,iv s11.2)] [(0,rE 1 (eSl true 7 Term.enc) s11.1)]) (jY a1 s11) kn:=by
 refine zAV (fun g ih s11=>?_)
 unfold zAs
 refine J_d 464 [] [11] [(11,bv (decide (s11.2< (a1.length:Int))))] [] [] zB ?_
 refine zG 11 (fun h12=>?_) (fun h12=>?_)
 ·refine zA (fun x13 h14=>?_)
  refine zA (fun x15 h16=>?_)
  refine zA (fun x17 h18=>?_)
  refine J_g 932 [] [(0,sl 1 (eSl false 7 Term.enc) a1),(3,rr 0 s11.1),(4,iv s11.2)] [(0,rE 1 (eSl true 7 Term.enc) (s11.1.set s11.2.toNat x15))] (zK 4 (kQ (kk:=.i64) 79 80 1 (eSl false 7 Term.enc) (.tmp 16) (.tmp 17) h14) (zK 6 (zAQ («as»:=[sl 7 Term.enc x13]) [(.tmp 19)] [80] false [] [] (.cons (.same rfl) (.nil)) (uP.ok x13) h16 (.own 1)) (zK 7 (zBk (kk:=.i64) 87 53 1 0 (eSl true 7 Term.enc) (.tmp 14) (.tmp 15) h18) (zD3 8 (zIj (b:=x15) (es':=[so 7 Term.enc x15]) (ts:=[1]) 53 1 0 0 (eSl true 7 Term.enc) (rr 1 x15) (.tmp 21) (.tmp 20) [(1,rE 7 Term.enc x15)] h18 (.move (.head _) (List.length_map _) (by decide) (.nil)) rfl) zB)))) ?_
  refine zCj (σ':=St.mk' [(0,sl 1 (eSl false 7 Term.enc) a1),(3,rr 0 (s11.1.set s11.2.toNat x15)),(4,iv s11.2)] [(0,rE 1 (eSl true 7 Term.enc) (s11.1.set s11.2.toNat x15))]) (by simp only [rr,List.length_set]) ?_
  refine J_d 467 [] [4] [(4,iv (w64 (s11.2+1)))] [] [] zB ?_
  exact J_q (J_b (ih (s11.1.set s11.2.toNat x15,w64 (s11.2+1)))) rfl
 ·exact vX (hk s11.1) rfl
theorem jU.ok (a1:(List (List Term))):Ok Tryz.prog 110 [sl 1 (eSl false 7 Term.enc) a1] [] ((jU a1).map fun r=>(so 1 (eSl true 7 Term.enc) r,[])):=by
 refine zL zIS Tryz.f110 0 23 (fun q=>?_)
 unfold jU
 refine J_d 2 [] [] [] [] [] zB ?_
 refine zA (fun x2 h3=>?_)
 refine J_g 6 [] [(0,sl 1 (eSl false 7 Term.enc) a1),(3,rr 0 x2)] [(0,rE 1 (eSl true 7 Term.enc) x2)] (zK 2 (zJl 87 53 1 24 0 (eSl true 7 Term.enc) ([]:List Term) (.tmp 6) h3 (.nilsl true 7 (.nil))) zB) ?_
 refine J_d 28 [] [4] [(4,iv 0)] [] [] zB ?_
 refine zES (jY.ok a1 q _ (fun v19=>J_j ?_) (x2,0))
 refine J_g 30 [] [(2,rr 0 v19)] [(0,rE 1 (eSl true 7 Term.enc) v19)] zB ?_
 exact zBG (ds:=[rr 0 v19]) (ds':=[so 1 (eSl true 7 Term.enc) v19]) (.cons (.cell (.move (.head _) (List.length_map _) (by decide) (.nil))) (.nil) (by decide)) rfl
noncomputable def c49:Code:=(Tryz.f49.body).getD .skip
theorem zA6.ok (a1:Pack):Ok Tryz.prog 49 [.ag (Pack.enc false a1)] [] ((zA6 a1).map fun r=>(.ag [sv r.Name,iv r.Version.A,iv r.Version.B,iv r.Version.C,iv r.Size,so 1 eStr r.Provides,so 1 (eSl true 7 Term.enc) r.Needs,so 7 Term.enc r.Bars],[])):=by
 refine zL c49 Tryz.f49 0 27 (fun q=>?_)
 unfold zA6
 refine J_g 2 [(0,0),(1,1)] [(1,pp 0),(2,pp 1)] [(0,.box (Pack.enc false a1)),(1,.box [sv ByteArray.empty,iv 0,iv 0,iv 0,iv 0,nv,nv,nv])] zB ?_
 refine J_g 6 [(0,2)] [(1,pp 0),(2,pp 1),(3,pp 2)] [(0,.box (Pack.enc false a1)),(1,.box [sv ByteArray.empty,iv 0,iv 0,iv 0,iv 0,nv,nv,nv]),(2,.box [sv ByteArray.empty,iv 0,iv 0,iv 0,iv 0,nv,nv,nv])] zB ?_
 refine J_d 14 [] [] [] [2] [(2,.box [sv a1.Name,iv 0,iv 0,iv 0,iv 0,nv,nv,nv])] zB ?_
 refine zA (fun x2 h3=>?_)
 refine J_g 30 [] [(1,pp 0),(2,pp 1),(3,pp 2)] [(0,.box (Pack.enc false a1)),(1,.box [sv ByteArray.empty,iv 0,iv 0,iv 0,iv 0,nv,nv,nv]),(2,.box [sv a1.Name,iv x2.A,iv x2.B,iv x2.C,iv 0,nv,nv,nv])] (zK 2 (xP [(.tmp 8)] [78] (yZ.ok a1.Version) h3) zB) ?_
 refine J_d 62 [] [] [] [2] [(2,.box [sv a1.Name,iv x2.A,iv x2.B,iv x2.C,iv a1.Size,nv,nv,nv])] zB ?_
 refine zA (fun x4 h5=>?_)
 refine J_d 126 [] [] [] [2,3] [(2,.box [sv a1.Name,iv x2.A,iv x2.B,iv x2.C,iv a1.Size,rr 3 x4,nv,nv]),(3,rE 1 eStr x4)] (zK 2 (zAQ («as»:=[sl 1 eStr a1.Provides]) [(.tmp 15)] [70] false [] [] (.cons (.same rfl) (.nil)) (tL.ok a1.Provides) h5 (.own 3)) zB) ?_
 refine zA (fun x6 h7=>?_)
 refine J_d 254 [] [] [] [2,4] [(2,.box [sv a1.Name,iv x2.A,iv x2.B,iv x2.C,iv a1.Size,rr 3 x4,rr 4 x6,nv]),(4,rE 1 (eSl true 7 Term.enc) x6)] (zK 2 (zAQ («as»:=[sl 1 (eSl false 7 Term.enc) a1.Needs]) [(.tmp 19)] [79] false [] [] (.cons (.same rfl) (.nil)) (jU.ok a1.Needs) h7 (.own 4)) zB) ?_
 refine zA (fun x8 h9=>?_)
 refine J_g 510 [] [(2,pp 1),(3,pp 2)] [(1,.box [sv ByteArray.empty,iv 0,iv 0,iv 0,iv 0,nv,nv,nv]),(2,.box [sv a1.Name,iv x2.A,iv x2.B,iv x2.C,iv a1.Size,rr 3 x4,rr 4 x6,rr 5 x8]),(3,rE 1 eStr x4),(4,rE 1 (eSl true 7 Term.enc) x6),(5,rE 7 Term.enc x8)] (zK 2 (zAQ («as»:=[sl 7 Term.enc a1.Bars]) [(.tmp 23)] [80] false [] [] (.cons (.same rfl) (.nil)) (uP.ok a1.Bars) h9 (.own 5)) zB) ?_
 refine J_g 1022 [] [(2,pp 1)] [(1,.box [sv a1.Name,iv x2.A,iv x2.B,iv x2.C,iv a1.Size,rr 3 x4,rr 4 x6,rr 5 x8]),(3,rE 1 eStr x4),(4,rE 1 (eSl true 7 Term.enc) x6),(5,rE 7 Term.enc x8)] zB ?_
 exact zBG (ds:=[.ag [sv a1.Name,iv x2.A,iv x2.B,iv x2.C,iv a1.Size,rr 3 x4,rr 4 x6,rr 5 x8]]) (ds':=[.ag [sv a1.Name,iv x2.A,iv x2.B,iv x2.C,iv a1.Size,so 1 eStr x4,so 1 (eSl true 7 Term.enc) x6,so 7 Term.enc x8]]) (.cons (.ag (.keep rfl (.keep rfl (.keep rfl (.keep rfl (.keep rfl (.move (.tail _ (.head _)) (List.length_map _) (by decide) (.move (.tail _ (.tail _ (.head _))) (List.length_map _) (by decide) (.move (.tail _ (.tail _ (.tail _ (.head _)))) (List.length_map _) (by decide) (.nil)))))))))) (.nil) (by decide)) rfl
noncomputable def c11:Code:=(Tryz.f11.body).getD .skip
theorem zAh.ok (a1:(List Pack)) (q:Wd) (kn:(List Pack)→Option (D×List Ent)) (hk:∀v:(List Pack),J (q.g Tryz.prog 11 0 23) c11 (atI c11 15) (St.mk' [(3,rr 0 v)] [(0,rE 8 (Pack.enc true) v)]) (some v) kn):
  ∀s11:((List Pack)×Int),J (q.g Tryz.prog 11 0 23) c11 (atI c11 116) (St.mk' [(0,sl 8 (Pack.enc false) a1),(3,rr 0 s11.1),(4,iv s11.2)] [(0,rE 8 (Pack.enc true) s11.1)]) (zAh a1 s11) kn:=by
 refine zAV (fun g ih s11=>?_)
 unfold zA4
 refine J_d 464 [] [11] [(11,bv (decide (s11.2< (a1.length:Int))))] [] [] zB ?_
 refine zG 11 (fun h12=>?_) (fun h12=>?_)
 ·refine zA (fun x13 h14=>?_)
  refine zA (fun x15 h16=>?_)
  refine zA (fun x17 h18=>?_)
  refine J_g 932 [] [(0,sl 8 (Pack.enc false) a1),(3,rr 0 s11.1),(4,iv s11.2)] [(0,rE 8 (Pack.enc true) (s11.1.set s11.2.toNat x15))] (zK 4 (kQ (kk:=.i64) 22 82 8 (Pack.enc false) (.tmp 16) (.tmp 17) h14) (zK 6 (zAQ («as»:=[.ag (Pack.enc false x13)]) [(.tmp 19)] [82] false [] [] (.cons (.same rfl) (.nil)) (zA6.ok x13) h16 (.ag (.cons (.same rfl rfl) (.cons (.same rfl rfl) (.cons (.same rfl rfl) (.cons (.same rfl rfl) (.cons (.same rfl rfl) (.cons (.own 1) (.cons (.own 2) (.cons (.own 3) (.nil))))))))))) (zK 7 (zBk (kk:=.i64) 24 89 8 0 (Pack.enc true) (.tmp 14) (.tmp 15) h18) (zD3 8 (zIj (b:=x15) (es':=[sv x15.Name,iv x15.Version.A,iv x15.Version.B,iv x15.Version.C,iv x15.Size,so 1 eStr x15.Provides,so 1 (eSl true 7 Term.enc) x15.Needs,so 7 Term.enc x15.Bars]) (ts:=[1,2,3]) 89 8 0 0 (Pack.enc true) (.ag [sv x15.Name,iv x15.Version.A,iv x15.Version.B,iv x15.Version.C,iv x15.Size,rr 1 x15.Provides,rr 2 x15.Needs,rr 3 x15.Bars]) (.tmp 21) (.tmp 20) [(1,rE 1 eStr x15.Provides),(2,rE 1 (eSl true 7 Term.enc) x15.Needs),(3,rE 7 Term.enc x15.Bars)] h18 (.keep rfl (.keep rfl (.keep rfl (.keep rfl (.keep rfl (.move (.head _) (List.length_map _) (by decide) (.move (.tail _ (.head _)) (List.length_map _) (by decide) (.move (.tail _ (.tail _ (.head _))) (List.length_map _) (by decide) (.nil))))))))) rfl) zB)))) ?_
  refine zCj (σ':=St.mk' [(0,sl 8 (Pack.enc false) a1),(3,rr 0 (s11.1.set s11.2.toNat x15)),(4,iv s11.2)] [(0,rE 8 (Pack.enc true) (s11.1.set s11.2.toNat x15))]) (by simp only [rr,List.length_set]) ?_
  refine J_d 467 [] [4] [(4,iv (w64 (s11.2+1)))] [] [] zB ?_
  exact J_q (J_b (ih (s11.1.set s11.2.toNat x15,w64 (s11.2+1)))) rfl
 ·exact vX (hk s11.1) rfl
theorem xD.ok (a1:(List Pack)):Ok Tryz.prog 11 [sl 8 (Pack.enc false) a1] [] ((xD a1).map fun r=>(so 8 (Pack.enc true) r,[])):=by
 refine zL c11 Tryz.f11 0 23 (fun q=>?_)
 unfold xD
 refine J_d 2 [] [] [] [] [] zB ?_
 refine zA (fun x2 h3=>?_)
 refine J_g 6 [] [(0,sl 8 (Pack.enc false) a1),(3,rr 0 x2)] [(0,rE 8 (Pack.enc true) x2)] (zK 2 (zJl 24 89 8 120 0 (Pack.enc true) ({Name:=ByteArray.empty,Version:=({A:=0,B:=0,C:=0}:Version),Size:=0,Provides:=([]:List ByteArray),Needs:=([]:List (List Term)),Bars:=([]:List Term)}:Pack) (.tmp 6) h3 (.keep rfl (.keep rfl (.keep rfl (.keep rfl (.keep rfl (.nilsl true 1 (.nilsl true 1 (.nilsl true 7 (.nil)))))))))) zB) ?_
 refine J_d 28 [] [4] [(4,iv 0)] [] [] zB ?_
 refine zES (zAh.ok a1 q _ (fun v19=>J_j ?_) (x2,0))
 refine J_g 30 [] [(2,rr 0 v19)] [(0,rE 8 (Pack.enc true) v19)] zB ?_
 exact zBG (ds:=[rr 0 v19]) (ds':=[so 8 (Pack.enc true) v19]) (.cons (.cell (.move (.head _) (List.length_map _) (by decide) (.nil))) (.nil) (by decide)) rfl
noncomputable def zJL:Code:=(Tryz.f255.body).getD .skip
theorem xI.ok (a1:Int):Ok Tryz.prog 255 [uv a1] [] ((xI a1).map fun r=>(bv r,[])):=by
 refine zL zJL Tryz.f255 0 9 (fun q=>?_)
 unfold xI
 refine J_g 2 [] [(0,uv a1)] [] zB ?_
 refine kI (fun h2=>?_) (fun h2=>?_)
 ·refine J_g 6 [] [(2,bv (decide (a1≤122)))] [] (vV 2 [(4,bv (decide (a1≥97)))] [] h2 zB) ?_
  exact zU rfl
 ·refine J_g 6 [] [(2,bv false)] [] (vV 2 [(4,bv (decide (a1≥97)))] [] h2 zB) ?_
  exact zU rfl
noncomputable def zJY:Code:=(Tryz.f268.body).getD .skip
theorem jL.ok (a1:Int):Ok Tryz.prog 268 [uv a1] [] ((jL a1).map fun r=>(bv r,[])):=by
 refine zL zJY Tryz.f268 0 9 (fun q=>?_)
 unfold jL
 refine J_g 2 [] [(0,uv a1)] [] zB ?_
 refine kI (fun h2=>?_) (fun h2=>?_)
 ·refine J_g 6 [] [(2,bv (decide (a1≤57)))] [] (vV 2 [(4,bv (decide (a1≥48)))] [] h2 zB) ?_
  exact zU rfl
 ·refine J_g 6 [] [(2,bv false)] [] (vV 2 [(4,bv (decide (a1≥48)))] [] h2 zB) ?_
  exact zU rfl
noncomputable def zJN:Code:=(Tryz.f256.body).getD .skip
theorem zAE.ok (a1:Int):Ok Tryz.prog 256 [uv a1] [] ((zAE a1).map fun r=>(bv r,[])):=by
 refine zL zJN Tryz.f256 0 13 (fun q=>?_)
 unfold zAE
 refine J_g 2 [] [(0,uv a1)] [] zB ?_
 refine zA (fun x2 h3=>?_)
 refine kI (fun h4=>?_) (fun h4=>?_)
 ·refine J_g 6 [] [(2,bv true)] [] (zK 1 (xP [(.tmp 3)] [5] (xI.ok a1) h3) (vV 2 [(4,bv x2)] [] h4 zB)) ?_
  exact zU rfl
 ·refine zA (fun x5 h6=>?_)
  refine kI (fun h7=>?_) (fun h7=>?_)
  ·refine J_g 6 [] [(2,bv true)] [] (zK 1 (xP [(.tmp 3)] [5] (xI.ok a1) h3) (vV 2 [(4,bv x2)] [] h4 (zCk 4 2 5 false (xP [(.tmp 6)] [5] (jL.ok a1) h6) (vV 6 [(8,bv x5)] [] h7 zB)))) ?_
   exact zU rfl
  ·refine J_g 6 [] [(2,bv (a1==95))] [] (zK 1 (xP [(.tmp 3)] [5] (xI.ok a1) h3) (vV 2 [(4,bv x2)] [] h4 (zCk 4 2 5 false (xP [(.tmp 6)] [5] (jL.ok a1) h6) (vV 6 [(8,bv x5)] [] h7 zB)))) ?_
   exact zU rfl
noncomputable def zIy:Code:=(Tryz.f184.body).getD .skip
theorem wX.ok (a1:ByteArray) (q:Wd) (kn:Unit→Option (D×List Ent)) (hk:∀v:Unit,J (q.g Tryz.prog 184 0 29) zIy (atI zIy 15) (St.mk' [] []) (some v) kn):
  ∀s16:Int,J (q.g Tryz.prog 184 0 29) zIy (atI zIy 116) (St.mk' [(0,sv a1),(3,iv s16)] []) (wX a1 s16) (Fl.go (fun r:Int=>some (iv r,[])) kn):=by
 refine zAV (fun g ih s16=>?_)
 unfold kP
 refine J_d 464 [] [21] [(21,bv (decide (s16< (a1.size:Int))))] [] [] zB ?_
 refine zG 21 (fun h17=>?_) (fun h17=>?_)
 ·refine zA (fun x18 h19=>?_)
  refine zA (fun x20 h21=>?_)
  refine J_d 1864 [] [21,28] [(28,bv (!x20))] [] [] (zK 2 (zIw (kk:=.i64) 9 (.tmp 24) (.tmp 25) h19) (zK 3 (xP [(.tmp 26)] [5] (zAE.ok x18) h21) zB)) ?_
  refine zG 28 (fun h22=>?_) (fun h22=>?_)
  ·refine J_g 7460 [] [(2,iv 5)] [] zB ?_
   exact zU rfl
  ·refine J_g 467 [] [(0,sv a1),(3,iv (w64 (s16+1)))] [] zB ?_
   exact J_q (J_b (ih (w64 (s16+1)))) rfl
 ·exact vX (hk ()) rfl
theorem yV.ok (a1:ByteArray):Ok Tryz.prog 184 [sv a1] [] ((yV a1).map fun r=>(iv r,[])):=by
 refine zL zIy Tryz.f184 0 29 (fun q=>?_)
 unfold yV
 refine J_g 2 [] [(0,sv a1)] [] zB ?_
 refine zAZ (atI zIy 13) (fun v8:Bool=>St.mk' [(0,sv a1),(17,bv v8)] []) (fun v8=>?_) (fun jv8=>?_)
 ·refine zG 17 (fun h9=>?_) (fun h9=>?_)
  ·refine J_g 52 [] [(2,iv 5)] [] zB ?_
   exact zU rfl
  ·refine J_g 28 [] [(0,sv a1),(3,iv 0)] [] zB ?_
   refine zAt (K0:=(fun r:Int=>some (iv r,[]))) (fun _=>rfl) (wX.ok a1 q _ (fun v23=>J_j ?_) 0)
   refine J_g 30 [] [(2,iv 0)] [] zB ?_
   exact zU rfl
 ·refine kI (fun h2=>?_) (fun h2=>?_)
  ·refine J_g 12 [] [(0,sv a1),(17,bv true)] [] (vV 3 [(6,bv (decide ((a1.size:Int)<1)))] [] h2 zB) ?_
   exact vX (J_j (jv8 true)) rfl
  ·refine kI (fun h3=>?_) (fun h3=>?_)
   ·refine J_g 12 [] [(0,sv a1),(17,bv true)] [] (vV 3 [(6,bv (decide ((a1.size:Int)<1)))] [] h2 (vV 8 [(11,bv (decide ((a1.size:Int)>12)))] [] h3 zB)) ?_
    exact vX (J_j (jv8 true)) rfl
   ·refine zA (fun x4 h5=>?_)
    refine zA (fun x6 h7=>?_)
    refine J_g 12 [] [(0,sv a1),(17,bv (!x6))] [] (vV 3 [(6,bv (decide ((a1.size:Int)<1)))] [] h2 (vV 8 [(11,bv (decide ((a1.size:Int)>12)))] [] h3 (zCk 10 8 12 false (zIw (kk:=.i64) 9 (.tmp 13) (.const (.int .i64 0)) h5) (zCk 11 8 12 false (xP [(.tmp 14)] [5] (xI.ok x4) h7) zB)))) ?_
    exact vX (J_j (jv8 (!x6))) rfl
noncomputable def c124:Code:=(Tryz.f124.body).getD .skip
theorem xB.ok (a1:Int) (a2:Int) (a3:Int):Ok Tryz.prog 124 [iv a1,iv a2,iv a3] [] ((xB a1 a2 a3).map fun r=>(bv r,[])):=by
 refine zL c124 Tryz.f124 0 15 (fun q=>?_)
 unfold xB
 refine J_d 2 [] [] [] [] [] zB ?_
 refine kI (fun h4=>?_) (fun h4=>?_)
 ·refine J_g 6 [] [(6,bv (decide (a1≤a3)))] [] (vV 3 [(9,bv (decide (a1≥a2)))] [] h4 zB) ?_
  exact zU rfl
 ·refine J_g 6 [] [(6,bv false)] [] (vV 3 [(9,bv (decide (a1≥a2)))] [] h4 zB) ?_
  exact zU rfl
noncomputable def zJ8:Code:=(Tryz.f185.body).getD .skip
theorem yH.ok (a1:Version):Ok Tryz.prog 185 [.ag (Version.enc a1)] [] ((yH a1).map fun r=>(iv r,[])):=by
 refine zL zJ8 Tryz.f185 0 19 (fun q=>?_)
 unfold yH
 refine J_g 2 [(0,0)] [(1,pp 0)] [(0,.box (Version.enc a1))] zB ?_
 refine zA (fun x2 h3=>?_)
 refine zAZ (atI zJ8 13) (fun v10:Bool=>St.mk' [(18,bv v10)] []) (fun v10=>?_) (fun jv10=>?_)
 ·refine zG 18 (fun h11=>?_) (fun h11=>?_)
  ·refine J_g 52 [] [(2,iv 3)] [] zB ?_
   exact zU rfl
  ·refine J_g 14 [] [(2,iv 0)] [] zB ?_
   exact zU rfl
 ·refine kI (fun h4=>?_) (fun h4=>?_)
  ·refine J_g 12 [] [(18,bv true)] [] (zK 2 (xP [(.tmp 4),(.const (.int .i64 0)),(.const (.int .i64 999))] [2,2,2] (xB.ok a1.A 0 999) h3) (vV 4 [(6,bv (!x2))] [] h4 zB)) ?_
   exact vX (J_j (jv10 true)) rfl
  ·refine zA (fun x5 h6=>?_)
   refine kI (fun h7=>?_) (fun h7=>?_)
   ·refine J_g 12 [] [(18,bv true)] [] (zK 2 (xP [(.tmp 4),(.const (.int .i64 0)),(.const (.int .i64 999))] [2,2,2] (xB.ok a1.A 0 999) h3) (vV 4 [(6,bv (!x2))] [] h4 (zCk 7 4 7 false (xP [(.tmp 9),(.const (.int .i64 0)),(.const (.int .i64 999))] [2,2,2] (xB.ok a1.B 0 999) h6) (vV 10 [(12,bv (!x5))] [] h7 zB)))) ?_
    exact vX (J_j (jv10 true)) rfl
   ·refine zA (fun x8 h9=>?_)
    refine J_g 12 [] [(18,bv (!x8))] [] (zK 2 (xP [(.tmp 4),(.const (.int .i64 0)),(.const (.int .i64 999))] [2,2,2] (xB.ok a1.A 0 999) h3) (vV 4 [(6,bv (!x2))] [] h4 (zCk 7 4 7 false (xP [(.tmp 9),(.const (.int .i64 0)),(.const (.int .i64 999))] [2,2,2] (xB.ok a1.B 0 999) h6) (vV 10 [(12,bv (!x5))] [] h7 (zCk 13 10 13 false (xP [(.tmp 15),(.const (.int .i64 0)),(.const (.int .i64 999))] [2,2,2] (xB.ok a1.C 0 999) h9) zB))))) ?_
    exact vX (J_j (jv10 (!x8))) rfl
noncomputable def zI8:Code:=(Tryz.f172.body).getD .skip
theorem zAj.ok (a1:(List ByteArray)) (a2:ByteArray) (q:Wd) (kn:Unit→Option (D×List Ent)) (hk:∀v:Unit,J (q.g Tryz.prog 172 0 18) zI8 (atI zI8 7) (St.mk' [] []) (some v) kn):
  ∀s7:Int,J (q.g Tryz.prog 172 0 18) zI8 (atI zI8 52) (St.mk' [(0,sl 1 eStr a1),(1,sv a2),(5,iv s7)] []) (zAj a1 a2 s7) (Fl.go (fun r:Bool=>some (bv r,[])) kn):=by
 refine zAV (fun g ih s7=>?_)
 unfold jX
 refine J_d 208 [] [9] [(9,bv (decide (s7< (a1.length:Int))))] [] [] zB ?_
 refine zG 9 (fun h8=>?_) (fun h8=>?_)
 ·refine zA (fun x9 h10=>?_)
  refine J_d 840 [] [9,17] [(17,bv (seq x9 a2))] [] [] (zK 2 (kQ (kk:=.i64) 70 9 1 eStr (.tmp 12) (.tmp 13) h10) zB) ?_
  refine zG 17 (fun h11=>?_) (fun h11=>?_)
  ·refine J_g 3364 [] [(4,bv true)] [] zB ?_
   exact zU rfl
  ·refine J_d 211 [] [5,17] [(5,iv (w64 (s7+1)))] [] [] zB ?_
   exact J_q (J_b (ih (w64 (s7+1)))) rfl
 ·exact vX (hk ()) rfl
theorem kZ.ok (a1:(List ByteArray)) (a2:ByteArray):Ok Tryz.prog 172 [sl 1 eStr a1,sv a2] [] ((kZ a1 a2).map fun r=>(bv r,[])):=by
 refine zL zI8 Tryz.f172 0 18 (fun q=>?_)
 unfold kZ
 refine J_g 2 [] [(0,sl 1 eStr a1),(1,sv a2)] [] zB ?_
 refine J_d 12 [] [5] [(5,iv 0)] [] [] zB ?_
 refine zAt (K0:=(fun r:Bool=>some (bv r,[]))) (fun _=>rfl) (zAj.ok a1 a2 q _ (fun v12=>J_j ?_) 0)
 refine J_g 14 [] [(4,bv false)] [] zB ?_
 exact zU rfl
noncomputable def zKf:Code:=(Tryz.f274.body).getD .skip
theorem zAJ.ok:Ok Tryz.prog 274 [] [] ((zAJ).map fun r=>(.ag (Version.enc r),[])):=by
 refine zL zKf Tryz.f274 0 2 (fun q=>?_)
 unfold zAJ
 refine J_g 2 [(0,0)] [(0,pp 0)] [(0,.box [iv 0,iv 0,iv 0])] zB ?_
 refine J_g 6 [] [(0,pp 0)] [(0,.box [iv 1000,iv 0,iv 0])] zB ?_
 exact zU rfl
noncomputable def zKq:Code:=(Tryz.f258.body).getD .skip
theorem vF.ok (a1:Int) (a2:Int):Ok Tryz.prog 258 [iv a1,iv a2] [] ((vF a1 a2).map fun r=>(iv r,[])):=by
 refine zL zKq Tryz.f258 0 11 (fun q=>?_)
 unfold vF
 refine J_g 2 [] [(0,iv a1),(1,iv a2)] [] zB ?_
 refine J_d 12 [] [7] [(7,bv (decide (a1<a2)))] [] [] zB ?_
 refine zG 7 (fun h3=>?_) (fun h3=>?_)
 ·refine J_g 52 [] [(4,iv (-1))] [] zB ?_
  exact zU rfl
 ·refine J_g 28 [] [(10,bv (decide (a1>a2)))] [] zB ?_
  refine zG 10 (fun h4=>?_) (fun h4=>?_)
  ·refine J_g 116 [] [(4,iv 1)] [] zB ?_
   exact zU rfl
  ·refine J_g 30 [] [(4,iv 0)] [] zB ?_
   exact zU rfl
noncomputable def zKj:Code:=(Tryz.f187.body).getD .skip
theorem yG.ok (a1:Version) (a2:Version):Ok Tryz.prog 187 [.ag (Version.enc a1),.ag (Version.enc a2)] [] ((yG a1 a2).map fun r=>(iv r,[])):=by
 refine zL zKj Tryz.f187 0 28 (fun q=>?_)
 unfold yG
 refine J_g 2 [(0,0),(1,1)] [(2,pp 0),(3,pp 1)] [(0,.box (Version.enc a1)),(1,.box (Version.enc a2))] zB ?_
 refine zA (fun x3 h4=>?_)
 refine J_g 12 [] [(2,pp 0),(3,pp 1),(5,iv x3)] [(0,.box (Version.enc a1)),(1,.box (Version.enc a2))] (zK 4 (xP [(.tmp 8),(.tmp 10)] [2,2] (vF.ok a1.A a2.A) h4) zB) ?_
 refine J_d 26 [] [13] [(13,bv (x3 !=0))] [] [] zB ?_
 refine zG 13 (fun h5=>?_) (fun h5=>?_)
 ·refine J_g 108 [] [(4,iv x3)] [] zB ?_
  exact zU rfl
 ·refine zA (fun x6 h7=>?_)
  refine J_g 28 [] [(2,pp 0),(3,pp 1),(6,iv x6)] [(0,.box (Version.enc a1)),(1,.box (Version.enc a2))] (zK 4 (xP [(.tmp 16),(.tmp 18)] [2,2] (vF.ok a1.B a2.B) h7) zB) ?_
  refine J_d 58 [] [21] [(21,bv (x6 !=0))] [] [] zB ?_
  refine zG 21 (fun h8=>?_) (fun h8=>?_)
  ·refine J_g 236 [] [(4,iv x6)] [] zB ?_
   exact zU rfl
  ·refine zA (fun x9 h10=>?_)
   refine J_g 30 [] [(4,iv x9)] [] (zK 4 (xP [(.tmp 24),(.tmp 26)] [2,2] (vF.ok a1.C a2.C) h10) zB) ?_
   exact zU rfl
noncomputable def zJA:Code:=(Tryz.f257.body).getD .skip
theorem tN.ok (a1:Term):Ok Tryz.prog 257 [.ag (Term.enc a1)] [] ((tN a1).map fun r=>(iv r,[])):=by
 refine zL zJA Tryz.f257 0 33 (fun q=>?_)
 unfold tN
 refine J_g 2 [(0,0)] [(1,pp 0)] [(0,.box (Term.enc a1))] zB ?_
 refine zA (fun x2 h3=>?_)
 refine J_g 12 [] [(1,pp 0),(3,iv x2)] [(0,.box (Term.enc a1))] (zK 2 (xP [(.tmp 6)] [9] (yV.ok a1.Name) h3) zB) ?_
 refine J_d 26 [] [9] [(9,bv (x2 !=0))] [] [] zB ?_
 refine zG 9 (fun h4=>?_) (fun h4=>?_)
 ·refine J_g 108 [] [(2,iv x2)] [] zB ?_
  exact zU rfl
 ·refine zA (fun x5 h6=>?_)
  refine J_g 28 [] [(1,pp 0),(4,iv x5)] [(0,.box (Term.enc a1))] (zK 2 (xP [(.tmp 12)] [86] (yH.ok a1.Low) h6) zB) ?_
  refine J_d 58 [] [15] [(15,bv (x5 !=0))] [] [] zB ?_
  refine zG 15 (fun h7=>?_) (fun h7=>?_)
  ·refine J_g 236 [] [(2,iv x5)] [] zB ?_
   exact zU rfl
  ·refine zA (fun x8 h9=>?_)
   refine zAZ (atI zJA 61) (fun v13:Bool=>St.mk' [(1,pp 0),(26,bv v13)] [(0,.box (Term.enc a1))]) (fun v13=>?_) (fun jv13=>?_)
   ·refine zG 26 (fun h14=>?_) (fun h14=>?_)
    ·refine J_g 244 [] [(2,iv 3)] [] zB ?_
     exact zU rfl
    ·refine zA (fun x15 h16=>?_)
     refine J_g 124 [] [(32,bv (decide (x15≥0)))] [] (zK 4 (xP [(.tmp 28),(.tmp 30)] [86,86] (yG.ok a1.Low a1.High) h16) zB) ?_
     refine zG 32 (fun h17=>?_) (fun h17=>?_)
     ·refine J_g 500 [] [(2,iv 1)] [] zB ?_
      exact zU rfl
     ·refine J_g 126 [] [(2,iv 0)] [] zB ?_
      exact zU rfl
   ·refine kI (fun h10=>?_) (fun h10=>?_)
    ·refine zA (fun x11 h12=>?_)
     refine J_d 60 [] [4,15,26] [(26,bv (x11 !=0))] [] [] (zK 2 (xP [] [] (zAJ.ok) h9) (zK 3 (zGm (b:=.neq) (r:=(a1.High.A==x8.A&&(a1.High.B==x8.B&&(a1.High.C==x8.C&&true)))) 86 86 (.tmp 18) (.tmp 19) [.int .i64 a1.High.A,.int .i64 a1.High.B,.int .i64 a1.High.C] [.int .i64 x8.A,.int .i64 x8.B,.int .i64 x8.C] (.inr ⟨rfl,rfl⟩)) (vV 4 [(20,bv (!(a1.High.A==x8.A&&(a1.High.B==x8.B&&(a1.High.C==x8.C&&true)))))] [] h10 (zCk 7 4 21 true (xP [(.tmp 23)] [86] (yH.ok a1.High) h12) zB)))) ?_
     exact vX (J_j (jv13 (x11 !=0))) rfl
    ·refine J_d 60 [] [4,15,26] [(26,bv false)] [] [] (zK 2 (xP [] [] (zAJ.ok) h9) (zK 3 (zGm (b:=.neq) (r:=(a1.High.A==x8.A&&(a1.High.B==x8.B&&(a1.High.C==x8.C&&true)))) 86 86 (.tmp 18) (.tmp 19) [.int .i64 a1.High.A,.int .i64 a1.High.B,.int .i64 a1.High.C] [.int .i64 x8.A,.int .i64 x8.B,.int .i64 x8.C] (.inr ⟨rfl,rfl⟩)) (vV 4 [(20,bv (!(a1.High.A==x8.A&&(a1.High.B==x8.B&&(a1.High.C==x8.C&&true)))))] [] h10 zB))) ?_
     exact vX (J_j (jv13 false)) rfl
noncomputable def zI4:Code:=(Tryz.f186.body).getD .skip
theorem kS.ok (a1:(List Term)) (q:Wd) (kn:Unit→Option (D×List Ent)) (hk:∀v:Unit,J (q.g Tryz.prog 186 0 19) zI4 (atI zI4 7) (St.mk' [] []) (some v) kn):
  ∀s8:Int,J (q.g Tryz.prog 186 0 19) zI4 (atI zI4 52) (St.mk' [(0,sl 7 Term.enc a1),(3,iv s8)] []) (kS a1 s8) (Fl.go (fun r:Int=>some (iv r,[])) kn):=by
 refine zAV (fun g ih s8=>?_)
 unfold kC
 refine J_d 208 [] [8] [(8,bv (decide (s8< (a1.length:Int))))] [] [] zB ?_
 refine zG 8 (fun h9=>?_) (fun h9=>?_)
 ·refine zA (fun x10 h11=>?_)
  refine zA (fun x12 h13=>?_)
  refine J_g 840 [] [(0,sl 7 Term.enc a1),(3,iv s8),(4,iv x12)] [] (zK 2 (kQ (kk:=.i64) 53 153 7 Term.enc (.tmp 11) (.tmp 12) h11) (zK 4 (xP [(.tmp 14)] [153] (tN.ok x10) h13) zB)) ?_
  refine J_d 1682 [] [17] [(17,bv (x12 !=0))] [] [] zB ?_
  refine zG 17 (fun h14=>?_) (fun h14=>?_)
  ·refine J_g 6732 [] [(2,iv x12)] [] zB ?_
   exact zU rfl
  ·refine J_g 211 [] [(0,sl 7 Term.enc a1),(3,iv (w64 (s8+1)))] [] zB ?_
   exact J_q (J_b (ih (w64 (s8+1)))) rfl
 ·exact vX (hk ()) rfl
theorem wT.ok (a1:(List Term)):Ok Tryz.prog 186 [sl 7 Term.enc a1] [] ((wT a1).map fun r=>(iv r,[])):=by
 refine zL zI4 Tryz.f186 0 19 (fun q=>?_)
 unfold wT
 refine J_g 2 [] [(0,sl 7 Term.enc a1)] [] zB ?_
 refine J_d 12 [] [3] [(3,iv 0)] [] [] zB ?_
 refine zAt (K0:=(fun r:Int=>some (iv r,[]))) (fun _=>rfl) (kS.ok a1 q _ (fun v15=>J_j ?_) 0)
 refine J_g 14 [] [(2,iv 0)] [] zB ?_
 exact zU rfl
noncomputable def zFk:Code:=(Tryz.f103.body).getD .skip
theorem wW.ok (a1:Pack) (q:Wd) (kn:Unit→Option (D×List Ent)) (hk:∀v:Unit,J (q.g Tryz.prog 103 0 118) zFk (atI zFk 511) (St.mk' [(1,pp 0)] [(0,.box (Pack.enc false a1))]) (some v) kn):
  ∀s70:Int,J (q.g Tryz.prog 103 0 118) zFk (atI zFk 4084) (St.mk' [(1,pp 0),(8,iv s70)] [(0,.box (Pack.enc false a1))]) (wW a1 s70) (Fl.go (fun r:Int=>some (iv r,[])) kn):=by
 refine zAV (fun g ih s70=>?_)
 unfold uL
 refine J_d 16336 [] [96] [(96,bv (decide (s70< (a1.Needs.length:Int))))] [] [] zB ?_
 refine zG 96 (fun h71=>?_) (fun h71=>?_)
 ·refine zA (fun x72 h73=>?_)
  refine J_d 130704 [] [96,105] [(105,bv ((x72.length:Int)==0))] [] [] (zK 3 (kQ (kk:=.i64) 87 53 1 (eSl false 7 Term.enc) (.tmp 100) (.tmp 101) h73) zB) ?_
  refine zG 105 (fun h74=>?_) (fun h74=>?_)
  ·refine J_g 522820 [] [(2,iv 1)] [] zB ?_
   exact zU rfl
  ·refine zA (fun x75 h76=>?_)
   refine zA (fun x77 h78=>?_)
   refine J_g 130706 [] [(1,pp 0),(8,iv s70),(9,iv x77)] [(0,.box (Pack.enc false a1))] (zK 3 (kQ (kk:=.i64) 87 53 1 (eSl false 7 Term.enc) (.tmp 107) (.tmp 108) h76) (zK 5 (xP [(.tmp 110)] [53] (wT.ok x75) h78) zB)) ?_
   refine J_d 261414 [] [113] [(113,bv (x77 !=0))] [] [] zB ?_
   refine zG 113 (fun h79=>?_) (fun h79=>?_)
   ·refine J_g 1045660 [] [(2,iv x77)] [] zB ?_
    exact zU rfl
   ·refine J_d 16339 [] [8,9,113] [(8,iv (w64 (s70+1)))] [] [] zB ?_
    exact J_q (J_b (ih (w64 (s70+1)))) rfl
 ·exact vX (hk ()) rfl
theorem wZ.ok (a1:Pack) (q:Wd) (kn:Unit→Option (D×List Ent)) (hk:∀v:Unit,J (q.g Tryz.prog 103 0 118) zFk (atI zFk 255) (St.mk' [(1,pp 0)] [(0,.box (Pack.enc false a1))]) (some v) kn):
  ∀s42:Int,J (q.g Tryz.prog 103 0 118) zFk (atI zFk 2036) (St.mk' [(1,pp 0),(6,iv s42)] [(0,.box (Pack.enc false a1))]) (wZ a1 s42) (Fl.go (fun r:Int=>some (iv r,[])) kn):=by
 refine zAV (fun g ih s42=>?_)
 unfold uK
 refine J_d 8144 [] [60] [(60,bv (decide (s42< (a1.Provides.length:Int))))] [] [] zB ?_
 refine zG 60 (fun h43=>?_) (fun h43=>?_)
 ·refine zA (fun x44 h45=>?_)
  refine zA (fun x46 h47=>?_)
  refine J_g 65168 [] [(1,pp 0),(6,iv s42),(7,iv x46)] [(0,.box (Pack.enc false a1))] (zK 3 (kQ (kk:=.i64) 70 9 1 eStr (.tmp 64) (.tmp 65) h45) (zK 5 (xP [(.tmp 67)] [9] (yV.ok x44) h47) zB)) ?_
  refine J_d 130338 [] [70] [(70,bv (x46 !=0))] [] [] zB ?_
  refine zG 70 (fun h48=>?_) (fun h48=>?_)
  ·refine J_g 521356 [] [(2,iv x46)] [] zB ?_
   exact zU rfl
  ·refine zA (fun x49 h50=>?_)
   refine zAZ (atI zFk 65171) (fun v58:Bool=>St.mk' [(1,pp 0),(6,iv s42),(91,bv v58)] [(0,.box (Pack.enc false a1))]) (fun v58=>?_) (fun jv58=>?_)
   ·refine zG 91 (fun h59=>?_) (fun h59=>?_)
    ·refine J_g 260684 [] [(2,iv 6)] [] zB ?_
     exact zU rfl
    ·refine J_d 8147 [] [6,91] [(6,iv (w64 (s42+1)))] [] [] zB ?_
     exact J_q (J_b (ih (w64 (s42+1)))) rfl
   ·refine kI (fun h51=>?_) (fun h51=>?_)
    ·refine J_d 65170 [] [7,70,91] [(91,bv true)] [] [] (zK 3 (kQ (kk:=.i64) 70 9 1 eStr (.tmp 73) (.tmp 74) h50) (vV 8 [(79,bv (seq x49 a1.Name))] [] h51 zB)) ?_
     exact vX (J_j (jv58 true)) rfl
    ·refine zA (fun x52 h53=>?_)
     refine zA (fun x54 h55=>?_)
     refine zA (fun x56 h57=>?_)
     refine J_d 65170 [] [7,70,91] [(91,bv x56)] [] [] (zK 3 (kQ (kk:=.i64) 70 9 1 eStr (.tmp 73) (.tmp 74) h50) (vV 8 [(79,bv (seq x49 a1.Name))] [] h51 (zCk 12 8 80 false (zJi 70 9 1 eStr (.tmp 82) none (some (.tmp 83)) h53) (zCk 16 8 80 false (kQ (kk:=.i64) 70 9 1 eStr (.tmp 86) (.tmp 87) h55) (zCk 18 8 80 false (xP [(.tmp 84),(.tmp 89)] [70,9] (kZ.ok x52 x54) h57) zB))))) ?_
     exact vX (J_j (jv58 x56)) rfl
 ·exact vX (hk ()) rfl
theorem tZ.ok (a1:Pack) (q:Wd) (kn:Unit→Option (D×List Ent)) (hk:∀v:Unit,J (q.g Tryz.prog 103 0 118) zFk (atI zFk 127) (St.mk' [(1,pp 0)] [(0,.box (Pack.enc false a1))]) (some v) kn):
  ∀s19:Int,J (q.g Tryz.prog 103 0 118) zFk (atI zFk 1012) (St.mk' [(1,pp 0),(5,iv s19)] [(0,.box (Pack.enc false a1))]) (tZ a1 s19) (Fl.go (fun r:Int=>some (iv r,[])) kn):=by
 refine zAV (fun g ih s19=>?_)
 unfold uQ
 refine J_d 4048 [] [46] [(46,bv (decide (s19< (a1.Needs.length:Int))))] [] [] zB ?_
 refine zG 46 (fun h20=>?_) (fun h20=>?_)
 ·refine zA (fun x21 h22=>?_)
  refine J_d 16200 [] [46,55] [(55,bv (decide ((x21.length:Int)>4)))] [] [] (zK 3 (kQ (kk:=.i64) 87 53 1 (eSl false 7 Term.enc) (.tmp 50) (.tmp 51) h22) zB) ?_
  refine zG 55 (fun h23=>?_) (fun h23=>?_)
  ·refine J_g 64804 [] [(2,iv 2)] [] zB ?_
   exact zU rfl
  ·refine J_d 4051 [] [5,55] [(5,iv (w64 (s19+1)))] [] [] zB ?_
   exact J_q (J_b (ih (w64 (s19+1)))) rfl
 ·exact vX (hk ()) rfl
theorem uY.ok (a1:Pack):Ok Tryz.prog 103 [.ag (Pack.enc false a1)] [] ((uY a1).map fun r=>(iv r,[])):=by
 refine zL zFk Tryz.f103 0 118 (fun q=>?_)
 unfold uY
 refine J_g 2 [(0,0)] [(1,pp 0)] [(0,.box (Pack.enc false a1))] zB ?_
 refine zA (fun x2 h3=>?_)
 refine J_g 12 [] [(1,pp 0),(3,iv x2)] [(0,.box (Pack.enc false a1))] (zK 2 (xP [(.tmp 11)] [9] (yV.ok a1.Name) h3) zB) ?_
 refine J_d 26 [] [14] [(14,bv (x2 !=0))] [] [] zB ?_
 refine zG 14 (fun h4=>?_) (fun h4=>?_)
 ·refine J_g 108 [] [(2,iv x2)] [] zB ?_
  exact zU rfl
 ·refine zA (fun x5 h6=>?_)
  refine J_g 28 [] [(1,pp 0),(4,iv x5)] [(0,.box (Pack.enc false a1))] (zK 2 (xP [(.tmp 17)] [86] (yH.ok a1.Version) h6) zB) ?_
  refine J_d 58 [] [20] [(20,bv (x5 !=0))] [] [] zB ?_
  refine zG 20 (fun h7=>?_) (fun h7=>?_)
  ·refine J_g 236 [] [(2,iv x5)] [] zB ?_
   exact zU rfl
  ·refine zA (fun x8 h9=>?_)
   refine J_d 60 [] [4,20,25] [(25,bv (!x8))] [] [] (zK 2 (xP [(.tmp 23),(.const (.int .i64 1)),(.const (.int .i64 200))] [2,2,2] (xB.ok a1.Size 1 200) h9) zB) ?_
   refine zG 25 (fun h10=>?_) (fun h10=>?_)
   ·refine J_g 244 [] [(2,iv 3)] [] zB ?_
    exact zU rfl
   ·refine zAZ (atI zFk 125) (fun v13:Bool=>St.mk' [(1,pp 0),(41,bv v13)] [(0,.box (Pack.enc false a1))]) (fun v13=>?_) (fun jv13=>?_)
    ·refine zG 41 (fun h14=>?_) (fun h14=>?_)
     ·refine J_g 500 [] [(2,iv 2)] [] zB ?_
      exact zU rfl
     ·refine J_d 252 [] [5,41] [(5,iv 0)] [] [] zB ?_
      refine zAt (K0:=(fun r:Int=>some (iv r,[]))) (fun _=>rfl) (tZ.ok a1 q _ (fun v24=>J_j ?_) 0)
      refine J_d 508 [] [6] [(6,iv 0)] [] [] zB ?_
      refine zAt (K0:=(fun r:Int=>some (iv r,[]))) (fun _=>rfl) (wZ.ok a1 q _ (fun v60=>J_j ?_) 0)
      refine J_d 1020 [] [8] [(8,iv 0)] [] [] zB ?_
      refine zAt (K0:=(fun r:Int=>some (iv r,[]))) (fun _=>rfl) (wW.ok a1 q _ (fun v80=>J_j ?_) 0)
      refine zA (fun x81 h82=>?_)
      refine J_g 1022 [] [(2,iv x81)] [] (zK 2 (xP [(.tmp 116)] [53] (wT.ok a1.Bars) h82) zB) ?_
      exact zU rfl
    ·refine kI (fun h11=>?_) (fun h11=>?_)
     ·refine J_d 124 [] [25,41] [(41,bv true)] [] [] (vV 4 [(29,bv (decide ((a1.Provides.length:Int)>4)))] [] h11 zB) ?_
      exact vX (J_j (jv13 true)) rfl
     ·refine kI (fun h12=>?_) (fun h12=>?_)
      ·refine J_d 124 [] [25,41] [(41,bv true)] [] [] (vV 4 [(29,bv (decide ((a1.Provides.length:Int)>4)))] [] h11 (vV 10 [(35,bv (decide ((a1.Needs.length:Int)>4)))] [] h12 zB)) ?_
       exact vX (J_j (jv13 true)) rfl
      ·refine J_d 124 [] [25,41] [(41,bv (decide ((a1.Bars.length:Int)>4)))] [] [] (vV 4 [(29,bv (decide ((a1.Provides.length:Int)>4)))] [] h11 (vV 10 [(35,bv (decide ((a1.Needs.length:Int)>4)))] [] h12 zB)) ?_
       exact vX (J_j (jv13 (decide ((a1.Bars.length:Int)>4)))) rfl
noncomputable def zIx:Code:=(Tryz.f104.body).getD .skip
theorem zAw.ok (a1:(List Pack)) (a2:ByteArray) (a3:Version) (q:Wd) (kn:Unit→Option (D×List Ent)) (hk:∀v:Unit,J (q.g Tryz.prog 104 0 32) zIx (atI zIx 7) (St.mk' [] []) (some v) kn):
  ∀s14:Int,J (q.g Tryz.prog 104 0 32) zIx (atI zIx 52) (St.mk' [(0,sl 8 (Pack.enc false) a1),(1,sv a2),(5,pp 0),(7,iv s14)] [(0,.box (Version.enc a3))]) (zAw a1 a2 a3 s14) (Fl.go (fun r:Int=>some (iv r,[])) kn):=by
 refine zAV (fun g ih s14=>?_)
 unfold zAf
 refine J_d 208 [] [11] [(11,bv (decide (s14< (a1.length:Int))))] [] [] zB ?_
 refine zG 11 (fun h15=>?_) (fun h15=>?_)
 ·refine zA (fun x16 h17=>?_)
  refine zAZ (atI zIx 841) (fun v23:Bool=>St.mk' [(0,sl 8 (Pack.enc false) a1),(1,sv a2),(5,pp 0),(7,iv s14),(30,bv v23)] [(0,.box (Version.enc a3))]) (fun v23=>?_) (fun jv23=>?_)
  ·refine zG 30 (fun h24=>?_) (fun h24=>?_)
   ·refine J_g 3364 [] [(6,iv s14)] [] zB ?_
    exact zU rfl
   ·refine J_d 211 [] [7,30] [(7,iv (w64 (s14+1)))] [] [] zB ?_
    exact J_q (J_b (ih (w64 (s14+1)))) rfl
  ·refine kI (fun h18=>?_) (fun h18=>?_)
   ·refine zA (fun x19 h20=>?_)
    refine zA (fun x21 h22=>?_)
    refine J_d 840 [] [11,30] [(30,bv (x21==0))] [] [] (zK 2 (kQ (kk:=.i64) 24 89 8 (Pack.enc false) (.tmp 14) (.tmp 15) h17) (vV 7 [(20,bv (seq x16.Name a2))] [] h18 (zCk 10 7 21 true (kQ (kk:=.i64) 24 89 8 (Pack.enc false) (.tmp 22) (.tmp 23) h20) (zCk 14 7 21 true (xP [(.tmp 26),(.tmp 27)] [86,86] (yG.ok x19.Version a3) h22) zB)))) ?_
    exact vX (J_j (jv23 (x21==0))) rfl
   ·refine J_d 840 [] [11,30] [(30,bv false)] [] [] (zK 2 (kQ (kk:=.i64) 24 89 8 (Pack.enc false) (.tmp 14) (.tmp 15) h17) (vV 7 [(20,bv (seq x16.Name a2))] [] h18 zB)) ?_
    exact vX (J_j (jv23 false)) rfl
 ·exact vX (hk ()) rfl
theorem zAg.ok (a1:(List Pack)) (a2:ByteArray) (a3:Version):Ok Tryz.prog 104 [sl 8 (Pack.enc false) a1,sv a2,.ag (Version.enc a3)] [] ((zAg a1 a2 a3).map fun r=>(iv r,[])):=by
 refine zL zIx Tryz.f104 0 32 (fun q=>?_)
 unfold zAg
 refine J_g 2 [(0,0)] [(0,sl 8 (Pack.enc false) a1),(1,sv a2),(5,pp 0)] [(0,.box (Version.enc a3))] zB ?_
 refine J_d 12 [] [7] [(7,iv 0)] [] [] zB ?_
 refine zAt (K0:=(fun r:Int=>some (iv r,[]))) (fun _=>rfl) (zAw.ok a1 a2 a3 q _ (fun v25=>J_j ?_) 0)
 refine J_g 14 [] [(6,iv (-1))] [] zB ?_
 exact zU rfl
noncomputable def c46:Code:=(Tryz.f46.body).getD .skip
theorem wO.ok (a1:(List Pack)) (q:Wd) (kn:Unit→Option (D×List Ent)) (hk:∀v:Unit,J (q.g Tryz.prog 46 0 37) c46 (atI c46 15) (St.mk' [] []) (some v) kn):
  ∀s18:Int,J (q.g Tryz.prog 46 0 37) c46 (atI c46 116) (St.mk' [(0,sl 8 (Pack.enc false) a1),(3,iv s18)] []) (wO a1 s18) (Fl.go (fun r:Int=>some (iv r,[])) kn):=by
 refine zAV (fun g ih s18=>?_)
 unfold wE
 refine J_d 464 [] [11] [(11,bv (decide (s18< (a1.length:Int))))] [] [] zB ?_
 refine zG 11 (fun h19=>?_) (fun h19=>?_)
 ·refine zA (fun x20 h21=>?_)
  refine zA (fun x22 h23=>?_)
  refine J_g 3728 [] [(0,sl 8 (Pack.enc false) a1),(3,iv s18),(4,iv x22)] [] (zK 2 (kQ (kk:=.i64) 24 89 8 (Pack.enc false) (.tmp 14) (.tmp 15) h21) (zK 4 (xP [(.tmp 17)] [89] (uY.ok x20) h23) zB)) ?_
  refine J_d 7458 [] [20] [(20,bv (x22 !=0))] [] [] zB ?_
  refine zG 20 (fun h24=>?_) (fun h24=>?_)
  ·refine J_g 29836 [] [(2,iv x22)] [] zB ?_
   exact zU rfl
  ·refine zA (fun x25 h26=>?_)
   refine zA (fun x27 h28=>?_)
   refine zA (fun x29 h30=>?_)
   refine zA (fun x31 h32=>?_)
   refine J_d 3730 [] [4,20,36] [(36,bv (decide (x31≥0)))] [] [] (zK 2 (zJi 24 89 8 (Pack.enc false) (.tmp 22) none (some (.tmp 23)) h26) (zK 5 (kQ (kk:=.i64) 24 89 8 (Pack.enc false) (.tmp 25) (.tmp 26) h28) (zK 10 (kQ (kk:=.i64) 24 89 8 (Pack.enc false) (.tmp 30) (.tmp 31) h30) (zK 13 (xP [(.tmp 24),(.tmp 29),(.tmp 34)] [24,9,86] (zAg.ok x25 x27.Name x29.Version) h32) zB)))) ?_
   refine zG 36 (fun h33=>?_) (fun h33=>?_)
   ·refine J_g 14924 [] [(2,iv 6)] [] zB ?_
    exact zU rfl
   ·refine J_d 467 [] [3,36] [(3,iv (w64 (s18+1)))] [] [] zB ?_
    exact J_q (J_b (ih (w64 (s18+1)))) rfl
 ·exact vX (hk ()) rfl
theorem xY.ok (a1:(List Pack)):Ok Tryz.prog 46 [sl 8 (Pack.enc false) a1] [] ((xY a1).map fun r=>(iv r,[])):=by
 refine zL c46 Tryz.f46 0 37 (fun q=>?_)
 unfold xY
 refine J_g 2 [] [(0,sl 8 (Pack.enc false) a1)] [] zB ?_
 refine J_d 12 [] [7] [(7,bv (decide ((a1.length:Int)>24)))] [] [] zB ?_
 refine zG 7 (fun h2=>?_) (fun h2=>?_)
 ·refine J_g 52 [] [(2,iv 2)] [] zB ?_
  exact zU rfl
 ·refine J_d 28 [] [3,7] [(3,iv 0)] [] [] zB ?_
  refine zAt (K0:=(fun r:Int=>some (iv r,[]))) (fun _=>rfl) (wO.ok a1 q _ (fun v34=>J_j ?_) 0)
  refine J_g 30 [] [(2,iv 0)] [] zB ?_
  exact zU rfl
noncomputable def c105:Code:=(Tryz.f105.body).getD .skip
theorem kK.ok (a1:Int):Ok Tryz.prog 105 [iv a1] [] ((kK a1).map fun r=>(.ag (zZ.enc true r),[])):=by
 refine zL c105 Tryz.f105 0 10 (fun q=>?_)
 unfold kK
 refine J_g 2 [(0,0)] [(0,iv a1),(2,pp 0)] [(0,.box [iv 0,nv,iv 0,iv 0,iv 0,bv false])] zB ?_
 refine zA (fun x2 h3=>?_)
 refine J_d 12 [] [5] [(5,bv (!x2))] [] [] (zK 1 (xP [(.tmp 3),(.const (.int .i64 0)),(.const (.int .i64 20000))] [2,2,2] (xB.ok a1 0 20000) h3) zB) ?_
 refine zG 5 (fun h4=>?_) (fun h4=>?_)
 ·refine J_g 52 [] [(2,pp 0)] [(0,.box [iv 3,nv,iv 0,iv 0,iv 0,bv false])] zB ?_
  exact zBG (ds:=[.ag [iv 3,nv,iv 0,iv 0,iv 0,bv false]]) (ds':=[.ag [iv 3,so 2 (File.enc true) ([]:List File),iv 0,iv 0,iv 0,bv false]]) (.cons (.ag (.keep rfl (.nilsl true 2 (.keep rfl (.keep rfl (.keep rfl (.keep rfl (.nil)))))))) (.nil) (by decide)) rfl
 ·refine J_g 14 [] [(2,pp 0)] [(0,.box [iv 0,nv,iv a1,iv 0,iv (-1),bv false])] zB ?_
  exact zBG (ds:=[.ag [iv 0,nv,iv a1,iv 0,iv (-1),bv false]]) (ds':=[.ag [iv 0,so 2 (File.enc true) ([]:List File),iv a1,iv 0,iv (-1),bv false]]) (.cons (.ag (.keep rfl (.nilsl true 2 (.keep rfl (.keep rfl (.keep rfl (.keep rfl (.nil)))))))) (.nil) (by decide)) rfl
noncomputable def zJI:Code:=(Tryz.f128.body).getD .skip
theorem kJ.ok (a1:Int):Ok Tryz.prog 128 [iv a1] [] ((kJ a1).map fun r=>(sv r,[])):=by
 have key:∀(n:Nat) (a1:Int),Ok Tryz.prog 128 [iv a1] [] ((zHY xR n a1).map fun r=>(sv r,[])):=by
  intro n
  induction n with
  |zero=>intro a1; exact zHO
  |succ n ih=>
   intro a1
   refine zL zJI Tryz.f128 0 20 (fun q=>?_)
   unfold zHY xR
   refine J_g 2 [] [(0,iv a1)] [] zB ?_
   refine J_g 12 [] [(0,iv a1),(4,bv (decide (a1<10)))] [] zB ?_
   refine zG 4 (fun h2=>?_) (fun h2=>?_)
   ·refine J_g 52 [] [(2,sv (b2s [IntKind.u8.wrap (w64 (48+a1))]))] [] (zK 3 (zEQ 111 5 1 0 eU8 [IntKind.u8.wrap (w64 (48+a1))] [0] [(.tmp 7)] [uv (IntKind.u8.wrap (w64 (48+a1)))]) (zK 4 (zGG (xs:=[IntKind.u8.wrap (w64 (48+a1))]) 111 9 5 0 (.tmp 8)) zB)) ?_
    exact zU rfl
   ·refine zA (fun x3 h4=>?_)
    refine zA (fun x5 h6=>?_)
    refine J_g 14 [] [(2,sv x5)] [] (zK 2 (xP [(.tmp 11)] [2] (ih (w64 (a1.tdiv 10))) h4) (zK 7 (zEQ 111 5 1 0 eU8 [IntKind.u8.wrap (w64 (48+(a1.tmod 10)))] [0] [(.tmp 16)] [uv (IntKind.u8.wrap (w64 (48+(a1.tmod 10))))]) (zK 8 (zGG (xs:=[IntKind.u8.wrap (w64 (48+(a1.tmod 10)))]) 111 9 5 0 (.tmp 17)) (zK 9 (zFJ 9 9 (.tmp 12) (.tmp 18) h6) zB)))) ?_
    exact zU rfl
 exact key 64 a1
noncomputable def zKi:Code:=(Tryz.f106.body).getD .skip
theorem zAb.ok (a1:Int):Ok Tryz.prog 106 [iv a1] [] ((zAb a1).map fun r=>(sv r,[])):=by
 refine zL zKi Tryz.f106 0 11 (fun q=>?_)
 unfold zAb
 refine J_g 2 [] [(0,iv a1)] [] zB ?_
 refine zA (fun x2 h3=>?_)
 refine J_g 12 [] [(0,iv a1),(5,bv (!x2))] [] (zK 1 (xP [(.tmp 3),(.const (.int .i64 1)),(.const (.int .i64 999999))] [2,2,2] (xB.ok a1 1 999999) h3) zB) ?_
 refine zG 5 (fun h4=>?_) (fun h4=>?_)
 ·refine J_g 52 [] [(2,sv (bs []))] [] zB ?_
  exact zU rfl
 ·refine zA (fun x5 h6=>?_)
  refine zA (fun x7 h8=>?_)
  refine zA (fun x9 h10=>?_)
  refine J_g 14 [] [(2,sv x9)] [] (zK 2 (xP [(.tmp 7)] [2] (kJ.ok (w64 (1000000+a1))) h6) (zK 3 (zJK 9 (.tmp 8) (some (.const (.int .i64 1))) none h8) (zK 4 (zFJ 9 9 (.const (.string (bs [103,101,110,47]))) (.tmp 9) h10) zB))) ?_
  exact zU rfl
noncomputable def c47:Code:=(Tryz.f47.body).getD .skip
theorem jV.ok (a1:Int):Ok Tryz.prog 47 [iv a1] [] ((jV a1).map fun r=>(.ag [iv r.Code,so 2 (File.enc false) r.zC.Files,iv r.zC.Budget,iv r.zC.Writes,iv r.zC.Stop,bv r.zC.Down],[])):=by
 refine zL c47 Tryz.f47 0 23 (fun q=>?_)
 unfold jV
 refine J_g 2 [(0,0)] [(0,iv a1),(2,pp 0)] [(0,.box [iv 0,nv,iv 0,iv 0,iv 0,bv false])] zB ?_
 refine zA (fun x2 h3=>?_)
 refine J_g 6 [(2,2)] [(0,iv a1),(2,pp 0),(3,pp 2)] [(0,.box [iv 0,nv,iv 0,iv 0,iv 0,bv false]),(1,rE 2 (File.enc true) x2.zC.Files),(2,.box [iv x2.Code,rr 1 x2.zC.Files,iv x2.zC.Budget,iv x2.zC.Writes,iv x2.zC.Stop,bv x2.zC.Down])] (zK 1 (zAQ («as»:=[iv a1]) [(.tmp 4)] [2] false [] [] (.cons (.same rfl) (.nil)) (kK.ok a1) h3 (.ag (.cons (.same rfl rfl) (.cons (.own 1) (.cons (.same rfl rfl) (.cons (.same rfl rfl) (.cons (.same rfl rfl) (.cons (.same rfl rfl) (.nil))))))))) zB) ?_
 refine J_d 28 [] [8] [(8,bv (x2.Code !=0))] [] [] zB ?_
 refine zG 8 (fun h4=>?_) (fun h4=>?_)
 ·refine J_g 116 [] [(2,pp 0)] [(0,.box [iv x2.Code,rr 1 x2.zC.Files,iv x2.zC.Budget,iv x2.zC.Writes,iv x2.zC.Stop,bv x2.zC.Down]),(1,rE 2 (File.enc true) x2.zC.Files)] zB ?_
  refine zDr [(2,pp 0)] [(1,rE 2 (File.enc true) x2.zC.Files),(0,.box [iv x2.Code,rr 1 x2.zC.Files,iv x2.zC.Budget,iv x2.zC.Writes,iv x2.zC.Stop,bv x2.zC.Down])] (by kernel_rfl) ?_
  refine zJ0 1 (zAO (enc:=(File.enc true)) (enc':=(File.enc false)) (File.ro true) _) ?_
  refine zDr [(2,pp 0)] [(0,.box [iv x2.Code,rr 1 x2.zC.Files,iv x2.zC.Budget,iv x2.zC.Writes,iv x2.zC.Stop,bv x2.zC.Down]),(1,rE 2 (File.enc false) x2.zC.Files)] (by kernel_rfl) ?_
  exact zBG (ds:=[.ag [iv x2.Code,rr 1 x2.zC.Files,iv x2.zC.Budget,iv x2.zC.Writes,iv x2.zC.Stop,bv x2.zC.Down]]) (ds':=[.ag [iv x2.Code,so 2 (File.enc false) x2.zC.Files,iv x2.zC.Budget,iv x2.zC.Writes,iv x2.zC.Stop,bv x2.zC.Down]]) (.cons (.ag (.keep rfl (.move (.tail _ (.head _)) (List.length_map _) (by decide) (.keep rfl (.keep rfl (.keep rfl (.keep rfl (.nil)))))))) (.nil) (by decide)) rfl
 ·refine J_d 60 [] [0,8,11] [(11,bv (a1==0))] [] [] zB ?_
  refine zG 11 (fun h5=>?_) (fun h5=>?_)
  ·refine J_g 244 [] [(2,pp 0)] [(0,.box [iv 8,nv,iv 0,iv 0,iv 0,bv false])] zB ?_
   exact zBG (ds:=[.ag [iv 8,nv,iv 0,iv 0,iv 0,bv false]]) (ds':=[.ag [iv 8,so 2 (File.enc false) ([]:List File),iv 0,iv 0,iv 0,bv false]]) (.cons (.ag (.keep rfl (.nilsl true 2 (.keep rfl (.keep rfl (.keep rfl (.keep rfl (.nil)))))))) (.nil) (by decide)) rfl
  ·refine zA (fun x6 h7=>?_)
   refine J_g 62 [] [(2,pp 0),(3,pp 2)] [(0,.box [iv 0,nv,iv 0,iv 0,iv 0,bv false]),(2,.box [iv x2.Code,rr 4 [({Path:=bs [99,117,114],Data:=[49]}:File),({Path:=x6,Data:=([]:List Int)}:File),({Path:=bs [114,111,111,116,115],Data:=([]:List Int)}:File)],iv x2.zC.Budget,iv x2.zC.Writes,iv x2.zC.Stop,bv x2.zC.Down]),(4,rE 2 (File.enc false) [({Path:=bs [99,117,114],Data:=[49]}:File),({Path:=x6,Data:=([]:List Int)}:File),({Path:=bs [114,111,111,116,115],Data:=([]:List Int)}:File)])] (zK 0 (zEQ 111 5 1 3 eU8 [49] [0] [(.const (.int .u8 49))] [uv 49]) (zK 1 (zIN (xs:=[49]) 111 5 3 (.tmp 13)) (zK 3 (xP [(.const (.int .i64 1))] [2] (zAb.ok 1) h7) (zK 6 (zIm (ds:=[sv (bs [99,117,114]),sl 1 eU8 [49],sv x6,nv,sv (bs [114,111,111,116,115]),nv]) (ts:=[]) 25 113 2 4 (File.enc false) [({Path:=bs [99,117,114],Data:=[49]}:File),({Path:=x6,Data:=([]:List Int)}:File),({Path:=bs [114,111,111,116,115],Data:=([]:List Int)}:File)] [0,1,2] [(.tmp 15),(.tmp 17),(.tmp 18)] [.ag [sv (bs [99,117,114]),sl 1 eU8 [49]],.ag [sv x6,nv],.ag [sv (bs [114,111,111,116,115]),nv]] [] (.keep rfl (.keep rfl (.keep rfl (.nilsl false 1 (.keep rfl (.nilsl false 1 (.nil)))))))) zB)))) ?_
   refine J_g 126 [] [(2,pp 0)] [(0,.box [iv x2.Code,rr 4 [({Path:=bs [99,117,114],Data:=[49]}:File),({Path:=x6,Data:=([]:List Int)}:File),({Path:=bs [114,111,111,116,115],Data:=([]:List Int)}:File)],iv x2.zC.Budget,iv x2.zC.Writes,iv x2.zC.Stop,bv x2.zC.Down]),(4,rE 2 (File.enc false) [({Path:=bs [99,117,114],Data:=[49]}:File),({Path:=x6,Data:=([]:List Int)}:File),({Path:=bs [114,111,111,116,115],Data:=([]:List Int)}:File)])] zB ?_
   exact zBG (ds:=[.ag [iv x2.Code,rr 4 [({Path:=bs [99,117,114],Data:=[49]}:File),({Path:=x6,Data:=([]:List Int)}:File),({Path:=bs [114,111,111,116,115],Data:=([]:List Int)}:File)],iv x2.zC.Budget,iv x2.zC.Writes,iv x2.zC.Stop,bv x2.zC.Down]]) (ds':=[.ag [iv x2.Code,so 2 (File.enc false) [({Path:=bs [99,117,114],Data:=[49]}:File),({Path:=x6,Data:=([]:List Int)}:File),({Path:=bs [114,111,111,116,115],Data:=([]:List Int)}:File)],iv x2.zC.Budget,iv x2.zC.Writes,iv x2.zC.Stop,bv x2.zC.Down]]) (.cons (.ag (.keep rfl (.move (.tail _ (.head _)) (List.length_map _) (by decide) (.keep rfl (.keep rfl (.keep rfl (.keep rfl (.nil)))))))) (.nil) (by decide)) rfl
noncomputable def c107:Code:=(Tryz.f107.body).getD .skip
theorem jZ.ok (a1:(List Pack)) (s46:((List Pack)×Int)) (x48:Pack) (x50:(List ByteArray)) (q:Wd) (kn:(List (List Term))→Option (D×List Ent)) (hk:∀v:(List (List Term)),J (q.g Tryz.prog 107 0 59) c107 (atI c107 14927) (St.mk' [(0,sl 8 (Pack.enc false) a1),(3,rr 0 s46.1),(4,iv s46.2),(5,pp 1)] [(0,rE 8 (Pack.enc true) s46.1),(1,.box [sv x48.Name,iv x48.Version.A,iv x48.Version.B,iv x48.Version.C,iv x48.Size,rr 3 x50,rr 4 v,sl 7 Term.enc x48.Bars]),(3,rE 1 eStr x50),(4,rE 1 (eSl true 7 Term.enc) v)]) (some v) kn):
  ∀s74:((List (List Term))×Int),J (q.g Tryz.prog 107 0 59) c107 (atI c107 119412) (St.mk' [(0,sl 8 (Pack.enc false) a1),(3,rr 0 s46.1),(4,iv s46.2),(5,pp 1),(6,iv s74.2)] [(0,rE 8 (Pack.enc true) s46.1),(1,.box [sv x48.Name,iv x48.Version.A,iv x48.Version.B,iv x48.Version.C,iv x48.Size,rr 3 x50,rr 4 s74.1,sl 7 Term.enc x48.Bars]),(3,rE 1 eStr x50),(4,rE 1 (eSl true 7 Term.enc) s74.1)]) (jZ a1 s46 x48 x50 s74) kn:=by
 refine zAV (fun g ih s74=>?_)
 unfold jB
 refine zA (fun x75 h76=>?_)
 refine J_d 477648 [] [31] [(31,bv (decide (s74.2< (x75.Needs.length:Int))))] [] [] (zK 3 (kQ (kk:=.i64) 24 89 8 (Pack.enc false) (.tmp 25) (.tmp 26) h76) zB) ?_
 refine zG 31 (fun h77=>?_) (fun h77=>?_)
 ·refine zA (fun x78 h79=>?_)
  refine zA (fun x80 h81=>?_)
  refine zA (fun x82 h83=>?_)
  refine zA (fun x84 h85=>?_)
  refine J_g 955300 [] [(0,sl 8 (Pack.enc false) a1),(3,rr 0 s46.1),(4,iv s46.2),(5,pp 1),(6,iv s74.2)] [(0,rE 8 (Pack.enc true) s46.1),(1,.box [sv x48.Name,iv x48.Version.A,iv x48.Version.B,iv x48.Version.C,iv x48.Size,rr 3 x50,rr 8 x84,sl 7 Term.enc x48.Bars]),(3,rE 1 eStr x50),(8,rE 1 (eSl true 7 Term.enc) x84)] (zK 2 (zEQ 53 153 7 5 Term.enc ([]:List Term) [] [] []) (zK 5 (kQ (kk:=.i64) 24 89 8 (Pack.enc false) (.tmp 37) (.tmp 38) h79) (zK 9 (kQ (kk:=.i64) 87 53 1 (eSl false 7 Term.enc) (.tmp 41) (.tmp 42) h81) (zK 11 (zGb 53 53 153 153 7 64 6 5 Term.enc (.tmp 36) (.tmp 44) h83) (zK 12 (zIm (ds:=[rr 6 x82]) (ts:=[6]) 87 53 1 7 (eSl true 7 Term.enc) [x82] [0] [(.tmp 45)] [rr 6 x82] [(6,rE 7 Term.enc x82)] (.move (.head _) (List.length_map _) (by decide) (.nil))) (zK 13 (zJg 87 87 53 53 1 24 8 4 7 (eSl true 7 Term.enc) (.tmp 35) (.tmp 46) h85) zB)))))) ?_
  refine J_d 477651 [] [6] [(6,iv (w64 (s74.2+1)))] [] [] zB ?_
  refine zGP 8 4 (Nat.le_of_ble_eq_true rfl) (Nat.le_of_ble_eq_true rfl) ?_
  exact J_q (J_b (ih (x84,w64 (s74.2+1)))) rfl
 ·exact vX (hk s74.1) rfl
theorem kF.ok (a1:(List Pack)) (q:Wd) (kn:(List Pack)→Option (D×List Ent)) (hk:∀v:(List Pack),J (q.g Tryz.prog 107 0 59) c107 (atI c107 15) (St.mk' [(3,rr 0 v)] [(0,rE 8 (Pack.enc true) v)]) (some v) kn):
  ∀s46:((List Pack)×Int),J (q.g Tryz.prog 107 0 59) c107 (atI c107 116) (St.mk' [(0,sl 8 (Pack.enc false) a1),(3,rr 0 s46.1),(4,iv s46.2)] [(0,rE 8 (Pack.enc true) s46.1)]) (kF a1 s46) kn:=by
 refine zAV (fun g ih s46=>?_)
 unfold jE
 refine J_d 464 [] [11] [(11,bv (decide (s46.2< (a1.length:Int))))] [] [] zB ?_
 refine zG 11 (fun h47=>?_) (fun h47=>?_)
 ·refine zA (fun x48 h49=>?_)
  refine J_d 1864 [(4,1)] [5,11] [(5,pp 1)] [1] [(1,.box (Pack.enc false x48))] (zK 2 (kQ (kk:=.i64) 24 89 8 (Pack.enc false) (.tmp 14) (.tmp 15) h49) zB) ?_
  refine zA (fun x50 h51=>?_)
  refine J_g 3730 [] [(0,sl 8 (Pack.enc false) a1),(3,rr 0 s46.1),(4,iv s46.2),(5,pp 1)] [(0,rE 8 (Pack.enc true) s46.1),(1,.box [sv x48.Name,iv x48.Version.A,iv x48.Version.B,iv x48.Version.C,iv x48.Size,rr 3 x50,sl 1 (eSl false 7 Term.enc) x48.Needs,sl 7 Term.enc x48.Bars]),(3,rE 1 eStr x50)] (zK 0 (zEQ 70 9 1 2 eStr ([]:List ByteArray) [] [] []) (zK 3 (zGb 70 70 9 9 1 16 3 2 eStr (.tmp 18) (.tmp 20) h51) zB)) ?_
  refine J_g 7462 [] [(0,sl 8 (Pack.enc false) a1),(3,rr 0 s46.1),(4,iv s46.2),(5,pp 1)] [(0,rE 8 (Pack.enc true) s46.1),(1,.box [sv x48.Name,iv x48.Version.A,iv x48.Version.B,iv x48.Version.C,iv x48.Size,rr 3 x50,nv,sl 7 Term.enc x48.Bars]),(3,rE 1 eStr x50)] zB ?_
  refine J_d 29852 [] [6] [(6,iv 0)] [] [] zB ?_
  refine zIB 1 6 4 1 rfl rfl (Nat.le_of_ble_eq_true rfl) (by kernel_rfl) ?_
  refine zES (jZ.ok a1 s46 x48 x50 q _ (fun v86=>J_j ?_) (([]:List (List Term)),0))
  refine zA (fun x87 h88=>?_)
  refine J_d 29854 [] [] [] [1,6] [(1,.box [sv x48.Name,iv x48.Version.A,iv x48.Version.B,iv x48.Version.C,iv x48.Size,rr 3 x50,rr 4 v86,rr 6 x87]),(6,rE 7 Term.enc x87)] (zK 0 (zEQ 53 153 7 5 Term.enc ([]:List Term) [] [] []) (zK 3 (zGb 53 53 153 153 7 64 6 5 Term.enc (.tmp 49) (.tmp 51) h88) zB)) ?_
  refine zA (fun x89 h90=>?_)
  refine J_g 29855 [] [(0,sl 8 (Pack.enc false) a1),(3,rr 8 x89),(4,iv s46.2)] [(8,rE 8 (Pack.enc true) x89)] (zK 2 (zIm (ds:=[sv x48.Name,iv x48.Version.A,iv x48.Version.B,iv x48.Version.C,iv x48.Size,rr 3 x50,rr 4 v86,rr 6 x87]) (ts:=[3,4,6]) 24 89 8 7 (Pack.enc true) [({Name:=x48.Name,Version:=x48.Version,Size:=x48.Size,Provides:=x50,Needs:=v86,Bars:=x87}:Pack)] [0] [(.tmp 55)] [.ag [sv x48.Name,iv x48.Version.A,iv x48.Version.B,iv x48.Version.C,iv x48.Size,rr 3 x50,rr 4 v86,rr 6 x87]] [(3,rE 1 eStr x50),(4,rE 1 (eSl true 7 Term.enc) v86),(6,rE 7 Term.enc x87)] (.keep rfl (.keep rfl (.keep rfl (.keep rfl (.keep rfl (.move (.head _) (List.length_map _) (by decide) (.move (.tail _ (.head _)) (List.length_map _) (by decide) (.move (.tail _ (.tail _ (.head _))) (List.length_map _) (by decide) (.nil)))))))))) (zK 3 (zJg 24 24 89 89 8 120 8 0 7 (Pack.enc true) (.tmp 54) (.tmp 56) h90) zB)) ?_
  refine J_d 467 [] [4] [(4,iv (w64 (s46.2+1)))] [] [] zB ?_
  refine zGP 8 0 (Nat.le_of_ble_eq_true rfl) (Nat.le_of_ble_eq_true rfl) ?_
  exact J_q (J_b (ih (x89,w64 (s46.2+1)))) rfl
 ·exact vX (hk s46.1) rfl
theorem wS.ok (a1:(List Pack)):Ok Tryz.prog 107 [sl 8 (Pack.enc false) a1] [] ((wS a1).map fun r=>(so 8 (Pack.enc true) r,[])):=by
 refine zL c107 Tryz.f107 0 59 (fun q=>?_)
 unfold wS
 refine J_g 2 [] [(0,sl 8 (Pack.enc false) a1)] [] zB ?_
 refine J_g 6 [] [(0,sl 8 (Pack.enc false) a1),(3,rr 0 ([]:List Pack))] [(0,rE 8 (Pack.enc false) ([]:List Pack))] (zK 0 (zEQ 24 89 8 0 (Pack.enc false) ([]:List Pack) [] [] []) zB) ?_
 refine J_d 28 [] [4] [(4,iv 0)] [] [] zB ?_
 refine zES (kF.ok a1 q _ (fun v91=>J_j ?_) (([]:List Pack),0))
 refine J_g 30 [] [(2,rr 0 v91)] [(0,rE 8 (Pack.enc true) v91)] zB ?_
 exact zBG (ds:=[rr 0 v91]) (ds':=[so 8 (Pack.enc true) v91]) (.cons (.cell (.move (.head _) (List.length_map _) (by decide) (.nil))) (.nil) (by decide)) rfl
noncomputable def c48:Code:=(Tryz.f48.body).getD .skip
theorem zB5.ok (a1:System) (a2:zZ) (a3:Int):Ok Tryz.prog 48 [.ag (System.enc false a1),.ag (zZ.enc false a2),iv a3] [] ((zB5 a1 a2 a3).map fun r=>(.ag [iv r.Code,iv r.Choices,so 8 (Pack.enc true) r.System.Catalog,sl 2 (File.enc false) r.System.zC.Files,iv r.System.zC.Budget,iv r.System.zC.Writes,iv r.System.zC.Stop,bv r.System.zC.Down],[])):=by
 refine zL c48 Tryz.f48 0 36 (fun q=>?_)
 unfold zB5
 refine J_g 2 [(0,0),(1,1),(2,2)] [(2,iv a3),(3,pp 0),(4,pp 1),(6,pp 2)] [(0,.box (System.enc false a1)),(1,.box (zZ.enc false a2)),(2,.box [iv 0,iv 0,nv,nv,iv 0,iv 0,iv 0,bv false])] zB ?_
 refine zAZ (atI c48 13) (fun v6:Bool=>St.mk' [(2,iv a3),(3,pp 0),(4,pp 1),(6,pp 2),(21,bv v6)] [(0,.box (System.enc false a1)),(1,.box (zZ.enc false a2)),(2,.box [iv 0,iv 0,nv,nv,iv 0,iv 0,iv 0,bv false])]) (fun v6=>?_) (fun jv6=>?_)
 ·refine zG 21 (fun h7=>?_) (fun h7=>?_)
  ·refine J_g 52 [] [(6,pp 2)] [(2,.box [iv a2.Code,iv a3,nv,nv,iv 0,iv 0,iv 0,bv false])] zB ?_
   exact zBG (ds:=[.ag [iv a2.Code,iv a3,nv,nv,iv 0,iv 0,iv 0,bv false]]) (ds':=[.ag [iv a2.Code,iv a3,so 8 (Pack.enc true) ([]:List Pack),sl 2 (File.enc false) ([]:List File),iv 0,iv 0,iv 0,bv false]]) (.cons (.ag (.keep rfl (.keep rfl (.nilsl true 8 (.nilsl false 2 (.keep rfl (.keep rfl (.keep rfl (.keep rfl (.nil)))))))))) (.nil) (by decide)) rfl
  ·refine zA (fun x8 h9=>?_)
   refine J_g 14 [] [(6,pp 2)] [(2,.box [iv a2.Code,iv a3,rr 3 x8,sl 2 (File.enc false) a2.zC.Files,iv a2.zC.Budget,iv a2.zC.Writes,iv a2.zC.Stop,bv a2.zC.Down]),(3,rE 8 (Pack.enc true) x8)] (zK 5 (zAQ («as»:=[sl 8 (Pack.enc false) a1.Catalog]) [(.tmp 30)] [24] false [] [] (.cons (.same rfl) (.nil)) (wS.ok a1.Catalog) h9 (.own 3)) zB) ?_
   exact zBG (ds:=[.ag [iv a2.Code,iv a3,rr 3 x8,sl 2 (File.enc false) a2.zC.Files,iv a2.zC.Budget,iv a2.zC.Writes,iv a2.zC.Stop,bv a2.zC.Down]]) (ds':=[.ag [iv a2.Code,iv a3,so 8 (Pack.enc true) x8,sl 2 (File.enc false) a2.zC.Files,iv a2.zC.Budget,iv a2.zC.Writes,iv a2.zC.Stop,bv a2.zC.Down]]) (.cons (.ag (.keep rfl (.keep rfl (.move (.tail _ (.head _)) (List.length_map _) (by decide) (.keep rfl (.keep rfl (.keep rfl (.keep rfl (.keep rfl (.nil)))))))))) (.nil) (by decide)) rfl
 ·refine kI (fun h4=>?_) (fun h4=>?_)
  ·refine kI (fun h5=>?_) (fun h5=>?_)
   ·refine J_d 12 [] [21] [(21,bv (a2.Code !=9))] [] [] (vV 3 [(9,bv (a2.Code !=0))] [] h4 (vV 10 [(16,bv ((a2.zC.Files.length:Int)==0))] [] h5 zB)) ?_
    exact vX (J_j (jv6 (a2.Code !=9))) rfl
   ·refine J_d 12 [] [21] [(21,bv false)] [] [] (vV 3 [(9,bv (a2.Code !=0))] [] h4 (vV 10 [(16,bv ((a2.zC.Files.length:Int)==0))] [] h5 zB)) ?_
    exact vX (J_j (jv6 false)) rfl
  ·refine J_d 12 [] [21] [(21,bv false)] [] [] (vV 3 [(9,bv (a2.Code !=0))] [] h4 zB) ?_
   exact vX (J_j (jv6 false)) rfl
theorem zAq.ok (a1:System) (a2:zZ) (a3:Int):Ok Tryz.prog 48 [.ag (System.enc false a1),.ag [iv a2.Code,rr 0 a2.zC.Files,iv a2.zC.Budget,iv a2.zC.Writes,iv a2.zC.Stop,bv a2.zC.Down],iv a3] [rE 2 (File.enc false) a2.zC.Files] ((zAq a1 a2 a3).map fun r=>(.ag [iv r.Code,iv r.Choices,so 8 (Pack.enc true) r.System.Catalog,so 2 (File.enc false) r.System.zC.Files,iv r.System.zC.Budget,iv r.System.zC.Writes,iv r.System.zC.Stop,bv r.System.zC.Down],[])):=by
 refine zL c48 Tryz.f48 1 36 (fun q=>?_)
 unfold zAq
 refine J_d 2 [(0,1),(1,2),(2,3)] [0,1,3,4,6] [(3,pp 1),(4,pp 2),(6,pp 3)] [1,2,3] [(1,.box (System.enc false a1)),(2,.box [iv a2.Code,rr 0 a2.zC.Files,iv a2.zC.Budget,iv a2.zC.Writes,iv a2.zC.Stop,bv a2.zC.Down]),(3,.box [iv 0,iv 0,nv,nv,iv 0,iv 0,iv 0,bv false])] zB ?_
 refine zAZ (atI c48 13) (fun v6:Bool=>St.mk' [(2,iv a3),(3,pp 1),(4,pp 2),(6,pp 3),(21,bv v6)] [(0,rE 2 (File.enc false) a2.zC.Files),(1,.box (System.enc false a1)),(2,.box [iv a2.Code,rr 0 a2.zC.Files,iv a2.zC.Budget,iv a2.zC.Writes,iv a2.zC.Stop,bv a2.zC.Down]),(3,.box [iv 0,iv 0,nv,nv,iv 0,iv 0,iv 0,bv false])]) (fun v6=>?_) (fun jv6=>?_)
 ·refine zG 21 (fun h7=>?_) (fun h7=>?_)
  ·refine J_g 52 [] [(6,pp 3)] [(0,rE 2 (File.enc false) a2.zC.Files),(3,.box [iv a2.Code,iv a3,nv,nv,iv 0,iv 0,iv 0,bv false])] zB ?_
   exact zBG (ds:=[.ag [iv a2.Code,iv a3,nv,nv,iv 0,iv 0,iv 0,bv false]]) (ds':=[.ag [iv a2.Code,iv a3,so 8 (Pack.enc true) ([]:List Pack),so 2 (File.enc false) ([]:List File),iv 0,iv 0,iv 0,bv false]]) (.cons (.ag (.keep rfl (.keep rfl (.nilsl true 8 (.nilsl true 2 (.keep rfl (.keep rfl (.keep rfl (.keep rfl (.nil)))))))))) (.nil) (by decide)) rfl
  ·refine zA (fun x8 h9=>?_)
   refine J_g 14 [] [(6,pp 3)] [(0,rE 2 (File.enc false) a2.zC.Files),(3,.box [iv a2.Code,iv a3,rr 4 x8,rr 0 a2.zC.Files,iv a2.zC.Budget,iv a2.zC.Writes,iv a2.zC.Stop,bv a2.zC.Down]),(4,rE 8 (Pack.enc true) x8)] (zK 5 (zAQ («as»:=[sl 8 (Pack.enc false) a1.Catalog]) [(.tmp 30)] [24] false [] [] (.cons (.same rfl) (.nil)) (wS.ok a1.Catalog) h9 (.own 4)) zB) ?_
   exact zBG (ds:=[.ag [iv a2.Code,iv a3,rr 4 x8,rr 0 a2.zC.Files,iv a2.zC.Budget,iv a2.zC.Writes,iv a2.zC.Stop,bv a2.zC.Down]]) (ds':=[.ag [iv a2.Code,iv a3,so 8 (Pack.enc true) x8,so 2 (File.enc false) a2.zC.Files,iv a2.zC.Budget,iv a2.zC.Writes,iv a2.zC.Stop,bv a2.zC.Down]]) (.cons (.ag (.keep rfl (.keep rfl (.move (.tail _ (.tail _ (.head _))) (List.length_map _) (by decide) (.move (.head _) (List.length_map _) (by decide) (.keep rfl (.keep rfl (.keep rfl (.keep rfl (.nil)))))))))) (.nil) (by decide)) rfl
 ·refine kI (fun h4=>?_) (fun h4=>?_)
  ·refine kI (fun h5=>?_) (fun h5=>?_)
   ·refine J_d 12 [] [21] [(21,bv (a2.Code !=9))] [] [] (vV 3 [(9,bv (a2.Code !=0))] [] h4 (vV 10 [(16,bv ((a2.zC.Files.length:Int)==0))] [] h5 zB)) ?_
    exact vX (J_j (jv6 (a2.Code !=9))) rfl
   ·refine J_d 12 [] [21] [(21,bv false)] [] [] (vV 3 [(9,bv (a2.Code !=0))] [] h4 (vV 10 [(16,bv ((a2.zC.Files.length:Int)==0))] [] h5 zB)) ?_
    exact vX (J_j (jv6 false)) rfl
  ·refine J_d 12 [] [21] [(21,bv false)] [] [] (vV 3 [(9,bv (a2.Code !=0))] [] h4 zB) ?_
   exact vX (J_j (jv6 false)) rfl
noncomputable def c10:Code:=(Tryz.f10.body).getD .skip
theorem wU.ok (a1:(List Pack)) (a2:Int):Ok Tryz.prog 10 [sl 8 (Pack.enc false) a1,iv a2] [] ((wU a1 a2).map fun r=>(.ag [iv r.Code,iv r.Choices,so 8 (Pack.enc true) r.System.Catalog,so 2 (File.enc false) r.System.zC.Files,iv r.System.zC.Budget,iv r.System.zC.Writes,iv r.System.zC.Stop,bv r.System.zC.Down],[])):=by
 refine zL c10 Tryz.f10 0 25 (fun q=>?_)
 unfold wU
 refine J_d 2 [(0,0)] [4] [(4,pp 0)] [0] [(0,.box [iv 0,iv 0,nv,nv,iv 0,iv 0,iv 0,bv false])] zB ?_
 refine zA (fun x3 h4=>?_)
 refine J_g 12 [] [(0,sl 8 (Pack.enc false) a1),(1,iv a2),(4,pp 0),(5,iv x3)] [(0,.box [iv 0,iv 0,nv,nv,iv 0,iv 0,iv 0,bv false])] (zK 1 (xP [(.tmp 7)] [24] (xY.ok a1) h4) zB) ?_
 refine J_d 26 [] [10] [(10,bv (x3 !=0))] [] [] zB ?_
 refine zG 10 (fun h5=>?_) (fun h5=>?_)
 ·refine J_g 108 [] [(4,pp 0)] [(0,.box [iv x3,iv 0,nv,nv,iv 0,iv 0,iv 0,bv false])] zB ?_
  exact zBG (ds:=[.ag [iv x3,iv 0,nv,nv,iv 0,iv 0,iv 0,bv false]]) (ds':=[.ag [iv x3,iv 0,so 8 (Pack.enc true) ([]:List Pack),so 2 (File.enc false) ([]:List File),iv 0,iv 0,iv 0,bv false]]) (.cons (.ag (.keep rfl (.keep rfl (.nilsl true 8 (.nilsl true 2 (.keep rfl (.keep rfl (.keep rfl (.keep rfl (.nil)))))))))) (.nil) (by decide)) rfl
 ·refine zA (fun x6 h7=>?_)
  refine J_g 14 [(2,2)] [(0,sl 8 (Pack.enc false) a1),(4,pp 0),(6,pp 2)] [(0,.box [iv 0,iv 0,nv,nv,iv 0,iv 0,iv 0,bv false]),(1,rE 2 (File.enc false) x6.zC.Files),(2,.box [iv x6.Code,rr 1 x6.zC.Files,iv x6.zC.Budget,iv x6.zC.Writes,iv x6.zC.Stop,bv x6.zC.Down])] (zK 1 (zAQ («as»:=[iv a2]) [(.tmp 13)] [2] false [] [] (.cons (.same rfl) (.nil)) (jV.ok a2) h7 (.ag (.cons (.same rfl rfl) (.cons (.own 1) (.cons (.same rfl rfl) (.cons (.same rfl rfl) (.cons (.same rfl rfl) (.cons (.same rfl rfl) (.nil))))))))) zB) ?_
  refine J_d 60 [] [17] [(17,bv (x6.Code !=0))] [] [] zB ?_
  refine zG 17 (fun h8=>?_) (fun h8=>?_)
  ·refine J_g 244 [] [(4,pp 0)] [(0,.box [iv x6.Code,iv 0,nv,nv,iv 0,iv 0,iv 0,bv false])] zB ?_
   exact zBG (ds:=[.ag [iv x6.Code,iv 0,nv,nv,iv 0,iv 0,iv 0,bv false]]) (ds':=[.ag [iv x6.Code,iv 0,so 8 (Pack.enc true) ([]:List Pack),so 2 (File.enc false) ([]:List File),iv 0,iv 0,iv 0,bv false]]) (.cons (.ag (.keep rfl (.keep rfl (.nilsl true 8 (.nilsl true 2 (.keep rfl (.keep rfl (.keep rfl (.keep rfl (.nil)))))))))) (.nil) (by decide)) rfl
  ·refine zA (fun x9 h10=>?_)
   refine J_g 62 [] [(4,pp 0)] [(0,.box [iv x9.Code,iv x9.Choices,rr 3 x9.System.Catalog,rr 4 x9.System.zC.Files,iv x9.System.zC.Budget,iv x9.System.zC.Writes,iv x9.System.zC.Stop,bv x9.System.zC.Down]),(3,rE 8 (Pack.enc true) x9.System.Catalog),(4,rE 2 (File.enc false) x9.System.zC.Files)] (zK 3 (zAQ («as»:=[.ag [sl 8 (Pack.enc false) a1,nv,iv 0,iv 0,iv 0,bv false],.ag [iv x6.Code,rr 1 x6.zC.Files,iv x6.zC.Budget,iv x6.zC.Writes,iv x6.zC.Stop,bv x6.zC.Down],iv 0]) [(.tmp 22),(.tmp 23),(.const (.int .i64 0))] [29,62,2] false [(1,rE 2 (File.enc false) x6.zC.Files)] [1] (.cons (.ag (.cons (.same rfl) (.cons (.nil false 2) (.cons (.same rfl) (.cons (.same rfl) (.cons (.same rfl) (.cons (.same rfl) (.nil)))))))) (.cons (.ag (.cons (.same rfl) (.cons (.rf rfl) (.cons (.same rfl) (.cons (.same rfl) (.cons (.same rfl) (.cons (.same rfl) (.nil)))))))) (.cons (.same rfl) (.nil)))) (zAq.ok ({Catalog:=a1,zC:=({Files:=([]:List File),Budget:=0,Writes:=0,Stop:=0,Down:=false}:zC)}:System) x6 0) h10 (.ag (.cons (.same rfl rfl) (.cons (.same rfl rfl) (.cons (.own 3) (.cons (.own 4) (.cons (.same rfl rfl) (.cons (.same rfl rfl) (.cons (.same rfl rfl) (.cons (.same rfl rfl) (.nil))))))))))) zB) ?_
   exact zBG (ds:=[.ag [iv x9.Code,iv x9.Choices,rr 3 x9.System.Catalog,rr 4 x9.System.zC.Files,iv x9.System.zC.Budget,iv x9.System.zC.Writes,iv x9.System.zC.Stop,bv x9.System.zC.Down]]) (ds':=[.ag [iv x9.Code,iv x9.Choices,so 8 (Pack.enc true) x9.System.Catalog,so 2 (File.enc false) x9.System.zC.Files,iv x9.System.zC.Budget,iv x9.System.zC.Writes,iv x9.System.zC.Stop,bv x9.System.zC.Down]]) (.cons (.ag (.keep rfl (.keep rfl (.move (.tail _ (.head _)) (List.length_map _) (by decide) (.move (.tail _ (.tail _ (.head _))) (List.length_map _) (by decide) (.keep rfl (.keep rfl (.keep rfl (.keep rfl (.nil)))))))))) (.nil) (by decide)) rfl
noncomputable def zKb:Code:=(Tryz.f224.body).getD .skip
theorem vP.ok (a1:Int):Ok Tryz.prog 224 [uv a1] [] ((vP a1).map fun r=>(bv r,[])):=by
 refine zL zKb Tryz.f224 0 21 (fun q=>?_)
 unfold vP
 refine J_g 2 [] [(0,uv a1)] [] zB ?_
 refine kI (fun h2=>?_) (fun h2=>?_)
 ·refine kI (fun h3=>?_) (fun h3=>?_)
  ·refine J_g 6 [] [(2,bv true)] [] (vV 2 [(4,bv (decide (a1≥97)))] [] h2 (vV 6 [(8,bv (decide (a1≤122)))] [] h3 (zJw 9 (zJ2 (i:=9) (g:=6) (t:=9) (b:=false) (v:=(.bool true)) (.inl rfl) (by kernel_rfl) (by kernel_rfl)) (zJw 10 (zJ2 (i:=10) (g:=9) (t:=12) (b:=true) (v:=undef) (.inr rfl) (by kernel_rfl) (by kernel_rfl)) (zJw 11 (zJ2 (i:=11) (g:=9) (t:=12) (b:=true) (v:=undef) (.inr rfl) (by kernel_rfl) (by kernel_rfl)) zB))))) ?_
   exact zU rfl
  ·refine kI (fun h4=>?_) (fun h4=>?_)
   ·refine kI (fun h5=>?_) (fun h5=>?_)
    ·refine J_g 6 [] [(2,bv true)] [] (vV 2 [(4,bv (decide (a1≥97)))] [] h2 (vV 6 [(8,bv (decide (a1≤122)))] [] h3 (zFR 9 6 9 false [(11,bv (decide (a1≥48)))] [] h4 (vV 14 [(16,bv (decide (a1≤57)))] [] h5 zB)))) ?_
     exact zU rfl
    ·refine J_g 6 [] [(2,bv (a1==95))] [] (vV 2 [(4,bv (decide (a1≥97)))] [] h2 (vV 6 [(8,bv (decide (a1≤122)))] [] h3 (zFR 9 6 9 false [(11,bv (decide (a1≥48)))] [] h4 (vV 14 [(16,bv (decide (a1≤57)))] [] h5 zB)))) ?_
     exact zU rfl
   ·refine J_g 6 [] [(2,bv (a1==95))] [] (vV 2 [(4,bv (decide (a1≥97)))] [] h2 (vV 6 [(8,bv (decide (a1≤122)))] [] h3 (zFR 9 6 9 false [(11,bv (decide (a1≥48)))] [] h4 zB))) ?_
    exact zU rfl
 ·refine kI (fun h6=>?_) (fun h6=>?_)
  ·refine kI (fun h7=>?_) (fun h7=>?_)
   ·refine J_g 6 [] [(2,bv true)] [] (vV 2 [(4,bv (decide (a1≥97)))] [] h2 (zFR 9 6 9 false [(11,bv (decide (a1≥48)))] [] h6 (vV 14 [(16,bv (decide (a1≤57)))] [] h7 zB))) ?_
    exact zU rfl
   ·refine J_g 6 [] [(2,bv (a1==95))] [] (vV 2 [(4,bv (decide (a1≥97)))] [] h2 (zFR 9 6 9 false [(11,bv (decide (a1≥48)))] [] h6 (vV 14 [(16,bv (decide (a1≤57)))] [] h7 zB))) ?_
    exact zU rfl
  ·refine J_g 6 [] [(2,bv (a1==95))] [] (vV 2 [(4,bv (decide (a1≥97)))] [] h2 (zFR 9 6 9 false [(11,bv (decide (a1≥48)))] [] h6 zB)) ?_
   exact zU rfl
noncomputable def zIu:Code:=(Tryz.f189.body).getD .skip
theorem wV.ok (a1:ByteArray) (q:Wd) (kn:Unit→Option (D×List Ent)) (hk:∀v:Unit,J (q.g Tryz.prog 189 0 33) zIu (atI zIu 15) (St.mk' [] []) (some v) kn):
  ∀s17:Int,J (q.g Tryz.prog 189 0 33) zIu (atI zIu 116) (St.mk' [(0,sv a1),(23,iv (a1.size:Int)),(24,iv s17)] []) (wV a1 s17) (Fl.go (fun r:Int=>some (iv r,[])) kn):=by
 refine zAV (fun g ih s17=>?_)
 unfold kM
 refine J_d 232 [] [25] [(25,bv (decide (s17< (a1.size:Int))))] [] [] zB ?_
 refine zG 25 (fun h18=>?_) (fun h18=>?_)
 ·refine J_d 3736 [] [3,25] [(3,iv s17)] [] [] zB ?_
  refine zA (fun x19 h20=>?_)
  refine zA (fun x21 h22=>?_)
  refine J_d 7474 [] [3,31] [(31,bv (!x21))] [] [] (zK 2 (zIw (kk:=.i64) 9 (.tmp 27) (.tmp 28) h20) (zK 3 (xP [(.tmp 29)] [5] (vP.ok x19) h22) zB)) ?_
  refine zG 31 (fun h23=>?_) (fun h23=>?_)
  ·refine J_g 29900 [] [(2,iv 5)] [] zB ?_
   exact zU rfl
  ·refine J_d 935 [] [24,31] [(24,iv (w64 (s17+1)))] [] [] zB ?_
   exact J_q (J_b (ih (w64 (s17+1)))) rfl
 ·exact vX (hk ()) rfl
theorem yY.ok (a1:ByteArray):Ok Tryz.prog 189 [sv a1] [] ((yY a1).map fun r=>(iv r,[])):=by
 refine zL zIu Tryz.f189 0 33 (fun q=>?_)
 unfold yY
 refine J_g 2 [] [(0,sv a1)] [] zB ?_
 refine zAZ (atI zIu 13) (fun v9:Bool=>St.mk' [(0,sv a1),(21,bv v9)] []) (fun v9=>?_) (fun jv9=>?_)
 ·refine zG 21 (fun h10=>?_) (fun h10=>?_)
  ·refine J_g 52 [] [(2,iv 5)] [] zB ?_
   exact zU rfl
  ·refine J_g 28 [] [(0,sv a1),(23,iv (a1.size:Int)),(24,iv 0)] [] zB ?_
   refine zAt (K0:=(fun r:Int=>some (iv r,[]))) (fun _=>rfl) (wV.ok a1 q _ (fun v24=>J_j ?_) 0)
   refine J_g 30 [] [(2,iv 0)] [] zB ?_
   exact zU rfl
 ·refine kI (fun h2=>?_) (fun h2=>?_)
  ·refine J_g 12 [] [(0,sv a1),(21,bv true)] [] (vV 3 [(6,bv (decide ((a1.size:Int)<1)))] [] h2 zB) ?_
   exact vX (J_j (jv9 true)) rfl
  ·refine kI (fun h3=>?_) (fun h3=>?_)
   ·refine J_g 12 [] [(0,sv a1),(21,bv true)] [] (vV 3 [(6,bv (decide ((a1.size:Int)<1)))] [] h2 (vV 8 [(11,bv (decide ((a1.size:Int)>12)))] [] h3 zB)) ?_
    exact vX (J_j (jv9 true)) rfl
   ·refine zA (fun x4 h5=>?_)
    refine kI (fun h6=>?_) (fun h6=>?_)
    ·refine J_g 12 [] [(0,sv a1),(21,bv true)] [] (vV 3 [(6,bv (decide ((a1.size:Int)<1)))] [] h2 (vV 8 [(11,bv (decide ((a1.size:Int)>12)))] [] h3 (zCk 10 8 12 false (zIw (kk:=.i64) 9 (.tmp 13) (.const (.int .i64 0)) h5) (vV 13 [(16,bv (decide (x4<97)))] [] h6 zB)))) ?_
     exact vX (J_j (jv9 true)) rfl
    ·refine zA (fun x7 h8=>?_)
     refine J_g 12 [] [(0,sv a1),(21,bv (decide (x7>122)))] [] (vV 3 [(6,bv (decide ((a1.size:Int)<1)))] [] h2 (vV 8 [(11,bv (decide ((a1.size:Int)>12)))] [] h3 (zCk 10 8 12 false (zIw (kk:=.i64) 9 (.tmp 13) (.const (.int .i64 0)) h5) (vV 13 [(16,bv (decide (x4<97)))] [] h6 (zCk 15 13 17 false (zIw (kk:=.i64) 9 (.tmp 18) (.const (.int .i64 0)) h8) zB))))) ?_
     exact vX (J_j (jv9 (decide (x7>122)))) rfl
noncomputable def zJP:Code:=(Tryz.f114.body).getD .skip
theorem yN.ok (a1:Int) (a2:Int) (a3:Int):Ok Tryz.prog 114 [iv a1,iv a2,iv a3] [] ((yN a1 a2 a3).map fun r=>(bv r,[])):=by
 refine zL zJP Tryz.f114 0 15 (fun q=>?_)
 unfold yN
 refine J_d 2 [] [] [] [] [] zB ?_
 refine kI (fun h4=>?_) (fun h4=>?_)
 ·refine J_g 6 [] [(6,bv (decide (a1≤a3)))] [] (vV 3 [(9,bv (decide (a2≤a1)))] [] h4 zB) ?_
  exact zU rfl
 ·refine J_g 6 [] [(6,bv false)] [] (vV 3 [(9,bv (decide (a2≤a1)))] [] h4 zB) ?_
  exact zU rfl
noncomputable def zJE:Code:=(Tryz.f190.body).getD .skip
theorem yJ.ok (a1:Version):Ok Tryz.prog 190 [.ag (Version.enc a1)] [] ((yJ a1).map fun r=>(iv r,[])):=by
 refine zL zJE Tryz.f190 0 19 (fun q=>?_)
 unfold yJ
 refine J_g 2 [(0,0)] [(1,pp 0)] [(0,.box (Version.enc a1))] zB ?_
 refine zA (fun x2 h3=>?_)
 refine zAZ (atI zJE 13) (fun v10:Bool=>St.mk' [(18,bv v10)] []) (fun v10=>?_) (fun jv10=>?_)
 ·refine zG 18 (fun h11=>?_) (fun h11=>?_)
  ·refine J_g 52 [] [(2,iv 3)] [] zB ?_
   exact zU rfl
  ·refine J_g 14 [] [(2,iv 0)] [] zB ?_
   exact zU rfl
 ·refine kI (fun h4=>?_) (fun h4=>?_)
  ·refine J_g 12 [] [(18,bv true)] [] (zK 2 (xP [(.tmp 4),(.const (.int .i64 0)),(.const (.int .i64 999))] [2,2,2] (yN.ok a1.A 0 999) h3) (vV 4 [(6,bv (!x2))] [] h4 zB)) ?_
   exact vX (J_j (jv10 true)) rfl
  ·refine zA (fun x5 h6=>?_)
   refine kI (fun h7=>?_) (fun h7=>?_)
   ·refine J_g 12 [] [(18,bv true)] [] (zK 2 (xP [(.tmp 4),(.const (.int .i64 0)),(.const (.int .i64 999))] [2,2,2] (yN.ok a1.A 0 999) h3) (vV 4 [(6,bv (!x2))] [] h4 (zCk 7 4 7 false (xP [(.tmp 9),(.const (.int .i64 0)),(.const (.int .i64 999))] [2,2,2] (yN.ok a1.B 0 999) h6) (vV 10 [(12,bv (!x5))] [] h7 zB)))) ?_
    exact vX (J_j (jv10 true)) rfl
   ·refine zA (fun x8 h9=>?_)
    refine J_g 12 [] [(18,bv (!x8))] [] (zK 2 (xP [(.tmp 4),(.const (.int .i64 0)),(.const (.int .i64 999))] [2,2,2] (yN.ok a1.A 0 999) h3) (vV 4 [(6,bv (!x2))] [] h4 (zCk 7 4 7 false (xP [(.tmp 9),(.const (.int .i64 0)),(.const (.int .i64 999))] [2,2,2] (yN.ok a1.B 0 999) h6) (vV 10 [(12,bv (!x5))] [] h7 (zCk 13 10 13 false (xP [(.tmp 15),(.const (.int .i64 0)),(.const (.int .i64 999))] [2,2,2] (yN.ok a1.C 0 999) h9) zB))))) ?_
    exact vX (J_j (jv10 (!x8))) rfl
noncomputable def c67:Code:=(Tryz.f67.body).getD .skip
theorem jF.ok (a1:(List Int)) (q:Wd) (kn:Unit→Option (D×List Ent)) (hk:∀v:Unit,J (q.g Tryz.prog 67 0 15) c67 (atI c67 7) (St.mk' [] []) (some v) kn):
  ∀s6:Int,J (q.g Tryz.prog 67 0 15) c67 (atI c67 52) (St.mk' [(5,sl 1 zEC a1),(6,iv (a1.length:Int)),(7,iv s6)] []) (jF a1 s6) (Fl.go (fun r:Int=>some (iv r,[])) kn):=by
 refine zAV (fun g ih s6=>?_)
 unfold uU
 refine J_d 104 [] [8] [(8,bv (decide (s6< (a1.length:Int))))] [] [] zB ?_
 refine zG 8 (fun h7=>?_) (fun h7=>?_)
 ·refine zA (fun x8 h9=>?_)
  refine J_g 1688 [] [(4,iv x8),(5,sl 1 zEC a1),(6,iv (a1.length:Int)),(7,iv s6)] [] (zK 0 (kQ (kk:=.i64) 42 2 1 zEC (.tmp 5) (.tmp 7) h9) zB) ?_
  refine J_d 3378 [] [12] [(12,bv (x8 !=0))] [] [] zB ?_
  refine zG 12 (fun h10=>?_) (fun h10=>?_)
  ·refine J_g 13516 [] [(2,iv x8)] [] zB ?_
   exact zU rfl
  ·refine J_d 423 [] [4,7,12] [(7,iv (w64 (s6+1)))] [] [] zB ?_
   exact J_q (J_b (ih (w64 (s6+1)))) rfl
 ·exact vX (hk ()) rfl
theorem uX.ok (a1:(List Int)):Ok Tryz.prog 67 [sl 1 zEC a1] [] ((uX a1).map fun r=>(iv r,[])):=by
 refine zL c67 Tryz.f67 0 15 (fun q=>?_)
 unfold uX
 refine J_g 2 [] [(0,sl 1 zEC a1)] [] zB ?_
 refine J_g 12 [] [(5,sl 1 zEC a1),(6,iv (a1.length:Int)),(7,iv 0)] [] zB ?_
 refine zAt (K0:=(fun r:Int=>some (iv r,[]))) (fun _=>rfl) (jF.ok a1 q _ (fun v11=>J_j ?_) 0)
 refine J_g 14 [] [(2,iv 0)] [] zB ?_
 exact zU rfl
noncomputable def zKp:Code:=(Tryz.f192.body).getD .skip
theorem vW.ok (a1:(List Term)):Ok Tryz.prog 192 [sl 7 Term.enc a1] [] ((vW a1).map fun r=>(bv r,[])):=by
 refine zL zKp Tryz.f192 0 6 (fun q=>?_)
 unfold vW
 refine J_g 2 [] [(0,sl 7 Term.enc a1)] [] zB ?_
 refine J_g 6 [] [(2,bv (decide ((a1.length:Int)>4)))] [] zB ?_
 exact zU rfl
noncomputable def zIR:Code:=(Tryz.f259.body).getD .skip
theorem zQ.ok (a1:(List (List Term))) (q:Wd) (kn:Unit→Option (D×List Ent)) (hk:∀v:Unit,J (q.g Tryz.prog 259 0 19) zIR (atI zIR 7) (St.mk' [] []) (some v) kn):
  ∀s8:Int,J (q.g Tryz.prog 259 0 19) zIR (atI zIR 52) (St.mk' [(0,sl 1 (eSl false 7 Term.enc) a1),(1,.fn 192 []),(7,iv (a1.length:Int)),(8,iv s8)] []) (zQ a1 s8) (Fl.go (fun r:Int=>some (iv r,[])) kn):=by
 refine zAV (fun g ih s8=>?_)
 unfold zP
 refine J_d 104 [] [9] [(9,bv (decide (s8< (a1.length:Int))))] [] [] zB ?_
 refine zG 9 (fun h9=>?_) (fun h9=>?_)
 ·refine J_d 1688 [] [5,9] [(5,iv s8)] [] [] zB ?_
  refine zA (fun x10 h11=>?_)
  refine zA (fun x12 h13=>?_)
  refine J_d 3378 [] [16] [(16,bv x12)] [] [] (zK 3 (kQ (kk:=.i64) 87 53 1 (eSl false 7 Term.enc) (.tmp 12) (.tmp 13) h11) (zK 5 (zHV («as»:=[sl 7 Term.enc x10]) (caps:=[]) 11 [(.tmp 15)] [53] (vW.ok x10) h13) zB)) ?_
  refine zG 16 (fun h14=>?_) (fun h14=>?_)
  ·refine J_g 13516 [] [(4,iv s8)] [] zB ?_
   exact zU rfl
  ·refine J_d 423 [] [5,8,16] [(8,iv (w64 (s8+1)))] [] [] zB ?_
   exact J_q (J_b (ih (w64 (s8+1)))) rfl
 ·exact vX (hk ()) rfl
theorem zN.ok (a1:(List (List Term))):Ok Tryz.prog 259 [sl 1 (eSl false 7 Term.enc) a1,.fn 192 []] [] ((zN a1).map fun r=>(iv r,[])):=by
 refine zL zIR Tryz.f259 0 19 (fun q=>?_)
 unfold zN
 refine J_g 2 [] [(0,sl 1 (eSl false 7 Term.enc) a1),(1,.fn 192 [])] [] zB ?_
 refine J_d 12 [] [7,8] [(7,iv (a1.length:Int)),(8,iv 0)] [] [] zB ?_
 refine zAt (K0:=(fun r:Int=>some (iv r,[]))) (fun _=>rfl) (zQ.ok a1 q _ (fun v15=>J_j ?_) 0)
 refine J_g 14 [] [(4,iv (-1))] [] zB ?_
 exact zU rfl
noncomputable def zKo:Code:=(Tryz.f191.body).getD .skip
theorem zI.ok (a1:(List (List Term))):Ok Tryz.prog 191 [sl 1 (eSl false 7 Term.enc) a1,.fn 192 []] [] ((zI a1).map fun r=>(bv r,[])):=by
 refine zL zKo Tryz.f191 0 9 (fun q=>?_)
 unfold zI
 refine J_d 2 [] [] [] [] [] zB ?_
 refine zA (fun x2 h3=>?_)
 refine J_g 6 [] [(4,bv (decide (x2≥0)))] [] (zK 2 (zAQ («as»:=[sl 1 (eSl false 7 Term.enc) a1,.fn 192 []]) [(.tmp 5),(.tmp 6)] [87,186] false [] [] (.cons (.same rfl) (.cons (.fn (.nil)) (.nil))) (zN.ok a1) h3 (.same rfl rfl)) zB) ?_
 exact zU rfl
noncomputable def zI7:Code:=(Tryz.f254.body).getD .skip
theorem xM.ok (a1:(List ByteArray)) (a2:ByteArray) (q:Wd) (kn:Unit→Option (D×List Ent)) (hk:∀v:Unit,J (q.g Tryz.prog 254 0 19) zI7 (atI zI7 7) (St.mk' [] []) (some v) kn):
  ∀s7:Int,J (q.g Tryz.prog 254 0 19) zI7 (atI zI7 52) (St.mk' [(0,sl 1 eStr a1),(1,sv a2),(7,iv (a1.length:Int)),(8,iv s7)] []) (xM a1 a2 s7) (Fl.go (fun r:Int=>some (iv r,[])) kn):=by
 refine zAV (fun g ih s7=>?_)
 unfold xC
 refine J_d 104 [] [9] [(9,bv (decide (s7< (a1.length:Int))))] [] [] zB ?_
 refine zG 9 (fun h8=>?_) (fun h8=>?_)
 ·refine J_d 1688 [] [5,9] [(5,iv s7)] [] [] zB ?_
  refine zA (fun x9 h10=>?_)
  refine J_d 3378 [] [16] [(16,bv (seq a2 x9))] [] [] (zK 3 (kQ (kk:=.i64) 70 9 1 eStr (.tmp 12) (.tmp 13) h10) zB) ?_
  refine zG 16 (fun h11=>?_) (fun h11=>?_)
  ·refine J_g 13516 [] [(4,iv s7)] [] zB ?_
   exact zU rfl
  ·refine J_d 423 [] [5,8,16] [(8,iv (w64 (s7+1)))] [] [] zB ?_
   exact J_q (J_b (ih (w64 (s7+1)))) rfl
 ·exact vX (hk ()) rfl
theorem xQ.ok (a1:(List ByteArray)) (a2:ByteArray):Ok Tryz.prog 254 [sl 1 eStr a1,sv a2] [] ((xQ a1 a2).map fun r=>(iv r,[])):=by
 refine zL zI7 Tryz.f254 0 19 (fun q=>?_)
 unfold xQ
 refine J_g 2 [] [(0,sl 1 eStr a1),(1,sv a2)] [] zB ?_
 refine J_d 12 [] [7,8] [(7,iv (a1.length:Int)),(8,iv 0)] [] [] zB ?_
 refine zAt (K0:=(fun r:Int=>some (iv r,[]))) (fun _=>rfl) (xM.ok a1 a2 q _ (fun v12=>J_j ?_) 0)
 refine J_g 14 [] [(4,iv (-1))] [] zB ?_
 exact zU rfl
noncomputable def c182:Code:=(Tryz.f182.body).getD .skip
theorem yL.ok (a1:(List ByteArray)) (a2:ByteArray):Ok Tryz.prog 182 [sl 1 eStr a1,sv a2] [] ((yL a1 a2).map fun r=>(bv r,[])):=by
 refine zL c182 Tryz.f182 0 9 (fun q=>?_)
 unfold yL
 refine J_d 2 [] [] [] [] [] zB ?_
 refine zA (fun x3 h4=>?_)
 refine J_g 6 [] [(4,bv (decide (x3≥0)))] [] (zK 2 (xP [(.tmp 5),(.tmp 6)] [70,9] (xQ.ok a1 a2) h4) zB) ?_
 exact zU rfl
noncomputable def zKk:Code:=(Tryz.f276.body).getD .skip
theorem zBr.ok:Ok Tryz.prog 276 [] [] ((zBr).map fun r=>(.ag (Version.enc r),[])):=by
 refine zL zKk Tryz.f276 0 2 (fun q=>?_)
 unfold zBr
 refine J_g 2 [(0,0)] [(0,pp 0)] [(0,.box [iv 0,iv 0,iv 0])] zB ?_
 refine J_g 6 [] [(0,pp 0)] [(0,.box [iv 1000,iv 0,iv 0])] zB ?_
 exact zU rfl
noncomputable def zJS:Code:=(Tryz.f336.body).getD .skip
theorem wD.ok (a1:Int):Ok Tryz.prog 336 [iv a1] [] ((wD a1).map fun r=>(bv r,[])):=by
 refine zL zJS Tryz.f336 0 6 (fun q=>?_)
 unfold wD
 refine J_g 2 [] [(0,iv a1)] [] zB ?_
 refine J_g 6 [] [(2,bv (a1 !=a1))] [] zB ?_
 exact zU rfl
noncomputable def zJJ:Code:=(Tryz.f318.body).getD .skip
theorem yI.ok (a1:Int) (a2:Int):Ok Tryz.prog 318 [iv a1,iv a2] [] ((yI a1 a2).map fun r=>(iv r,[])):=by
 refine zL zJJ Tryz.f318 0 20 (fun q=>?_)
 unfold yI
 refine J_d 2 [] [] [] [] [] zB ?_
 refine zA (fun x3 h4=>?_)
 refine J_d 6 [] [5] [(5,bv x3)] [] [] (zK 1 (xP [(.tmp 7)] [2] (wD.ok a1) h4) zB) ?_
 refine zA (fun x5 h6=>?_)
 refine J_g 14 [] [(0,iv a1),(1,iv a2),(5,bv x3),(6,bv x5)] [] (zK 1 (xP [(.tmp 9)] [2] (wD.ok a2) h6) zB) ?_
 refine J_d 60 [] [5,11] [(11,bv x3)] [] [] zB ?_
 refine zG 11 (fun h7=>?_) (fun h7=>?_)
 ·refine J_g 488 [] [(12,bv x5)] [] zB ?_
  refine zG 12 (fun h8=>?_) (fun h8=>?_)
  ·refine J_g 1956 [] [(4,iv 0)] [] zB ?_
   exact zU rfl
  ·refine J_g 490 [] [(4,iv (-1))] [] zB ?_
   exact zU rfl
 ·refine J_g 124 [] [(0,iv a1),(1,iv a2),(13,bv x5)] [] zB ?_
  refine zG 13 (fun h9=>?_) (fun h9=>?_)
  ·refine J_g 500 [] [(4,iv 1)] [] zB ?_
   exact zU rfl
  ·refine J_d 252 [] [13,16] [(16,bv (decide (a1<a2)))] [] [] zB ?_
   refine zG 16 (fun h10=>?_) (fun h10=>?_)
   ·refine J_g 1012 [] [(4,iv (-1))] [] zB ?_
    exact zU rfl
   ·refine J_g 508 [] [(19,bv (decide (a1>a2)))] [] zB ?_
    refine zG 19 (fun h11=>?_) (fun h11=>?_)
    ·refine J_g 2036 [] [(4,iv 1)] [] zB ?_
     exact zU rfl
    ·refine J_g 510 [] [(4,iv 0)] [] zB ?_
     exact zU rfl
noncomputable def zIU:Code:=(Tryz.f317.body).getD .skip
theorem zAG.ok (a1:(List Int)) (q:Wd) (kn:Unit→Option (D×List Ent)) (hk:∀v:Unit,J (q.g Tryz.prog 317 0 18) zIU (atI zIU 15) (St.mk' [(3,iv 0)] []) (some v) kn):
  ∀s6:Int,J (q.g Tryz.prog 317 0 18) zIU (atI zIU 116) (St.mk' [(3,iv 0),(6,sl 1 zEC a1),(7,iv (a1.length:Int)),(8,iv s6)] []) (zAG a1 s6) (Fl.go (fun r:Int=>some (iv r,[])) kn):=by
 refine zAV (fun g ih s6=>?_)
 unfold zAx
 refine J_d 232 [] [9] [(9,bv (decide (s6< (a1.length:Int))))] [] [] zB ?_
 refine zG 9 (fun h7=>?_) (fun h7=>?_)
 ·refine zA (fun x8 h9=>?_)
  refine J_g 3736 [] [(3,iv 0),(5,iv x8),(6,sl 1 zEC a1),(7,iv (a1.length:Int)),(8,iv s6)] [] (zK 0 (kQ (kk:=.i64) 331 3 1 zEC (.tmp 6) (.tmp 8) h9) zB) ?_
  refine J_d 7474 [] [14] [(14,bv (x8 !=0))] [] [] zB ?_
  refine zG 14 (fun h10=>?_) (fun h10=>?_)
  ·refine J_g 29900 [] [(2,iv x8)] [] zB ?_
   exact zU rfl
  ·refine J_d 935 [] [5,8,14] [(8,iv (w64 (s6+1)))] [] [] zB ?_
   exact J_q (J_b (ih (w64 (s6+1)))) rfl
 ·exact vX (hk ()) rfl
theorem zAW.ok (a1:(List Int)):Ok Tryz.prog 317 [sl 1 zEC a1] [] ((zAW a1).map fun r=>(iv r,[])):=by
 refine zL zIU Tryz.f317 0 18 (fun q=>?_)
 unfold zAW
 refine J_g 2 [] [(0,sl 1 zEC a1)] [] zB ?_
 refine J_g 6 [] [(0,sl 1 zEC a1),(3,iv 0)] [] zB ?_
 refine J_g 28 [] [(3,iv 0),(6,sl 1 zEC a1),(7,iv (a1.length:Int)),(8,iv 0)] [] zB ?_
 refine zAt (K0:=(fun r:Int=>some (iv r,[]))) (fun _=>rfl) (zAG.ok a1 q _ (fun v11=>J_j ?_) 0)
 refine J_g 30 [] [(2,iv 0)] [] zB ?_
 exact zU rfl
noncomputable def zJR:Code:=(Tryz.f278.body).getD .skip
theorem zAl.ok (a1:Version) (a2:Version):Ok Tryz.prog 278 [.ag (Version.enc a1),.ag (Version.enc a2)] [] ((zAl a1 a2).map fun r=>(iv r,[])):=by
 refine zL zJR Tryz.f278 0 22 (fun q=>?_)
 unfold zAl
 refine J_g 2 [(0,0),(1,1)] [(2,pp 0),(3,pp 1)] [(0,.box (Version.enc a1)),(1,.box (Version.enc a2))] zB ?_
 refine zA (fun x3 h4=>?_)
 refine zA (fun x5 h6=>?_)
 refine zA (fun x7 h8=>?_)
 refine zA (fun x9 h10=>?_)
 refine J_g 6 [] [(4,iv x9)] [] (zK 4 (xP [(.tmp 6),(.tmp 8)] [2,2] (yI.ok a1.A a2.A) h4) (zK 9 (xP [(.tmp 11),(.tmp 13)] [2,2] (yI.ok a1.B a2.B) h6) (zK 14 (xP [(.tmp 16),(.tmp 18)] [2,2] (yI.ok a1.C a2.C) h8) (zK 15 (zEQ 331 3 1 2 zEC [x3,x5,x7] [0,1,2] [(.tmp 9),(.tmp 14),(.tmp 19)] [iv x3,iv x5,iv x7]) (zK 16 (zAQ («as»:=[rr 2 [x3,x5,x7]]) [(.tmp 20)] [331] true [(2,rE 1 zEC [x3,x5,x7])] [] (.cons (zCA (.head _) (fun _=>rfl) rfl) (.nil)) (zAW.ok [x3,x5,x7]) h10 (.same rfl rfl) (hbor:=fun _=>⟨fhN,yD⟩)) zB))))) ?_
 exact zU rfl
noncomputable def c228:Code:=(Tryz.f228.body).getD .skip
theorem tH.ok (a1:Term):Ok Tryz.prog 228 [.ag (Term.enc a1)] [] ((tH a1).map fun r=>(iv r,[])):=by
 refine zL c228 Tryz.f228 0 35 (fun q=>?_)
 unfold tH
 refine J_g 2 [(0,0)] [(1,pp 0)] [(0,.box (Term.enc a1))] zB ?_
 refine zA (fun x2 h3=>?_)
 refine J_g 12 [] [(1,pp 0),(3,iv x2)] [(0,.box (Term.enc a1))] (zK 2 (xP [(.tmp 6)] [9] (yY.ok a1.Name) h3) zB) ?_
 refine J_d 26 [] [9] [(9,bv (x2 !=0))] [] [] zB ?_
 refine zG 9 (fun h4=>?_) (fun h4=>?_)
 ·refine J_g 108 [] [(2,iv x2)] [] zB ?_
  exact zU rfl
 ·refine zA (fun x5 h6=>?_)
  refine J_g 28 [] [(1,pp 0),(4,iv x5)] [(0,.box (Term.enc a1))] (zK 2 (xP [(.tmp 12)] [86] (yJ.ok a1.Low) h6) zB) ?_
  refine J_d 58 [] [15] [(15,bv (x5 !=0))] [] [] zB ?_
  refine zG 15 (fun h7=>?_) (fun h7=>?_)
  ·refine J_g 236 [] [(2,iv x5)] [] zB ?_
   exact zU rfl
  ·refine zA (fun x8 h9=>?_)
   refine zAZ (atI c228 121) (fun v13:Bool=>St.mk' [(1,pp 0),(17,bv v13)] [(0,.box (Term.enc a1))]) (fun v13=>?_) (fun jv13=>?_)
   ·refine zG 17 (fun h14=>?_) (fun h14=>?_)
    ·refine J_g 484 [] [(2,iv 3)] [] zB ?_
     exact zU rfl
    ·refine zA (fun x15 h16=>?_)
     refine J_g 486 [] [(28,bv (decide (x15≥0)))] [] (zK 4 (xP [(.tmp 30),(.tmp 32)] [86,86] (zAl.ok a1.Low a1.High) h16) zB) ?_
     refine zG 28 (fun h17=>?_) (fun h17=>?_)
     ·refine J_g 1948 [] [(2,iv 1)] [] zB ?_
      exact zU rfl
     ·refine J_g 62 [] [(2,iv 0)] [] zB ?_
      exact zU rfl
   ·refine kI (fun h10=>?_) (fun h10=>?_)
    ·refine zA (fun x11 h12=>?_)
     refine J_d 120 [] [4,15,17] [(17,bv (x11 !=0))] [] [] (zK 2 (xP [] [] (zBr.ok) h9) (zK 3 (zGm (b:=.neq) (r:=(a1.High.A==x8.A&&(a1.High.B==x8.B&&(a1.High.C==x8.C&&true)))) 86 86 (.tmp 19) (.tmp 20) [.int .i64 a1.High.A,.int .i64 a1.High.B,.int .i64 a1.High.C] [.int .i64 x8.A,.int .i64 x8.B,.int .i64 x8.C] (.inr ⟨rfl,rfl⟩)) (vV 4 [(21,bv (!(a1.High.A==x8.A&&(a1.High.B==x8.B&&(a1.High.C==x8.C&&true)))))] [] h10 (zCk 7 4 22 true (xP [(.tmp 24)] [86] (yJ.ok a1.High) h12) zB)))) ?_
     exact vX (J_j (jv13 (x11 !=0))) rfl
    ·refine J_d 120 [] [4,15,17] [(17,bv false)] [] [] (zK 2 (xP [] [] (zBr.ok) h9) (zK 3 (zGm (b:=.neq) (r:=(a1.High.A==x8.A&&(a1.High.B==x8.B&&(a1.High.C==x8.C&&true)))) 86 86 (.tmp 19) (.tmp 20) [.int .i64 a1.High.A,.int .i64 a1.High.B,.int .i64 a1.High.C] [.int .i64 x8.A,.int .i64 x8.B,.int .i64 x8.C] (.inr ⟨rfl,rfl⟩)) (vV 4 [(21,bv (!(a1.High.A==x8.A&&(a1.High.B==x8.B&&(a1.High.C==x8.C&&true)))))] [] h10 zB))) ?_
     exact vX (J_j (jv13 false)) rfl
noncomputable def c193:Code:=(Tryz.f193.body).getD .skip
theorem uW.ok (a1:(List Term)) (q:Wd) (kn:Unit→Option (D×List Ent)) (hk:∀v:Unit,J (q.g Tryz.prog 193 0 18) c193 (atI c193 7) (St.mk' [] []) (some v) kn):
  ∀s8:Int,J (q.g Tryz.prog 193 0 18) c193 (atI c193 52) (St.mk' [(6,sl 7 Term.enc a1),(7,iv (a1.length:Int)),(8,iv s8)] []) (uW a1 s8) (Fl.go (fun r:Int=>some (iv r,[])) kn):=by
 refine zAV (fun g ih s8=>?_)
 unfold vS
 refine J_d 104 [] [9] [(9,bv (decide (s8< (a1.length:Int))))] [] [] zB ?_
 refine zG 9 (fun h9=>?_) (fun h9=>?_)
 ·refine zA (fun x10 h11=>?_)
  refine J_d 1688 [(2,0)] [4,9] [(4,pp 0)] [0] [(0,.box (Term.enc x10))] (zK 0 (kQ (kk:=.i64) 53 153 7 Term.enc (.tmp 6) (.tmp 8) h11) zB) ?_
  refine zA (fun x12 h13=>?_)
  refine J_g 3378 [] [(5,iv x12),(6,sl 7 Term.enc a1),(7,iv (a1.length:Int)),(8,iv s8)] [] (zK 1 (xP [(.tmp 12)] [153] (tH.ok x10) h13) zB) ?_
  refine J_d 6758 [] [15] [(15,bv (x12 !=0))] [] [] zB ?_
  refine zG 15 (fun h14=>?_) (fun h14=>?_)
  ·refine J_g 27036 [] [(2,iv x12)] [] zB ?_
   exact zU rfl
  ·refine J_d 423 [] [5,8,15] [(8,iv (w64 (s8+1)))] [] [] zB ?_
   exact J_q (J_b (ih (w64 (s8+1)))) rfl
 ·exact vX (hk ()) rfl
theorem xA.ok (a1:(List Term)):Ok Tryz.prog 193 [sl 7 Term.enc a1] [] ((xA a1).map fun r=>(iv r,[])):=by
 refine zL c193 Tryz.f193 0 18 (fun q=>?_)
 unfold xA
 refine J_g 2 [] [(0,sl 7 Term.enc a1)] [] zB ?_
 refine J_g 12 [] [(6,sl 7 Term.enc a1),(7,iv (a1.length:Int)),(8,iv 0)] [] zB ?_
 refine zAt (K0:=(fun r:Int=>some (iv r,[]))) (fun _=>rfl) (uW.ok a1 q _ (fun v15=>J_j ?_) 0)
 refine J_g 14 [] [(2,iv 0)] [] zB ?_
 exact zU rfl
noncomputable def zGR:Code:=(Tryz.f112.body).getD .skip
theorem vC.ok (a1:Pack) (q:Wd) (kn:Unit→Option (D×List Ent)) (hk:∀v:Unit,J (q.g Tryz.prog 112 0 93) zGR (atI zGR 63) (St.mk' [(1,pp 0)] [(0,.box (Pack.enc false a1))]) (some v) kn):
  ∀s54:Int,J (q.g Tryz.prog 112 0 93) zGR (atI zGR 500) (St.mk' [(1,pp 0),(75,sl 1 (eSl false 7 Term.enc) a1.Needs),(76,iv (a1.Needs.length:Int)),(77,iv s54)] [(0,.box (Pack.enc false a1))]) (vC a1 s54) (Fl.go (fun r:Int=>some (iv r,[])) kn):=by
 refine zAV (fun g ih s54=>?_)
 unfold uN
 refine J_d 1000 [] [78] [(78,bv (decide (s54< (a1.Needs.length:Int))))] [] [] zB ?_
 refine zG 78 (fun h55=>?_) (fun h55=>?_)
 ·refine zA (fun x56 h57=>?_)
  refine J_g 16024 [] [(1,pp 0),(8,sl 7 Term.enc x56),(75,sl 1 (eSl false 7 Term.enc) a1.Needs),(76,iv (a1.Needs.length:Int)),(77,iv s54)] [(0,.box (Pack.enc false a1))] (zK 0 (kQ (kk:=.i64) 87 53 1 (eSl false 7 Term.enc) (.tmp 75) (.tmp 77) h57) zB) ?_
  refine J_d 64100 [] [83] [(83,bv ((x56.length:Int)==0))] [] [] zB ?_
  refine zG 83 (fun h58=>?_) (fun h58=>?_)
  ·refine J_g 256404 [] [(2,iv 1)] [] zB ?_
   exact zU rfl
  ·refine zA (fun x59 h60=>?_)
   refine J_g 64102 [] [(1,pp 0),(9,iv x59),(75,sl 1 (eSl false 7 Term.enc) a1.Needs),(76,iv (a1.Needs.length:Int)),(77,iv s54)] [(0,.box (Pack.enc false a1))] (zK 1 (xP [(.tmp 84)] [53] (xA.ok x56) h60) zB) ?_
   refine J_d 128206 [] [87] [(87,bv (x59 !=0))] [] [] zB ?_
   refine zG 87 (fun h61=>?_) (fun h61=>?_)
   ·refine J_g 512828 [] [(2,iv x59)] [] zB ?_
    exact zU rfl
   ·refine J_d 4007 [] [9,77,87] [(77,iv (w64 (s54+1)))] [] [] zB ?_
    exact J_q (J_b (ih (w64 (s54+1)))) rfl
 ·exact vX (hk ()) rfl
theorem wY.ok (a1:Pack) (q:Wd) (kn:Unit→Option (D×List Ent)) (hk:∀v:Unit,J (q.g Tryz.prog 112 0 93) zGR (atI zGR 31) (St.mk' [(1,pp 0)] [(0,.box (Pack.enc false a1))]) (some v) kn):
  ∀s32:Int,J (q.g Tryz.prog 112 0 93) zGR (atI zGR 244) (St.mk' [(1,pp 0),(49,sl 1 eStr a1.Provides),(50,iv (a1.Provides.length:Int)),(51,iv s32)] [(0,.box (Pack.enc false a1))]) (wY a1 s32) (Fl.go (fun r:Int=>some (iv r,[])) kn):=by
 refine zAV (fun g ih s32=>?_)
 unfold uH
 refine J_d 488 [] [52] [(52,bv (decide (s32< (a1.Provides.length:Int))))] [] [] zB ?_
 refine zG 52 (fun h33=>?_) (fun h33=>?_)
 ·refine zA (fun x34 h35=>?_)
  refine J_d 7832 [] [4,5,52] [(4,iv s32),(5,sv x34)] [] [] (zK 1 (kQ (kk:=.i64) 70 9 1 eStr (.tmp 49) (.tmp 51) h35) zB) ?_
  refine zA (fun x36 h37=>?_)
  refine J_g 31332 [] [(1,pp 0),(4,iv s32),(5,sv x34),(6,iv x36),(49,sl 1 eStr a1.Provides),(50,iv (a1.Provides.length:Int)),(51,iv s32)] [(0,.box (Pack.enc false a1))] (zK 1 (xP [(.tmp 56)] [9] (yY.ok x34) h37) zB) ?_
  refine J_d 62666 [] [59] [(59,bv (x36 !=0))] [] [] zB ?_
  refine zG 59 (fun h38=>?_) (fun h38=>?_)
  ·refine J_g 250668 [] [(2,iv x36)] [] zB ?_
   exact zU rfl
  ·refine zAZ (atI zGR 31335) (fun v44:Bool=>St.mk' [(1,pp 0),(49,sl 1 eStr a1.Provides),(50,iv (a1.Provides.length:Int)),(51,iv s32),(72,bv v44)] [(0,.box (Pack.enc false a1))]) (fun v44=>?_) (fun jv44=>?_)
   ·refine zG 72 (fun h45=>?_) (fun h45=>?_)
    ·refine J_g 125340 [] [(2,iv 6)] [] zB ?_
     exact zU rfl
    ·refine J_d 1959 [] [51,72] [(51,iv (w64 (s32+1)))] [] [] zB ?_
     exact J_q (J_b (ih (w64 (s32+1)))) rfl
   ·refine kI (fun h39=>?_) (fun h39=>?_)
    ·refine J_d 31334 [] [4,5,6,59,72] [(72,bv true)] [] [] (vV 4 [(64,bv (seq x34 a1.Name))] [] h39 zB) ?_
     exact vX (J_j (jv44 true)) rfl
    ·refine zA (fun x40 h41=>?_)
     refine zA (fun x42 h43=>?_)
     refine J_d 31334 [] [4,5,6,59,72] [(72,bv x42)] [] [] (vV 4 [(64,bv (seq x34 a1.Name))] [] h39 (zCk 8 4 65 false (zJi 70 9 1 eStr (.tmp 67) none (some (.tmp 68)) h41) (zCk 10 4 65 false (xP [(.tmp 69),(.tmp 70)] [70,9] (yL.ok x40 x34) h43) zB))) ?_
     exact vX (J_j (jv44 x42)) rfl
 ·exact vX (hk ()) rfl
theorem tC.ok (a1:Pack):Ok Tryz.prog 112 [.ag (Pack.enc false a1)] [] ((tC a1).map fun r=>(iv r,[])):=by
 refine zL zGR Tryz.f112 0 93 (fun q=>?_)
 unfold tC
 refine J_g 2 [(0,0)] [(1,pp 0)] [(0,.box (Pack.enc false a1))] zB ?_
 refine zA (fun x2 h3=>?_)
 refine zA (fun x4 h5=>?_)
 refine zA (fun x6 h7=>?_)
 refine J_g 12 [] [(1,pp 0),(3,iv x6)] [(0,.box (Pack.enc false a1))] (zK 2 (xP [(.tmp 11)] [9] (yY.ok a1.Name) h3) (zK 5 (xP [(.tmp 14)] [86] (yJ.ok a1.Version) h5) (zK 6 (zEQ 42 2 1 1 zEC [x2,x4] [0,1] [(.tmp 12),(.tmp 15)] [iv x2,iv x4]) (zK 7 (zAQ («as»:=[rr 1 [x2,x4]]) [(.tmp 16)] [42] true [(1,rE 1 zEC [x2,x4])] [] (.cons (zCA (.head _) (fun _=>rfl) rfl) (.nil)) (uX.ok [x2,x4]) h7 (.same rfl rfl) (hbor:=fun _=>⟨fhN,yD⟩)) zB)))) ?_
 refine J_d 26 [] [19] [(19,bv (x6 !=0))] [] [] zB ?_
 refine zG 19 (fun h8=>?_) (fun h8=>?_)
 ·refine J_g 108 [] [(2,iv x6)] [] zB ?_
  exact zU rfl
 ·refine zA (fun x9 h10=>?_)
  refine J_d 56 [] [3,19,21] [(21,bv (!x9))] [] [] (zK 2 (xP [(.tmp 23),(.const (.int .i64 1)),(.const (.int .i64 200))] [2,2,2] (yN.ok a1.Size 1 200) h10) zB) ?_
  refine zG 21 (fun h11=>?_) (fun h11=>?_)
  ·refine J_g 228 [] [(2,iv 3)] [] zB ?_
   exact zU rfl
  ·refine zAZ (atI zGR 231) (fun v17:Bool=>St.mk' [(1,pp 0),(26,bv v17)] [(0,.box (Pack.enc false a1))]) (fun v17=>?_) (fun jv17=>?_)
   ·refine zG 26 (fun h18=>?_) (fun h18=>?_)
    ·refine J_g 924 [] [(2,iv 2)] [] zB ?_
     exact zU rfl
    ·refine J_d 60 [] [26,49,50,51] [(49,sl 1 eStr a1.Provides),(50,iv (a1.Provides.length:Int)),(51,iv 0)] [] [] zB ?_
     refine zAt (K0:=(fun r:Int=>some (iv r,[]))) (fun _=>rfl) (wY.ok a1 q _ (fun v46=>J_j ?_) 0)
     refine J_d 124 [] [75,76,77] [(75,sl 1 (eSl false 7 Term.enc) a1.Needs),(76,iv (a1.Needs.length:Int)),(77,iv 0)] [] [] zB ?_
     refine zAt (K0:=(fun r:Int=>some (iv r,[]))) (fun _=>rfl) (vC.ok a1 q _ (fun v62=>J_j ?_) 0)
     refine zA (fun x63 h64=>?_)
     refine J_g 126 [] [(2,iv x63)] [] (zK 2 (xP [(.tmp 91)] [53] (xA.ok a1.Bars) h64) zB) ?_
     exact zU rfl
   ·refine kI (fun h12=>?_) (fun h12=>?_)
    ·refine J_d 230 [] [21,26] [(26,bv true)] [] [] (vV 4 [(30,bv (decide ((a1.Provides.length:Int)>4)))] [] h12 zB) ?_
     exact vX (J_j (jv17 true)) rfl
    ·refine kI (fun h13=>?_) (fun h13=>?_)
     ·refine J_d 230 [] [21,26] [(26,bv true)] [] [] (vV 4 [(30,bv (decide ((a1.Provides.length:Int)>4)))] [] h12 (vV 10 [(36,bv (decide ((a1.Needs.length:Int)>4)))] [] h13 zB)) ?_
      exact vX (J_j (jv17 true)) rfl
     ·refine kI (fun h14=>?_) (fun h14=>?_)
      ·refine J_d 230 [] [21,26] [(26,bv true)] [] [] (vV 4 [(30,bv (decide ((a1.Provides.length:Int)>4)))] [] h12 (vV 10 [(36,bv (decide ((a1.Needs.length:Int)>4)))] [] h13 (vV 16 [(42,bv (decide ((a1.Bars.length:Int)>4)))] [] h14 zB))) ?_
       exact vX (J_j (jv17 true)) rfl
      ·refine zA (fun x15 h16=>?_)
       refine J_d 230 [] [21,26] [(26,bv x15)] [] [] (vV 4 [(30,bv (decide ((a1.Provides.length:Int)>4)))] [] h12 (vV 10 [(36,bv (decide ((a1.Needs.length:Int)>4)))] [] h13 (vV 16 [(42,bv (decide ((a1.Bars.length:Int)>4)))] [] h14 (zCk 19 16 43 false (zAQ («as»:=[sl 1 (eSl false 7 Term.enc) a1.Needs,.fn 192 []]) [(.tmp 45),(.func 192)] [87,186] false [] [] (.cons (.same rfl) (.cons (.fn (.nil)) (.nil))) (zI.ok a1.Needs) h16 (.same rfl rfl)) zB)))) ?_
       exact vX (J_j (jv17 x15)) rfl
noncomputable def zKl:Code:=(Tryz.f195.body).getD .skip
theorem zAK.ok (a1:Pack) (a2:ByteArray) (a3:Version):Ok Tryz.prog 195 [.ag (Pack.enc false a1),pp 0,pp 1] [.box [sv a2],.box (Version.enc a3)] ((zAK a1 a2 a3).map fun r=>(bv r,[.box [sv a2],.box (Version.enc a3)])):=by
 refine zL zKl Tryz.f195 2 15 (fun q=>?_)
 unfold zAK
 refine J_d 2 [(0,2)] [0,3] [(3,pp 2)] [2] [(2,.box (Pack.enc false a1))] zB ?_
 refine kI (fun h4=>?_) (fun h4=>?_)
 ·refine J_d 6 [] [1,2,3,4] [(4,bv (a1.Version.A==a3.A&&(a1.Version.B==a3.B&&(a1.Version.C==a3.C&&true))))] [2] [] (vV 4 [(8,bv (seq a1.Name a2))] [] h4 (zCk 8 4 9 true (zGm (b:=.eql) (r:=(a1.Version.A==a3.A&&(a1.Version.B==a3.B&&(a1.Version.C==a3.C&&true)))) 86 86 (.tmp 11) (.tmp 12) [.int .i64 a1.Version.A,.int .i64 a1.Version.B,.int .i64 a1.Version.C] [.int .i64 a3.A,.int .i64 a3.B,.int .i64 a3.C] (.inl ⟨rfl,rfl⟩)) zB)) ?_
  exact zU rfl
 ·refine J_d 6 [] [1,2,3,4] [(4,bv false)] [2] [] (vV 4 [(8,bv (seq a1.Name a2))] [] h4 zB) ?_
  exact zU rfl
noncomputable def c194:Code:=(Tryz.f194.body).getD .skip
theorem zW.ok (a1:(List Pack)) (a2:ByteArray) (a3:Version) (q:Wd) (kn:Unit→Option (D×List Ent)) (hk:∀v:Unit,J (q.g Tryz.prog 194 2 19) c194 (atI c194 7) (St.mk' [] [(0,.box [sv a2]),(1,.box (Version.enc a3))]) (some v) kn):
  ∀s10:Int,J (q.g Tryz.prog 194 2 19) c194 (atI c194 52) (St.mk' [(0,sl 8 (Pack.enc false) a1),(1,.fn 195 [pp 0,pp 1]),(7,iv (a1.length:Int)),(8,iv s10)] [(0,.box [sv a2]),(1,.box (Version.enc a3))]) (zW a1 a2 a3 s10) (Fl.go (fun r:Int=>some (iv r,[.box [sv a2],.box (Version.enc a3)])) kn):=by
 refine zAV (fun g ih s10=>?_)
 unfold zV
 refine J_d 104 [] [9] [(9,bv (decide (s10< (a1.length:Int))))] [] [] zB ?_
 refine zG 9 (fun h11=>?_) (fun h11=>?_)
 ·refine J_d 1688 [] [5,9] [(5,iv s10)] [] [] zB ?_
  refine zA (fun x12 h13=>?_)
  refine zA (fun x14 h15=>?_)
  refine J_d 3378 [] [16] [(16,bv x14)] [] [] (zK 3 (kQ (kk:=.i64) 24 89 8 (Pack.enc false) (.tmp 12) (.tmp 13) h13) (zK 5 (zJC [(0,.box [sv a2]),(1,.box (Version.enc a3))] [] (zJx 11 [(.tmp 15)] [89] false [(0,.box [sv a2]),(1,.box (Version.enc a3))] [0,1] [.ag (Pack.enc false x12)] [pp 0,pp 1] (.cons (.same rfl) (.cons (.pt rfl) (.cons (.pt rfl) (.nil)))) (zAK.ok x12 a2 a3) h15 (.same rfl rfl))) zB)) ?_
  refine zG 16 (fun h16=>?_) (fun h16=>?_)
  ·refine J_d 13516 [] [0,1,4,5,7,8,16] [(4,iv s10)] [] [] zB ?_
   exact zU rfl
  ·refine J_d 423 [] [5,8,16] [(8,iv (w64 (s10+1)))] [] [] zB ?_
   exact J_q (J_b (ih (w64 (s10+1)))) rfl
 ·exact vX (hk ()) rfl
theorem zS.ok (a1:(List Pack)) (a2:ByteArray) (a3:Version):Ok Tryz.prog 194 [sl 8 (Pack.enc false) a1,.fn 195 [pp 0,pp 1]] [.box [sv a2],.box (Version.enc a3)] ((zS a1 a2 a3).map fun r=>(iv r,[.box [sv a2],.box (Version.enc a3)])):=by
 refine zL c194 Tryz.f194 2 19 (fun q=>?_)
 unfold zS
 refine J_g 2 [] [(0,sl 8 (Pack.enc false) a1),(1,.fn 195 [pp 0,pp 1])] [(0,.box [sv a2]),(1,.box (Version.enc a3))] zB ?_
 refine J_d 12 [] [7,8] [(7,iv (a1.length:Int)),(8,iv 0)] [] [] zB ?_
 refine zAt (K0:=(fun r:Int=>some (iv r,[.box [sv a2],.box (Version.enc a3)]))) (fun _=>rfl) (zW.ok a1 a2 a3 q _ (fun v17=>J_j ?_) 0)
 refine J_d 14 [] [4] [(4,iv (-1))] [] [] zB ?_
 exact zU rfl
noncomputable def zKm:Code:=(Tryz.f113.body).getD .skip
theorem zAL.ok (a1:(List Pack)) (a2:ByteArray) (a3:Version):Ok Tryz.prog 113 [sl 8 (Pack.enc false) a1,sv a2,.ag (Version.enc a3)] [] ((zAL a1 a2 a3).map fun r=>(iv r,[])):=by
 refine zL zKm Tryz.f113 0 10 (fun q=>?_)
 unfold zAL
 refine J_d 2 [(0,0),(1,1)] [1,2,4,5] [(4,pp 0),(5,pp 1)] [0,1] [(0,.box [sv a2]),(1,.box (Version.enc a3))] zB ?_
 refine zA (fun x4 h5=>?_)
 refine J_g 6 [] [(6,iv x4)] [] (zK 2 (zJC [(0,.box [sv a2]),(1,.box (Version.enc a3))] [] (zAQ («as»:=[sl 8 (Pack.enc false) a1,.fn 195 [pp 0,pp 1]]) [(.tmp 7),(.tmp 8)] [24,215] false [(0,.box [sv a2]),(1,.box (Version.enc a3))] [0,1] (.cons (.same rfl) (.cons (.fn (.cons (.pt rfl) (.cons (.pt rfl) (.nil)))) (.nil))) (zS.ok a1 a2 a3) h5 (.same rfl rfl))) zB) ?_
 exact zU rfl
noncomputable def c50:Code:=(Tryz.f50.body).getD .skip
theorem wR.ok (a1:(List Pack)) (q:Wd) (kn:Unit→Option (D×List Ent)) (hk:∀v:Unit,J (q.g Tryz.prog 50 0 31) c50 (atI c50 15) (St.mk' [] []) (some v) kn):
  ∀s14:Int,J (q.g Tryz.prog 50 0 31) c50 (atI c50 116) (St.mk' [(0,sl 8 (Pack.enc false) a1),(9,sl 8 (Pack.enc false) a1),(10,iv (a1.length:Int)),(11,iv s14)] []) (wR a1 s14) (Fl.go (fun r:Int=>some (iv r,[])) kn):=by
 refine zAV (fun g ih s14=>?_)
 unfold wC
 refine J_d 232 [] [12] [(12,bv (decide (s14< (a1.length:Int))))] [] [] zB ?_
 refine zG 12 (fun h15=>?_) (fun h15=>?_)
 ·refine zA (fun x16 h17=>?_)
  refine J_d 3736 [(3,0)] [3,4,12] [(3,iv s14),(4,pp 0)] [0] [(0,.box (Pack.enc false x16))] (zK 1 (kQ (kk:=.i64) 24 89 8 (Pack.enc false) (.tmp 9) (.tmp 11) h17) zB) ?_
  refine zA (fun x18 h19=>?_)
  refine J_g 14948 [] [(0,sl 8 (Pack.enc false) a1),(3,iv s14),(4,pp 0),(5,iv x18),(9,sl 8 (Pack.enc false) a1),(10,iv (a1.length:Int)),(11,iv s14)] [(0,.box (Pack.enc false x16))] (zK 1 (xP [(.tmp 16)] [89] (tC.ok x16) h19) zB) ?_
  refine J_d 29898 [] [19] [(19,bv (x18 !=0))] [] [] zB ?_
  refine zG 19 (fun h20=>?_) (fun h20=>?_)
  ·refine J_g 119596 [] [(2,iv x18)] [] zB ?_
   exact zU rfl
  ·refine zA (fun x21 h22=>?_)
   refine zA (fun x23 h24=>?_)
   refine J_d 14950 [] [3,4,5,19,29] [(29,bv (decide (x23≥0)))] [0] [] (zK 2 (zJi 24 89 8 (Pack.enc false) (.tmp 21) none (some (.tmp 22)) h22) (zK 7 (xP [(.tmp 23),(.tmp 25),(.tmp 27)] [24,9,86] (zAL.ok x21 x16.Name x16.Version) h24) zB)) ?_
   refine zG 29 (fun h25=>?_) (fun h25=>?_)
   ·refine J_g 59804 [] [(2,iv 6)] [] zB ?_
    exact zU rfl
   ·refine J_d 935 [] [11,29] [(11,iv (w64 (s14+1)))] [] [] zB ?_
    exact J_q (J_b (ih (w64 (s14+1)))) rfl
 ·exact vX (hk ()) rfl
theorem xX.ok (a1:(List Pack)):Ok Tryz.prog 50 [sl 8 (Pack.enc false) a1] [] ((xX a1).map fun r=>(iv r,[])):=by
 refine zL c50 Tryz.f50 0 31 (fun q=>?_)
 unfold xX
 refine J_g 2 [] [(0,sl 8 (Pack.enc false) a1)] [] zB ?_
 refine J_d 12 [] [8] [(8,bv (decide ((a1.length:Int)>24)))] [] [] zB ?_
 refine zG 8 (fun h2=>?_) (fun h2=>?_)
 ·refine J_g 52 [] [(2,iv 2)] [] zB ?_
  exact zU rfl
 ·refine J_d 28 [] [8,9,10,11] [(9,sl 8 (Pack.enc false) a1),(10,iv (a1.length:Int)),(11,iv 0)] [] [] zB ?_
  refine zAt (K0:=(fun r:Int=>some (iv r,[]))) (fun _=>rfl) (wR.ok a1 q _ (fun v26=>J_j ?_) 0)
  refine J_g 30 [] [(2,iv 0)] [] zB ?_
  exact zU rfl
theorem bytealg_CompareString.ok (a1 a2:ByteArray):Ok Tryz.prog 292 [sv a1,sv a2] [] ((bytealg_CompareString a1 a2).map fun r=>(iv r,[])):=
 zJt (vs:=[.string a1,.string a2]) (fun w=>Tryz.bytealg_CompareString a1 a2 w)
noncomputable def zJH:Code:=(Tryz.f243.body).getD .skip
theorem strings_Compare.ok (a1:ByteArray) (a2:ByteArray):Ok Tryz.prog 243 [sv a1,sv a2] [] ((strings_Compare a1 a2).map fun r=>(iv r,[])):=by
 refine zL zJH Tryz.f243 0 8 (fun q=>?_)
 unfold strings_Compare
 refine J_d 2 [] [] [] [] [] zB ?_
 refine zA (fun x3 h4=>?_)
 refine J_g 6 [] [(4,iv x3)] [] (zK 2 (xP [(.tmp 5),(.tmp 6)] [9,9] (bytealg_CompareString.ok a1 a2) h4) zB) ?_
 exact zU rfl
noncomputable def zKn:Code:=(Tryz.f242.body).getD .skip
theorem xE.ok (a1:File) (a2:ByteArray):Ok Tryz.prog 242 [.ag (File.enc false a1),sv a2] [] ((xE a1 a2).map fun r=>(iv r,[])):=by
 refine zL zKn Tryz.f242 0 9 (fun q=>?_)
 unfold xE
 refine J_g 2 [(0,0)] [(1,sv a2),(2,pp 0)] [(0,.box (File.enc false a1))] zB ?_
 refine zA (fun x3 h4=>?_)
 refine J_g 6 [] [(4,iv x3)] [] (zK 3 (xP [(.tmp 6),(.tmp 7)] [9,9] (strings_Compare.ok a1.Path a2) h4) zB) ?_
 exact zU rfl
noncomputable def zIE:Code:=(Tryz.f241.body).getD .skip
theorem zM.ok (a1:(List File)) (a2:ByteArray) (q:Wd) (kn:Int→Option (D×List Ent)) (hk:∀v:Int,J (q.g Tryz.prog 241 0 49) zIE (atI zIE 31) (St.mk' [(0,sl 2 (File.enc false) a1),(1,sv a2),(2,.fn 242 []),(8,iv (a1.length:Int)),(9,iv v)] []) (some v) kn):
  ∀s9:(Int×Int),J (q.g Tryz.prog 241 0 49) zIE (atI zIE 120) (St.mk' [(0,sl 2 (File.enc false) a1),(1,sv a2),(2,.fn 242 []),(8,iv (a1.length:Int)),(9,iv s9.1),(10,iv s9.2)] []) (zM a1 a2 s9) kn:=by
 refine zAV (fun g ih s9=>?_)
 unfold zR
 refine J_d 480 [] [17] [(17,bv (decide (s9.1<s9.2)))] [] [] zB ?_
 refine zG 17 (fun h10=>?_) (fun h10=>?_)
 ·refine J_d 964 [] [11,17] [(11,iv (w64 ((IntKind.u64.wrap (w64 (s9.1+s9.2))).fdiv (2^(min (1:Int).toNat 64)))))] [] [] zB ?_
  refine zA (fun x11 h12=>?_)
  refine zA (fun x13 h14=>?_)
  refine J_d 1930 [] [31] [(31,bv (decide (x13<0)))] [] [] (zK 3 (kQ (kk:=.i64) 25 113 2 (File.enc false) (.tmp 25) (.tmp 26) h12) (zK 6 (zHV («as»:=[.ag (File.enc false x11),sv a2]) (caps:=[]) 24 [(.tmp 28),(.tmp 29)] [113,9] (xE.ok x11 a2) h14) zB)) ?_
  refine zG 31 (fun h15=>?_) (fun h15=>?_)
  ·refine J_d 3862 [] [9,11,31] [(9,iv (w64 ((w64 ((IntKind.u64.wrap (w64 (s9.1+s9.2))).fdiv (2^(min (1:Int).toNat 64))))+1)))] [] [] zB ?_
   exact J_q (J_b (ih (w64 ((w64 ((IntKind.u64.wrap (w64 (s9.1+s9.2))).fdiv (2^(min (1:Int).toNat 64))))+1),s9.2))) rfl
  ·refine J_d 3863 [] [10,11,31] [(10,iv (w64 ((IntKind.u64.wrap (w64 (s9.1+s9.2))).fdiv (2^(min (1:Int).toNat 64)))))] [] [] zB ?_
   exact J_q (J_b (ih (s9.1,w64 ((IntKind.u64.wrap (w64 (s9.1+s9.2))).fdiv (2^(min (1:Int).toNat 64)))))) rfl
 ·exact vX (hk s9.1) rfl
theorem zH.ok (a1:(List File)) (a2:ByteArray):Ok Tryz.prog 241 [sl 2 (File.enc false) a1,sv a2,.fn 242 []] [] ((zH a1 a2).map fun r=>(.tu [iv r.1,bv r.2],[])):=by
 refine zL zIE Tryz.f241 0 49 (fun q=>?_)
 unfold zH
 refine J_g 2 [] [(0,sl 2 (File.enc false) a1),(1,sv a2),(2,.fn 242 [])] [] zB ?_
 refine J_g 6 [] [(0,sl 2 (File.enc false) a1),(1,sv a2),(2,.fn 242 []),(8,iv (a1.length:Int))] [] zB ?_
 refine J_d 14 [] [9,10] [(9,iv 0),(10,iv (a1.length:Int))] [] [] zB ?_
 refine zES (zM.ok a1 a2 q _ (fun v16=>J_j ?_) (0,(a1.length:Int)))
 refine kI (fun h17=>?_) (fun h17=>?_)
 ·refine zA (fun x18 h19=>?_)
  refine zA (fun x20 h21=>?_)
  refine J_g 62 [] [(6,iv v16),(7,bv (x20==0))] [] (vV 4 [(38,bv (decide (v16< (a1.length:Int))))] [] h17 (zCk 8 4 39 true (kQ (kk:=.i64) 25 113 2 (File.enc false) (.tmp 41) (.tmp 42) h19) (zCk 11 4 39 true (zHV («as»:=[.ag (File.enc false x18),sv a2]) (caps:=[]) 40 [(.tmp 44),(.tmp 45)] [113,9] (xE.ok x18 a2) h21) zB))) ?_
  exact zJh rfl
 ·refine J_g 62 [] [(6,iv v16),(7,bv false)] [] (vV 4 [(38,bv (decide (v16< (a1.length:Int))))] [] h17 zB) ?_
  exact zJh rfl
noncomputable def c162:Code:=(Tryz.f162.body).getD .skip
theorem tY.ok (a1:zC) (a2:ByteArray):Ok Tryz.prog 162 [.ag (zC.enc false a1),sv a2] [] ((tY a1 a2).map fun r=>(.tu [iv r.1,bv r.2],[])):=by
 refine zL c162 Tryz.f162 0 12 (fun q=>?_)
 unfold tY
 refine J_g 2 [(0,0)] [(1,sv a2),(2,pp 0)] [(0,.box (zC.enc false a1))] zB ?_
 refine zA (fun x3 h4=>?_)
 refine J_g 6 [] [(4,iv x3.1),(5,bv x3.2)] [] (zK 3 (zAQ («as»:=[sl 2 (File.enc false) a1.Files,sv a2,.fn 242 []]) [(.tmp 7),(.tmp 8),(.func 242)] [25,9,249] false [] [] (.cons (.same rfl) (.cons (.same rfl) (.cons (.fn (.nil)) (.nil)))) (zH.ok a1.Files a2) h4 (.tu (.cons (.same rfl rfl) (.cons (.same rfl rfl) (.nil))))) zB) ?_
 exact zJh rfl
section
open Go.Shelf Go.RowKit Go.Lib
set_option linter.unusedVariables false
set_option linter.unusedSimpArgs false
set_option maxHeartbeats 4000000 in
set_option maxRecDepth 100000 in
theorem zFF (b off n c i vb voff m vc:Nat) (cs vs:List Value) (w:World) (hi:i<n) (hm:0<m) (hroom:n+m≤c) (h63:n+m≤9223372036854775807) (hvb:vb≠b)
  (hcl:cs.length=n*2) (hvl:vs.length=m*2)
  (hcs:∀j v,cs[j]? =some v→w.cell? ⟨b,off+j,none⟩=some v) (hsp:∀j,j< (n+m)*2→(w.cell? ⟨b,off+j,none⟩).isSome =true) (hfz:∀j,j< (n+m)*2→w.frozen? ⟨b,off+j,none⟩=false)
  (hvs:∀j v,vs[j]? =some v→w.cell? ⟨vb,voff+j,none⟩=some v) (h1c:∀v∈cs,v.oneCell'=true) (h1v:∀v∈vs,v.oneCell'=true)
  (tA tB:TypeId) (kA kB:Nat) (hsa:w.shape? vb=some (tA,kA)) (hsb:w.shape? b=some (tB,kB)) (hkB:kB≠0) (hfa:w.frozen? ⟨vb,voff,none⟩=false) (hfe:w.frozen? ⟨vb,kA,none⟩=false):
  Calls Tryz.prog 196 #[.slice (some ⟨b,off,none⟩) n c,.int .i64 i,.slice (some ⟨vb,voff,none⟩) m vc] w fun e w'=>
   e= .returned (.slice (some ⟨b,off,none⟩) (n+m) c)∧w'=(w.drew.setCells b (off+(i+m)*2) (cs.drop (i*2))).setCells b (off+i*2) vs:=by
 have hz1:¬((m:Int)=0):=by omega
 have hz2:¬((i:Int)=(n:Int)):=by omega
 have hsz:(Tryz.prog.info? 113).map (·.size)=some 2:=by kernel_rfl
 have hov:∀lb cb,(callFunc 260 #[.slice (some ⟨vb,voff,none⟩) m vc,.slice (some ⟨b,off+(i+m)*2,none⟩) lb cb]).run Tryz.prog w= .ok (.value (.bool false)) w:=fun lb cb=>by
  rw [run_callFunc_extern Tryz.func260 (by kernel_rfl) (by kernel_rfl) (by kernel_rfl) (e:=Extern.SlicesOverlaps.overlaps #[25,25] #[4]) (by kernel_rfl),
   Lib.run_overlaps_apart w 25 4 113 Tryz.underlying25 2 Tryz.sizeOf113 ⟨vb,voff,none⟩ ⟨b,off+(i+m)*2,none⟩ m vc lb cb hvb tA tB kA kB hsa hsb hkB hfa hfe]
  rfl
 have hdl:(cs.drop (i*2)).length =(n-i)*2:=by rw [List.length_drop,hcl]; omega
 have mixed:Tryz.prog.follows .mixedOrders =true:=by kernel_rfl
 have hw1:IntKind.i64.wrap ((i:Int)+(m:Int))=(i:Int)+(m:Int):=by rw [IntKind.wrap_i64]; omega
 have hb1:(0:Int)≤(i:Int)+(m:Int):=by omega
 have hin:i≤n:=by omega
 have htn:((i:Int)+(m:Int)).toNat =i+m:=by omega
 have hb2:¬(c=i+m):=by omega
 have hb3:(i:Int)≤(n:Int)+(m:Int):=by omega
 have hb4:¬(c=i):=by omega
 have hcp1:∀ty dc sc,(Builtin.copy_ #[25,25] ty #[.slice (some ⟨b,off+(i+m)*2,none⟩) (n+m-(i+m)) dc,.slice (some ⟨b,off+i*2,none⟩) (n+m-i) sc]).run Tryz.prog w.drew= .ok (goInt (Nat.min (n+m-i) (n+m-(i+m)))) (w.drew.setCells b (off+(i+m)*2) (cs.drop (i*2))):=fun ty dc sc=>
  zBA w.drew _ _ ty 113 2 b (off+(i+m)*2) (n+m-(i+m)) dc ⟨b,off+i*2,none⟩ (n+m-i) sc (cs.drop (i*2)) Tryz.underlying25 hsz (by rw [hdl]; simp only [Nat.min_def]; split<;>omega)
   (fun j v hj=>by rw [Addr.add_lit,Nat.add_assoc]; exact hcs (i*2+j) v (by rwa [List.getElem?_drop] at hj))
   (fun j hj=>by rw [Nat.add_assoc]; exact hsp _ (by omega)) (fun j hj=>by rw [Nat.add_assoc]; exact hfz _ (by omega)) (fun v hv=>h1c v (List.mem_of_mem_drop hv))
 obtain ⟨W1,hW1⟩:∃W1,W1=w.drew.setCells b (off+(i+m)*2) (cs.drop (i*2)):=⟨_,rfl⟩
 have hsp1:∀k,k< (n+m)*2→(W1.cell? ⟨b,off+k,none⟩).isSome =true:=fun k hk=>by
  rw [hW1]
  exact isSome_setCells b _ _ _ (fun j hj=>by rw [Nat.add_assoc]; exact hsp _ (by omega)) _ (hsp k hk)
 have hcp2:∀(W:World),(∀x,W.cell? x=W1.cell? x)→(∀x,W.frozen? x=W1.frozen? x)→∀ty dc,(Builtin.copy_ #[25,25] ty #[.slice (some ⟨b,off+i*2,none⟩) (n+m-i) dc,.slice (some ⟨vb,voff,none⟩) m vc]).run Tryz.prog W= .ok (goInt (Nat.min m (n+m-i))) (W.setCells b (off+i*2) vs):=fun W hWc hWf ty dc=>
  zBA W _ _ ty 113 2 b (off+i*2) (n+m-i) dc ⟨vb,voff,none⟩ m vc vs Tryz.underlying25 hsz (by rw [hvl]; simp only [Nat.min_def]; split<;>omega)
   (fun j v hj=>by
    rw [Addr.add_lit,hWc,hW1,World.cell?_setCells_out b _ _ _ _ (fun h _=>absurd h hvb)]
    exact hvs j v hj)
   (fun j hj=>by rw [hWc,Nat.add_assoc]; exact hsp1 _ (by omega)) (fun j hj=>by rw [hWf,hW1,World.frozen?_setCells,Nat.add_assoc]; exact hfz _ (by omega)) h1v
 rw [←hW1] at hcp1
 clear hsp hfz hcs hvs hsp1 h1c h1v hdl hcl hvl
 go_enter Tryz.func196,Tryz.ntmps196
 go_wp2_with (simp only [hov])
 go_region_law_o (refine step_copy_runI rfl _ _ 25 25 rfl _ _ (by simp [Act.eval,Act.put]) (by simp [Act.eval,Act.put]) (hcp1 _ _ _) ?_)
 go_wp2_with (at_builtin; refine wpList_copy_runI _ rfl _ _ 25 25 rfl _ _ rfl rfl (hcp2 _ (fun _=>rfl) (fun _=>rfl) _ _) ?_)
 go_ret
 first|exact ⟨rfl,rfl⟩|exact ⟨rfl,by rw [hW1]⟩
set_option maxHeartbeats 4000000 in
set_option maxRecDepth 100000 in
theorem zFA (base:Option Addr) (n c vb voff m vc:Nat) (w w1:World) (r:Value) (hm:0<m) (hnc:n≤c) (h63:n+m≤9223372036854775807) (hnil:base=none→n=0∧c=0)
  (hrun:(Builtin.append_ #[25,25] 25 #[.slice base n c,.slice (some ⟨vb,voff,none⟩) m vc]).run Tryz.prog w= .ok r w1):
  Calls Tryz.prog 196 #[.slice base n c,.int .i64 n,.slice (some ⟨vb,voff,none⟩) m vc] w fun e w'=>e= .returned r∧w'=w1:=by
 have hz1:¬((m:Int)=0):=by omega
 have mixed:Tryz.prog.follows .mixedOrders =true:=by kernel_rfl
 go_enter Tryz.func196,Tryz.ntmps196
 cases base with
 |none=>
  obtain ⟨rfl,rfl⟩:=hnil rfl
  go_wp2_with (at_builtin; refine Lib.wpList_append_run _ rfl _ _ _ _ rfl _ _ rfl rfl _ _ hrun ?_)
  go_ret
  exact ⟨rfl,rfl⟩
 |some a=>
  obtain ⟨ab,ao,asp⟩:=a
  go_wp2_with (at_builtin; refine Lib.wpList_append_run _ rfl _ _ _ _ rfl _ _ rfl rfl _ _ hrun ?_)
  all_goals (go_ret; exact ⟨rfl,rfl⟩)
set_option maxHeartbeats 4000000 in
set_option maxRecDepth 100000 in
theorem zGY (b off n c i vb voff m vc:Nat) (cs vs:List Value) (w:World) (hi:i<n) (hm:0<m) (hnc:n≤c) (hroom:c<n+m) (hbig:(n+m)*40≤140737488355328)
  (hcl:cs.length=n*2) (hvl:vs.length=m*2)
  (hcs:∀j v,cs[j]? =some v→w.cell? ⟨b,off+j,none⟩=some v)
  (hvs:∀j v,vs[j]? =some v→w.cell? ⟨vb,voff+j,none⟩=some v) (h1c:∀v∈cs,v.oneCell'=true) (h1v:∀v∈vs,v.oneCell'=true) (zv:Value) (hzv:Tryz.t113.zero=some zv) (hzs:zv.cells.size=2):
  Calls Tryz.prog 196 #[.slice (some ⟨b,off,none⟩) n c,.int .i64 i,.slice (some ⟨vb,voff,none⟩) m vc] w fun e w'=>
   e= .returned (.slice (some ⟨w.heap.size,0,none⟩) (n+m) (grownCap w (n+m) c 113))∧
   w'=(((w.alloc (.cells ((cs.take (i*2)).toArray ++Builtin.zeroCells zv.cells (n+m-i)++Builtin.zeroCells zv.cells (grownCap w (n+m) c 113-(n+m))) 113)).drew.setCells w.heap.size (i*2) vs).drew).setCells w.heap.size ((i+m)*2) (cs.drop (i*2)):=by
 have mixed:Tryz.prog.follows .mixedOrders =true:=by kernel_rfl
 have hi0:Tryz.prog.info? 113=some Tryz.t113:=by kernel_rfl
 have hzz:Tryz.t113.size=2:=by kernel_rfl
 have hzb:Tryz.t113.bytes=40:=by kernel_rfl
 have hz1:¬((m:Int)=0):=by omega
 have hz2:¬((i:Int)=(n:Int)):=by omega
 have hz3:(c:Int)< (n:Int)+(m:Int):=by omega
 have hsz:(Tryz.prog.info? 113).map (·.size)=some 2:=by kernel_rfl
 have hbw:b<w.heap.size:=block_lt_of_cell (hcs 0 _ (List.getElem?_eq_getElem (by omega)))
 have hvw:vb<w.heap.size:=block_lt_of_cell (hvs 0 _ (List.getElem?_eq_getElem (by omega)))
 have hkk:(n:Int)+(m:Int)-(i:Int)=((n+m-i:Nat):Int):=by omega
 have hik:i+(n+m-i)=n+m:=by omega
 have hold:(Builtin.firstCells Tryz.t113.size i (.slice (some ⟨b,off,none⟩) i c)).run Tryz.prog w.drew= .ok (cs.take (i*2)).toArray w.drew:=by
  rw [hzz]
  exact run_firstCells_some w.drew 2 i ⟨b,off,none⟩ i c (cs.take (i*2)) (by rw [List.length_take]; omega) (fun j v hj=>by
   rw [Addr.add_lit]
   rw [List.getElem?_take] at hj
   split at hj
   ·exact hcs j v hj
   ·cases hj)
 have hrz:∀ty,(Builtin.append_ #[25,3] ty #[.slice (some ⟨b,off,none⟩) i c,.int .i64 ((n:Int)+(m:Int)-(i:Int))]).run Tryz.prog w=
   .ok (.slice (some ⟨w.heap.size,0,none⟩) (n+m) (grownCap w (n+m) c 113)) (w.drew.alloc (.cells ((cs.take (i*2)).toArray ++Builtin.zeroCells zv.cells (n+m-i)++Builtin.zeroCells zv.cells (grownCap w (n+m) c 113-(n+m))) 113)):=fun ty=>by
  have h:=Lib.run_append_grow_zeros w 25 3 ty 113 Tryz.t113 _ .i64 .i64 Tryz.underlying25 Tryz.underlying3 hi0 hzv (some ⟨b,off,none⟩) i c (cs.take (i*2)) hold (n+m-i) (by omega) (by omega) (by omega) (by omega) (by rw [hzb]; omega) (by rw [hzb,hik]; exact growslice_fits hroom hbig)
  rw [hik] at h
  rw [hkk]
  exact h
 obtain ⟨G,hG⟩:∃G,G=grownCap w (n+m) c 113:=⟨_,rfl⟩
 obtain ⟨ROW,hROW⟩:∃ROW:Array Value,ROW=(cs.take (i*2)).toArray ++Builtin.zeroCells zv.cells (n+m-i)++Builtin.zeroCells zv.cells (G-(n+m)):=⟨_,rfl⟩
 rw [←hG] at hrz ⊢
 rw [←hROW] at hrz ⊢
 have hRl:(n+m)*2≤ROW.size:=by
  rw [hROW]
  simp [Builtin.zeroCells,hzs]
  omega
 obtain ⟨W1,hW1⟩:∃W1,W1=w.drew.alloc (.cells ROW 113):=⟨_,rfl⟩
 rw [←hW1] at hrz
 have hN:∀j,j< (n+m)*2→(W1.cell? ⟨w.heap.size,j,none⟩).isSome =true:=fun j hj=>by
  rw [hW1,World.cell?_alloc_at (w:=w.drew) ROW _ w.heap.size j rfl,Array.getElem?_eq_getElem (by omega)]; rfl
 have hNf:∀j,W1.frozen? ⟨w.heap.size,j,none⟩=false:=fun j=>by rw [hW1]; exact World.frozen?_alloc_at (w:=w.drew) ROW _ w.heap.size j rfl
 have hOb:∀j v,w.cell? ⟨b,j,none⟩=some v→W1.cell? ⟨b,j,none⟩=some v:=fun j v h=>by rw [hW1,World.cell?_alloc_past (w:=w.drew) _ b j hbw]; exact h
 have hOv:∀j v,w.cell? ⟨vb,j,none⟩=some v→W1.cell? ⟨vb,j,none⟩=some v:=fun j v h=>by rw [hW1,World.cell?_alloc_past (w:=w.drew) _ vb j hvw]; exact h
 have hcpA:∀(W:World),(∀x,W.cell? x=W1.cell? x)→(∀x,W.frozen? x=W1.frozen? x)→∀ty dc,(Builtin.copy_ #[25,25] ty #[.slice (some ⟨w.heap.size,i*2,none⟩) (n+m-i) dc,.slice (some ⟨vb,voff,none⟩) m vc]).run Tryz.prog W= .ok (goInt (Nat.min m (n+m-i))) (W.setCells w.heap.size (i*2) vs):=fun W hWc hWf ty dc=>
  zBA W _ _ ty 113 2 w.heap.size (i*2) (n+m-i) dc ⟨vb,voff,none⟩ m vc vs Tryz.underlying25 hsz (by rw [hvl]; simp only [Nat.min_def]; split<;>omega)
   (fun j v hj=>by rw [Addr.add_lit,hWc]; exact hOv _ v (hvs j v hj))
   (fun j hj=>by rw [hWc]; exact hN _ (by omega)) (fun j hj=>by rw [hWf]; exact hNf _) h1v
 have hGn:n+m≤G:=by rw [hG]; exact grownCap_ge w _ _ _
 have hG63:G≤9223372036854775807:=by
  have:=grownCap_le_maxLen w (n+m) c 113 (by unfold maxLen; omega)
  rw [←hG] at this
  unfold maxLen at this
  omega
 have hGi:¬(G=i):=by omega
 have hGim:¬(G=i+m):=by omega
 have hci:¬(c=i):=by omega
 have hbN:b≠w.heap.size:=by omega
 have hdl:(cs.drop (i*2)).length =(n-i)*2:=by rw [List.length_drop,hcl]; omega
 have hcpB:∀(W:World),(∀x,W.cell? x=(W1.setCells w.heap.size (i*2) vs).cell? x)→(∀x,W.frozen? x=(W1.setCells w.heap.size (i*2) vs).frozen? x)→∀ty dc sc,(Builtin.copy_ #[25,25] ty #[.slice (some ⟨w.heap.size,(i+m)*2,none⟩) (n+m-(i+m)) dc,.slice (some ⟨b,off+i*2,none⟩) (n-i) sc]).run Tryz.prog W= .ok (goInt (Nat.min (n-i) (n+m-(i+m)))) (W.setCells w.heap.size ((i+m)*2) (cs.drop (i*2))):=fun W hWc hWf ty dc sc=>
  zBA W _ _ ty 113 2 w.heap.size ((i+m)*2) (n+m-(i+m)) dc ⟨b,off+i*2,none⟩ (n-i) sc (cs.drop (i*2)) Tryz.underlying25 hsz (by rw [hdl]; simp only [Nat.min_def]; split<;>omega)
   (fun j v hj=>by
    rw [Addr.add_lit,hWc,World.cell?_setCells_out _ _ _ _ _ (fun h _=>absurd h hbN),Nat.add_assoc]
    exact hOb _ v (hcs (i*2+j) v (by rwa [List.getElem?_drop] at hj)))
   (fun j hj=>by rw [hWc]; exact isSome_setCells _ _ _ _ (fun t ht=>hN _ (by omega)) _ (hN _ (by omega)))
   (fun j hj=>by rw [hWf,World.frozen?_setCells]; exact hNf _) (fun v hv=>h1c v (List.mem_of_mem_drop hv))
 subst hW1
 have hE1:∀x,((w.alloc (.cells ROW 113)).drew).cell? x=(w.drew.alloc (.cells ROW 113)).cell? x:=fun x=>rfl
 have hE2:∀x,((w.alloc (.cells ROW 113)).drew).frozen? x=(w.drew.alloc (.cells ROW 113)).frozen? x:=fun x=>rfl
 have hF1:∀x,(((w.alloc (.cells ROW 113)).drew.setCells w.heap.size (i*2) vs).drew).cell? x=((w.drew.alloc (.cells ROW 113)).setCells w.heap.size (i*2) vs).cell? x:=fun x=>rfl
 have hF2:∀x,(((w.alloc (.cells ROW 113)).drew.setCells w.heap.size (i*2) vs).drew).frozen? x=((w.drew.alloc (.cells ROW 113)).setCells w.heap.size (i*2) vs).frozen? x:=fun x=>rfl
 have hw1:IntKind.i64.wrap ((i:Int)+(m:Int))=(i:Int)+(m:Int):=by rw [IntKind.wrap_i64]; omega
 have hb1:(0:Int)≤(i:Int)+(m:Int):=by omega
 have hin:i≤n:=by omega
 have htn:((i:Int)+(m:Int)).toNat =i+m:=by omega
 have hb3:(i:Int)≤(n:Int):=by omega
 clear hkk hik hold hROW hG hRl hcs hvs hOb hOv hN hNf h1c h1v hcl hvl hdl hzv hzs
 go_enter Tryz.func196,Tryz.ntmps196
 go_wp2_with (first
  |(at_builtin; refine Lib.wpList_append_run _ rfl _ _ _ _ rfl _ _ rfl rfl _ _ (hrz _) ?_)
  |(at_builtin; refine wpList_copy_runI _ rfl _ _ 25 25 rfl _ _ rfl rfl (hcpA _ hE1 hE2 _ _) ?_)
  |(at_builtin; refine wpList_copy_runI _ rfl _ _ 25 25 rfl _ _ rfl rfl (hcpB _ (fun _=>rfl) (fun _=>rfl) _ _ _) ?_))
 go_region_law_o (refine step_copy_runI rfl _ _ 25 25 rfl (.slice (some ⟨w.heap.size,(i+m)*2,none⟩) (n+m-(i+m)) (G-(i+m))) (.slice (some ⟨b,off+i*2,none⟩) (n-i) (c-i)) (by simp [Act.eval,Act.put]) (by simp [Act.eval,Act.put]) (hcpB _ hF1 hF2 3 (G-(i+m)) (c-i)) ?_)
 go_wp2
 go_ret
 exact ⟨rfl,rfl⟩
theorem zHe (n m:Nat) (i:Int) (h0:0≤i) (h1:i≤n) (hm:0<m) (hbig:n+m≤1099511627776) (w:World) (v u:Value) (wx wy:List Value) (bx bz:List Nat) (hD1:Dst w 2 n v wx bx) (hD2:Dst w 2 m u wy bz) (hd:∀b∈bx,b∉bz) (q1:∀q∈wx,Value.oneCell q=true) (q2:∀q∈wy,Value.oneCell q=true):
  Calls Tryz.prog 196 #[v,.int .i64 i,u] w fun e w'=>∃r,e= .returned r∧zGg w w' 2 (n+m) 0 (wx.take (i.toNat*2)++(wy++wx.drop (i.toNat*2))) [] bx r:=by
 obtain ⟨k,rfl⟩:=Int.eq_ofNat_of_zero_le h0
 have hk:k≤n:=by omega
 rw [Int.toNat_natCast]
 have e1:∀q∈wx,q.oneCell'=true:=fun q hq=>by rw [zCe]; exact q1 q hq
 have e2:∀q∈wy,q.oneCell'=true:=fun q hq=>by rw [zCe]; exact q2 q hq
 rcases hD2 with ⟨_,hm0,_⟩|⟨vb,voff,vc,rfl,rfl,hmc,hO2,hl2⟩
 ·omega
 have hvs:∀j v,wy[j]? =some v→w.cell? ⟨vb,voff+j,none⟩=some v:=fun j v hj=>by
  obtain ⟨hlt,rfl⟩:=List.getElem?_eq_some_iff.1 hj
  exact hO2.has.cell j hlt
 by_cases hkn:k=n
 ·subst hkn
  have hsrc:Go.Src Tryz.prog 2 25 (.slice (some ⟨vb,voff,none⟩) m vc) m wy w:=zBV Tryz.underlying25 q2 (.inr ⟨vb,voff,vc,rfl,hO2.has,hl2⟩)
  have hl1:wx.length=k*2:=by
   rcases hD1 with ⟨_,rfl,rfl,_⟩|⟨_,_,_,_,_,_,_,h⟩
   ·rfl
   ·exact h
  obtain ⟨r,w1,hrun,hA⟩:=zCp (ty:=25) (T:=25) (U:=25) (bytes:=40) (zv:=zER Tryz.prog 113) Tryz.underlying25 (by kernel_rfl) (by kernel_rfl) hD1 hsrc (by omega) (by omega)
  have hA':zGg w w1 2 (k+m) 0 (wx.take (k*2)++(wy++wx.drop (k*2))) [] bx r:=by
   rw [List.take_of_length_le (by omega),List.drop_of_length_le (by omega),List.append_nil]
   obtain ⟨g1,g2⟩:=hA
   refine ⟨g1,?_⟩
   rcases g2 with ⟨g2,_⟩|⟨b,off,c,g3,g4,g5,g6⟩
   ·omega
   ·exact .inr ⟨b,off,c,g3,g4,by rw [List.append_nil]; exact g5,g6⟩
  rcases hD1 with ⟨rfl,rfl,rfl,rfl⟩|⟨b,off,c,rfl,rfl,hnc,hO1,_⟩
  ·refine (zFA none 0 0 vb voff m vc w w1 r hm (Nat.le_refl _) (by omega) (fun _=>⟨rfl,rfl⟩) hrun).mono ?_
   rintro e w' ⟨rfl,rfl⟩
   exact ⟨_,rfl,hA'⟩
  ·refine (zFA (some ⟨b,off,none⟩) k c vb voff m vc w w1 r hm hnc (by omega) (fun h=>by cases h) hrun).mono ?_
   rintro e w' ⟨rfl,rfl⟩
   exact ⟨_,rfl,hA'⟩
 ·rcases hD1 with ⟨_,hn0,_⟩|⟨b,off,c,rfl,rfl,hnc,hO1,hl1⟩
  ·omega
  have hvb:vb≠b:=fun e=>hd b (by simp) (by simp [e])
  have hcs:∀j v,wx[j]? =some v→w.cell? ⟨b,off+j,none⟩=some v:=fun j v hj=>by
   obtain ⟨hlt,rfl⟩:=List.getElem?_eq_some_iff.1 hj
   exact hO1.has.cell j hlt
  by_cases hroom:n+m≤c
  ·obtain ⟨arr,e,lo,hi,g1,g2,g3,g4⟩:=id hO1
   obtain ⟨arr2,e',lo2,hi2,p1,p2,p3,p4⟩:=hO2
   refine (zFF b off n c k vb voff m vc wx wy w (by omega) hm hroom (by omega) hvb hl1 hl2 hcs (fun j hj=>?_) (fun j hj=>zCd g1 g2 (by omega)) hvs e1 e2 e' e arr2.size arr.size (by simp [World.shape?,p1]) (by simp [World.shape?,g1]) (by omega) (zCd p1 p2 (by omega)) (zCd p1 p2 (Nat.le_refl _))).mono ?_
   ·rw [cell_of g1,Array.getElem?_eq_getElem (by omega)]; rfl
   ·rintro e' w' ⟨rfl,rfl⟩
    refine ⟨_,rfl,?_⟩
    rw [xO,xO]
    exact zFV (w:=w) (w0:=w.drew) ⟨rfl,rfl,rfl⟩ hO1 hl1 hl2 hk hroom
  ·refine (zGY b off n c k vb voff m vc wx wy w (by omega) hm hnc (by omega) (by omega) hl1 hl2 hcs hvs e1 e2 (zER Tryz.prog 113) (by kernel_rfl) (by kernel_rfl)).mono ?_
   rintro e' w' ⟨rfl,rfl⟩
   refine ⟨_,rfl,?_⟩
   have hge:=grownCap_ge w (n+m) c 113
   have hz2:(zER Tryz.prog 113).cells.size =2:=by kernel_rfl
   rw [←drew_setCells,xO,xO]
   refine zGg.world (zGX (w:=w) (w0:=(w.alloc (.cells ((wx.take (k*2)).toArray ++Builtin.zeroCells (zER Tryz.prog 113).cells (n+m-k)++Builtin.zeroCells (zER Tryz.prog 113).cells (grownCap w (n+m) c 113-(n+m))) 113)).drew) (c:=grownCap w (n+m) c 113) (z:=2) (blk:=[b]) ⟨rfl,rfl,rfl⟩ (fun q hq=>?_) ?_ hl1 hl2 hk hge) (by omega) rfl ⟨rfl,rfl⟩
   ·rw [Array.append_assoc,Array.getElem?_append_left (by simp; omega)]
    simp [List.getElem?_take,hq]
   ·simp [Builtin.zeroCells,hz2]
    omega
theorem xV.ok (a1:List File) (a2:Int) (a3:List File):Ok Tryz.prog 196 [rr 0 a1,iv a2,rr 1 a3] [rE 2 (File.enc true) a1,rE 2 (File.enc true) a3] ((xV a1 a2 a3).map fun r=>(so 2 (File.enc true) r,[])):=by
 unfold xV
 split
 ·rename_i h
  obtain ⟨h0,h1,h2,h3⟩:=h
  exact zGp (fun _=>rfl) h0 h1 (fun w v u wx wy bx bz hD1 hD2 hd _ q1 q2=>zHe a1.length a3.length a2 h0 h1 h2 h3 w v u wx wy bx bz hD1 hD2 hd q1 q2)
 ·exact fun _ h=>by cases h
end
noncomputable def zKa:Code:=(Tryz.f197.body).getD .skip
theorem xL.ok (a1:(List Int)):Ok Tryz.prog 197 [sl 1 eU8 a1] [] ((xL a1).map fun r=>(so 1 eU8 r,[])):=by
 refine zL zKa Tryz.f197 0 8 (fun q=>?_)
 unfold xL
 refine J_g 2 [] [(0,sl 1 eU8 a1)] [] zB ?_
 refine J_d 12 [] [4] [(4,.nb a1.length)] [] [] (zK 1 (zFi (xs:=a1) 111 5 111 1 eU8 (.tmp 3)) zB) ?_
 refine zJ4 4 rfl (fun h2=>?_) ?_
 ·obtain rfl:a1=[]:=List.eq_nil_of_length_eq_zero h2
  refine zGi (e':=some ([]:List Int)) (by kernel_rfl) ?_
  refine J_g 52 [] [(2,nv)] [] zB ?_
  exact zBG (ds:=[nv]) (ds':=[so 1 eU8 ([]:List Int)]) (.cons (.cell (.nilsl true 1 (.nil))) (.nil) (by decide)) rfl
 ·refine zA (fun x3 h4=>?_)
  refine J_g 14 [] [(2,rr 1 x3)] [(1,rE 1 eU8 x3)] (zK 0 (zEQ 111 5 1 0 eU8 ([]:List Int) [] [] []) (zK 2 (zGb 111 111 5 5 1 1 1 0 eU8 (.tmp 5) (.tmp 6) h4) zB)) ?_
  exact zBG (ds:=[rr 1 x3]) (ds':=[so 1 eU8 x3]) (.cons (.cell (.move (.head _) (List.length_map _) (by decide) (.nil))) (.nil) (by decide)) rfl
noncomputable def zJB:Code:=(Tryz.f115.body).getD .skip
theorem yO.ok (a1:zC) (a2:ByteArray) (a3:(List Int)):Ok Tryz.prog 115 [pp 0,sv a2,sl 1 eU8 a3] [.box (zC.enc true a1)] ((yO a1 a2 a3).map fun r=>(.tu [],[.box (zC.enc true r)])):=by
 refine zL zJB Tryz.f115 1 39 (fun q=>?_)
 unfold yO
 refine zC3 0 (cs':=[rr 1 a1.Files,iv a1.Budget,iv a1.Writes,iv a1.Stop,bv a1.Down]) (es:=[(1,rE 2 (File.enc true) a1.Files)]) rfl (.cons (.own 1) (.cons (.same rfl rfl) (.cons (.same rfl rfl) (.cons (.same rfl rfl) (.cons (.same rfl rfl) (.nil)))))) rfl (by kernel_rfl) (by kernel_rfl) ?_
 refine zDr [(0,pp 0),(1,sv a2),(2,sl 1 eU8 a3)] [(0,.box [rr 1 a1.Files,iv a1.Budget,iv a1.Writes,iv a1.Stop,bv a1.Down]),(1,rE 2 (File.enc true) a1.Files)] (by kernel_rfl) ?_
 refine zA (fun x4 h5=>?_)
 refine J_g 2 [] [(0,pp 0),(1,sv a2),(2,sl 1 eU8 a3),(6,iv x4.1),(7,bv x4.2)] [(0,.box [rr 1 a1.Files,iv a1.Budget,iv a1.Writes,iv a1.Stop,bv a1.Down]),(1,rE 2 (File.enc true) a1.Files)] (zK 4 (zAQ («as»:=[.ag [rr 1 a1.Files,iv a1.Budget,iv a1.Writes,iv a1.Stop,bv a1.Down],sv a2]) [(.tmp 11),(.tmp 12)] [103,9] true [(1,rE 2 (File.enc true) a1.Files)] [] (.cons (.ag (.cons (zCA (.head _) (File.ro true) rfl) (.cons (.same rfl) (.cons (.same rfl) (.cons (.same rfl) (.cons (.same rfl) (.nil))))))) (.cons (.same rfl) (.nil))) (tY.ok a1 a2) h5 (.tu (.cons (.same rfl rfl) (.cons (.same rfl rfl) (.nil)))) (hbor:=fun _=>⟨fhN,(zHZ (flatK yD (flatK yD zCz)))⟩)) zB) ?_
 refine J_d 12 [] [7,17] [(17,bv (!x4.2))] [] [] zB ?_
 refine zAZ (atI zJB 7) (fun v9:(List File)=>St.mk' [(0,pp 0),(2,sl 1 eU8 a3),(6,iv x4.1)] [(0,.box [rr 3 v9,iv a1.Budget,iv a1.Writes,iv a1.Stop,bv a1.Down]),(3,rE 2 (File.enc true) v9)]) (fun v9=>?_) (fun jv9=>?_)
 ·refine zA (fun x10 h11=>?_)
  refine zA (fun x12 h13=>?_)
  refine J_g 7 [] [] [(0,.box [rr 3 v9,iv a1.Budget,iv a1.Writes,iv a1.Stop,bv a1.Down]),(3,rE 2 (File.enc true) (v9.set x4.1.toNat ({Path:=x12.Path,Data:=x10}:File)))] (zK 6 (zAQ («as»:=[sl 1 eU8 a3]) [(.tmp 35)] [111] false [] [] (.cons (.same rfl) (.nil)) (xL.ok a3) h11 (.own 4)) (zK 7 (zBk (kk:=.i64) 25 113 2 3 (File.enc true) (.tmp 33) (.tmp 34) h13) (zD3 9 (zIj (b:=({Path:=x12.Path,Data:=x10}:File)) (es':=[so 1 eU8 x10]) (ts:=[4]) 111 2 3 1 (File.enc true) (rr 4 x10) (.tmp 38) (.tmp 36) [(4,rE 1 eU8 x10)] h13 (.move (.head _) (List.length_map _) (by decide) (.nil)) rfl) zB))) ?_
  refine zCj (σ':=St.mk' [] [(0,.box [rr 3 (v9.set x4.1.toNat ({Path:=x12.Path,Data:=x10}:File)),iv a1.Budget,iv a1.Writes,iv a1.Stop,bv a1.Down]),(3,rE 2 (File.enc true) (v9.set x4.1.toNat ({Path:=x12.Path,Data:=x10}:File)))]) (by simp only [rr,List.length_set]) ?_
  refine zF3 0 (cs':=[so 2 (File.enc true) (v9.set x4.1.toNat ({Path:=x12.Path,Data:=x10}:File)),iv a1.Budget,iv a1.Writes,iv a1.Stop,bv a1.Down]) (ts:=[3]) rfl (.move (.head _) (List.length_map _) (by decide) (.keep rfl (.keep rfl (.keep rfl (.keep rfl (.nil)))))) ?_
  refine zDr [] [(0,.box [so 2 (File.enc true) (v9.set x4.1.toNat ({Path:=x12.Path,Data:=x10}:File)),iv a1.Budget,iv a1.Writes,iv a1.Stop,bv a1.Down])] (by kernel_rfl) ?_
  exact zJh rfl
 ·refine zG 17 (fun h6=>?_) (fun h6=>?_)
  ·refine zA (fun x7 h8=>?_)
   refine J_d 26 [] [1,17] [] [0,1,3] [(0,.box [rr 3 x7,iv a1.Budget,iv a1.Writes,iv a1.Stop,bv a1.Down]),(3,rE 2 (File.enc true) x7)] (zK 8 (zIm (ds:=[sv a2,nv]) (ts:=[]) 25 113 2 2 (File.enc true) [({Path:=a2,Data:=([]:List Int)}:File)] [0] [(.tmp 25)] [.ag [sv a2,nv]] [] (.keep rfl (.nilsl true 1 (.nil)))) (zK 9 (zAQ («as»:=[rr 1 a1.Files,iv x4.1,rr 2 [({Path:=a2,Data:=([]:List Int)}:File)]]) [(.tmp 22),(.tmp 23),(.tmp 26)] [25,3,25] false [(1,rE 2 (File.enc true) a1.Files),(2,rE 2 (File.enc true) [({Path:=a2,Data:=([]:List Int)}:File)])] [1,2] (.cons (.rf rfl) (.cons (.same rfl) (.cons (.rf rfl) (.nil)))) (xV.ok a1.Files x4.1 [({Path:=a2,Data:=([]:List Int)}:File)]) h8 (.own 3)) zB)) ?_
   exact vX (J_j (jv9 x7)) rfl
  ·refine zGP 1 3 (Nat.le_of_ble_eq_true rfl) (Nat.le_of_ble_eq_true rfl) ?_
   exact vX (J_j (jv9 a1.Files)) rfl
theorem xW.ok (a1 a2:Int):Ok Tryz.prog 215 [iv a1,iv a2] [] ((xW a1 a2).map fun r=>(sv r,[])):=by
 unfold xW
 split
 ·rename_i h
  obtain ⟨rfl,h0,h1⟩:=h
  exact zIk (vs:=[.int .i64 a1,.int .i64 10]) (fun w hG=>Tryz.strconv_FormatInt_10 a1 h0 h1 w (zHm (g:=1) hG (by kernel_rfl) (by kernel_rfl)))
 ·exact fun _ h=>by cases h
noncomputable def c138:Code:=(Tryz.f138.body).getD .skip
theorem zBC.ok (a1:Int):Ok Tryz.prog 138 [iv a1] [] ((zBC a1).map fun r=>(sv r,[])):=by
 refine zL c138 Tryz.f138 0 5 (fun q=>?_)
 unfold zBC
 refine J_g 2 [] [(0,iv a1)] [] zB ?_
 refine zA (fun x2 h3=>?_)
 refine J_g 6 [] [(2,sv x2)] [] (zK 1 (xP [(.tmp 3),(.const (.int .i64 10))] [2,3] (xW.ok a1 10) h3) zB) ?_
 exact zU rfl
theorem strings_Repeat.ok (a1:ByteArray) (a2:Int):Ok Tryz.prog 198 [sv a1,iv a2] [] ((strings_Repeat a1 a2).map fun r=>(sv r,[])):=by
 unfold strings_Repeat
 split
 ·rename_i h
  obtain ⟨h0,h1,h2⟩:=h
  obtain ⟨n,rfl⟩:=Int.eq_ofNat_of_zero_le h0
  exact zHv (vs:=[.string a1,.int .i64 n]) (fun w=>Tryz.strings_Repeat a1 n w (by omega) h2)
 ·exact fun _ h=>by cases h
noncomputable def c116:Code:=(Tryz.f116.body).getD .skip
theorem zAe.ok (a1:Int):Ok Tryz.prog 116 [iv a1] [] ((zAe a1).map fun r=>(sv r,[])):=by
 refine zL c116 Tryz.f116 0 13 (fun q=>?_)
 unfold zAe
 refine J_g 2 [] [(0,iv a1)] [] zB ?_
 refine zA (fun x2 h3=>?_)
 refine J_g 6 [] [(3,sv x2)] [] (zK 1 (xP [(.tmp 4)] [2] (zBC.ok a1) h3) zB) ?_
 refine zA (fun x4 h5=>?_)
 refine zA (fun x6 h7=>?_)
 refine zA (fun x8 h9=>?_)
 refine J_g 14 [] [(2,sv x8)] [] (zK 3 (xP [(.const (.string (bs [48]))),(.tmp 8)] [9,3] (strings_Repeat.ok (bs [48]) (w64 (6-(x2.size:Int)))) h5) (zK 4 (zFJ 9 9 (.const (.string (bs [103,101,110,47]))) (.tmp 9) h7) (zK 6 (zFJ 9 9 (.tmp 10) (.tmp 11) h9) zB))) ?_
 exact zU rfl
noncomputable def c51:Code:=(Tryz.f51.body).getD .skip
theorem jO.ok (a1:Int):Ok Tryz.prog 51 [iv a1] [] ((jO a1).map fun r=>(.ag (zZ.enc true r),[])):=by
 refine zL c51 Tryz.f51 0 23 (fun q=>?_)
 unfold jO
 refine J_g 2 [(0,0)] [(0,iv a1),(2,pp 0)] [(0,.box [iv 0,nv,iv 0,iv 0,iv 0,bv false])] zB ?_
 refine zA (fun x2 h3=>?_)
 refine J_d 24 [] [4] [(4,bv (!x2))] [] [] (zK 1 (xP [(.tmp 5),(.const (.int .i64 0)),(.const (.int .i64 20000))] [2,2,2] (yN.ok a1 0 20000) h3) zB) ?_
 refine zG 4 (fun h4=>?_) (fun h4=>?_)
 ·refine J_g 100 [] [(2,pp 0)] [(0,.box [iv 3,nv,iv 0,iv 0,iv 0,bv false])] zB ?_
  exact zBG (ds:=[.ag [iv 3,nv,iv 0,iv 0,iv 0,bv false]]) (ds':=[.ag [iv 3,so 2 (File.enc true) ([]:List File),iv 0,iv 0,iv 0,bv false]]) (.cons (.ag (.keep rfl (.nilsl true 2 (.keep rfl (.keep rfl (.keep rfl (.keep rfl (.nil)))))))) (.nil) (by decide)) rfl
 ·refine J_d 102 [] [4,9] [(9,bv (a1==0))] [] [] zB ?_
  refine zG 9 (fun h5=>?_) (fun h5=>?_)
  ·refine J_g 412 [] [(2,pp 0)] [(0,.box [iv 8,nv,iv 0,iv 0,iv 0,bv false])] zB ?_
   exact zBG (ds:=[.ag [iv 8,nv,iv 0,iv 0,iv 0,bv false]]) (ds':=[.ag [iv 8,so 2 (File.enc true) ([]:List File),iv 0,iv 0,iv 0,bv false]]) (.cons (.ag (.keep rfl (.nilsl true 2 (.keep rfl (.keep rfl (.keep rfl (.keep rfl (.nil)))))))) (.nil) (by decide)) rfl
  ·refine J_g 14 [(2,1)] [(2,pp 0),(3,pp 1)] [(0,.box [iv 0,nv,iv 0,iv 0,iv 0,bv false]),(1,.box [nv,iv a1,iv 0,iv (-1),bv false])] zB ?_
   refine zF3 1 (cs':=[so 2 (File.enc true) ([]:List File),iv a1,iv 0,iv (-1),bv false]) (ts:=[]) rfl (.nilsl true 2 (.keep rfl (.keep rfl (.keep rfl (.keep rfl (.nil)))))) ?_
   refine zDr [(2,pp 0),(3,pp 1)] [(0,.box [iv 0,nv,iv 0,iv 0,iv 0,bv false]),(1,.box [so 2 (File.enc true) ([]:List File),iv a1,iv 0,iv (-1),bv false])] (by kernel_rfl) ?_
   refine zA (fun x6 h7=>?_)
   refine J_g 30 [] [(2,pp 0),(3,pp 1)] [(0,.box [iv 0,nv,iv 0,iv 0,iv 0,bv false]),(1,.box (zC.enc true x6))] (zK 0 (zEQ 111 5 1 2 eU8 [49] [0] [(.const (.int .u8 49))] [uv 49]) (zK 1 (zIN (xs:=[49]) 111 5 2 (.tmp 15)) (zK 2 (zAQ («as»:=[pp 1,sv (bs [99,117,114]),sl 1 eU8 [49]]) [(.tmp 3),(.const (.string (bs [99,117,114]))),(.tmp 16)] [27,9,111] false [(1,.box [so 2 (File.enc true) ([]:List File),iv a1,iv 0,iv (-1),bv false])] [1] (.cons (.pt rfl) (.cons (.same rfl) (.cons (.same rfl) (.nil)))) (yO.ok ({Files:=([]:List File),Budget:=a1,Writes:=0,Stop:=(-1),Down:=false}:zC) (bs [99,117,114]) [49]) h7 (.tu (.nil))) zB))) ?_
   refine zC3 1 (cs':=[rr 2 x6.Files,iv x6.Budget,iv x6.Writes,iv x6.Stop,bv x6.Down]) (es:=[(2,rE 2 (File.enc true) x6.Files)]) rfl (.cons (.own 2) (.cons (.same rfl rfl) (.cons (.same rfl rfl) (.cons (.same rfl rfl) (.cons (.same rfl rfl) (.nil)))))) rfl (by kernel_rfl) (by kernel_rfl) ?_
   refine zDr [(2,pp 0),(3,pp 1)] [(0,.box [iv 0,nv,iv 0,iv 0,iv 0,bv false]),(1,.box [rr 2 x6.Files,iv x6.Budget,iv x6.Writes,iv x6.Stop,bv x6.Down]),(2,rE 2 (File.enc true) x6.Files)] (by kernel_rfl) ?_
   refine zA (fun x8 h9=>?_)
   refine zF3 1 (cs':=[so 2 (File.enc true) x6.Files,iv x6.Budget,iv x6.Writes,iv x6.Stop,bv x6.Down]) (ts:=[2]) rfl (.move (.tail _ (.head _)) (List.length_map _) (by decide) (.keep rfl (.keep rfl (.keep rfl (.keep rfl (.nil)))))) ?_
   refine zDr [(2,pp 0),(3,pp 1)] [(0,.box [iv 0,nv,iv 0,iv 0,iv 0,bv false]),(1,.box (zC.enc true x6))] (by kernel_rfl) ?_
   refine zA (fun x10 h11=>?_)
   refine J_g 62 [] [(2,pp 0),(3,pp 1)] [(0,.box [iv 0,nv,iv 0,iv 0,iv 0,bv false]),(1,.box (zC.enc true x10))] (zK 0 (xP [(.const (.int .i64 1))] [2] (zAe.ok 1) h9) (zK 1 (zAQ («as»:=[pp 1,sv x8,nv]) [(.tmp 3),(.tmp 18),(.const (.slice none 0 0))] [27,9,111] false [(1,.box (zC.enc true x6))] [1] (.cons (.pt rfl) (.cons (.same rfl) (.cons (.nil false 1) (.nil)))) (yO.ok x6 x8 ([]:List Int)) h11 (.tu (.nil))) zB)) ?_
   refine zC3 1 (cs':=[rr 2 x10.Files,iv x10.Budget,iv x10.Writes,iv x10.Stop,bv x10.Down]) (es:=[(2,rE 2 (File.enc true) x10.Files)]) rfl (.cons (.own 2) (.cons (.same rfl rfl) (.cons (.same rfl rfl) (.cons (.same rfl rfl) (.cons (.same rfl rfl) (.nil)))))) rfl (by kernel_rfl) (by kernel_rfl) ?_
   refine zDr [(2,pp 0),(3,pp 1)] [(0,.box [iv 0,nv,iv 0,iv 0,iv 0,bv false]),(1,.box [rr 2 x10.Files,iv x10.Budget,iv x10.Writes,iv x10.Stop,bv x10.Down]),(2,rE 2 (File.enc true) x10.Files)] (by kernel_rfl) ?_
   refine zF3 1 (cs':=[so 2 (File.enc true) x10.Files,iv x10.Budget,iv x10.Writes,iv x10.Stop,bv x10.Down]) (ts:=[2]) rfl (.move (.tail _ (.head _)) (List.length_map _) (by decide) (.keep rfl (.keep rfl (.keep rfl (.keep rfl (.nil)))))) ?_
   refine zDr [(2,pp 0),(3,pp 1)] [(0,.box [iv 0,nv,iv 0,iv 0,iv 0,bv false]),(1,.box (zC.enc true x10))] (by kernel_rfl) ?_
   refine zA (fun x12 h13=>?_)
   refine J_g 126 [] [(2,pp 0),(3,pp 1)] [(0,.box [iv 0,nv,iv 0,iv 0,iv 0,bv false]),(1,.box (zC.enc true x12))] (zK 0 (zAQ («as»:=[pp 1,sv (bs [114,111,111,116,115]),nv]) [(.tmp 3),(.const (.string (bs [114,111,111,116,115]))),(.const (.slice none 0 0))] [27,9,111] false [(1,.box (zC.enc true x10))] [1] (.cons (.pt rfl) (.cons (.same rfl) (.cons (.nil false 1) (.nil)))) (yO.ok x10 (bs [114,111,111,116,115]) ([]:List Int)) h13 (.tu (.nil))) zB) ?_
   refine zC3 1 (cs':=[rr 2 x12.Files,iv x12.Budget,iv x12.Writes,iv x12.Stop,bv x12.Down]) (es:=[(2,rE 2 (File.enc true) x12.Files)]) rfl (.cons (.own 2) (.cons (.same rfl rfl) (.cons (.same rfl rfl) (.cons (.same rfl rfl) (.cons (.same rfl rfl) (.nil)))))) rfl (by kernel_rfl) (by kernel_rfl) ?_
   refine zDr [(2,pp 0),(3,pp 1)] [(0,.box [iv 0,nv,iv 0,iv 0,iv 0,bv false]),(1,.box [rr 2 x12.Files,iv x12.Budget,iv x12.Writes,iv x12.Stop,bv x12.Down]),(2,rE 2 (File.enc true) x12.Files)] (by kernel_rfl) ?_
   refine J_g 254 [] [(2,pp 0)] [(0,.box [iv 0,rr 2 x12.Files,iv x12.Budget,iv x12.Writes,iv x12.Stop,bv x12.Down]),(2,rE 2 (File.enc true) x12.Files)] zB ?_
   exact zBG (ds:=[.ag [iv 0,rr 2 x12.Files,iv x12.Budget,iv x12.Writes,iv x12.Stop,bv x12.Down]]) (ds':=[.ag [iv 0,so 2 (File.enc true) x12.Files,iv x12.Budget,iv x12.Writes,iv x12.Stop,bv x12.Down]]) (.cons (.ag (.keep rfl (.move (.tail _ (.head _)) (List.length_map _) (by decide) (.keep rfl (.keep rfl (.keep rfl (.keep rfl (.nil)))))))) (.nil) (by decide)) rfl
noncomputable def c117:Code:=(Tryz.f117.body).getD .skip
theorem yT.ok (a1:(List ByteArray)):Ok Tryz.prog 117 [sl 1 eStr a1] [] ((yT a1).map fun r=>(so 1 eStr r,[])):=by
 refine zL c117 Tryz.f117 0 8 (fun q=>?_)
 unfold yT
 refine J_g 2 [] [(0,sl 1 eStr a1)] [] zB ?_
 refine J_d 12 [] [4] [(4,.nb a1.length)] [] [] (zK 1 (zFi (xs:=a1) 70 9 70 1 eStr (.tmp 3)) zB) ?_
 refine zJ4 4 rfl (fun h2=>?_) ?_
 ·obtain rfl:a1=[]:=List.eq_nil_of_length_eq_zero h2
  refine zGi (e':=some ([]:List ByteArray)) (by kernel_rfl) ?_
  refine J_g 52 [] [(2,nv)] [] zB ?_
  exact zBG (ds:=[nv]) (ds':=[so 1 eStr ([]:List ByteArray)]) (.cons (.cell (.nilsl true 1 (.nil))) (.nil) (by decide)) rfl
 ·refine zA (fun x3 h4=>?_)
  refine J_g 14 [] [(2,rr 1 x3)] [(1,rE 1 eStr x3)] (zK 0 (zEQ 70 9 1 0 eStr ([]:List ByteArray) [] [] []) (zK 2 (zGb 70 70 9 9 1 16 1 0 eStr (.tmp 5) (.tmp 6) h4) zB)) ?_
  exact zBG (ds:=[rr 1 x3]) (ds':=[so 1 eStr x3]) (.cons (.cell (.move (.head _) (List.length_map _) (by decide) (.nil))) (.nil) (by decide)) rfl
noncomputable def zKr:Code:=(Tryz.f118.body).getD .skip
theorem zX.ok (a1:(List Term)):Ok Tryz.prog 118 [sl 7 Term.enc a1] [] ((zX a1).map fun r=>(so 7 Term.enc r,[])):=by
 refine zL zKr Tryz.f118 0 8 (fun q=>?_)
 unfold zX
 refine J_g 2 [] [(0,sl 7 Term.enc a1)] [] zB ?_
 refine J_d 12 [] [4] [(4,.nb a1.length)] [] [] (zK 1 (zFi (xs:=a1) 53 153 53 7 Term.enc (.tmp 3)) zB) ?_
 refine zJ4 4 rfl (fun h2=>?_) ?_
 ·obtain rfl:a1=[]:=List.eq_nil_of_length_eq_zero h2
  refine zGi (e':=some ([]:List Term)) (by kernel_rfl) ?_
  refine J_g 52 [] [(2,nv)] [] zB ?_
  exact zBG (ds:=[nv]) (ds':=[so 7 Term.enc ([]:List Term)]) (.cons (.cell (.nilsl true 7 (.nil))) (.nil) (by decide)) rfl
 ·refine zA (fun x3 h4=>?_)
  refine J_g 14 [] [(2,rr 1 x3)] [(1,rE 7 Term.enc x3)] (zK 0 (zEQ 53 153 7 0 Term.enc ([]:List Term) [] [] []) (zK 2 (zGb 53 53 153 153 7 64 1 0 Term.enc (.tmp 5) (.tmp 6) h4) zB)) ?_
  exact zBG (ds:=[rr 1 x3]) (ds':=[so 7 Term.enc x3]) (.cons (.cell (.move (.head _) (List.length_map _) (by decide) (.nil))) (.nil) (by decide)) rfl
noncomputable def c52:Code:=(Tryz.f52.body).getD .skip
theorem vK.ok (a1:(List Pack)) (s27:((List Pack)×Int)) (x29:Pack) (x31:(List ByteArray)) (x33:(List Term)) (q:Wd) (kn:(List (List Term))→Option (D×List Ent)) (hk:∀v:(List (List Term)),J (q.g Tryz.prog 52 0 46) c52 (atI c52 29903) (St.mk' [(3,rr 0 s27.1),(5,pp 1),(6,rr 4 v),(10,sl 8 (Pack.enc false) a1),(11,iv (a1.length:Int)),(12,iv s27.2)] [(0,rE 8 (Pack.enc true) s27.1),(1,.box [sv x29.Name,iv x29.Version.A,iv x29.Version.B,iv x29.Version.C,iv x29.Size,rr 2 x31,sl 1 (eSl false 7 Term.enc) x29.Needs,rr 3 x33]),(2,rE 1 eStr x31),(3,rE 7 Term.enc x33),(4,rE 1 (eSl true 7 Term.enc) v)]) (some v) kn):
  ∀s42:((List (List Term))×Int),J (q.g Tryz.prog 52 0 46) c52 (atI c52 239220) (St.mk' [(3,rr 0 s27.1),(5,pp 1),(6,rr 4 s42.1),(10,sl 8 (Pack.enc false) a1),(11,iv (a1.length:Int)),(12,iv s27.2),(26,sl 1 (eSl false 7 Term.enc) x29.Needs),(27,iv (x29.Needs.length:Int)),(28,iv s42.2)] [(0,rE 8 (Pack.enc true) s27.1),(1,.box [sv x29.Name,iv x29.Version.A,iv x29.Version.B,iv x29.Version.C,iv x29.Size,rr 2 x31,sl 1 (eSl false 7 Term.enc) x29.Needs,rr 3 x33]),(2,rE 1 eStr x31),(3,rE 7 Term.enc x33),(4,rE 1 (eSl true 7 Term.enc) s42.1)]) (vK a1 s27 x29 x31 x33 s42) kn:=by
 refine zAV (fun g ih s42=>?_)
 unfold wN
 refine J_d 478440 [] [29] [(29,bv (decide (s42.2< (x29.Needs.length:Int))))] [] [] zB ?_
 refine zG 29 (fun h43=>?_) (fun h43=>?_)
 ·refine zA (fun x44 h45=>?_)
  refine J_d 7655064 [] [8,29] [(8,sl 7 Term.enc x44)] [] [] (zK 0 (kQ (kk:=.i64) 87 53 1 (eSl false 7 Term.enc) (.tmp 26) (.tmp 28) h45) zB) ?_
  refine zA (fun x46 h47=>?_)
  refine zA (fun x48 h49=>?_)
  refine J_g 7655065 [] [(3,rr 0 s27.1),(5,pp 1),(6,rr 7 x48),(10,sl 8 (Pack.enc false) a1),(11,iv (a1.length:Int)),(12,iv s27.2),(26,sl 1 (eSl false 7 Term.enc) x29.Needs),(27,iv (x29.Needs.length:Int)),(28,iv s42.2)] [(0,rE 8 (Pack.enc true) s27.1),(1,.box [sv x29.Name,iv x29.Version.A,iv x29.Version.B,iv x29.Version.C,iv x29.Size,rr 2 x31,sl 1 (eSl false 7 Term.enc) x29.Needs,rr 3 x33]),(2,rE 1 eStr x31),(3,rE 7 Term.enc x33),(7,rE 1 (eSl true 7 Term.enc) x48)] (zK 2 (zAQ («as»:=[sl 7 Term.enc x44]) [(.tmp 33)] [53] false [] [] (.cons (.same rfl) (.nil)) (zX.ok x44) h47 (.own 5)) (zK 3 (zIm (ds:=[rr 5 x46]) (ts:=[5]) 87 53 1 6 (eSl true 7 Term.enc) [x46] [0] [(.tmp 34)] [rr 5 x46] [(5,rE 7 Term.enc x46)] (.move (.head _) (List.length_map _) (by decide) (.nil))) (zK 4 (zJg 87 87 53 53 1 24 7 4 6 (eSl true 7 Term.enc) (.tmp 32) (.tmp 35) h49) zB))) ?_
  refine J_d 1913767 [] [28] [(28,iv (w64 (s42.2+1)))] [] [] zB ?_
  refine zGP 7 4 (Nat.le_of_ble_eq_true rfl) (Nat.le_of_ble_eq_true rfl) ?_
  exact J_q (J_b (ih (x48,w64 (s42.2+1)))) rfl
 ·exact vX (hk s42.1) rfl
theorem vR.ok (a1:(List Pack)) (q:Wd) (kn:(List Pack)→Option (D×List Ent)) (hk:∀v:(List Pack),J (q.g Tryz.prog 52 0 46) c52 (atI c52 15) (St.mk' [(3,rr 0 v)] [(0,rE 8 (Pack.enc true) v)]) (some v) kn):
  ∀s27:((List Pack)×Int),J (q.g Tryz.prog 52 0 46) c52 (atI c52 116) (St.mk' [(3,rr 0 s27.1),(10,sl 8 (Pack.enc false) a1),(11,iv (a1.length:Int)),(12,iv s27.2)] [(0,rE 8 (Pack.enc true) s27.1)]) (vR a1 s27) kn:=by
 refine zAV (fun g ih s27=>?_)
 unfold wP
 refine J_d 232 [] [13] [(13,bv (decide (s27.2< (a1.length:Int))))] [] [] zB ?_
 refine zG 13 (fun h28=>?_) (fun h28=>?_)
 ·refine zA (fun x29 h30=>?_)
  refine J_d 3736 [(2,1)] [5,13] [(5,pp 1)] [1] [(1,.box (Pack.enc false x29))] (zK 0 (kQ (kk:=.i64) 24 89 8 (Pack.enc false) (.tmp 10) (.tmp 12) h30) zB) ?_
  refine zA (fun x31 h32=>?_)
  refine zA (fun x33 h34=>?_)
  refine J_g 7474 [] [(3,rr 0 s27.1),(5,pp 1),(10,sl 8 (Pack.enc false) a1),(11,iv (a1.length:Int)),(12,iv s27.2)] [(0,rE 8 (Pack.enc true) s27.1),(1,.box [sv x29.Name,iv x29.Version.A,iv x29.Version.B,iv x29.Version.C,iv x29.Size,rr 2 x31,sl 1 (eSl false 7 Term.enc) x29.Needs,rr 3 x33]),(2,rE 1 eStr x31),(3,rE 7 Term.enc x33)] (zK 2 (zAQ («as»:=[sl 1 eStr x29.Provides]) [(.tmp 17)] [70] false [] [] (.cons (.same rfl) (.nil)) (yT.ok x29.Provides) h32 (.own 2)) (zK 5 (zAQ («as»:=[sl 7 Term.enc x29.Bars]) [(.tmp 20)] [53] false [] [] (.cons (.same rfl) (.nil)) (zX.ok x29.Bars) h34 (.own 3)) zB)) ?_
  refine J_g 14950 [] [(3,rr 0 s27.1),(5,pp 1),(6,rr 4 ([]:List (List Term))),(10,sl 8 (Pack.enc false) a1),(11,iv (a1.length:Int)),(12,iv s27.2)] [(0,rE 8 (Pack.enc true) s27.1),(1,.box [sv x29.Name,iv x29.Version.A,iv x29.Version.B,iv x29.Version.C,iv x29.Size,rr 2 x31,sl 1 (eSl false 7 Term.enc) x29.Needs,rr 3 x33]),(2,rE 1 eStr x31),(3,rE 7 Term.enc x33),(4,rE 1 (eSl false 7 Term.enc) ([]:List (List Term)))] (zK 0 (zEQ 87 53 1 4 (eSl false 7 Term.enc) ([]:List (List Term)) [] [] []) zB) ?_
  refine J_d 59804 [] [26,27,28] [(26,sl 1 (eSl false 7 Term.enc) x29.Needs),(27,iv (x29.Needs.length:Int)),(28,iv 0)] [] [] zB ?_
  refine zES (vK.ok a1 s27 x29 x31 x33 q _ (fun v50=>J_j ?_) (([]:List (List Term)),0))
  refine J_d 59806 [] [6] [] [1] [(1,.box [sv x29.Name,iv x29.Version.A,iv x29.Version.B,iv x29.Version.C,iv x29.Size,rr 2 x31,rr 4 v50,rr 3 x33])] zB ?_
  refine zA (fun x51 h52=>?_)
  refine J_g 59807 [] [(3,rr 6 x51),(10,sl 8 (Pack.enc false) a1),(11,iv (a1.length:Int)),(12,iv s27.2)] [(6,rE 8 (Pack.enc true) x51)] (zK 2 (zIm (ds:=[sv x29.Name,iv x29.Version.A,iv x29.Version.B,iv x29.Version.C,iv x29.Size,rr 2 x31,rr 4 v50,rr 3 x33]) (ts:=[2,4,3]) 24 89 8 5 (Pack.enc true) [({Name:=x29.Name,Version:=x29.Version,Size:=x29.Size,Provides:=x31,Needs:=v50,Bars:=x33}:Pack)] [0] [(.tmp 41)] [.ag [sv x29.Name,iv x29.Version.A,iv x29.Version.B,iv x29.Version.C,iv x29.Size,rr 2 x31,rr 4 v50,rr 3 x33]] [(2,rE 1 eStr x31),(4,rE 1 (eSl true 7 Term.enc) v50),(3,rE 7 Term.enc x33)] (.keep rfl (.keep rfl (.keep rfl (.keep rfl (.keep rfl (.move (.head _) (List.length_map _) (by decide) (.move (.tail _ (.head _)) (List.length_map _) (by decide) (.move (.tail _ (.tail _ (.head _))) (List.length_map _) (by decide) (.nil)))))))))) (zK 3 (zJg 24 24 89 89 8 120 6 0 5 (Pack.enc true) (.tmp 40) (.tmp 42) h52) zB)) ?_
  refine J_d 935 [] [12] [(12,iv (w64 (s27.2+1)))] [] [] zB ?_
  refine zGP 6 0 (Nat.le_of_ble_eq_true rfl) (Nat.le_of_ble_eq_true rfl) ?_
  exact J_q (J_b (ih (x51,w64 (s27.2+1)))) rfl
 ·exact vX (hk s27.1) rfl
theorem wI.ok (a1:(List Pack)):Ok Tryz.prog 52 [sl 8 (Pack.enc false) a1] [] ((wI a1).map fun r=>(so 8 (Pack.enc true) r,[])):=by
 refine zL c52 Tryz.f52 0 46 (fun q=>?_)
 unfold wI
 refine J_g 2 [] [(0,sl 8 (Pack.enc false) a1)] [] zB ?_
 refine J_g 6 [] [(0,sl 8 (Pack.enc false) a1),(3,rr 0 ([]:List Pack))] [(0,rE 8 (Pack.enc false) ([]:List Pack))] (zK 0 (zEQ 24 89 8 0 (Pack.enc false) ([]:List Pack) [] [] []) zB) ?_
 refine J_d 28 [] [0,10,11,12] [(10,sl 8 (Pack.enc false) a1),(11,iv (a1.length:Int)),(12,iv 0)] [] [] zB ?_
 refine zES (vR.ok a1 q _ (fun v53=>J_j ?_) (([]:List Pack),0))
 refine J_g 30 [] [(2,rr 0 v53)] [(0,rE 8 (Pack.enc true) v53)] zB ?_
 exact zBG (ds:=[rr 0 v53]) (ds':=[so 8 (Pack.enc true) v53]) (.cons (.cell (.move (.head _) (List.length_map _) (by decide) (.nil))) (.nil) (by decide)) rfl
noncomputable def c12:Code:=(Tryz.f12.body).getD .skip
theorem xG.ok (a1:(List Pack)) (a2:Int):Ok Tryz.prog 12 [sl 8 (Pack.enc false) a1,iv a2] [] ((xG a1 a2).map fun r=>(.ag (zD.enc true r),[])):=by
 refine zL c12 Tryz.f12 0 27 (fun q=>?_)
 unfold xG
 refine J_d 2 [(0,0)] [4] [(4,pp 0)] [0] [(0,.box [iv 0,iv 0,nv,nv,iv 0,iv 0,iv 0,bv false])] zB ?_
 refine zA (fun x3 h4=>?_)
 refine J_g 12 [] [(0,sl 8 (Pack.enc false) a1),(1,iv a2),(4,pp 0),(5,iv x3)] [(0,.box [iv 0,iv 0,nv,nv,iv 0,iv 0,iv 0,bv false])] (zK 1 (xP [(.tmp 7)] [24] (xX.ok a1) h4) zB) ?_
 refine J_d 26 [] [10] [(10,bv (x3 !=0))] [] [] zB ?_
 refine zG 10 (fun h5=>?_) (fun h5=>?_)
 ·refine J_g 108 [] [(4,pp 0)] [(0,.box [iv x3,iv 0,nv,nv,iv 0,iv 0,iv 0,bv false])] zB ?_
  exact zBG (ds:=[.ag [iv x3,iv 0,nv,nv,iv 0,iv 0,iv 0,bv false]]) (ds':=[.ag [iv x3,iv 0,so 8 (Pack.enc true) ([]:List Pack),so 2 (File.enc true) ([]:List File),iv 0,iv 0,iv 0,bv false]]) (.cons (.ag (.keep rfl (.keep rfl (.nilsl true 8 (.nilsl true 2 (.keep rfl (.keep rfl (.keep rfl (.keep rfl (.nil)))))))))) (.nil) (by decide)) rfl
 ·refine zA (fun x6 h7=>?_)
  refine J_g 14 [(2,2)] [(0,sl 8 (Pack.enc false) a1),(4,pp 0),(6,pp 2)] [(0,.box [iv 0,iv 0,nv,nv,iv 0,iv 0,iv 0,bv false]),(1,rE 2 (File.enc true) x6.zC.Files),(2,.box [iv x6.Code,rr 1 x6.zC.Files,iv x6.zC.Budget,iv x6.zC.Writes,iv x6.zC.Stop,bv x6.zC.Down])] (zK 1 (zAQ («as»:=[iv a2]) [(.tmp 13)] [2] false [] [] (.cons (.same rfl) (.nil)) (jO.ok a2) h7 (.ag (.cons (.same rfl rfl) (.cons (.own 1) (.cons (.same rfl rfl) (.cons (.same rfl rfl) (.cons (.same rfl rfl) (.cons (.same rfl rfl) (.nil))))))))) zB) ?_
  refine J_d 60 [] [17] [(17,bv (x6.Code !=0))] [] [] zB ?_
  refine zG 17 (fun h8=>?_) (fun h8=>?_)
  ·refine J_g 244 [] [(4,pp 0)] [(0,.box [iv x6.Code,iv 0,nv,nv,iv 0,iv 0,iv 0,bv false])] zB ?_
   exact zBG (ds:=[.ag [iv x6.Code,iv 0,nv,nv,iv 0,iv 0,iv 0,bv false]]) (ds':=[.ag [iv x6.Code,iv 0,so 8 (Pack.enc true) ([]:List Pack),so 2 (File.enc true) ([]:List File),iv 0,iv 0,iv 0,bv false]]) (.cons (.ag (.keep rfl (.keep rfl (.nilsl true 8 (.nilsl true 2 (.keep rfl (.keep rfl (.keep rfl (.keep rfl (.nil)))))))))) (.nil) (by decide)) rfl
  ·refine zA (fun x9 h10=>?_)
   refine J_g 62 [] [(4,pp 0)] [(0,.box [iv 0,iv 0,rr 3 x9,rr 1 x6.zC.Files,iv x6.zC.Budget,iv x6.zC.Writes,iv x6.zC.Stop,bv x6.zC.Down]),(1,rE 2 (File.enc true) x6.zC.Files),(3,rE 8 (Pack.enc true) x9)] (zK 1 (zAQ («as»:=[sl 8 (Pack.enc false) a1]) [(.tmp 21)] [24] false [] [] (.cons (.same rfl) (.nil)) (wI.ok a1) h10 (.own 3)) zB) ?_
   exact zBG (ds:=[.ag [iv 0,iv 0,rr 3 x9,rr 1 x6.zC.Files,iv x6.zC.Budget,iv x6.zC.Writes,iv x6.zC.Stop,bv x6.zC.Down]]) (ds':=[.ag [iv 0,iv 0,so 8 (Pack.enc true) x9,so 2 (File.enc true) x6.zC.Files,iv x6.zC.Budget,iv x6.zC.Writes,iv x6.zC.Stop,bv x6.zC.Down]]) (.cons (.ag (.keep rfl (.keep rfl (.move (.tail _ (.tail _ (.head _))) (List.length_map _) (by decide) (.move (.tail _ (.head _)) (List.length_map _) (by decide) (.keep rfl (.keep rfl (.keep rfl (.keep rfl (.nil)))))))))) (.nil) (by decide)) rfl
noncomputable def c119:Code:=(Tryz.f119.body).getD .skip
theorem yX.ok (a1:Version) (a2:Version):Ok Tryz.prog 119 [.ag (Version.enc a1),.ag (Version.enc a2)] [] ((yX a1 a2).map fun r=>(bv r,[])):=by
 refine zL c119 Tryz.f119 0 20 (fun q=>?_)
 unfold yX
 refine J_g 2 [(0,0),(1,1)] [(2,pp 0),(3,pp 1)] [(0,.box (Version.enc a1)),(1,.box (Version.enc a2))] zB ?_
 refine J_d 12 [] [9] [(9,bv (a1.A !=a2.A))] [] [] zB ?_
 refine zG 9 (fun h3=>?_) (fun h3=>?_)
 ·refine J_g 52 [] [(4,bv false)] [] zB ?_
  exact zU rfl
 ·refine J_d 28 [] [9,14] [(14,bv (a1.B !=a2.B))] [] [] zB ?_
  refine zG 14 (fun h4=>?_) (fun h4=>?_)
  ·refine J_g 116 [] [(4,bv false)] [] zB ?_
   exact zU rfl
  ·refine J_g 60 [] [(19,bv (a1.C !=a2.C))] [] zB ?_
   refine zG 19 (fun h5=>?_) (fun h5=>?_)
   ·refine J_g 244 [] [(4,bv false)] [] zB ?_
    exact zU rfl
   ·refine J_g 62 [] [(4,bv true)] [] zB ?_
    exact zU rfl
noncomputable def c98:Code:=(Tryz.f98.body).getD .skip
theorem tT.ok (a1:(List ByteArray)) (a2:(List ByteArray)) (q:Wd) (kn:Unit→Option (D×List Ent)) (hk:∀v:Unit,J (q.g Tryz.prog 98 0 26) c98 (atI c98 15) (St.mk' [] []) (some v) kn):
  ∀s10:Int,J (q.g Tryz.prog 98 0 26) c98 (atI c98 116) (St.mk' [(0,sl 1 eStr a1),(1,sl 1 eStr a2),(5,iv s10)] []) (tT a1 a2 s10) (Fl.go (fun r:Bool=>some (bv r,[])) kn):=by
 refine zAV (fun g ih s10=>?_)
 unfold kN
 refine J_d 464 [] [14] [(14,bv (decide (s10< (a1.length:Int))))] [] [] zB ?_
 refine zG 14 (fun h11=>?_) (fun h11=>?_)
 ·refine zA (fun x12 h13=>?_)
  refine zA (fun x14 h15=>?_)
  refine J_d 1864 [] [14,25] [(25,bv (!(seq x12 x14)))] [] [] (zK 2 (kQ (kk:=.i64) 70 9 1 eStr (.tmp 17) (.tmp 18) h13) (zK 6 (kQ (kk:=.i64) 70 9 1 eStr (.tmp 21) (.tmp 22) h15) zB)) ?_
  refine zG 25 (fun h16=>?_) (fun h16=>?_)
  ·refine J_g 7460 [] [(4,bv false)] [] zB ?_
   exact zU rfl
  ·refine J_d 467 [] [5,25] [(5,iv (w64 (s10+1)))] [] [] zB ?_
   exact J_q (J_b (ih (w64 (s10+1)))) rfl
 ·exact vX (hk ()) rfl
theorem uZ.ok (a1:(List ByteArray)) (a2:(List ByteArray)):Ok Tryz.prog 98 [sl 1 eStr a1,sl 1 eStr a2] [] ((uZ a1 a2).map fun r=>(bv r,[])):=by
 refine zL c98 Tryz.f98 0 26 (fun q=>?_)
 unfold uZ
 refine J_g 2 [] [(0,sl 1 eStr a1),(1,sl 1 eStr a2)] [] zB ?_
 refine J_d 12 [] [10] [(10,bv ((a1.length:Int) !=(a2.length:Int)))] [] [] zB ?_
 refine zG 10 (fun h3=>?_) (fun h3=>?_)
 ·refine J_g 52 [] [(4,bv false)] [] zB ?_
  exact zU rfl
 ·refine J_d 28 [] [5,10] [(5,iv 0)] [] [] zB ?_
  refine zAt (K0:=(fun r:Bool=>some (bv r,[]))) (fun _=>rfl) (tT.ok a1 a2 q _ (fun v17=>J_j ?_) 0)
  refine J_g 30 [] [(4,bv true)] [] zB ?_
  exact zU rfl
noncomputable def zJM:Code:=(Tryz.f153.body).getD .skip
theorem zAC.ok (a1:Term) (a2:Term):Ok Tryz.prog 153 [.ag (Term.enc a1),.ag (Term.enc a2)] [] ((zAC a1 a2).map fun r=>(bv r,[])):=by
 refine zL zJM Tryz.f153 0 22 (fun q=>?_)
 unfold zAC
 refine J_g 2 [(0,0),(1,1)] [(2,pp 0),(3,pp 1)] [(0,.box (Term.enc a1)),(1,.box (Term.enc a2))] zB ?_
 refine J_d 12 [] [9] [(9,bv (!(seq a1.Name a2.Name)))] [] [] zB ?_
 refine zG 9 (fun h3=>?_) (fun h3=>?_)
 ·refine J_g 52 [] [(4,bv false)] [] zB ?_
  exact zU rfl
 ·refine zA (fun x4 h5=>?_)
  refine J_d 28 [] [9,15] [(15,bv (!x4))] [] [] (zK 4 (xP [(.tmp 11),(.tmp 13)] [86,86] (yX.ok a1.Low a2.Low) h5) zB) ?_
  refine zG 15 (fun h6=>?_) (fun h6=>?_)
  ·refine J_g 116 [] [(4,bv false)] [] zB ?_
   exact zU rfl
  ·refine zA (fun x7 h8=>?_)
   refine J_g 60 [] [(21,bv (!x7))] [] (zK 4 (xP [(.tmp 17),(.tmp 19)] [86,86] (yX.ok a1.High a2.High) h8) zB) ?_
   refine zG 21 (fun h9=>?_) (fun h9=>?_)
   ·refine J_g 244 [] [(4,bv false)] [] zB ?_
    exact zU rfl
   ·refine J_g 62 [] [(4,bv true)] [] zB ?_
    exact zU rfl
noncomputable def c76:Code:=(Tryz.f76.body).getD .skip
theorem kR.ok (a1:(List Term)) (a2:(List Term)) (q:Wd) (kn:Unit→Option (D×List Ent)) (hk:∀v:Unit,J (q.g Tryz.prog 76 0 27) c76 (atI c76 15) (St.mk' [] []) (some v) kn):
  ∀s12:Int,J (q.g Tryz.prog 76 0 27) c76 (atI c76 116) (St.mk' [(0,sl 7 Term.enc a1),(1,sl 7 Term.enc a2),(5,iv s12)] []) (kR a1 a2 s12) (Fl.go (fun r:Bool=>some (bv r,[])) kn):=by
 refine zAV (fun g ih s12=>?_)
 unfold zA1
 refine J_d 464 [] [14] [(14,bv (decide (s12< (a1.length:Int))))] [] [] zB ?_
 refine zG 14 (fun h13=>?_) (fun h13=>?_)
 ·refine zA (fun x14 h15=>?_)
  refine zA (fun x16 h17=>?_)
  refine zA (fun x18 h19=>?_)
  refine J_d 1864 [] [14,26] [(26,bv (!x18))] [] [] (zK 2 (kQ (kk:=.i64) 53 153 7 Term.enc (.tmp 17) (.tmp 18) h15) (zK 6 (kQ (kk:=.i64) 53 153 7 Term.enc (.tmp 21) (.tmp 22) h17) (zK 8 (xP [(.tmp 20),(.tmp 24)] [153,153] (zAC.ok x14 x16) h19) zB))) ?_
  refine zG 26 (fun h20=>?_) (fun h20=>?_)
  ·refine J_g 7460 [] [(4,bv false)] [] zB ?_
   exact zU rfl
  ·refine J_d 467 [] [5,26] [(5,iv (w64 (s12+1)))] [] [] zB ?_
   exact J_q (J_b (ih (w64 (s12+1)))) rfl
 ·exact vX (hk ()) rfl
theorem uF.ok (a1:(List Term)) (a2:(List Term)):Ok Tryz.prog 76 [sl 7 Term.enc a1,sl 7 Term.enc a2] [] ((uF a1 a2).map fun r=>(bv r,[])):=by
 refine zL c76 Tryz.f76 0 27 (fun q=>?_)
 unfold uF
 refine J_g 2 [] [(0,sl 7 Term.enc a1),(1,sl 7 Term.enc a2)] [] zB ?_
 refine J_d 12 [] [10] [(10,bv ((a1.length:Int) !=(a2.length:Int)))] [] [] zB ?_
 refine zG 10 (fun h3=>?_) (fun h3=>?_)
 ·refine J_g 52 [] [(4,bv false)] [] zB ?_
  exact zU rfl
 ·refine J_d 28 [] [5,10] [(5,iv 0)] [] [] zB ?_
  refine zAt (K0:=(fun r:Bool=>some (bv r,[]))) (fun _=>rfl) (kR.ok a1 a2 q _ (fun v21=>J_j ?_) 0)
  refine J_g 30 [] [(4,bv true)] [] zB ?_
  exact zU rfl
noncomputable def zIQ:Code:=(Tryz.f120.body).getD .skip
theorem jW.ok (a1:(List (List Term))) (a2:(List (List Term))) (q:Wd) (kn:Unit→Option (D×List Ent)) (hk:∀v:Unit,J (q.g Tryz.prog 120 0 27) zIQ (atI zIQ 15) (St.mk' [] []) (some v) kn):
  ∀s12:Int,J (q.g Tryz.prog 120 0 27) zIQ (atI zIQ 116) (St.mk' [(0,sl 1 (eSl false 7 Term.enc) a1),(1,sl 1 (eSl false 7 Term.enc) a2),(5,iv s12)] []) (jW a1 a2 s12) (Fl.go (fun r:Bool=>some (bv r,[])) kn):=by
 refine zAV (fun g ih s12=>?_)
 unfold zAm
 refine J_d 464 [] [14] [(14,bv (decide (s12< (a1.length:Int))))] [] [] zB ?_
 refine zG 14 (fun h13=>?_) (fun h13=>?_)
 ·refine zA (fun x14 h15=>?_)
  refine zA (fun x16 h17=>?_)
  refine zA (fun x18 h19=>?_)
  refine J_d 1864 [] [14,26] [(26,bv (!x18))] [] [] (zK 2 (kQ (kk:=.i64) 87 53 1 (eSl false 7 Term.enc) (.tmp 17) (.tmp 18) h15) (zK 6 (kQ (kk:=.i64) 87 53 1 (eSl false 7 Term.enc) (.tmp 21) (.tmp 22) h17) (zK 8 (xP [(.tmp 20),(.tmp 24)] [53,53] (uF.ok x14 x16) h19) zB))) ?_
  refine zG 26 (fun h20=>?_) (fun h20=>?_)
  ·refine J_g 7460 [] [(4,bv false)] [] zB ?_
   exact zU rfl
  ·refine J_d 467 [] [5,26] [(5,iv (w64 (s12+1)))] [] [] zB ?_
   exact J_q (J_b (ih (w64 (s12+1)))) rfl
 ·exact vX (hk ()) rfl
theorem jQ.ok (a1:(List (List Term))) (a2:(List (List Term))):Ok Tryz.prog 120 [sl 1 (eSl false 7 Term.enc) a1,sl 1 (eSl false 7 Term.enc) a2] [] ((jQ a1 a2).map fun r=>(bv r,[])):=by
 refine zL zIQ Tryz.f120 0 27 (fun q=>?_)
 unfold jQ
 refine J_g 2 [] [(0,sl 1 (eSl false 7 Term.enc) a1),(1,sl 1 (eSl false 7 Term.enc) a2)] [] zB ?_
 refine J_d 12 [] [10] [(10,bv ((a1.length:Int) !=(a2.length:Int)))] [] [] zB ?_
 refine zG 10 (fun h3=>?_) (fun h3=>?_)
 ·refine J_g 52 [] [(4,bv false)] [] zB ?_
  exact zU rfl
 ·refine J_d 28 [] [5,10] [(5,iv 0)] [] [] zB ?_
  refine zAt (K0:=(fun r:Bool=>some (bv r,[]))) (fun _=>rfl) (jW.ok a1 a2 q _ (fun v21=>J_j ?_) 0)
  refine J_g 30 [] [(4,bv true)] [] zB ?_
  exact zU rfl
noncomputable def c54:Code:=(Tryz.f54.body).getD .skip
theorem zA7.ok (a1:Pack) (a2:Pack):Ok Tryz.prog 54 [.ag (Pack.enc false a1),.ag (Pack.enc false a2)] [] ((zA7 a1 a2).map fun r=>(bv r,[])):=by
 refine zL c54 Tryz.f54 0 39 (fun q=>?_)
 unfold zA7
 refine J_g 2 [(0,0),(1,1)] [(2,pp 0),(3,pp 1)] [(0,.box (Pack.enc false a1)),(1,.box (Pack.enc false a2))] zB ?_
 refine J_d 12 [] [9] [(9,bv (!(seq a1.Name a2.Name)))] [] [] zB ?_
 refine zG 9 (fun h3=>?_) (fun h3=>?_)
 ·refine J_g 52 [] [(4,bv false)] [] zB ?_
  exact zU rfl
 ·refine zA (fun x4 h5=>?_)
  refine J_d 28 [] [9,15] [(15,bv (!x4))] [] [] (zK 4 (xP [(.tmp 11),(.tmp 13)] [86,86] (yX.ok a1.Version a2.Version) h5) zB) ?_
  refine zG 15 (fun h6=>?_) (fun h6=>?_)
  ·refine J_g 116 [] [(4,bv false)] [] zB ?_
   exact zU rfl
  ·refine J_d 60 [] [15,20] [(20,bv (a1.Size !=a2.Size))] [] [] zB ?_
   refine zG 20 (fun h7=>?_) (fun h7=>?_)
   ·refine J_g 244 [] [(4,bv false)] [] zB ?_
    exact zU rfl
   ·refine zA (fun x8 h9=>?_)
    refine J_d 124 [] [20,26] [(26,bv (!x8))] [] [] (zK 4 (xP [(.tmp 22),(.tmp 24)] [70,70] (uZ.ok a1.Provides a2.Provides) h9) zB) ?_
    refine zG 26 (fun h10=>?_) (fun h10=>?_)
    ·refine J_g 500 [] [(4,bv false)] [] zB ?_
     exact zU rfl
    ·refine zA (fun x11 h12=>?_)
     refine J_d 252 [] [26,32] [(32,bv (!x11))] [] [] (zK 4 (xP [(.tmp 28),(.tmp 30)] [87,87] (jQ.ok a1.Needs a2.Needs) h12) zB) ?_
     refine zG 32 (fun h13=>?_) (fun h13=>?_)
     ·refine J_g 1012 [] [(4,bv false)] [] zB ?_
      exact zU rfl
     ·refine zA (fun x14 h15=>?_)
      refine J_g 508 [] [(38,bv (!x14))] [] (zK 4 (xP [(.tmp 34),(.tmp 36)] [53,53] (uF.ok a1.Bars a2.Bars) h15) zB) ?_
      refine zG 38 (fun h16=>?_) (fun h16=>?_)
      ·refine J_g 2036 [] [(4,bv false)] [] zB ?_
       exact zU rfl
      ·refine J_g 510 [] [(4,bv true)] [] zB ?_
       exact zU rfl
noncomputable def c14:Code:=(Tryz.f14.body).getD .skip
theorem kV.ok (a1:(List Pack)) (a2:(List Pack)) (q:Wd) (kn:Unit→Option (D×List Ent)) (hk:∀v:Unit,J (q.g Tryz.prog 14 0 27) c14 (atI c14 15) (St.mk' [] []) (some v) kn):
  ∀s12:Int,J (q.g Tryz.prog 14 0 27) c14 (atI c14 116) (St.mk' [(0,sl 8 (Pack.enc false) a1),(1,sl 8 (Pack.enc false) a2),(5,iv s12)] []) (kV a1 a2 s12) (Fl.go (fun r:Bool=>some (bv r,[])) kn):=by
 refine zAV (fun g ih s12=>?_)
 unfold zA2
 refine J_d 464 [] [14] [(14,bv (decide (s12< (a1.length:Int))))] [] [] zB ?_
 refine zG 14 (fun h13=>?_) (fun h13=>?_)
 ·refine zA (fun x14 h15=>?_)
  refine zA (fun x16 h17=>?_)
  refine zA (fun x18 h19=>?_)
  refine J_d 1864 [] [14,26] [(26,bv (!x18))] [] [] (zK 2 (kQ (kk:=.i64) 24 89 8 (Pack.enc false) (.tmp 17) (.tmp 18) h15) (zK 6 (kQ (kk:=.i64) 24 89 8 (Pack.enc false) (.tmp 21) (.tmp 22) h17) (zK 8 (xP [(.tmp 20),(.tmp 24)] [89,89] (zA7.ok x14 x16) h19) zB))) ?_
  refine zG 26 (fun h20=>?_) (fun h20=>?_)
  ·refine J_g 7460 [] [(4,bv false)] [] zB ?_
   exact zU rfl
  ·refine J_d 467 [] [5,26] [(5,iv (w64 (s12+1)))] [] [] zB ?_
   exact J_q (J_b (ih (w64 (s12+1)))) rfl
 ·exact vX (hk ()) rfl
theorem uS.ok (a1:(List Pack)) (a2:(List Pack)):Ok Tryz.prog 14 [sl 8 (Pack.enc false) a1,sl 8 (Pack.enc false) a2] [] ((uS a1 a2).map fun r=>(bv r,[])):=by
 refine zL c14 Tryz.f14 0 27 (fun q=>?_)
 unfold uS
 refine J_g 2 [] [(0,sl 8 (Pack.enc false) a1),(1,sl 8 (Pack.enc false) a2)] [] zB ?_
 refine J_d 12 [] [10] [(10,bv ((a1.length:Int) !=(a2.length:Int)))] [] [] zB ?_
 refine zG 10 (fun h3=>?_) (fun h3=>?_)
 ·refine J_g 52 [] [(4,bv false)] [] zB ?_
  exact zU rfl
 ·refine J_d 28 [] [5,10] [(5,iv 0)] [] [] zB ?_
  refine zAt (K0:=(fun r:Bool=>some (bv r,[]))) (fun _=>rfl) (kV.ok a1 a2 q _ (fun v21=>J_j ?_) 0)
  refine J_g 30 [] [(4,bv true)] [] zB ?_
  exact zU rfl
noncomputable def zI0:Code:=(Tryz.f216.body).getD .skip
theorem zAa.ok (a1:(List Int)) (a2:(List Int)) (q:Wd) (kn:Unit→Option (D×List Ent)) (hk:∀v:Unit,J (q.g Tryz.prog 216 0 26) zI0 (atI zI0 15) (St.mk' [] []) (some v) kn):
  ∀s10:Int,J (q.g Tryz.prog 216 0 26) zI0 (atI zI0 116) (St.mk' [(0,sl 1 eU8 a1),(1,sl 1 eU8 a2),(5,iv s10)] []) (zAa a1 a2 s10) (Fl.go (fun r:Bool=>some (bv r,[])) kn):=by
 refine zAV (fun g ih s10=>?_)
 unfold zA3
 refine J_d 464 [] [14] [(14,bv (decide (s10< (a1.length:Int))))] [] [] zB ?_
 refine zG 14 (fun h11=>?_) (fun h11=>?_)
 ·refine zA (fun x12 h13=>?_)
  refine zA (fun x14 h15=>?_)
  refine J_d 1864 [] [14,25] [(25,bv (x12 !=x14))] [] [] (zK 2 (kQ (kk:=.i64) 111 5 1 eU8 (.tmp 17) (.tmp 18) h13) (zK 6 (kQ (kk:=.i64) 111 5 1 eU8 (.tmp 21) (.tmp 22) h15) zB)) ?_
  refine zG 25 (fun h16=>?_) (fun h16=>?_)
  ·refine J_g 7460 [] [(4,bv false)] [] zB ?_
   exact zU rfl
  ·refine J_d 467 [] [5,25] [(5,iv (w64 (s10+1)))] [] [] zB ?_
   exact J_q (J_b (ih (w64 (s10+1)))) rfl
 ·exact vX (hk ()) rfl
theorem zAi.ok (a1:(List Int)) (a2:(List Int)):Ok Tryz.prog 216 [sl 1 eU8 a1,sl 1 eU8 a2] [] ((zAi a1 a2).map fun r=>(bv r,[])):=by
 refine zL zI0 Tryz.f216 0 26 (fun q=>?_)
 unfold zAi
 refine J_g 2 [] [(0,sl 1 eU8 a1),(1,sl 1 eU8 a2)] [] zB ?_
 refine J_d 12 [] [10] [(10,bv ((a1.length:Int) !=(a2.length:Int)))] [] [] zB ?_
 refine zG 10 (fun h3=>?_) (fun h3=>?_)
 ·refine J_g 52 [] [(4,bv false)] [] zB ?_
  exact zU rfl
 ·refine J_d 28 [] [5,10] [(5,iv 0)] [] [] zB ?_
  refine zAt (K0:=(fun r:Bool=>some (bv r,[]))) (fun _=>rfl) (zAa.ok a1 a2 q _ (fun v17=>J_j ?_) 0)
  refine J_g 30 [] [(4,bv true)] [] zB ?_
  exact zU rfl
noncomputable def zJU:Code:=(Tryz.f140.body).getD .skip
theorem zAD.ok (a1:File) (a2:File):Ok Tryz.prog 140 [.ag (File.enc false a1),.ag (File.enc false a2)] [] ((zAD a1 a2).map fun r=>(bv r,[])):=by
 refine zL zJU Tryz.f140 0 16 (fun q=>?_)
 unfold zAD
 refine J_g 2 [(0,0),(1,1)] [(2,pp 0),(3,pp 1)] [(0,.box (File.enc false a1)),(1,.box (File.enc false a2))] zB ?_
 refine J_d 12 [] [9] [(9,bv (!(seq a1.Path a2.Path)))] [] [] zB ?_
 refine zG 9 (fun h3=>?_) (fun h3=>?_)
 ·refine J_g 52 [] [(4,bv false)] [] zB ?_
  exact zU rfl
 ·refine zA (fun x4 h5=>?_)
  refine J_g 28 [] [(15,bv (!x4))] [] (zK 4 (xP [(.tmp 11),(.tmp 13)] [111,111] (zAi.ok a1.Data a2.Data) h5) zB) ?_
  refine zG 15 (fun h6=>?_) (fun h6=>?_)
  ·refine J_g 116 [] [(4,bv false)] [] zB ?_
   exact zU rfl
  ·refine J_g 30 [] [(4,bv true)] [] zB ?_
   exact zU rfl
noncomputable def c73:Code:=(Tryz.f73.body).getD .skip
theorem kT.ok (a1:(List File)) (a2:(List File)) (q:Wd) (kn:Unit→Option (D×List Ent)) (hk:∀v:Unit,J (q.g Tryz.prog 73 0 27) c73 (atI c73 15) (St.mk' [] []) (some v) kn):
  ∀s12:Int,J (q.g Tryz.prog 73 0 27) c73 (atI c73 116) (St.mk' [(0,sl 2 (File.enc false) a1),(1,sl 2 (File.enc false) a2),(5,iv s12)] []) (kT a1 a2 s12) (Fl.go (fun r:Bool=>some (bv r,[])) kn):=by
 refine zAV (fun g ih s12=>?_)
 unfold zAz
 refine J_d 464 [] [14] [(14,bv (decide (s12< (a1.length:Int))))] [] [] zB ?_
 refine zG 14 (fun h13=>?_) (fun h13=>?_)
 ·refine zA (fun x14 h15=>?_)
  refine zA (fun x16 h17=>?_)
  refine zA (fun x18 h19=>?_)
  refine J_d 1864 [] [14,26] [(26,bv (!x18))] [] [] (zK 2 (kQ (kk:=.i64) 25 113 2 (File.enc false) (.tmp 17) (.tmp 18) h15) (zK 6 (kQ (kk:=.i64) 25 113 2 (File.enc false) (.tmp 21) (.tmp 22) h17) (zK 8 (xP [(.tmp 20),(.tmp 24)] [113,113] (zAD.ok x14 x16) h19) zB))) ?_
  refine zG 26 (fun h20=>?_) (fun h20=>?_)
  ·refine J_g 7460 [] [(4,bv false)] [] zB ?_
   exact zU rfl
  ·refine J_d 467 [] [5,26] [(5,iv (w64 (s12+1)))] [] [] zB ?_
   exact J_q (J_b (ih (w64 (s12+1)))) rfl
 ·exact vX (hk ()) rfl
theorem kX.ok (a1:(List File)) (a2:(List File)):Ok Tryz.prog 73 [sl 2 (File.enc false) a1,sl 2 (File.enc false) a2] [] ((kX a1 a2).map fun r=>(bv r,[])):=by
 refine zL c73 Tryz.f73 0 27 (fun q=>?_)
 unfold kX
 refine J_g 2 [] [(0,sl 2 (File.enc false) a1),(1,sl 2 (File.enc false) a2)] [] zB ?_
 refine J_d 12 [] [10] [(10,bv ((a1.length:Int) !=(a2.length:Int)))] [] [] zB ?_
 refine zG 10 (fun h3=>?_) (fun h3=>?_)
 ·refine J_g 52 [] [(4,bv false)] [] zB ?_
  exact zU rfl
 ·refine J_d 28 [] [5,10] [(5,iv 0)] [] [] zB ?_
  refine zAt (K0:=(fun r:Bool=>some (bv r,[]))) (fun _=>rfl) (kT.ok a1 a2 q _ (fun v21=>J_j ?_) 0)
  refine J_g 30 [] [(4,bv true)] [] zB ?_
  exact zU rfl
noncomputable def c24:Code:=(Tryz.f24.body).getD .skip
theorem zAB.ok (a1:zC) (a2:zC):Ok Tryz.prog 24 [.ag (zC.enc false a1),.ag (zC.enc false a2)] [] ((zAB a1 a2).map fun r=>(bv r,[])):=by
 refine zL c24 Tryz.f24 0 31 (fun q=>?_)
 unfold zAB
 refine J_g 2 [(0,0),(1,1)] [(2,pp 0),(3,pp 1)] [(0,.box (zC.enc false a1)),(1,.box (zC.enc false a2))] zB ?_
 refine zA (fun x3 h4=>?_)
 refine J_d 12 [] [10] [(10,bv (!x3))] [] [] (zK 4 (xP [(.tmp 6),(.tmp 8)] [25,25] (kX.ok a1.Files a2.Files) h4) zB) ?_
 refine zG 10 (fun h5=>?_) (fun h5=>?_)
 ·refine J_g 52 [] [(4,bv false)] [] zB ?_
  exact zU rfl
 ·refine J_d 28 [] [10,15] [(15,bv (a1.Budget !=a2.Budget))] [] [] zB ?_
  refine zG 15 (fun h6=>?_) (fun h6=>?_)
  ·refine J_g 116 [] [(4,bv false)] [] zB ?_
   exact zU rfl
  ·refine J_d 60 [] [15,20] [(20,bv (a1.Writes !=a2.Writes))] [] [] zB ?_
   refine zG 20 (fun h7=>?_) (fun h7=>?_)
   ·refine J_g 244 [] [(4,bv false)] [] zB ?_
    exact zU rfl
   ·refine J_d 124 [] [20,25] [(25,bv (a1.Stop !=a2.Stop))] [] [] zB ?_
    refine zG 25 (fun h8=>?_) (fun h8=>?_)
    ·refine J_g 500 [] [(4,bv false)] [] zB ?_
     exact zU rfl
    ·refine J_g 252 [] [(30,bv (!(a1.Down==a2.Down)))] [] zB ?_
     refine zG 30 (fun h9=>?_) (fun h9=>?_)
     ·refine J_g 1012 [] [(4,bv false)] [] zB ?_
      exact zU rfl
     ·refine J_g 254 [] [(4,bv true)] [] zB ?_
      exact zU rfl
noncomputable def c53:Code:=(Tryz.f53.body).getD .skip
theorem jS.ok (a1:System) (a2:System):Ok Tryz.prog 53 [.ag (System.enc false a1),.ag (System.enc false a2)] [] ((jS a1 a2).map fun r=>(bv r,[])):=by
 refine zL c53 Tryz.f53 0 17 (fun q=>?_)
 unfold jS
 refine J_g 2 [(0,0),(1,1)] [(2,pp 0),(3,pp 1)] [(0,.box (System.enc false a1)),(1,.box (System.enc false a2))] zB ?_
 refine zA (fun x3 h4=>?_)
 refine J_d 12 [] [10] [(10,bv (!x3))] [] [] (zK 4 (xP [(.tmp 6),(.tmp 8)] [24,24] (uS.ok a1.Catalog a2.Catalog) h4) zB) ?_
 refine zG 10 (fun h5=>?_) (fun h5=>?_)
 ·refine J_g 52 [] [(4,bv false)] [] zB ?_
  exact zU rfl
 ·refine zA (fun x6 h7=>?_)
  refine J_g 28 [] [(16,bv (!x6))] [] (zK 4 (xP [(.tmp 12),(.tmp 14)] [27,27] (zAB.ok a1.zC a2.zC) h7) zB) ?_
  refine zG 16 (fun h8=>?_) (fun h8=>?_)
  ·refine J_g 116 [] [(4,bv false)] [] zB ?_
   exact zU rfl
  ·refine J_g 30 [] [(4,bv true)] [] zB ?_
   exact zU rfl
noncomputable def c13:Code:=(Tryz.f13.body).getD .skip
theorem yC.ok (a1:zD) (a2:zD):Ok Tryz.prog 13 [.ag (zD.enc false a1),.ag (zD.enc false a2)] [] ((yC a1 a2).map fun r=>(bv r,[])):=by
 refine zL c13 Tryz.f13 0 21 (fun q=>?_)
 unfold yC
 refine J_g 2 [(0,0),(1,1)] [(2,pp 0),(3,pp 1)] [(0,.box (zD.enc false a1)),(1,.box (zD.enc false a2))] zB ?_
 refine J_d 12 [] [9] [(9,bv (a1.Code !=a2.Code))] [] [] zB ?_
 refine zG 9 (fun h3=>?_) (fun h3=>?_)
 ·refine J_g 52 [] [(4,bv false)] [] zB ?_
  exact zU rfl
 ·refine J_d 28 [] [9,14] [(14,bv (a1.Choices !=a2.Choices))] [] [] zB ?_
  refine zG 14 (fun h4=>?_) (fun h4=>?_)
  ·refine J_g 116 [] [(4,bv false)] [] zB ?_
   exact zU rfl
  ·refine zA (fun x5 h6=>?_)
   refine J_g 60 [] [(20,bv (!x5))] [] (zK 4 (xP [(.tmp 16),(.tmp 18)] [29,29] (jS.ok a1.System a2.System) h6) zB) ?_
   refine zG 20 (fun h7=>?_) (fun h7=>?_)
   ·refine J_g 244 [] [(4,bv false)] [] zB ?_
    exact zU rfl
   ·refine J_g 62 [] [(4,bv true)] [] zB ?_
    exact zU rfl
noncomputable def c55:Code:=(Tryz.f55.body).getD .skip
theorem kE.ok (q:Wd) (kn:ByteArray→Option (D×List Ent)) (hk:∀v:ByteArray,J (q.g Tryz.prog 55 0 20) c55 (atI c55 31) (St.mk' [(3,sv v)] []) (some v) kn):
  ∀s6:(Int×ByteArray),J (q.g Tryz.prog 55 0 20) c55 (atI c55 120) (St.mk' [(0,iv s6.1),(3,sv s6.2)] []) (kE s6) kn:=by
 refine zAV (fun g ih s6=>?_)
 unfold zAn
 refine J_d 480 [] [7] [(7,bv (decide (s6.1>0)))] [] [] zB ?_
 refine zG 7 (fun h7=>?_) (fun h7=>?_)
 ·refine zA (fun x8 h9=>?_)
  refine J_g 964 [] [(0,iv s6.1),(3,sv x8)] [] (zK 4 (zEQ 111 5 1 0 eU8 [IntKind.u8.wrap (w64 (48+(s6.1.tmod 10)))] [0] [(.tmp 11)] [uv (IntKind.u8.wrap (w64 (48+(s6.1.tmod 10))))]) (zK 5 (zGG (xs:=[IntKind.u8.wrap (w64 (48+(s6.1.tmod 10)))]) 111 9 5 0 (.tmp 12)) (zK 7 (zFJ 9 9 (.tmp 13) (.tmp 14) h9) zB))) ?_
  refine J_g 965 [] [(0,iv (w64 (s6.1.tdiv 10))),(3,sv x8)] [] zB ?_
  exact J_q (J_b (ih (w64 (s6.1.tdiv 10),x8))) rfl
 ·exact vX (hk s6.2) rfl
theorem zT.ok (a1:Int):Ok Tryz.prog 55 [iv a1] [] ((zT a1).map fun r=>(sv r,[])):=by
 refine zL c55 Tryz.f55 0 20 (fun q=>?_)
 unfold zT
 refine J_g 2 [] [(0,iv a1)] [] zB ?_
 refine J_g 12 [] [(0,iv a1),(5,bv (decide (a1≤0)))] [] zB ?_
 refine zG 5 (fun h2=>?_) (fun h2=>?_)
 ·refine J_g 52 [] [(2,sv (bs [109,48]))] [] zB ?_
  exact zU rfl
 ·refine J_g 14 [] [(0,iv a1),(3,sv (bs []))] [] zB ?_
  refine zES (kE.ok q _ (fun v10=>J_j ?_) (a1,bs []))
  refine zA (fun x11 h12=>?_)
  refine J_g 62 [] [(2,sv x11)] [] (zK 1 (zFJ 9 9 (.const (.string (bs [109]))) (.tmp 18) h12) zB) ?_
  exact zU rfl
noncomputable def c56:Code:=(Tryz.f56.body).getD .skip
theorem wM.ok (q:Wd) (kn:((List ByteArray)×Int)→Option (D×List Ent)) (hk:∀v:((List ByteArray)×Int),J (q.g Tryz.prog 56 1 20) c56 (atI c56 7) (St.mk' [(1,iv v.2)] [(0,rE 1 eStr v.1)]) (some v) kn):
  ∀s8:((List ByteArray)×Int×Int),J (q.g Tryz.prog 56 1 20) c56 (atI c56 52) (St.mk' [(0,rr 0 s8.1),(1,iv s8.2.1),(5,iv s8.2.2)] [(0,rE 1 eStr s8.1)]) (wM s8) kn:=by
 refine zAV (fun g ih s8=>?_)
 unfold wB
 refine J_d 208 [] [9] [(9,bv (decide (s8.2.2< (s8.1.length:Int))))] [] [] zB ?_
 refine zG 9 (fun h9=>?_) (fun h9=>?_)
 ·refine zA (fun x10 h11=>?_)
  refine zA (fun x12 h13=>?_)
  refine J_g 840 [] [(0,rr 0 s8.1),(1,iv s8.2.1),(5,iv s8.2.2)] [(0,rE 1 eStr (s8.1.set s8.2.2.toNat x10))] (zK 3 (xP [(.tmp 14)] [3] (zT.ok s8.2.1) h11) (zK 4 (zBk (kk:=.i64) 70 9 1 0 eStr (.tmp 12) (.tmp 13) h13) (zD3 5 (zEu (b:=x10) 9 1 0 0 eStr (sv x10) (.tmp 16) (.tmp 15) h13 rfl) zB))) ?_
  refine zCj (σ':=St.mk' [(0,rr 0 (s8.1.set s8.2.2.toNat x10)),(1,iv s8.2.1),(5,iv s8.2.2)] [(0,rE 1 eStr (s8.1.set s8.2.2.toNat x10))]) (by simp only [rr,List.length_set]) ?_
  refine J_g 841 [] [(0,rr 0 (s8.1.set s8.2.2.toNat x10)),(1,iv (w64 (s8.2.1+1))),(5,iv s8.2.2)] [(0,rE 1 eStr (s8.1.set s8.2.2.toNat x10))] zB ?_
  refine J_d 211 [] [5] [(5,iv (w64 (s8.2.2+1)))] [] [] zB ?_
  exact J_q (J_b (ih (s8.1.set s8.2.2.toNat x10,w64 (s8.2.1+1),w64 (s8.2.2+1)))) rfl
 ·exact vX (hk (s8.1,s8.2.1)) rfl
theorem xU.ok (a1:(List ByteArray)) (a2:Int):Ok Tryz.prog 56 [rr 0 a1,iv a2] [rE 1 eStr a1] ((xU a1 a2).map fun r=>(iv r.1,[rE 1 eStr r.2])):=by
 refine zL c56 Tryz.f56 1 20 (fun q=>?_)
 unfold xU
 refine J_g 2 [] [(0,rr 0 a1),(1,iv a2)] [(0,rE 1 eStr a1)] zB ?_
 refine J_d 12 [] [5] [(5,iv 0)] [] [] zB ?_
 refine zES (wM.ok q _ (fun v14=>J_j ?_) (a1,a2,0))
 refine J_g 14 [] [(4,iv v14.2)] [(0,rE 1 eStr v14.1)] zB ?_
 exact zU rfl
noncomputable def c58:Code:=(Tryz.f58.body).getD .skip
theorem uD.ok (q:Wd) (kn:((List Term)×Int)→Option (D×List Ent)) (hk:∀v:((List Term)×Int),J (q.g Tryz.prog 58 1 69) c58 (atI c58 7) (St.mk' [(1,iv v.2)] [(0,rE 7 Term.enc v.1)]) (some v) kn):
  ∀s20:((List Term)×Int×Int),J (q.g Tryz.prog 58 1 69) c58 (atI c58 52) (St.mk' [(0,rr 0 s20.1),(1,iv s20.2.1),(5,iv s20.2.2)] [(0,rE 7 Term.enc s20.1)]) (uD s20) kn:=by
 refine zAV (fun g ih s20=>?_)
 unfold vE
 refine J_d 208 [] [9] [(9,bv (decide (s20.2.2< (s20.1.length:Int))))] [] [] zB ?_
 refine zG 9 (fun h21=>?_) (fun h21=>?_)
 ·refine zA (fun x22 h23=>?_)
  refine zA (fun x24 h25=>?_)
  refine J_g 840 [] [(0,rr 0 s20.1),(1,iv s20.2.1),(5,iv s20.2.2)] [(0,rE 7 Term.enc (s20.1.set s20.2.2.toNat ({Name:=x22,Low:=x24.Low,High:=x24.High}:Term)))] (zK 3 (xP [(.tmp 14)] [3] (zT.ok s20.2.1) h23) (zK 4 (zBk (kk:=.i64) 53 153 7 0 Term.enc (.tmp 12) (.tmp 13) h25) (zD3 6 (zEu (b:=({Name:=x22,Low:=x24.Low,High:=x24.High}:Term)) 9 7 0 0 Term.enc (sv x22) (.tmp 17) (.tmp 15) h25 rfl) zB))) ?_
  refine zCj (σ':=St.mk' [(0,rr 0 (s20.1.set s20.2.2.toNat ({Name:=x22,Low:=x24.Low,High:=x24.High}:Term))),(1,iv s20.2.1),(5,iv s20.2.2)] [(0,rE 7 Term.enc (s20.1.set s20.2.2.toNat ({Name:=x22,Low:=x24.Low,High:=x24.High}:Term)))]) (by simp only [rr,List.length_set]) ?_
  refine J_d 1682 [] [1] [(1,iv (w64 (s20.2.1+1)))] [] [] zB ?_
  refine zA (fun x26 h27=>?_)
  refine J_g 3366 [] [(0,rr 0 (s20.1.set s20.2.2.toNat ({Name:=x22,Low:=x24.Low,High:=x24.High}:Term))),(1,iv (w64 (s20.2.1+1))),(5,iv s20.2.2)] [(0,rE 7 Term.enc ((s20.1.set s20.2.2.toNat ({Name:=x22,Low:=x24.Low,High:=x24.High}:Term)).set s20.2.2.toNat ({Name:=x26.Name,Low:=({A:=w64 (s20.2.1+1),B:=x26.Low.B,C:=x26.Low.C}:Version),High:=x26.High}:Term)))] (zK 3 (zBk (kk:=.i64) 53 153 7 0 Term.enc (.tmp 20) (.tmp 21) h27) (zD3 6 (zEu (b:=({Name:=x26.Name,Low:=({A:=w64 (s20.2.1+1),B:=x26.Low.B,C:=x26.Low.C}:Version),High:=x26.High}:Term)) 2 7 0 1 Term.enc (iv (w64 (s20.2.1+1))) (.tmp 25) (.tmp 22) h27 rfl) zB)) ?_
  refine zCj (σ':=St.mk' [(0,rr 0 ((s20.1.set s20.2.2.toNat ({Name:=x22,Low:=x24.Low,High:=x24.High}:Term)).set s20.2.2.toNat ({Name:=x26.Name,Low:=({A:=w64 (s20.2.1+1),B:=x26.Low.B,C:=x26.Low.C}:Version),High:=x26.High}:Term))),(1,iv (w64 (s20.2.1+1))),(5,iv s20.2.2)] [(0,rE 7 Term.enc ((s20.1.set s20.2.2.toNat ({Name:=x22,Low:=x24.Low,High:=x24.High}:Term)).set s20.2.2.toNat ({Name:=x26.Name,Low:=({A:=w64 (s20.2.1+1),B:=x26.Low.B,C:=x26.Low.C}:Version),High:=x26.High}:Term)))]) (by simp only [rr,List.length_set]) ?_
  refine J_d 6734 [] [1] [(1,iv (w64 ((w64 (s20.2.1+1))+1)))] [] [] zB ?_
  refine zA (fun x28 h29=>?_)
  refine J_g 13470 [] [(0,rr 0 ((s20.1.set s20.2.2.toNat ({Name:=x22,Low:=x24.Low,High:=x24.High}:Term)).set s20.2.2.toNat ({Name:=x26.Name,Low:=({A:=w64 (s20.2.1+1),B:=x26.Low.B,C:=x26.Low.C}:Version),High:=x26.High}:Term))),(1,iv (w64 ((w64 (s20.2.1+1))+1))),(5,iv s20.2.2)] [(0,rE 7 Term.enc (((s20.1.set s20.2.2.toNat ({Name:=x22,Low:=x24.Low,High:=x24.High}:Term)).set s20.2.2.toNat ({Name:=x26.Name,Low:=({A:=w64 (s20.2.1+1),B:=x26.Low.B,C:=x26.Low.C}:Version),High:=x26.High}:Term)).set s20.2.2.toNat ({Name:=x28.Name,Low:=({A:=x28.Low.A,B:=w64 ((w64 (s20.2.1+1))+1),C:=x28.Low.C}:Version),High:=x28.High}:Term)))] (zK 3 (zBk (kk:=.i64) 53 153 7 0 Term.enc (.tmp 28) (.tmp 29) h29) (zD3 6 (zEu (b:=({Name:=x28.Name,Low:=({A:=x28.Low.A,B:=w64 ((w64 (s20.2.1+1))+1),C:=x28.Low.C}:Version),High:=x28.High}:Term)) 2 7 0 2 Term.enc (iv (w64 ((w64 (s20.2.1+1))+1))) (.tmp 33) (.tmp 30) h29 rfl) zB)) ?_
  refine zCj (σ':=St.mk' [(0,rr 0 (((s20.1.set s20.2.2.toNat ({Name:=x22,Low:=x24.Low,High:=x24.High}:Term)).set s20.2.2.toNat ({Name:=x26.Name,Low:=({A:=w64 (s20.2.1+1),B:=x26.Low.B,C:=x26.Low.C}:Version),High:=x26.High}:Term)).set s20.2.2.toNat ({Name:=x28.Name,Low:=({A:=x28.Low.A,B:=w64 ((w64 (s20.2.1+1))+1),C:=x28.Low.C}:Version),High:=x28.High}:Term))),(1,iv (w64 ((w64 (s20.2.1+1))+1))),(5,iv s20.2.2)] [(0,rE 7 Term.enc (((s20.1.set s20.2.2.toNat ({Name:=x22,Low:=x24.Low,High:=x24.High}:Term)).set s20.2.2.toNat ({Name:=x26.Name,Low:=({A:=w64 (s20.2.1+1),B:=x26.Low.B,C:=x26.Low.C}:Version),High:=x26.High}:Term)).set s20.2.2.toNat ({Name:=x28.Name,Low:=({A:=x28.Low.A,B:=w64 ((w64 (s20.2.1+1))+1),C:=x28.Low.C}:Version),High:=x28.High}:Term)))]) (by simp only [rr,List.length_set]) ?_
  refine J_d 26942 [] [1] [(1,iv (w64 ((w64 ((w64 (s20.2.1+1))+1))+1)))] [] [] zB ?_
  refine zA (fun x30 h31=>?_)
  refine J_g 53886 [] [(0,rr 0 (((s20.1.set s20.2.2.toNat ({Name:=x22,Low:=x24.Low,High:=x24.High}:Term)).set s20.2.2.toNat ({Name:=x26.Name,Low:=({A:=w64 (s20.2.1+1),B:=x26.Low.B,C:=x26.Low.C}:Version),High:=x26.High}:Term)).set s20.2.2.toNat ({Name:=x28.Name,Low:=({A:=x28.Low.A,B:=w64 ((w64 (s20.2.1+1))+1),C:=x28.Low.C}:Version),High:=x28.High}:Term))),(1,iv (w64 ((w64 ((w64 (s20.2.1+1))+1))+1))),(5,iv s20.2.2)] [(0,rE 7 Term.enc ((((s20.1.set s20.2.2.toNat ({Name:=x22,Low:=x24.Low,High:=x24.High}:Term)).set s20.2.2.toNat ({Name:=x26.Name,Low:=({A:=w64 (s20.2.1+1),B:=x26.Low.B,C:=x26.Low.C}:Version),High:=x26.High}:Term)).set s20.2.2.toNat ({Name:=x28.Name,Low:=({A:=x28.Low.A,B:=w64 ((w64 (s20.2.1+1))+1),C:=x28.Low.C}:Version),High:=x28.High}:Term)).set s20.2.2.toNat ({Name:=x30.Name,Low:=({A:=x30.Low.A,B:=x30.Low.B,C:=w64 ((w64 ((w64 (s20.2.1+1))+1))+1)}:Version),High:=x30.High}:Term)))] (zK 3 (zBk (kk:=.i64) 53 153 7 0 Term.enc (.tmp 36) (.tmp 37) h31) (zD3 6 (zEu (b:=({Name:=x30.Name,Low:=({A:=x30.Low.A,B:=x30.Low.B,C:=w64 ((w64 ((w64 (s20.2.1+1))+1))+1)}:Version),High:=x30.High}:Term)) 2 7 0 3 Term.enc (iv (w64 ((w64 ((w64 (s20.2.1+1))+1))+1))) (.tmp 41) (.tmp 38) h31 rfl) zB)) ?_
  refine zCj (σ':=St.mk' [(0,rr 0 ((((s20.1.set s20.2.2.toNat ({Name:=x22,Low:=x24.Low,High:=x24.High}:Term)).set s20.2.2.toNat ({Name:=x26.Name,Low:=({A:=w64 (s20.2.1+1),B:=x26.Low.B,C:=x26.Low.C}:Version),High:=x26.High}:Term)).set s20.2.2.toNat ({Name:=x28.Name,Low:=({A:=x28.Low.A,B:=w64 ((w64 (s20.2.1+1))+1),C:=x28.Low.C}:Version),High:=x28.High}:Term)).set s20.2.2.toNat ({Name:=x30.Name,Low:=({A:=x30.Low.A,B:=x30.Low.B,C:=w64 ((w64 ((w64 (s20.2.1+1))+1))+1)}:Version),High:=x30.High}:Term))),(1,iv (w64 ((w64 ((w64 (s20.2.1+1))+1))+1))),(5,iv s20.2.2)] [(0,rE 7 Term.enc ((((s20.1.set s20.2.2.toNat ({Name:=x22,Low:=x24.Low,High:=x24.High}:Term)).set s20.2.2.toNat ({Name:=x26.Name,Low:=({A:=w64 (s20.2.1+1),B:=x26.Low.B,C:=x26.Low.C}:Version),High:=x26.High}:Term)).set s20.2.2.toNat ({Name:=x28.Name,Low:=({A:=x28.Low.A,B:=w64 ((w64 (s20.2.1+1))+1),C:=x28.Low.C}:Version),High:=x28.High}:Term)).set s20.2.2.toNat ({Name:=x30.Name,Low:=({A:=x30.Low.A,B:=x30.Low.B,C:=w64 ((w64 ((w64 (s20.2.1+1))+1))+1)}:Version),High:=x30.High}:Term)))]) (by simp only [rr,List.length_set]) ?_
  refine J_d 107774 [] [1] [(1,iv (w64 ((w64 ((w64 ((w64 (s20.2.1+1))+1))+1))+1)))] [] [] zB ?_
  refine zA (fun x32 h33=>?_)
  refine J_g 215550 [] [(0,rr 0 ((((s20.1.set s20.2.2.toNat ({Name:=x22,Low:=x24.Low,High:=x24.High}:Term)).set s20.2.2.toNat ({Name:=x26.Name,Low:=({A:=w64 (s20.2.1+1),B:=x26.Low.B,C:=x26.Low.C}:Version),High:=x26.High}:Term)).set s20.2.2.toNat ({Name:=x28.Name,Low:=({A:=x28.Low.A,B:=w64 ((w64 (s20.2.1+1))+1),C:=x28.Low.C}:Version),High:=x28.High}:Term)).set s20.2.2.toNat ({Name:=x30.Name,Low:=({A:=x30.Low.A,B:=x30.Low.B,C:=w64 ((w64 ((w64 (s20.2.1+1))+1))+1)}:Version),High:=x30.High}:Term))),(1,iv (w64 ((w64 ((w64 ((w64 (s20.2.1+1))+1))+1))+1))),(5,iv s20.2.2)] [(0,rE 7 Term.enc (((((s20.1.set s20.2.2.toNat ({Name:=x22,Low:=x24.Low,High:=x24.High}:Term)).set s20.2.2.toNat ({Name:=x26.Name,Low:=({A:=w64 (s20.2.1+1),B:=x26.Low.B,C:=x26.Low.C}:Version),High:=x26.High}:Term)).set s20.2.2.toNat ({Name:=x28.Name,Low:=({A:=x28.Low.A,B:=w64 ((w64 (s20.2.1+1))+1),C:=x28.Low.C}:Version),High:=x28.High}:Term)).set s20.2.2.toNat ({Name:=x30.Name,Low:=({A:=x30.Low.A,B:=x30.Low.B,C:=w64 ((w64 ((w64 (s20.2.1+1))+1))+1)}:Version),High:=x30.High}:Term)).set s20.2.2.toNat ({Name:=x32.Name,Low:=x32.Low,High:=({A:=w64 ((w64 ((w64 ((w64 (s20.2.1+1))+1))+1))+1),B:=x32.High.B,C:=x32.High.C}:Version)}:Term)))] (zK 3 (zBk (kk:=.i64) 53 153 7 0 Term.enc (.tmp 44) (.tmp 45) h33) (zD3 6 (zEu (b:=({Name:=x32.Name,Low:=x32.Low,High:=({A:=w64 ((w64 ((w64 ((w64 (s20.2.1+1))+1))+1))+1),B:=x32.High.B,C:=x32.High.C}:Version)}:Term)) 2 7 0 4 Term.enc (iv (w64 ((w64 ((w64 ((w64 (s20.2.1+1))+1))+1))+1))) (.tmp 49) (.tmp 46) h33 rfl) zB)) ?_
  refine zCj (σ':=St.mk' [(0,rr 0 (((((s20.1.set s20.2.2.toNat ({Name:=x22,Low:=x24.Low,High:=x24.High}:Term)).set s20.2.2.toNat ({Name:=x26.Name,Low:=({A:=w64 (s20.2.1+1),B:=x26.Low.B,C:=x26.Low.C}:Version),High:=x26.High}:Term)).set s20.2.2.toNat ({Name:=x28.Name,Low:=({A:=x28.Low.A,B:=w64 ((w64 (s20.2.1+1))+1),C:=x28.Low.C}:Version),High:=x28.High}:Term)).set s20.2.2.toNat ({Name:=x30.Name,Low:=({A:=x30.Low.A,B:=x30.Low.B,C:=w64 ((w64 ((w64 (s20.2.1+1))+1))+1)}:Version),High:=x30.High}:Term)).set s20.2.2.toNat ({Name:=x32.Name,Low:=x32.Low,High:=({A:=w64 ((w64 ((w64 ((w64 (s20.2.1+1))+1))+1))+1),B:=x32.High.B,C:=x32.High.C}:Version)}:Term))),(1,iv (w64 ((w64 ((w64 ((w64 (s20.2.1+1))+1))+1))+1))),(5,iv s20.2.2)] [(0,rE 7 Term.enc (((((s20.1.set s20.2.2.toNat ({Name:=x22,Low:=x24.Low,High:=x24.High}:Term)).set s20.2.2.toNat ({Name:=x26.Name,Low:=({A:=w64 (s20.2.1+1),B:=x26.Low.B,C:=x26.Low.C}:Version),High:=x26.High}:Term)).set s20.2.2.toNat ({Name:=x28.Name,Low:=({A:=x28.Low.A,B:=w64 ((w64 (s20.2.1+1))+1),C:=x28.Low.C}:Version),High:=x28.High}:Term)).set s20.2.2.toNat ({Name:=x30.Name,Low:=({A:=x30.Low.A,B:=x30.Low.B,C:=w64 ((w64 ((w64 (s20.2.1+1))+1))+1)}:Version),High:=x30.High}:Term)).set s20.2.2.toNat ({Name:=x32.Name,Low:=x32.Low,High:=({A:=w64 ((w64 ((w64 ((w64 (s20.2.1+1))+1))+1))+1),B:=x32.High.B,C:=x32.High.C}:Version)}:Term)))]) (by simp only [rr,List.length_set]) ?_
  refine J_d 431102 [] [1] [(1,iv (w64 ((w64 ((w64 ((w64 ((w64 (s20.2.1+1))+1))+1))+1))+1)))] [] [] zB ?_
  refine zA (fun x34 h35=>?_)
  refine J_g 862206 [] [(0,rr 0 (((((s20.1.set s20.2.2.toNat ({Name:=x22,Low:=x24.Low,High:=x24.High}:Term)).set s20.2.2.toNat ({Name:=x26.Name,Low:=({A:=w64 (s20.2.1+1),B:=x26.Low.B,C:=x26.Low.C}:Version),High:=x26.High}:Term)).set s20.2.2.toNat ({Name:=x28.Name,Low:=({A:=x28.Low.A,B:=w64 ((w64 (s20.2.1+1))+1),C:=x28.Low.C}:Version),High:=x28.High}:Term)).set s20.2.2.toNat ({Name:=x30.Name,Low:=({A:=x30.Low.A,B:=x30.Low.B,C:=w64 ((w64 ((w64 (s20.2.1+1))+1))+1)}:Version),High:=x30.High}:Term)).set s20.2.2.toNat ({Name:=x32.Name,Low:=x32.Low,High:=({A:=w64 ((w64 ((w64 ((w64 (s20.2.1+1))+1))+1))+1),B:=x32.High.B,C:=x32.High.C}:Version)}:Term))),(1,iv (w64 ((w64 ((w64 ((w64 ((w64 (s20.2.1+1))+1))+1))+1))+1))),(5,iv s20.2.2)] [(0,rE 7 Term.enc ((((((s20.1.set s20.2.2.toNat ({Name:=x22,Low:=x24.Low,High:=x24.High}:Term)).set s20.2.2.toNat ({Name:=x26.Name,Low:=({A:=w64 (s20.2.1+1),B:=x26.Low.B,C:=x26.Low.C}:Version),High:=x26.High}:Term)).set s20.2.2.toNat ({Name:=x28.Name,Low:=({A:=x28.Low.A,B:=w64 ((w64 (s20.2.1+1))+1),C:=x28.Low.C}:Version),High:=x28.High}:Term)).set s20.2.2.toNat ({Name:=x30.Name,Low:=({A:=x30.Low.A,B:=x30.Low.B,C:=w64 ((w64 ((w64 (s20.2.1+1))+1))+1)}:Version),High:=x30.High}:Term)).set s20.2.2.toNat ({Name:=x32.Name,Low:=x32.Low,High:=({A:=w64 ((w64 ((w64 ((w64 (s20.2.1+1))+1))+1))+1),B:=x32.High.B,C:=x32.High.C}:Version)}:Term)).set s20.2.2.toNat ({Name:=x34.Name,Low:=x34.Low,High:=({A:=x34.High.A,B:=w64 ((w64 ((w64 ((w64 ((w64 (s20.2.1+1))+1))+1))+1))+1),C:=x34.High.C}:Version)}:Term)))] (zK 3 (zBk (kk:=.i64) 53 153 7 0 Term.enc (.tmp 52) (.tmp 53) h35) (zD3 6 (zEu (b:=({Name:=x34.Name,Low:=x34.Low,High:=({A:=x34.High.A,B:=w64 ((w64 ((w64 ((w64 ((w64 (s20.2.1+1))+1))+1))+1))+1),C:=x34.High.C}:Version)}:Term)) 2 7 0 5 Term.enc (iv (w64 ((w64 ((w64 ((w64 ((w64 (s20.2.1+1))+1))+1))+1))+1))) (.tmp 57) (.tmp 54) h35 rfl) zB)) ?_
  refine zCj (σ':=St.mk' [(0,rr 0 ((((((s20.1.set s20.2.2.toNat ({Name:=x22,Low:=x24.Low,High:=x24.High}:Term)).set s20.2.2.toNat ({Name:=x26.Name,Low:=({A:=w64 (s20.2.1+1),B:=x26.Low.B,C:=x26.Low.C}:Version),High:=x26.High}:Term)).set s20.2.2.toNat ({Name:=x28.Name,Low:=({A:=x28.Low.A,B:=w64 ((w64 (s20.2.1+1))+1),C:=x28.Low.C}:Version),High:=x28.High}:Term)).set s20.2.2.toNat ({Name:=x30.Name,Low:=({A:=x30.Low.A,B:=x30.Low.B,C:=w64 ((w64 ((w64 (s20.2.1+1))+1))+1)}:Version),High:=x30.High}:Term)).set s20.2.2.toNat ({Name:=x32.Name,Low:=x32.Low,High:=({A:=w64 ((w64 ((w64 ((w64 (s20.2.1+1))+1))+1))+1),B:=x32.High.B,C:=x32.High.C}:Version)}:Term)).set s20.2.2.toNat ({Name:=x34.Name,Low:=x34.Low,High:=({A:=x34.High.A,B:=w64 ((w64 ((w64 ((w64 ((w64 (s20.2.1+1))+1))+1))+1))+1),C:=x34.High.C}:Version)}:Term))),(1,iv (w64 ((w64 ((w64 ((w64 ((w64 (s20.2.1+1))+1))+1))+1))+1))),(5,iv s20.2.2)] [(0,rE 7 Term.enc ((((((s20.1.set s20.2.2.toNat ({Name:=x22,Low:=x24.Low,High:=x24.High}:Term)).set s20.2.2.toNat ({Name:=x26.Name,Low:=({A:=w64 (s20.2.1+1),B:=x26.Low.B,C:=x26.Low.C}:Version),High:=x26.High}:Term)).set s20.2.2.toNat ({Name:=x28.Name,Low:=({A:=x28.Low.A,B:=w64 ((w64 (s20.2.1+1))+1),C:=x28.Low.C}:Version),High:=x28.High}:Term)).set s20.2.2.toNat ({Name:=x30.Name,Low:=({A:=x30.Low.A,B:=x30.Low.B,C:=w64 ((w64 ((w64 (s20.2.1+1))+1))+1)}:Version),High:=x30.High}:Term)).set s20.2.2.toNat ({Name:=x32.Name,Low:=x32.Low,High:=({A:=w64 ((w64 ((w64 ((w64 (s20.2.1+1))+1))+1))+1),B:=x32.High.B,C:=x32.High.C}:Version)}:Term)).set s20.2.2.toNat ({Name:=x34.Name,Low:=x34.Low,High:=({A:=x34.High.A,B:=w64 ((w64 ((w64 ((w64 ((w64 (s20.2.1+1))+1))+1))+1))+1),C:=x34.High.C}:Version)}:Term)))]) (by simp only [rr,List.length_set]) ?_
  refine J_d 1724414 [] [1] [(1,iv (w64 ((w64 ((w64 ((w64 ((w64 ((w64 (s20.2.1+1))+1))+1))+1))+1))+1)))] [] [] zB ?_
  refine zA (fun x36 h37=>?_)
  refine J_g 3448830 [] [(0,rr 0 ((((((s20.1.set s20.2.2.toNat ({Name:=x22,Low:=x24.Low,High:=x24.High}:Term)).set s20.2.2.toNat ({Name:=x26.Name,Low:=({A:=w64 (s20.2.1+1),B:=x26.Low.B,C:=x26.Low.C}:Version),High:=x26.High}:Term)).set s20.2.2.toNat ({Name:=x28.Name,Low:=({A:=x28.Low.A,B:=w64 ((w64 (s20.2.1+1))+1),C:=x28.Low.C}:Version),High:=x28.High}:Term)).set s20.2.2.toNat ({Name:=x30.Name,Low:=({A:=x30.Low.A,B:=x30.Low.B,C:=w64 ((w64 ((w64 (s20.2.1+1))+1))+1)}:Version),High:=x30.High}:Term)).set s20.2.2.toNat ({Name:=x32.Name,Low:=x32.Low,High:=({A:=w64 ((w64 ((w64 ((w64 (s20.2.1+1))+1))+1))+1),B:=x32.High.B,C:=x32.High.C}:Version)}:Term)).set s20.2.2.toNat ({Name:=x34.Name,Low:=x34.Low,High:=({A:=x34.High.A,B:=w64 ((w64 ((w64 ((w64 ((w64 (s20.2.1+1))+1))+1))+1))+1),C:=x34.High.C}:Version)}:Term))),(1,iv (w64 ((w64 ((w64 ((w64 ((w64 ((w64 (s20.2.1+1))+1))+1))+1))+1))+1))),(5,iv s20.2.2)] [(0,rE 7 Term.enc (((((((s20.1.set s20.2.2.toNat ({Name:=x22,Low:=x24.Low,High:=x24.High}:Term)).set s20.2.2.toNat ({Name:=x26.Name,Low:=({A:=w64 (s20.2.1+1),B:=x26.Low.B,C:=x26.Low.C}:Version),High:=x26.High}:Term)).set s20.2.2.toNat ({Name:=x28.Name,Low:=({A:=x28.Low.A,B:=w64 ((w64 (s20.2.1+1))+1),C:=x28.Low.C}:Version),High:=x28.High}:Term)).set s20.2.2.toNat ({Name:=x30.Name,Low:=({A:=x30.Low.A,B:=x30.Low.B,C:=w64 ((w64 ((w64 (s20.2.1+1))+1))+1)}:Version),High:=x30.High}:Term)).set s20.2.2.toNat ({Name:=x32.Name,Low:=x32.Low,High:=({A:=w64 ((w64 ((w64 ((w64 (s20.2.1+1))+1))+1))+1),B:=x32.High.B,C:=x32.High.C}:Version)}:Term)).set s20.2.2.toNat ({Name:=x34.Name,Low:=x34.Low,High:=({A:=x34.High.A,B:=w64 ((w64 ((w64 ((w64 ((w64 (s20.2.1+1))+1))+1))+1))+1),C:=x34.High.C}:Version)}:Term)).set s20.2.2.toNat ({Name:=x36.Name,Low:=x36.Low,High:=({A:=x36.High.A,B:=x36.High.B,C:=w64 ((w64 ((w64 ((w64 ((w64 ((w64 (s20.2.1+1))+1))+1))+1))+1))+1)}:Version)}:Term)))] (zK 3 (zBk (kk:=.i64) 53 153 7 0 Term.enc (.tmp 60) (.tmp 61) h37) (zD3 6 (zEu (b:=({Name:=x36.Name,Low:=x36.Low,High:=({A:=x36.High.A,B:=x36.High.B,C:=w64 ((w64 ((w64 ((w64 ((w64 ((w64 (s20.2.1+1))+1))+1))+1))+1))+1)}:Version)}:Term)) 2 7 0 6 Term.enc (iv (w64 ((w64 ((w64 ((w64 ((w64 ((w64 (s20.2.1+1))+1))+1))+1))+1))+1))) (.tmp 65) (.tmp 62) h37 rfl) zB)) ?_
  refine zCj (σ':=St.mk' [(0,rr 0 (((((((s20.1.set s20.2.2.toNat ({Name:=x22,Low:=x24.Low,High:=x24.High}:Term)).set s20.2.2.toNat ({Name:=x26.Name,Low:=({A:=w64 (s20.2.1+1),B:=x26.Low.B,C:=x26.Low.C}:Version),High:=x26.High}:Term)).set s20.2.2.toNat ({Name:=x28.Name,Low:=({A:=x28.Low.A,B:=w64 ((w64 (s20.2.1+1))+1),C:=x28.Low.C}:Version),High:=x28.High}:Term)).set s20.2.2.toNat ({Name:=x30.Name,Low:=({A:=x30.Low.A,B:=x30.Low.B,C:=w64 ((w64 ((w64 (s20.2.1+1))+1))+1)}:Version),High:=x30.High}:Term)).set s20.2.2.toNat ({Name:=x32.Name,Low:=x32.Low,High:=({A:=w64 ((w64 ((w64 ((w64 (s20.2.1+1))+1))+1))+1),B:=x32.High.B,C:=x32.High.C}:Version)}:Term)).set s20.2.2.toNat ({Name:=x34.Name,Low:=x34.Low,High:=({A:=x34.High.A,B:=w64 ((w64 ((w64 ((w64 ((w64 (s20.2.1+1))+1))+1))+1))+1),C:=x34.High.C}:Version)}:Term)).set s20.2.2.toNat ({Name:=x36.Name,Low:=x36.Low,High:=({A:=x36.High.A,B:=x36.High.B,C:=w64 ((w64 ((w64 ((w64 ((w64 ((w64 (s20.2.1+1))+1))+1))+1))+1))+1)}:Version)}:Term))),(1,iv (w64 ((w64 ((w64 ((w64 ((w64 ((w64 (s20.2.1+1))+1))+1))+1))+1))+1))),(5,iv s20.2.2)] [(0,rE 7 Term.enc (((((((s20.1.set s20.2.2.toNat ({Name:=x22,Low:=x24.Low,High:=x24.High}:Term)).set s20.2.2.toNat ({Name:=x26.Name,Low:=({A:=w64 (s20.2.1+1),B:=x26.Low.B,C:=x26.Low.C}:Version),High:=x26.High}:Term)).set s20.2.2.toNat ({Name:=x28.Name,Low:=({A:=x28.Low.A,B:=w64 ((w64 (s20.2.1+1))+1),C:=x28.Low.C}:Version),High:=x28.High}:Term)).set s20.2.2.toNat ({Name:=x30.Name,Low:=({A:=x30.Low.A,B:=x30.Low.B,C:=w64 ((w64 ((w64 (s20.2.1+1))+1))+1)}:Version),High:=x30.High}:Term)).set s20.2.2.toNat ({Name:=x32.Name,Low:=x32.Low,High:=({A:=w64 ((w64 ((w64 ((w64 (s20.2.1+1))+1))+1))+1),B:=x32.High.B,C:=x32.High.C}:Version)}:Term)).set s20.2.2.toNat ({Name:=x34.Name,Low:=x34.Low,High:=({A:=x34.High.A,B:=w64 ((w64 ((w64 ((w64 ((w64 (s20.2.1+1))+1))+1))+1))+1),C:=x34.High.C}:Version)}:Term)).set s20.2.2.toNat ({Name:=x36.Name,Low:=x36.Low,High:=({A:=x36.High.A,B:=x36.High.B,C:=w64 ((w64 ((w64 ((w64 ((w64 ((w64 (s20.2.1+1))+1))+1))+1))+1))+1)}:Version)}:Term)))]) (by simp only [rr,List.length_set]) ?_
  refine J_g 3448831 [] [(0,rr 0 (((((((s20.1.set s20.2.2.toNat ({Name:=x22,Low:=x24.Low,High:=x24.High}:Term)).set s20.2.2.toNat ({Name:=x26.Name,Low:=({A:=w64 (s20.2.1+1),B:=x26.Low.B,C:=x26.Low.C}:Version),High:=x26.High}:Term)).set s20.2.2.toNat ({Name:=x28.Name,Low:=({A:=x28.Low.A,B:=w64 ((w64 (s20.2.1+1))+1),C:=x28.Low.C}:Version),High:=x28.High}:Term)).set s20.2.2.toNat ({Name:=x30.Name,Low:=({A:=x30.Low.A,B:=x30.Low.B,C:=w64 ((w64 ((w64 (s20.2.1+1))+1))+1)}:Version),High:=x30.High}:Term)).set s20.2.2.toNat ({Name:=x32.Name,Low:=x32.Low,High:=({A:=w64 ((w64 ((w64 ((w64 (s20.2.1+1))+1))+1))+1),B:=x32.High.B,C:=x32.High.C}:Version)}:Term)).set s20.2.2.toNat ({Name:=x34.Name,Low:=x34.Low,High:=({A:=x34.High.A,B:=w64 ((w64 ((w64 ((w64 ((w64 (s20.2.1+1))+1))+1))+1))+1),C:=x34.High.C}:Version)}:Term)).set s20.2.2.toNat ({Name:=x36.Name,Low:=x36.Low,High:=({A:=x36.High.A,B:=x36.High.B,C:=w64 ((w64 ((w64 ((w64 ((w64 ((w64 (s20.2.1+1))+1))+1))+1))+1))+1)}:Version)}:Term))),(1,iv (w64 ((w64 ((w64 ((w64 ((w64 ((w64 ((w64 (s20.2.1+1))+1))+1))+1))+1))+1))+1))),(5,iv s20.2.2)] [(0,rE 7 Term.enc (((((((s20.1.set s20.2.2.toNat ({Name:=x22,Low:=x24.Low,High:=x24.High}:Term)).set s20.2.2.toNat ({Name:=x26.Name,Low:=({A:=w64 (s20.2.1+1),B:=x26.Low.B,C:=x26.Low.C}:Version),High:=x26.High}:Term)).set s20.2.2.toNat ({Name:=x28.Name,Low:=({A:=x28.Low.A,B:=w64 ((w64 (s20.2.1+1))+1),C:=x28.Low.C}:Version),High:=x28.High}:Term)).set s20.2.2.toNat ({Name:=x30.Name,Low:=({A:=x30.Low.A,B:=x30.Low.B,C:=w64 ((w64 ((w64 (s20.2.1+1))+1))+1)}:Version),High:=x30.High}:Term)).set s20.2.2.toNat ({Name:=x32.Name,Low:=x32.Low,High:=({A:=w64 ((w64 ((w64 ((w64 (s20.2.1+1))+1))+1))+1),B:=x32.High.B,C:=x32.High.C}:Version)}:Term)).set s20.2.2.toNat ({Name:=x34.Name,Low:=x34.Low,High:=({A:=x34.High.A,B:=w64 ((w64 ((w64 ((w64 ((w64 (s20.2.1+1))+1))+1))+1))+1),C:=x34.High.C}:Version)}:Term)).set s20.2.2.toNat ({Name:=x36.Name,Low:=x36.Low,High:=({A:=x36.High.A,B:=x36.High.B,C:=w64 ((w64 ((w64 ((w64 ((w64 ((w64 (s20.2.1+1))+1))+1))+1))+1))+1)}:Version)}:Term)))] zB ?_
  refine J_d 211 [] [5] [(5,iv (w64 (s20.2.2+1)))] [] [] zB ?_
  exact J_q (J_b (ih (((((((s20.1.set s20.2.2.toNat ({Name:=x22,Low:=x24.Low,High:=x24.High}:Term)).set s20.2.2.toNat ({Name:=x26.Name,Low:=({A:=w64 (s20.2.1+1),B:=x26.Low.B,C:=x26.Low.C}:Version),High:=x26.High}:Term)).set s20.2.2.toNat ({Name:=x28.Name,Low:=({A:=x28.Low.A,B:=w64 ((w64 (s20.2.1+1))+1),C:=x28.Low.C}:Version),High:=x28.High}:Term)).set s20.2.2.toNat ({Name:=x30.Name,Low:=({A:=x30.Low.A,B:=x30.Low.B,C:=w64 ((w64 ((w64 (s20.2.1+1))+1))+1)}:Version),High:=x30.High}:Term)).set s20.2.2.toNat ({Name:=x32.Name,Low:=x32.Low,High:=({A:=w64 ((w64 ((w64 ((w64 (s20.2.1+1))+1))+1))+1),B:=x32.High.B,C:=x32.High.C}:Version)}:Term)).set s20.2.2.toNat ({Name:=x34.Name,Low:=x34.Low,High:=({A:=x34.High.A,B:=w64 ((w64 ((w64 ((w64 ((w64 (s20.2.1+1))+1))+1))+1))+1),C:=x34.High.C}:Version)}:Term)).set s20.2.2.toNat ({Name:=x36.Name,Low:=x36.Low,High:=({A:=x36.High.A,B:=x36.High.B,C:=w64 ((w64 ((w64 ((w64 ((w64 ((w64 (s20.2.1+1))+1))+1))+1))+1))+1)}:Version)}:Term),w64 ((w64 ((w64 ((w64 ((w64 ((w64 ((w64 (s20.2.1+1))+1))+1))+1))+1))+1))+1),w64 (s20.2.2+1)))) rfl
 ·exact vX (hk (s20.1,s20.2.1)) rfl
theorem xJ.ok (a1:(List Term)) (a2:Int):Ok Tryz.prog 58 [rr 0 a1,iv a2] [rE 7 Term.enc a1] ((xJ a1 a2).map fun r=>(iv r.1,[rE 7 Term.enc r.2])):=by
 refine zL c58 Tryz.f58 1 69 (fun q=>?_)
 unfold xJ
 refine J_g 2 [] [(0,rr 0 a1),(1,iv a2)] [(0,rE 7 Term.enc a1)] zB ?_
 refine J_d 12 [] [5] [(5,iv 0)] [] [] zB ?_
 refine zES (uD.ok q _ (fun v38=>J_j ?_) (a1,a2,0))
 refine J_d 14 [] [1,4] [(4,iv v38.2)] [] [] zB ?_
 exact zU rfl
noncomputable def c57:Code:=(Tryz.f57.body).getD .skip
theorem vI.ok (q:Wd) (kn:((List (List Term))×Int)→Option (D×List Ent)) (hk:∀v:((List (List Term))×Int),J (q.g Tryz.prog 57 1 19) c57 (atI c57 7) (St.mk' [(1,iv v.2)] [(0,rE 1 (eSl true 7 Term.enc) v.1)]) (some v) kn):
  ∀s10:((List (List Term))×Int×Int),J (q.g Tryz.prog 57 1 19) c57 (atI c57 52) (St.mk' [(0,rr 0 s10.1),(1,iv s10.2.1),(5,iv s10.2.2)] [(0,rE 1 (eSl true 7 Term.enc) s10.1)]) (vI s10) kn:=by
 refine zAV (fun g ih s10=>?_)
 unfold wL
 refine J_d 208 [] [9] [(9,bv (decide (s10.2.2< (s10.1.length:Int))))] [] [] zB ?_
 refine zG 9 (fun h11=>?_) (fun h11=>?_)
 ·refine zA (fun x12 h13=>?_)
  refine zCY (ix:=s10.2.2) (enc:=(eSl true 7 Term.enc)) 0 0 1 h13 rfl rfl (by kernel_rfl) ?_
  refine zDr [(0,rr 0 s10.1),(1,iv s10.2.1),(5,iv s10.2.2),(9,bv true)] [(0,.lent 1 (s10.1.map (eSl true 7 Term.enc)) s10.2.2.toNat 0 1 x12.length),(1,rE 7 Term.enc x12)] (by kernel_rfl) ?_
  refine zA (fun x14 h15=>?_)
  refine J_g 420 [] [(0,rr 0 s10.1),(1,iv x14.1),(5,iv s10.2.2)] [(0,.lent 1 (s10.1.map (eSl true 7 Term.enc)) s10.2.2.toNat 0 1 x12.length),(1,rE 7 Term.enc x14.2)] (zK 2 (zGn (kk:=.i64) 87 53 1 0 (eSl true 7 Term.enc) (.tmp 12) (.tmp 13) s10.2.2.toNat 0 1 x12.length h13) (zK 3 (zGA 53 0 (.tmp 14) 1 (eSl true 7 Term.enc) s10.1 s10.2.2.toNat 0 1 x12.length) (zK 5 (zAQ («as»:=[rr 1 x12,iv s10.2.1]) [(.tmp 15),(.tmp 16)] [53,3] false [(1,rE 7 Term.enc x12)] [1] (.cons (.rf rfl) (.cons (.same rfl) (.nil))) (xJ.ok x12 s10.2.1) h15 (.same rfl rfl)) zB))) ?_
  refine zA (fun u16 h17=>?_)
  refine zCJ (ix:=s10.2.2) (enc:=(eSl true 7 Term.enc)) (b:=x14.2) 0 0 1 h13 rfl rfl rfl rfl (zAp h17) (Nat.le_of_ble_eq_true rfl) ((List.length_map _).trans (zAp h17)) ?_
  refine zDr [(0,rr 0 s10.1),(1,iv x14.1),(5,iv s10.2.2)] [(0,rE 1 (eSl true 7 Term.enc) (s10.1.set s10.2.2.toNat x14.2))] (by kernel_rfl) ?_
  refine zCj (σ':=St.mk' [(0,rr 0 (s10.1.set s10.2.2.toNat x14.2)),(1,iv x14.1),(5,iv s10.2.2)] [(0,rE 1 (eSl true 7 Term.enc) (s10.1.set s10.2.2.toNat x14.2))]) (by simp only [rr,List.length_set]) ?_
  refine J_d 211 [] [5] [(5,iv (w64 (s10.2.2+1)))] [] [] zB ?_
  exact J_q (J_b (ih (s10.1.set s10.2.2.toNat x14.2,x14.1,w64 (s10.2.2+1)))) rfl
 ·exact vX (hk (s10.1,s10.2.1)) rfl
theorem wG.ok (a1:(List (List Term))) (a2:Int):Ok Tryz.prog 57 [rr 0 a1,iv a2] [rE 1 (eSl true 7 Term.enc) a1] ((wG a1 a2).map fun r=>(iv r.1,[rE 1 (eSl true 7 Term.enc) r.2])):=by
 refine zL c57 Tryz.f57 1 19 (fun q=>?_)
 unfold wG
 refine J_g 2 [] [(0,rr 0 a1),(1,iv a2)] [(0,rE 1 (eSl true 7 Term.enc) a1)] zB ?_
 refine J_d 12 [] [5] [(5,iv 0)] [] [] zB ?_
 refine zES (vI.ok q _ (fun v18=>J_j ?_) (a1,a2,0))
 refine J_d 14 [] [1,4] [(4,iv v18.2)] [] [] zB ?_
 exact zU rfl
end Go.Told

import Derived.Test.YtlagdfkkokgakaaGreatDoorToldBatchCost
import Derived.Test.YtlagdfkkokgakaaGreatDoorShelfBatchCost
import Derived.Test.YtlagdfkkokgakaaGreatDoorProg
set_option linter.unusedVariables false
set_option maxRecDepth 4000
namespace Go.Told
open Go Go.Im Go.Proofs
noncomputable def zLY:Code:=(Tryz.f100.body).getD .skip
theorem jQ.ok (a1:(List ByteArray)) (q:Wd) (kn:Int→Option (D×List Ent)) (hk:∀v:Int,J (q.g Tryz.prog 100 0 28) zLY (atI zLY 31) (St.mk' [(1,iv v)] []) (some v) kn):
  ∀s8:(Int×Int),J (q.g Tryz.prog 100 0 28) zLY (atI zLY 244) (St.mk' [(0,sl 1 eStr a1),(1,iv s8.1),(5,iv s8.2)] []) (jQ a1 s8) (Fl.go (fun r:Int=>some (iv r,[])) kn):=by
 refine zAU (fun g ih s8=>?_)
 unfold uY
 refine J_d 976 [] [15] [(15,bv (decide (s8.2< (a1.length:Int))))] [] [] zB ?_
 refine zD 15 (fun h9=>?_) (fun h9=>?_)
 ·refine zA (fun x10 h11=>?_)
  refine J_g 3912 [] [(0,sl 1 eStr a1),(1,iv (w64 (s8.1-(x10.size:Int)))),(5,iv s8.2)] [] (zG 3 (uE (kk:=.i64) 70 9 1 eStr (.tmp 19) (.tmp 20) h11) zB) ?_
  refine J_d 7826 [] [26] [(26,bv (decide ((w64 (s8.1-(x10.size:Int)))<0)))] [] [] zB ?_
  refine zD 26 (fun h12=>?_) (fun h12=>?_)
  ·refine J_g 31308 [] [(4,iv (-1))] [] zB ?_
   exact zT rfl
  ·refine J_d 979 [] [5,26] [(5,iv (w64 (s8.2+1)))] [] [] zB ?_
   exact J_q (J_b (ih (w64 (s8.1-(x10.size:Int)),w64 (s8.2+1)))) rfl
 ·exact xC (hk s8.1) rfl
theorem jE.ok (a1:(List ByteArray)) (a2:Int):Ok Tryz.prog 100 [sl 1 eStr a1,iv a2] [] ((jE a1 a2).map fun r=>(iv r,[])):=by
 refine zH zLY Tryz.f100 0 28 (fun q=>?_)
 unfold jE
 refine J_g 2 [] [(0,sl 1 eStr a1),(1,iv a2)] [] zB ?_
 refine J_g 6 [] [(0,sl 1 eStr a1),(1,iv (w64 (a2-(a1.length:Int))))] [] zB ?_
 refine J_d 28 [] [11] [(11,bv (decide ((w64 (a2-(a1.length:Int)))<0)))] [] [] zB ?_
 refine zD 11 (fun h3=>?_) (fun h3=>?_)
 ·refine J_g 116 [] [(4,iv (-1))] [] zB ?_
  exact zT rfl
 ·refine J_d 60 [] [5,11] [(5,iv 0)] [] [] zB ?_
  refine jL (K0:=(fun r:Int=>some (iv r,[]))) (fun _=>rfl) (jQ.ok a1 q _ (fun v13=>J_j ?_) (w64 (a2-(a1.length:Int)),0))
  refine J_g 62 [] [(4,iv v13)] [] zB ?_
  exact zT rfl
noncomputable def c183:Code:=(Tryz.f183.body).getD .skip
theorem zBx.ok (a1:Term) (a2:Int):Ok Tryz.prog 183 [.ag (Term.enc a1),iv a2] [] ((zBx a1 a2).map fun r=>(iv r,[])):=by
 refine zH c183 Tryz.f183 0 13 (fun q=>?_)
 unfold zBx
 refine J_g 2 [(0,0)] [(1,iv a2),(2,pp 0)] [(0,.box (Term.enc a1))] zB ?_
 refine J_g 6 [] [(1,iv (w64 (a2-(a1.Name.size:Int))))] [] zB ?_
 refine J_d 28 [] [11] [(11,bv (decide ((w64 (a2-(a1.Name.size:Int)))<0)))] [] [] zB ?_
 refine zD 11 (fun h3=>?_) (fun h3=>?_)
 ·refine J_g 116 [] [(4,iv (-1))] [] zB ?_
  exact zT rfl
 ·refine J_g 30 [] [(4,iv (w64 (a2-(a1.Name.size:Int))))] [] zB ?_
  exact zT rfl
noncomputable def zL7:Code:=(Tryz.f102.body).getD .skip
theorem zAg.ok (a1:(List Term)) (q:Wd) (kn:Int→Option (D×List Ent)) (hk:∀v:Int,J (q.g Tryz.prog 102 0 27) zL7 (atI zL7 31) (St.mk' [(1,iv v)] []) (some v) kn):
  ∀s10:(Int×Int),J (q.g Tryz.prog 102 0 27) zL7 (atI zL7 244) (St.mk' [(0,sl 7 Term.enc a1),(1,iv s10.1),(5,iv s10.2)] []) (zAg a1 s10) (Fl.go (fun r:Int=>some (iv r,[])) kn):=by
 refine zAU (fun g ih s10=>?_)
 unfold kR
 refine J_d 976 [] [15] [(15,bv (decide (s10.2< (a1.length:Int))))] [] [] zB ?_
 refine zD 15 (fun h11=>?_) (fun h11=>?_)
 ·refine zA (fun x12 h13=>?_)
  refine zA (fun x14 h15=>?_)
  refine J_g 3912 [] [(0,sl 7 Term.enc a1),(1,iv x14),(5,iv s10.2)] [] (zG 2 (uE (kk:=.i64) 80 207 7 Term.enc (.tmp 18) (.tmp 19) h13) (zG 5 (yT [(.tmp 21),(.tmp 22)] [207,3] (zBx.ok x12 s10.1) h15) zB)) ?_
  refine J_d 7826 [] [25] [(25,bv (decide (x14<0)))] [] [] zB ?_
  refine zD 25 (fun h16=>?_) (fun h16=>?_)
  ·refine J_g 31308 [] [(4,iv (-1))] [] zB ?_
   exact zT rfl
  ·refine J_d 979 [] [5,25] [(5,iv (w64 (s10.2+1)))] [] [] zB ?_
   exact J_q (J_b (ih (x14,w64 (s10.2+1)))) rfl
 ·exact xC (hk s10.1) rfl
theorem uZ.ok (a1:(List Term)) (a2:Int):Ok Tryz.prog 102 [sl 7 Term.enc a1,iv a2] [] ((uZ a1 a2).map fun r=>(iv r,[])):=by
 refine zH zL7 Tryz.f102 0 27 (fun q=>?_)
 unfold uZ
 refine J_g 2 [] [(0,sl 7 Term.enc a1),(1,iv a2)] [] zB ?_
 refine J_g 6 [] [(0,sl 7 Term.enc a1),(1,iv (w64 (a2-(a1.length:Int))))] [] zB ?_
 refine J_d 28 [] [11] [(11,bv (decide ((w64 (a2-(a1.length:Int)))<0)))] [] [] zB ?_
 refine zD 11 (fun h3=>?_) (fun h3=>?_)
 ·refine J_g 116 [] [(4,iv (-1))] [] zB ?_
  exact zT rfl
 ·refine J_d 60 [] [5,11] [(5,iv 0)] [] [] zB ?_
  refine jL (K0:=(fun r:Int=>some (iv r,[]))) (fun _=>rfl) (zAg.ok a1 q _ (fun v17=>J_j ?_) (w64 (a2-(a1.length:Int)),0))
  refine J_g 62 [] [(4,iv v17)] [] zB ?_
  exact zT rfl
noncomputable def zLv:Code:=(Tryz.f101.body).getD .skip
theorem kP.ok (a1:(List (List Term))) (q:Wd) (kn:Int→Option (D×List Ent)) (hk:∀v:Int,J (q.g Tryz.prog 101 0 27) zLv (atI zLv 31) (St.mk' [(1,iv v)] []) (some v) kn):
  ∀s10:(Int×Int),J (q.g Tryz.prog 101 0 27) zLv (atI zLv 244) (St.mk' [(0,sl 1 (eSl false 7 Term.enc) a1),(1,iv s10.1),(5,iv s10.2)] []) (kP a1 s10) (Fl.go (fun r:Int=>some (iv r,[])) kn):=by
 refine zAU (fun g ih s10=>?_)
 unfold jR
 refine J_d 976 [] [15] [(15,bv (decide (s10.2< (a1.length:Int))))] [] [] zB ?_
 refine zD 15 (fun h11=>?_) (fun h11=>?_)
 ·refine zA (fun x12 h13=>?_)
  refine zA (fun x14 h15=>?_)
  refine J_g 3912 [] [(0,sl 1 (eSl false 7 Term.enc) a1),(1,iv x14),(5,iv s10.2)] [] (zG 2 (uE (kk:=.i64) 79 80 1 (eSl false 7 Term.enc) (.tmp 18) (.tmp 19) h13) (zG 5 (yT [(.tmp 21),(.tmp 22)] [80,3] (uZ.ok x12 s10.1) h15) zB)) ?_
  refine J_d 7826 [] [25] [(25,bv (decide (x14<0)))] [] [] zB ?_
  refine zD 25 (fun h16=>?_) (fun h16=>?_)
  ·refine J_g 31308 [] [(4,iv (-1))] [] zB ?_
   exact zT rfl
  ·refine J_d 979 [] [5,25] [(5,iv (w64 (s10.2+1)))] [] [] zB ?_
   exact J_q (J_b (ih (x14,w64 (s10.2+1)))) rfl
 ·exact xC (hk s10.1) rfl
theorem kD.ok (a1:(List (List Term))) (a2:Int):Ok Tryz.prog 101 [sl 1 (eSl false 7 Term.enc) a1,iv a2] [] ((kD a1 a2).map fun r=>(iv r,[])):=by
 refine zH zLv Tryz.f101 0 27 (fun q=>?_)
 unfold kD
 refine J_g 2 [] [(0,sl 1 (eSl false 7 Term.enc) a1),(1,iv a2)] [] zB ?_
 refine J_g 6 [] [(0,sl 1 (eSl false 7 Term.enc) a1),(1,iv (w64 (a2-(a1.length:Int))))] [] zB ?_
 refine J_d 28 [] [11] [(11,bv (decide ((w64 (a2-(a1.length:Int)))<0)))] [] [] zB ?_
 refine zD 11 (fun h3=>?_) (fun h3=>?_)
 ·refine J_g 116 [] [(4,iv (-1))] [] zB ?_
  exact zT rfl
 ·refine J_d 60 [] [5,11] [(5,iv 0)] [] [] zB ?_
  refine jL (K0:=(fun r:Int=>some (iv r,[]))) (fun _=>rfl) (kP.ok a1 q _ (fun v17=>J_j ?_) (w64 (a2-(a1.length:Int)),0))
  refine J_g 62 [] [(4,iv v17)] [] zB ?_
  exact zT rfl
noncomputable def c45:Code:=(Tryz.f45.body).getD .skip
theorem zB5.ok (a1:Pack) (a2:Int):Ok Tryz.prog 45 [.ag (Pack.enc false a1),iv a2] [] ((zB5 a1 a2).map fun r=>(iv r,[])):=by
 refine zH c45 Tryz.f45 0 31 (fun q=>?_)
 unfold zB5
 refine J_g 2 [(0,0)] [(1,iv a2),(2,pp 0)] [(0,.box (Pack.enc false a1))] zB ?_
 refine J_g 6 [] [(1,iv (w64 (a2-(a1.Name.size:Int)))),(2,pp 0)] [(0,.box (Pack.enc false a1))] zB ?_
 refine J_d 28 [] [11] [(11,bv (decide ((w64 (a2-(a1.Name.size:Int)))<0)))] [] [] zB ?_
 refine zD 11 (fun h3=>?_) (fun h3=>?_)
 ·refine J_g 116 [] [(4,iv (-1))] [] zB ?_
  exact zT rfl
 ·refine zA (fun x4 h5=>?_)
  refine J_g 30 [] [(1,iv x4),(2,pp 0)] [(0,.box (Pack.enc false a1))] (zG 3 (yT [(.tmp 13),(.tmp 14)] [70,3] (jE.ok a1.Provides (w64 (a2-(a1.Name.size:Int)))) h5) zB) ?_
  refine J_d 124 [] [17] [(17,bv (decide (x4<0)))] [] [] zB ?_
  refine zD 17 (fun h6=>?_) (fun h6=>?_)
  ·refine J_g 500 [] [(4,iv (-1))] [] zB ?_
   exact zT rfl
  ·refine zA (fun x7 h8=>?_)
   refine J_g 126 [] [(1,iv x7),(2,pp 0)] [(0,.box (Pack.enc false a1))] (zG 3 (yT [(.tmp 19),(.tmp 20)] [79,3] (kD.ok a1.Needs x4) h8) zB) ?_
   refine J_d 508 [] [23] [(23,bv (decide (x7<0)))] [] [] zB ?_
   refine zD 23 (fun h9=>?_) (fun h9=>?_)
   ·refine J_g 2036 [] [(4,iv (-1))] [] zB ?_
    exact zT rfl
   ·refine zA (fun x10 h11=>?_)
    refine J_g 510 [] [(1,iv x10)] [] (zG 3 (yT [(.tmp 25),(.tmp 26)] [80,3] (uZ.ok a1.Bars x7) h11) zB) ?_
    refine J_g 2044 [] [(1,iv x10),(29,bv (decide (x10<0)))] [] zB ?_
    refine zD 29 (fun h12=>?_) (fun h12=>?_)
    ·refine J_g 8180 [] [(4,iv (-1))] [] zB ?_
     exact zT rfl
    ·refine J_g 2046 [] [(4,iv x10)] [] zB ?_
     exact zT rfl
noncomputable def c9:Code:=(Tryz.f9.body).getD .skip
theorem zA3.ok (a1:(List Pack)) (q:Wd) (kn:Int→Option (D×List Ent)) (hk:∀v:Int,J (q.g Tryz.prog 9 0 27) c9 (atI c9 31) (St.mk' [(1,iv v)] []) (some v) kn):
  ∀s10:(Int×Int),J (q.g Tryz.prog 9 0 27) c9 (atI c9 244) (St.mk' [(0,sl 8 (Pack.enc false) a1),(1,iv s10.1),(5,iv s10.2)] []) (zA3 a1 s10) (Fl.go (fun r:Int=>some (iv r,[])) kn):=by
 refine zAU (fun g ih s10=>?_)
 unfold kM
 refine J_d 976 [] [15] [(15,bv (decide (s10.2< (a1.length:Int))))] [] [] zB ?_
 refine zD 15 (fun h11=>?_) (fun h11=>?_)
 ·refine zA (fun x12 h13=>?_)
  refine zA (fun x14 h15=>?_)
  refine J_g 3912 [] [(0,sl 8 (Pack.enc false) a1),(1,iv x14),(5,iv s10.2)] [] (zG 2 (uE (kk:=.i64) 22 82 8 (Pack.enc false) (.tmp 18) (.tmp 19) h13) (zG 5 (yT [(.tmp 21),(.tmp 22)] [82,3] (zB5.ok x12 s10.1) h15) zB)) ?_
  refine J_d 7826 [] [25] [(25,bv (decide (x14<0)))] [] [] zB ?_
  refine zD 25 (fun h16=>?_) (fun h16=>?_)
  ·refine J_g 31308 [] [(4,iv (-1))] [] zB ?_
   exact zT rfl
  ·refine J_d 979 [] [5,25] [(5,iv (w64 (s10.2+1)))] [] [] zB ?_
   exact J_q (J_b (ih (x14,w64 (s10.2+1)))) rfl
 ·exact xC (hk s10.1) rfl
theorem zAC.ok (a1:(List Pack)) (a2:Int):Ok Tryz.prog 9 [sl 8 (Pack.enc false) a1,iv a2] [] ((zAC a1 a2).map fun r=>(iv r,[])):=by
 refine zH c9 Tryz.f9 0 27 (fun q=>?_)
 unfold zAC
 refine J_g 2 [] [(0,sl 8 (Pack.enc false) a1),(1,iv a2)] [] zB ?_
 refine J_g 6 [] [(0,sl 8 (Pack.enc false) a1),(1,iv (w64 (a2-(a1.length:Int))))] [] zB ?_
 refine J_d 28 [] [11] [(11,bv (decide ((w64 (a2-(a1.length:Int)))<0)))] [] [] zB ?_
 refine zD 11 (fun h3=>?_) (fun h3=>?_)
 ·refine J_g 116 [] [(4,iv (-1))] [] zB ?_
  exact zT rfl
 ·refine J_d 60 [] [5,11] [(5,iv 0)] [] [] zB ?_
  refine jL (K0:=(fun r:Int=>some (iv r,[]))) (fun _=>rfl) (zA3.ok a1 q _ (fun v17=>J_j ?_) (w64 (a2-(a1.length:Int)),0))
  refine J_g 62 [] [(4,iv v17)] [] zB ?_
  exact zT rfl
noncomputable def zMR:Code:=(Tryz.f200.body).getD .skip
theorem zAH.ok (a1:(List Int)) (a2:Int):Ok Tryz.prog 200 [sl 1 eU8 a1,iv a2] [] ((zAH a1 a2).map fun r=>(iv r,[])):=by
 refine zH zMR Tryz.f200 0 12 (fun q=>?_)
 unfold zAH
 refine J_g 2 [] [(0,sl 1 eU8 a1),(1,iv a2)] [] zB ?_
 refine J_g 6 [] [(1,iv (w64 (a2-(a1.length:Int))))] [] zB ?_
 refine J_d 28 [] [10] [(10,bv (decide ((w64 (a2-(a1.length:Int)))<0)))] [] [] zB ?_
 refine zD 10 (fun h3=>?_) (fun h3=>?_)
 ·refine J_g 116 [] [(4,iv (-1))] [] zB ?_
  exact zT rfl
 ·refine J_g 30 [] [(4,iv (w64 (a2-(a1.length:Int))))] [] zB ?_
  exact zT rfl
noncomputable def zNd:Code:=(Tryz.f122.body).getD .skip
theorem zB4.ok (a1:File) (a2:Int):Ok Tryz.prog 122 [.ag (File.enc false a1),iv a2] [] ((zB4 a1 a2).map fun r=>(iv r,[])):=by
 refine zH zNd Tryz.f122 0 19 (fun q=>?_)
 unfold zB4
 refine J_g 2 [(0,0)] [(1,iv a2),(2,pp 0)] [(0,.box (File.enc false a1))] zB ?_
 refine J_g 6 [] [(1,iv (w64 (a2-(a1.Path.size:Int)))),(2,pp 0)] [(0,.box (File.enc false a1))] zB ?_
 refine J_d 28 [] [11] [(11,bv (decide ((w64 (a2-(a1.Path.size:Int)))<0)))] [] [] zB ?_
 refine zD 11 (fun h3=>?_) (fun h3=>?_)
 ·refine J_g 116 [] [(4,iv (-1))] [] zB ?_
  exact zT rfl
 ·refine zA (fun x4 h5=>?_)
  refine J_g 30 [] [(1,iv x4)] [] (zG 3 (yT [(.tmp 13),(.tmp 14)] [111,3] (zAH.ok a1.Data (w64 (a2-(a1.Path.size:Int)))) h5) zB) ?_
  refine J_g 124 [] [(1,iv x4),(17,bv (decide (x4<0)))] [] zB ?_
  refine zD 17 (fun h6=>?_) (fun h6=>?_)
  ·refine J_g 500 [] [(4,iv (-1))] [] zB ?_
   exact zT rfl
  ·refine J_g 126 [] [(4,iv x4)] [] zB ?_
   exact zT rfl
noncomputable def c61:Code:=(Tryz.f61.body).getD .skip
theorem zAJ.ok (a1:(List File)) (q:Wd) (kn:Int→Option (D×List Ent)) (hk:∀v:Int,J (q.g Tryz.prog 61 0 27) c61 (atI c61 31) (St.mk' [(1,iv v)] []) (some v) kn):
  ∀s10:(Int×Int),J (q.g Tryz.prog 61 0 27) c61 (atI c61 244) (St.mk' [(0,sl 2 (File.enc false) a1),(1,iv s10.1),(5,iv s10.2)] []) (zAJ a1 s10) (Fl.go (fun r:Int=>some (iv r,[])) kn):=by
 refine zAU (fun g ih s10=>?_)
 unfold kJ
 refine J_d 976 [] [15] [(15,bv (decide (s10.2< (a1.length:Int))))] [] [] zB ?_
 refine zD 15 (fun h11=>?_) (fun h11=>?_)
 ·refine zA (fun x12 h13=>?_)
  refine zA (fun x14 h15=>?_)
  refine J_g 3912 [] [(0,sl 2 (File.enc false) a1),(1,iv x14),(5,iv s10.2)] [] (zG 2 (uE (kk:=.i64) 39 157 2 (File.enc false) (.tmp 18) (.tmp 19) h13) (zG 5 (yT [(.tmp 21),(.tmp 22)] [157,3] (zB4.ok x12 s10.1) h15) zB)) ?_
  refine J_d 7826 [] [25] [(25,bv (decide (x14<0)))] [] [] zB ?_
  refine zD 25 (fun h16=>?_) (fun h16=>?_)
  ·refine J_g 31308 [] [(4,iv (-1))] [] zB ?_
   exact zT rfl
  ·refine J_d 979 [] [5,25] [(5,iv (w64 (s10.2+1)))] [] [] zB ?_
   exact J_q (J_b (ih (x14,w64 (s10.2+1)))) rfl
 ·exact xC (hk s10.1) rfl
theorem zAn.ok (a1:(List File)) (a2:Int):Ok Tryz.prog 61 [sl 2 (File.enc false) a1,iv a2] [] ((zAn a1 a2).map fun r=>(iv r,[])):=by
 refine zH c61 Tryz.f61 0 27 (fun q=>?_)
 unfold zAn
 refine J_g 2 [] [(0,sl 2 (File.enc false) a1),(1,iv a2)] [] zB ?_
 refine J_g 6 [] [(0,sl 2 (File.enc false) a1),(1,iv (w64 (a2-(a1.length:Int))))] [] zB ?_
 refine J_d 28 [] [11] [(11,bv (decide ((w64 (a2-(a1.length:Int)))<0)))] [] [] zB ?_
 refine zD 11 (fun h3=>?_) (fun h3=>?_)
 ·refine J_g 116 [] [(4,iv (-1))] [] zB ?_
  exact zT rfl
 ·refine J_d 60 [] [5,11] [(5,iv 0)] [] [] zB ?_
  refine jL (K0:=(fun r:Int=>some (iv r,[]))) (fun _=>rfl) (zAJ.ok a1 q _ (fun v17=>J_j ?_) (w64 (a2-(a1.length:Int)),0))
  refine J_g 62 [] [(4,iv v17)] [] zB ?_
  exact zT rfl
noncomputable def c18:Code:=(Tryz.f18.body).getD .skip
theorem zBn.ok (a1:zI) (a2:Int):Ok Tryz.prog 18 [.ag (zI.enc false a1),iv a2] [] ((zBn a1 a2).map fun r=>(iv r,[])):=by
 refine zH c18 Tryz.f18 0 12 (fun q=>?_)
 unfold zBn
 refine J_g 2 [(0,0)] [(1,iv a2),(2,pp 0)] [(0,.box (zI.enc false a1))] zB ?_
 refine zA (fun x3 h4=>?_)
 refine J_g 6 [] [(1,iv x3)] [] (zG 3 (yT [(.tmp 6),(.tmp 7)] [39,3] (zAn.ok a1.Files a2) h4) zB) ?_
 refine J_g 28 [] [(1,iv x3),(10,bv (decide (x3<0)))] [] zB ?_
 refine zD 10 (fun h5=>?_) (fun h5=>?_)
 ·refine J_g 116 [] [(4,iv (-1))] [] zB ?_
  exact zT rfl
 ·refine J_g 30 [] [(4,iv x3)] [] zB ?_
  exact zT rfl
noncomputable def zMY:Code:=(Tryz.f108.body).getD .skip
theorem xP.ok (a1:Version):Ok Tryz.prog 108 [.ag (Version.enc a1)] [] ((xP a1).map fun r=>(.ag (Version.enc r),[])):=by
 refine zH zMY Tryz.f108 0 14 (fun q=>?_)
 unfold xP
 refine J_g 2 [(0,0),(1,1)] [(1,pp 0),(2,pp 1)] [(0,.box (Version.enc a1)),(1,.box [iv 0,iv 0,iv 0])] zB ?_
 refine J_g 6 [(0,2)] [(1,pp 0),(2,pp 1),(3,pp 2)] [(0,.box (Version.enc a1)),(1,.box [iv 0,iv 0,iv 0]),(2,.box [iv 0,iv 0,iv 0])] zB ?_
 refine J_g 14 [] [(1,pp 0),(2,pp 1),(3,pp 2)] [(0,.box (Version.enc a1)),(1,.box [iv 0,iv 0,iv 0]),(2,.box [iv a1.A,iv 0,iv 0])] zB ?_
 refine J_g 30 [] [(1,pp 0),(2,pp 1),(3,pp 2)] [(0,.box (Version.enc a1)),(1,.box [iv 0,iv 0,iv 0]),(2,.box [iv a1.A,iv a1.B,iv 0])] zB ?_
 refine J_g 62 [] [(2,pp 1),(3,pp 2)] [(1,.box [iv 0,iv 0,iv 0]),(2,.box (Version.enc a1))] zB ?_
 refine J_g 126 [] [(2,pp 1)] [(1,.box (Version.enc a1))] zB ?_
 exact zT rfl
noncomputable def c109:Code:=(Tryz.f109.body).getD .skip
theorem jV.ok (a1:(List ByteArray)) (q:Wd) (kn:(List ByteArray)→Option (D×List Ent)) (hk:∀v:(List ByteArray),J (q.g Tryz.prog 109 0 22) c109 (atI c109 15) (St.mk' [(3,rr 0 v)] [(0,rE 1 eStr v)]) (some v) kn):
  ∀s9:((List ByteArray)×Int),J (q.g Tryz.prog 109 0 22) c109 (atI c109 116) (St.mk' [(0,sl 1 eStr a1),(3,rr 0 s9.1),(4,iv s9.2)] [(0,rE 1 eStr s9.1)]) (jV a1 s9) kn:=by
 refine zAU (fun g ih s9=>?_)
 unfold zAd
 refine J_d 464 [] [11] [(11,bv (decide (s9.2< (a1.length:Int))))] [] [] zB ?_
 refine zD 11 (fun h10=>?_) (fun h10=>?_)
 ·refine zA (fun x11 h12=>?_)
  refine zA (fun x13 h14=>?_)
  refine J_g 932 [] [(0,sl 1 eStr a1),(3,rr 0 s9.1),(4,iv s9.2)] [(0,rE 1 eStr (s9.1.set s9.2.toNat x11))] (zG 4 (uE (kk:=.i64) 70 9 1 eStr (.tmp 16) (.tmp 17) h12) (zG 6 (zC5 (kk:=.i64) 70 9 1 0 eStr (.tmp 14) (.tmp 15) h14) (zJB 7 (zLK (b:=x11) 9 1 0 0 eStr (sv x11) (.tmp 20) (.tmp 19) h14 rfl) zB))) ?_
  refine zJH (σ':=St.mk' [(0,sl 1 eStr a1),(3,rr 0 (s9.1.set s9.2.toNat x11)),(4,iv s9.2)] [(0,rE 1 eStr (s9.1.set s9.2.toNat x11))]) (by simp only [rr,List.length_set]) ?_
  refine J_d 467 [] [4] [(4,iv (w64 (s9.2+1)))] [] [] zB ?_
  exact J_q (J_b (ih (s9.1.set s9.2.toNat x11,w64 (s9.2+1)))) rfl
 ·exact xC (hk s9.1) rfl
theorem tY.ok (a1:(List ByteArray)):Ok Tryz.prog 109 [sl 1 eStr a1] [] ((tY a1).map fun r=>(so 1 eStr r,[])):=by
 refine zH c109 Tryz.f109 0 22 (fun q=>?_)
 unfold tY
 refine J_d 2 [] [] [] [] [] zB ?_
 refine zA (fun x2 h3=>?_)
 refine J_g 6 [] [(0,sl 1 eStr a1),(3,rr 0 x2)] [(0,rE 1 eStr x2)] (zG 2 (zLi 70 9 1 16 0 eStr ByteArray.empty (.tmp 6) h3 (.keep rfl (.nil))) zB) ?_
 refine J_d 28 [] [4] [(4,iv 0)] [] [] zB ?_
 refine zDT (jV.ok a1 q _ (fun v15=>J_j ?_) (x2,0))
 refine J_g 30 [] [(2,rr 0 v15)] [(0,rE 1 eStr v15)] zB ?_
 exact zDJ (ds:=[rr 0 v15]) (ds':=[so 1 eStr v15]) (.cons (.cell (.move (.head _) (List.length_map _) (by decide) (.nil))) (.nil) (by decide)) rfl
noncomputable def zMM:Code:=(Tryz.f188.body).getD .skip
theorem zBz.ok (a1:Term):Ok Tryz.prog 188 [.ag (Term.enc a1)] [] ((zBz a1).map fun r=>(.ag (Term.enc r),[])):=by
 refine zH zMM Tryz.f188 0 16 (fun q=>?_)
 unfold zBz
 refine J_g 2 [(0,0),(1,1)] [(1,pp 0),(2,pp 1)] [(0,.box (Term.enc a1)),(1,.box [sv ByteArray.empty,iv 0,iv 0,iv 0,iv 0,iv 0,iv 0])] zB ?_
 refine J_g 6 [(0,2)] [(1,pp 0),(2,pp 1),(3,pp 2)] [(0,.box (Term.enc a1)),(1,.box [sv ByteArray.empty,iv 0,iv 0,iv 0,iv 0,iv 0,iv 0]),(2,.box [sv ByteArray.empty,iv 0,iv 0,iv 0,iv 0,iv 0,iv 0])] zB ?_
 refine J_d 14 [] [] [] [2] [(2,.box [sv a1.Name,iv 0,iv 0,iv 0,iv 0,iv 0,iv 0])] zB ?_
 refine zA (fun x2 h3=>?_)
 refine J_d 30 [] [] [] [2] [(2,.box [sv a1.Name,iv x2.A,iv x2.B,iv x2.C,iv 0,iv 0,iv 0])] (zG 2 (yT [(.tmp 8)] [78] (xP.ok a1.Low) h3) zB) ?_
 refine zA (fun x4 h5=>?_)
 refine J_g 62 [] [(2,pp 1),(3,pp 2)] [(1,.box [sv ByteArray.empty,iv 0,iv 0,iv 0,iv 0,iv 0,iv 0]),(2,.box [sv a1.Name,iv x2.A,iv x2.B,iv x2.C,iv x4.A,iv x4.B,iv x4.C])] (zG 2 (yT [(.tmp 12)] [78] (xP.ok a1.High) h5) zB) ?_
 refine J_g 126 [] [(2,pp 1)] [(1,.box [sv a1.Name,iv x2.A,iv x2.B,iv x2.C,iv x4.A,iv x4.B,iv x4.C])] zB ?_
 exact zT rfl
noncomputable def zL2:Code:=(Tryz.f111.body).getD .skip
theorem zA8.ok (a1:(List Term)) (q:Wd) (kn:(List Term)→Option (D×List Ent)) (hk:∀v:(List Term),J (q.g Tryz.prog 111 0 23) zL2 (atI zL2 15) (St.mk' [(3,rr 0 v)] [(0,rE 7 Term.enc v)]) (some v) kn):
  ∀s11:((List Term)×Int),J (q.g Tryz.prog 111 0 23) zL2 (atI zL2 116) (St.mk' [(0,sl 7 Term.enc a1),(3,rr 0 s11.1),(4,iv s11.2)] [(0,rE 7 Term.enc s11.1)]) (zA8 a1 s11) kn:=by
 refine zAU (fun g ih s11=>?_)
 unfold zBk
 refine J_d 464 [] [11] [(11,bv (decide (s11.2< (a1.length:Int))))] [] [] zB ?_
 refine zD 11 (fun h12=>?_) (fun h12=>?_)
 ·refine zA (fun x13 h14=>?_)
  refine zA (fun x15 h16=>?_)
  refine zA (fun x17 h18=>?_)
  refine J_g 932 [] [(0,sl 7 Term.enc a1),(3,rr 0 s11.1),(4,iv s11.2)] [(0,rE 7 Term.enc (s11.1.set s11.2.toNat x15))] (zG 4 (uE (kk:=.i64) 80 207 7 Term.enc (.tmp 16) (.tmp 17) h14) (zG 6 (yT [(.tmp 19)] [207] (zBz.ok x13) h16) (zG 7 (zC5 (kk:=.i64) 53 153 7 0 Term.enc (.tmp 14) (.tmp 15) h18) (zJB 8 (zLK (b:=x15) 153 7 0 0 Term.enc (.ag (Term.enc x15)) (.tmp 21) (.tmp 20) h18 rfl) zB)))) ?_
  refine zJH (σ':=St.mk' [(0,sl 7 Term.enc a1),(3,rr 0 (s11.1.set s11.2.toNat x15)),(4,iv s11.2)] [(0,rE 7 Term.enc (s11.1.set s11.2.toNat x15))]) (by simp only [rr,List.length_set]) ?_
  refine J_d 467 [] [4] [(4,iv (w64 (s11.2+1)))] [] [] zB ?_
  exact J_q (J_b (ih (s11.1.set s11.2.toNat x15,w64 (s11.2+1)))) rfl
 ·exact xC (hk s11.1) rfl
theorem tK.ok (a1:(List Term)):Ok Tryz.prog 111 [sl 7 Term.enc a1] [] ((tK a1).map fun r=>(so 7 Term.enc r,[])):=by
 refine zH zL2 Tryz.f111 0 23 (fun q=>?_)
 unfold tK
 refine J_d 2 [] [] [] [] [] zB ?_
 refine zA (fun x2 h3=>?_)
 refine J_g 6 [] [(0,sl 7 Term.enc a1),(3,rr 0 x2)] [(0,rE 7 Term.enc x2)] (zG 2 (zLi 53 153 7 64 0 Term.enc ({Name:=ByteArray.empty,Low:=({A:=0,B:=0,C:=0}:Version),High:=({A:=0,B:=0,C:=0}:Version)}:Term) (.tmp 6) h3 (.keep rfl (.keep rfl (.keep rfl (.keep rfl (.keep rfl (.keep rfl (.keep rfl (.nil))))))))) zB) ?_
 refine J_d 28 [] [4] [(4,iv 0)] [] [] zB ?_
 refine zDT (zA8.ok a1 q _ (fun v19=>J_j ?_) (x2,0))
 refine J_g 30 [] [(2,rr 0 v19)] [(0,rE 7 Term.enc v19)] zB ?_
 exact zDJ (ds:=[rr 0 v19]) (ds':=[so 7 Term.enc v19]) (.cons (.cell (.move (.head _) (List.length_map _) (by decide) (.nil))) (.nil) (by decide)) rfl
noncomputable def zLM:Code:=(Tryz.f110.body).getD .skip
theorem kN.ok (a1:(List (List Term))) (q:Wd) (kn:(List (List Term))→Option (D×List Ent)) (hk:∀v:(List (List Term)),J (q.g Tryz.prog 110 0 23) zLM (atI zLM 15) (St.mk' [(3,rr 0 v)] [(0,rE 1 (eSl true 7 Term.enc) v)]) (some v) kn):
  ∀s11:((List (List Term))×Int),J (q.g Tryz.prog 110 0 23) zLM (atI zLM 116) (St.mk' [(0,sl 1 (eSl false 7 Term.enc) a1),(3,rr 0 s11.1),(4,iv s11.2)] [(0,rE 1 (eSl true 7 Term.enc) s11.1)]) (kN a1 s11) kn:=by
 refine zAU (fun g ih s11=>?_)
 unfold zAP
 refine J_d 464 [] [11] [(11,bv (decide (s11.2< (a1.length:Int))))] [] [] zB ?_
 refine zD 11 (fun h12=>?_) (fun h12=>?_)
 ·refine zA (fun x13 h14=>?_)
  refine zA (fun x15 h16=>?_)
  refine zA (fun x17 h18=>?_)
  refine J_g 932 [] [(0,sl 1 (eSl false 7 Term.enc) a1),(3,rr 0 s11.1),(4,iv s11.2)] [(0,rE 1 (eSl true 7 Term.enc) (s11.1.set s11.2.toNat x15))] (zG 4 (uE (kk:=.i64) 79 80 1 (eSl false 7 Term.enc) (.tmp 16) (.tmp 17) h14) (zG 6 (zBI («as»:=[sl 7 Term.enc x13]) [(.tmp 19)] [80] false [] [] (.cons (.same rfl) (.nil)) (tK.ok x13) h16 (.own 1)) (zG 7 (zC5 (kk:=.i64) 87 53 1 0 (eSl true 7 Term.enc) (.tmp 14) (.tmp 15) h18) (zJB 8 (zKQ (b:=x15) (es':=[so 7 Term.enc x15]) (ts:=[1]) 53 1 0 0 (eSl true 7 Term.enc) (rr 1 x15) (.tmp 21) (.tmp 20) [(1,rE 7 Term.enc x15)] h18 (.move (.head _) (List.length_map _) (by decide) (.nil)) rfl) zB)))) ?_
  refine zJH (σ':=St.mk' [(0,sl 1 (eSl false 7 Term.enc) a1),(3,rr 0 (s11.1.set s11.2.toNat x15)),(4,iv s11.2)] [(0,rE 1 (eSl true 7 Term.enc) (s11.1.set s11.2.toNat x15))]) (by simp only [rr,List.length_set]) ?_
  refine J_d 467 [] [4] [(4,iv (w64 (s11.2+1)))] [] [] zB ?_
  exact J_q (J_b (ih (s11.1.set s11.2.toNat x15,w64 (s11.2+1)))) rfl
 ·exact xC (hk s11.1) rfl
theorem kF.ok (a1:(List (List Term))):Ok Tryz.prog 110 [sl 1 (eSl false 7 Term.enc) a1] [] ((kF a1).map fun r=>(so 1 (eSl true 7 Term.enc) r,[])):=by
 refine zH zLM Tryz.f110 0 23 (fun q=>?_)
 unfold kF
 refine J_d 2 [] [] [] [] [] zB ?_
 refine zA (fun x2 h3=>?_)
 refine J_g 6 [] [(0,sl 1 (eSl false 7 Term.enc) a1),(3,rr 0 x2)] [(0,rE 1 (eSl true 7 Term.enc) x2)] (zG 2 (zLi 87 53 1 24 0 (eSl true 7 Term.enc) ([]:List Term) (.tmp 6) h3 (.nilsl true 7 (.nil))) zB) ?_
 refine J_d 28 [] [4] [(4,iv 0)] [] [] zB ?_
 refine zDT (kN.ok a1 q _ (fun v19=>J_j ?_) (x2,0))
 refine J_g 30 [] [(2,rr 0 v19)] [(0,rE 1 (eSl true 7 Term.enc) v19)] zB ?_
 exact zDJ (ds:=[rr 0 v19]) (ds':=[so 1 (eSl true 7 Term.enc) v19]) (.cons (.cell (.move (.head _) (List.length_map _) (by decide) (.nil))) (.nil) (by decide)) rfl
noncomputable def c49:Code:=(Tryz.f49.body).getD .skip
theorem zBy.ok (a1:Pack):Ok Tryz.prog 49 [.ag (Pack.enc false a1)] [] ((zBy a1).map fun r=>(.ag [sv r.Name,iv r.Version.A,iv r.Version.B,iv r.Version.C,iv r.Size,so 1 eStr r.Provides,so 1 (eSl true 7 Term.enc) r.Needs,so 7 Term.enc r.Bars],[])):=by
 refine zH c49 Tryz.f49 0 27 (fun q=>?_)
 unfold zBy
 refine J_g 2 [(0,0),(1,1)] [(1,pp 0),(2,pp 1)] [(0,.box (Pack.enc false a1)),(1,.box [sv ByteArray.empty,iv 0,iv 0,iv 0,iv 0,nv,nv,nv])] zB ?_
 refine J_g 6 [(0,2)] [(1,pp 0),(2,pp 1),(3,pp 2)] [(0,.box (Pack.enc false a1)),(1,.box [sv ByteArray.empty,iv 0,iv 0,iv 0,iv 0,nv,nv,nv]),(2,.box [sv ByteArray.empty,iv 0,iv 0,iv 0,iv 0,nv,nv,nv])] zB ?_
 refine J_d 14 [] [] [] [2] [(2,.box [sv a1.Name,iv 0,iv 0,iv 0,iv 0,nv,nv,nv])] zB ?_
 refine zA (fun x2 h3=>?_)
 refine J_g 30 [] [(1,pp 0),(2,pp 1),(3,pp 2)] [(0,.box (Pack.enc false a1)),(1,.box [sv ByteArray.empty,iv 0,iv 0,iv 0,iv 0,nv,nv,nv]),(2,.box [sv a1.Name,iv x2.A,iv x2.B,iv x2.C,iv 0,nv,nv,nv])] (zG 2 (yT [(.tmp 8)] [78] (xP.ok a1.Version) h3) zB) ?_
 refine J_d 62 [] [] [] [2] [(2,.box [sv a1.Name,iv x2.A,iv x2.B,iv x2.C,iv a1.Size,nv,nv,nv])] zB ?_
 refine zA (fun x4 h5=>?_)
 refine J_d 126 [] [] [] [2,3] [(2,.box [sv a1.Name,iv x2.A,iv x2.B,iv x2.C,iv a1.Size,rr 3 x4,nv,nv]),(3,rE 1 eStr x4)] (zG 2 (zBI («as»:=[sl 1 eStr a1.Provides]) [(.tmp 15)] [70] false [] [] (.cons (.same rfl) (.nil)) (tY.ok a1.Provides) h5 (.own 3)) zB) ?_
 refine zA (fun x6 h7=>?_)
 refine J_d 254 [] [] [] [2,4] [(2,.box [sv a1.Name,iv x2.A,iv x2.B,iv x2.C,iv a1.Size,rr 3 x4,rr 4 x6,nv]),(4,rE 1 (eSl true 7 Term.enc) x6)] (zG 2 (zBI («as»:=[sl 1 (eSl false 7 Term.enc) a1.Needs]) [(.tmp 19)] [79] false [] [] (.cons (.same rfl) (.nil)) (kF.ok a1.Needs) h7 (.own 4)) zB) ?_
 refine zA (fun x8 h9=>?_)
 refine J_g 510 [] [(2,pp 1),(3,pp 2)] [(1,.box [sv ByteArray.empty,iv 0,iv 0,iv 0,iv 0,nv,nv,nv]),(2,.box [sv a1.Name,iv x2.A,iv x2.B,iv x2.C,iv a1.Size,rr 3 x4,rr 4 x6,rr 5 x8]),(3,rE 1 eStr x4),(4,rE 1 (eSl true 7 Term.enc) x6),(5,rE 7 Term.enc x8)] (zG 2 (zBI («as»:=[sl 7 Term.enc a1.Bars]) [(.tmp 23)] [80] false [] [] (.cons (.same rfl) (.nil)) (tK.ok a1.Bars) h9 (.own 5)) zB) ?_
 refine J_g 1022 [] [(2,pp 1)] [(1,.box [sv a1.Name,iv x2.A,iv x2.B,iv x2.C,iv a1.Size,rr 3 x4,rr 4 x6,rr 5 x8]),(3,rE 1 eStr x4),(4,rE 1 (eSl true 7 Term.enc) x6),(5,rE 7 Term.enc x8)] zB ?_
 exact zDJ (ds:=[.ag [sv a1.Name,iv x2.A,iv x2.B,iv x2.C,iv a1.Size,rr 3 x4,rr 4 x6,rr 5 x8]]) (ds':=[.ag [sv a1.Name,iv x2.A,iv x2.B,iv x2.C,iv a1.Size,so 1 eStr x4,so 1 (eSl true 7 Term.enc) x6,so 7 Term.enc x8]]) (.cons (.ag (.keep rfl (.keep rfl (.keep rfl (.keep rfl (.keep rfl (.move (.tail _ (.head _)) (List.length_map _) (by decide) (.move (.tail _ (.tail _ (.head _))) (List.length_map _) (by decide) (.move (.tail _ (.tail _ (.tail _ (.head _)))) (List.length_map _) (by decide) (.nil)))))))))) (.nil) (by decide)) rfl
noncomputable def c11:Code:=(Tryz.f11.body).getD .skip
theorem zAv.ok (a1:(List Pack)) (q:Wd) (kn:(List Pack)→Option (D×List Ent)) (hk:∀v:(List Pack),J (q.g Tryz.prog 11 0 23) c11 (atI c11 15) (St.mk' [(3,rr 0 v)] [(0,rE 8 (Pack.enc true) v)]) (some v) kn):
  ∀s11:((List Pack)×Int),J (q.g Tryz.prog 11 0 23) c11 (atI c11 116) (St.mk' [(0,sl 8 (Pack.enc false) a1),(3,rr 0 s11.1),(4,iv s11.2)] [(0,rE 8 (Pack.enc true) s11.1)]) (zAv a1 s11) kn:=by
 refine zAU (fun g ih s11=>?_)
 unfold zBh
 refine J_d 464 [] [11] [(11,bv (decide (s11.2< (a1.length:Int))))] [] [] zB ?_
 refine zD 11 (fun h12=>?_) (fun h12=>?_)
 ·refine zA (fun x13 h14=>?_)
  refine zA (fun x15 h16=>?_)
  refine zA (fun x17 h18=>?_)
  refine J_g 932 [] [(0,sl 8 (Pack.enc false) a1),(3,rr 0 s11.1),(4,iv s11.2)] [(0,rE 8 (Pack.enc true) (s11.1.set s11.2.toNat x15))] (zG 4 (uE (kk:=.i64) 22 82 8 (Pack.enc false) (.tmp 16) (.tmp 17) h14) (zG 6 (zBI («as»:=[.ag (Pack.enc false x13)]) [(.tmp 19)] [82] false [] [] (.cons (.same rfl) (.nil)) (zBy.ok x13) h16 (.ag (.cons (.same rfl rfl) (.cons (.same rfl rfl) (.cons (.same rfl rfl) (.cons (.same rfl rfl) (.cons (.same rfl rfl) (.cons (.own 1) (.cons (.own 2) (.cons (.own 3) (.nil))))))))))) (zG 7 (zC5 (kk:=.i64) 24 89 8 0 (Pack.enc true) (.tmp 14) (.tmp 15) h18) (zJB 8 (zKQ (b:=x15) (es':=[sv x15.Name,iv x15.Version.A,iv x15.Version.B,iv x15.Version.C,iv x15.Size,so 1 eStr x15.Provides,so 1 (eSl true 7 Term.enc) x15.Needs,so 7 Term.enc x15.Bars]) (ts:=[1,2,3]) 89 8 0 0 (Pack.enc true) (.ag [sv x15.Name,iv x15.Version.A,iv x15.Version.B,iv x15.Version.C,iv x15.Size,rr 1 x15.Provides,rr 2 x15.Needs,rr 3 x15.Bars]) (.tmp 21) (.tmp 20) [(1,rE 1 eStr x15.Provides),(2,rE 1 (eSl true 7 Term.enc) x15.Needs),(3,rE 7 Term.enc x15.Bars)] h18 (.keep rfl (.keep rfl (.keep rfl (.keep rfl (.keep rfl (.move (.head _) (List.length_map _) (by decide) (.move (.tail _ (.head _)) (List.length_map _) (by decide) (.move (.tail _ (.tail _ (.head _))) (List.length_map _) (by decide) (.nil))))))))) rfl) zB)))) ?_
  refine zJH (σ':=St.mk' [(0,sl 8 (Pack.enc false) a1),(3,rr 0 (s11.1.set s11.2.toNat x15)),(4,iv s11.2)] [(0,rE 8 (Pack.enc true) (s11.1.set s11.2.toNat x15))]) (by simp only [rr,List.length_set]) ?_
  refine J_d 467 [] [4] [(4,iv (w64 (s11.2+1)))] [] [] zB ?_
  exact J_q (J_b (ih (s11.1.set s11.2.toNat x15,w64 (s11.2+1)))) rfl
 ·exact xC (hk s11.1) rfl
theorem vB.ok (a1:(List Pack)):Ok Tryz.prog 11 [sl 8 (Pack.enc false) a1] [] ((vB a1).map fun r=>(so 8 (Pack.enc true) r,[])):=by
 refine zH c11 Tryz.f11 0 23 (fun q=>?_)
 unfold vB
 refine J_d 2 [] [] [] [] [] zB ?_
 refine zA (fun x2 h3=>?_)
 refine J_g 6 [] [(0,sl 8 (Pack.enc false) a1),(3,rr 0 x2)] [(0,rE 8 (Pack.enc true) x2)] (zG 2 (zLi 24 89 8 120 0 (Pack.enc true) ({Name:=ByteArray.empty,Version:=({A:=0,B:=0,C:=0}:Version),Size:=0,Provides:=([]:List ByteArray),Needs:=([]:List (List Term)),Bars:=([]:List Term)}:Pack) (.tmp 6) h3 (.keep rfl (.keep rfl (.keep rfl (.keep rfl (.keep rfl (.nilsl true 1 (.nilsl true 1 (.nilsl true 7 (.nil)))))))))) zB) ?_
 refine J_d 28 [] [4] [(4,iv 0)] [] [] zB ?_
 refine zDT (zAv.ok a1 q _ (fun v19=>J_j ?_) (x2,0))
 refine J_g 30 [] [(2,rr 0 v19)] [(0,rE 8 (Pack.enc true) v19)] zB ?_
 exact zDJ (ds:=[rr 0 v19]) (ds':=[so 8 (Pack.enc true) v19]) (.cons (.cell (.move (.head _) (List.length_map _) (by decide) (.nil))) (.nil) (by decide)) rfl
noncomputable def c206:Code:=(Tryz.f206.body).getD .skip
theorem zAx.ok (a1:(List Int)) (q:Wd) (kn:(List Int)→Option (D×List Ent)) (hk:∀v:(List Int),J (q.g Tryz.prog 206 0 22) c206 (atI c206 15) (St.mk' [(3,rr 0 v)] [(0,rE 1 eU8 v)]) (some v) kn):
  ∀s9:((List Int)×Int),J (q.g Tryz.prog 206 0 22) c206 (atI c206 116) (St.mk' [(0,sl 1 eU8 a1),(3,rr 0 s9.1),(4,iv s9.2)] [(0,rE 1 eU8 s9.1)]) (zAx a1 s9) kn:=by
 refine zAU (fun g ih s9=>?_)
 unfold zBl
 refine J_d 464 [] [11] [(11,bv (decide (s9.2< (a1.length:Int))))] [] [] zB ?_
 refine zD 11 (fun h10=>?_) (fun h10=>?_)
 ·refine zA (fun x11 h12=>?_)
  refine zA (fun x13 h14=>?_)
  refine J_g 932 [] [(0,sl 1 eU8 a1),(3,rr 0 s9.1),(4,iv s9.2)] [(0,rE 1 eU8 (s9.1.set s9.2.toNat x11))] (zG 4 (uE (kk:=.i64) 111 5 1 eU8 (.tmp 16) (.tmp 17) h12) (zG 6 (zC5 (kk:=.i64) 111 5 1 0 eU8 (.tmp 14) (.tmp 15) h14) (zJB 7 (zLK (b:=x11) 5 1 0 0 eU8 (uv x11) (.tmp 20) (.tmp 19) h14 rfl) zB))) ?_
  refine zJH (σ':=St.mk' [(0,sl 1 eU8 a1),(3,rr 0 (s9.1.set s9.2.toNat x11)),(4,iv s9.2)] [(0,rE 1 eU8 (s9.1.set s9.2.toNat x11))]) (by simp only [rr,List.length_set]) ?_
  refine J_d 467 [] [4] [(4,iv (w64 (s9.2+1)))] [] [] zB ?_
  exact J_q (J_b (ih (s9.1.set s9.2.toNat x11,w64 (s9.2+1)))) rfl
 ·exact xC (hk s9.1) rfl
theorem zAB.ok (a1:(List Int)):Ok Tryz.prog 206 [sl 1 eU8 a1] [] ((zAB a1).map fun r=>(so 1 eU8 r,[])):=by
 refine zH c206 Tryz.f206 0 22 (fun q=>?_)
 unfold zAB
 refine J_g 2 [] [(0,sl 1 eU8 a1)] [] zB ?_
 refine zA (fun x2 h3=>?_)
 refine J_g 6 [] [(0,sl 1 eU8 a1),(3,rr 0 x2)] [(0,rE 1 eU8 x2)] (zG 2 (zLi 111 5 1 1 0 eU8 0 (.tmp 6) h3 (.keep rfl (.nil))) zB) ?_
 refine J_d 28 [] [4] [(4,iv 0)] [] [] zB ?_
 refine zDT (zAx.ok a1 q _ (fun v15=>J_j ?_) (x2,0))
 refine J_g 30 [] [(2,rr 0 v15)] [(0,rE 1 eU8 v15)] zB ?_
 exact zDJ (ds:=[rr 0 v15]) (ds':=[so 1 eU8 v15]) (.cons (.cell (.move (.head _) (List.length_map _) (by decide) (.nil))) (.nil) (by decide)) rfl
noncomputable def c130:Code:=(Tryz.f130.body).getD .skip
theorem zBw.ok (a1:File):Ok Tryz.prog 130 [.ag (File.enc false a1)] [] ((zBw a1).map fun r=>(.ag [sv r.Path,so 1 eU8 r.Data],[])):=by
 refine zH c130 Tryz.f130 0 12 (fun q=>?_)
 unfold zBw
 refine J_g 2 [(0,0),(1,1)] [(1,pp 0),(2,pp 1)] [(0,.box (File.enc false a1)),(1,.box [sv ByteArray.empty,nv])] zB ?_
 refine J_g 6 [(0,2)] [(1,pp 0),(2,pp 1),(3,pp 2)] [(0,.box (File.enc false a1)),(1,.box [sv ByteArray.empty,nv]),(2,.box [sv ByteArray.empty,nv])] zB ?_
 refine J_d 14 [] [] [] [2] [(2,.box [sv a1.Path,nv])] zB ?_
 refine zA (fun x2 h3=>?_)
 refine J_g 30 [] [(2,pp 1),(3,pp 2)] [(1,.box [sv ByteArray.empty,nv]),(2,.box [sv a1.Path,rr 3 x2]),(3,rE 1 eU8 x2)] (zG 2 (zBI («as»:=[sl 1 eU8 a1.Data]) [(.tmp 8)] [111] false [] [] (.cons (.same rfl) (.nil)) (zAB.ok a1.Data) h3 (.own 3)) zB) ?_
 refine J_g 62 [] [(2,pp 1)] [(1,.box [sv a1.Path,rr 3 x2]),(3,rE 1 eU8 x2)] zB ?_
 exact zDJ (ds:=[.ag [sv a1.Path,rr 3 x2]]) (ds':=[.ag [sv a1.Path,so 1 eU8 x2]]) (.cons (.ag (.keep rfl (.move (.tail _ (.head _)) (List.length_map _) (by decide) (.nil)))) (.nil) (by decide)) rfl
noncomputable def c66:Code:=(Tryz.f66.body).getD .skip
theorem zA4.ok (a1:(List File)) (q:Wd) (kn:(List File)→Option (D×List Ent)) (hk:∀v:(List File),J (q.g Tryz.prog 66 0 23) c66 (atI c66 15) (St.mk' [(3,rr 0 v)] [(0,rE 2 (File.enc true) v)]) (some v) kn):
  ∀s11:((List File)×Int),J (q.g Tryz.prog 66 0 23) c66 (atI c66 116) (St.mk' [(0,sl 2 (File.enc false) a1),(3,rr 0 s11.1),(4,iv s11.2)] [(0,rE 2 (File.enc true) s11.1)]) (zA4 a1 s11) kn:=by
 refine zAU (fun g ih s11=>?_)
 unfold zBi
 refine J_d 464 [] [11] [(11,bv (decide (s11.2< (a1.length:Int))))] [] [] zB ?_
 refine zD 11 (fun h12=>?_) (fun h12=>?_)
 ·refine zA (fun x13 h14=>?_)
  refine zA (fun x15 h16=>?_)
  refine zA (fun x17 h18=>?_)
  refine J_g 932 [] [(0,sl 2 (File.enc false) a1),(3,rr 0 s11.1),(4,iv s11.2)] [(0,rE 2 (File.enc true) (s11.1.set s11.2.toNat x15))] (zG 4 (uE (kk:=.i64) 39 157 2 (File.enc false) (.tmp 16) (.tmp 17) h14) (zG 6 (zBI («as»:=[.ag (File.enc false x13)]) [(.tmp 19)] [157] false [] [] (.cons (.same rfl) (.nil)) (zBw.ok x13) h16 (.ag (.cons (.same rfl rfl) (.cons (.own 1) (.nil))))) (zG 7 (zC5 (kk:=.i64) 25 113 2 0 (File.enc true) (.tmp 14) (.tmp 15) h18) (zJB 8 (zKQ (b:=x15) (es':=[sv x15.Path,so 1 eU8 x15.Data]) (ts:=[1]) 113 2 0 0 (File.enc true) (.ag [sv x15.Path,rr 1 x15.Data]) (.tmp 21) (.tmp 20) [(1,rE 1 eU8 x15.Data)] h18 (.keep rfl (.move (.head _) (List.length_map _) (by decide) (.nil))) rfl) zB)))) ?_
  refine zJH (σ':=St.mk' [(0,sl 2 (File.enc false) a1),(3,rr 0 (s11.1.set s11.2.toNat x15)),(4,iv s11.2)] [(0,rE 2 (File.enc true) (s11.1.set s11.2.toNat x15))]) (by simp only [rr,List.length_set]) ?_
  refine J_d 467 [] [4] [(4,iv (w64 (s11.2+1)))] [] [] zB ?_
  exact J_q (J_b (ih (s11.1.set s11.2.toNat x15,w64 (s11.2+1)))) rfl
 ·exact xC (hk s11.1) rfl
theorem zAr.ok (a1:(List File)):Ok Tryz.prog 66 [sl 2 (File.enc false) a1] [] ((zAr a1).map fun r=>(so 2 (File.enc true) r,[])):=by
 refine zH c66 Tryz.f66 0 23 (fun q=>?_)
 unfold zAr
 refine J_d 2 [] [] [] [] [] zB ?_
 refine zA (fun x2 h3=>?_)
 refine J_g 6 [] [(0,sl 2 (File.enc false) a1),(3,rr 0 x2)] [(0,rE 2 (File.enc true) x2)] (zG 2 (zLi 25 113 2 40 0 (File.enc true) ({Path:=ByteArray.empty,Data:=([]:List Int)}:File) (.tmp 6) h3 (.keep rfl (.nilsl true 1 (.nil)))) zB) ?_
 refine J_d 28 [] [4] [(4,iv 0)] [] [] zB ?_
 refine zDT (zA4.ok a1 q _ (fun v19=>J_j ?_) (x2,0))
 refine J_g 30 [] [(2,rr 0 v19)] [(0,rE 2 (File.enc true) v19)] zB ?_
 exact zDJ (ds:=[rr 0 v19]) (ds':=[so 2 (File.enc true) v19]) (.cons (.cell (.move (.head _) (List.length_map _) (by decide) (.nil))) (.nil) (by decide)) rfl
noncomputable def c20:Code:=(Tryz.f20.body).getD .skip
theorem uI.ok (a1:zI):Ok Tryz.prog 20 [.ag (zI.enc false a1)] [] ((uI a1).map fun r=>(.ag (zI.enc true r),[])):=by
 refine zH c20 Tryz.f20 0 21 (fun q=>?_)
 unfold uI
 refine J_g 2 [(0,0),(1,1)] [(1,pp 0),(2,pp 1)] [(0,.box (zI.enc false a1)),(1,.box [nv,iv 0,iv 0,iv 0,bv false])] zB ?_
 refine J_d 6 [(0,2)] [3] [(3,pp 2)] [2] [(2,.box [nv,iv 0,iv 0,iv 0,bv false])] zB ?_
 refine zA (fun x2 h3=>?_)
 refine J_g 14 [] [(1,pp 0),(2,pp 1),(3,pp 2)] [(0,.box (zI.enc false a1)),(1,.box [nv,iv 0,iv 0,iv 0,bv false]),(2,.box [rr 3 x2,iv 0,iv 0,iv 0,bv false]),(3,rE 2 (File.enc true) x2)] (zG 2 (zBI («as»:=[sl 2 (File.enc false) a1.Files]) [(.tmp 5)] [39] false [] [] (.cons (.same rfl) (.nil)) (zAr.ok a1.Files) h3 (.own 3)) zB) ?_
 refine J_g 30 [] [(1,pp 0),(2,pp 1),(3,pp 2)] [(0,.box (zI.enc false a1)),(1,.box [nv,iv 0,iv 0,iv 0,bv false]),(2,.box [rr 3 x2,iv a1.Budget,iv 0,iv 0,bv false]),(3,rE 2 (File.enc true) x2)] zB ?_
 refine J_g 62 [] [(1,pp 0),(2,pp 1),(3,pp 2)] [(0,.box (zI.enc false a1)),(1,.box [nv,iv 0,iv 0,iv 0,bv false]),(2,.box [rr 3 x2,iv a1.Budget,iv a1.Writes,iv 0,bv false]),(3,rE 2 (File.enc true) x2)] zB ?_
 refine J_g 126 [] [(1,pp 0),(2,pp 1),(3,pp 2)] [(0,.box (zI.enc false a1)),(1,.box [nv,iv 0,iv 0,iv 0,bv false]),(2,.box [rr 3 x2,iv a1.Budget,iv a1.Writes,iv a1.Stop,bv false]),(3,rE 2 (File.enc true) x2)] zB ?_
 refine J_g 254 [] [(2,pp 1),(3,pp 2)] [(1,.box [nv,iv 0,iv 0,iv 0,bv false]),(2,.box [rr 3 x2,iv a1.Budget,iv a1.Writes,iv a1.Stop,bv a1.Down]),(3,rE 2 (File.enc true) x2)] zB ?_
 refine J_g 510 [] [(2,pp 1)] [(1,.box [rr 3 x2,iv a1.Budget,iv a1.Writes,iv a1.Stop,bv a1.Down]),(3,rE 2 (File.enc true) x2)] zB ?_
 exact zDJ (ds:=[.ag [rr 3 x2,iv a1.Budget,iv a1.Writes,iv a1.Stop,bv a1.Down]]) (ds':=[.ag [so 2 (File.enc true) x2,iv a1.Budget,iv a1.Writes,iv a1.Stop,bv a1.Down]]) (.cons (.ag (.move (.tail _ (.head _)) (List.length_map _) (by decide) (.keep rfl (.keep rfl (.keep rfl (.keep rfl (.nil))))))) (.nil) (by decide)) rfl
noncomputable def c21:Code:=(Tryz.f21.body).getD .skip
theorem kS.ok (a1:(List Int)) (q:Wd) (kn:(List Int)→Option (D×List Ent)) (hk:∀v:(List Int),J (q.g Tryz.prog 21 0 22) c21 (atI c21 15) (St.mk' [(3,rr 0 v)] [(0,rE 1 yE v)]) (some v) kn):
  ∀s9:((List Int)×Int),J (q.g Tryz.prog 21 0 22) c21 (atI c21 116) (St.mk' [(0,sl 1 yE a1),(3,rr 0 s9.1),(4,iv s9.2)] [(0,rE 1 yE s9.1)]) (kS a1 s9) kn:=by
 refine zAU (fun g ih s9=>?_)
 unfold zAS
 refine J_d 464 [] [11] [(11,bv (decide (s9.2< (a1.length:Int))))] [] [] zB ?_
 refine zD 11 (fun h10=>?_) (fun h10=>?_)
 ·refine zA (fun x11 h12=>?_)
  refine zA (fun x13 h14=>?_)
  refine J_g 932 [] [(0,sl 1 yE a1),(3,rr 0 s9.1),(4,iv s9.2)] [(0,rE 1 yE (s9.1.set s9.2.toNat x11))] (zG 4 (uE (kk:=.i64) 42 2 1 yE (.tmp 16) (.tmp 17) h12) (zG 6 (zC5 (kk:=.i64) 42 2 1 0 yE (.tmp 14) (.tmp 15) h14) (zJB 7 (zLK (b:=x11) 2 1 0 0 yE (iv x11) (.tmp 20) (.tmp 19) h14 rfl) zB))) ?_
  refine zJH (σ':=St.mk' [(0,sl 1 yE a1),(3,rr 0 (s9.1.set s9.2.toNat x11)),(4,iv s9.2)] [(0,rE 1 yE (s9.1.set s9.2.toNat x11))]) (by simp only [rr,List.length_set]) ?_
  refine J_d 467 [] [4] [(4,iv (w64 (s9.2+1)))] [] [] zB ?_
  exact J_q (J_b (ih (s9.1.set s9.2.toNat x11,w64 (s9.2+1)))) rfl
 ·exact xC (hk s9.1) rfl
theorem wI.ok (a1:(List Int)):Ok Tryz.prog 21 [sl 1 yE a1] [] ((wI a1).map fun r=>(so 1 yE r,[])):=by
 refine zH c21 Tryz.f21 0 22 (fun q=>?_)
 unfold wI
 refine J_d 2 [] [] [] [] [] zB ?_
 refine zA (fun x2 h3=>?_)
 refine J_g 6 [] [(0,sl 1 yE a1),(3,rr 0 x2)] [(0,rE 1 yE x2)] (zG 2 (zLi 42 2 1 8 0 yE 0 (.tmp 6) h3 (.keep rfl (.nil))) zB) ?_
 refine J_d 28 [] [4] [(4,iv 0)] [] [] zB ?_
 refine zDT (kS.ok a1 q _ (fun v15=>J_j ?_) (x2,0))
 refine J_g 30 [] [(2,rr 0 v15)] [(0,rE 1 yE v15)] zB ?_
 exact zDJ (ds:=[rr 0 v15]) (ds':=[so 1 yE v15]) (.cons (.cell (.move (.head _) (List.length_map _) (by decide) (.nil))) (.nil) (by decide)) rfl
noncomputable def zNp:Code:=(Tryz.f255.body).getD .skip
theorem xX.ok (a1:Int):Ok Tryz.prog 255 [uv a1] [] ((xX a1).map fun r=>(bv r,[])):=by
 refine zH zNp Tryz.f255 0 9 (fun q=>?_)
 unfold xX
 refine J_g 2 [] [(0,uv a1)] [] zB ?_
 refine wG (fun h2=>?_) (fun h2=>?_)
 ·refine J_g 6 [] [(2,bv (decide (a1≤122)))] [] (xK 2 [(4,bv (decide (a1≥97)))] [] h2 zB) ?_
  exact zT rfl
 ·refine J_g 6 [] [(2,bv false)] [] (xK 2 [(4,bv (decide (a1≥97)))] [] h2 zB) ?_
  exact zT rfl
noncomputable def zNl:Code:=(Tryz.f268.body).getD .skip
theorem xY.ok (a1:Int):Ok Tryz.prog 268 [uv a1] [] ((xY a1).map fun r=>(bv r,[])):=by
 refine zH zNl Tryz.f268 0 9 (fun q=>?_)
 unfold xY
 refine J_g 2 [] [(0,uv a1)] [] zB ?_
 refine wG (fun h2=>?_) (fun h2=>?_)
 ·refine J_g 6 [] [(2,bv (decide (a1≤57)))] [] (xK 2 [(4,bv (decide (a1≥48)))] [] h2 zB) ?_
  exact zT rfl
 ·refine J_g 6 [] [(2,bv false)] [] (xK 2 [(4,bv (decide (a1≥48)))] [] h2 zB) ?_
  exact zT rfl
noncomputable def zN4:Code:=(Tryz.f256.body).getD .skip
theorem wJ.ok (a1:Int):Ok Tryz.prog 256 [uv a1] [] ((wJ a1).map fun r=>(bv r,[])):=by
 refine zH zN4 Tryz.f256 0 13 (fun q=>?_)
 unfold wJ
 refine J_g 2 [] [(0,uv a1)] [] zB ?_
 refine zA (fun x2 h3=>?_)
 refine wG (fun h4=>?_) (fun h4=>?_)
 ·refine J_g 6 [] [(2,bv true)] [] (zG 1 (yT [(.tmp 3)] [5] (xX.ok a1) h3) (xK 2 [(4,bv x2)] [] h4 zB)) ?_
  exact zT rfl
 ·refine zA (fun x5 h6=>?_)
  refine wG (fun h7=>?_) (fun h7=>?_)
  ·refine J_g 6 [] [(2,bv true)] [] (zG 1 (yT [(.tmp 3)] [5] (xX.ok a1) h3) (xK 2 [(4,bv x2)] [] h4 (zBU 4 2 5 false (yT [(.tmp 6)] [5] (xY.ok a1) h6) (xK 6 [(8,bv x5)] [] h7 zB)))) ?_
   exact zT rfl
  ·refine J_g 6 [] [(2,bv (a1==95))] [] (zG 1 (yT [(.tmp 3)] [5] (xX.ok a1) h3) (xK 2 [(4,bv x2)] [] h4 (zBU 4 2 5 false (yT [(.tmp 6)] [5] (xY.ok a1) h6) (xK 6 [(8,bv x5)] [] h7 zB)))) ?_
   exact zT rfl
noncomputable def zLr:Code:=(Tryz.f184.body).getD .skip
theorem vV.ok (a1:ByteArray) (q:Wd) (kn:Unit→Option (D×List Ent)) (hk:∀v:Unit,J (q.g Tryz.prog 184 0 29) zLr (atI zLr 15) (St.mk' [] []) (some v) kn):
  ∀s16:Int,J (q.g Tryz.prog 184 0 29) zLr (atI zLr 116) (St.mk' [(0,sv a1),(3,iv s16)] []) (vV a1 s16) (Fl.go (fun r:Int=>some (iv r,[])) kn):=by
 refine zAU (fun g ih s16=>?_)
 unfold zAc
 refine J_d 464 [] [21] [(21,bv (decide (s16< (a1.size:Int))))] [] [] zB ?_
 refine zD 21 (fun h17=>?_) (fun h17=>?_)
 ·refine zA (fun x18 h19=>?_)
  refine zA (fun x20 h21=>?_)
  refine J_d 1864 [] [21,28] [(28,bv (!x20))] [] [] (zG 2 (zGE (kk:=.i64) 9 (.tmp 24) (.tmp 25) h19) (zG 3 (yT [(.tmp 26)] [5] (wJ.ok x18) h21) zB)) ?_
  refine zD 28 (fun h22=>?_) (fun h22=>?_)
  ·refine J_g 7460 [] [(2,iv 5)] [] zB ?_
   exact zT rfl
  ·refine J_g 467 [] [(0,sv a1),(3,iv (w64 (s16+1)))] [] zB ?_
   exact J_q (J_b (ih (w64 (s16+1)))) rfl
 ·exact xC (hk ()) rfl
theorem xM.ok (a1:ByteArray):Ok Tryz.prog 184 [sv a1] [] ((xM a1).map fun r=>(iv r,[])):=by
 refine zH zLr Tryz.f184 0 29 (fun q=>?_)
 unfold xM
 refine J_g 2 [] [(0,sv a1)] [] zB ?_
 refine vC (atI zLr 13) (fun v8:Bool=>St.mk' [(0,sv a1),(17,bv v8)] []) (fun v8=>?_) (fun jv8=>?_)
 ·refine zD 17 (fun h9=>?_) (fun h9=>?_)
  ·refine J_g 52 [] [(2,iv 5)] [] zB ?_
   exact zT rfl
  ·refine J_g 28 [] [(0,sv a1),(3,iv 0)] [] zB ?_
   refine jL (K0:=(fun r:Int=>some (iv r,[]))) (fun _=>rfl) (vV.ok a1 q _ (fun v23=>J_j ?_) 0)
   refine J_g 30 [] [(2,iv 0)] [] zB ?_
   exact zT rfl
 ·refine wG (fun h2=>?_) (fun h2=>?_)
  ·refine J_g 12 [] [(0,sv a1),(17,bv true)] [] (xK 3 [(6,bv (decide ((a1.size:Int)<1)))] [] h2 zB) ?_
   exact xC (J_j (jv8 true)) rfl
  ·refine wG (fun h3=>?_) (fun h3=>?_)
   ·refine J_g 12 [] [(0,sv a1),(17,bv true)] [] (xK 3 [(6,bv (decide ((a1.size:Int)<1)))] [] h2 (xK 8 [(11,bv (decide ((a1.size:Int)>12)))] [] h3 zB)) ?_
    exact xC (J_j (jv8 true)) rfl
   ·refine zA (fun x4 h5=>?_)
    refine zA (fun x6 h7=>?_)
    refine J_g 12 [] [(0,sv a1),(17,bv (!x6))] [] (xK 3 [(6,bv (decide ((a1.size:Int)<1)))] [] h2 (xK 8 [(11,bv (decide ((a1.size:Int)>12)))] [] h3 (zBU 10 8 12 false (zGE (kk:=.i64) 9 (.tmp 13) (.const (.int .i64 0)) h5) (zBU 11 8 12 false (yT [(.tmp 14)] [5] (xX.ok x4) h7) zB)))) ?_
    exact xC (J_j (jv8 (!x6))) rfl
noncomputable def c124:Code:=(Tryz.f124.body).getD .skip
theorem yN.ok (a1:Int) (a2:Int) (a3:Int):Ok Tryz.prog 124 [iv a1,iv a2,iv a3] [] ((yN a1 a2 a3).map fun r=>(bv r,[])):=by
 refine zH c124 Tryz.f124 0 15 (fun q=>?_)
 unfold yN
 refine J_d 2 [] [] [] [] [] zB ?_
 refine wG (fun h4=>?_) (fun h4=>?_)
 ·refine J_g 6 [] [(6,bv (decide (a1≤a3)))] [] (xK 3 [(9,bv (decide (a1≥a2)))] [] h4 zB) ?_
  exact zT rfl
 ·refine J_g 6 [] [(6,bv false)] [] (xK 3 [(9,bv (decide (a1≥a2)))] [] h4 zB) ?_
  exact zT rfl
noncomputable def zMA:Code:=(Tryz.f185.body).getD .skip
theorem yO.ok (a1:Version):Ok Tryz.prog 185 [.ag (Version.enc a1)] [] ((yO a1).map fun r=>(iv r,[])):=by
 refine zH zMA Tryz.f185 0 19 (fun q=>?_)
 unfold yO
 refine J_g 2 [(0,0)] [(1,pp 0)] [(0,.box (Version.enc a1))] zB ?_
 refine zA (fun x2 h3=>?_)
 refine vC (atI zMA 13) (fun v10:Bool=>St.mk' [(18,bv v10)] []) (fun v10=>?_) (fun jv10=>?_)
 ·refine zD 18 (fun h11=>?_) (fun h11=>?_)
  ·refine J_g 52 [] [(2,iv 3)] [] zB ?_
   exact zT rfl
  ·refine J_g 14 [] [(2,iv 0)] [] zB ?_
   exact zT rfl
 ·refine wG (fun h4=>?_) (fun h4=>?_)
  ·refine J_g 12 [] [(18,bv true)] [] (zG 2 (yT [(.tmp 4),(.const (.int .i64 0)),(.const (.int .i64 999))] [2,2,2] (yN.ok a1.A 0 999) h3) (xK 4 [(6,bv (!x2))] [] h4 zB)) ?_
   exact xC (J_j (jv10 true)) rfl
  ·refine zA (fun x5 h6=>?_)
   refine wG (fun h7=>?_) (fun h7=>?_)
   ·refine J_g 12 [] [(18,bv true)] [] (zG 2 (yT [(.tmp 4),(.const (.int .i64 0)),(.const (.int .i64 999))] [2,2,2] (yN.ok a1.A 0 999) h3) (xK 4 [(6,bv (!x2))] [] h4 (zBU 7 4 7 false (yT [(.tmp 9),(.const (.int .i64 0)),(.const (.int .i64 999))] [2,2,2] (yN.ok a1.B 0 999) h6) (xK 10 [(12,bv (!x5))] [] h7 zB)))) ?_
    exact xC (J_j (jv10 true)) rfl
   ·refine zA (fun x8 h9=>?_)
    refine J_g 12 [] [(18,bv (!x8))] [] (zG 2 (yT [(.tmp 4),(.const (.int .i64 0)),(.const (.int .i64 999))] [2,2,2] (yN.ok a1.A 0 999) h3) (xK 4 [(6,bv (!x2))] [] h4 (zBU 7 4 7 false (yT [(.tmp 9),(.const (.int .i64 0)),(.const (.int .i64 999))] [2,2,2] (yN.ok a1.B 0 999) h6) (xK 10 [(12,bv (!x5))] [] h7 (zBU 13 10 13 false (yT [(.tmp 15),(.const (.int .i64 0)),(.const (.int .i64 999))] [2,2,2] (yN.ok a1.C 0 999) h9) zB))))) ?_
    exact xC (J_j (jv10 (!x8))) rfl
noncomputable def zMb:Code:=(Tryz.f172.body).getD .skip
theorem zAA.ok (a1:(List ByteArray)) (a2:ByteArray) (q:Wd) (kn:Unit→Option (D×List Ent)) (hk:∀v:Unit,J (q.g Tryz.prog 172 0 18) zMb (atI zMb 7) (St.mk' [] []) (some v) kn):
  ∀s7:Int,J (q.g Tryz.prog 172 0 18) zMb (atI zMb 52) (St.mk' [(0,sl 1 eStr a1),(1,sv a2),(5,iv s7)] []) (zAA a1 a2 s7) (Fl.go (fun r:Bool=>some (bv r,[])) kn):=by
 refine zAU (fun g ih s7=>?_)
 unfold kV
 refine J_d 208 [] [9] [(9,bv (decide (s7< (a1.length:Int))))] [] [] zB ?_
 refine zD 9 (fun h8=>?_) (fun h8=>?_)
 ·refine zA (fun x9 h10=>?_)
  refine J_d 840 [] [9,17] [(17,bv (seq x9 a2))] [] [] (zG 2 (uE (kk:=.i64) 70 9 1 eStr (.tmp 12) (.tmp 13) h10) zB) ?_
  refine zD 17 (fun h11=>?_) (fun h11=>?_)
  ·refine J_g 3364 [] [(4,bv true)] [] zB ?_
   exact zT rfl
  ·refine J_d 211 [] [5,17] [(5,iv (w64 (s7+1)))] [] [] zB ?_
   exact J_q (J_b (ih (w64 (s7+1)))) rfl
 ·exact xC (hk ()) rfl
theorem zAE.ok (a1:(List ByteArray)) (a2:ByteArray):Ok Tryz.prog 172 [sl 1 eStr a1,sv a2] [] ((zAE a1 a2).map fun r=>(bv r,[])):=by
 refine zH zMb Tryz.f172 0 18 (fun q=>?_)
 unfold zAE
 refine J_g 2 [] [(0,sl 1 eStr a1),(1,sv a2)] [] zB ?_
 refine J_d 12 [] [5] [(5,iv 0)] [] [] zB ?_
 refine jL (K0:=(fun r:Bool=>some (bv r,[]))) (fun _=>rfl) (zAA.ok a1 a2 q _ (fun v12=>J_j ?_) 0)
 refine J_g 14 [] [(4,bv false)] [] zB ?_
 exact zT rfl
noncomputable def zNy:Code:=(Tryz.f274.body).getD .skip
theorem zBM.ok:Ok Tryz.prog 274 [] [] ((zBM).map fun r=>(.ag (Version.enc r),[])):=by
 refine zH zNy Tryz.f274 0 2 (fun q=>?_)
 unfold zBM
 refine J_g 2 [(0,0)] [(0,pp 0)] [(0,.box [iv 0,iv 0,iv 0])] zB ?_
 refine J_g 6 [] [(0,pp 0)] [(0,.box [iv 1000,iv 0,iv 0])] zB ?_
 exact zT rfl
noncomputable def zNh:Code:=(Tryz.f258.body).getD .skip
theorem uJ.ok (a1:Int) (a2:Int):Ok Tryz.prog 258 [iv a1,iv a2] [] ((uJ a1 a2).map fun r=>(iv r,[])):=by
 refine zH zNh Tryz.f258 0 11 (fun q=>?_)
 unfold uJ
 refine J_g 2 [] [(0,iv a1),(1,iv a2)] [] zB ?_
 refine J_d 12 [] [7] [(7,bv (decide (a1<a2)))] [] [] zB ?_
 refine zD 7 (fun h3=>?_) (fun h3=>?_)
 ·refine J_g 52 [] [(4,iv (-1))] [] zB ?_
  exact zT rfl
 ·refine J_g 28 [] [(10,bv (decide (a1>a2)))] [] zB ?_
  refine zD 10 (fun h4=>?_) (fun h4=>?_)
  ·refine J_g 116 [] [(4,iv 1)] [] zB ?_
   exact zT rfl
  ·refine J_g 30 [] [(4,iv 0)] [] zB ?_
   exact zT rfl
noncomputable def zMJ:Code:=(Tryz.f187.body).getD .skip
theorem yU.ok (a1:Version) (a2:Version):Ok Tryz.prog 187 [.ag (Version.enc a1),.ag (Version.enc a2)] [] ((yU a1 a2).map fun r=>(iv r,[])):=by
 refine zH zMJ Tryz.f187 0 28 (fun q=>?_)
 unfold yU
 refine J_g 2 [(0,0),(1,1)] [(2,pp 0),(3,pp 1)] [(0,.box (Version.enc a1)),(1,.box (Version.enc a2))] zB ?_
 refine zA (fun x3 h4=>?_)
 refine J_g 12 [] [(2,pp 0),(3,pp 1),(5,iv x3)] [(0,.box (Version.enc a1)),(1,.box (Version.enc a2))] (zG 4 (yT [(.tmp 8),(.tmp 10)] [2,2] (uJ.ok a1.A a2.A) h4) zB) ?_
 refine J_d 26 [] [13] [(13,bv (x3 !=0))] [] [] zB ?_
 refine zD 13 (fun h5=>?_) (fun h5=>?_)
 ·refine J_g 108 [] [(4,iv x3)] [] zB ?_
  exact zT rfl
 ·refine zA (fun x6 h7=>?_)
  refine J_g 28 [] [(2,pp 0),(3,pp 1),(6,iv x6)] [(0,.box (Version.enc a1)),(1,.box (Version.enc a2))] (zG 4 (yT [(.tmp 16),(.tmp 18)] [2,2] (uJ.ok a1.B a2.B) h7) zB) ?_
  refine J_d 58 [] [21] [(21,bv (x6 !=0))] [] [] zB ?_
  refine zD 21 (fun h8=>?_) (fun h8=>?_)
  ·refine J_g 236 [] [(4,iv x6)] [] zB ?_
   exact zT rfl
  ·refine zA (fun x9 h10=>?_)
   refine J_g 30 [] [(4,iv x9)] [] (zG 4 (yT [(.tmp 24),(.tmp 26)] [2,2] (uJ.ok a1.C a2.C) h10) zB) ?_
   exact zT rfl
noncomputable def zM9:Code:=(Tryz.f257.body).getD .skip
theorem jJ.ok (a1:Term):Ok Tryz.prog 257 [.ag (Term.enc a1)] [] ((jJ a1).map fun r=>(iv r,[])):=by
 refine zH zM9 Tryz.f257 0 33 (fun q=>?_)
 unfold jJ
 refine J_g 2 [(0,0)] [(1,pp 0)] [(0,.box (Term.enc a1))] zB ?_
 refine zA (fun x2 h3=>?_)
 refine J_g 12 [] [(1,pp 0),(3,iv x2)] [(0,.box (Term.enc a1))] (zG 2 (yT [(.tmp 6)] [9] (xM.ok a1.Name) h3) zB) ?_
 refine J_d 26 [] [9] [(9,bv (x2 !=0))] [] [] zB ?_
 refine zD 9 (fun h4=>?_) (fun h4=>?_)
 ·refine J_g 108 [] [(2,iv x2)] [] zB ?_
  exact zT rfl
 ·refine zA (fun x5 h6=>?_)
  refine J_g 28 [] [(1,pp 0),(4,iv x5)] [(0,.box (Term.enc a1))] (zG 2 (yT [(.tmp 12)] [86] (yO.ok a1.Low) h6) zB) ?_
  refine J_d 58 [] [15] [(15,bv (x5 !=0))] [] [] zB ?_
  refine zD 15 (fun h7=>?_) (fun h7=>?_)
  ·refine J_g 236 [] [(2,iv x5)] [] zB ?_
   exact zT rfl
  ·refine zA (fun x8 h9=>?_)
   refine vC (atI zM9 61) (fun v13:Bool=>St.mk' [(1,pp 0),(26,bv v13)] [(0,.box (Term.enc a1))]) (fun v13=>?_) (fun jv13=>?_)
   ·refine zD 26 (fun h14=>?_) (fun h14=>?_)
    ·refine J_g 244 [] [(2,iv 3)] [] zB ?_
     exact zT rfl
    ·refine zA (fun x15 h16=>?_)
     refine J_g 124 [] [(32,bv (decide (x15≥0)))] [] (zG 4 (yT [(.tmp 28),(.tmp 30)] [86,86] (yU.ok a1.Low a1.High) h16) zB) ?_
     refine zD 32 (fun h17=>?_) (fun h17=>?_)
     ·refine J_g 500 [] [(2,iv 1)] [] zB ?_
      exact zT rfl
     ·refine J_g 126 [] [(2,iv 0)] [] zB ?_
      exact zT rfl
   ·refine wG (fun h10=>?_) (fun h10=>?_)
    ·refine zA (fun x11 h12=>?_)
     refine J_d 60 [] [4,15,26] [(26,bv (x11 !=0))] [] [] (zG 2 (yT [] [] (zBM.ok) h9) (zG 3 (zIE (b:=.neq) (r:=(a1.High.A==x8.A&&(a1.High.B==x8.B&&(a1.High.C==x8.C&&true)))) 86 86 (.tmp 18) (.tmp 19) [.int .i64 a1.High.A,.int .i64 a1.High.B,.int .i64 a1.High.C] [.int .i64 x8.A,.int .i64 x8.B,.int .i64 x8.C] (.inr ⟨rfl,rfl⟩)) (xK 4 [(20,bv (!(a1.High.A==x8.A&&(a1.High.B==x8.B&&(a1.High.C==x8.C&&true)))))] [] h10 (zBU 7 4 21 true (yT [(.tmp 23)] [86] (yO.ok a1.High) h12) zB)))) ?_
     exact xC (J_j (jv13 (x11 !=0))) rfl
    ·refine J_d 60 [] [4,15,26] [(26,bv false)] [] [] (zG 2 (yT [] [] (zBM.ok) h9) (zG 3 (zIE (b:=.neq) (r:=(a1.High.A==x8.A&&(a1.High.B==x8.B&&(a1.High.C==x8.C&&true)))) 86 86 (.tmp 18) (.tmp 19) [.int .i64 a1.High.A,.int .i64 a1.High.B,.int .i64 a1.High.C] [.int .i64 x8.A,.int .i64 x8.B,.int .i64 x8.C] (.inr ⟨rfl,rfl⟩)) (xK 4 [(20,bv (!(a1.High.A==x8.A&&(a1.High.B==x8.B&&(a1.High.C==x8.C&&true)))))] [] h10 zB))) ?_
     exact xC (J_j (jv13 false)) rfl
noncomputable def zLF:Code:=(Tryz.f186.body).getD .skip
theorem zAe.ok (a1:(List Term)) (q:Wd) (kn:Unit→Option (D×List Ent)) (hk:∀v:Unit,J (q.g Tryz.prog 186 0 19) zLF (atI zLF 7) (St.mk' [] []) (some v) kn):
  ∀s8:Int,J (q.g Tryz.prog 186 0 19) zLF (atI zLF 52) (St.mk' [(0,sl 7 Term.enc a1),(3,iv s8)] []) (zAe a1 s8) (Fl.go (fun r:Int=>some (iv r,[])) kn):=by
 refine zAU (fun g ih s8=>?_)
 unfold kU
 refine J_d 208 [] [8] [(8,bv (decide (s8< (a1.length:Int))))] [] [] zB ?_
 refine zD 8 (fun h9=>?_) (fun h9=>?_)
 ·refine zA (fun x10 h11=>?_)
  refine zA (fun x12 h13=>?_)
  refine J_g 840 [] [(0,sl 7 Term.enc a1),(3,iv s8),(4,iv x12)] [] (zG 2 (uE (kk:=.i64) 53 153 7 Term.enc (.tmp 11) (.tmp 12) h11) (zG 4 (yT [(.tmp 14)] [153] (jJ.ok x10) h13) zB)) ?_
  refine J_d 1682 [] [17] [(17,bv (x12 !=0))] [] [] zB ?_
  refine zD 17 (fun h14=>?_) (fun h14=>?_)
  ·refine J_g 6732 [] [(2,iv x12)] [] zB ?_
   exact zT rfl
  ·refine J_g 211 [] [(0,sl 7 Term.enc a1),(3,iv (w64 (s8+1)))] [] zB ?_
   exact J_q (J_b (ih (w64 (s8+1)))) rfl
 ·exact xC (hk ()) rfl
theorem vP.ok (a1:(List Term)):Ok Tryz.prog 186 [sl 7 Term.enc a1] [] ((vP a1).map fun r=>(iv r,[])):=by
 refine zH zLF Tryz.f186 0 19 (fun q=>?_)
 unfold vP
 refine J_g 2 [] [(0,sl 7 Term.enc a1)] [] zB ?_
 refine J_d 12 [] [3] [(3,iv 0)] [] [] zB ?_
 refine jL (K0:=(fun r:Int=>some (iv r,[]))) (fun _=>rfl) (zAe.ok a1 q _ (fun v15=>J_j ?_) 0)
 refine J_g 14 [] [(2,iv 0)] [] zB ?_
 exact zT rfl
noncomputable def zGI:Code:=(Tryz.f103.body).getD .skip
theorem vW.ok (a1:Pack) (q:Wd) (kn:Unit→Option (D×List Ent)) (hk:∀v:Unit,J (q.g Tryz.prog 103 0 118) zGI (atI zGI 511) (St.mk' [(1,pp 0)] [(0,.box (Pack.enc false a1))]) (some v) kn):
  ∀s70:Int,J (q.g Tryz.prog 103 0 118) zGI (atI zGI 4084) (St.mk' [(1,pp 0),(8,iv s70)] [(0,.box (Pack.enc false a1))]) (vW a1 s70) (Fl.go (fun r:Int=>some (iv r,[])) kn):=by
 refine zAU (fun g ih s70=>?_)
 unfold tJ
 refine J_d 16336 [] [96] [(96,bv (decide (s70< (a1.Needs.length:Int))))] [] [] zB ?_
 refine zD 96 (fun h71=>?_) (fun h71=>?_)
 ·refine zA (fun x72 h73=>?_)
  refine J_d 130704 [] [96,105] [(105,bv ((x72.length:Int)==0))] [] [] (zG 3 (uE (kk:=.i64) 87 53 1 (eSl false 7 Term.enc) (.tmp 100) (.tmp 101) h73) zB) ?_
  refine zD 105 (fun h74=>?_) (fun h74=>?_)
  ·refine J_g 522820 [] [(2,iv 1)] [] zB ?_
   exact zT rfl
  ·refine zA (fun x75 h76=>?_)
   refine zA (fun x77 h78=>?_)
   refine J_g 130706 [] [(1,pp 0),(8,iv s70),(9,iv x77)] [(0,.box (Pack.enc false a1))] (zG 3 (uE (kk:=.i64) 87 53 1 (eSl false 7 Term.enc) (.tmp 107) (.tmp 108) h76) (zG 5 (yT [(.tmp 110)] [53] (vP.ok x75) h78) zB)) ?_
   refine J_d 261414 [] [113] [(113,bv (x77 !=0))] [] [] zB ?_
   refine zD 113 (fun h79=>?_) (fun h79=>?_)
   ·refine J_g 1045660 [] [(2,iv x77)] [] zB ?_
    exact zT rfl
   ·refine J_d 16339 [] [8,9,113] [(8,iv (w64 (s70+1)))] [] [] zB ?_
    exact J_q (J_b (ih (w64 (s70+1)))) rfl
 ·exact xC (hk ()) rfl
theorem vU.ok (a1:Pack) (q:Wd) (kn:Unit→Option (D×List Ent)) (hk:∀v:Unit,J (q.g Tryz.prog 103 0 118) zGI (atI zGI 255) (St.mk' [(1,pp 0)] [(0,.box (Pack.enc false a1))]) (some v) kn):
  ∀s42:Int,J (q.g Tryz.prog 103 0 118) zGI (atI zGI 2036) (St.mk' [(1,pp 0),(6,iv s42)] [(0,.box (Pack.enc false a1))]) (vU a1 s42) (Fl.go (fun r:Int=>some (iv r,[])) kn):=by
 refine zAU (fun g ih s42=>?_)
 unfold uU
 refine J_d 8144 [] [60] [(60,bv (decide (s42< (a1.Provides.length:Int))))] [] [] zB ?_
 refine zD 60 (fun h43=>?_) (fun h43=>?_)
 ·refine zA (fun x44 h45=>?_)
  refine zA (fun x46 h47=>?_)
  refine J_g 65168 [] [(1,pp 0),(6,iv s42),(7,iv x46)] [(0,.box (Pack.enc false a1))] (zG 3 (uE (kk:=.i64) 70 9 1 eStr (.tmp 64) (.tmp 65) h45) (zG 5 (yT [(.tmp 67)] [9] (xM.ok x44) h47) zB)) ?_
  refine J_d 130338 [] [70] [(70,bv (x46 !=0))] [] [] zB ?_
  refine zD 70 (fun h48=>?_) (fun h48=>?_)
  ·refine J_g 521356 [] [(2,iv x46)] [] zB ?_
   exact zT rfl
  ·refine zA (fun x49 h50=>?_)
   refine vC (atI zGI 65171) (fun v58:Bool=>St.mk' [(1,pp 0),(6,iv s42),(91,bv v58)] [(0,.box (Pack.enc false a1))]) (fun v58=>?_) (fun jv58=>?_)
   ·refine zD 91 (fun h59=>?_) (fun h59=>?_)
    ·refine J_g 260684 [] [(2,iv 6)] [] zB ?_
     exact zT rfl
    ·refine J_d 8147 [] [6,91] [(6,iv (w64 (s42+1)))] [] [] zB ?_
     exact J_q (J_b (ih (w64 (s42+1)))) rfl
   ·refine wG (fun h51=>?_) (fun h51=>?_)
    ·refine J_d 65170 [] [7,70,91] [(91,bv true)] [] [] (zG 3 (uE (kk:=.i64) 70 9 1 eStr (.tmp 73) (.tmp 74) h50) (xK 8 [(79,bv (seq x49 a1.Name))] [] h51 zB)) ?_
     exact xC (J_j (jv58 true)) rfl
    ·refine zA (fun x52 h53=>?_)
     refine zA (fun x54 h55=>?_)
     refine zA (fun x56 h57=>?_)
     refine J_d 65170 [] [7,70,91] [(91,bv x56)] [] [] (zG 3 (uE (kk:=.i64) 70 9 1 eStr (.tmp 73) (.tmp 74) h50) (xK 8 [(79,bv (seq x49 a1.Name))] [] h51 (zBU 12 8 80 false (zMi 70 9 1 eStr (.tmp 82) none (some (.tmp 83)) h53) (zBU 16 8 80 false (uE (kk:=.i64) 70 9 1 eStr (.tmp 86) (.tmp 87) h55) (zBU 18 8 80 false (yT [(.tmp 84),(.tmp 89)] [70,9] (zAE.ok x52 x54) h57) zB))))) ?_
     exact xC (J_j (jv58 x56)) rfl
 ·exact xC (hk ()) rfl
theorem jO.ok (a1:Pack) (q:Wd) (kn:Unit→Option (D×List Ent)) (hk:∀v:Unit,J (q.g Tryz.prog 103 0 118) zGI (atI zGI 127) (St.mk' [(1,pp 0)] [(0,.box (Pack.enc false a1))]) (some v) kn):
  ∀s19:Int,J (q.g Tryz.prog 103 0 118) zGI (atI zGI 1012) (St.mk' [(1,pp 0),(5,iv s19)] [(0,.box (Pack.enc false a1))]) (jO a1 s19) (Fl.go (fun r:Int=>some (iv r,[])) kn):=by
 refine zAU (fun g ih s19=>?_)
 unfold uT
 refine J_d 4048 [] [46] [(46,bv (decide (s19< (a1.Needs.length:Int))))] [] [] zB ?_
 refine zD 46 (fun h20=>?_) (fun h20=>?_)
 ·refine zA (fun x21 h22=>?_)
  refine J_d 16200 [] [46,55] [(55,bv (decide ((x21.length:Int)>4)))] [] [] (zG 3 (uE (kk:=.i64) 87 53 1 (eSl false 7 Term.enc) (.tmp 50) (.tmp 51) h22) zB) ?_
  refine zD 55 (fun h23=>?_) (fun h23=>?_)
  ·refine J_g 64804 [] [(2,iv 2)] [] zB ?_
   exact zT rfl
  ·refine J_d 4051 [] [5,55] [(5,iv (w64 (s19+1)))] [] [] zB ?_
   exact J_q (J_b (ih (w64 (s19+1)))) rfl
 ·exact xC (hk ()) rfl
theorem jH.ok (a1:Pack):Ok Tryz.prog 103 [.ag (Pack.enc false a1)] [] ((jH a1).map fun r=>(iv r,[])):=by
 refine zH zGI Tryz.f103 0 118 (fun q=>?_)
 unfold jH
 refine J_g 2 [(0,0)] [(1,pp 0)] [(0,.box (Pack.enc false a1))] zB ?_
 refine zA (fun x2 h3=>?_)
 refine J_g 12 [] [(1,pp 0),(3,iv x2)] [(0,.box (Pack.enc false a1))] (zG 2 (yT [(.tmp 11)] [9] (xM.ok a1.Name) h3) zB) ?_
 refine J_d 26 [] [14] [(14,bv (x2 !=0))] [] [] zB ?_
 refine zD 14 (fun h4=>?_) (fun h4=>?_)
 ·refine J_g 108 [] [(2,iv x2)] [] zB ?_
  exact zT rfl
 ·refine zA (fun x5 h6=>?_)
  refine J_g 28 [] [(1,pp 0),(4,iv x5)] [(0,.box (Pack.enc false a1))] (zG 2 (yT [(.tmp 17)] [86] (yO.ok a1.Version) h6) zB) ?_
  refine J_d 58 [] [20] [(20,bv (x5 !=0))] [] [] zB ?_
  refine zD 20 (fun h7=>?_) (fun h7=>?_)
  ·refine J_g 236 [] [(2,iv x5)] [] zB ?_
   exact zT rfl
  ·refine zA (fun x8 h9=>?_)
   refine J_d 60 [] [4,20,25] [(25,bv (!x8))] [] [] (zG 2 (yT [(.tmp 23),(.const (.int .i64 1)),(.const (.int .i64 200))] [2,2,2] (yN.ok a1.Size 1 200) h9) zB) ?_
   refine zD 25 (fun h10=>?_) (fun h10=>?_)
   ·refine J_g 244 [] [(2,iv 3)] [] zB ?_
    exact zT rfl
   ·refine vC (atI zGI 125) (fun v13:Bool=>St.mk' [(1,pp 0),(41,bv v13)] [(0,.box (Pack.enc false a1))]) (fun v13=>?_) (fun jv13=>?_)
    ·refine zD 41 (fun h14=>?_) (fun h14=>?_)
     ·refine J_g 500 [] [(2,iv 2)] [] zB ?_
      exact zT rfl
     ·refine J_d 252 [] [5,41] [(5,iv 0)] [] [] zB ?_
      refine jL (K0:=(fun r:Int=>some (iv r,[]))) (fun _=>rfl) (jO.ok a1 q _ (fun v24=>J_j ?_) 0)
      refine J_d 508 [] [6] [(6,iv 0)] [] [] zB ?_
      refine jL (K0:=(fun r:Int=>some (iv r,[]))) (fun _=>rfl) (vU.ok a1 q _ (fun v60=>J_j ?_) 0)
      refine J_d 1020 [] [8] [(8,iv 0)] [] [] zB ?_
      refine jL (K0:=(fun r:Int=>some (iv r,[]))) (fun _=>rfl) (vW.ok a1 q _ (fun v80=>J_j ?_) 0)
      refine zA (fun x81 h82=>?_)
      refine J_g 1022 [] [(2,iv x81)] [] (zG 2 (yT [(.tmp 116)] [53] (vP.ok a1.Bars) h82) zB) ?_
      exact zT rfl
    ·refine wG (fun h11=>?_) (fun h11=>?_)
     ·refine J_d 124 [] [25,41] [(41,bv true)] [] [] (xK 4 [(29,bv (decide ((a1.Provides.length:Int)>4)))] [] h11 zB) ?_
      exact xC (J_j (jv13 true)) rfl
     ·refine wG (fun h12=>?_) (fun h12=>?_)
      ·refine J_d 124 [] [25,41] [(41,bv true)] [] [] (xK 4 [(29,bv (decide ((a1.Provides.length:Int)>4)))] [] h11 (xK 10 [(35,bv (decide ((a1.Needs.length:Int)>4)))] [] h12 zB)) ?_
       exact xC (J_j (jv13 true)) rfl
      ·refine J_d 124 [] [25,41] [(41,bv (decide ((a1.Bars.length:Int)>4)))] [] [] (xK 4 [(29,bv (decide ((a1.Provides.length:Int)>4)))] [] h11 (xK 10 [(35,bv (decide ((a1.Needs.length:Int)>4)))] [] h12 zB)) ?_
       exact xC (J_j (jv13 (decide ((a1.Bars.length:Int)>4)))) rfl
noncomputable def zLt:Code:=(Tryz.f104.body).getD .skip
theorem zBc.ok (a1:(List Pack)) (a2:ByteArray) (a3:Version) (q:Wd) (kn:Unit→Option (D×List Ent)) (hk:∀v:Unit,J (q.g Tryz.prog 104 0 32) zLt (atI zLt 7) (St.mk' [] []) (some v) kn):
  ∀s14:Int,J (q.g Tryz.prog 104 0 32) zLt (atI zLt 52) (St.mk' [(0,sl 8 (Pack.enc false) a1),(1,sv a2),(5,pp 0),(7,iv s14)] [(0,.box (Version.enc a3))]) (zBc a1 a2 a3 s14) (Fl.go (fun r:Int=>some (iv r,[])) kn):=by
 refine zAU (fun g ih s14=>?_)
 unfold zAs
 refine J_d 208 [] [11] [(11,bv (decide (s14< (a1.length:Int))))] [] [] zB ?_
 refine zD 11 (fun h15=>?_) (fun h15=>?_)
 ·refine zA (fun x16 h17=>?_)
  refine vC (atI zLt 841) (fun v23:Bool=>St.mk' [(0,sl 8 (Pack.enc false) a1),(1,sv a2),(5,pp 0),(7,iv s14),(30,bv v23)] [(0,.box (Version.enc a3))]) (fun v23=>?_) (fun jv23=>?_)
  ·refine zD 30 (fun h24=>?_) (fun h24=>?_)
   ·refine J_g 3364 [] [(6,iv s14)] [] zB ?_
    exact zT rfl
   ·refine J_d 211 [] [7,30] [(7,iv (w64 (s14+1)))] [] [] zB ?_
    exact J_q (J_b (ih (w64 (s14+1)))) rfl
  ·refine wG (fun h18=>?_) (fun h18=>?_)
   ·refine zA (fun x19 h20=>?_)
    refine zA (fun x21 h22=>?_)
    refine J_d 840 [] [11,30] [(30,bv (x21==0))] [] [] (zG 2 (uE (kk:=.i64) 24 89 8 (Pack.enc false) (.tmp 14) (.tmp 15) h17) (xK 7 [(20,bv (seq x16.Name a2))] [] h18 (zBU 10 7 21 true (uE (kk:=.i64) 24 89 8 (Pack.enc false) (.tmp 22) (.tmp 23) h20) (zBU 14 7 21 true (yT [(.tmp 26),(.tmp 27)] [86,86] (yU.ok x19.Version a3) h22) zB)))) ?_
    exact xC (J_j (jv23 (x21==0))) rfl
   ·refine J_d 840 [] [11,30] [(30,bv false)] [] [] (zG 2 (uE (kk:=.i64) 24 89 8 (Pack.enc false) (.tmp 14) (.tmp 15) h17) (xK 7 [(20,bv (seq x16.Name a2))] [] h18 zB)) ?_
    exact xC (J_j (jv23 false)) rfl
 ·exact xC (hk ()) rfl
theorem zAm.ok (a1:(List Pack)) (a2:ByteArray) (a3:Version):Ok Tryz.prog 104 [sl 8 (Pack.enc false) a1,sv a2,.ag (Version.enc a3)] [] ((zAm a1 a2 a3).map fun r=>(iv r,[])):=by
 refine zH zLt Tryz.f104 0 32 (fun q=>?_)
 unfold zAm
 refine J_g 2 [(0,0)] [(0,sl 8 (Pack.enc false) a1),(1,sv a2),(5,pp 0)] [(0,.box (Version.enc a3))] zB ?_
 refine J_d 12 [] [7] [(7,iv 0)] [] [] zB ?_
 refine jL (K0:=(fun r:Int=>some (iv r,[]))) (fun _=>rfl) (zBc.ok a1 a2 a3 q _ (fun v25=>J_j ?_) 0)
 refine J_g 14 [] [(6,iv (-1))] [] zB ?_
 exact zT rfl
noncomputable def c46:Code:=(Tryz.f46.body).getD .skip
theorem vK.ok (a1:(List Pack)) (q:Wd) (kn:Unit→Option (D×List Ent)) (hk:∀v:Unit,J (q.g Tryz.prog 46 0 37) c46 (atI c46 15) (St.mk' [] []) (some v) kn):
  ∀s18:Int,J (q.g Tryz.prog 46 0 37) c46 (atI c46 116) (St.mk' [(0,sl 8 (Pack.enc false) a1),(3,iv s18)] []) (vK a1 s18) (Fl.go (fun r:Int=>some (iv r,[])) kn):=by
 refine zAU (fun g ih s18=>?_)
 unfold vD
 refine J_d 464 [] [11] [(11,bv (decide (s18< (a1.length:Int))))] [] [] zB ?_
 refine zD 11 (fun h19=>?_) (fun h19=>?_)
 ·refine zA (fun x20 h21=>?_)
  refine zA (fun x22 h23=>?_)
  refine J_g 3728 [] [(0,sl 8 (Pack.enc false) a1),(3,iv s18),(4,iv x22)] [] (zG 2 (uE (kk:=.i64) 24 89 8 (Pack.enc false) (.tmp 14) (.tmp 15) h21) (zG 4 (yT [(.tmp 17)] [89] (jH.ok x20) h23) zB)) ?_
  refine J_d 7458 [] [20] [(20,bv (x22 !=0))] [] [] zB ?_
  refine zD 20 (fun h24=>?_) (fun h24=>?_)
  ·refine J_g 29836 [] [(2,iv x22)] [] zB ?_
   exact zT rfl
  ·refine zA (fun x25 h26=>?_)
   refine zA (fun x27 h28=>?_)
   refine zA (fun x29 h30=>?_)
   refine zA (fun x31 h32=>?_)
   refine J_d 3730 [] [4,20,36] [(36,bv (decide (x31≥0)))] [] [] (zG 2 (zMi 24 89 8 (Pack.enc false) (.tmp 22) none (some (.tmp 23)) h26) (zG 5 (uE (kk:=.i64) 24 89 8 (Pack.enc false) (.tmp 25) (.tmp 26) h28) (zG 10 (uE (kk:=.i64) 24 89 8 (Pack.enc false) (.tmp 30) (.tmp 31) h30) (zG 13 (yT [(.tmp 24),(.tmp 29),(.tmp 34)] [24,9,86] (zAm.ok x25 x27.Name x29.Version) h32) zB)))) ?_
   refine zD 36 (fun h33=>?_) (fun h33=>?_)
   ·refine J_g 14924 [] [(2,iv 6)] [] zB ?_
    exact zT rfl
   ·refine J_d 467 [] [3,36] [(3,iv (w64 (s18+1)))] [] [] zB ?_
    exact J_q (J_b (ih (w64 (s18+1)))) rfl
 ·exact xC (hk ()) rfl
theorem wS.ok (a1:(List Pack)):Ok Tryz.prog 46 [sl 8 (Pack.enc false) a1] [] ((wS a1).map fun r=>(iv r,[])):=by
 refine zH c46 Tryz.f46 0 37 (fun q=>?_)
 unfold wS
 refine J_g 2 [] [(0,sl 8 (Pack.enc false) a1)] [] zB ?_
 refine J_d 12 [] [7] [(7,bv (decide ((a1.length:Int)>24)))] [] [] zB ?_
 refine zD 7 (fun h2=>?_) (fun h2=>?_)
 ·refine J_g 52 [] [(2,iv 2)] [] zB ?_
  exact zT rfl
 ·refine J_d 28 [] [3,7] [(3,iv 0)] [] [] zB ?_
  refine jL (K0:=(fun r:Int=>some (iv r,[]))) (fun _=>rfl) (vK.ok a1 q _ (fun v34=>J_j ?_) 0)
  refine J_g 30 [] [(2,iv 0)] [] zB ?_
  exact zT rfl
noncomputable def zNx:Code:=(Tryz.f267.body).getD .skip
theorem zBt.ok (a1:Int):Ok Tryz.prog 267 [uv a1] [] ((zBt a1).map fun r=>(bv r,[])):=by
 refine zH zNx Tryz.f267 0 17 (fun q=>?_)
 unfold zBt
 refine J_g 2 [] [(0,uv a1)] [] zB ?_
 refine zA (fun x2 h3=>?_)
 refine wG (fun h4=>?_) (fun h4=>?_)
 ·refine J_g 6 [] [(2,bv true)] [] (zG 1 (yT [(.tmp 3)] [5] (wJ.ok a1) h3) (xK 2 [(4,bv x2)] [] h4 zB)) ?_
  exact zT rfl
 ·refine wG (fun h5=>?_) (fun h5=>?_)
  ·refine J_g 6 [] [(2,bv true)] [] (zG 1 (yT [(.tmp 3)] [5] (wJ.ok a1) h3) (xK 2 [(4,bv x2)] [] h4 (xK 6 [(8,bv (a1==46))] [] h5 zB))) ?_
   exact zT rfl
  ·refine wG (fun h6=>?_) (fun h6=>?_)
   ·refine J_g 6 [] [(2,bv true)] [] (zG 1 (yT [(.tmp 3)] [5] (wJ.ok a1) h3) (xK 2 [(4,bv x2)] [] h4 (xK 6 [(8,bv (a1==46))] [] h5 (xK 10 [(12,bv (a1==45))] [] h6 zB)))) ?_
    exact zT rfl
   ·refine J_g 6 [] [(2,bv (a1==47))] [] (zG 1 (yT [(.tmp 3)] [5] (wJ.ok a1) h3) (xK 2 [(4,bv x2)] [] h4 (xK 6 [(8,bv (a1==46))] [] h5 (xK 10 [(12,bv (a1==45))] [] h6 zB)))) ?_
    exact zT rfl
noncomputable def c201:Code:=(Tryz.f201.body).getD .skip
theorem wT.ok (a1:ByteArray) (q:Wd) (kn:Unit→Option (D×List Ent)) (hk:∀v:Unit,J (q.g Tryz.prog 201 0 23) c201 (atI c201 15) (St.mk' [] []) (some v) kn):
  ∀s11:Int,J (q.g Tryz.prog 201 0 23) c201 (atI c201 116) (St.mk' [(0,sv a1),(3,iv s11)] []) (wT a1 s11) (Fl.go (fun r:Int=>some (iv r,[])) kn):=by
 refine zAU (fun g ih s11=>?_)
 unfold vF
 refine J_d 464 [] [15] [(15,bv (decide (s11< (a1.size:Int))))] [] [] zB ?_
 refine zD 15 (fun h12=>?_) (fun h12=>?_)
 ·refine zA (fun x13 h14=>?_)
  refine zA (fun x15 h16=>?_)
  refine J_d 1864 [] [15,22] [(22,bv (!x15))] [] [] (zG 2 (zGE (kk:=.i64) 9 (.tmp 18) (.tmp 19) h14) (zG 3 (yT [(.tmp 20)] [5] (zBt.ok x13) h16) zB)) ?_
  refine zD 22 (fun h17=>?_) (fun h17=>?_)
  ·refine J_g 7460 [] [(2,iv 5)] [] zB ?_
   exact zT rfl
  ·refine J_g 467 [] [(0,sv a1),(3,iv (w64 (s11+1)))] [] zB ?_
   exact J_q (J_b (ih (w64 (s11+1)))) rfl
 ·exact xC (hk ()) rfl
theorem xR.ok (a1:ByteArray):Ok Tryz.prog 201 [sv a1] [] ((xR a1).map fun r=>(iv r,[])):=by
 refine zH c201 Tryz.f201 0 23 (fun q=>?_)
 unfold xR
 refine J_g 2 [] [(0,sv a1)] [] zB ?_
 refine vC (atI c201 13) (fun v3:Bool=>St.mk' [(0,sv a1),(11,bv v3)] []) (fun v3=>?_) (fun jv3=>?_)
 ·refine zD 11 (fun h4=>?_) (fun h4=>?_)
  ·refine J_g 52 [] [(2,iv 5)] [] zB ?_
   exact zT rfl
  ·refine J_g 28 [] [(0,sv a1),(3,iv 0)] [] zB ?_
   refine jL (K0:=(fun r:Int=>some (iv r,[]))) (fun _=>rfl) (wT.ok a1 q _ (fun v18=>J_j ?_) 0)
   refine J_g 30 [] [(2,iv 0)] [] zB ?_
   exact zT rfl
 ·refine wG (fun h2=>?_) (fun h2=>?_)
  ·refine J_g 12 [] [(0,sv a1),(11,bv true)] [] (xK 3 [(6,bv (decide ((a1.size:Int)<1)))] [] h2 zB) ?_
   exact xC (J_j (jv3 true)) rfl
  ·refine J_g 12 [] [(0,sv a1),(11,bv (decide ((a1.size:Int)>40)))] [] (xK 3 [(6,bv (decide ((a1.size:Int)<1)))] [] h2 zB) ?_
   exact xC (J_j (jv3 (decide ((a1.size:Int)>40)))) rfl
noncomputable def zLD:Code:=(Tryz.f202.body).getD .skip
theorem zAk.ok (a1:zI) (q:Wd) (kn:Int→Option (D×List Ent)) (hk:∀v:Int,J (q.g Tryz.prog 202 1 26) zLD (atI zLD 15) (St.mk' [(3,iv v)] [(0,.box (zI.enc false a1))]) (some v) kn):
  ∀s5:(Int×Int),J (q.g Tryz.prog 202 1 26) zLD (atI zLD 116) (St.mk' [(0,pp 0),(3,iv s5.1),(4,iv s5.2)] [(0,.box (zI.enc false a1))]) (zAk a1 s5) kn:=by
 refine zAU (fun g ih s5=>?_)
 unfold kW
 refine J_d 464 [] [11] [(11,bv (decide (s5.2< (a1.Files.length:Int))))] [] [] zB ?_
 refine zD 11 (fun h6=>?_) (fun h6=>?_)
 ·refine zA (fun x7 h8=>?_)
  refine J_g 932 [] [(0,pp 0),(3,iv (w64 (s5.1+(x7.Data.length:Int)))),(4,iv s5.2)] [(0,.box (zI.enc false a1))] (zG 6 (uE (kk:=.i64) 25 113 2 (File.enc false) (.tmp 18) (.tmp 19) h8) zB) ?_
  refine J_d 467 [] [4] [(4,iv (w64 (s5.2+1)))] [] [] zB ?_
  exact J_q (J_b (ih (w64 (s5.1+(x7.Data.length:Int)),w64 (s5.2+1)))) rfl
 ·exact xC (hk s5.1) rfl
theorem zAy.ok (a1:zI):Ok Tryz.prog 202 [pp 0] [.box (zI.enc false a1)] ((zAy a1).map fun r=>(iv r,[.box (zI.enc false a1)])):=by
 refine zH zLD Tryz.f202 1 26 (fun q=>?_)
 unfold zAy
 refine J_g 2 [] [(0,pp 0)] [(0,.box (zI.enc false a1))] zB ?_
 refine J_g 6 [] [(0,pp 0),(3,iv 0)] [(0,.box (zI.enc false a1))] zB ?_
 refine J_d 28 [] [4] [(4,iv 0)] [] [] zB ?_
 refine zDT (zAk.ok a1 q _ (fun v9=>J_j ?_) (0,0))
 refine J_d 30 [] [2,3] [(2,iv v9)] [] [] zB ?_
 exact zT rfl
noncomputable def zKK:Code:=(Tryz.f123.body).getD .skip
theorem wQ.ok (a1:zI) (q:Wd) (kn:Unit→Option (D×List Ent)) (hk:∀v:Unit,J (q.g Tryz.prog 123 0 72) zKK (atI zKK 31) (St.mk' [(1,pp 0)] [(0,.box (zI.enc false a1))]) (some v) kn):
  ∀s29:Int,J (q.g Tryz.prog 123 0 72) zKK (atI zKK 244) (St.mk' [(1,pp 0),(3,iv s29)] [(0,.box (zI.enc false a1))]) (wQ a1 s29) (Fl.go (fun r:Int=>some (iv r,[])) kn):=by
 refine zAU (fun g ih s29=>?_)
 unfold vG
 refine J_d 976 [] [29] [(29,bv (decide (s29< (a1.Files.length:Int))))] [] [] zB ?_
 refine zD 29 (fun h30=>?_) (fun h30=>?_)
 ·refine zA (fun x31 h32=>?_)
  refine zA (fun x33 h34=>?_)
  refine J_g 7824 [] [(1,pp 0),(3,iv s29),(4,iv x33)] [(0,.box (zI.enc false a1))] (zG 3 (uE (kk:=.i64) 25 113 2 (File.enc false) (.tmp 33) (.tmp 34) h32) (zG 6 (yT [(.tmp 37)] [9] (xR.ok x31.Path) h34) zB)) ?_
  refine J_d 15650 [] [40] [(40,bv (x33 !=0))] [] [] zB ?_
  refine zD 40 (fun h35=>?_) (fun h35=>?_)
  ·refine J_g 62604 [] [(2,iv x33)] [] zB ?_
   exact zT rfl
  ·refine vC (atI zKK 15653) (fun v41:Bool=>St.mk' [(1,pp 0),(3,iv s29),(59,bv v41)] [(0,.box (zI.enc false a1))]) (fun v41=>?_) (fun jv41=>?_)
   ·refine zD 59 (fun h42=>?_) (fun h42=>?_)
    ·refine J_g 62612 [] [(2,iv 1)] [] zB ?_
     exact zT rfl
    ·refine zA (fun x43 h44=>?_)
     refine J_d 15654 [] [59,67] [(67,bv (decide ((x43.Data.length:Int)>4000)))] [] [] (zG 3 (uE (kk:=.i64) 25 113 2 (File.enc false) (.tmp 61) (.tmp 62) h44) zB) ?_
     refine zD 67 (fun h45=>?_) (fun h45=>?_)
     ·refine J_g 62620 [] [(2,iv 2)] [] zB ?_
      exact zT rfl
     ·refine J_d 979 [] [3,67] [(3,iv (w64 (s29+1)))] [] [] zB ?_
      exact J_q (J_b (ih (w64 (s29+1)))) rfl
   ·refine wG (fun h36=>?_) (fun h36=>?_)
    ·refine zA (fun x37 h38=>?_)
     refine zA (fun x39 h40=>?_)
     refine J_d 15652 [] [4,40,59] [(59,bv (slt x37.Path x39.Path||seq x37.Path x39.Path))] [] [] (xK 2 [(43,bv (decide (s29>0)))] [] h36 (zBU 6 2 44 true (uE (kk:=.i64) 25 113 2 (File.enc false) (.tmp 46) (.tmp 47) h38) (zBU 13 2 44 true (uE (kk:=.i64) 25 113 2 (File.enc false) (.tmp 52) (.tmp 54) h40) zB))) ?_
     exact xC (J_j (jv41 (slt x37.Path x39.Path||seq x37.Path x39.Path))) rfl
    ·refine J_d 15652 [] [4,40,59] [(59,bv false)] [] [] (xK 2 [(43,bv (decide (s29>0)))] [] h36 zB) ?_
     exact xC (J_j (jv41 false)) rfl
 ·exact xC (hk ()) rfl
theorem xU.ok (a1:zI):Ok Tryz.prog 123 [.ag (zI.enc false a1)] [] ((xU a1).map fun r=>(iv r,[])):=by
 refine zH zKK Tryz.f123 0 72 (fun q=>?_)
 unfold xU
 refine J_g 2 [(0,0)] [(1,pp 0)] [(0,.box (zI.enc false a1))] zB ?_
 refine zA (fun x2 h3=>?_)
 refine vC (atI zKK 13) (fun v10:Bool=>St.mk' [(1,pp 0),(20,bv v10)] [(0,.box (zI.enc false a1))]) (fun v10=>?_) (fun jv10=>?_)
 ·refine zD 20 (fun h11=>?_) (fun h11=>?_)
  ·refine J_g 52 [] [(2,iv 3)] [] zB ?_
   exact zT rfl
  ·refine J_d 28 [] [20,24] [(24,bv (decide ((a1.Files.length:Int)>120)))] [] [] zB ?_
   refine zD 24 (fun h12=>?_) (fun h12=>?_)
   ·refine J_g 116 [] [(2,iv 2)] [] zB ?_
    exact zT rfl
   ·refine J_d 60 [] [3,24] [(3,iv 0)] [] [] zB ?_
    refine jL (K0:=(fun r:Int=>some (iv r,[]))) (fun _=>rfl) (wQ.ok a1 q _ (fun v46=>J_j ?_) 0)
    refine zA (fun x47 h48=>?_)
    refine J_g 124 [] [(71,bv (decide (x47>a1.Budget)))] [] (zG 0 (zFl [(0,.box (zI.enc false a1))] [] (zBI («as»:=[pp 0]) [(.tmp 1)] [103] false [(0,.box (zI.enc false a1))] [0] (.cons (.pt rfl) (.nil)) (zAy.ok a1) h48 (.same rfl rfl))) zB) ?_
    refine zD 71 (fun h49=>?_) (fun h49=>?_)
    ·refine J_g 500 [] [(2,iv 8)] [] zB ?_
     exact zT rfl
    ·refine J_g 126 [] [(2,iv 0)] [] zB ?_
     exact zT rfl
 ·refine wG (fun h4=>?_) (fun h4=>?_)
  ·refine J_d 12 [] [20] [(20,bv true)] [] [] (zG 2 (yT [(.tmp 6),(.const (.int .i64 0)),(.const (.int .i64 20000))] [2,2,2] (yN.ok a1.Budget 0 20000) h3) (xK 4 [(8,bv (!x2))] [] h4 zB)) ?_
   exact xC (J_j (jv10 true)) rfl
  ·refine zA (fun x5 h6=>?_)
   refine wG (fun h7=>?_) (fun h7=>?_)
   ·refine J_d 12 [] [20] [(20,bv true)] [] [] (zG 2 (yT [(.tmp 6),(.const (.int .i64 0)),(.const (.int .i64 20000))] [2,2,2] (yN.ok a1.Budget 0 20000) h3) (xK 4 [(8,bv (!x2))] [] h4 (zBU 7 4 9 false (yT [(.tmp 11),(.const (.int .i64 0)),(.const (.int .i64 1000000000))] [2,2,2] (yN.ok a1.Writes 0 1000000000) h6) (xK 10 [(14,bv (!x5))] [] h7 zB)))) ?_
    exact xC (J_j (jv10 true)) rfl
   ·refine zA (fun x8 h9=>?_)
    refine J_d 12 [] [20] [(20,bv (!x8))] [] [] (zG 2 (yT [(.tmp 6),(.const (.int .i64 0)),(.const (.int .i64 20000))] [2,2,2] (yN.ok a1.Budget 0 20000) h3) (xK 4 [(8,bv (!x2))] [] h4 (zBU 7 4 9 false (yT [(.tmp 11),(.const (.int .i64 0)),(.const (.int .i64 1000000000))] [2,2,2] (yN.ok a1.Writes 0 1000000000) h6) (xK 10 [(14,bv (!x5))] [] h7 (zBU 13 10 15 false (yT [(.tmp 17),(.const (.int .i64 (-1))),(.const (.int .i64 1000000000))] [2,2,2] (yN.ok a1.Stop (-1) 1000000000) h9) zB))))) ?_
    exact xC (J_j (jv10 (!x8))) rfl
noncomputable def c62:Code:=(Tryz.f62.body).getD .skip
theorem tL.ok (a1:(List Pack)) (a2:zI):Ok Tryz.prog 62 [sl 8 (Pack.enc false) a1,.ag (zI.enc false a2)] [] ((tL a1 a2).map fun r=>(iv r,[])):=by
 refine zH c62 Tryz.f62 0 13 (fun q=>?_)
 unfold tL
 refine J_d 2 [(0,0)] [1,3] [(3,pp 0)] [0] [(0,.box (zI.enc false a2))] zB ?_
 refine zA (fun x3 h4=>?_)
 refine J_g 12 [] [(3,pp 0),(5,iv x3)] [(0,.box (zI.enc false a2))] (zG 1 (yT [(.tmp 6)] [24] (wS.ok a1) h4) zB) ?_
 refine J_d 26 [] [9] [(9,bv (x3 !=0))] [] [] zB ?_
 refine zD 9 (fun h5=>?_) (fun h5=>?_)
 ·refine J_g 108 [] [(4,iv x3)] [] zB ?_
  exact zT rfl
 ·refine zA (fun x6 h7=>?_)
  refine J_g 14 [] [(4,iv x6)] [] (zG 1 (yT [(.tmp 11)] [27] (xU.ok a2) h7) zB) ?_
  exact zT rfl
noncomputable def c63:Code:=(Tryz.f63.body).getD .skip
theorem zBF.ok (a1:(List Pack)) (a2:(List Int)) (q:Wd) (kn:Unit→Option (D×List Ent)) (hk:∀v:Unit,J (q.g Tryz.prog 63 0 37) c63 (atI c63 7) (St.mk' [] []) (some v) kn):
  ∀s16:Int,J (q.g Tryz.prog 63 0 37) c63 (atI c63 52) (St.mk' [(0,sl 8 (Pack.enc false) a1),(1,sl 1 yE a2),(5,iv s16)] []) (zBF a1 a2 s16) (Fl.go (fun r:Bool=>some (bv r,[])) kn):=by
 refine zAU (fun g ih s16=>?_)
 unfold zBa
 refine J_d 208 [] [9] [(9,bv (decide (s16< (a2.length:Int))))] [] [] zB ?_
 refine zD 9 (fun h17=>?_) (fun h17=>?_)
 ·refine zA (fun x18 h19=>?_)
  refine zA (fun x20 h21=>?_)
  refine vC (atI c63 841) (fun v28:Bool=>St.mk' [(0,sl 8 (Pack.enc false) a1),(1,sl 1 yE a2),(5,iv s16),(36,bv v28)] []) (fun v28=>?_) (fun jv28=>?_)
  ·refine zD 36 (fun h29=>?_) (fun h29=>?_)
   ·refine J_g 3364 [] [(4,bv false)] [] zB ?_
    exact zT rfl
   ·refine J_d 211 [] [5,36] [(5,iv (w64 (s16+1)))] [] [] zB ?_
    exact J_q (J_b (ih (w64 (s16+1)))) rfl
  ·refine wG (fun h22=>?_) (fun h22=>?_)
   ·refine J_d 840 [] [9,36] [(36,bv true)] [] [] (zG 2 (uE (kk:=.i64) 42 2 1 yE (.tmp 12) (.tmp 13) h19) (zG 7 (yT [(.tmp 15),(.const (.int .i64 0)),(.tmp 18)] [2,2,2] (yN.ok x18 0 (w64 ((a1.length:Int)-1))) h21) (xK 9 [(20,bv (!x20))] [] h22 (zHM 12 (zHD (i:=12) (g:=9) (t:=21) (b:=false) (v:=(.bool true)) (.inl rfl) (by kernel_rfl) (by kernel_rfl)) (zHM 13 (zHD (i:=13) (g:=12) (t:=24) (b:=true) (v:=undef) (.inr rfl) (by kernel_rfl) (by kernel_rfl)) (zHM 14 (zHD (i:=14) (g:=12) (t:=24) (b:=true) (v:=undef) (.inr rfl) (by kernel_rfl) (by kernel_rfl)) (zHM 15 (zHD (i:=15) (g:=12) (t:=24) (b:=true) (v:=undef) (.inr rfl) (by kernel_rfl) (by kernel_rfl)) (zHM 16 (zHD (i:=16) (g:=12) (t:=24) (b:=true) (v:=undef) (.inr rfl) (by kernel_rfl) (by kernel_rfl)) (zHM 17 (zHD (i:=17) (g:=12) (t:=24) (b:=true) (v:=undef) (.inr rfl) (by kernel_rfl) (by kernel_rfl)) (zHM 18 (zHD (i:=18) (g:=12) (t:=24) (b:=true) (v:=undef) (.inr rfl) (by kernel_rfl) (by kernel_rfl)) (zHM 19 (zHD (i:=19) (g:=12) (t:=24) (b:=true) (v:=undef) (.inr rfl) (by kernel_rfl) (by kernel_rfl)) (zHM 20 (zHD (i:=20) (g:=12) (t:=24) (b:=true) (v:=undef) (.inr rfl) (by kernel_rfl) (by kernel_rfl)) (zHM 21 (zHD (i:=21) (g:=12) (t:=24) (b:=true) (v:=undef) (.inr rfl) (by kernel_rfl) (by kernel_rfl)) (zHM 22 (zHD (i:=22) (g:=12) (t:=24) (b:=true) (v:=undef) (.inr rfl) (by kernel_rfl) (by kernel_rfl)) zB)))))))))))))) ?_
    exact xC (J_j (jv28 true)) rfl
   ·refine wG (fun h23=>?_) (fun h23=>?_)
    ·refine zA (fun x24 h25=>?_)
     refine zA (fun x26 h27=>?_)
     refine J_d 840 [] [9,36] [(36,bv (decide (x24≤x26)))] [] [] (zG 2 (uE (kk:=.i64) 42 2 1 yE (.tmp 12) (.tmp 13) h19) (zG 7 (yT [(.tmp 15),(.const (.int .i64 0)),(.tmp 18)] [2,2,2] (yN.ok x18 0 (w64 ((a1.length:Int)-1))) h21) (xK 9 [(20,bv (!x20))] [] h22 (zGj 12 9 21 false [(23,bv (decide (s16>0)))] [] h23 (zBU 15 12 24 true (uE (kk:=.i64) 42 2 1 yE (.tmp 25) (.tmp 26) h25) (zBU 20 12 24 true (uE (kk:=.i64) 42 2 1 yE (.tmp 29) (.tmp 31) h27) zB)))))) ?_
     exact xC (J_j (jv28 (decide (x24≤x26)))) rfl
    ·refine J_d 840 [] [9,36] [(36,bv false)] [] [] (zG 2 (uE (kk:=.i64) 42 2 1 yE (.tmp 12) (.tmp 13) h19) (zG 7 (yT [(.tmp 15),(.const (.int .i64 0)),(.tmp 18)] [2,2,2] (yN.ok x18 0 (w64 ((a1.length:Int)-1))) h21) (xK 9 [(20,bv (!x20))] [] h22 (zGj 12 9 21 false [(23,bv (decide (s16>0)))] [] h23 zB)))) ?_
     exact xC (J_j (jv28 false)) rfl
 ·exact xC (hk ()) rfl
theorem zBL.ok (a1:(List Pack)) (a2:(List Int)):Ok Tryz.prog 63 [sl 8 (Pack.enc false) a1,sl 1 yE a2] [] ((zBL a1 a2).map fun r=>(bv r,[])):=by
 refine zH c63 Tryz.f63 0 37 (fun q=>?_)
 unfold zBL
 refine J_g 2 [] [(0,sl 8 (Pack.enc false) a1),(1,sl 1 yE a2)] [] zB ?_
 refine J_d 12 [] [5] [(5,iv 0)] [] [] zB ?_
 refine jL (K0:=(fun r:Bool=>some (bv r,[]))) (fun _=>rfl) (zBF.ok a1 a2 q _ (fun v30=>J_j ?_) 0)
 refine J_g 14 [] [(4,bv true)] [] zB ?_
 exact zT rfl
noncomputable def zNs:Code:=(Tryz.f142.body).getD .skip
theorem vN.ok (a1:ByteArray) (a2:ByteArray):Ok Tryz.prog 142 [sv a1,sv a2] [] ((vN a1 a2).map fun r=>(bv r,[])):=by
 refine zH zNs Tryz.f142 0 18 (fun q=>?_)
 unfold vN
 refine J_d 2 [] [] [] [] [] zB ?_
 refine wG (fun h3=>?_) (fun h3=>?_)
 ·refine zA (fun x4 h5=>?_)
  refine J_g 6 [] [(4,bv (seq x4 a2))] [] (xK 5 [(9,bv (decide ((a1.size:Int)≥(a2.size:Int))))] [] h3 (zBU 9 5 10 true (zL4 9 (.tmp 11) none (some (.tmp 13)) h5) zB)) ?_
  exact zT rfl
 ·refine J_g 6 [] [(4,bv false)] [] (xK 5 [(9,bv (decide ((a1.size:Int)≥(a2.size:Int))))] [] h3 zB) ?_
  exact zT rfl
noncomputable def c171:Code:=(Tryz.f171.body).getD .skip
theorem uF.ok (a1:zI) (a2:ByteArray) (q:Wd) (kn:(List ByteArray)→Option (D×List Ent)) (hk:∀v:(List ByteArray),J (q.g Tryz.prog 171 1 39) c171 (atI c171 15) (St.mk' [(5,rr 1 v)] [(0,.box (zI.enc false a1)),(1,rE 1 eStr v)]) (some v) kn):
  ∀s14:((List ByteArray)×Int),J (q.g Tryz.prog 171 1 39) c171 (atI c171 116) (St.mk' [(0,pp 0),(1,sv a2),(5,rr 1 s14.1),(6,iv s14.2)] [(0,.box (zI.enc false a1)),(1,rE 1 eStr s14.1)]) (uF a1 a2 s14) kn:=by
 refine zAU (fun g ih s14=>?_)
 unfold uR
 refine J_d 464 [] [14] [(14,bv (decide (s14.2< (a1.Files.length:Int))))] [] [] zB ?_
 refine zD 14 (fun h15=>?_) (fun h15=>?_)
 ·refine zA (fun x16 h17=>?_)
  refine zA (fun x18 h19=>?_)
  refine J_d 1864 [] [14,26] [(26,bv x18)] [] [] (zG 5 (uE (kk:=.i64) 25 113 2 (File.enc false) (.tmp 20) (.tmp 21) h17) (zG 9 (yT [(.tmp 24),(.tmp 25)] [9,9] (vN.ok x16.Path a2) h19) zB)) ?_
  refine vC (aft c171 932) (fun v25:(List ByteArray)=>St.mk' [(0,pp 0),(1,sv a2),(5,rr 3 v25),(6,iv s14.2)] [(0,.box (zI.enc false a1)),(3,rE 1 eStr v25)]) (fun v25=>?_) (fun jv25=>?_)
  ·refine J_d 467 [] [6] [(6,iv (w64 (s14.2+1)))] [] [] zB ?_
   refine zDB 3 1 (Nat.le_of_ble_eq_true rfl) (Nat.le_of_ble_eq_true rfl) ?_
   exact J_q (J_b (ih (v25,w64 (s14.2+1)))) rfl
  ·refine zD 26 (fun h20=>?_) (fun h20=>?_)
   ·refine zA (fun x21 h22=>?_)
    refine zA (fun x23 h24=>?_)
    refine J_d 3730 [] [5,26] [(5,rr 3 x23)] [1,3] [(3,rE 1 eStr x23)] (zG 6 (uE (kk:=.i64) 25 113 2 (File.enc false) (.tmp 31) (.tmp 32) h22) (zG 9 (zDZ 70 9 1 2 eStr [x21.Path] [0] [(.tmp 35)] [sv x21.Path]) (zG 10 (zJY 70 70 9 9 1 16 3 1 2 eStr (.tmp 27) (.tmp 36) h24) zB))) ?_
    exact xC (J_j (jv25 x23)) rfl
   ·refine zDB 1 3 (Nat.le_of_ble_eq_true rfl) (Nat.le_of_ble_eq_true rfl) ?_
    exact xC (J_j (jv25 s14.1)) rfl
 ·exact xC (hk s14.1) rfl
theorem tN.ok (a1:zI) (a2:ByteArray):Ok Tryz.prog 171 [pp 0,sv a2] [.box (zI.enc false a1)] ((tN a1 a2).map fun r=>(so 1 eStr r,[.box (zI.enc false a1)])):=by
 refine zH c171 Tryz.f171 1 39 (fun q=>?_)
 unfold tN
 refine J_g 2 [] [(0,pp 0),(1,sv a2)] [(0,.box (zI.enc false a1))] zB ?_
 refine J_g 6 [] [(0,pp 0),(1,sv a2),(5,rr 1 ([]:List ByteArray))] [(0,.box (zI.enc false a1)),(1,rE 1 eStr ([]:List ByteArray))] (zG 0 (zDZ 70 9 1 1 eStr ([]:List ByteArray) [] [] []) zB) ?_
 refine J_d 28 [] [6] [(6,iv 0)] [] [] zB ?_
 refine zDT (uF.ok a1 a2 q _ (fun v26=>J_j ?_) (([]:List ByteArray),0))
 refine J_g 30 [] [(4,rr 1 v26)] [(0,.box (zI.enc false a1)),(1,rE 1 eStr v26)] zB ?_
 exact zDJ (ds:=[rr 1 v26]) (ds':=[so 1 eStr v26]) (.cons (.cell (.move (.tail _ (.head _)) (List.length_map _) (by decide) (.nil))) (.nil) (by decide)) rfl
noncomputable def c203:Code:=(Tryz.f203.body).getD .skip
theorem kY.ok (a1:ByteArray) (q:Wd) (kn:Int→Option (D×List Ent)) (hk:∀v:Int,J (q.g Tryz.prog 203 0 37) c203 (atI c203 31) (St.mk' [(6,iv v)] []) (some v) kn):
  ∀s14:(Int×Int),J (q.g Tryz.prog 203 0 37) c203 (atI c203 244) (St.mk' [(0,sv a1),(6,iv s14.1),(7,iv s14.2)] []) (kY a1 s14) (Fl.go (fun r:(Int×Bool)=>some (.tu [iv r.1,bv r.2],[])) kn):=by
 refine zAU (fun g ih s14=>?_)
 unfold jU
 refine J_d 976 [] [20] [(20,bv (decide (s14.2< (a1.size:Int))))] [] [] zB ?_
 refine zD 20 (fun h15=>?_) (fun h15=>?_)
 ·refine zA (fun x16 h17=>?_)
  refine zA (fun x18 h19=>?_)
  refine J_d 7824 [] [20,27] [(27,bv (!x18))] [] [] (zG 2 (zGE (kk:=.i64) 9 (.tmp 23) (.tmp 24) h17) (zG 3 (yT [(.tmp 25)] [5] (xY.ok x16) h19) zB)) ?_
  refine zD 27 (fun h20=>?_) (fun h20=>?_)
  ·refine J_g 31300 [] [(4,iv 0),(5,bv false)] [] zB ?_
   exact zKs rfl
  ·refine zA (fun x21 h22=>?_)
   refine J_g 3913 [] [(0,sv a1),(6,iv (w64 ((w64 (s14.1*10))+(w64 (IntKind.u8.wrap (x21-48)))))),(7,iv s14.2)] [] (zG 4 (zGE (kk:=.i64) 9 (.tmp 30) (.tmp 31) h22) zB) ?_
   refine J_d 979 [] [7] [(7,iv (w64 (s14.2+1)))] [] [] zB ?_
   exact J_q (J_b (ih (w64 ((w64 (s14.1*10))+(w64 (IntKind.u8.wrap (x21-48)))),w64 (s14.2+1)))) rfl
 ·exact xC (hk s14.1) rfl
theorem jY.ok (a1:ByteArray) (a2:Int):Ok Tryz.prog 203 [sv a1,iv a2] [] ((jY a1 a2).map fun r=>(.tu [iv r.1,bv r.2],[])):=by
 refine zH c203 Tryz.f203 0 37 (fun q=>?_)
 unfold jY
 refine J_d 2 [] [] [] [] [] zB ?_
 refine vC (atI c203 13) (fun v4:Bool=>St.mk' [(0,sv a1),(16,bv v4)] []) (fun v4=>?_) (fun jv4=>?_)
 ·refine zD 16 (fun h5=>?_) (fun h5=>?_)
  ·refine J_g 52 [] [(4,iv 0),(5,bv false)] [] zB ?_
   exact zKs rfl
  ·refine J_g 14 [] [(0,sv a1),(6,iv 0)] [] zB ?_
   refine J_d 60 [] [7] [(7,iv 0)] [] [] zB ?_
   refine jL (K0:=(fun r:(Int×Bool)=>some (.tu [iv r.1,bv r.2],[]))) (fun _=>rfl) (kY.ok a1 q _ (fun v23=>J_j ?_) (0,0))
   refine J_g 62 [] [(4,iv v23),(5,bv true)] [] zB ?_
   exact zKs rfl
 ·refine wG (fun h3=>?_) (fun h3=>?_)
  ·refine J_g 12 [] [(0,sv a1),(16,bv true)] [] (xK 3 [(10,bv (decide ((a1.size:Int)<1)))] [] h3 zB) ?_
   exact xC (J_j (jv4 true)) rfl
  ·refine J_g 12 [] [(0,sv a1),(16,bv (decide ((a1.size:Int)>a2)))] [] (xK 3 [(10,bv (decide ((a1.size:Int)<1)))] [] h3 zB) ?_
   exact xC (J_j (jv4 (decide ((a1.size:Int)>a2)))) rfl
noncomputable def zNg:Code:=(Tryz.f128.body).getD .skip
theorem yQ.ok (a1:Int):Ok Tryz.prog 128 [iv a1] [] ((yQ a1).map fun r=>(sv r,[])):=by
 have key:∀(n:Nat) (a1:Int),Ok Tryz.prog 128 [iv a1] [] ((zLc wM n a1).map fun r=>(sv r,[])):=by
  intro n
  induction n with
  |zero=>intro a1; exact zKR
  |succ n ih=>
   intro a1
   refine zH zNg Tryz.f128 0 20 (fun q=>?_)
   unfold zLc wM
   refine J_g 2 [] [(0,iv a1)] [] zB ?_
   refine J_g 12 [] [(0,iv a1),(4,bv (decide (a1<10)))] [] zB ?_
   refine zD 4 (fun h2=>?_) (fun h2=>?_)
   ·refine J_g 52 [] [(2,sv (b2s [IntKind.u8.wrap (w64 (48+a1))]))] [] (zG 3 (zDZ 111 5 1 0 eU8 [IntKind.u8.wrap (w64 (48+a1))] [0] [(.tmp 7)] [uv (IntKind.u8.wrap (w64 (48+a1)))]) (zG 4 (zK0 (xs:=[IntKind.u8.wrap (w64 (48+a1))]) 111 9 5 0 (.tmp 8)) zB)) ?_
    exact zT rfl
   ·refine zA (fun x3 h4=>?_)
    refine zA (fun x5 h6=>?_)
    refine J_g 14 [] [(2,sv x5)] [] (zG 2 (yT [(.tmp 11)] [2] (ih (w64 (a1.tdiv 10))) h4) (zG 7 (zDZ 111 5 1 0 eU8 [IntKind.u8.wrap (w64 (48+(a1.tmod 10)))] [0] [(.tmp 16)] [uv (IntKind.u8.wrap (w64 (48+(a1.tmod 10))))]) (zG 8 (zK0 (xs:=[IntKind.u8.wrap (w64 (48+(a1.tmod 10)))]) 111 9 5 0 (.tmp 17)) (zG 9 (zBZ 9 9 (.tmp 12) (.tmp 18) h6) zB)))) ?_
    exact zT rfl
 exact key 64 a1
noncomputable def zN3:Code:=(Tryz.f106.body).getD .skip
theorem zAF.ok (a1:Int):Ok Tryz.prog 106 [iv a1] [] ((zAF a1).map fun r=>(sv r,[])):=by
 refine zH zN3 Tryz.f106 0 11 (fun q=>?_)
 unfold zAF
 refine J_g 2 [] [(0,iv a1)] [] zB ?_
 refine zA (fun x2 h3=>?_)
 refine J_g 12 [] [(0,iv a1),(5,bv (!x2))] [] (zG 1 (yT [(.tmp 3),(.const (.int .i64 1)),(.const (.int .i64 999999))] [2,2,2] (yN.ok a1 1 999999) h3) zB) ?_
 refine zD 5 (fun h4=>?_) (fun h4=>?_)
 ·refine J_g 52 [] [(2,sv (bs []))] [] zB ?_
  exact zT rfl
 ·refine zA (fun x5 h6=>?_)
  refine zA (fun x7 h8=>?_)
  refine zA (fun x9 h10=>?_)
  refine J_g 14 [] [(2,sv x9)] [] (zG 2 (yT [(.tmp 7)] [2] (yQ.ok (w64 (1000000+a1))) h6) (zG 3 (zL4 9 (.tmp 8) (some (.const (.int .i64 1))) none h8) (zG 4 (zBZ 9 9 (.const (.string (bs [103,101,110,47]))) (.tmp 9) h10) zB))) ?_
  exact zT rfl
noncomputable def zKY:Code:=(Tryz.f125.body).getD .skip
theorem zAW.ok (a1:zI) (x2:(List ByteArray)) (q:Wd) (kn:(List Int)→Option (D×List Ent)) (hk:∀v:(List Int),J (q.g Tryz.prog 125 1 41) zKY (atI zKY 31) (St.mk' [(3,rr 1 v)] [(0,.box (zI.enc false a1)),(1,rE 1 yE v)]) (some v) kn):
  ∀s21:((List Int)×Int),J (q.g Tryz.prog 125 1 41) zKY (atI zKY 244) (St.mk' [(3,rr 1 s21.1),(4,rr 2 x2),(5,iv s21.2)] [(0,.box (zI.enc false a1)),(1,rE 1 yE s21.1),(2,rE 1 eStr x2)]) (zAW a1 x2 s21) kn:=by
 refine zAU (fun g ih s21=>?_)
 unfold zAf
 refine J_d 976 [] [14] [(14,bv (decide (s21.2< (x2.length:Int))))] [] [] zB ?_
 refine zD 14 (fun h22=>?_) (fun h22=>?_)
 ·refine zA (fun x23 h24=>?_)
  refine zA (fun x25 h26=>?_)
  refine zA (fun x27 h28=>?_)
  refine J_d 3912 [] [6,7,14] [(6,iv x27.1),(7,bv x27.2)] [] [] (zG 2 (zC5 (kk:=.i64) 70 9 1 2 eStr (.tmp 18) (.tmp 19) h24) (zG 3 (zEh (d:=sv x23) 9 1 2 0 eStr (.tmp 20) h24 (by kernel_rfl)) (zG 4 (zL4 9 (.tmp 21) (some (.const (.int .i64 4))) none h26) (zG 5 (yT [(.tmp 22),(.const (.int .i64 6))] [9,3] (jY.ok x25 6) h28) zB)))) ?_
  refine vC (atI zKY 7827) (fun v34:Bool=>St.mk' [(3,rr 1 s21.1),(4,rr 2 x2),(5,iv s21.2),(6,iv x27.1),(35,bv v34)] [(0,.box (zI.enc false a1)),(1,rE 1 yE s21.1),(2,rE 1 eStr x2)]) (fun v34=>?_) (fun jv34=>?_)
  ·refine vC (aft zKY 1956) (fun v38:(List Int)=>St.mk' [(3,rr 4 v38),(4,rr 2 x2),(5,iv s21.2)] [(0,.box (zI.enc false a1)),(2,rE 1 eStr x2),(4,rE 1 yE v38)]) (fun v38=>?_) (fun jv38=>?_)
   ·refine J_d 979 [] [5] [(5,iv (w64 (s21.2+1)))] [] [] zB ?_
    refine zDB 4 1 (Nat.le_of_ble_eq_true rfl) (Nat.le_of_ble_eq_true rfl) ?_
    exact J_q (J_b (ih (v38,w64 (s21.2+1)))) rfl
   ·refine zD 35 (fun h35=>?_) (fun h35=>?_)
    ·refine zA (fun x36 h37=>?_)
     refine J_d 15654 [] [3,6,35] [(3,rr 4 x36)] [1,4] [(4,rE 1 yE x36)] (zG 2 (zDZ 42 2 1 3 yE [x27.1] [0] [(.tmp 37)] [iv x27.1]) (zG 3 (zJY 42 42 2 2 1 8 4 1 3 yE (.tmp 36) (.tmp 38) h37) zB)) ?_
     exact xC (J_j (jv38 x36)) rfl
    ·refine zDB 1 4 (Nat.le_of_ble_eq_true rfl) (Nat.le_of_ble_eq_true rfl) ?_
     exact xC (J_j (jv38 s21.1)) rfl
  ·refine wG (fun h29=>?_) (fun h29=>?_)
   ·refine zA (fun x30 h31=>?_)
    refine zA (fun x32 h33=>?_)
    refine J_d 7826 [] [7,35] [(35,bv (seq x30 x32))] [] [] (xK 1 [(26,bv x27.2)] [] h29 (zBU 3 1 27 true (yT [(.tmp 28)] [2] (zAF.ok x27.1) h31) (zBU 6 1 27 true (zC5 (kk:=.i64) 70 9 1 2 eStr (.tmp 30) (.tmp 31) h33) (zBU 7 1 27 true (zEh (d:=sv x32) 9 1 2 0 eStr (.tmp 32) h33 (by kernel_rfl)) zB)))) ?_
    exact xC (J_j (jv34 (seq x30 x32))) rfl
   ·refine J_d 7826 [] [7,35] [(35,bv false)] [] [] (xK 1 [(26,bv x27.2)] [] h29 zB) ?_
    exact xC (J_j (jv34 false)) rfl
 ·exact xC (hk s21.1) rfl
theorem zBv.ok (a1:zI):Ok Tryz.prog 125 [pp 0] [.box (zI.enc false a1)] ((zBv a1).map fun r=>(so 1 yE r,[.box (zI.enc false a1)])):=by
 refine zH zKY Tryz.f125 1 41 (fun q=>?_)
 unfold zBv
 refine J_g 2 [] [(0,pp 0)] [(0,.box (zI.enc false a1))] zB ?_
 refine J_d 6 [] [3] [(3,rr 1 ([]:List Int))] [1] [(1,rE 1 yE ([]:List Int))] (zG 0 (zDZ 42 2 1 1 yE ([]:List Int) [] [] []) zB) ?_
 refine zA (fun x2 h3=>?_)
 refine J_g 14 [] [(3,rr 1 ([]:List Int)),(4,rr 2 x2)] [(0,.box (zI.enc false a1)),(1,rE 1 yE ([]:List Int)),(2,rE 1 eStr x2)] (zG 1 (zFl [(0,.box (zI.enc false a1))] [(2,rE 1 eStr x2)] (zBI («as»:=[pp 0,sv (bs [103,101,110,47])]) [(.tmp 9),(.const (.string (bs [103,101,110,47])))] [103,9] false [(0,.box (zI.enc false a1))] [0] (.cons (.pt rfl) (.cons (.same rfl) (.nil))) (tN.ok a1 (bs [103,101,110,47])) h3 (.own 2))) zB) ?_
 refine J_d 60 [] [5] [(5,iv 0)] [] [] zB ?_
 refine zDT (zAW.ok a1 x2 q _ (fun v39=>J_j ?_) (([]:List Int),0))
 refine J_g 62 [] [(2,rr 1 v39)] [(0,.box (zI.enc false a1)),(1,rE 1 yE v39)] zB ?_
 exact zDJ (ds:=[rr 1 v39]) (ds':=[so 1 yE v39]) (.cons (.cell (.move (.tail _ (.head _)) (List.length_map _) (by decide) (.nil))) (.nil) (by decide)) rfl
noncomputable def c64:Code:=(Tryz.f64.body).getD .skip
theorem kC.ok (a1:zI):Ok Tryz.prog 64 [pp 0] [.box (zI.enc false a1)] ((kC a1).map fun r=>(iv r,[.box (zI.enc false a1)])):=by
 refine zH c64 Tryz.f64 1 16 (fun q=>?_)
 unfold kC
 refine J_d 2 [] [] [] [] [] zB ?_
 refine zA (fun x2 h3=>?_)
 refine J_g 6 [] [(3,rr 1 x2)] [(0,.box (zI.enc false a1)),(1,rE 1 yE x2)] (zG 1 (zFl [(0,.box (zI.enc false a1))] [(1,rE 1 yE x2)] (zBI («as»:=[pp 0]) [(.tmp 4)] [103] false [(0,.box (zI.enc false a1))] [0] (.cons (.pt rfl) (.nil)) (zBv.ok a1) h3 (.own 1))) zB) ?_
 refine J_d 28 [] [8] [(8,bv ((x2.length:Int)==0))] [] [] zB ?_
 refine zD 8 (fun h4=>?_) (fun h4=>?_)
 ·refine J_d 116 [] [2,3,8] [(2,iv 1)] [1] [] zB ?_
  exact zT rfl
 ·refine zA (fun x5 h6=>?_)
  refine J_d 30 [] [2,3,8] [(2,iv (w64 (x5+1)))] [1] [] (zG 4 (zC5 (kk:=.i64) 42 2 1 1 yE (.tmp 9) (.tmp 12) h6) (zG 5 (zEh (d:=iv x5) 2 1 1 0 yE (.tmp 13) h6 (by kernel_rfl)) zB)) ?_
  exact zT rfl
noncomputable def zMW:Code:=(Tryz.f205.body).getD .skip
theorem xD.ok (a1:Version):Ok Tryz.prog 205 [.ag (Version.enc a1)] [] ((xD a1).map fun r=>(sv r,[])):=by
 refine zH zMW Tryz.f205 0 19 (fun q=>?_)
 unfold xD
 refine J_g 2 [(0,0)] [(1,pp 0)] [(0,.box (Version.enc a1))] zB ?_
 refine zA (fun x2 h3=>?_)
 refine J_d 12 [] [5] [(5,bv (x2 !=0))] [] [] (zG 1 (yT [(.tmp 3)] [86] (yO.ok a1) h3) zB) ?_
 refine zD 5 (fun h4=>?_) (fun h4=>?_)
 ·refine J_g 52 [] [(2,sv (bs []))] [] zB ?_
  exact zT rfl
 ·refine zA (fun x5 h6=>?_)
  refine zA (fun x7 h8=>?_)
  refine zA (fun x9 h10=>?_)
  refine zA (fun x11 h12=>?_)
  refine zA (fun x13 h14=>?_)
  refine zA (fun x15 h16=>?_)
  refine zA (fun x17 h18=>?_)
  refine J_g 14 [] [(2,sv x17)] [] (zG 2 (yT [(.tmp 7)] [2] (yQ.ok a1.A) h6) (zG 3 (zBZ 9 9 (.tmp 8) (.const (.string (bs [46]))) h8) (zG 6 (yT [(.tmp 11)] [2] (yQ.ok a1.B) h10) (zG 7 (zBZ 9 9 (.tmp 9) (.tmp 12) h12) (zG 8 (zBZ 9 9 (.tmp 13) (.const (.string (bs [46]))) h14) (zG 11 (yT [(.tmp 16)] [2] (yQ.ok a1.C) h16) (zG 12 (zBZ 9 9 (.tmp 14) (.tmp 17) h18) zB))))))) ?_
  exact zT rfl
noncomputable def zMV:Code:=(Tryz.f129.body).getD .skip
theorem kI.ok (a1:Pack):Ok Tryz.prog 129 [.ag (Pack.enc false a1)] [] ((kI a1).map fun r=>(sv r,[])):=by
 refine zH zMV Tryz.f129 0 11 (fun q=>?_)
 unfold kI
 refine J_g 2 [(0,0)] [(1,pp 0)] [(0,.box (Pack.enc false a1))] zB ?_
 refine zA (fun x2 h3=>?_)
 refine zA (fun x4 h5=>?_)
 refine zA (fun x6 h7=>?_)
 refine zA (fun x8 h9=>?_)
 refine J_g 6 [] [(2,sv x8)] [] (zG 2 (zBZ 9 9 (.const (.string (bs [112,107,103,47]))) (.tmp 4) h3) (zG 3 (zBZ 9 9 (.tmp 5) (.const (.string (bs [45]))) h5) (zG 6 (yT [(.tmp 8)] [86] (xD.ok a1.Version) h7) (zG 7 (zBZ 9 9 (.tmp 6) (.tmp 9) h9) zB)))) ?_
 exact zT rfl
noncomputable def c93:Code:=(Tryz.f93.body).getD .skip
theorem zBb.ok (a1:zI) (a2:ByteArray) (q:Wd) (kn:Unit→Option (D×List Ent)) (hk:∀v:Unit,J (q.g Tryz.prog 93 1 26) c93 (atI c93 7) (St.mk' [] [(0,.box (zI.enc false a1))]) (some v) kn):
  ∀s7:Int,J (q.g Tryz.prog 93 1 26) c93 (atI c93 52) (St.mk' [(0,pp 0),(1,sv a2),(5,iv s7)] [(0,.box (zI.enc false a1))]) (zBb a1 a2 s7) (Fl.go (fun r:Int=>some (iv r,[.box (zI.enc false a1)])) kn):=by
 refine zAU (fun g ih s7=>?_)
 unfold zAu
 refine J_d 208 [] [12] [(12,bv (decide (s7< (a1.Files.length:Int))))] [] [] zB ?_
 refine zD 12 (fun h8=>?_) (fun h8=>?_)
 ·refine zA (fun x9 h10=>?_)
  refine J_d 840 [] [12,24] [(24,bv (seq x9.Path a2))] [] [] (zG 5 (uE (kk:=.i64) 25 113 2 (File.enc false) (.tmp 18) (.tmp 19) h10) zB) ?_
  refine zD 24 (fun h11=>?_) (fun h11=>?_)
  ·refine J_g 3364 [] [(4,iv s7)] [(0,.box (zI.enc false a1))] zB ?_
   exact zT rfl
  ·refine J_d 211 [] [5,24] [(5,iv (w64 (s7+1)))] [] [] zB ?_
   exact J_q (J_b (ih (w64 (s7+1)))) rfl
 ·exact xC (hk ()) rfl
theorem yX.ok (a1:zI) (a2:ByteArray):Ok Tryz.prog 93 [pp 0,sv a2] [.box (zI.enc false a1)] ((yX a1 a2).map fun r=>(iv r,[.box (zI.enc false a1)])):=by
 refine zH c93 Tryz.f93 1 26 (fun q=>?_)
 unfold yX
 refine J_g 2 [] [(0,pp 0),(1,sv a2)] [(0,.box (zI.enc false a1))] zB ?_
 refine J_d 12 [] [5] [(5,iv 0)] [] [] zB ?_
 refine jL (K0:=(fun r:Int=>some (iv r,[.box (zI.enc false a1)]))) (fun _=>rfl) (zBb.ok a1 a2 q _ (fun v12=>J_j ?_) 0)
 refine J_d 14 [] [4] [(4,iv (-1))] [] [] zB ?_
 exact zT rfl
noncomputable def zJN:Code:=(Tryz.f158.body).getD .skip
theorem zAp.ok (a1:Pack) (q:Wd) (kn:(List Int)→Option (D×List Ent)) (hk:∀v:(List Int),J (q.g Tryz.prog 158 0 50) zJN (atI zJN 63) (St.mk' [(5,rr 1 v)] [(1,rE 1 eU8 v)]) (some v) kn):
  ∀s13:(Int×(List Int)×Int),J (q.g Tryz.prog 158 0 50) zJN (atI zJN 500) (St.mk' [(1,pp 0),(3,iv s13.1),(5,rr 1 s13.2.1),(6,iv s13.2.2)] [(0,.box (Pack.enc false a1)),(1,rE 1 eU8 s13.2.1)]) (zAp a1 s13) kn:=by
 refine zAU (fun g ih s13=>?_)
 unfold kX
 refine J_d 2000 [] [36] [(36,bv (decide (s13.2.2<a1.Size)))] [] [] zB ?_
 refine zD 36 (fun h14=>?_) (fun h14=>?_)
 ·refine J_d 8008 [] [3,36] [(3,iv (s13.1.tmod 256))] [] [] zB ?_
  refine zA (fun x15 h16=>?_)
  refine J_g 16018 [] [(1,pp 0),(3,iv (s13.1.tmod 256)),(5,rr 3 x15),(6,iv s13.2.2)] [(0,.box (Pack.enc false a1)),(3,rE 1 eU8 x15)] (zG 3 (zDZ 111 5 1 2 eU8 [IntKind.u8.wrap (s13.1.tmod 256)] [0] [(.tmp 43)] [uv (IntKind.u8.wrap (s13.1.tmod 256))]) (zG 4 (zJY 111 111 5 5 1 1 3 1 2 eU8 (.tmp 41) (.tmp 44) h16) zB)) ?_
  refine J_g 16019 [] [(1,pp 0),(3,iv (w64 ((w64 (31*(s13.1.tmod 256)))+7))),(5,rr 3 x15),(6,iv s13.2.2)] [(0,.box (Pack.enc false a1)),(3,rE 1 eU8 x15)] zB ?_
  refine J_d 2003 [] [6] [(6,iv (w64 (s13.2.2+1)))] [] [] zB ?_
  refine zDB 3 1 (Nat.le_of_ble_eq_true rfl) (Nat.le_of_ble_eq_true rfl) ?_
  exact J_q (J_b (ih (w64 ((w64 (31*(s13.1.tmod 256)))+7),x15,w64 (s13.2.2+1)))) rfl
 ·exact xC (hk s13.2.1) rfl
theorem zAM.ok (a1:Pack) (q:Wd) (kn:Int→Option (D×List Ent)) (hk:∀v:Int,J (q.g Tryz.prog 158 0 50) zJN (atI zJN 15) (St.mk' [(1,pp 0),(3,iv v)] [(0,.box (Pack.enc false a1))]) (some v) kn):
  ∀s5:(Int×Int),J (q.g Tryz.prog 158 0 50) zJN (atI zJN 116) (St.mk' [(1,pp 0),(3,iv s5.1),(4,iv s5.2)] [(0,.box (Pack.enc false a1))]) (zAM a1 s5) kn:=by
 refine zAU (fun g ih s5=>?_)
 unfold kQ
 refine J_d 464 [] [22] [(22,bv (decide (s5.2< (a1.Name.size:Int))))] [] [] zB ?_
 refine zD 22 (fun h6=>?_) (fun h6=>?_)
 ·refine zA (fun x7 h8=>?_)
  refine J_g 932 [] [(1,pp 0),(3,iv (w64 (s5.1+(w64 (x7))))),(4,iv s5.2)] [(0,.box (Pack.enc false a1))] (zG 4 (zGE (kk:=.i64) 9 (.tmp 27) (.tmp 28) h8) zB) ?_
  refine J_d 467 [] [4] [(4,iv (w64 (s5.2+1)))] [] [] zB ?_
  exact J_q (J_b (ih (w64 (s5.1+(w64 (x7))),w64 (s5.2+1)))) rfl
 ·exact xC (hk s5.1) rfl
theorem zAG.ok (a1:Pack):Ok Tryz.prog 158 [.ag (Pack.enc false a1)] [] ((zAG a1).map fun r=>(so 1 eU8 r,[])):=by
 refine zH zJN Tryz.f158 0 50 (fun q=>?_)
 unfold zAG
 refine J_g 2 [(0,0)] [(1,pp 0)] [(0,.box (Pack.enc false a1))] zB ?_
 refine J_g 6 [] [(1,pp 0),(3,iv (w64 ((w64 (a1.Version.A+a1.Version.B))+a1.Version.C)))] [(0,.box (Pack.enc false a1))] zB ?_
 refine J_d 28 [] [4] [(4,iv 0)] [] [] zB ?_
 refine zDT (zAM.ok a1 q _ (fun v9=>J_j ?_) (w64 ((w64 (a1.Version.A+a1.Version.B))+a1.Version.C),0))
 refine J_g 30 [] [(1,pp 0),(3,iv v9),(5,rr 1 ([]:List Int))] [(0,.box (Pack.enc false a1)),(1,rE 1 eU8 ([]:List Int))] (zG 0 (zDZ 111 5 1 1 eU8 ([]:List Int) [] [] []) zB) ?_
 refine J_d 124 [] [6] [(6,iv 0)] [] [] zB ?_
 refine zDT (zAp.ok a1 q _ (fun v17=>J_j ?_) (v9,([]:List Int),0))
 refine J_g 126 [] [(2,rr 1 v17)] [(1,rE 1 eU8 v17)] zB ?_
 exact zDJ (ds:=[rr 1 v17]) (ds':=[so 1 eU8 v17]) (.cons (.cell (.move (.head _) (List.length_map _) (by decide) (.nil))) (.nil) (by decide)) rfl
noncomputable def zNm:Code:=(Tryz.f204.body).getD .skip
theorem zBK.ok (a1:(List Int)) (a2:(List Int)):Ok Tryz.prog 204 [sl 1 eU8 a1,sl 1 eU8 a2] [] ((zBK a1 a2).map fun r=>(bv r,[])):=by
 refine zH zNm Tryz.f204 0 10 (fun q=>?_)
 unfold zBK
 refine J_g 2 [] [(0,sl 1 eU8 a1),(1,sl 1 eU8 a2)] [] zB ?_
 refine J_g 6 [] [(4,bv (seq (b2s a1) (b2s a2)))] [] (zG 1 (zLJ (xs:=a1) 111 9 5 (.tmp 5)) (zG 3 (zLJ (xs:=a2) 111 9 5 (.tmp 7)) zB)) ?_
 exact zT rfl
noncomputable def zLf:Code:=(Tryz.f126.body).getD .skip
theorem jW.ok (a1:(List Pack)) (a2:zI) (a3:(List Int)) (q:Wd) (kn:(List Int)→Option (D×List Ent)) (hk:∀v:(List Int),J (q.g Tryz.prog 126 1 57) zLf (atI zLf 15) (St.mk' [(7,rr 1 v)] [(0,.box (zI.enc false a2)),(1,rE 1 yE v)]) (some v) kn):
  ∀s31:((List Int)×Int),J (q.g Tryz.prog 126 1 57) zLf (atI zLf 116) (St.mk' [(0,sl 8 (Pack.enc false) a1),(1,pp 0),(2,sl 1 yE a3),(7,rr 1 s31.1),(8,iv s31.2)] [(0,.box (zI.enc false a2)),(1,rE 1 yE s31.1)]) (jW a1 a2 a3 s31) kn:=by
 refine zAU (fun g ih s31=>?_)
 unfold uX
 refine J_d 464 [] [14] [(14,bv (decide (s31.2< (a3.length:Int))))] [] [] zB ?_
 refine zD 14 (fun h32=>?_) (fun h32=>?_)
 ·refine zA (fun x33 h34=>?_)
  refine zA (fun x35 h36=>?_)
  refine zA (fun x37 h38=>?_)
  refine zA (fun x39 h40=>?_)
  refine J_d 1864 [] [9,14] [(9,iv x39)] [] [] (zG 4 (uE (kk:=.i64) 42 2 1 yE (.tmp 19) (.tmp 20) h34) (zG 6 (uE (kk:=.i64) 24 89 8 (Pack.enc false) (.tmp 18) (.tmp 22) h36) (zG 8 (yT [(.tmp 24)] [89] (kI.ok x35) h38) (zG 9 (zFl [(0,.box (zI.enc false a2))] [] (zBI («as»:=[pp 0,sv x37]) [(.tmp 17),(.tmp 25)] [103,9] false [(0,.box (zI.enc false a2))] [0] (.cons (.pt rfl) (.cons (.same rfl) (.nil))) (yX.ok a2 x37) h40 (.same rfl rfl))) zB)))) ?_
  refine vC (atI zLf 3731) (fun v52:Bool=>St.mk' [(0,sl 8 (Pack.enc false) a1),(1,pp 0),(2,sl 1 yE a3),(7,rr 1 s31.1),(8,iv s31.2),(48,bv v52)] [(0,.box (zI.enc false a2)),(1,rE 1 yE s31.1)]) (fun v52=>?_) (fun jv52=>?_)
  ·refine vC (aft zLf 932) (fun v58:(List Int)=>St.mk' [(0,sl 8 (Pack.enc false) a1),(1,pp 0),(2,sl 1 yE a3),(7,rr 3 v58),(8,iv s31.2)] [(0,.box (zI.enc false a2)),(3,rE 1 yE v58)]) (fun v58=>?_) (fun jv58=>?_)
   ·refine J_d 467 [] [8] [(8,iv (w64 (s31.2+1)))] [] [] zB ?_
    refine zDB 3 1 (Nat.le_of_ble_eq_true rfl) (Nat.le_of_ble_eq_true rfl) ?_
    exact J_q (J_b (ih (v58,w64 (s31.2+1)))) rfl
   ·refine zD 48 (fun h53=>?_) (fun h53=>?_)
    ·refine zA (fun x54 h55=>?_)
     refine zA (fun x56 h57=>?_)
     refine J_d 7462 [] [7,48] [(7,rr 3 x56)] [1,3] [(3,rE 1 yE x56)] (zG 3 (uE (kk:=.i64) 42 2 1 yE (.tmp 50) (.tmp 51) h55) (zG 5 (zDZ 42 2 1 2 yE [x54] [0] [(.tmp 53)] [iv x54]) (zG 6 (zJY 42 42 2 2 1 8 3 1 2 yE (.tmp 49) (.tmp 54) h57) zB))) ?_
     exact xC (J_j (jv58 x56)) rfl
    ·refine zDB 1 3 (Nat.le_of_ble_eq_true rfl) (Nat.le_of_ble_eq_true rfl) ?_
     exact xC (J_j (jv58 s31.1)) rfl
  ·refine wG (fun h41=>?_) (fun h41=>?_)
   ·refine J_d 3730 [] [9,48] [(48,bv true)] [] [] (xK 2 [(28,bv (decide (x39<0)))] [] h41 zB) ?_
    exact xC (J_j (jv52 true)) rfl
   ·refine zA (fun x42 h43=>?_)
    refine zA (fun x44 h45=>?_)
    refine zA (fun x46 h47=>?_)
    refine zA (fun x48 h49=>?_)
    refine zA (fun x50 h51=>?_)
    refine J_d 3730 [] [9,48] [(48,bv (!x50))] [] [] (xK 2 [(28,bv (decide (x39<0)))] [] h41 (zBU 8 2 29 false (uE (kk:=.i64) 25 113 2 (File.enc false) (.tmp 33) (.tmp 34) h43) (zBU 14 2 29 false (uE (kk:=.i64) 42 2 1 yE (.tmp 39) (.tmp 40) h45) (zBU 16 2 29 false (uE (kk:=.i64) 24 89 8 (Pack.enc false) (.tmp 38) (.tmp 42) h47) (zBU 18 2 29 false (zBI («as»:=[.ag (Pack.enc false x46)]) [(.tmp 44)] [89] false [] [] (.cons (.same rfl) (.nil)) (zAG.ok x46) h49 (.own 2)) (zBU 19 2 29 false (zBI («as»:=[sl 1 eU8 x42.Data,rr 2 x48]) [(.tmp 37),(.tmp 45)] [111,111] true [(2,rE 1 eU8 x48)] [] (.cons (.same rfl) (.cons (zFv (.head _) (fun _=>rfl) rfl) (.nil))) (zBK.ok x42.Data x48) h51 (.same rfl rfl) (hbor:=fun _=>⟨fhN,xJ⟩)) zB)))))) ?_
    exact xC (J_j (jv52 (!x50))) rfl
 ·exact xC (hk s31.1) rfl
theorem jD.ok (a1:(List Pack)) (a2:zI) (a3:(List Int)):Ok Tryz.prog 126 [sl 8 (Pack.enc false) a1,pp 0,sl 1 yE a3] [.box (zI.enc false a2)] ((jD a1 a2 a3).map fun r=>(so 1 yE r,[.box (zI.enc false a2)])):=by
 refine zH zLf Tryz.f126 1 57 (fun q=>?_)
 unfold jD
 refine J_g 2 [] [(0,sl 8 (Pack.enc false) a1),(1,pp 0),(2,sl 1 yE a3)] [(0,.box (zI.enc false a2))] zB ?_
 refine J_g 6 [] [(0,sl 8 (Pack.enc false) a1),(1,pp 0),(2,sl 1 yE a3),(7,rr 1 ([]:List Int))] [(0,.box (zI.enc false a2)),(1,rE 1 yE ([]:List Int))] (zG 0 (zDZ 42 2 1 1 yE ([]:List Int) [] [] []) zB) ?_
 refine J_d 28 [] [8] [(8,iv 0)] [] [] zB ?_
 refine zDT (jW.ok a1 a2 a3 q _ (fun v59=>J_j ?_) (([]:List Int),0))
 refine J_g 30 [] [(6,rr 1 v59)] [(0,.box (zI.enc false a2)),(1,rE 1 yE v59)] zB ?_
 exact zDJ (ds:=[rr 1 v59]) (ds':=[so 1 yE v59]) (.cons (.cell (.move (.tail _ (.head _)) (List.length_map _) (by decide) (.nil))) (.nil) (by decide)) rfl
noncomputable def c127:Code:=(Tryz.f127.body).getD .skip
theorem zAX.ok (a1:(List Pack)) (a2:(List Int)) (q:Wd) (kn:ByteArray→Option (D×List Ent)) (hk:∀v:ByteArray,J (q.g Tryz.prog 127 0 36) c127 (atI c127 15) (St.mk' [(5,sv v)] []) (some v) kn):
  ∀s22:(ByteArray×Int),J (q.g Tryz.prog 127 0 36) c127 (atI c127 116) (St.mk' [(0,sl 8 (Pack.enc false) a1),(1,sl 1 yE a2),(5,sv s22.1),(6,iv s22.2)] []) (zAX a1 a2 s22) kn:=by
 refine zAU (fun g ih s22=>?_)
 unfold zAt
 refine J_d 464 [] [10] [(10,bv (decide (s22.2< (a2.length:Int))))] [] [] zB ?_
 refine zD 10 (fun h23=>?_) (fun h23=>?_)
 ·refine zA (fun x24 h25=>?_)
  refine zA (fun x26 h27=>?_)
  refine zA (fun x28 h29=>?_)
  refine zA (fun x30 h31=>?_)
  refine zA (fun x32 h33=>?_)
  refine zA (fun x34 h35=>?_)
  refine zA (fun x36 h37=>?_)
  refine zA (fun x38 h39=>?_)
  refine zA (fun x40 h41=>?_)
  refine J_g 932 [] [(0,sl 8 (Pack.enc false) a1),(1,sl 1 yE a2),(5,sv x40),(6,iv s22.2)] [] (zG 4 (uE (kk:=.i64) 42 2 1 yE (.tmp 15) (.tmp 16) h25) (zG 6 (uE (kk:=.i64) 24 89 8 (Pack.enc false) (.tmp 14) (.tmp 18) h27) (zG 9 (zBZ 9 9 (.tmp 13) (.tmp 21) h29) (zG 10 (zBZ 9 9 (.tmp 22) (.const (.string (bs [32]))) h31) (zG 14 (uE (kk:=.i64) 42 2 1 yE (.tmp 25) (.tmp 26) h33) (zG 16 (uE (kk:=.i64) 24 89 8 (Pack.enc false) (.tmp 24) (.tmp 28) h35) (zG 19 (yT [(.tmp 31)] [86] (xD.ok x34.Version) h37) (zG 20 (zBZ 9 9 (.tmp 23) (.tmp 32) h39) (zG 21 (zBZ 9 9 (.tmp 33) (.const (.string (bs [10]))) h41) zB))))))))) ?_
  refine J_d 467 [] [6] [(6,iv (w64 (s22.2+1)))] [] [] zB ?_
  exact J_q (J_b (ih (x40,w64 (s22.2+1)))) rfl
 ·exact xC (hk s22.1) rfl
theorem zB7.ok (a1:(List Pack)) (a2:(List Int)):Ok Tryz.prog 127 [sl 8 (Pack.enc false) a1,sl 1 yE a2] [] ((zB7 a1 a2).map fun r=>(sv r,[])):=by
 refine zH c127 Tryz.f127 0 36 (fun q=>?_)
 unfold zB7
 refine J_g 2 [] [(0,sl 8 (Pack.enc false) a1),(1,sl 1 yE a2)] [] zB ?_
 refine J_g 6 [] [(0,sl 8 (Pack.enc false) a1),(1,sl 1 yE a2),(5,sv (bs []))] [] zB ?_
 refine J_d 28 [] [6] [(6,iv 0)] [] [] zB ?_
 refine zDT (zAX.ok a1 a2 q _ (fun v42=>J_j ?_) (bs [],0))
 refine J_g 30 [] [(4,sv v42)] [] zB ?_
 exact zT rfl
noncomputable def c65:Code:=(Tryz.f65.body).getD .skip
theorem zAZ.ok (a1:(List Pack)) (a2:zI) (x4:(List Int)) (q:Wd) (kn:(Int×Int)→Option (D×List Ent)) (hk:∀v:(Int×Int),J (q.g Tryz.prog 65 1 87) c65 (atI c65 63) (St.mk' [(1,pp 0),(9,iv v.1),(10,iv v.2)] [(0,.box (zI.enc false a2))]) (some v) kn):
  ∀s29:(Int×Int×Int),J (q.g Tryz.prog 65 1 87) c65 (atI c65 500) (St.mk' [(0,sl 8 (Pack.enc false) a1),(1,pp 0),(8,rr 1 x4),(9,iv s29.1),(10,iv s29.2.1),(11,iv s29.2.2)] [(0,.box (zI.enc false a2)),(1,rE 1 yE x4)]) (zAZ a1 a2 x4 s29) kn:=by
 refine zAU (fun g ih s29=>?_)
 unfold zAK
 refine J_d 2000 [] [30] [(30,bv (decide (s29.2.2< (x4.length:Int))))] [] [] zB ?_
 refine zD 30 (fun h30=>?_) (fun h30=>?_)
 ·refine zA (fun x31 h32=>?_)
  refine zA (fun x33 h34=>?_)
  refine J_d 8008 [] [9,30] [(9,iv (w64 (s29.1+x33.Size)))] [] [] (zG 4 (zC5 (kk:=.i64) 42 2 1 1 yE (.tmp 35) (.tmp 36) h32) (zG 5 (zEh (d:=iv x31) 2 1 1 0 yE (.tmp 37) h32 (by kernel_rfl)) (zG 6 (uE (kk:=.i64) 24 89 8 (Pack.enc false) (.tmp 34) (.tmp 38) h34) zB))) ?_
  refine zA (fun x35 h36=>?_)
  refine zA (fun x37 h38=>?_)
  refine zA (fun x39 h40=>?_)
  refine zA (fun x41 h42=>?_)
  refine J_g 16018 [] [(0,sl 8 (Pack.enc false) a1),(1,pp 0),(8,rr 1 x4),(9,iv (w64 (s29.1+x33.Size))),(10,iv s29.2.1),(11,iv s29.2.2),(12,iv x41)] [(0,.box (zI.enc false a2)),(1,rE 1 yE x4)] (zG 4 (zC5 (kk:=.i64) 42 2 1 1 yE (.tmp 45) (.tmp 46) h36) (zG 5 (zEh (d:=iv x35) 2 1 1 0 yE (.tmp 47) h36 (by kernel_rfl)) (zG 6 (uE (kk:=.i64) 24 89 8 (Pack.enc false) (.tmp 44) (.tmp 48) h38) (zG 8 (yT [(.tmp 50)] [89] (kI.ok x37) h40) (zG 9 (zFl [(0,.box (zI.enc false a2))] [] (zBI («as»:=[pp 0,sv x39]) [(.tmp 43),(.tmp 51)] [103,9] false [(0,.box (zI.enc false a2))] [0] (.cons (.pt rfl) (.cons (.same rfl) (.nil))) (yX.ok a2 x39) h42 (.same rfl rfl))) zB))))) ?_
  refine J_d 32038 [] [54] [(54,bv (decide (x41<0)))] [] [] zB ?_
  refine vC (aft c65 4004) (fun v46:(Int×Int)=>St.mk' [(0,sl 8 (Pack.enc false) a1),(1,pp 0),(8,rr 1 x4),(9,iv v46.1),(10,iv v46.2),(11,iv s29.2.2)] [(0,.box (zI.enc false a2)),(1,rE 1 yE x4)]) (fun v46=>?_) (fun jv46=>?_)
  ·refine J_d 2003 [] [11] [(11,iv (w64 (s29.2.2+1)))] [] [] zB ?_
   exact J_q (J_b (ih (v46.1,v46.2,w64 (s29.2.2+1)))) rfl
  ·refine zD 54 (fun h43=>?_) (fun h43=>?_)
   ·refine J_d 64078 [] [10,12,54] [(10,iv (w64 (s29.2.1+1)))] [] [] zB ?_
    exact xC (J_j (jv46 (w64 (s29.1+x33.Size),w64 (s29.2.1+1)))) rfl
   ·refine zA (fun x44 h45=>?_)
    refine J_d 64079 [] [9,12,54] [(9,iv (w64 ((w64 (s29.1+x33.Size))-(x44.Data.length:Int))))] [] [] (zG 6 (uE (kk:=.i64) 25 113 2 (File.enc false) (.tmp 61) (.tmp 62) h45) zB) ?_
    exact xC (J_j (jv46 (w64 ((w64 (s29.1+x33.Size))-(x44.Data.length:Int)),s29.2.1))) rfl
 ·exact xC (hk (s29.1,s29.2.1)) rfl
theorem zB6.ok (a1:(List Pack)) (a2:zI) (a3:(List Int)):Ok Tryz.prog 65 [sl 8 (Pack.enc false) a1,pp 0,sl 1 yE a3] [.box (zI.enc false a2)] ((zB6 a1 a2 a3).map fun r=>(.tu [iv r.1,iv r.2],[.box (zI.enc false a2)])):=by
 refine zH c65 Tryz.f65 1 87 (fun q=>?_)
 unfold zB6
 refine J_d 2 [] [] [] [] [] zB ?_
 refine zA (fun x4 h5=>?_)
 refine J_d 6 [] [8] [(8,rr 1 x4)] [1] [(1,rE 1 yE x4)] (zG 3 (zFl [(0,.box (zI.enc false a2))] [(1,rE 1 yE x4)] (zBI («as»:=[sl 8 (Pack.enc false) a1,pp 0,sl 1 yE a3]) [(.tmp 14),(.tmp 15),(.tmp 16)] [24,103,42] false [(0,.box (zI.enc false a2))] [0] (.cons (.same rfl) (.cons (.pt rfl) (.cons (.same rfl) (.nil)))) (jD.ok a1 a2 a3) h5 (.own 1))) zB) ?_
 refine zA (fun x6 h7=>?_)
 refine zA (fun x8 h9=>?_)
 refine zA (fun x10 h11=>?_)
 refine J_g 14 [] [(0,sl 8 (Pack.enc false) a1),(1,pp 0),(8,rr 1 x4),(9,iv (w64 ((x6.size:Int)+(x10.size:Int))))] [(0,.box (zI.enc false a2)),(1,rE 1 yE x4)] (zG 2 (yT [(.tmp 18),(.tmp 19)] [24,42] (zB7.ok a1 a3) h7) (zG 5 (zFl [(0,.box (zI.enc false a2))] [] (zBI («as»:=[pp 0]) [(.tmp 22)] [103] false [(0,.box (zI.enc false a2))] [0] (.cons (.pt rfl) (.nil)) (kC.ok a2) h9 (.same rfl rfl))) (zG 6 (yT [(.tmp 23)] [2] (yQ.ok x8) h11) zB))) ?_
 refine J_g 30 [] [(0,sl 8 (Pack.enc false) a1),(1,pp 0),(8,rr 1 x4),(9,iv (w64 ((x6.size:Int)+(x10.size:Int)))),(10,iv 1)] [(0,.box (zI.enc false a2)),(1,rE 1 yE x4)] zB ?_
 refine J_d 124 [] [11] [(11,iv 0)] [] [] zB ?_
 refine zDT (zAZ.ok a1 a2 x4 q _ (fun v47=>J_j ?_) (w64 ((x6.size:Int)+(x10.size:Int)),1,0))
 refine zA (fun x48 h49=>?_)
 refine J_g 252 [] [(1,pp 0),(9,iv v47.1),(10,iv v47.2),(13,iv x48)] [(0,.box (zI.enc false a2))] (zG 1 (zFl [(0,.box (zI.enc false a2))] [] (zBI («as»:=[pp 0,sv (bs [99,117,114])]) [(.tmp 68),(.const (.string (bs [99,117,114])))] [103,9] false [(0,.box (zI.enc false a2))] [0] (.cons (.pt rfl) (.cons (.same rfl) (.nil))) (yX.ok a2 (bs [99,117,114])) h49 (.same rfl rfl))) zB) ?_
 refine J_d 506 [] [71] [(71,bv (decide (x48≥0)))] [] [] zB ?_
 refine vC (atI c65 127) (fun v53:(Int×Int)=>St.mk' [(9,iv v53.1),(10,iv v53.2)] [(0,.box (zI.enc false a2))]) (fun v53=>?_) (fun jv53=>?_)
 ·refine J_d 254 [] [6,7,9,10] [(6,iv v53.1),(7,iv v53.2)] [] [] zB ?_
  exact zKs rfl
 ·refine zD 71 (fun h50=>?_) (fun h50=>?_)
  ·refine zA (fun x51 h52=>?_)
   refine J_d 1014 [] [1,9,13,71] [(9,iv (w64 (v47.1-(x51.Data.length:Int))))] [] [] (zG 6 (uE (kk:=.i64) 25 113 2 (File.enc false) (.tmp 76) (.tmp 77) h52) zB) ?_
   exact xC (J_j (jv53 (w64 (v47.1-(x51.Data.length:Int)),v47.2))) rfl
  ·refine J_d 1015 [] [1,10,13,71] [(10,iv (w64 (v47.2+1)))] [] [] zB ?_
   exact xC (J_j (jv53 (v47.1,w64 (v47.2+1)))) rfl
noncomputable def c19:Code:=(Tryz.f19.body).getD .skip
theorem vO.ok (a1:(List Pack)) (a2:zI) (a3:(List Int)):Ok Tryz.prog 19 [sl 8 (Pack.enc false) a1,.ag (zI.enc false a2),sl 1 yE a3] [] ((vO a1 a2 a3).map fun r=>(.ag (yL.enc r),[])):=by
 refine zH c19 Tryz.f19 0 33 (fun q=>?_)
 unfold vO
 refine J_d 2 [(0,0),(1,1)] [1,4,6] [(4,pp 0),(6,pp 1)] [0,1] [(0,.box (zI.enc false a2)),(1,.box [iv 0,iv 0])] zB ?_
 refine zA (fun x4 h5=>?_)
 refine J_g 12 [] [(0,sl 8 (Pack.enc false) a1),(2,sl 1 yE a3),(4,pp 0),(6,pp 1),(7,iv x4)] [(0,.box (zI.enc false a2)),(1,.box [iv 0,iv 0])] (zG 2 (yT [(.tmp 10),(.tmp 11)] [24,27] (tL.ok a1 a2) h5) zB) ?_
 refine J_d 26 [] [14] [(14,bv (x4 !=0))] [] [] zB ?_
 refine zD 14 (fun h6=>?_) (fun h6=>?_)
 ·refine J_g 108 [] [(6,pp 1)] [(1,.box [iv x4,iv 0])] zB ?_
  exact zT rfl
 ·refine zA (fun x7 h8=>?_)
  refine J_d 28 [] [7,14,20] [(20,bv (!x7))] [] [] (zG 2 (yT [(.tmp 17),(.tmp 18)] [24,42] (zBL.ok a1 a3) h8) zB) ?_
  refine zD 20 (fun h9=>?_) (fun h9=>?_)
  ·refine J_g 116 [] [(6,pp 1)] [(1,.box [iv 1,iv 0])] zB ?_
   exact zT rfl
  ·refine zA (fun x10 h11=>?_)
   refine J_d 60 [] [20,23] [(23,bv (decide (x10>999999)))] [] [] (zG 0 (zFl [(0,.box (zI.enc false a2))] [] (zBI («as»:=[pp 0]) [(.tmp 4)] [103] false [(0,.box (zI.enc false a2))] [0] (.cons (.pt rfl) (.nil)) (kC.ok a2) h11 (.same rfl rfl))) zB) ?_
   refine zD 23 (fun h12=>?_) (fun h12=>?_)
   ·refine J_g 244 [] [(6,pp 1)] [(1,.box [iv 2,iv 0])] zB ?_
    exact zT rfl
   ·refine zA (fun x13 h14=>?_)
    refine J_g 62 [] [(6,pp 1),(8,iv x13.1)] [(1,.box [iv 0,iv 0])] (zG 2 (zFl [(0,.box (zI.enc false a2))] [] (zBI («as»:=[sl 8 (Pack.enc false) a1,pp 0,sl 1 yE a3]) [(.tmp 26),(.tmp 4),(.tmp 27)] [24,103,42] false [(0,.box (zI.enc false a2))] [0] (.cons (.same rfl) (.cons (.pt rfl) (.cons (.same rfl) (.nil)))) (zB6.ok a1 a2 a3) h14 (.tu (.cons (.same rfl rfl) (.cons (.same rfl rfl) (.nil)))))) zB) ?_
    refine J_g 126 [] [(6,pp 1)] [(1,.box [iv 0,iv x13.1])] zB ?_
    exact zT rfl
noncomputable def zMS:Code:=(Tryz.f224.body).getD .skip
theorem yR.ok (a1:Int):Ok Tryz.prog 224 [uv a1] [] ((yR a1).map fun r=>(bv r,[])):=by
 refine zH zMS Tryz.f224 0 21 (fun q=>?_)
 unfold yR
 refine J_g 2 [] [(0,uv a1)] [] zB ?_
 refine wG (fun h2=>?_) (fun h2=>?_)
 ·refine wG (fun h3=>?_) (fun h3=>?_)
  ·refine J_g 6 [] [(2,bv true)] [] (xK 2 [(4,bv (decide (a1≥97)))] [] h2 (xK 6 [(8,bv (decide (a1≤122)))] [] h3 (zHM 9 (zHD (i:=9) (g:=6) (t:=9) (b:=false) (v:=(.bool true)) (.inl rfl) (by kernel_rfl) (by kernel_rfl)) (zHM 10 (zHD (i:=10) (g:=9) (t:=12) (b:=true) (v:=undef) (.inr rfl) (by kernel_rfl) (by kernel_rfl)) (zHM 11 (zHD (i:=11) (g:=9) (t:=12) (b:=true) (v:=undef) (.inr rfl) (by kernel_rfl) (by kernel_rfl)) zB))))) ?_
   exact zT rfl
  ·refine wG (fun h4=>?_) (fun h4=>?_)
   ·refine wG (fun h5=>?_) (fun h5=>?_)
    ·refine J_g 6 [] [(2,bv true)] [] (xK 2 [(4,bv (decide (a1≥97)))] [] h2 (xK 6 [(8,bv (decide (a1≤122)))] [] h3 (zGj 9 6 9 false [(11,bv (decide (a1≥48)))] [] h4 (xK 14 [(16,bv (decide (a1≤57)))] [] h5 zB)))) ?_
     exact zT rfl
    ·refine J_g 6 [] [(2,bv (a1==95))] [] (xK 2 [(4,bv (decide (a1≥97)))] [] h2 (xK 6 [(8,bv (decide (a1≤122)))] [] h3 (zGj 9 6 9 false [(11,bv (decide (a1≥48)))] [] h4 (xK 14 [(16,bv (decide (a1≤57)))] [] h5 zB)))) ?_
     exact zT rfl
   ·refine J_g 6 [] [(2,bv (a1==95))] [] (xK 2 [(4,bv (decide (a1≥97)))] [] h2 (xK 6 [(8,bv (decide (a1≤122)))] [] h3 (zGj 9 6 9 false [(11,bv (decide (a1≥48)))] [] h4 zB))) ?_
    exact zT rfl
 ·refine wG (fun h6=>?_) (fun h6=>?_)
  ·refine wG (fun h7=>?_) (fun h7=>?_)
   ·refine J_g 6 [] [(2,bv true)] [] (xK 2 [(4,bv (decide (a1≥97)))] [] h2 (zGj 9 6 9 false [(11,bv (decide (a1≥48)))] [] h6 (xK 14 [(16,bv (decide (a1≤57)))] [] h7 zB))) ?_
    exact zT rfl
   ·refine J_g 6 [] [(2,bv (a1==95))] [] (xK 2 [(4,bv (decide (a1≥97)))] [] h2 (zGj 9 6 9 false [(11,bv (decide (a1≥48)))] [] h6 (xK 14 [(16,bv (decide (a1≤57)))] [] h7 zB))) ?_
    exact zT rfl
  ·refine J_g 6 [] [(2,bv (a1==95))] [] (xK 2 [(4,bv (decide (a1≥97)))] [] h2 (zGj 9 6 9 false [(11,bv (decide (a1≥48)))] [] h6 zB)) ?_
   exact zT rfl
noncomputable def zLu:Code:=(Tryz.f189.body).getD .skip
theorem vT.ok (a1:ByteArray) (q:Wd) (kn:Unit→Option (D×List Ent)) (hk:∀v:Unit,J (q.g Tryz.prog 189 0 33) zLu (atI zLu 15) (St.mk' [] []) (some v) kn):
  ∀s17:Int,J (q.g Tryz.prog 189 0 33) zLu (atI zLu 116) (St.mk' [(0,sv a1),(23,iv (a1.size:Int)),(24,iv s17)] []) (vT a1 s17) (Fl.go (fun r:Int=>some (iv r,[])) kn):=by
 refine zAU (fun g ih s17=>?_)
 unfold kZ
 refine J_d 232 [] [25] [(25,bv (decide (s17< (a1.size:Int))))] [] [] zB ?_
 refine zD 25 (fun h18=>?_) (fun h18=>?_)
 ·refine J_d 3736 [] [3,25] [(3,iv s17)] [] [] zB ?_
  refine zA (fun x19 h20=>?_)
  refine zA (fun x21 h22=>?_)
  refine J_d 7474 [] [3,31] [(31,bv (!x21))] [] [] (zG 2 (zGE (kk:=.i64) 9 (.tmp 27) (.tmp 28) h20) (zG 3 (yT [(.tmp 29)] [5] (yR.ok x19) h22) zB)) ?_
  refine zD 31 (fun h23=>?_) (fun h23=>?_)
  ·refine J_g 29900 [] [(2,iv 5)] [] zB ?_
   exact zT rfl
  ·refine J_d 935 [] [24,31] [(24,iv (w64 (s17+1)))] [] [] zB ?_
   exact J_q (J_b (ih (w64 (s17+1)))) rfl
 ·exact xC (hk ()) rfl
theorem xQ.ok (a1:ByteArray):Ok Tryz.prog 189 [sv a1] [] ((xQ a1).map fun r=>(iv r,[])):=by
 refine zH zLu Tryz.f189 0 33 (fun q=>?_)
 unfold xQ
 refine J_g 2 [] [(0,sv a1)] [] zB ?_
 refine vC (atI zLu 13) (fun v9:Bool=>St.mk' [(0,sv a1),(21,bv v9)] []) (fun v9=>?_) (fun jv9=>?_)
 ·refine zD 21 (fun h10=>?_) (fun h10=>?_)
  ·refine J_g 52 [] [(2,iv 5)] [] zB ?_
   exact zT rfl
  ·refine J_g 28 [] [(0,sv a1),(23,iv (a1.size:Int)),(24,iv 0)] [] zB ?_
   refine jL (K0:=(fun r:Int=>some (iv r,[]))) (fun _=>rfl) (vT.ok a1 q _ (fun v24=>J_j ?_) 0)
   refine J_g 30 [] [(2,iv 0)] [] zB ?_
   exact zT rfl
 ·refine wG (fun h2=>?_) (fun h2=>?_)
  ·refine J_g 12 [] [(0,sv a1),(21,bv true)] [] (xK 3 [(6,bv (decide ((a1.size:Int)<1)))] [] h2 zB) ?_
   exact xC (J_j (jv9 true)) rfl
  ·refine wG (fun h3=>?_) (fun h3=>?_)
   ·refine J_g 12 [] [(0,sv a1),(21,bv true)] [] (xK 3 [(6,bv (decide ((a1.size:Int)<1)))] [] h2 (xK 8 [(11,bv (decide ((a1.size:Int)>12)))] [] h3 zB)) ?_
    exact xC (J_j (jv9 true)) rfl
   ·refine zA (fun x4 h5=>?_)
    refine wG (fun h6=>?_) (fun h6=>?_)
    ·refine J_g 12 [] [(0,sv a1),(21,bv true)] [] (xK 3 [(6,bv (decide ((a1.size:Int)<1)))] [] h2 (xK 8 [(11,bv (decide ((a1.size:Int)>12)))] [] h3 (zBU 10 8 12 false (zGE (kk:=.i64) 9 (.tmp 13) (.const (.int .i64 0)) h5) (xK 13 [(16,bv (decide (x4<97)))] [] h6 zB)))) ?_
     exact xC (J_j (jv9 true)) rfl
    ·refine zA (fun x7 h8=>?_)
     refine J_g 12 [] [(0,sv a1),(21,bv (decide (x7>122)))] [] (xK 3 [(6,bv (decide ((a1.size:Int)<1)))] [] h2 (xK 8 [(11,bv (decide ((a1.size:Int)>12)))] [] h3 (zBU 10 8 12 false (zGE (kk:=.i64) 9 (.tmp 13) (.const (.int .i64 0)) h5) (xK 13 [(16,bv (decide (x4<97)))] [] h6 (zBU 15 13 17 false (zGE (kk:=.i64) 9 (.tmp 18) (.const (.int .i64 0)) h8) zB))))) ?_
     exact xC (J_j (jv9 (decide (x7>122)))) rfl
noncomputable def zNe:Code:=(Tryz.f114.body).getD .skip
theorem yK.ok (a1:Int) (a2:Int) (a3:Int):Ok Tryz.prog 114 [iv a1,iv a2,iv a3] [] ((yK a1 a2 a3).map fun r=>(bv r,[])):=by
 refine zH zNe Tryz.f114 0 15 (fun q=>?_)
 unfold yK
 refine J_d 2 [] [] [] [] [] zB ?_
 refine wG (fun h4=>?_) (fun h4=>?_)
 ·refine J_g 6 [] [(6,bv (decide (a1≤a3)))] [] (xK 3 [(9,bv (decide (a2≤a1)))] [] h4 zB) ?_
  exact zT rfl
 ·refine J_g 6 [] [(6,bv false)] [] (xK 3 [(9,bv (decide (a2≤a1)))] [] h4 zB) ?_
  exact zT rfl
noncomputable def zMF:Code:=(Tryz.f190.body).getD .skip
theorem yY.ok (a1:Version):Ok Tryz.prog 190 [.ag (Version.enc a1)] [] ((yY a1).map fun r=>(iv r,[])):=by
 refine zH zMF Tryz.f190 0 19 (fun q=>?_)
 unfold yY
 refine J_g 2 [(0,0)] [(1,pp 0)] [(0,.box (Version.enc a1))] zB ?_
 refine zA (fun x2 h3=>?_)
 refine vC (atI zMF 13) (fun v10:Bool=>St.mk' [(18,bv v10)] []) (fun v10=>?_) (fun jv10=>?_)
 ·refine zD 18 (fun h11=>?_) (fun h11=>?_)
  ·refine J_g 52 [] [(2,iv 3)] [] zB ?_
   exact zT rfl
  ·refine J_g 14 [] [(2,iv 0)] [] zB ?_
   exact zT rfl
 ·refine wG (fun h4=>?_) (fun h4=>?_)
  ·refine J_g 12 [] [(18,bv true)] [] (zG 2 (yT [(.tmp 4),(.const (.int .i64 0)),(.const (.int .i64 999))] [2,2,2] (yK.ok a1.A 0 999) h3) (xK 4 [(6,bv (!x2))] [] h4 zB)) ?_
   exact xC (J_j (jv10 true)) rfl
  ·refine zA (fun x5 h6=>?_)
   refine wG (fun h7=>?_) (fun h7=>?_)
   ·refine J_g 12 [] [(18,bv true)] [] (zG 2 (yT [(.tmp 4),(.const (.int .i64 0)),(.const (.int .i64 999))] [2,2,2] (yK.ok a1.A 0 999) h3) (xK 4 [(6,bv (!x2))] [] h4 (zBU 7 4 7 false (yT [(.tmp 9),(.const (.int .i64 0)),(.const (.int .i64 999))] [2,2,2] (yK.ok a1.B 0 999) h6) (xK 10 [(12,bv (!x5))] [] h7 zB)))) ?_
    exact xC (J_j (jv10 true)) rfl
   ·refine zA (fun x8 h9=>?_)
    refine J_g 12 [] [(18,bv (!x8))] [] (zG 2 (yT [(.tmp 4),(.const (.int .i64 0)),(.const (.int .i64 999))] [2,2,2] (yK.ok a1.A 0 999) h3) (xK 4 [(6,bv (!x2))] [] h4 (zBU 7 4 7 false (yT [(.tmp 9),(.const (.int .i64 0)),(.const (.int .i64 999))] [2,2,2] (yK.ok a1.B 0 999) h6) (xK 10 [(12,bv (!x5))] [] h7 (zBU 13 10 13 false (yT [(.tmp 15),(.const (.int .i64 0)),(.const (.int .i64 999))] [2,2,2] (yK.ok a1.C 0 999) h9) zB))))) ?_
    exact xC (J_j (jv10 (!x8))) rfl
noncomputable def c67:Code:=(Tryz.f67.body).getD .skip
theorem vZ.ok (a1:(List Int)) (q:Wd) (kn:Unit→Option (D×List Ent)) (hk:∀v:Unit,J (q.g Tryz.prog 67 0 15) c67 (atI c67 7) (St.mk' [] []) (some v) kn):
  ∀s6:Int,J (q.g Tryz.prog 67 0 15) c67 (atI c67 52) (St.mk' [(5,sl 1 yE a1),(6,iv (a1.length:Int)),(7,iv s6)] []) (vZ a1 s6) (Fl.go (fun r:Int=>some (iv r,[])) kn):=by
 refine zAU (fun g ih s6=>?_)
 unfold uW
 refine J_d 104 [] [8] [(8,bv (decide (s6< (a1.length:Int))))] [] [] zB ?_
 refine zD 8 (fun h7=>?_) (fun h7=>?_)
 ·refine zA (fun x8 h9=>?_)
  refine J_g 1688 [] [(4,iv x8),(5,sl 1 yE a1),(6,iv (a1.length:Int)),(7,iv s6)] [] (zG 0 (uE (kk:=.i64) 42 2 1 yE (.tmp 5) (.tmp 7) h9) zB) ?_
  refine J_d 3378 [] [12] [(12,bv (x8 !=0))] [] [] zB ?_
  refine zD 12 (fun h10=>?_) (fun h10=>?_)
  ·refine J_g 13516 [] [(2,iv x8)] [] zB ?_
   exact zT rfl
  ·refine J_d 423 [] [4,7,12] [(7,iv (w64 (s6+1)))] [] [] zB ?_
   exact J_q (J_b (ih (w64 (s6+1)))) rfl
 ·exact xC (hk ()) rfl
theorem xA.ok (a1:(List Int)):Ok Tryz.prog 67 [sl 1 yE a1] [] ((xA a1).map fun r=>(iv r,[])):=by
 refine zH c67 Tryz.f67 0 15 (fun q=>?_)
 unfold xA
 refine J_g 2 [] [(0,sl 1 yE a1)] [] zB ?_
 refine J_g 12 [] [(5,sl 1 yE a1),(6,iv (a1.length:Int)),(7,iv 0)] [] zB ?_
 refine jL (K0:=(fun r:Int=>some (iv r,[]))) (fun _=>rfl) (vZ.ok a1 q _ (fun v11=>J_j ?_) 0)
 refine J_g 14 [] [(2,iv 0)] [] zB ?_
 exact zT rfl
noncomputable def zNk:Code:=(Tryz.f192.body).getD .skip
theorem uO.ok (a1:(List Term)):Ok Tryz.prog 192 [sl 7 Term.enc a1] [] ((uO a1).map fun r=>(bv r,[])):=by
 refine zH zNk Tryz.f192 0 6 (fun q=>?_)
 unfold uO
 refine J_g 2 [] [(0,sl 7 Term.enc a1)] [] zB ?_
 refine J_g 6 [] [(2,bv (decide ((a1.length:Int)>4)))] [] zB ?_
 exact zT rfl
noncomputable def zL8:Code:=(Tryz.f259.body).getD .skip
theorem zY.ok (a1:(List (List Term))) (q:Wd) (kn:Unit→Option (D×List Ent)) (hk:∀v:Unit,J (q.g Tryz.prog 259 0 19) zL8 (atI zL8 7) (St.mk' [] []) (some v) kn):
  ∀s8:Int,J (q.g Tryz.prog 259 0 19) zL8 (atI zL8 52) (St.mk' [(0,sl 1 (eSl false 7 Term.enc) a1),(1,.fn 192 []),(7,iv (a1.length:Int)),(8,iv s8)] []) (zY a1 s8) (Fl.go (fun r:Int=>some (iv r,[])) kn):=by
 refine zAU (fun g ih s8=>?_)
 unfold zW
 refine J_d 104 [] [9] [(9,bv (decide (s8< (a1.length:Int))))] [] [] zB ?_
 refine zD 9 (fun h9=>?_) (fun h9=>?_)
 ·refine J_d 1688 [] [5,9] [(5,iv s8)] [] [] zB ?_
  refine zA (fun x10 h11=>?_)
  refine zA (fun x12 h13=>?_)
  refine J_d 3378 [] [16] [(16,bv x12)] [] [] (zG 3 (uE (kk:=.i64) 87 53 1 (eSl false 7 Term.enc) (.tmp 12) (.tmp 13) h11) (zG 5 (zLl («as»:=[sl 7 Term.enc x10]) (caps:=[]) 11 [(.tmp 15)] [53] (uO.ok x10) h13) zB)) ?_
  refine zD 16 (fun h14=>?_) (fun h14=>?_)
  ·refine J_g 13516 [] [(4,iv s8)] [] zB ?_
   exact zT rfl
  ·refine J_d 423 [] [5,8,16] [(8,iv (w64 (s8+1)))] [] [] zB ?_
   exact J_q (J_b (ih (w64 (s8+1)))) rfl
 ·exact xC (hk ()) rfl
theorem zR.ok (a1:(List (List Term))):Ok Tryz.prog 259 [sl 1 (eSl false 7 Term.enc) a1,.fn 192 []] [] ((zR a1).map fun r=>(iv r,[])):=by
 refine zH zL8 Tryz.f259 0 19 (fun q=>?_)
 unfold zR
 refine J_g 2 [] [(0,sl 1 (eSl false 7 Term.enc) a1),(1,.fn 192 [])] [] zB ?_
 refine J_d 12 [] [7,8] [(7,iv (a1.length:Int)),(8,iv 0)] [] [] zB ?_
 refine jL (K0:=(fun r:Int=>some (iv r,[]))) (fun _=>rfl) (zY.ok a1 q _ (fun v15=>J_j ?_) 0)
 refine J_g 14 [] [(4,iv (-1))] [] zB ?_
 exact zT rfl
noncomputable def zMQ:Code:=(Tryz.f191.body).getD .skip
theorem zJ.ok (a1:(List (List Term))):Ok Tryz.prog 191 [sl 1 (eSl false 7 Term.enc) a1,.fn 192 []] [] ((zJ a1).map fun r=>(bv r,[])):=by
 refine zH zMQ Tryz.f191 0 9 (fun q=>?_)
 unfold zJ
 refine J_d 2 [] [] [] [] [] zB ?_
 refine zA (fun x2 h3=>?_)
 refine J_g 6 [] [(4,bv (decide (x2≥0)))] [] (zG 2 (zBI («as»:=[sl 1 (eSl false 7 Term.enc) a1,.fn 192 []]) [(.tmp 5),(.tmp 6)] [87,186] false [] [] (.cons (.same rfl) (.cons (.fn (.nil)) (.nil))) (zR.ok a1) h3 (.same rfl rfl)) zB) ?_
 exact zT rfl
noncomputable def zLB:Code:=(Tryz.f254.body).getD .skip
theorem wK.ok (a1:(List ByteArray)) (a2:ByteArray) (q:Wd) (kn:Unit→Option (D×List Ent)) (hk:∀v:Unit,J (q.g Tryz.prog 254 0 19) zLB (atI zLB 7) (St.mk' [] []) (some v) kn):
  ∀s7:Int,J (q.g Tryz.prog 254 0 19) zLB (atI zLB 52) (St.mk' [(0,sl 1 eStr a1),(1,sv a2),(7,iv (a1.length:Int)),(8,iv s7)] []) (wK a1 a2 s7) (Fl.go (fun r:Int=>some (iv r,[])) kn):=by
 refine zAU (fun g ih s7=>?_)
 unfold wC
 refine J_d 104 [] [9] [(9,bv (decide (s7< (a1.length:Int))))] [] [] zB ?_
 refine zD 9 (fun h8=>?_) (fun h8=>?_)
 ·refine J_d 1688 [] [5,9] [(5,iv s7)] [] [] zB ?_
  refine zA (fun x9 h10=>?_)
  refine J_d 3378 [] [16] [(16,bv (seq a2 x9))] [] [] (zG 3 (uE (kk:=.i64) 70 9 1 eStr (.tmp 12) (.tmp 13) h10) zB) ?_
  refine zD 16 (fun h11=>?_) (fun h11=>?_)
  ·refine J_g 13516 [] [(4,iv s7)] [] zB ?_
   exact zT rfl
  ·refine J_d 423 [] [5,8,16] [(8,iv (w64 (s7+1)))] [] [] zB ?_
   exact J_q (J_b (ih (w64 (s7+1)))) rfl
 ·exact xC (hk ()) rfl
theorem wL.ok (a1:(List ByteArray)) (a2:ByteArray):Ok Tryz.prog 254 [sl 1 eStr a1,sv a2] [] ((wL a1 a2).map fun r=>(iv r,[])):=by
 refine zH zLB Tryz.f254 0 19 (fun q=>?_)
 unfold wL
 refine J_g 2 [] [(0,sl 1 eStr a1),(1,sv a2)] [] zB ?_
 refine J_d 12 [] [7,8] [(7,iv (a1.length:Int)),(8,iv 0)] [] [] zB ?_
 refine jL (K0:=(fun r:Int=>some (iv r,[]))) (fun _=>rfl) (wK.ok a1 a2 q _ (fun v12=>J_j ?_) 0)
 refine J_g 14 [] [(4,iv (-1))] [] zB ?_
 exact zT rfl
noncomputable def c182:Code:=(Tryz.f182.body).getD .skip
theorem yZ.ok (a1:(List ByteArray)) (a2:ByteArray):Ok Tryz.prog 182 [sl 1 eStr a1,sv a2] [] ((yZ a1 a2).map fun r=>(bv r,[])):=by
 refine zH c182 Tryz.f182 0 9 (fun q=>?_)
 unfold yZ
 refine J_d 2 [] [] [] [] [] zB ?_
 refine zA (fun x3 h4=>?_)
 refine J_g 6 [] [(4,bv (decide (x3≥0)))] [] (zG 2 (yT [(.tmp 5),(.tmp 6)] [70,9] (wL.ok a1 a2) h4) zB) ?_
 exact zT rfl
noncomputable def zNc:Code:=(Tryz.f276.body).getD .skip
theorem zC6.ok:Ok Tryz.prog 276 [] [] ((zC6).map fun r=>(.ag (Version.enc r),[])):=by
 refine zH zNc Tryz.f276 0 2 (fun q=>?_)
 unfold zC6
 refine J_g 2 [(0,0)] [(0,pp 0)] [(0,.box [iv 0,iv 0,iv 0])] zB ?_
 refine J_g 6 [] [(0,pp 0)] [(0,.box [iv 1000,iv 0,iv 0])] zB ?_
 exact zT rfl
noncomputable def zMG:Code:=(Tryz.f336.body).getD .skip
theorem vE.ok (a1:Int):Ok Tryz.prog 336 [iv a1] [] ((vE a1).map fun r=>(bv r,[])):=by
 refine zH zMG Tryz.f336 0 6 (fun q=>?_)
 unfold vE
 refine J_g 2 [] [(0,iv a1)] [] zB ?_
 refine J_g 6 [] [(2,bv (a1 !=a1))] [] zB ?_
 exact zT rfl
noncomputable def zNr:Code:=(Tryz.f318.body).getD .skip
theorem yV.ok (a1:Int) (a2:Int):Ok Tryz.prog 318 [iv a1,iv a2] [] ((yV a1 a2).map fun r=>(iv r,[])):=by
 refine zH zNr Tryz.f318 0 20 (fun q=>?_)
 unfold yV
 refine J_d 2 [] [] [] [] [] zB ?_
 refine zA (fun x3 h4=>?_)
 refine J_d 6 [] [5] [(5,bv x3)] [] [] (zG 1 (yT [(.tmp 7)] [2] (vE.ok a1) h4) zB) ?_
 refine zA (fun x5 h6=>?_)
 refine J_g 14 [] [(0,iv a1),(1,iv a2),(5,bv x3),(6,bv x5)] [] (zG 1 (yT [(.tmp 9)] [2] (vE.ok a2) h6) zB) ?_
 refine J_d 60 [] [5,11] [(11,bv x3)] [] [] zB ?_
 refine zD 11 (fun h7=>?_) (fun h7=>?_)
 ·refine J_g 488 [] [(12,bv x5)] [] zB ?_
  refine zD 12 (fun h8=>?_) (fun h8=>?_)
  ·refine J_g 1956 [] [(4,iv 0)] [] zB ?_
   exact zT rfl
  ·refine J_g 490 [] [(4,iv (-1))] [] zB ?_
   exact zT rfl
 ·refine J_g 124 [] [(0,iv a1),(1,iv a2),(13,bv x5)] [] zB ?_
  refine zD 13 (fun h9=>?_) (fun h9=>?_)
  ·refine J_g 500 [] [(4,iv 1)] [] zB ?_
   exact zT rfl
  ·refine J_d 252 [] [13,16] [(16,bv (decide (a1<a2)))] [] [] zB ?_
   refine zD 16 (fun h10=>?_) (fun h10=>?_)
   ·refine J_g 1012 [] [(4,iv (-1))] [] zB ?_
    exact zT rfl
   ·refine J_g 508 [] [(19,bv (decide (a1>a2)))] [] zB ?_
    refine zD 19 (fun h11=>?_) (fun h11=>?_)
    ·refine J_g 2036 [] [(4,iv 1)] [] zB ?_
     exact zT rfl
    ·refine J_g 510 [] [(4,iv 0)] [] zB ?_
     exact zT rfl
noncomputable def zL9:Code:=(Tryz.f317.body).getD .skip
theorem zBG.ok (a1:(List Int)) (q:Wd) (kn:Unit→Option (D×List Ent)) (hk:∀v:Unit,J (q.g Tryz.prog 317 0 18) zL9 (atI zL9 15) (St.mk' [(3,iv 0)] []) (some v) kn):
  ∀s6:Int,J (q.g Tryz.prog 317 0 18) zL9 (atI zL9 116) (St.mk' [(3,iv 0),(6,sl 1 yE a1),(7,iv (a1.length:Int)),(8,iv s6)] []) (zBG a1 s6) (Fl.go (fun r:Int=>some (iv r,[])) kn):=by
 refine zAU (fun g ih s6=>?_)
 unfold zBe
 refine J_d 232 [] [9] [(9,bv (decide (s6< (a1.length:Int))))] [] [] zB ?_
 refine zD 9 (fun h7=>?_) (fun h7=>?_)
 ·refine zA (fun x8 h9=>?_)
  refine J_g 3736 [] [(3,iv 0),(5,iv x8),(6,sl 1 yE a1),(7,iv (a1.length:Int)),(8,iv s6)] [] (zG 0 (uE (kk:=.i64) 331 3 1 yE (.tmp 6) (.tmp 8) h9) zB) ?_
  refine J_d 7474 [] [14] [(14,bv (x8 !=0))] [] [] zB ?_
  refine zD 14 (fun h10=>?_) (fun h10=>?_)
  ·refine J_g 29900 [] [(2,iv x8)] [] zB ?_
   exact zT rfl
  ·refine J_d 935 [] [5,8,14] [(8,iv (w64 (s6+1)))] [] [] zB ?_
   exact J_q (J_b (ih (w64 (s6+1)))) rfl
 ·exact xC (hk ()) rfl
theorem zCe.ok (a1:(List Int)):Ok Tryz.prog 317 [sl 1 yE a1] [] ((zCe a1).map fun r=>(iv r,[])):=by
 refine zH zL9 Tryz.f317 0 18 (fun q=>?_)
 unfold zCe
 refine J_g 2 [] [(0,sl 1 yE a1)] [] zB ?_
 refine J_g 6 [] [(0,sl 1 yE a1),(3,iv 0)] [] zB ?_
 refine J_g 28 [] [(3,iv 0),(6,sl 1 yE a1),(7,iv (a1.length:Int)),(8,iv 0)] [] zB ?_
 refine jL (K0:=(fun r:Int=>some (iv r,[]))) (fun _=>rfl) (zBG.ok a1 q _ (fun v11=>J_j ?_) 0)
 refine J_g 30 [] [(2,iv 0)] [] zB ?_
 exact zT rfl
noncomputable def zMX:Code:=(Tryz.f278.body).getD .skip
theorem zA6.ok (a1:Version) (a2:Version):Ok Tryz.prog 278 [.ag (Version.enc a1),.ag (Version.enc a2)] [] ((zA6 a1 a2).map fun r=>(iv r,[])):=by
 refine zH zMX Tryz.f278 0 22 (fun q=>?_)
 unfold zA6
 refine J_g 2 [(0,0),(1,1)] [(2,pp 0),(3,pp 1)] [(0,.box (Version.enc a1)),(1,.box (Version.enc a2))] zB ?_
 refine zA (fun x3 h4=>?_)
 refine zA (fun x5 h6=>?_)
 refine zA (fun x7 h8=>?_)
 refine zA (fun x9 h10=>?_)
 refine J_g 6 [] [(4,iv x9)] [] (zG 4 (yT [(.tmp 6),(.tmp 8)] [2,2] (yV.ok a1.A a2.A) h4) (zG 9 (yT [(.tmp 11),(.tmp 13)] [2,2] (yV.ok a1.B a2.B) h6) (zG 14 (yT [(.tmp 16),(.tmp 18)] [2,2] (yV.ok a1.C a2.C) h8) (zG 15 (zDZ 331 3 1 2 yE [x3,x5,x7] [0,1,2] [(.tmp 9),(.tmp 14),(.tmp 19)] [iv x3,iv x5,iv x7]) (zG 16 (zBI («as»:=[rr 2 [x3,x5,x7]]) [(.tmp 20)] [331] true [(2,rE 1 yE [x3,x5,x7])] [] (.cons (zFv (.head _) (fun _=>rfl) rfl) (.nil)) (zCe.ok [x3,x5,x7]) h10 (.same rfl rfl) (hbor:=fun _=>⟨fhN,xJ⟩)) zB))))) ?_
 exact zT rfl
noncomputable def c228:Code:=(Tryz.f228.body).getD .skip
theorem jB.ok (a1:Term):Ok Tryz.prog 228 [.ag (Term.enc a1)] [] ((jB a1).map fun r=>(iv r,[])):=by
 refine zH c228 Tryz.f228 0 35 (fun q=>?_)
 unfold jB
 refine J_g 2 [(0,0)] [(1,pp 0)] [(0,.box (Term.enc a1))] zB ?_
 refine zA (fun x2 h3=>?_)
 refine J_g 12 [] [(1,pp 0),(3,iv x2)] [(0,.box (Term.enc a1))] (zG 2 (yT [(.tmp 6)] [9] (xQ.ok a1.Name) h3) zB) ?_
 refine J_d 26 [] [9] [(9,bv (x2 !=0))] [] [] zB ?_
 refine zD 9 (fun h4=>?_) (fun h4=>?_)
 ·refine J_g 108 [] [(2,iv x2)] [] zB ?_
  exact zT rfl
 ·refine zA (fun x5 h6=>?_)
  refine J_g 28 [] [(1,pp 0),(4,iv x5)] [(0,.box (Term.enc a1))] (zG 2 (yT [(.tmp 12)] [86] (yY.ok a1.Low) h6) zB) ?_
  refine J_d 58 [] [15] [(15,bv (x5 !=0))] [] [] zB ?_
  refine zD 15 (fun h7=>?_) (fun h7=>?_)
  ·refine J_g 236 [] [(2,iv x5)] [] zB ?_
   exact zT rfl
  ·refine zA (fun x8 h9=>?_)
   refine vC (atI c228 121) (fun v13:Bool=>St.mk' [(1,pp 0),(17,bv v13)] [(0,.box (Term.enc a1))]) (fun v13=>?_) (fun jv13=>?_)
   ·refine zD 17 (fun h14=>?_) (fun h14=>?_)
    ·refine J_g 484 [] [(2,iv 3)] [] zB ?_
     exact zT rfl
    ·refine zA (fun x15 h16=>?_)
     refine J_g 486 [] [(28,bv (decide (x15≥0)))] [] (zG 4 (yT [(.tmp 30),(.tmp 32)] [86,86] (zA6.ok a1.Low a1.High) h16) zB) ?_
     refine zD 28 (fun h17=>?_) (fun h17=>?_)
     ·refine J_g 1948 [] [(2,iv 1)] [] zB ?_
      exact zT rfl
     ·refine J_g 62 [] [(2,iv 0)] [] zB ?_
      exact zT rfl
   ·refine wG (fun h10=>?_) (fun h10=>?_)
    ·refine zA (fun x11 h12=>?_)
     refine J_d 120 [] [4,15,17] [(17,bv (x11 !=0))] [] [] (zG 2 (yT [] [] (zC6.ok) h9) (zG 3 (zIE (b:=.neq) (r:=(a1.High.A==x8.A&&(a1.High.B==x8.B&&(a1.High.C==x8.C&&true)))) 86 86 (.tmp 19) (.tmp 20) [.int .i64 a1.High.A,.int .i64 a1.High.B,.int .i64 a1.High.C] [.int .i64 x8.A,.int .i64 x8.B,.int .i64 x8.C] (.inr ⟨rfl,rfl⟩)) (xK 4 [(21,bv (!(a1.High.A==x8.A&&(a1.High.B==x8.B&&(a1.High.C==x8.C&&true)))))] [] h10 (zBU 7 4 22 true (yT [(.tmp 24)] [86] (yY.ok a1.High) h12) zB)))) ?_
     exact xC (J_j (jv13 (x11 !=0))) rfl
    ·refine J_d 120 [] [4,15,17] [(17,bv false)] [] [] (zG 2 (yT [] [] (zC6.ok) h9) (zG 3 (zIE (b:=.neq) (r:=(a1.High.A==x8.A&&(a1.High.B==x8.B&&(a1.High.C==x8.C&&true)))) 86 86 (.tmp 19) (.tmp 20) [.int .i64 a1.High.A,.int .i64 a1.High.B,.int .i64 a1.High.C] [.int .i64 x8.A,.int .i64 x8.B,.int .i64 x8.C] (.inr ⟨rfl,rfl⟩)) (xK 4 [(21,bv (!(a1.High.A==x8.A&&(a1.High.B==x8.B&&(a1.High.C==x8.C&&true)))))] [] h10 zB))) ?_
     exact xC (J_j (jv13 false)) rfl
noncomputable def c193:Code:=(Tryz.f193.body).getD .skip
theorem tF.ok (a1:(List Term)) (q:Wd) (kn:Unit→Option (D×List Ent)) (hk:∀v:Unit,J (q.g Tryz.prog 193 0 18) c193 (atI c193 7) (St.mk' [] []) (some v) kn):
  ∀s8:Int,J (q.g Tryz.prog 193 0 18) c193 (atI c193 52) (St.mk' [(6,sl 7 Term.enc a1),(7,iv (a1.length:Int)),(8,iv s8)] []) (tF a1 s8) (Fl.go (fun r:Int=>some (iv r,[])) kn):=by
 refine zAU (fun g ih s8=>?_)
 unfold uG
 refine J_d 104 [] [9] [(9,bv (decide (s8< (a1.length:Int))))] [] [] zB ?_
 refine zD 9 (fun h9=>?_) (fun h9=>?_)
 ·refine zA (fun x10 h11=>?_)
  refine J_d 1688 [(2,0)] [4,9] [(4,pp 0)] [0] [(0,.box (Term.enc x10))] (zG 0 (uE (kk:=.i64) 53 153 7 Term.enc (.tmp 6) (.tmp 8) h11) zB) ?_
  refine zA (fun x12 h13=>?_)
  refine J_g 3378 [] [(5,iv x12),(6,sl 7 Term.enc a1),(7,iv (a1.length:Int)),(8,iv s8)] [] (zG 1 (yT [(.tmp 12)] [153] (jB.ok x10) h13) zB) ?_
  refine J_d 6758 [] [15] [(15,bv (x12 !=0))] [] [] zB ?_
  refine zD 15 (fun h14=>?_) (fun h14=>?_)
  ·refine J_g 27036 [] [(2,iv x12)] [] zB ?_
   exact zT rfl
  ·refine J_d 423 [] [5,8,15] [(8,iv (w64 (s8+1)))] [] [] zB ?_
   exact J_q (J_b (ih (w64 (s8+1)))) rfl
 ·exact xC (hk ()) rfl
theorem xS.ok (a1:(List Term)):Ok Tryz.prog 193 [sl 7 Term.enc a1] [] ((xS a1).map fun r=>(iv r,[])):=by
 refine zH c193 Tryz.f193 0 18 (fun q=>?_)
 unfold xS
 refine J_g 2 [] [(0,sl 7 Term.enc a1)] [] zB ?_
 refine J_g 12 [] [(6,sl 7 Term.enc a1),(7,iv (a1.length:Int)),(8,iv 0)] [] zB ?_
 refine jL (K0:=(fun r:Int=>some (iv r,[]))) (fun _=>rfl) (tF.ok a1 q _ (fun v15=>J_j ?_) 0)
 refine J_g 14 [] [(2,iv 0)] [] zB ?_
 exact zT rfl
noncomputable def zJo:Code:=(Tryz.f112.body).getD .skip
theorem vS.ok (a1:Pack) (q:Wd) (kn:Unit→Option (D×List Ent)) (hk:∀v:Unit,J (q.g Tryz.prog 112 0 93) zJo (atI zJo 63) (St.mk' [(1,pp 0)] [(0,.box (Pack.enc false a1))]) (some v) kn):
  ∀s54:Int,J (q.g Tryz.prog 112 0 93) zJo (atI zJo 500) (St.mk' [(1,pp 0),(75,sl 1 (eSl false 7 Term.enc) a1.Needs),(76,iv (a1.Needs.length:Int)),(77,iv s54)] [(0,.box (Pack.enc false a1))]) (vS a1 s54) (Fl.go (fun r:Int=>some (iv r,[])) kn):=by
 refine zAU (fun g ih s54=>?_)
 unfold tO
 refine J_d 1000 [] [78] [(78,bv (decide (s54< (a1.Needs.length:Int))))] [] [] zB ?_
 refine zD 78 (fun h55=>?_) (fun h55=>?_)
 ·refine zA (fun x56 h57=>?_)
  refine J_g 16024 [] [(1,pp 0),(8,sl 7 Term.enc x56),(75,sl 1 (eSl false 7 Term.enc) a1.Needs),(76,iv (a1.Needs.length:Int)),(77,iv s54)] [(0,.box (Pack.enc false a1))] (zG 0 (uE (kk:=.i64) 87 53 1 (eSl false 7 Term.enc) (.tmp 75) (.tmp 77) h57) zB) ?_
  refine J_d 64100 [] [83] [(83,bv ((x56.length:Int)==0))] [] [] zB ?_
  refine zD 83 (fun h58=>?_) (fun h58=>?_)
  ·refine J_g 256404 [] [(2,iv 1)] [] zB ?_
   exact zT rfl
  ·refine zA (fun x59 h60=>?_)
   refine J_g 64102 [] [(1,pp 0),(9,iv x59),(75,sl 1 (eSl false 7 Term.enc) a1.Needs),(76,iv (a1.Needs.length:Int)),(77,iv s54)] [(0,.box (Pack.enc false a1))] (zG 1 (yT [(.tmp 84)] [53] (xS.ok x56) h60) zB) ?_
   refine J_d 128206 [] [87] [(87,bv (x59 !=0))] [] [] zB ?_
   refine zD 87 (fun h61=>?_) (fun h61=>?_)
   ·refine J_g 512828 [] [(2,iv x59)] [] zB ?_
    exact zT rfl
   ·refine J_d 4007 [] [9,77,87] [(77,iv (w64 (s54+1)))] [] [] zB ?_
    exact J_q (J_b (ih (w64 (s54+1)))) rfl
 ·exact xC (hk ()) rfl
theorem vX.ok (a1:Pack) (q:Wd) (kn:Unit→Option (D×List Ent)) (hk:∀v:Unit,J (q.g Tryz.prog 112 0 93) zJo (atI zJo 31) (St.mk' [(1,pp 0)] [(0,.box (Pack.enc false a1))]) (some v) kn):
  ∀s32:Int,J (q.g Tryz.prog 112 0 93) zJo (atI zJo 244) (St.mk' [(1,pp 0),(49,sl 1 eStr a1.Provides),(50,iv (a1.Provides.length:Int)),(51,iv s32)] [(0,.box (Pack.enc false a1))]) (vX a1 s32) (Fl.go (fun r:Int=>some (iv r,[])) kn):=by
 refine zAU (fun g ih s32=>?_)
 unfold tC
 refine J_d 488 [] [52] [(52,bv (decide (s32< (a1.Provides.length:Int))))] [] [] zB ?_
 refine zD 52 (fun h33=>?_) (fun h33=>?_)
 ·refine zA (fun x34 h35=>?_)
  refine J_d 7832 [] [4,5,52] [(4,iv s32),(5,sv x34)] [] [] (zG 1 (uE (kk:=.i64) 70 9 1 eStr (.tmp 49) (.tmp 51) h35) zB) ?_
  refine zA (fun x36 h37=>?_)
  refine J_g 31332 [] [(1,pp 0),(4,iv s32),(5,sv x34),(6,iv x36),(49,sl 1 eStr a1.Provides),(50,iv (a1.Provides.length:Int)),(51,iv s32)] [(0,.box (Pack.enc false a1))] (zG 1 (yT [(.tmp 56)] [9] (xQ.ok x34) h37) zB) ?_
  refine J_d 62666 [] [59] [(59,bv (x36 !=0))] [] [] zB ?_
  refine zD 59 (fun h38=>?_) (fun h38=>?_)
  ·refine J_g 250668 [] [(2,iv x36)] [] zB ?_
   exact zT rfl
  ·refine vC (atI zJo 31335) (fun v44:Bool=>St.mk' [(1,pp 0),(49,sl 1 eStr a1.Provides),(50,iv (a1.Provides.length:Int)),(51,iv s32),(72,bv v44)] [(0,.box (Pack.enc false a1))]) (fun v44=>?_) (fun jv44=>?_)
   ·refine zD 72 (fun h45=>?_) (fun h45=>?_)
    ·refine J_g 125340 [] [(2,iv 6)] [] zB ?_
     exact zT rfl
    ·refine J_d 1959 [] [51,72] [(51,iv (w64 (s32+1)))] [] [] zB ?_
     exact J_q (J_b (ih (w64 (s32+1)))) rfl
   ·refine wG (fun h39=>?_) (fun h39=>?_)
    ·refine J_d 31334 [] [4,5,6,59,72] [(72,bv true)] [] [] (xK 4 [(64,bv (seq x34 a1.Name))] [] h39 zB) ?_
     exact xC (J_j (jv44 true)) rfl
    ·refine zA (fun x40 h41=>?_)
     refine zA (fun x42 h43=>?_)
     refine J_d 31334 [] [4,5,6,59,72] [(72,bv x42)] [] [] (xK 4 [(64,bv (seq x34 a1.Name))] [] h39 (zBU 8 4 65 false (zMi 70 9 1 eStr (.tmp 67) none (some (.tmp 68)) h41) (zBU 10 4 65 false (yT [(.tmp 69),(.tmp 70)] [70,9] (yZ.ok x40 x34) h43) zB))) ?_
     exact xC (J_j (jv44 x42)) rfl
 ·exact xC (hk ()) rfl
theorem tZ.ok (a1:Pack):Ok Tryz.prog 112 [.ag (Pack.enc false a1)] [] ((tZ a1).map fun r=>(iv r,[])):=by
 refine zH zJo Tryz.f112 0 93 (fun q=>?_)
 unfold tZ
 refine J_g 2 [(0,0)] [(1,pp 0)] [(0,.box (Pack.enc false a1))] zB ?_
 refine zA (fun x2 h3=>?_)
 refine zA (fun x4 h5=>?_)
 refine zA (fun x6 h7=>?_)
 refine J_g 12 [] [(1,pp 0),(3,iv x6)] [(0,.box (Pack.enc false a1))] (zG 2 (yT [(.tmp 11)] [9] (xQ.ok a1.Name) h3) (zG 5 (yT [(.tmp 14)] [86] (yY.ok a1.Version) h5) (zG 6 (zDZ 42 2 1 1 yE [x2,x4] [0,1] [(.tmp 12),(.tmp 15)] [iv x2,iv x4]) (zG 7 (zBI («as»:=[rr 1 [x2,x4]]) [(.tmp 16)] [42] true [(1,rE 1 yE [x2,x4])] [] (.cons (zFv (.head _) (fun _=>rfl) rfl) (.nil)) (xA.ok [x2,x4]) h7 (.same rfl rfl) (hbor:=fun _=>⟨fhN,xJ⟩)) zB)))) ?_
 refine J_d 26 [] [19] [(19,bv (x6 !=0))] [] [] zB ?_
 refine zD 19 (fun h8=>?_) (fun h8=>?_)
 ·refine J_g 108 [] [(2,iv x6)] [] zB ?_
  exact zT rfl
 ·refine zA (fun x9 h10=>?_)
  refine J_d 56 [] [3,19,21] [(21,bv (!x9))] [] [] (zG 2 (yT [(.tmp 23),(.const (.int .i64 1)),(.const (.int .i64 200))] [2,2,2] (yK.ok a1.Size 1 200) h10) zB) ?_
  refine zD 21 (fun h11=>?_) (fun h11=>?_)
  ·refine J_g 228 [] [(2,iv 3)] [] zB ?_
   exact zT rfl
  ·refine vC (atI zJo 231) (fun v17:Bool=>St.mk' [(1,pp 0),(26,bv v17)] [(0,.box (Pack.enc false a1))]) (fun v17=>?_) (fun jv17=>?_)
   ·refine zD 26 (fun h18=>?_) (fun h18=>?_)
    ·refine J_g 924 [] [(2,iv 2)] [] zB ?_
     exact zT rfl
    ·refine J_d 60 [] [26,49,50,51] [(49,sl 1 eStr a1.Provides),(50,iv (a1.Provides.length:Int)),(51,iv 0)] [] [] zB ?_
     refine jL (K0:=(fun r:Int=>some (iv r,[]))) (fun _=>rfl) (vX.ok a1 q _ (fun v46=>J_j ?_) 0)
     refine J_d 124 [] [75,76,77] [(75,sl 1 (eSl false 7 Term.enc) a1.Needs),(76,iv (a1.Needs.length:Int)),(77,iv 0)] [] [] zB ?_
     refine jL (K0:=(fun r:Int=>some (iv r,[]))) (fun _=>rfl) (vS.ok a1 q _ (fun v62=>J_j ?_) 0)
     refine zA (fun x63 h64=>?_)
     refine J_g 126 [] [(2,iv x63)] [] (zG 2 (yT [(.tmp 91)] [53] (xS.ok a1.Bars) h64) zB) ?_
     exact zT rfl
   ·refine wG (fun h12=>?_) (fun h12=>?_)
    ·refine J_d 230 [] [21,26] [(26,bv true)] [] [] (xK 4 [(30,bv (decide ((a1.Provides.length:Int)>4)))] [] h12 zB) ?_
     exact xC (J_j (jv17 true)) rfl
    ·refine wG (fun h13=>?_) (fun h13=>?_)
     ·refine J_d 230 [] [21,26] [(26,bv true)] [] [] (xK 4 [(30,bv (decide ((a1.Provides.length:Int)>4)))] [] h12 (xK 10 [(36,bv (decide ((a1.Needs.length:Int)>4)))] [] h13 zB)) ?_
      exact xC (J_j (jv17 true)) rfl
     ·refine wG (fun h14=>?_) (fun h14=>?_)
      ·refine J_d 230 [] [21,26] [(26,bv true)] [] [] (xK 4 [(30,bv (decide ((a1.Provides.length:Int)>4)))] [] h12 (xK 10 [(36,bv (decide ((a1.Needs.length:Int)>4)))] [] h13 (xK 16 [(42,bv (decide ((a1.Bars.length:Int)>4)))] [] h14 zB))) ?_
       exact xC (J_j (jv17 true)) rfl
      ·refine zA (fun x15 h16=>?_)
       refine J_d 230 [] [21,26] [(26,bv x15)] [] [] (xK 4 [(30,bv (decide ((a1.Provides.length:Int)>4)))] [] h12 (xK 10 [(36,bv (decide ((a1.Needs.length:Int)>4)))] [] h13 (xK 16 [(42,bv (decide ((a1.Bars.length:Int)>4)))] [] h14 (zBU 19 16 43 false (zBI («as»:=[sl 1 (eSl false 7 Term.enc) a1.Needs,.fn 192 []]) [(.tmp 45),(.func 192)] [87,186] false [] [] (.cons (.same rfl) (.cons (.fn (.nil)) (.nil))) (zJ.ok a1.Needs) h16 (.same rfl rfl)) zB)))) ?_
       exact xC (J_j (jv17 x15)) rfl
noncomputable def zN7:Code:=(Tryz.f195.body).getD .skip
theorem zBJ.ok (a1:Pack) (a2:ByteArray) (a3:Version):Ok Tryz.prog 195 [.ag (Pack.enc false a1),pp 0,pp 1] [.box [sv a2],.box (Version.enc a3)] ((zBJ a1 a2 a3).map fun r=>(bv r,[.box [sv a2],.box (Version.enc a3)])):=by
 refine zH zN7 Tryz.f195 2 15 (fun q=>?_)
 unfold zBJ
 refine J_d 2 [(0,2)] [0,3] [(3,pp 2)] [2] [(2,.box (Pack.enc false a1))] zB ?_
 refine wG (fun h4=>?_) (fun h4=>?_)
 ·refine J_d 6 [] [1,2,3,4] [(4,bv (a1.Version.A==a3.A&&(a1.Version.B==a3.B&&(a1.Version.C==a3.C&&true))))] [2] [] (xK 4 [(8,bv (seq a1.Name a2))] [] h4 (zBU 8 4 9 true (zIE (b:=.eql) (r:=(a1.Version.A==a3.A&&(a1.Version.B==a3.B&&(a1.Version.C==a3.C&&true)))) 86 86 (.tmp 11) (.tmp 12) [.int .i64 a1.Version.A,.int .i64 a1.Version.B,.int .i64 a1.Version.C] [.int .i64 a3.A,.int .i64 a3.B,.int .i64 a3.C] (.inl ⟨rfl,rfl⟩)) zB)) ?_
  exact zT rfl
 ·refine J_d 6 [] [1,2,3,4] [(4,bv false)] [2] [] (xK 4 [(8,bv (seq a1.Name a2))] [] h4 zB) ?_
  exact zT rfl
noncomputable def c194:Code:=(Tryz.f194.body).getD .skip
theorem yJ.ok (a1:(List Pack)) (a2:ByteArray) (a3:Version) (q:Wd) (kn:Unit→Option (D×List Ent)) (hk:∀v:Unit,J (q.g Tryz.prog 194 2 19) c194 (atI c194 7) (St.mk' [] [(0,.box [sv a2]),(1,.box (Version.enc a3))]) (some v) kn):
  ∀s10:Int,J (q.g Tryz.prog 194 2 19) c194 (atI c194 52) (St.mk' [(0,sl 8 (Pack.enc false) a1),(1,.fn 195 [pp 0,pp 1]),(7,iv (a1.length:Int)),(8,iv s10)] [(0,.box [sv a2]),(1,.box (Version.enc a3))]) (yJ a1 a2 a3 s10) (Fl.go (fun r:Int=>some (iv r,[.box [sv a2],.box (Version.enc a3)])) kn):=by
 refine zAU (fun g ih s10=>?_)
 unfold yI
 refine J_d 104 [] [9] [(9,bv (decide (s10< (a1.length:Int))))] [] [] zB ?_
 refine zD 9 (fun h11=>?_) (fun h11=>?_)
 ·refine J_d 1688 [] [5,9] [(5,iv s10)] [] [] zB ?_
  refine zA (fun x12 h13=>?_)
  refine zA (fun x14 h15=>?_)
  refine J_d 3378 [] [16] [(16,bv x14)] [] [] (zG 3 (uE (kk:=.i64) 24 89 8 (Pack.enc false) (.tmp 12) (.tmp 13) h13) (zG 5 (zFl [(0,.box [sv a2]),(1,.box (Version.enc a3))] [] (zIO 11 [(.tmp 15)] [89] false [(0,.box [sv a2]),(1,.box (Version.enc a3))] [0,1] [.ag (Pack.enc false x12)] [pp 0,pp 1] (.cons (.same rfl) (.cons (.pt rfl) (.cons (.pt rfl) (.nil)))) (zBJ.ok x12 a2 a3) h15 (.same rfl rfl))) zB)) ?_
  refine zD 16 (fun h16=>?_) (fun h16=>?_)
  ·refine J_d 13516 [] [0,1,4,5,7,8,16] [(4,iv s10)] [] [] zB ?_
   exact zT rfl
  ·refine J_d 423 [] [5,8,16] [(8,iv (w64 (s10+1)))] [] [] zB ?_
   exact J_q (J_b (ih (w64 (s10+1)))) rfl
 ·exact xC (hk ()) rfl
theorem yD.ok (a1:(List Pack)) (a2:ByteArray) (a3:Version):Ok Tryz.prog 194 [sl 8 (Pack.enc false) a1,.fn 195 [pp 0,pp 1]] [.box [sv a2],.box (Version.enc a3)] ((yD a1 a2 a3).map fun r=>(iv r,[.box [sv a2],.box (Version.enc a3)])):=by
 refine zH c194 Tryz.f194 2 19 (fun q=>?_)
 unfold yD
 refine J_g 2 [] [(0,sl 8 (Pack.enc false) a1),(1,.fn 195 [pp 0,pp 1])] [(0,.box [sv a2]),(1,.box (Version.enc a3))] zB ?_
 refine J_d 12 [] [7,8] [(7,iv (a1.length:Int)),(8,iv 0)] [] [] zB ?_
 refine jL (K0:=(fun r:Int=>some (iv r,[.box [sv a2],.box (Version.enc a3)]))) (fun _=>rfl) (yJ.ok a1 a2 a3 q _ (fun v17=>J_j ?_) 0)
 refine J_d 14 [] [4] [(4,iv (-1))] [] [] zB ?_
 exact zT rfl
noncomputable def zMN:Code:=(Tryz.f113.body).getD .skip
theorem zBT.ok (a1:(List Pack)) (a2:ByteArray) (a3:Version):Ok Tryz.prog 113 [sl 8 (Pack.enc false) a1,sv a2,.ag (Version.enc a3)] [] ((zBT a1 a2 a3).map fun r=>(iv r,[])):=by
 refine zH zMN Tryz.f113 0 10 (fun q=>?_)
 unfold zBT
 refine J_d 2 [(0,0),(1,1)] [1,2,4,5] [(4,pp 0),(5,pp 1)] [0,1] [(0,.box [sv a2]),(1,.box (Version.enc a3))] zB ?_
 refine zA (fun x4 h5=>?_)
 refine J_g 6 [] [(6,iv x4)] [] (zG 2 (zFl [(0,.box [sv a2]),(1,.box (Version.enc a3))] [] (zBI («as»:=[sl 8 (Pack.enc false) a1,.fn 195 [pp 0,pp 1]]) [(.tmp 7),(.tmp 8)] [24,215] false [(0,.box [sv a2]),(1,.box (Version.enc a3))] [0,1] (.cons (.same rfl) (.cons (.fn (.cons (.pt rfl) (.cons (.pt rfl) (.nil)))) (.nil))) (yD.ok a1 a2 a3) h5 (.same rfl rfl))) zB) ?_
 exact zT rfl
noncomputable def c50:Code:=(Tryz.f50.body).getD .skip
theorem vL.ok (a1:(List Pack)) (q:Wd) (kn:Unit→Option (D×List Ent)) (hk:∀v:Unit,J (q.g Tryz.prog 50 0 31) c50 (atI c50 15) (St.mk' [] []) (some v) kn):
  ∀s14:Int,J (q.g Tryz.prog 50 0 31) c50 (atI c50 116) (St.mk' [(0,sl 8 (Pack.enc false) a1),(9,sl 8 (Pack.enc false) a1),(10,iv (a1.length:Int)),(11,iv s14)] []) (vL a1 s14) (Fl.go (fun r:Int=>some (iv r,[])) kn):=by
 refine zAU (fun g ih s14=>?_)
 unfold wZ
 refine J_d 232 [] [12] [(12,bv (decide (s14< (a1.length:Int))))] [] [] zB ?_
 refine zD 12 (fun h15=>?_) (fun h15=>?_)
 ·refine zA (fun x16 h17=>?_)
  refine J_d 3736 [(3,0)] [3,4,12] [(3,iv s14),(4,pp 0)] [0] [(0,.box (Pack.enc false x16))] (zG 1 (uE (kk:=.i64) 24 89 8 (Pack.enc false) (.tmp 9) (.tmp 11) h17) zB) ?_
  refine zA (fun x18 h19=>?_)
  refine J_g 14948 [] [(0,sl 8 (Pack.enc false) a1),(3,iv s14),(4,pp 0),(5,iv x18),(9,sl 8 (Pack.enc false) a1),(10,iv (a1.length:Int)),(11,iv s14)] [(0,.box (Pack.enc false x16))] (zG 1 (yT [(.tmp 16)] [89] (tZ.ok x16) h19) zB) ?_
  refine J_d 29898 [] [19] [(19,bv (x18 !=0))] [] [] zB ?_
  refine zD 19 (fun h20=>?_) (fun h20=>?_)
  ·refine J_g 119596 [] [(2,iv x18)] [] zB ?_
   exact zT rfl
  ·refine zA (fun x21 h22=>?_)
   refine zA (fun x23 h24=>?_)
   refine J_d 14950 [] [3,4,5,19,29] [(29,bv (decide (x23≥0)))] [0] [] (zG 2 (zMi 24 89 8 (Pack.enc false) (.tmp 21) none (some (.tmp 22)) h22) (zG 7 (yT [(.tmp 23),(.tmp 25),(.tmp 27)] [24,9,86] (zBT.ok x21 x16.Name x16.Version) h24) zB)) ?_
   refine zD 29 (fun h25=>?_) (fun h25=>?_)
   ·refine J_g 59804 [] [(2,iv 6)] [] zB ?_
    exact zT rfl
   ·refine J_d 935 [] [11,29] [(11,iv (w64 (s14+1)))] [] [] zB ?_
    exact J_q (J_b (ih (w64 (s14+1)))) rfl
 ·exact xC (hk ()) rfl
theorem xI.ok (a1:(List Pack)):Ok Tryz.prog 50 [sl 8 (Pack.enc false) a1] [] ((xI a1).map fun r=>(iv r,[])):=by
 refine zH c50 Tryz.f50 0 31 (fun q=>?_)
 unfold xI
 refine J_g 2 [] [(0,sl 8 (Pack.enc false) a1)] [] zB ?_
 refine J_d 12 [] [8] [(8,bv (decide ((a1.length:Int)>24)))] [] [] zB ?_
 refine zD 8 (fun h2=>?_) (fun h2=>?_)
 ·refine J_g 52 [] [(2,iv 2)] [] zB ?_
  exact zT rfl
 ·refine J_d 28 [] [8,9,10,11] [(9,sl 8 (Pack.enc false) a1),(10,iv (a1.length:Int)),(11,iv 0)] [] [] zB ?_
  refine jL (K0:=(fun r:Int=>some (iv r,[]))) (fun _=>rfl) (vL.ok a1 q _ (fun v26=>J_j ?_) 0)
  refine J_g 30 [] [(2,iv 0)] [] zB ?_
  exact zT rfl
noncomputable def zK6:Code:=(Tryz.f207.body).getD .skip
theorem vR.ok (a1:ByteArray) (q:Wd) (kn:Unit→Option (D×List Ent)) (hk:∀v:Unit,J (q.g Tryz.prog 207 0 37) zK6 (atI zK6 15) (St.mk' [] []) (some v) kn):
  ∀s15:Int,J (q.g Tryz.prog 207 0 37) zK6 (atI zK6 116) (St.mk' [(0,sv a1),(14,iv (a1.size:Int)),(15,iv s15)] []) (vR a1 s15) (Fl.go (fun r:Int=>some (iv r,[])) kn):=by
 refine zAU (fun g ih s15=>?_)
 unfold zBC
 refine J_d 232 [] [16] [(16,bv (decide (s15< (a1.size:Int))))] [] [] zB ?_
 refine zD 16 (fun h16=>?_) (fun h16=>?_)
 ·refine J_d 3736 [] [3,16] [(3,iv s15)] [] [] zB ?_
  refine zA (fun x17 h18=>?_)
  refine J_d 7474 [] [3,4] [(4,uv x17)] [] [] (zG 2 (zGE (kk:=.i64) 9 (.tmp 18) (.tmp 19) h18) zB) ?_
  refine zA (fun x19 h20=>?_)
  refine vC (atI zK6 14951) (fun v24:Bool=>St.mk' [(0,sv a1),(14,iv (a1.size:Int)),(15,iv s15),(35,bv v24)] []) (fun v24=>?_) (fun jv24=>?_)
  ·refine zD 35 (fun h25=>?_) (fun h25=>?_)
   ·refine J_g 59804 [] [(2,iv 5)] [] zB ?_
    exact zT rfl
   ·refine J_d 935 [] [15,35] [(15,iv (w64 (s15+1)))] [] [] zB ?_
    exact J_q (J_b (ih (w64 (s15+1)))) rfl
  ·refine wG (fun h21=>?_) (fun h21=>?_)
   ·refine wG (fun h22=>?_) (fun h22=>?_)
    ·refine wG (fun h23=>?_) (fun h23=>?_)
     ·refine J_d 14950 [] [4,35] [(35,bv (x17 !=47))] [] [] (zG 1 (yT [(.tmp 21)] [5] (yR.ok x17) h20) (xK 3 [(23,bv (!x19))] [] h21 (xK 7 [(27,bv (x17 !=46))] [] h22 (xK 11 [(31,bv (x17 !=45))] [] h23 zB)))) ?_
      exact xC (J_j (jv24 (x17 !=47))) rfl
     ·refine J_d 14950 [] [4,35] [(35,bv false)] [] [] (zG 1 (yT [(.tmp 21)] [5] (yR.ok x17) h20) (xK 3 [(23,bv (!x19))] [] h21 (xK 7 [(27,bv (x17 !=46))] [] h22 (xK 11 [(31,bv (x17 !=45))] [] h23 zB)))) ?_
      exact xC (J_j (jv24 false)) rfl
    ·refine J_d 14950 [] [4,35] [(35,bv false)] [] [] (zG 1 (yT [(.tmp 21)] [5] (yR.ok x17) h20) (xK 3 [(23,bv (!x19))] [] h21 (xK 7 [(27,bv (x17 !=46))] [] h22 zB))) ?_
     exact xC (J_j (jv24 false)) rfl
   ·refine J_d 14950 [] [4,35] [(35,bv false)] [] [] (zG 1 (yT [(.tmp 21)] [5] (yR.ok x17) h20) (xK 3 [(23,bv (!x19))] [] h21 zB)) ?_
    exact xC (J_j (jv24 false)) rfl
 ·exact xC (hk ()) rfl
theorem jI.ok (a1:ByteArray):Ok Tryz.prog 207 [sv a1] [] ((jI a1).map fun r=>(iv r,[])):=by
 refine zH zK6 Tryz.f207 0 37 (fun q=>?_)
 unfold jI
 refine J_g 2 [] [(0,sv a1)] [] zB ?_
 refine vC (atI zK6 13) (fun v3:Bool=>St.mk' [(0,sv a1),(12,bv v3)] []) (fun v3=>?_) (fun jv3=>?_)
 ·refine zD 12 (fun h4=>?_) (fun h4=>?_)
  ·refine J_g 52 [] [(2,iv 5)] [] zB ?_
   exact zT rfl
  ·refine J_g 28 [] [(0,sv a1),(14,iv (a1.size:Int)),(15,iv 0)] [] zB ?_
   refine jL (K0:=(fun r:Int=>some (iv r,[]))) (fun _=>rfl) (vR.ok a1 q _ (fun v26=>J_j ?_) 0)
   refine J_g 30 [] [(2,iv 0)] [] zB ?_
   exact zT rfl
 ·refine wG (fun h2=>?_) (fun h2=>?_)
  ·refine J_g 12 [] [(0,sv a1),(12,bv true)] [] (xK 3 [(7,bv (decide ((a1.size:Int)<1)))] [] h2 zB) ?_
   exact xC (J_j (jv3 true)) rfl
  ·refine J_g 12 [] [(0,sv a1),(12,bv (decide ((a1.size:Int)>40)))] [] (xK 3 [(7,bv (decide ((a1.size:Int)<1)))] [] h2 zB) ?_
   exact xC (J_j (jv3 (decide ((a1.size:Int)>40)))) rfl
noncomputable def zLV:Code:=(Tryz.f161.body).getD .skip
theorem zAb.ok (a1:zI) (q:Wd) (kn:Int→Option (D×List Ent)) (hk:∀v:Int,J (q.g Tryz.prog 161 0 20) zLV (atI zLV 15) (St.mk' [(3,iv v)] []) (some v) kn):
  ∀s5:(Int×Int),J (q.g Tryz.prog 161 0 20) zLV (atI zLV 116) (St.mk' [(3,iv s5.1),(7,sl 2 (File.enc false) a1.Files),(8,iv (a1.Files.length:Int)),(9,iv s5.2)] []) (zAb a1 s5) kn:=by
 refine zAU (fun g ih s5=>?_)
 unfold zCf
 refine J_d 232 [] [10] [(10,bv (decide (s5.2< (a1.Files.length:Int))))] [] [] zB ?_
 refine zD 10 (fun h6=>?_) (fun h6=>?_)
 ·refine zA (fun x7 h8=>?_)
  refine J_g 3736 [(2,0)] [(3,iv s5.1),(5,pp 0),(7,sl 2 (File.enc false) a1.Files),(8,iv (a1.Files.length:Int)),(9,iv s5.2)] [(0,.box (File.enc false x7))] (zG 0 (uE (kk:=.i64) 25 113 2 (File.enc false) (.tmp 7) (.tmp 9) h8) zB) ?_
  refine J_g 3737 [] [(3,iv (w64 (s5.1+(x7.Data.length:Int)))),(7,sl 2 (File.enc false) a1.Files),(8,iv (a1.Files.length:Int)),(9,iv s5.2)] [] zB ?_
  refine J_d 935 [] [9] [(9,iv (w64 (s5.2+1)))] [] [] zB ?_
  exact J_q (J_b (ih (w64 (s5.1+(x7.Data.length:Int)),w64 (s5.2+1)))) rfl
 ·exact xC (hk s5.1) rfl
theorem zAi.ok (a1:zI):Ok Tryz.prog 161 [.ag (zI.enc false a1)] [] ((zAi a1).map fun r=>(iv r,[])):=by
 refine zH zLV Tryz.f161 0 20 (fun q=>?_)
 unfold zAi
 refine J_g 2 [(0,0)] [(1,pp 0)] [(0,.box (zI.enc false a1))] zB ?_
 refine J_g 6 [] [(1,pp 0),(3,iv 0)] [(0,.box (zI.enc false a1))] zB ?_
 refine J_g 28 [] [(3,iv 0),(7,sl 2 (File.enc false) a1.Files),(8,iv (a1.Files.length:Int)),(9,iv 0)] [] zB ?_
 refine zDT (zAb.ok a1 q _ (fun v9=>J_j ?_) (0,0))
 refine J_g 30 [] [(2,iv v9)] [] zB ?_
 exact zT rfl
noncomputable def c131:Code:=(Tryz.f131.body).getD .skip
theorem uD.ok (a1:zI) (q:Wd) (kn:Unit→Option (D×List Ent)) (hk:∀v:Unit,J (q.g Tryz.prog 131 0 68) c131 (atI c131 15) (St.mk' [(1,pp 0)] [(0,.box (zI.enc false a1))]) (some v) kn):
  ∀s25:Int,J (q.g Tryz.prog 131 0 68) c131 (atI c131 116) (St.mk' [(1,pp 0),(29,sl 2 (File.enc false) a1.Files),(30,iv (a1.Files.length:Int)),(31,iv s25)] [(0,.box (zI.enc false a1))]) (uD a1 s25) (Fl.go (fun r:Int=>some (iv r,[])) kn):=by
 refine zAU (fun g ih s25=>?_)
 unfold zBD
 refine J_d 232 [] [32] [(32,bv (decide (s25< (a1.Files.length:Int))))] [] [] zB ?_
 refine zD 32 (fun h26=>?_) (fun h26=>?_)
 ·refine zA (fun x27 h28=>?_)
  refine J_d 3736 [(3,1)] [3,4,32] [(3,iv s25),(4,pp 1)] [1] [(1,.box (File.enc false x27))] (zG 1 (uE (kk:=.i64) 25 113 2 (File.enc false) (.tmp 29) (.tmp 31) h28) zB) ?_
  refine zA (fun x29 h30=>?_)
  refine J_g 14948 [] [(1,pp 0),(3,iv s25),(4,pp 1),(5,iv x29),(29,sl 2 (File.enc false) a1.Files),(30,iv (a1.Files.length:Int)),(31,iv s25)] [(0,.box (zI.enc false a1)),(1,.box (File.enc false x27))] (zG 2 (yT [(.tmp 37)] [9] (jI.ok x27.Path) h30) zB) ?_
  refine J_d 29898 [] [40] [(40,bv (x29 !=0))] [] [] zB ?_
  refine zD 40 (fun h31=>?_) (fun h31=>?_)
  ·refine J_g 119596 [] [(2,iv x29)] [] zB ?_
   exact zT rfl
  ·refine vC (atI c131 29901) (fun v35:Bool=>St.mk' [(1,pp 0),(4,pp 1),(29,sl 2 (File.enc false) a1.Files),(30,iv (a1.Files.length:Int)),(31,iv s25),(42,bv v35)] [(0,.box (zI.enc false a1)),(1,.box (File.enc false x27))]) (fun v35=>?_) (fun jv35=>?_)
   ·refine zD 42 (fun h36=>?_) (fun h36=>?_)
    ·refine J_g 119604 [] [(2,iv 1)] [] zB ?_
     exact zT rfl
    ·refine J_d 119606 [] [4,42,57] [(57,bv (decide ((x27.Data.length:Int)>4000)))] [1] [] zB ?_
     refine zD 57 (fun h37=>?_) (fun h37=>?_)
     ·refine J_g 478428 [] [(2,iv 2)] [] zB ?_
      exact zT rfl
     ·refine J_d 935 [] [31,57] [(31,iv (w64 (s25+1)))] [] [] zB ?_
      exact J_q (J_b (ih (w64 (s25+1)))) rfl
   ·refine wG (fun h32=>?_) (fun h32=>?_)
    ·refine zA (fun x33 h34=>?_)
     refine J_d 29900 [] [3,5,40,42] [(42,bv (slt x27.Path x33.Path||seq x27.Path x33.Path))] [] [] (xK 2 [(44,bv (decide (s25>0)))] [] h32 (zBU 9 2 45 true (uE (kk:=.i64) 25 113 2 (File.enc false) (.tmp 49) (.tmp 51) h34) zB)) ?_
     exact xC (J_j (jv35 (slt x27.Path x33.Path||seq x27.Path x33.Path))) rfl
    ·refine J_d 29900 [] [3,5,40,42] [(42,bv false)] [] [] (xK 2 [(44,bv (decide (s25>0)))] [] h32 zB) ?_
     exact xC (J_j (jv35 false)) rfl
 ·exact xC (hk ()) rfl
theorem jK.ok (a1:zI):Ok Tryz.prog 131 [.ag (zI.enc false a1)] [] ((jK a1).map fun r=>(iv r,[])):=by
 refine zH c131 Tryz.f131 0 68 (fun q=>?_)
 unfold jK
 refine J_g 2 [(0,0)] [(1,pp 0)] [(0,.box (zI.enc false a1))] zB ?_
 refine zA (fun x2 h3=>?_)
 refine vC (atI c131 25) (fun v10:Bool=>St.mk' [(1,pp 0),(6,bv v10)] [(0,.box (zI.enc false a1))]) (fun v10=>?_) (fun jv10=>?_)
 ·refine zD 6 (fun h11=>?_) (fun h11=>?_)
  ·refine J_g 100 [] [(2,iv 3)] [] zB ?_
   exact zT rfl
  ·refine J_d 102 [] [6,23] [(23,bv (decide ((a1.Files.length:Int)>120)))] [] [] zB ?_
   refine zD 23 (fun h12=>?_) (fun h12=>?_)
   ·refine J_g 412 [] [(2,iv 2)] [] zB ?_
    exact zT rfl
   ·refine J_d 28 [] [23,29,30,31] [(29,sl 2 (File.enc false) a1.Files),(30,iv (a1.Files.length:Int)),(31,iv 0)] [] [] zB ?_
    refine jL (K0:=(fun r:Int=>some (iv r,[]))) (fun _=>rfl) (uD.ok a1 q _ (fun v38=>J_j ?_) 0)
    refine zA (fun x39 h40=>?_)
    refine J_g 60 [] [(67,bv (decide (x39>a1.Budget)))] [] (zG 1 (yT [(.tmp 63)] [27] (zAi.ok a1) h40) zB) ?_
    refine zD 67 (fun h41=>?_) (fun h41=>?_)
    ·refine J_g 244 [] [(2,iv 8)] [] zB ?_
     exact zT rfl
    ·refine J_g 62 [] [(2,iv 0)] [] zB ?_
     exact zT rfl
 ·refine wG (fun h4=>?_) (fun h4=>?_)
  ·refine J_d 24 [] [6] [(6,bv true)] [] [] (zG 2 (yT [(.tmp 8),(.const (.int .i64 0)),(.const (.int .i64 20000))] [2,2,2] (yK.ok a1.Budget 0 20000) h3) (xK 4 [(10,bv (!x2))] [] h4 zB)) ?_
   exact xC (J_j (jv10 true)) rfl
  ·refine zA (fun x5 h6=>?_)
   refine wG (fun h7=>?_) (fun h7=>?_)
   ·refine J_d 24 [] [6] [(6,bv true)] [] [] (zG 2 (yT [(.tmp 8),(.const (.int .i64 0)),(.const (.int .i64 20000))] [2,2,2] (yK.ok a1.Budget 0 20000) h3) (xK 4 [(10,bv (!x2))] [] h4 (zBU 7 4 11 false (yT [(.tmp 13),(.const (.int .i64 0)),(.const (.int .i64 1000000000))] [2,2,2] (yK.ok a1.Writes 0 1000000000) h6) (xK 10 [(16,bv (!x5))] [] h7 zB)))) ?_
    exact xC (J_j (jv10 true)) rfl
   ·refine zA (fun x8 h9=>?_)
    refine J_d 24 [] [6] [(6,bv (!x8))] [] [] (zG 2 (yT [(.tmp 8),(.const (.int .i64 0)),(.const (.int .i64 20000))] [2,2,2] (yK.ok a1.Budget 0 20000) h3) (xK 4 [(10,bv (!x2))] [] h4 (zBU 7 4 11 false (yT [(.tmp 13),(.const (.int .i64 0)),(.const (.int .i64 1000000000))] [2,2,2] (yK.ok a1.Writes 0 1000000000) h6) (xK 10 [(16,bv (!x5))] [] h7 (zBU 13 10 17 false (yT [(.tmp 19),(.const (.int .i64 (-1))),(.const (.int .i64 1000000000))] [2,2,2] (yK.ok a1.Stop (-1) 1000000000) h9) zB))))) ?_
    exact xC (J_j (jv10 (!x8))) rfl
noncomputable def c68:Code:=(Tryz.f68.body).getD .skip
theorem vM.ok (a1:(List Pack)) (a2:zI):Ok Tryz.prog 68 [sl 8 (Pack.enc false) a1,.ag (zI.enc false a2)] [] ((vM a1 a2).map fun r=>(iv r,[])):=by
 refine zH c68 Tryz.f68 0 11 (fun q=>?_)
 unfold vM
 refine J_d 2 [(0,0)] [1,3] [(3,pp 0)] [0] [(0,.box (zI.enc false a2))] zB ?_
 refine zA (fun x3 h4=>?_)
 refine zA (fun x5 h6=>?_)
 refine zA (fun x7 h8=>?_)
 refine J_g 6 [] [(4,iv x7)] [] (zG 1 (yT [(.tmp 5)] [24] (xI.ok a1) h4) (zG 3 (yT [(.tmp 7)] [27] (jK.ok a2) h6) (zG 4 (zDZ 42 2 1 1 yE [x3,x5] [0,1] [(.tmp 6),(.tmp 8)] [iv x3,iv x5]) (zG 5 (zBI («as»:=[rr 1 [x3,x5]]) [(.tmp 9)] [42] true [(1,rE 1 yE [x3,x5])] [] (.cons (zFv (.head _) (fun _=>rfl) rfl) (.nil)) (xA.ok [x3,x5]) h8 (.same rfl rfl) (hbor:=fun _=>⟨fhN,xJ⟩)) zB)))) ?_
 exact zT rfl
noncomputable def c208:Code:=(Tryz.f208.body).getD .skip
theorem uP.ok (a1:Int) (a2:(List Pack)):Ok Tryz.prog 208 [iv a1,pp 0] [.box [sl 8 (Pack.enc false) a2]] ((uP a1 a2).map fun r=>(bv r,[.box [sl 8 (Pack.enc false) a2]])):=by
 refine zH c208 Tryz.f208 1 10 (fun q=>?_)
 unfold uP
 refine J_d 2 [] [] [] [] [] zB ?_
 refine zA (fun x3 h4=>?_)
 refine J_d 6 [] [0,1,3] [(3,bv (!x3))] [] [] (zG 4 (yT [(.tmp 4),(.const (.int .i64 0)),(.tmp 7)] [2,2,2] (yK.ok a1 0 (w64 ((a2.length:Int)-1))) h4) zB) ?_
 exact zT rfl
noncomputable def zJA:Code:=(Tryz.f249.body).getD .skip
theorem yG.ok (a1:(List Int)) (a2:(List Pack)) (q:Wd) (kn:Unit→Option (D×List Ent)) (hk:∀v:Unit,J (q.g Tryz.prog 249 1 19) zJA (atI zJA 7) (St.mk' [] [(0,.box [sl 8 (Pack.enc false) a2])]) (some v) kn):
  ∀s9:Int,J (q.g Tryz.prog 249 1 19) zJA (atI zJA 52) (St.mk' [(0,sl 1 yE a1),(1,.fn 208 [pp 0]),(7,iv (a1.length:Int)),(8,iv s9)] [(0,.box [sl 8 (Pack.enc false) a2])]) (yG a1 a2 s9) (Fl.go (fun r:Int=>some (iv r,[.box [sl 8 (Pack.enc false) a2]])) kn):=by
 refine zAU (fun g ih s9=>?_)
 unfold yC
 refine J_d 104 [] [9] [(9,bv (decide (s9< (a1.length:Int))))] [] [] zB ?_
 refine zD 9 (fun h10=>?_) (fun h10=>?_)
 ·refine J_d 1688 [] [5,9] [(5,iv s9)] [] [] zB ?_
  refine zA (fun x11 h12=>?_)
  refine zA (fun x13 h14=>?_)
  refine J_d 3378 [] [16] [(16,bv x13)] [] [] (zG 3 (uE (kk:=.i64) 42 2 1 yE (.tmp 12) (.tmp 13) h12) (zG 5 (zFl [(0,.box [sl 8 (Pack.enc false) a2])] [] (zIO 11 [(.tmp 15)] [2] false [(0,.box [sl 8 (Pack.enc false) a2])] [0] [iv x11] [pp 0] (.cons (.same rfl) (.cons (.pt rfl) (.nil))) (uP.ok x11 a2) h14 (.same rfl rfl))) zB)) ?_
  refine zD 16 (fun h15=>?_) (fun h15=>?_)
  ·refine J_g 13516 [] [(4,iv s9)] [(0,.box [sl 8 (Pack.enc false) a2])] zB ?_
   exact zT rfl
  ·refine J_d 423 [] [5,8,16] [(8,iv (w64 (s9+1)))] [] [] zB ?_
   exact J_q (J_b (ih (w64 (s9+1)))) rfl
 ·exact xC (hk ()) rfl
theorem yB.ok (a1:(List Int)) (a2:(List Pack)):Ok Tryz.prog 249 [sl 1 yE a1,.fn 208 [pp 0]] [.box [sl 8 (Pack.enc false) a2]] ((yB a1 a2).map fun r=>(iv r,[.box [sl 8 (Pack.enc false) a2]])):=by
 refine zH zJA Tryz.f249 1 19 (fun q=>?_)
 unfold yB
 refine J_g 2 [] [(0,sl 1 yE a1),(1,.fn 208 [pp 0])] [(0,.box [sl 8 (Pack.enc false) a2])] zB ?_
 refine J_d 12 [] [7,8] [(7,iv (a1.length:Int)),(8,iv 0)] [] [] zB ?_
 refine jL (K0:=(fun r:Int=>some (iv r,[.box [sl 8 (Pack.enc false) a2]]))) (fun _=>rfl) (yG.ok a1 a2 q _ (fun v16=>J_j ?_) 0)
 refine J_d 14 [] [4] [(4,iv (-1))] [] [] zB ?_
 exact zT rfl
noncomputable def zMH:Code:=(Tryz.f174.body).getD .skip
theorem zS.ok (a1:(List Int)) (a2:(List Pack)):Ok Tryz.prog 174 [sl 1 yE a1,.fn 208 [pp 0]] [.box [sl 8 (Pack.enc false) a2]] ((zS a1 a2).map fun r=>(bv r,[.box [sl 8 (Pack.enc false) a2]])):=by
 refine zH zMH Tryz.f174 1 9 (fun q=>?_)
 unfold zS
 refine J_d 2 [] [] [] [] [] zB ?_
 refine zA (fun x3 h4=>?_)
 refine J_d 6 [] [0,1,4] [(4,bv (decide (x3≥0)))] [] [] (zG 2 (zFl [(0,.box [sl 8 (Pack.enc false) a2])] [] (zBI («as»:=[sl 1 yE a1,.fn 208 [pp 0]]) [(.tmp 5),(.tmp 6)] [42,202] false [(0,.box [sl 8 (Pack.enc false) a2])] [0] (.cons (.same rfl) (.cons (.fn (.cons (.pt rfl) (.nil))) (.nil))) (yB.ok a1 a2) h4 (.same rfl rfl))) zB) ?_
 exact zT rfl
noncomputable def zNo:Code:=(Tryz.f132.body).getD .skip
theorem jC.ok (a1:(List Pack)) (a2:(List Int)):Ok Tryz.prog 132 [sl 8 (Pack.enc false) a1,sl 1 yE a2] [] ((jC a1 a2).map fun r=>(bv r,[])):=by
 refine zH zNo Tryz.f132 0 9 (fun q=>?_)
 unfold jC
 refine J_g 2 [(0,0)] [(1,sl 1 yE a2),(2,pp 0)] [(0,.box [sl 8 (Pack.enc false) a1])] zB ?_
 refine zA (fun x3 h4=>?_)
 refine J_g 6 [] [(4,bv (!x3))] [] (zG 2 (zFl [(0,.box [sl 8 (Pack.enc false) a1])] [] (zBI («as»:=[sl 1 yE a2,.fn 208 [pp 0]]) [(.tmp 5),(.tmp 6)] [42,202] false [(0,.box [sl 8 (Pack.enc false) a1])] [0] (.cons (.same rfl) (.cons (.fn (.cons (.pt rfl) (.nil))) (.nil))) (zS.ok a2 a1) h4 (.same rfl rfl))) zB) ?_
 exact zT rfl
noncomputable def c69:Code:=(Tryz.f69.body).getD .skip
theorem uQ.ok (a1:(List Pack)) (a2:(List Int)) (q:Wd) (kn:Unit→Option (D×List Ent)) (hk:∀v:Unit,J (q.g Tryz.prog 69 0 32) c69 (atI c69 15) (St.mk' [(0,sl 8 (Pack.enc false) a1),(1,sl 1 yE a2)] []) (some v) kn):
  ∀s12:Int,J (q.g Tryz.prog 69 0 32) c69 (atI c69 116) (St.mk' [(0,sl 8 (Pack.enc false) a1),(1,sl 1 yE a2),(6,iv s12)] []) (uQ a1 a2 s12) (Fl.go (fun r:Int=>some (iv r,[])) kn):=by
 refine zAU (fun g ih s12=>?_)
 unfold wB
 refine J_d 464 [] [15] [(15,bv (decide (s12< (a2.length:Int))))] [] [] zB ?_
 refine zD 15 (fun h13=>?_) (fun h13=>?_)
 ·refine zA (fun x14 h15=>?_)
  refine zA (fun x16 h17=>?_)
  refine J_d 1864 [] [15,27] [(27,bv (decide (x14≤x16)))] [] [] (zG 2 (uE (kk:=.i64) 42 2 1 yE (.tmp 18) (.tmp 19) h15) (zG 7 (uE (kk:=.i64) 42 2 1 yE (.tmp 22) (.tmp 24) h17) zB)) ?_
  refine zD 27 (fun h18=>?_) (fun h18=>?_)
  ·refine J_g 7460 [] [(4,iv 1)] [] zB ?_
   exact zT rfl
  ·refine J_d 467 [] [6,27] [(6,iv (w64 (s12+1)))] [] [] zB ?_
   exact J_q (J_b (ih (w64 (s12+1)))) rfl
 ·exact xC (hk ()) rfl
theorem kG.ok (a1:(List Pack)) (a2:(List Int)):Ok Tryz.prog 69 [sl 8 (Pack.enc false) a1,sl 1 yE a2] [] ((kG a1 a2).map fun r=>(iv r,[])):=by
 refine zH c69 Tryz.f69 0 32 (fun q=>?_)
 unfold kG
 refine J_d 2 [] [] [] [] [] zB ?_
 refine zA (fun x3 h4=>?_)
 refine J_g 12 [] [(0,sl 8 (Pack.enc false) a1),(1,sl 1 yE a2),(5,iv x3)] [] (zG 1 (yT [(.tmp 7)] [24] (xI.ok a1) h4) zB) ?_
 refine J_d 26 [] [10] [(10,bv (x3 !=0))] [] [] zB ?_
 refine zD 10 (fun h5=>?_) (fun h5=>?_)
 ·refine J_g 108 [] [(4,iv x3)] [] zB ?_
  exact zT rfl
 ·refine J_d 28 [] [5,6,10] [(6,iv 1)] [] [] zB ?_
  refine jL (K0:=(fun r:Int=>some (iv r,[]))) (fun _=>rfl) (uQ.ok a1 a2 q _ (fun v19=>J_j ?_) 1)
  refine zA (fun x20 h21=>?_)
  refine J_g 60 [] [(31,bv (!x20))] [] (zG 2 (yT [(.tmp 28),(.tmp 29)] [24,42] (jC.ok a1 a2) h21) zB) ?_
  refine zD 31 (fun h22=>?_) (fun h22=>?_)
  ·refine J_g 244 [] [(4,iv 1)] [] zB ?_
   exact zT rfl
  ·refine J_g 62 [] [(4,iv 0)] [] zB ?_
   exact zT rfl
noncomputable def zNw:Code:=(Tryz.f275.body).getD .skip
theorem yP.ok (a1:ByteArray) (a2:ByteArray):Ok Tryz.prog 275 [sv a1,sv a2] [] ((yP a1 a2).map fun r=>(bv r,[])):=by
 refine zH zNw Tryz.f275 0 18 (fun q=>?_)
 unfold yP
 refine J_d 2 [] [] [] [] [] zB ?_
 refine wG (fun h3=>?_) (fun h3=>?_)
 ·refine zA (fun x4 h5=>?_)
  refine J_g 6 [] [(4,bv (seq x4 a2))] [] (xK 5 [(9,bv (decide ((a1.size:Int)≥(a2.size:Int))))] [] h3 (zBU 9 5 10 true (zL4 9 (.tmp 11) none (some (.tmp 13)) h5) zB)) ?_
  exact zT rfl
 ·refine J_g 6 [] [(4,bv false)] [] (xK 5 [(9,bv (decide ((a1.size:Int)≥(a2.size:Int))))] [] h3 zB) ?_
  exact zT rfl
noncomputable def zN2:Code:=(Tryz.f253.body).getD .skip
theorem strings_HasPrefix.ok (a1:ByteArray) (a2:ByteArray):Ok Tryz.prog 253 [sv a1,sv a2] [] ((strings_HasPrefix a1 a2).map fun r=>(bv r,[])):=by
 refine zH zN2 Tryz.f253 0 8 (fun q=>?_)
 unfold strings_HasPrefix
 refine J_d 2 [] [] [] [] [] zB ?_
 refine zA (fun x3 h4=>?_)
 refine J_g 6 [] [(4,bv x3)] [] (zG 2 (yT [(.tmp 5),(.tmp 6)] [9,9] (yP.ok a1 a2) h4) zB) ?_
 exact zT rfl
noncomputable def zLq:Code:=(Tryz.f181.body).getD .skip
theorem vI.ok (a1:zI) (a2:ByteArray) (q:Wd) (kn:(List ByteArray)→Option (D×List Ent)) (hk:∀v:(List ByteArray),J (q.g Tryz.prog 181 0 27) zLq (atI zLq 15) (St.mk' [(5,rr 1 v)] [(1,rE 1 eStr v)]) (some v) kn):
  ∀s12:((List ByteArray)×Int),J (q.g Tryz.prog 181 0 27) zLq (atI zLq 116) (St.mk' [(1,sv a2),(5,rr 1 s12.1),(10,sl 2 (File.enc false) a1.Files),(11,iv (a1.Files.length:Int)),(12,iv s12.2)] [(1,rE 1 eStr s12.1)]) (vI a1 a2 s12) kn:=by
 refine zAU (fun g ih s12=>?_)
 unfold zBs
 refine J_d 232 [] [13] [(13,bv (decide (s12.2< (a1.Files.length:Int))))] [] [] zB ?_
 refine zD 13 (fun h13=>?_) (fun h13=>?_)
 ·refine zA (fun x14 h15=>?_)
  refine J_d 3736 [(2,2)] [7,13] [(7,pp 2)] [2] [(2,.box (File.enc false x14))] (zG 0 (uE (kk:=.i64) 25 113 2 (File.enc false) (.tmp 10) (.tmp 12) h15) zB) ?_
  refine zA (fun x16 h17=>?_)
  refine J_d 7474 [] [19] [(19,bv x16)] [] [] (zG 3 (yT [(.tmp 17),(.tmp 18)] [9,9] (strings_HasPrefix.ok x14.Path a2) h17) zB) ?_
  refine vC (aft zLq 1868) (fun v21:(List ByteArray)=>St.mk' [(1,sv a2),(5,rr 4 v21),(10,sl 2 (File.enc false) a1.Files),(11,iv (a1.Files.length:Int)),(12,iv s12.2)] [(4,rE 1 eStr v21)]) (fun v21=>?_) (fun jv21=>?_)
  ·refine J_d 935 [] [12] [(12,iv (w64 (s12.2+1)))] [] [] zB ?_
   refine zDB 4 1 (Nat.le_of_ble_eq_true rfl) (Nat.le_of_ble_eq_true rfl) ?_
   exact J_q (J_b (ih (v21,w64 (s12.2+1)))) rfl
  ·refine zD 19 (fun h18=>?_) (fun h18=>?_)
   ·refine zA (fun x19 h20=>?_)
    refine J_d 14950 [] [5,7,19] [(5,rr 4 x19)] [1,2,4] [(4,rE 1 eStr x19)] (zG 3 (zDZ 70 9 1 3 eStr [x14.Path] [0] [(.tmp 22)] [sv x14.Path]) (zG 4 (zJY 70 70 9 9 1 16 4 1 3 eStr (.tmp 20) (.tmp 23) h20) zB)) ?_
    exact xC (J_j (jv21 x19)) rfl
   ·refine zDB 1 4 (Nat.le_of_ble_eq_true rfl) (Nat.le_of_ble_eq_true rfl) ?_
    exact xC (J_j (jv21 s12.1)) rfl
 ·exact xC (hk s12.1) rfl
theorem uM.ok (a1:zI) (a2:ByteArray):Ok Tryz.prog 181 [.ag (zI.enc false a1),sv a2] [] ((uM a1 a2).map fun r=>(so 1 eStr r,[])):=by
 refine zH zLq Tryz.f181 0 27 (fun q=>?_)
 unfold uM
 refine J_g 2 [(0,0)] [(1,sv a2),(2,pp 0)] [(0,.box (zI.enc false a1))] zB ?_
 refine J_g 6 [] [(1,sv a2),(2,pp 0),(5,rr 1 ([]:List ByteArray))] [(0,.box (zI.enc false a1)),(1,rE 1 eStr ([]:List ByteArray))] (zG 0 (zDZ 70 9 1 1 eStr ([]:List ByteArray) [] [] []) zB) ?_
 refine J_d 28 [] [2,10,11,12] [(10,sl 2 (File.enc false) a1.Files),(11,iv (a1.Files.length:Int)),(12,iv 0)] [0] [] zB ?_
 refine zDT (vI.ok a1 a2 q _ (fun v22=>J_j ?_) (([]:List ByteArray),0))
 refine J_g 30 [] [(4,rr 1 v22)] [(1,rE 1 eStr v22)] zB ?_
 exact zDJ (ds:=[rr 1 v22]) (ds':=[so 1 eStr v22]) (.cons (.cell (.move (.head _) (List.length_map _) (by decide) (.nil))) (.nil) (by decide)) rfl
noncomputable def zKB:Code:=(Tryz.f209.body).getD .skip
theorem zBd.ok (a1:ByteArray) (q:Wd) (kn:Int→Option (D×List Ent)) (hk:∀v:Int,J (q.g Tryz.prog 209 0 40) zKB (atI zKB 31) (St.mk' [(5,iv v)] []) (some v) kn):
  ∀s16:(Int×Int),J (q.g Tryz.prog 209 0 40) zKB (atI zKB 244) (St.mk' [(0,sv a1),(5,iv s16.1),(16,iv (a1.size:Int)),(17,iv s16.2)] []) (zBd a1 s16) (Fl.go (fun r:Int=>some (iv r,[])) kn):=by
 refine zAU (fun g ih s16=>?_)
 unfold zAj
 refine J_d 488 [] [18] [(18,bv (decide (s16.2< (a1.size:Int))))] [] [] zB ?_
 refine zD 18 (fun h17=>?_) (fun h17=>?_)
 ·refine J_d 7832 [] [6,18] [(6,iv s16.2)] [] [] zB ?_
  refine zA (fun x18 h19=>?_)
  refine vC (atI zKB 31333) (fun v23:Bool=>St.mk' [(0,sv a1),(5,iv s16.1),(6,iv s16.2),(16,iv (a1.size:Int)),(17,iv s16.2),(29,bv v23)] []) (fun v23=>?_) (fun jv23=>?_)
  ·refine zD 29 (fun h24=>?_) (fun h24=>?_)
   ·refine J_g 125332 [] [(4,iv (-1))] [] zB ?_
    exact zT rfl
   ·refine zA (fun x25 h26=>?_)
    refine J_g 15667 [] [(0,sv a1),(5,iv (w64 ((w64 (10*s16.1))+(w64 (IntKind.u8.wrap (x25-48)))))),(16,iv (a1.size:Int)),(17,iv s16.2)] [] (zG 4 (zGE (kk:=.i64) 9 (.tmp 32) (.tmp 33) h26) zB) ?_
    refine J_d 1959 [] [17] [(17,iv (w64 (s16.2+1)))] [] [] zB ?_
    exact J_q (J_b (ih (w64 ((w64 (10*s16.1))+(w64 (IntKind.u8.wrap (x25-48)))),w64 (s16.2+1)))) rfl
  ·refine wG (fun h20=>?_) (fun h20=>?_)
   ·refine J_d 31332 [] [29] [(29,bv true)] [] [] (zG 2 (zGE (kk:=.i64) 9 (.tmp 20) (.tmp 21) h19) (xK 4 [(23,bv (decide (x18<48)))] [] h20 zB)) ?_
    exact xC (J_j (jv23 true)) rfl
   ·refine zA (fun x21 h22=>?_)
    refine J_d 31332 [] [29] [(29,bv (decide (x21>57)))] [] [] (zG 2 (zGE (kk:=.i64) 9 (.tmp 20) (.tmp 21) h19) (xK 4 [(23,bv (decide (x18<48)))] [] h20 (zBU 7 4 24 false (zGE (kk:=.i64) 9 (.tmp 25) (.tmp 26) h22) zB))) ?_
    exact xC (J_j (jv23 (decide (x21>57)))) rfl
 ·exact xC (hk s16.1) rfl
theorem zB0.ok (a1:ByteArray) (a2:Int):Ok Tryz.prog 209 [sv a1,iv a2] [] ((zB0 a1 a2).map fun r=>(iv r,[])):=by
 refine zH zKB Tryz.f209 0 40 (fun q=>?_)
 unfold zB0
 refine J_d 2 [] [] [] [] [] zB ?_
 refine vC (atI zKB 13) (fun v4:Bool=>St.mk' [(0,sv a1),(14,bv v4)] []) (fun v4=>?_) (fun jv4=>?_)
 ·refine zD 14 (fun h5=>?_) (fun h5=>?_)
  ·refine J_g 52 [] [(4,iv (-1))] [] zB ?_
   exact zT rfl
  ·refine J_g 14 [] [(0,sv a1),(5,iv 0)] [] zB ?_
   refine J_d 60 [] [16,17] [(16,iv (a1.size:Int)),(17,iv 0)] [] [] zB ?_
   refine jL (K0:=(fun r:Int=>some (iv r,[]))) (fun _=>rfl) (zBd.ok a1 q _ (fun v27=>J_j ?_) (0,0))
   refine J_g 62 [] [(4,iv v27)] [] zB ?_
   exact zT rfl
 ·refine wG (fun h3=>?_) (fun h3=>?_)
  ·refine J_g 12 [] [(0,sv a1),(14,bv true)] [] (xK 2 [(8,bv (seq a1 (bs [])))] [] h3 zB) ?_
   exact xC (J_j (jv4 true)) rfl
  ·refine J_g 12 [] [(0,sv a1),(14,bv (decide ((a1.size:Int)>a2)))] [] (xK 2 [(8,bv (seq a1 (bs [])))] [] h3 zB) ?_
   exact xC (J_j (jv4 (decide ((a1.size:Int)>a2)))) rfl
noncomputable def zKE:Code:=(Tryz.f133.body).getD .skip
theorem jT.ok (x2:(List ByteArray)) (q:Wd) (kn:(List Int)→Option (D×List Ent)) (hk:∀v:(List Int),J (q.g Tryz.prog 133 0 31) zKE (atI zKE 15) (St.mk' [(3,rr 1 v)] [(1,rE 1 yE v)]) (some v) kn):
  ∀s17:((List Int)×Int),J (q.g Tryz.prog 133 0 31) zKE (atI zKE 116) (St.mk' [(3,rr 1 s17.1),(9,rr 2 x2),(10,iv (x2.length:Int)),(11,iv s17.2)] [(1,rE 1 yE s17.1),(2,rE 1 eStr x2)]) (jT x2 s17) kn:=by
 refine zAU (fun g ih s17=>?_)
 unfold tV
 refine J_d 232 [] [12] [(12,bv (decide (s17.2< (x2.length:Int))))] [] [] zB ?_
 refine zD 12 (fun h18=>?_) (fun h18=>?_)
 ·refine zA (fun x19 h20=>?_)
  refine J_d 3736 [] [5,12] [(5,sv x19)] [] [] (zG 0 (zC5 (kk:=.i64) 70 9 1 2 eStr (.tmp 9) (.tmp 11) h20) (zG 1 (zEh (d:=sv x19) 9 1 2 0 eStr (.tmp 13) h20 (by kernel_rfl)) zB)) ?_
  refine zA (fun x21 h22=>?_)
  refine zA (fun x23 h24=>?_)
  refine J_d 7474 [] [6] [(6,iv x23)] [] [] (zG 1 (zL4 9 (.tmp 15) (some (.const (.int .i64 4))) none h22) (zG 2 (yT [(.tmp 16),(.const (.int .i64 6))] [9,3] (zB0.ok x21 6) h24) zB)) ?_
  refine vC (atI zKE 14951) (fun v26:Bool=>St.mk' [(3,rr 1 s17.1),(6,iv x23),(9,rr 2 x2),(10,iv (x2.length:Int)),(11,iv s17.2),(24,bv v26)] [(1,rE 1 yE s17.1),(2,rE 1 eStr x2)]) (fun v26=>?_) (fun jv26=>?_)
  ·refine vC (aft zKE 1868) (fun v30:(List Int)=>St.mk' [(3,rr 4 v30),(9,rr 2 x2),(10,iv (x2.length:Int)),(11,iv s17.2)] [(2,rE 1 eStr x2),(4,rE 1 yE v30)]) (fun v30=>?_) (fun jv30=>?_)
   ·refine J_d 935 [] [11] [(11,iv (w64 (s17.2+1)))] [] [] zB ?_
    refine zDB 4 1 (Nat.le_of_ble_eq_true rfl) (Nat.le_of_ble_eq_true rfl) ?_
    exact J_q (J_b (ih (v30,w64 (s17.2+1)))) rfl
   ·refine zD 24 (fun h27=>?_) (fun h27=>?_)
    ·refine zA (fun x28 h29=>?_)
     refine J_d 29902 [] [3,6,24] [(3,rr 4 x28)] [1,4] [(4,rE 1 yE x28)] (zG 2 (zDZ 42 2 1 3 yE [x23] [0] [(.tmp 26)] [iv x23]) (zG 3 (zJY 42 42 2 2 1 8 4 1 3 yE (.tmp 25) (.tmp 27) h29) zB)) ?_
     exact xC (J_j (jv30 x28)) rfl
    ·refine zDB 1 4 (Nat.le_of_ble_eq_true rfl) (Nat.le_of_ble_eq_true rfl) ?_
     exact xC (J_j (jv30 s17.1)) rfl
  ·refine wG (fun h25=>?_) (fun h25=>?_)
   ·refine J_d 14950 [] [5,24] [(24,bv ((x19.size:Int)==10))] [] [] (xK 2 [(19,bv (decide (x23≥1)))] [] h25 zB) ?_
    exact xC (J_j (jv26 ((x19.size:Int)==10))) rfl
   ·refine J_d 14950 [] [5,24] [(24,bv false)] [] [] (xK 2 [(19,bv (decide (x23≥1)))] [] h25 zB) ?_
    exact xC (J_j (jv26 false)) rfl
 ·exact xC (hk s17.1) rfl
theorem jA.ok (a1:zI):Ok Tryz.prog 133 [.ag (zI.enc false a1)] [] ((jA a1).map fun r=>(so 1 yE r,[])):=by
 refine zH zKE Tryz.f133 0 31 (fun q=>?_)
 unfold jA
 refine J_g 2 [(0,0)] [(1,pp 0)] [(0,.box (zI.enc false a1))] zB ?_
 refine J_d 6 [] [3] [(3,rr 1 ([]:List Int))] [1] [(1,rE 1 yE ([]:List Int))] (zG 0 (zDZ 42 2 1 1 yE ([]:List Int) [] [] []) zB) ?_
 refine zA (fun x2 h3=>?_)
 refine J_d 28 [] [1,9,10,11] [(9,rr 2 x2),(10,iv (x2.length:Int)),(11,iv 0)] [0,2] [(2,rE 1 eStr x2)] (zG 1 (zBI («as»:=[.ag (zI.enc false a1),sv (bs [103,101,110,47])]) [(.tmp 8),(.const (.string (bs [103,101,110,47])))] [27,9] false [] [] (.cons (.same rfl) (.cons (.same rfl) (.nil))) (uM.ok a1 (bs [103,101,110,47])) h3 (.own 2)) zB) ?_
 refine zDT (jT.ok x2 q _ (fun v31=>J_j ?_) (([]:List Int),0))
 refine J_g 30 [] [(2,rr 1 v31)] [(1,rE 1 yE v31)] zB ?_
 exact zDJ (ds:=[rr 1 v31]) (ds':=[so 1 yE v31]) (.cons (.cell (.move (.head _) (List.length_map _) (by decide) (.nil))) (.nil) (by decide)) rfl
noncomputable def c70:Code:=(Tryz.f70.body).getD .skip
theorem jM.ok (x2:(List Int)) (q:Wd) (kn:Int→Option (D×List Ent)) (hk:∀v:Int,J (q.g Tryz.prog 70 0 19) c70 (atI c70 15) (St.mk' [(3,iv v)] []) (some v) kn):
  ∀s7:(Int×Int),J (q.g Tryz.prog 70 0 19) c70 (atI c70 116) (St.mk' [(3,iv s7.1),(7,rr 1 x2),(8,iv (x2.length:Int)),(9,iv s7.2)] [(1,rE 1 yE x2)]) (jM x2 s7) kn:=by
 refine zAU (fun g ih s7=>?_)
 unfold uV
 refine J_d 232 [] [10] [(10,bv (decide (s7.2< (x2.length:Int))))] [] [] zB ?_
 refine zD 10 (fun h8=>?_) (fun h8=>?_)
 ·refine zA (fun x9 h10=>?_)
  refine J_g 3736 [] [(3,iv s7.1),(5,iv x9),(7,rr 1 x2),(8,iv (x2.length:Int)),(9,iv s7.2)] [(1,rE 1 yE x2)] (zG 0 (zC5 (kk:=.i64) 42 2 1 1 yE (.tmp 7) (.tmp 9) h10) (zG 1 (zEh (d:=iv x9) 2 1 1 0 yE (.tmp 11) h10 (by kernel_rfl)) zB)) ?_
  refine J_g 3737 [] [(3,iv (if (w64 (x9+1))>s7.1 then (w64 (x9+1)) else s7.1)),(7,rr 1 x2),(8,iv (x2.length:Int)),(9,iv s7.2)] [(1,rE 1 yE x2)] zB ?_
  refine J_d 935 [] [9] [(9,iv (w64 (s7.2+1)))] [] [] zB ?_
  exact J_q (J_b (ih ((if (w64 (x9+1))>s7.1 then (w64 (x9+1)) else s7.1),w64 (s7.2+1)))) rfl
 ·exact xC (hk s7.1) rfl
theorem wW.ok (a1:zI):Ok Tryz.prog 70 [.ag (zI.enc false a1)] [] ((wW a1).map fun r=>(iv r,[])):=by
 refine zH c70 Tryz.f70 0 19 (fun q=>?_)
 unfold wW
 refine J_g 2 [(0,0)] [(1,pp 0)] [(0,.box (zI.enc false a1))] zB ?_
 refine J_d 6 [] [3] [(3,iv 1)] [] [] zB ?_
 refine zA (fun x2 h3=>?_)
 refine J_g 28 [] [(3,iv 1),(7,rr 1 x2),(8,iv (x2.length:Int)),(9,iv 0)] [(1,rE 1 yE x2)] (zG 1 (zBI («as»:=[.ag (zI.enc false a1)]) [(.tmp 6)] [27] false [] [] (.cons (.same rfl) (.nil)) (jA.ok a1) h3 (.own 1)) zB) ?_
 refine zDT (jM.ok x2 q _ (fun v11=>J_j ?_) (1,0))
 refine J_g 30 [] [(2,iv v11)] [] zB ?_
 exact zT rfl
noncomputable def zNa:Code:=(Tryz.f178.body).getD .skip
theorem wP.ok (a1:(List Int)):Ok Tryz.prog 178 [sl 1 yE a1] [] ((wP a1).map fun r=>(so 1 yE r,[])):=by
 refine zH zNa Tryz.f178 0 8 (fun q=>?_)
 unfold wP
 refine J_g 2 [] [(0,sl 1 yE a1)] [] zB ?_
 refine J_d 12 [] [4] [(4,.nb a1.length)] [] [] (zG 1 (zKT (xs:=a1) 42 2 42 1 yE (.tmp 3)) zB) ?_
 refine zNb 4 rfl (fun h2=>?_) ?_
 ·obtain rfl:a1=[]:=List.eq_nil_of_length_eq_zero h2
  refine zLW (e':=some ([]:List Int)) (by kernel_rfl) ?_
  refine J_g 52 [] [(2,nv)] [] zB ?_
  exact zDJ (ds:=[nv]) (ds':=[so 1 yE ([]:List Int)]) (.cons (.cell (.nilsl true 1 (.nil))) (.nil) (by decide)) rfl
 ·refine zA (fun x3 h4=>?_)
  refine J_g 14 [] [(2,rr 1 x3)] [(1,rE 1 yE x3)] (zG 0 (zDZ 42 2 1 0 yE ([]:List Int) [] [] []) (zG 2 (zM5 42 42 2 2 1 8 1 0 yE (.tmp 5) (.tmp 6) h4) zB)) ?_
  exact zDJ (ds:=[rr 1 x3]) (ds':=[so 1 yE x3]) (.cons (.cell (.move (.head _) (List.length_map _) (by decide) (.nil))) (.nil) (by decide)) rfl
theorem wU.ok (a1 a2:Int):Ok Tryz.prog 215 [iv a1,iv a2] [] ((wU a1 a2).map fun r=>(sv r,[])):=by
 unfold wU
 split
 ·rename_i h
  obtain ⟨rfl,h0,h1⟩:=h
  exact zLa (vs:=[.int .i64 a1,.int .i64 10]) (fun w hG=>Tryz.strconv_FormatInt_10 a1 h0 h1 w (zKa (g:=1) hG (by kernel_rfl) (by kernel_rfl)))
 ·exact fun _ h=>by cases h
noncomputable def c138:Code:=(Tryz.f138.body).getD .skip
theorem uN.ok (a1:Int):Ok Tryz.prog 138 [iv a1] [] ((uN a1).map fun r=>(sv r,[])):=by
 refine zH c138 Tryz.f138 0 5 (fun q=>?_)
 unfold uN
 refine J_g 2 [] [(0,iv a1)] [] zB ?_
 refine zA (fun x2 h3=>?_)
 refine J_g 6 [] [(2,sv x2)] [] (zG 1 (yT [(.tmp 3),(.const (.int .i64 10))] [2,3] (wU.ok a1 10) h3) zB) ?_
 exact zT rfl
noncomputable def c213:Code:=(Tryz.f213.body).getD .skip
theorem xH.ok (a1:Version):Ok Tryz.prog 213 [.ag (Version.enc a1)] [] ((xH a1).map fun r=>(sv r,[])):=by
 refine zH c213 Tryz.f213 0 16 (fun q=>?_)
 unfold xH
 refine J_g 2 [(0,0)] [(1,pp 0)] [(0,.box (Version.enc a1))] zB ?_
 refine zA (fun x2 h3=>?_)
 refine zA (fun x4 h5=>?_)
 refine zA (fun x6 h7=>?_)
 refine zA (fun x8 h9=>?_)
 refine zA (fun x10 h11=>?_)
 refine zA (fun x12 h13=>?_)
 refine zA (fun x14 h15=>?_)
 refine J_g 6 [] [(2,sv x14)] [] (zG 2 (yT [(.tmp 4)] [2] (uN.ok a1.A) h3) (zG 3 (zBZ 9 9 (.tmp 5) (.const (.string (bs [46]))) h5) (zG 6 (yT [(.tmp 8)] [2] (uN.ok a1.B) h7) (zG 7 (zBZ 9 9 (.tmp 6) (.tmp 9) h9) (zG 8 (zBZ 9 9 (.tmp 10) (.const (.string (bs [46]))) h11) (zG 11 (yT [(.tmp 13)] [2] (uN.ok a1.C) h13) (zG 12 (zBZ 9 9 (.tmp 11) (.tmp 14) h15) zB))))))) ?_
 exact zT rfl
noncomputable def zNt:Code:=(Tryz.f135.body).getD .skip
theorem wV.ok (a1:Pack):Ok Tryz.prog 135 [.ag (Pack.enc false a1)] [] ((wV a1).map fun r=>(sv r,[])):=by
 refine zH zNt Tryz.f135 0 11 (fun q=>?_)
 unfold wV
 refine J_g 2 [(0,0)] [(1,pp 0)] [(0,.box (Pack.enc false a1))] zB ?_
 refine zA (fun x2 h3=>?_)
 refine zA (fun x4 h5=>?_)
 refine zA (fun x6 h7=>?_)
 refine zA (fun x8 h9=>?_)
 refine J_g 6 [] [(2,sv x8)] [] (zG 2 (zBZ 9 9 (.const (.string (bs [112,107,103,47]))) (.tmp 4) h3) (zG 3 (zBZ 9 9 (.tmp 5) (.const (.string (bs [45]))) h5) (zG 6 (yT [(.tmp 8)] [86] (xH.ok a1.Version) h7) (zG 7 (zBZ 9 9 (.tmp 6) (.tmp 9) h9) zB)))) ?_
 exact zT rfl
theorem bytealg_CompareString.ok (a1 a2:ByteArray):Ok Tryz.prog 292 [sv a1,sv a2] [] ((bytealg_CompareString a1 a2).map fun r=>(iv r,[])):=
 zMt (vs:=[.string a1,.string a2]) (fun w=>Tryz.bytealg_CompareString a1 a2 w)
noncomputable def zNu:Code:=(Tryz.f243.body).getD .skip
theorem strings_Compare.ok (a1:ByteArray) (a2:ByteArray):Ok Tryz.prog 243 [sv a1,sv a2] [] ((strings_Compare a1 a2).map fun r=>(iv r,[])):=by
 refine zH zNu Tryz.f243 0 8 (fun q=>?_)
 unfold strings_Compare
 refine J_d 2 [] [] [] [] [] zB ?_
 refine zA (fun x3 h4=>?_)
 refine J_g 6 [] [(4,iv x3)] [] (zG 2 (yT [(.tmp 5),(.tmp 6)] [9,9] (bytealg_CompareString.ok a1 a2) h4) zB) ?_
 exact zT rfl
noncomputable def zNv:Code:=(Tryz.f242.body).getD .skip
theorem xZ.ok (a1:File) (a2:ByteArray):Ok Tryz.prog 242 [.ag (File.enc false a1),sv a2] [] ((xZ a1 a2).map fun r=>(iv r,[])):=by
 refine zH zNv Tryz.f242 0 9 (fun q=>?_)
 unfold xZ
 refine J_g 2 [(0,0)] [(1,sv a2),(2,pp 0)] [(0,.box (File.enc false a1))] zB ?_
 refine zA (fun x3 h4=>?_)
 refine J_g 6 [] [(4,iv x3)] [] (zG 3 (yT [(.tmp 6),(.tmp 7)] [9,9] (strings_Compare.ok a1.Path a2) h4) zB) ?_
 exact zT rfl
noncomputable def zL3:Code:=(Tryz.f241.body).getD .skip
theorem zO.ok (a1:(List File)) (a2:ByteArray) (q:Wd) (kn:Int→Option (D×List Ent)) (hk:∀v:Int,J (q.g Tryz.prog 241 0 49) zL3 (atI zL3 31) (St.mk' [(0,sl 2 (File.enc false) a1),(1,sv a2),(2,.fn 242 []),(8,iv (a1.length:Int)),(9,iv v)] []) (some v) kn):
  ∀s9:(Int×Int),J (q.g Tryz.prog 241 0 49) zL3 (atI zL3 120) (St.mk' [(0,sl 2 (File.enc false) a1),(1,sv a2),(2,.fn 242 []),(8,iv (a1.length:Int)),(9,iv s9.1),(10,iv s9.2)] []) (zO a1 a2 s9) kn:=by
 refine zAU (fun g ih s9=>?_)
 unfold yA
 refine J_d 480 [] [17] [(17,bv (decide (s9.1<s9.2)))] [] [] zB ?_
 refine zD 17 (fun h10=>?_) (fun h10=>?_)
 ·refine J_d 964 [] [11,17] [(11,iv (w64 ((IntKind.u64.wrap (w64 (s9.1+s9.2))).fdiv (2^(min (1:Int).toNat 64)))))] [] [] zB ?_
  refine zA (fun x11 h12=>?_)
  refine zA (fun x13 h14=>?_)
  refine J_d 1930 [] [31] [(31,bv (decide (x13<0)))] [] [] (zG 3 (uE (kk:=.i64) 25 113 2 (File.enc false) (.tmp 25) (.tmp 26) h12) (zG 6 (zLl («as»:=[.ag (File.enc false x11),sv a2]) (caps:=[]) 24 [(.tmp 28),(.tmp 29)] [113,9] (xZ.ok x11 a2) h14) zB)) ?_
  refine zD 31 (fun h15=>?_) (fun h15=>?_)
  ·refine J_d 3862 [] [9,11,31] [(9,iv (w64 ((w64 ((IntKind.u64.wrap (w64 (s9.1+s9.2))).fdiv (2^(min (1:Int).toNat 64))))+1)))] [] [] zB ?_
   exact J_q (J_b (ih (w64 ((w64 ((IntKind.u64.wrap (w64 (s9.1+s9.2))).fdiv (2^(min (1:Int).toNat 64))))+1),s9.2))) rfl
  ·refine J_d 3863 [] [10,11,31] [(10,iv (w64 ((IntKind.u64.wrap (w64 (s9.1+s9.2))).fdiv (2^(min (1:Int).toNat 64)))))] [] [] zB ?_
   exact J_q (J_b (ih (s9.1,w64 ((IntKind.u64.wrap (w64 (s9.1+s9.2))).fdiv (2^(min (1:Int).toNat 64)))))) rfl
 ·exact xC (hk s9.1) rfl
theorem zC.ok (a1:(List File)) (a2:ByteArray):Ok Tryz.prog 241 [sl 2 (File.enc false) a1,sv a2,.fn 242 []] [] ((zC a1 a2).map fun r=>(.tu [iv r.1,bv r.2],[])):=by
 refine zH zL3 Tryz.f241 0 49 (fun q=>?_)
 unfold zC
 refine J_g 2 [] [(0,sl 2 (File.enc false) a1),(1,sv a2),(2,.fn 242 [])] [] zB ?_
 refine J_g 6 [] [(0,sl 2 (File.enc false) a1),(1,sv a2),(2,.fn 242 []),(8,iv (a1.length:Int))] [] zB ?_
 refine J_d 14 [] [9,10] [(9,iv 0),(10,iv (a1.length:Int))] [] [] zB ?_
 refine zDT (zO.ok a1 a2 q _ (fun v16=>J_j ?_) (0,(a1.length:Int)))
 refine wG (fun h17=>?_) (fun h17=>?_)
 ·refine zA (fun x18 h19=>?_)
  refine zA (fun x20 h21=>?_)
  refine J_g 62 [] [(6,iv v16),(7,bv (x20==0))] [] (xK 4 [(38,bv (decide (v16< (a1.length:Int))))] [] h17 (zBU 8 4 39 true (uE (kk:=.i64) 25 113 2 (File.enc false) (.tmp 41) (.tmp 42) h19) (zBU 11 4 39 true (zLl («as»:=[.ag (File.enc false x18),sv a2]) (caps:=[]) 40 [(.tmp 44),(.tmp 45)] [113,9] (xZ.ok x18 a2) h21) zB))) ?_
  exact zKs rfl
 ·refine J_g 62 [] [(6,iv v16),(7,bv false)] [] (xK 4 [(38,bv (decide (v16< (a1.length:Int))))] [] h17 zB) ?_
  exact zKs rfl
noncomputable def c162:Code:=(Tryz.f162.body).getD .skip
theorem uH.ok (a1:zI) (a2:ByteArray):Ok Tryz.prog 162 [.ag (zI.enc false a1),sv a2] [] ((uH a1 a2).map fun r=>(.tu [iv r.1,bv r.2],[])):=by
 refine zH c162 Tryz.f162 0 12 (fun q=>?_)
 unfold uH
 refine J_g 2 [(0,0)] [(1,sv a2),(2,pp 0)] [(0,.box (zI.enc false a1))] zB ?_
 refine zA (fun x3 h4=>?_)
 refine J_g 6 [] [(4,iv x3.1),(5,bv x3.2)] [] (zG 3 (zBI («as»:=[sl 2 (File.enc false) a1.Files,sv a2,.fn 242 []]) [(.tmp 7),(.tmp 8),(.func 242)] [25,9,249] false [] [] (.cons (.same rfl) (.cons (.same rfl) (.cons (.fn (.nil)) (.nil)))) (zC.ok a1.Files a2) h4 (.tu (.cons (.same rfl rfl) (.cons (.same rfl rfl) (.nil))))) zB) ?_
 exact zKs rfl
noncomputable def c139:Code:=(Tryz.f139.body).getD .skip
theorem yS.ok (a1:zI) (a2:ByteArray):Ok Tryz.prog 139 [.ag (zI.enc false a1),sv a2] [] ((yS a1 a2).map fun r=>(.tu [sl 1 eU8 r.1,bv r.2],[])):=by
 refine zH c139 Tryz.f139 0 22 (fun q=>?_)
 unfold yS
 refine J_g 2 [(0,0)] [(1,sv a2),(2,pp 0)] [(0,.box (zI.enc false a1))] zB ?_
 refine zA (fun x3 h4=>?_)
 refine J_g 6 [] [(2,pp 0),(6,iv x3.1),(7,bv x3.2)] [(0,.box (zI.enc false a1))] (zG 2 (yT [(.tmp 9),(.tmp 10)] [27,9] (uH.ok a1 a2) h4) zB) ?_
 refine J_d 28 [] [7,15] [(15,bv (!x3.2))] [] [] zB ?_
 refine zD 15 (fun h5=>?_) (fun h5=>?_)
 ·refine J_g 116 [] [(4,nv),(5,bv false)] [] zB ?_
  exact zDJ (ds:=[nv,bv false]) (ds':=[sl 1 eU8 ([]:List Int),bv false]) (.cons (.cell (.nilsl false 1 (.nil))) (.cons (.cell (.keep rfl (.nil))) (.nil) (by decide)) (by decide)) rfl
 ·refine zA (fun x6 h7=>?_)
  refine J_g 30 [] [(4,sl 1 eU8 x6.Data),(5,bv true)] [] (zG 3 (uE (kk:=.i64) 25 113 2 (File.enc false) (.tmp 17) (.tmp 18) h7) zB) ?_
  exact zKs rfl
noncomputable def zJO:Code:=(Tryz.f136.body).getD .skip
theorem tH.ok (a1:Pack) (q:Wd) (kn:(List Int)→Option (D×List Ent)) (hk:∀v:(List Int),J (q.g Tryz.prog 136 0 47) zJO (atI zJO 63) (St.mk' [(5,rr 1 v)] [(1,rE 1 eU8 v)]) (some v) kn):
  ∀s13:(Int×(List Int)×Int),J (q.g Tryz.prog 136 0 47) zJO (atI zJO 500) (St.mk' [(3,uv s13.1),(5,rr 1 s13.2.1),(35,iv a1.Size),(36,iv s13.2.2)] [(1,rE 1 eU8 s13.2.1)]) (tH a1 s13) kn:=by
 refine zAU (fun g ih s13=>?_)
 unfold uL
 refine J_d 1000 [] [37] [(37,bv (decide (s13.2.2<a1.Size)))] [] [] zB ?_
 refine zD 37 (fun h14=>?_) (fun h14=>?_)
 ·refine zA (fun x15 h16=>?_)
  refine J_g 16024 [] [(3,uv s13.1),(5,rr 3 x15),(35,iv a1.Size),(36,iv s13.2.2)] [(3,rE 1 eU8 x15)] (zG 2 (zDZ 111 5 1 2 eU8 [s13.1] [0] [(.tmp 39)] [uv s13.1]) (zG 3 (zJY 111 111 5 5 1 1 3 1 2 eU8 (.tmp 38) (.tmp 40) h16) zB)) ?_
  refine J_g 16025 [] [(3,uv (IntKind.u8.wrap ((IntKind.u8.wrap (31*s13.1))+7))),(5,rr 3 x15),(35,iv a1.Size),(36,iv s13.2.2)] [(3,rE 1 eU8 x15)] zB ?_
  refine J_d 4007 [] [36] [(36,iv (w64 (s13.2.2+1)))] [] [] zB ?_
  refine zDB 3 1 (Nat.le_of_ble_eq_true rfl) (Nat.le_of_ble_eq_true rfl) ?_
  exact J_q (J_b (ih (IntKind.u8.wrap ((IntKind.u8.wrap (31*s13.1))+7),x15,w64 (s13.2.2+1)))) rfl
 ·exact xC (hk s13.2.1) rfl
theorem tT.ok (a1:Pack) (q:Wd) (kn:Int→Option (D×List Ent)) (hk:∀v:Int,J (q.g Tryz.prog 136 0 47) zJO (atI zJO 15) (St.mk' [(1,pp 0),(3,uv v)] [(0,.box (Pack.enc false a1))]) (some v) kn):
  ∀s5:(Int×Int),J (q.g Tryz.prog 136 0 47) zJO (atI zJO 116) (St.mk' [(1,pp 0),(3,uv s5.1),(22,iv (a1.Name.size:Int)),(23,iv s5.2)] [(0,.box (Pack.enc false a1))]) (tT a1 s5) kn:=by
 refine zAU (fun g ih s5=>?_)
 unfold uK
 refine J_d 232 [] [24] [(24,bv (decide (s5.2< (a1.Name.size:Int))))] [] [] zB ?_
 refine zD 24 (fun h6=>?_) (fun h6=>?_)
 ·refine J_d 3736 [] [4,24] [(4,iv s5.2)] [] [] zB ?_
  refine zA (fun x7 h8=>?_)
  refine J_g 3737 [] [(1,pp 0),(3,uv (IntKind.u8.wrap (s5.1+x7))),(22,iv (a1.Name.size:Int)),(23,iv s5.2)] [(0,.box (Pack.enc false a1))] (zG 4 (zGE (kk:=.i64) 9 (.tmp 28) (.tmp 29) h8) zB) ?_
  refine J_d 935 [] [23] [(23,iv (w64 (s5.2+1)))] [] [] zB ?_
  exact J_q (J_b (ih (IntKind.u8.wrap (s5.1+x7),w64 (s5.2+1)))) rfl
 ·exact xC (hk s5.1) rfl
theorem wF.ok (a1:Pack):Ok Tryz.prog 136 [.ag (Pack.enc false a1)] [] ((wF a1).map fun r=>(so 1 eU8 r,[])):=by
 refine zH zJO Tryz.f136 0 47 (fun q=>?_)
 unfold wF
 refine J_g 2 [(0,0)] [(1,pp 0)] [(0,.box (Pack.enc false a1))] zB ?_
 refine J_g 6 [] [(1,pp 0),(3,uv (IntKind.u8.wrap ((IntKind.u8.wrap ((IntKind.u8.wrap (a1.Version.A))+(IntKind.u8.wrap (a1.Version.B))))+(IntKind.u8.wrap (a1.Version.C)))))] [(0,.box (Pack.enc false a1))] zB ?_
 refine J_d 28 [] [22,23] [(22,iv (a1.Name.size:Int)),(23,iv 0)] [] [] zB ?_
 refine zDT (tT.ok a1 q _ (fun v9=>J_j ?_) (IntKind.u8.wrap ((IntKind.u8.wrap ((IntKind.u8.wrap (a1.Version.A))+(IntKind.u8.wrap (a1.Version.B))))+(IntKind.u8.wrap (a1.Version.C))),0))
 refine J_g 30 [] [(1,pp 0),(3,uv v9),(5,rr 1 ([]:List Int))] [(0,.box (Pack.enc false a1)),(1,rE 1 eU8 ([]:List Int))] (zG 0 (zDZ 111 5 1 1 eU8 ([]:List Int) [] [] []) zB) ?_
 refine J_d 124 [] [1,35,36] [(35,iv a1.Size),(36,iv 0)] [0] [] zB ?_
 refine zDT (tH.ok a1 q _ (fun v17=>J_j ?_) (v9,([]:List Int),0))
 refine J_g 126 [] [(2,rr 1 v17)] [(1,rE 1 eU8 v17)] zB ?_
 exact zDJ (ds:=[rr 1 v17]) (ds':=[so 1 eU8 v17]) (.cons (.cell (.move (.head _) (List.length_map _) (by decide) (.nil))) (.nil) (by decide)) rfl
noncomputable def c212:Code:=(Tryz.f212.body).getD .skip
theorem wY.ok (a1:(List Int)) (a2:(List Int)) (q:Wd) (kn:Unit→Option (D×List Ent)) (hk:∀v:Unit,J (q.g Tryz.prog 212 0 26) c212 (atI c212 15) (St.mk' [] []) (some v) kn):
  ∀s10:Int,J (q.g Tryz.prog 212 0 26) c212 (atI c212 116) (St.mk' [(0,sl 1 eU8 a1),(1,sl 1 eU8 a2),(12,iv (a1.length:Int)),(13,iv s10)] []) (wY a1 a2 s10) (Fl.go (fun r:Bool=>some (bv r,[])) kn):=by
 refine zAU (fun g ih s10=>?_)
 unfold wO
 refine J_d 232 [] [14] [(14,bv (decide (s10< (a1.length:Int))))] [] [] zB ?_
 refine zD 14 (fun h11=>?_) (fun h11=>?_)
 ·refine J_d 3736 [] [5,14] [(5,iv s10)] [] [] zB ?_
  refine zA (fun x12 h13=>?_)
  refine zA (fun x14 h15=>?_)
  refine J_d 7474 [] [5,24] [(24,bv (x12 !=x14))] [] [] (zG 2 (uE (kk:=.i64) 111 5 1 eU8 (.tmp 16) (.tmp 17) h13) (zG 6 (uE (kk:=.i64) 111 5 1 eU8 (.tmp 20) (.tmp 21) h15) zB)) ?_
  refine zD 24 (fun h16=>?_) (fun h16=>?_)
  ·refine J_g 29900 [] [(4,bv false)] [] zB ?_
   exact zT rfl
  ·refine J_d 935 [] [13,24] [(13,iv (w64 (s10+1)))] [] [] zB ?_
   exact J_q (J_b (ih (w64 (s10+1)))) rfl
 ·exact xC (hk ()) rfl
theorem wE.ok (a1:(List Int)) (a2:(List Int)):Ok Tryz.prog 212 [sl 1 eU8 a1,sl 1 eU8 a2] [] ((wE a1 a2).map fun r=>(bv r,[])):=by
 refine zH c212 Tryz.f212 0 26 (fun q=>?_)
 unfold wE
 refine J_g 2 [] [(0,sl 1 eU8 a1),(1,sl 1 eU8 a2)] [] zB ?_
 refine J_d 12 [] [10] [(10,bv ((a1.length:Int) !=(a2.length:Int)))] [] [] zB ?_
 refine zD 10 (fun h3=>?_) (fun h3=>?_)
 ·refine J_g 52 [] [(4,bv false)] [] zB ?_
  exact zT rfl
 ·refine J_d 28 [] [10,12,13] [(12,iv (a1.length:Int)),(13,iv 0)] [] [] zB ?_
  refine jL (K0:=(fun r:Bool=>some (bv r,[]))) (fun _=>rfl) (wY.ok a1 a2 q _ (fun v17=>J_j ?_) 0)
  refine J_g 30 [] [(4,bv true)] [] zB ?_
  exact zT rfl
noncomputable def zMK:Code:=(Tryz.f211.body).getD .skip
theorem tX.ok (a1:Int) (a2:zI) (a3:(List Pack)):Ok Tryz.prog 211 [iv a1,pp 0,pp 1] [.box (zI.enc false a2),.box [sl 8 (Pack.enc false) a3]] ((tX a1 a2 a3).map fun r=>(bv r,[.box (zI.enc false a2),.box [sl 8 (Pack.enc false) a3]])):=by
 refine zH zMK Tryz.f211 2 29 (fun q=>?_)
 unfold tX
 refine J_d 2 [] [] [] [] [] zB ?_
 refine zA (fun x4 h5=>?_)
 refine zA (fun x6 h7=>?_)
 refine zA (fun x8 h9=>?_)
 refine J_d 6 [] [1,5,6] [(5,sl 1 eU8 x8.1),(6,bv x8.2)] [] [] (zG 3 (uE (kk:=.i64) 24 89 8 (Pack.enc false) (.tmp 9) (.tmp 10) h5) (zG 5 (yT [(.tmp 12)] [89] (wV.ok x4) h7) (zG 6 (yT [(.tmp 8),(.tmp 13)] [27,9] (yS.ok a2 x6) h9) zB))) ?_
 refine wG (fun h10=>?_) (fun h10=>?_)
 ·refine J_d 14 [] [0,2,4,5,6] [(4,bv true)] [] [] (xK 2 [(18,bv (!x8.2))] [] h10 zB) ?_
  exact zT rfl
 ·refine zA (fun x11 h12=>?_)
  refine zA (fun x13 h14=>?_)
  refine zA (fun x15 h16=>?_)
  refine J_d 14 [] [0,2,4,5,6] [(4,bv (!x15))] [] [] (xK 2 [(18,bv (!x8.2))] [] h10 (zBU 6 2 19 false (uE (kk:=.i64) 24 89 8 (Pack.enc false) (.tmp 21) (.tmp 22) h12) (zBU 8 2 19 false (zBI («as»:=[.ag (Pack.enc false x11)]) [(.tmp 24)] [89] false [] [] (.cons (.same rfl) (.nil)) (wF.ok x11) h14 (.own 2)) (zBU 9 2 19 false (zBI («as»:=[sl 1 eU8 x8.1,rr 2 x13]) [(.tmp 20),(.tmp 25)] [111,111] true [(2,rE 1 eU8 x13)] [] (.cons (.same rfl) (.cons (zFv (.head _) (fun _=>rfl) rfl) (.nil))) (wE.ok x8.1 x13) h16 (.same rfl rfl) (hbor:=fun _=>⟨fhN,xJ⟩)) zB)))) ?_
  exact zT rfl
noncomputable def zNf:Code:=(Tryz.f270.body).getD .skip
theorem yF.ok (a1:Int) (a2:zI) (a3:(List Pack)):Ok Tryz.prog 270 [iv a1,.pb [.fn 211 [pp 0,pp 1]]] [.box (zI.enc false a2),.box [sl 8 (Pack.enc false) a3]] ((yF a1 a2 a3).map fun r=>(bv r,[.box (zI.enc false a2),.box [sl 8 (Pack.enc false) a3]])):=by
 refine zH zNf Tryz.f270 2 8 (fun q=>?_)
 unfold yF
 refine J_d 2 [] [] [] [] [] zB ?_
 refine zA (fun x4 h5=>?_)
 refine J_d 6 [] [0,1,3] [(3,bv (!x4))] [] [] (zG 0 (zLC (d:=.fn 211 [pp 0,pp 1]) 202 (.tmp 1) [.fn 211 [pp 0,pp 1]]) (zG 2 (zFl [(0,.box (zI.enc false a2)),(1,.box [sl 8 (Pack.enc false) a3])] [] (zIO 4 [(.tmp 5)] [2] false [(0,.box (zI.enc false a2)),(1,.box [sl 8 (Pack.enc false) a3])] [0,1] [iv a1] [pp 0,pp 1] (.cons (.same rfl) (.cons (.pt rfl) (.cons (.pt rfl) (.nil)))) (tX.ok a1 a2 a3) h5 (.same rfl rfl))) zB)) ?_
 exact zT rfl
theorem zZ.ok (a1:(List Int)) (a2:zI) (a3:(List Pack)) (q:Wd) (kn:Unit→Option (D×List Ent)) (hk:∀v:Unit,J (q.g Tryz.prog 249 3 19) zJA (atI zJA 7) (St.mk' [] [(0,rE 1 yE a1),(1,.box (zI.enc false a2)),(2,.box [sl 8 (Pack.enc false) a3])]) (some v) kn):
  ∀s10:Int,J (q.g Tryz.prog 249 3 19) zJA (atI zJA 52) (St.mk' [(0,rr 0 a1),(1,.fn 270 [.pb [.fn 211 [pp 1,pp 2]]]),(7,iv (a1.length:Int)),(8,iv s10)] [(0,rE 1 yE a1),(1,.box (zI.enc false a2)),(2,.box [sl 8 (Pack.enc false) a3])]) (zZ a1 a2 a3 s10) (Fl.go (fun r:Int=>some (iv r,[rE 1 yE a1,.box (zI.enc false a2),.box [sl 8 (Pack.enc false) a3]])) kn):=by
 refine zAU (fun g ih s10=>?_)
 unfold zM
 refine J_d 104 [] [9] [(9,bv (decide (s10< (a1.length:Int))))] [] [] zB ?_
 refine zD 9 (fun h11=>?_) (fun h11=>?_)
 ·refine J_d 1688 [] [5,9] [(5,iv s10)] [] [] zB ?_
  refine zA (fun x12 h13=>?_)
  refine zA (fun x14 h15=>?_)
  refine J_d 3378 [] [16] [(16,bv x14)] [] [] (zG 3 (zC5 (kk:=.i64) 42 2 1 0 yE (.tmp 12) (.tmp 13) h13) (zG 4 (zEh (d:=iv x12) 2 1 0 0 yE (.tmp 14) h13 (by kernel_rfl)) (zG 5 (zFl [(1,.box (zI.enc false a2)),(2,.box [sl 8 (Pack.enc false) a3])] [] (zIO 11 [(.tmp 15)] [2] false [(1,.box (zI.enc false a2)),(2,.box [sl 8 (Pack.enc false) a3])] [1,2] [iv x12] [.pb [.fn 211 [pp 1,pp 2]]] (.cons (.same rfl) (.cons (.pb (.cons (.fn (.cons (.pt rfl) (.cons (.pt rfl) (.nil)))) (.nil))) (.nil))) (yF.ok x12 a2 a3) h15 (.same rfl rfl))) zB))) ?_
  refine zD 16 (fun h16=>?_) (fun h16=>?_)
  ·refine J_d 13516 [] [0,1,4,5,7,8,16] [(4,iv s10)] [] [] zB ?_
   exact zT rfl
  ·refine J_d 423 [] [5,8,16] [(8,iv (w64 (s10+1)))] [] [] zB ?_
   exact J_q (J_b (ih (w64 (s10+1)))) rfl
 ·exact xC (hk ()) rfl
theorem zQ.ok (a1:(List Int)) (a2:zI) (a3:(List Pack)):Ok Tryz.prog 249 [rr 0 a1,.fn 270 [.pb [.fn 211 [pp 1,pp 2]]]] [rE 1 yE a1,.box (zI.enc false a2),.box [sl 8 (Pack.enc false) a3]] ((zQ a1 a2 a3).map fun r=>(iv r,[rE 1 yE a1,.box (zI.enc false a2),.box [sl 8 (Pack.enc false) a3]])):=by
 refine zH zJA Tryz.f249 3 19 (fun q=>?_)
 unfold zQ
 refine J_g 2 [] [(0,rr 0 a1),(1,.fn 270 [.pb [.fn 211 [pp 1,pp 2]]])] [(0,rE 1 yE a1),(1,.box (zI.enc false a2)),(2,.box [sl 8 (Pack.enc false) a3])] zB ?_
 refine J_d 12 [] [7,8] [(7,iv (a1.length:Int)),(8,iv 0)] [] [] zB ?_
 refine jL (K0:=(fun r:Int=>some (iv r,[rE 1 yE a1,.box (zI.enc false a2),.box [sl 8 (Pack.enc false) a3]]))) (fun _=>rfl) (zZ.ok a1 a2 a3 q _ (fun v17=>J_j ?_) 0)
 refine J_d 14 [] [4] [(4,iv (-1))] [] [] zB ?_
 exact zT rfl
noncomputable def zLs:Code:=(Tryz.f269.body).getD .skip
theorem zX.ok (a2:zI) (a3:(List Pack)) (q:Wd) (kn:((List Int)×Int)→Option (D×List Ent)) (hk:∀v:((List Int)×Int),J (q.g Tryz.prog 269 3 42) zLs (atI zLs 31) (St.mk' [(0,rr 2 v.1),(5,iv v.2)] [(0,.box (zI.enc false a2)),(1,.box [sl 8 (Pack.enc false) a3]),(2,rE 1 yE v.1)]) (some v) kn):
  ∀s16:((List Int)×Int×Int),J (q.g Tryz.prog 269 3 42) zLs (atI zLs 244) (St.mk' [(0,rr 2 s16.1),(1,.fn 270 [.pb [.fn 211 [pp 0,pp 1]]]),(5,iv s16.2.1),(6,iv s16.2.2)] [(0,.box (zI.enc false a2)),(1,.box [sl 8 (Pack.enc false) a3]),(2,rE 1 yE s16.1)]) (zX a2 a3 s16) kn:=by
 refine zAU (fun g ih s16=>?_)
 unfold zL
 refine J_d 976 [] [19] [(19,bv (decide (s16.2.2< (s16.1.length:Int))))] [] [] zB ?_
 refine zD 19 (fun h17=>?_) (fun h17=>?_)
 ·refine zA (fun x18 h19=>?_)
  refine J_d 3912 [] [7,19] [(7,iv x18)] [] [] (zG 2 (zC5 (kk:=.i64) 42 2 1 2 yE (.tmp 22) (.tmp 23) h19) (zG 3 (zEh (d:=iv x18) 2 1 2 0 yE (.tmp 24) h19 (by kernel_rfl)) zB)) ?_
  refine zA (fun x20 h21=>?_)
  refine J_d 7826 [] [29] [(29,bv (!x20))] [] [] (zG 2 (zFl [(0,.box (zI.enc false a2)),(1,.box [sl 8 (Pack.enc false) a3])] [] (zIO 26 [(.tmp 27)] [2] false [(0,.box (zI.enc false a2)),(1,.box [sl 8 (Pack.enc false) a3])] [0,1] [iv x18] [.pb [.fn 211 [pp 0,pp 1]]] (.cons (.same rfl) (.cons (.pb (.cons (.fn (.cons (.pt rfl) (.cons (.pt rfl) (.nil)))) (.nil))) (.nil))) (yF.ok x18 a2 a3) h21 (.same rfl rfl))) zB) ?_
  refine vC (aft zLs 1956) (fun v25:((List Int)×Int)=>St.mk' [(0,rr 2 v25.1),(1,.fn 270 [.pb [.fn 211 [pp 0,pp 1]]]),(5,iv v25.2),(6,iv s16.2.2)] [(0,.box (zI.enc false a2)),(1,.box [sl 8 (Pack.enc false) a3]),(2,rE 1 yE v25.1)]) (fun v25=>?_) (fun jv25=>?_)
  ·refine J_d 979 [] [6] [(6,iv (w64 (s16.2.2+1)))] [] [] zB ?_
   exact J_q (J_b (ih (v25.1,v25.2,w64 (s16.2.2+1)))) rfl
  ·refine zD 29 (fun h22=>?_) (fun h22=>?_)
   ·refine zA (fun x23 h24=>?_)
    refine J_g 31308 [] [(0,rr 2 s16.1),(1,.fn 270 [.pb [.fn 211 [pp 0,pp 1]]]),(5,iv s16.2.1),(6,iv s16.2.2)] [(0,.box (zI.enc false a2)),(1,.box [sl 8 (Pack.enc false) a3]),(2,rE 1 yE (s16.1.set s16.2.1.toNat x18))] (zG 3 (zC5 (kk:=.i64) 42 2 1 2 yE (.tmp 30) (.tmp 31) h24) (zJB 4 (zLK (b:=x18) 2 1 2 0 yE (iv x18) (.tmp 33) (.tmp 32) h24 rfl) zB)) ?_
    refine zJH (σ':=St.mk' [(0,rr 2 (s16.1.set s16.2.1.toNat x18)),(1,.fn 270 [.pb [.fn 211 [pp 0,pp 1]]]),(5,iv s16.2.1),(6,iv s16.2.2)] [(0,.box (zI.enc false a2)),(1,.box [sl 8 (Pack.enc false) a3]),(2,rE 1 yE (s16.1.set s16.2.1.toNat x18))]) (by simp only [rr,List.length_set]) ?_
    refine J_d 31309 [] [5] [(5,iv (w64 (s16.2.1+1)))] [] [] zB ?_
    exact xC (J_j (jv25 (s16.1.set s16.2.1.toNat x18,w64 (s16.2.1+1)))) rfl
   ·exact xC (J_j (jv25 (s16.1,s16.2.1))) rfl
 ·exact xC (hk (s16.1,s16.2.1)) rfl
theorem zK.ok (a1:(List Int)) (a2:zI) (a3:(List Pack)):Ok Tryz.prog 269 [rr 2 a1,.fn 270 [.pb [.fn 211 [pp 0,pp 1]]]] [.box (zI.enc false a2),.box [sl 8 (Pack.enc false) a3],rE 1 yE a1] ((zK a1 a2 a3).map fun r=>(so 1 yE r,[.box (zI.enc false a2),.box [sl 8 (Pack.enc false) a3]])):=by
 refine zH zLs Tryz.f269 3 42 (fun q=>?_)
 unfold zK
 refine J_d 2 [] [] [] [] [] zB ?_
 refine zA (fun x4 h5=>?_)
 refine J_g 6 [] [(0,rr 2 a1),(1,.fn 270 [.pb [.fn 211 [pp 0,pp 1]]]),(5,iv x4)] [(0,.box (zI.enc false a2)),(1,.box [sl 8 (Pack.enc false) a3]),(2,rE 1 yE a1)] (zG 2 (zFl [(2,rE 1 yE a1),(0,.box (zI.enc false a2)),(1,.box [sl 8 (Pack.enc false) a3])] [] (zBI («as»:=[rr 2 a1,.fn 270 [.pb [.fn 211 [pp 0,pp 1]]]]) [(.tmp 8),(.tmp 9)] [42,202] false [(2,rE 1 yE a1),(0,.box (zI.enc false a2)),(1,.box [sl 8 (Pack.enc false) a3])] [2,0,1] (.cons (.rf rfl) (.cons (.fn (.cons (.pb (.cons (.fn (.cons (.pt rfl) (.cons (.pt rfl) (.nil)))) (.nil))) (.nil))) (.nil))) (zQ.ok a1 a2 a3) h5 (.same rfl rfl))) zB) ?_
 refine J_d 28 [] [12] [(12,bv (x4==(-1)))] [] [] zB ?_
 refine zD 12 (fun h6=>?_) (fun h6=>?_)
 ·refine J_g 116 [] [(4,rr 2 a1)] [(0,.box (zI.enc false a2)),(1,.box [sl 8 (Pack.enc false) a3]),(2,rE 1 yE a1)] zB ?_
  exact zDJ (ds:=[rr 2 a1]) (ds':=[so 1 yE a1]) (.cons (.cell (.move (.tail _ (.tail _ (.head _))) (List.length_map _) (by decide) (.nil))) (.nil) (by decide)) rfl
 ·refine J_d 60 [] [6,12] [(6,iv (w64 (x4+1)))] [] [] zB ?_
  refine zDT (zX.ok a2 a3 q _ (fun v26=>J_j ?_) (a1,x4,w64 (x4+1)))
  refine zA (fun x27 h28=>?_)
  refine zA (fun x29 h30=>?_)
  refine J_g 62 [] [(0,rr 2 v26.1),(5,iv v26.2)] [(0,.box (zI.enc false a2)),(1,.box [sl 8 (Pack.enc false) a3]),(2,rE 1 yE x29)] (zG 2 (zMo 42 2 1 2 yE (.tmp 36) (some (.tmp 37)) none h28) (zJB 3 (zM2 (l:=v26.2) (a:=0) 42 2 1 2 yE (.tmp 38) h30 (.keep rfl (.nil))) zB)) ?_
  refine zJH (σ':=St.mk' [(0,rr 2 x29),(5,iv v26.2)] [(0,.box (zI.enc false a2)),(1,.box [sl 8 (Pack.enc false) a3]),(2,rE 1 yE x29)]) (by simp only [rr,zJM h30]) ?_
  refine zA (fun x31 h32=>?_)
  refine J_g 126 [] [(4,rr 3 x31)] [(0,.box (zI.enc false a2)),(1,.box [sl 8 (Pack.enc false) a3]),(3,rE 1 yE x31)] (zG 2 (zMy 42 2 1 2 3 yE (.tmp 39) none (some (.tmp 40)) h32) zB) ?_
  exact zDJ (ds:=[rr 3 x31]) (ds':=[so 1 yE x31]) (.cons (.cell (.move (.tail _ (.tail _ (.head _))) (List.length_map _) (by decide) (.nil))) (.nil) (by decide)) rfl
noncomputable def c210:Code:=(Tryz.f210.body).getD .skip
theorem xB.ok (a1:(List Int)) (a2:zI) (a3:(List Pack)):Ok Tryz.prog 210 [sl 1 yE a1,.fn 211 [pp 0,pp 1]] [.box (zI.enc false a2),.box [sl 8 (Pack.enc false) a3]] ((xB a1 a2 a3).map fun r=>(so 1 yE r,[.box (zI.enc false a2),.box [sl 8 (Pack.enc false) a3]])):=by
 refine zH c210 Tryz.f210 2 9 (fun q=>?_)
 unfold xB
 refine J_d 2 [] [1,3] [(3,.pb [.fn 211 [pp 0,pp 1]])] [] [] (zG 0 (zKL 202 (.tmp 1) (.fn 211 [pp 0,pp 1])) zB) ?_
 refine zA (fun x4 h5=>?_)
 refine zA (fun x6 h7=>?_)
 refine J_g 6 [] [(4,rr 3 x6)] [(0,.box (zI.enc false a2)),(1,.box [sl 8 (Pack.enc false) a3]),(3,rE 1 yE x6)] (zG 1 (zBI («as»:=[sl 1 yE a1]) [(.tmp 5)] [42] false [] [] (.cons (.same rfl) (.nil)) (wP.ok a1) h5 (.own 2)) (zG 3 (zBI («as»:=[rr 2 x4,.fn 270 [.pb [.fn 211 [pp 0,pp 1]]]]) [(.tmp 6),(.tmp 7)] [42,202] false [(0,.box (zI.enc false a2)),(1,.box [sl 8 (Pack.enc false) a3]),(2,rE 1 yE x4)] [0,1,2] (.cons (.rf rfl) (.cons (.fn (.cons (.pb (.cons (.fn (.cons (.pt rfl) (.cons (.pt rfl) (.nil)))) (.nil))) (.nil))) (.nil))) (zK.ok x4 a2 a3) h7 (.own 3)) zB)) ?_
 exact zDJ (ds:=[rr 3 x6]) (ds':=[so 1 yE x6]) (.cons (.cell (.move (.tail _ (.tail _ (.head _))) (List.length_map _) (by decide) (.nil))) (.nil) (by decide)) rfl
noncomputable def zML:Code:=(Tryz.f134.body).getD .skip
theorem zAh.ok (a1:(List Pack)) (a2:zI) (a3:(List Int)):Ok Tryz.prog 134 [sl 8 (Pack.enc false) a1,.ag (zI.enc false a2),sl 1 yE a3] [] ((zAh a1 a2 a3).map fun r=>(so 1 yE r,[])):=by
 refine zH zML Tryz.f134 0 10 (fun q=>?_)
 unfold zAh
 refine J_g 2 [(0,0),(1,1)] [(2,sl 1 yE a3),(3,pp 0),(4,pp 1)] [(0,.box [sl 8 (Pack.enc false) a1]),(1,.box (zI.enc false a2))] zB ?_
 refine zA (fun x4 h5=>?_)
 refine J_g 6 [] [(6,rr 2 x4)] [(2,rE 1 yE x4)] (zG 2 (zFl [(1,.box (zI.enc false a2)),(0,.box [sl 8 (Pack.enc false) a1])] [(2,rE 1 yE x4)] (zBI («as»:=[sl 1 yE a3,.fn 211 [pp 1,pp 0]]) [(.tmp 7),(.tmp 8)] [42,202] false [(1,.box (zI.enc false a2)),(0,.box [sl 8 (Pack.enc false) a1])] [1,0] (.cons (.same rfl) (.cons (.fn (.cons (.pt rfl) (.cons (.pt rfl) (.nil)))) (.nil))) (xB.ok a3 a2 a1) h5 (.own 2))) zB) ?_
 exact zDJ (ds:=[rr 2 x4]) (ds':=[so 1 yE x4]) (.cons (.cell (.move (.head _) (List.length_map _) (by decide) (.nil))) (.nil) (by decide)) rfl
end Go.Told

import Derived.Test.YtlagdfkkokgakaaGreatDoorToldWasteOf
import Derived.Test.YtlagdfkkokgakaaGreatDoorShelfWasteOf
import Derived.Test.YtlagdfkkokgakaaGreatDoorProg
set_option linter.unusedVariables false
set_option maxRecDepth 4000
namespace Go.Told
open Go Go.Im Go.Proofs
noncomputable def zNi:Code:=(Tryz.f100.body).getD .skip
theorem zAj.ok (a1:(List ByteArray)) (q:Wd) (kn:Int→Option (D×List Ent)) (hk:∀v:Int,J (q.g Tryz.prog 100 0 28) zNi (atI zNi 31) (St.mk' [(1,iv v)] []) (some v) kn):
  ∀s8:(Int×Int),J (q.g Tryz.prog 100 0 28) zNi (atI zNi 244) (St.mk' [(0,sl 1 eStr a1),(1,iv s8.1),(5,iv s8.2)] []) (zAj a1 s8) (Fl.go (fun r:Int=>some (iv r,[])) kn):=by
 refine zAz (fun g ih s8=>?_)
 unfold kH
 refine J_d 976 [] [15] [(15,bv (decide (s8.2< (a1.length:Int))))] [] [] zB ?_
 refine zC 15 (fun h9=>?_) (fun h9=>?_)
 ·refine zA (fun x10 h11=>?_)
  refine J_g 3912 [] [(0,sl 1 eStr a1),(1,iv (w64 (s8.1-(x10.size:Int)))),(5,iv s8.2)] [] (zD 3 (zAc (kk:=.i64) 70 9 1 eStr (.tmp 19) (.tmp 20) h11) zB) ?_
  refine J_d 7826 [] [26] [(26,bv (decide ((w64 (s8.1-(x10.size:Int)))<0)))] [] [] zB ?_
  refine zC 26 (fun h12=>?_) (fun h12=>?_)
  ·refine J_g 31308 [] [(4,iv (-1))] [] zB ?_
   exact zU rfl
  ·refine J_d 979 [] [5,26] [(5,iv (w64 (s8.2+1)))] [] [] zB ?_
   exact J_q (J_b (ih (w64 (s8.1-(x10.size:Int)),w64 (s8.2+1)))) rfl
 ·exact yQ (hk s8.1) rfl
theorem kY.ok (a1:(List ByteArray)) (a2:Int):Ok Tryz.prog 100 [sl 1 eStr a1,iv a2] [] ((kY a1 a2).map fun r=>(iv r,[])):=by
 refine zH zNi Tryz.f100 0 28 (fun q=>?_)
 unfold kY
 refine J_g 2 [] [(0,sl 1 eStr a1),(1,iv a2)] [] zB ?_
 refine J_g 6 [] [(0,sl 1 eStr a1),(1,iv (w64 (a2-(a1.length:Int))))] [] zB ?_
 refine J_d 28 [] [11] [(11,bv (decide ((w64 (a2-(a1.length:Int)))<0)))] [] [] zB ?_
 refine zC 11 (fun h3=>?_) (fun h3=>?_)
 ·refine J_g 116 [] [(4,iv (-1))] [] zB ?_
  exact zU rfl
 ·refine J_d 60 [] [5,11] [(5,iv 0)] [] [] zB ?_
  refine uQ (K0:=(fun r:Int=>some (iv r,[]))) (fun _=>rfl) (zAj.ok a1 q _ (fun v13=>J_j ?_) (w64 (a2-(a1.length:Int)),0))
  refine J_g 62 [] [(4,iv v13)] [] zB ?_
  exact zU rfl
noncomputable def c183:Code:=(Tryz.f183.body).getD .skip
theorem zCa.ok (a1:Term) (a2:Int):Ok Tryz.prog 183 [.ag (Term.enc a1),iv a2] [] ((zCa a1 a2).map fun r=>(iv r,[])):=by
 refine zH c183 Tryz.f183 0 13 (fun q=>?_)
 unfold zCa
 refine J_g 2 [(0,0)] [(1,iv a2),(2,pp 0)] [(0,.box (Term.enc a1))] zB ?_
 refine J_g 6 [] [(1,iv (w64 (a2-(a1.Name.size:Int))))] [] zB ?_
 refine J_d 28 [] [11] [(11,bv (decide ((w64 (a2-(a1.Name.size:Int)))<0)))] [] [] zB ?_
 refine zC 11 (fun h3=>?_) (fun h3=>?_)
 ·refine J_g 116 [] [(4,iv (-1))] [] zB ?_
  exact zU rfl
 ·refine J_g 30 [] [(4,iv (w64 (a2-(a1.Name.size:Int))))] [] zB ?_
  exact zU rfl
noncomputable def zNe:Code:=(Tryz.f102.body).getD .skip
theorem zAU.ok (a1:(List Term)) (q:Wd) (kn:Int→Option (D×List Ent)) (hk:∀v:Int,J (q.g Tryz.prog 102 0 27) zNe (atI zNe 31) (St.mk' [(1,iv v)] []) (some v) kn):
  ∀s10:(Int×Int),J (q.g Tryz.prog 102 0 27) zNe (atI zNe 244) (St.mk' [(0,sl 7 Term.enc a1),(1,iv s10.1),(5,iv s10.2)] []) (zAU a1 s10) (Fl.go (fun r:Int=>some (iv r,[])) kn):=by
 refine zAz (fun g ih s10=>?_)
 unfold zAA
 refine J_d 976 [] [15] [(15,bv (decide (s10.2< (a1.length:Int))))] [] [] zB ?_
 refine zC 15 (fun h11=>?_) (fun h11=>?_)
 ·refine zA (fun x12 h13=>?_)
  refine zA (fun x14 h15=>?_)
  refine J_g 3912 [] [(0,sl 7 Term.enc a1),(1,iv x14),(5,iv s10.2)] [] (zD 2 (zAc (kk:=.i64) 80 207 7 Term.enc (.tmp 18) (.tmp 19) h13) (zD 5 (xH [(.tmp 21),(.tmp 22)] [207,3] (zCa.ok x12 s10.1) h15) zB)) ?_
  refine J_d 7826 [] [25] [(25,bv (decide (x14<0)))] [] [] zB ?_
  refine zC 25 (fun h16=>?_) (fun h16=>?_)
  ·refine J_g 31308 [] [(4,iv (-1))] [] zB ?_
   exact zU rfl
  ·refine J_d 979 [] [5,25] [(5,iv (w64 (s10.2+1)))] [] [] zB ?_
   exact J_q (J_b (ih (x14,w64 (s10.2+1)))) rfl
 ·exact yQ (hk s10.1) rfl
theorem jY.ok (a1:(List Term)) (a2:Int):Ok Tryz.prog 102 [sl 7 Term.enc a1,iv a2] [] ((jY a1 a2).map fun r=>(iv r,[])):=by
 refine zH zNe Tryz.f102 0 27 (fun q=>?_)
 unfold jY
 refine J_g 2 [] [(0,sl 7 Term.enc a1),(1,iv a2)] [] zB ?_
 refine J_g 6 [] [(0,sl 7 Term.enc a1),(1,iv (w64 (a2-(a1.length:Int))))] [] zB ?_
 refine J_d 28 [] [11] [(11,bv (decide ((w64 (a2-(a1.length:Int)))<0)))] [] [] zB ?_
 refine zC 11 (fun h3=>?_) (fun h3=>?_)
 ·refine J_g 116 [] [(4,iv (-1))] [] zB ?_
  exact zU rfl
 ·refine J_d 60 [] [5,11] [(5,iv 0)] [] [] zB ?_
  refine uQ (K0:=(fun r:Int=>some (iv r,[]))) (fun _=>rfl) (zAU.ok a1 q _ (fun v17=>J_j ?_) (w64 (a2-(a1.length:Int)),0))
  refine J_g 62 [] [(4,iv v17)] [] zB ?_
  exact zU rfl
noncomputable def zMY:Code:=(Tryz.f101.body).getD .skip
theorem zAB.ok (a1:(List (List Term))) (q:Wd) (kn:Int→Option (D×List Ent)) (hk:∀v:Int,J (q.g Tryz.prog 101 0 27) zMY (atI zMY 31) (St.mk' [(1,iv v)] []) (some v) kn):
  ∀s10:(Int×Int),J (q.g Tryz.prog 101 0 27) zMY (atI zMY 244) (St.mk' [(0,sl 1 (eSl false 7 Term.enc) a1),(1,iv s10.1),(5,iv s10.2)] []) (zAB a1 s10) (Fl.go (fun r:Int=>some (iv r,[])) kn):=by
 refine zAz (fun g ih s10=>?_)
 unfold zAe
 refine J_d 976 [] [15] [(15,bv (decide (s10.2< (a1.length:Int))))] [] [] zB ?_
 refine zC 15 (fun h11=>?_) (fun h11=>?_)
 ·refine zA (fun x12 h13=>?_)
  refine zA (fun x14 h15=>?_)
  refine J_g 3912 [] [(0,sl 1 (eSl false 7 Term.enc) a1),(1,iv x14),(5,iv s10.2)] [] (zD 2 (zAc (kk:=.i64) 79 80 1 (eSl false 7 Term.enc) (.tmp 18) (.tmp 19) h13) (zD 5 (xH [(.tmp 21),(.tmp 22)] [80,3] (jY.ok x12 s10.1) h15) zB)) ?_
  refine J_d 7826 [] [25] [(25,bv (decide (x14<0)))] [] [] zB ?_
  refine zC 25 (fun h16=>?_) (fun h16=>?_)
  ·refine J_g 31308 [] [(4,iv (-1))] [] zB ?_
   exact zU rfl
  ·refine J_d 979 [] [5,25] [(5,iv (w64 (s10.2+1)))] [] [] zB ?_
   exact J_q (J_b (ih (x14,w64 (s10.2+1)))) rfl
 ·exact yQ (hk s10.1) rfl
theorem zAr.ok (a1:(List (List Term))) (a2:Int):Ok Tryz.prog 101 [sl 1 (eSl false 7 Term.enc) a1,iv a2] [] ((zAr a1 a2).map fun r=>(iv r,[])):=by
 refine zH zMY Tryz.f101 0 27 (fun q=>?_)
 unfold zAr
 refine J_g 2 [] [(0,sl 1 (eSl false 7 Term.enc) a1),(1,iv a2)] [] zB ?_
 refine J_g 6 [] [(0,sl 1 (eSl false 7 Term.enc) a1),(1,iv (w64 (a2-(a1.length:Int))))] [] zB ?_
 refine J_d 28 [] [11] [(11,bv (decide ((w64 (a2-(a1.length:Int)))<0)))] [] [] zB ?_
 refine zC 11 (fun h3=>?_) (fun h3=>?_)
 ·refine J_g 116 [] [(4,iv (-1))] [] zB ?_
  exact zU rfl
 ·refine J_d 60 [] [5,11] [(5,iv 0)] [] [] zB ?_
  refine uQ (K0:=(fun r:Int=>some (iv r,[]))) (fun _=>rfl) (zAB.ok a1 q _ (fun v17=>J_j ?_) (w64 (a2-(a1.length:Int)),0))
  refine J_g 62 [] [(4,iv v17)] [] zB ?_
  exact zU rfl
noncomputable def c45:Code:=(Tryz.f45.body).getD .skip
theorem zBT.ok (a1:Pack) (a2:Int):Ok Tryz.prog 45 [.ag (Pack.enc false a1),iv a2] [] ((zBT a1 a2).map fun r=>(iv r,[])):=by
 refine zH c45 Tryz.f45 0 31 (fun q=>?_)
 unfold zBT
 refine J_g 2 [(0,0)] [(1,iv a2),(2,pp 0)] [(0,.box (Pack.enc false a1))] zB ?_
 refine J_g 6 [] [(1,iv (w64 (a2-(a1.Name.size:Int)))),(2,pp 0)] [(0,.box (Pack.enc false a1))] zB ?_
 refine J_d 28 [] [11] [(11,bv (decide ((w64 (a2-(a1.Name.size:Int)))<0)))] [] [] zB ?_
 refine zC 11 (fun h3=>?_) (fun h3=>?_)
 ·refine J_g 116 [] [(4,iv (-1))] [] zB ?_
  exact zU rfl
 ·refine zA (fun x4 h5=>?_)
  refine J_g 30 [] [(1,iv x4),(2,pp 0)] [(0,.box (Pack.enc false a1))] (zD 3 (xH [(.tmp 13),(.tmp 14)] [70,3] (kY.ok a1.Provides (w64 (a2-(a1.Name.size:Int)))) h5) zB) ?_
  refine J_d 124 [] [17] [(17,bv (decide (x4<0)))] [] [] zB ?_
  refine zC 17 (fun h6=>?_) (fun h6=>?_)
  ·refine J_g 500 [] [(4,iv (-1))] [] zB ?_
   exact zU rfl
  ·refine zA (fun x7 h8=>?_)
   refine J_g 126 [] [(1,iv x7),(2,pp 0)] [(0,.box (Pack.enc false a1))] (zD 3 (xH [(.tmp 19),(.tmp 20)] [79,3] (zAr.ok a1.Needs x4) h8) zB) ?_
   refine J_d 508 [] [23] [(23,bv (decide (x7<0)))] [] [] zB ?_
   refine zC 23 (fun h9=>?_) (fun h9=>?_)
   ·refine J_g 2036 [] [(4,iv (-1))] [] zB ?_
    exact zU rfl
   ·refine zA (fun x10 h11=>?_)
    refine J_g 510 [] [(1,iv x10)] [] (zD 3 (xH [(.tmp 25),(.tmp 26)] [80,3] (jY.ok a1.Bars x7) h11) zB) ?_
    refine J_g 2044 [] [(1,iv x10),(29,bv (decide (x10<0)))] [] zB ?_
    refine zC 29 (fun h12=>?_) (fun h12=>?_)
    ·refine J_g 8180 [] [(4,iv (-1))] [] zB ?_
     exact zU rfl
    ·refine J_g 2046 [] [(4,iv x10)] [] zB ?_
     exact zU rfl
noncomputable def c9:Code:=(Tryz.f9.body).getD .skip
theorem zAS.ok (a1:(List Pack)) (q:Wd) (kn:Int→Option (D×List Ent)) (hk:∀v:Int,J (q.g Tryz.prog 9 0 27) c9 (atI c9 31) (St.mk' [(1,iv v)] []) (some v) kn):
  ∀s10:(Int×Int),J (q.g Tryz.prog 9 0 27) c9 (atI c9 244) (St.mk' [(0,sl 8 (Pack.enc false) a1),(1,iv s10.1),(5,iv s10.2)] []) (zAS a1 s10) (Fl.go (fun r:Int=>some (iv r,[])) kn):=by
 refine zAz (fun g ih s10=>?_)
 unfold zA7
 refine J_d 976 [] [15] [(15,bv (decide (s10.2< (a1.length:Int))))] [] [] zB ?_
 refine zC 15 (fun h11=>?_) (fun h11=>?_)
 ·refine zA (fun x12 h13=>?_)
  refine zA (fun x14 h15=>?_)
  refine J_g 3912 [] [(0,sl 8 (Pack.enc false) a1),(1,iv x14),(5,iv s10.2)] [] (zD 2 (zAc (kk:=.i64) 22 82 8 (Pack.enc false) (.tmp 18) (.tmp 19) h13) (zD 5 (xH [(.tmp 21),(.tmp 22)] [82,3] (zBT.ok x12 s10.1) h15) zB)) ?_
  refine J_d 7826 [] [25] [(25,bv (decide (x14<0)))] [] [] zB ?_
  refine zC 25 (fun h16=>?_) (fun h16=>?_)
  ·refine J_g 31308 [] [(4,iv (-1))] [] zB ?_
   exact zU rfl
  ·refine J_d 979 [] [5,25] [(5,iv (w64 (s10.2+1)))] [] [] zB ?_
   exact J_q (J_b (ih (x14,w64 (s10.2+1)))) rfl
 ·exact yQ (hk s10.1) rfl
theorem zAN.ok (a1:(List Pack)) (a2:Int):Ok Tryz.prog 9 [sl 8 (Pack.enc false) a1,iv a2] [] ((zAN a1 a2).map fun r=>(iv r,[])):=by
 refine zH c9 Tryz.f9 0 27 (fun q=>?_)
 unfold zAN
 refine J_g 2 [] [(0,sl 8 (Pack.enc false) a1),(1,iv a2)] [] zB ?_
 refine J_g 6 [] [(0,sl 8 (Pack.enc false) a1),(1,iv (w64 (a2-(a1.length:Int))))] [] zB ?_
 refine J_d 28 [] [11] [(11,bv (decide ((w64 (a2-(a1.length:Int)))<0)))] [] [] zB ?_
 refine zC 11 (fun h3=>?_) (fun h3=>?_)
 ·refine J_g 116 [] [(4,iv (-1))] [] zB ?_
  exact zU rfl
 ·refine J_d 60 [] [5,11] [(5,iv 0)] [] [] zB ?_
  refine uQ (K0:=(fun r:Int=>some (iv r,[]))) (fun _=>rfl) (zAS.ok a1 q _ (fun v17=>J_j ?_) (w64 (a2-(a1.length:Int)),0))
  refine J_g 62 [] [(4,iv v17)] [] zB ?_
  exact zU rfl
noncomputable def zOM:Code:=(Tryz.f200.body).getD .skip
theorem zBv.ok (a1:(List Int)) (a2:Int):Ok Tryz.prog 200 [sl 1 eU8 a1,iv a2] [] ((zBv a1 a2).map fun r=>(iv r,[])):=by
 refine zH zOM Tryz.f200 0 12 (fun q=>?_)
 unfold zBv
 refine J_g 2 [] [(0,sl 1 eU8 a1),(1,iv a2)] [] zB ?_
 refine J_g 6 [] [(1,iv (w64 (a2-(a1.length:Int))))] [] zB ?_
 refine J_d 28 [] [10] [(10,bv (decide ((w64 (a2-(a1.length:Int)))<0)))] [] [] zB ?_
 refine zC 10 (fun h3=>?_) (fun h3=>?_)
 ·refine J_g 116 [] [(4,iv (-1))] [] zB ?_
  exact zU rfl
 ·refine J_g 30 [] [(4,iv (w64 (a2-(a1.length:Int))))] [] zB ?_
  exact zU rfl
noncomputable def zOY:Code:=(Tryz.f122.body).getD .skip
theorem zCb.ok (a1:File) (a2:Int):Ok Tryz.prog 122 [.ag (File.enc false a1),iv a2] [] ((zCb a1 a2).map fun r=>(iv r,[])):=by
 refine zH zOY Tryz.f122 0 19 (fun q=>?_)
 unfold zCb
 refine J_g 2 [(0,0)] [(1,iv a2),(2,pp 0)] [(0,.box (File.enc false a1))] zB ?_
 refine J_g 6 [] [(1,iv (w64 (a2-(a1.Path.size:Int)))),(2,pp 0)] [(0,.box (File.enc false a1))] zB ?_
 refine J_d 28 [] [11] [(11,bv (decide ((w64 (a2-(a1.Path.size:Int)))<0)))] [] [] zB ?_
 refine zC 11 (fun h3=>?_) (fun h3=>?_)
 ·refine J_g 116 [] [(4,iv (-1))] [] zB ?_
  exact zU rfl
 ·refine zA (fun x4 h5=>?_)
  refine J_g 30 [] [(1,iv x4)] [] (zD 3 (xH [(.tmp 13),(.tmp 14)] [111,3] (zBv.ok a1.Data (w64 (a2-(a1.Path.size:Int)))) h5) zB) ?_
  refine J_g 124 [] [(1,iv x4),(17,bv (decide (x4<0)))] [] zB ?_
  refine zC 17 (fun h6=>?_) (fun h6=>?_)
  ·refine J_g 500 [] [(4,iv (-1))] [] zB ?_
   exact zU rfl
  ·refine J_g 126 [] [(4,iv x4)] [] zB ?_
   exact zU rfl
noncomputable def c61:Code:=(Tryz.f61.body).getD .skip
theorem zBu.ok (a1:(List File)) (q:Wd) (kn:Int→Option (D×List Ent)) (hk:∀v:Int,J (q.g Tryz.prog 61 0 27) c61 (atI c61 31) (St.mk' [(1,iv v)] []) (some v) kn):
  ∀s10:(Int×Int),J (q.g Tryz.prog 61 0 27) c61 (atI c61 244) (St.mk' [(0,sl 2 (File.enc false) a1),(1,iv s10.1),(5,iv s10.2)] []) (zBu a1 s10) (Fl.go (fun r:Int=>some (iv r,[])) kn):=by
 refine zAz (fun g ih s10=>?_)
 unfold zA5
 refine J_d 976 [] [15] [(15,bv (decide (s10.2< (a1.length:Int))))] [] [] zB ?_
 refine zC 15 (fun h11=>?_) (fun h11=>?_)
 ·refine zA (fun x12 h13=>?_)
  refine zA (fun x14 h15=>?_)
  refine J_g 3912 [] [(0,sl 2 (File.enc false) a1),(1,iv x14),(5,iv s10.2)] [] (zD 2 (zAc (kk:=.i64) 39 157 2 (File.enc false) (.tmp 18) (.tmp 19) h13) (zD 5 (xH [(.tmp 21),(.tmp 22)] [157,3] (zCb.ok x12 s10.1) h15) zB)) ?_
  refine J_d 7826 [] [25] [(25,bv (decide (x14<0)))] [] [] zB ?_
  refine zC 25 (fun h16=>?_) (fun h16=>?_)
  ·refine J_g 31308 [] [(4,iv (-1))] [] zB ?_
   exact zU rfl
  ·refine J_d 979 [] [5,25] [(5,iv (w64 (s10.2+1)))] [] [] zB ?_
   exact J_q (J_b (ih (x14,w64 (s10.2+1)))) rfl
 ·exact yQ (hk s10.1) rfl
theorem zBy.ok (a1:(List File)) (a2:Int):Ok Tryz.prog 61 [sl 2 (File.enc false) a1,iv a2] [] ((zBy a1 a2).map fun r=>(iv r,[])):=by
 refine zH c61 Tryz.f61 0 27 (fun q=>?_)
 unfold zBy
 refine J_g 2 [] [(0,sl 2 (File.enc false) a1),(1,iv a2)] [] zB ?_
 refine J_g 6 [] [(0,sl 2 (File.enc false) a1),(1,iv (w64 (a2-(a1.length:Int))))] [] zB ?_
 refine J_d 28 [] [11] [(11,bv (decide ((w64 (a2-(a1.length:Int)))<0)))] [] [] zB ?_
 refine zC 11 (fun h3=>?_) (fun h3=>?_)
 ·refine J_g 116 [] [(4,iv (-1))] [] zB ?_
  exact zU rfl
 ·refine J_d 60 [] [5,11] [(5,iv 0)] [] [] zB ?_
  refine uQ (K0:=(fun r:Int=>some (iv r,[]))) (fun _=>rfl) (zBu.ok a1 q _ (fun v17=>J_j ?_) (w64 (a2-(a1.length:Int)),0))
  refine J_g 62 [] [(4,iv v17)] [] zB ?_
  exact zU rfl
noncomputable def c18:Code:=(Tryz.f18.body).getD .skip
theorem zBY.ok (a1:zI) (a2:Int):Ok Tryz.prog 18 [.ag (zI.enc false a1),iv a2] [] ((zBY a1 a2).map fun r=>(iv r,[])):=by
 refine zH c18 Tryz.f18 0 12 (fun q=>?_)
 unfold zBY
 refine J_g 2 [(0,0)] [(1,iv a2),(2,pp 0)] [(0,.box (zI.enc false a1))] zB ?_
 refine zA (fun x3 h4=>?_)
 refine J_g 6 [] [(1,iv x3)] [] (zD 3 (xH [(.tmp 6),(.tmp 7)] [39,3] (zBy.ok a1.Files a2) h4) zB) ?_
 refine J_g 28 [] [(1,iv x3),(10,bv (decide (x3<0)))] [] zB ?_
 refine zC 10 (fun h5=>?_) (fun h5=>?_)
 ·refine J_g 116 [] [(4,iv (-1))] [] zB ?_
  exact zU rfl
 ·refine J_g 30 [] [(4,iv x3)] [] zB ?_
  exact zU rfl
noncomputable def zOu:Code:=(Tryz.f108.body).getD .skip
theorem wE.ok (a1:Version):Ok Tryz.prog 108 [.ag (Version.enc a1)] [] ((wE a1).map fun r=>(.ag (Version.enc r),[])):=by
 refine zH zOu Tryz.f108 0 14 (fun q=>?_)
 unfold wE
 refine J_g 2 [(0,0),(1,1)] [(1,pp 0),(2,pp 1)] [(0,.box (Version.enc a1)),(1,.box [iv 0,iv 0,iv 0])] zB ?_
 refine J_g 6 [(0,2)] [(1,pp 0),(2,pp 1),(3,pp 2)] [(0,.box (Version.enc a1)),(1,.box [iv 0,iv 0,iv 0]),(2,.box [iv 0,iv 0,iv 0])] zB ?_
 refine J_g 14 [] [(1,pp 0),(2,pp 1),(3,pp 2)] [(0,.box (Version.enc a1)),(1,.box [iv 0,iv 0,iv 0]),(2,.box [iv a1.A,iv 0,iv 0])] zB ?_
 refine J_g 30 [] [(1,pp 0),(2,pp 1),(3,pp 2)] [(0,.box (Version.enc a1)),(1,.box [iv 0,iv 0,iv 0]),(2,.box [iv a1.A,iv a1.B,iv 0])] zB ?_
 refine J_g 62 [] [(2,pp 1),(3,pp 2)] [(1,.box [iv 0,iv 0,iv 0]),(2,.box (Version.enc a1))] zB ?_
 refine J_g 126 [] [(2,pp 1)] [(1,.box (Version.enc a1))] zB ?_
 exact zU rfl
noncomputable def c109:Code:=(Tryz.f109.body).getD .skip
theorem zAg.ok (a1:(List ByteArray)) (q:Wd) (kn:(List ByteArray)→Option (D×List Ent)) (hk:∀v:(List ByteArray),J (q.g Tryz.prog 109 0 22) c109 (atI c109 15) (St.mk' [(3,rr 0 v)] [(0,rE 1 eStr v)]) (some v) kn):
  ∀s9:((List ByteArray)×Int),J (q.g Tryz.prog 109 0 22) c109 (atI c109 116) (St.mk' [(0,sl 1 eStr a1),(3,rr 0 s9.1),(4,iv s9.2)] [(0,rE 1 eStr s9.1)]) (zAg a1 s9) kn:=by
 refine zAz (fun g ih s9=>?_)
 unfold zAH
 refine J_d 464 [] [11] [(11,bv (decide (s9.2< (a1.length:Int))))] [] [] zB ?_
 refine zC 11 (fun h10=>?_) (fun h10=>?_)
 ·refine zA (fun x11 h12=>?_)
  refine zA (fun x13 h14=>?_)
  refine J_g 932 [] [(0,sl 1 eStr a1),(3,rr 0 s9.1),(4,iv s9.2)] [(0,rE 1 eStr (s9.1.set s9.2.toNat x11))] (zD 4 (zAc (kk:=.i64) 70 9 1 eStr (.tmp 16) (.tmp 17) h12) (zD 6 (jT (kk:=.i64) 70 9 1 0 eStr (.tmp 14) (.tmp 15) h14) (zIU 7 (zMc (b:=x11) 9 1 0 0 eStr (sv x11) (.tmp 20) (.tmp 19) h14 rfl) zB))) ?_
  refine zHT (σ':=St.mk' [(0,sl 1 eStr a1),(3,rr 0 (s9.1.set s9.2.toNat x11)),(4,iv s9.2)] [(0,rE 1 eStr (s9.1.set s9.2.toNat x11))]) (by simp only [rr,List.length_set]) ?_
  refine J_d 467 [] [4] [(4,iv (w64 (s9.2+1)))] [] [] zB ?_
  exact J_q (J_b (ih (s9.1.set s9.2.toNat x11,w64 (s9.2+1)))) rfl
 ·exact yQ (hk s9.1) rfl
theorem kV.ok (a1:(List ByteArray)):Ok Tryz.prog 109 [sl 1 eStr a1] [] ((kV a1).map fun r=>(so 1 eStr r,[])):=by
 refine zH c109 Tryz.f109 0 22 (fun q=>?_)
 unfold kV
 refine J_d 2 [] [] [] [] [] zB ?_
 refine zA (fun x2 h3=>?_)
 refine J_g 6 [] [(0,sl 1 eStr a1),(3,rr 0 x2)] [(0,rE 1 eStr x2)] (zD 2 (zMR 70 9 1 16 0 eStr ByteArray.empty (.tmp 6) h3 (.keep rfl (.nil))) zB) ?_
 refine J_d 28 [] [4] [(4,iv 0)] [] [] zB ?_
 refine zEE (zAg.ok a1 q _ (fun v15=>J_j ?_) (x2,0))
 refine J_g 30 [] [(2,rr 0 v15)] [(0,rE 1 eStr v15)] zB ?_
 exact zBI (ds:=[rr 0 v15]) (ds':=[so 1 eStr v15]) (.cons (.cell (.move (.head _) (List.length_map _) (by decide) (.nil))) (.nil) (by decide)) rfl
noncomputable def zO0:Code:=(Tryz.f188.body).getD .skip
theorem zCe.ok (a1:Term):Ok Tryz.prog 188 [.ag (Term.enc a1)] [] ((zCe a1).map fun r=>(.ag (Term.enc r),[])):=by
 refine zH zO0 Tryz.f188 0 16 (fun q=>?_)
 unfold zCe
 refine J_g 2 [(0,0),(1,1)] [(1,pp 0),(2,pp 1)] [(0,.box (Term.enc a1)),(1,.box [sv ByteArray.empty,iv 0,iv 0,iv 0,iv 0,iv 0,iv 0])] zB ?_
 refine J_g 6 [(0,2)] [(1,pp 0),(2,pp 1),(3,pp 2)] [(0,.box (Term.enc a1)),(1,.box [sv ByteArray.empty,iv 0,iv 0,iv 0,iv 0,iv 0,iv 0]),(2,.box [sv ByteArray.empty,iv 0,iv 0,iv 0,iv 0,iv 0,iv 0])] zB ?_
 refine J_d 14 [] [] [] [2] [(2,.box [sv a1.Name,iv 0,iv 0,iv 0,iv 0,iv 0,iv 0])] zB ?_
 refine zA (fun x2 h3=>?_)
 refine J_d 30 [] [] [] [2] [(2,.box [sv a1.Name,iv x2.A,iv x2.B,iv x2.C,iv 0,iv 0,iv 0])] (zD 2 (xH [(.tmp 8)] [78] (wE.ok a1.Low) h3) zB) ?_
 refine zA (fun x4 h5=>?_)
 refine J_g 62 [] [(2,pp 1),(3,pp 2)] [(1,.box [sv ByteArray.empty,iv 0,iv 0,iv 0,iv 0,iv 0,iv 0]),(2,.box [sv a1.Name,iv x2.A,iv x2.B,iv x2.C,iv x4.A,iv x4.B,iv x4.C])] (zD 2 (xH [(.tmp 12)] [78] (wE.ok a1.High) h5) zB) ?_
 refine J_g 126 [] [(2,pp 1)] [(1,.box [sv a1.Name,iv x2.A,iv x2.B,iv x2.C,iv x4.A,iv x4.B,iv x4.C])] zB ?_
 exact zU rfl
noncomputable def zNk:Code:=(Tryz.f111.body).getD .skip
theorem zAY.ok (a1:(List Term)) (q:Wd) (kn:(List Term)→Option (D×List Ent)) (hk:∀v:(List Term),J (q.g Tryz.prog 111 0 23) zNk (atI zNk 15) (St.mk' [(3,rr 0 v)] [(0,rE 7 Term.enc v)]) (some v) kn):
  ∀s11:((List Term)×Int),J (q.g Tryz.prog 111 0 23) zNk (atI zNk 116) (St.mk' [(0,sl 7 Term.enc a1),(3,rr 0 s11.1),(4,iv s11.2)] [(0,rE 7 Term.enc s11.1)]) (zAY a1 s11) kn:=by
 refine zAz (fun g ih s11=>?_)
 unfold zBO
 refine J_d 464 [] [11] [(11,bv (decide (s11.2< (a1.length:Int))))] [] [] zB ?_
 refine zC 11 (fun h12=>?_) (fun h12=>?_)
 ·refine zA (fun x13 h14=>?_)
  refine zA (fun x15 h16=>?_)
  refine zA (fun x17 h18=>?_)
  refine J_g 932 [] [(0,sl 7 Term.enc a1),(3,rr 0 s11.1),(4,iv s11.2)] [(0,rE 7 Term.enc (s11.1.set s11.2.toNat x15))] (zD 4 (zAc (kk:=.i64) 80 207 7 Term.enc (.tmp 16) (.tmp 17) h14) (zD 6 (xH [(.tmp 19)] [207] (zCe.ok x13) h16) (zD 7 (jT (kk:=.i64) 53 153 7 0 Term.enc (.tmp 14) (.tmp 15) h18) (zIU 8 (zMc (b:=x15) 153 7 0 0 Term.enc (.ag (Term.enc x15)) (.tmp 21) (.tmp 20) h18 rfl) zB)))) ?_
  refine zHT (σ':=St.mk' [(0,sl 7 Term.enc a1),(3,rr 0 (s11.1.set s11.2.toNat x15)),(4,iv s11.2)] [(0,rE 7 Term.enc (s11.1.set s11.2.toNat x15))]) (by simp only [rr,List.length_set]) ?_
  refine J_d 467 [] [4] [(4,iv (w64 (s11.2+1)))] [] [] zB ?_
  exact J_q (J_b (ih (s11.1.set s11.2.toNat x15,w64 (s11.2+1)))) rfl
 ·exact yQ (hk s11.1) rfl
theorem kF.ok (a1:(List Term)):Ok Tryz.prog 111 [sl 7 Term.enc a1] [] ((kF a1).map fun r=>(so 7 Term.enc r,[])):=by
 refine zH zNk Tryz.f111 0 23 (fun q=>?_)
 unfold kF
 refine J_d 2 [] [] [] [] [] zB ?_
 refine zA (fun x2 h3=>?_)
 refine J_g 6 [] [(0,sl 7 Term.enc a1),(3,rr 0 x2)] [(0,rE 7 Term.enc x2)] (zD 2 (zMR 53 153 7 64 0 Term.enc ({Name:=ByteArray.empty,Low:=({A:=0,B:=0,C:=0}:Version),High:=({A:=0,B:=0,C:=0}:Version)}:Term) (.tmp 6) h3 (.keep rfl (.keep rfl (.keep rfl (.keep rfl (.keep rfl (.keep rfl (.keep rfl (.nil))))))))) zB) ?_
 refine J_d 28 [] [4] [(4,iv 0)] [] [] zB ?_
 refine zEE (zAY.ok a1 q _ (fun v19=>J_j ?_) (x2,0))
 refine J_g 30 [] [(2,rr 0 v19)] [(0,rE 7 Term.enc v19)] zB ?_
 exact zBI (ds:=[rr 0 v19]) (ds':=[so 7 Term.enc v19]) (.cons (.cell (.move (.head _) (List.length_map _) (by decide) (.nil))) (.nil) (by decide)) rfl
noncomputable def zNd:Code:=(Tryz.f110.body).getD .skip
theorem zA6.ok (a1:(List (List Term))) (q:Wd) (kn:(List (List Term))→Option (D×List Ent)) (hk:∀v:(List (List Term)),J (q.g Tryz.prog 110 0 23) zNd (atI zNd 15) (St.mk' [(3,rr 0 v)] [(0,rE 1 (eSl true 7 Term.enc) v)]) (some v) kn):
  ∀s11:((List (List Term))×Int),J (q.g Tryz.prog 110 0 23) zNd (atI zNd 116) (St.mk' [(0,sl 1 (eSl false 7 Term.enc) a1),(3,rr 0 s11.1),(4,iv s11.2)] [(0,rE 1 (eSl true 7 Term.enc) s11.1)]) (zA6 a1 s11) kn:=by
 refine zAz (fun g ih s11=>?_)
 unfold zB5
 refine J_d 464 [] [11] [(11,bv (decide (s11.2< (a1.length:Int))))] [] [] zB ?_
 refine zC 11 (fun h12=>?_) (fun h12=>?_)
 ·refine zA (fun x13 h14=>?_)
  refine zA (fun x15 h16=>?_)
  refine zA (fun x17 h18=>?_)
  refine J_g 932 [] [(0,sl 1 (eSl false 7 Term.enc) a1),(3,rr 0 s11.1),(4,iv s11.2)] [(0,rE 1 (eSl true 7 Term.enc) (s11.1.set s11.2.toNat x15))] (zD 4 (zAc (kk:=.i64) 79 80 1 (eSl false 7 Term.enc) (.tmp 16) (.tmp 17) h14) (zD 6 (jO («as»:=[sl 7 Term.enc x13]) [(.tmp 19)] [80] false [] [] (.cons (.same rfl) (.nil)) (kF.ok x13) h16 (.own 1)) (zD 7 (jT (kk:=.i64) 87 53 1 0 (eSl true 7 Term.enc) (.tmp 14) (.tmp 15) h18) (zIU 8 (zME (b:=x15) (es':=[so 7 Term.enc x15]) (ts:=[1]) 53 1 0 0 (eSl true 7 Term.enc) (rr 1 x15) (.tmp 21) (.tmp 20) [(1,rE 7 Term.enc x15)] h18 (.move (.head _) (List.length_map _) (by decide) (.nil)) rfl) zB)))) ?_
  refine zHT (σ':=St.mk' [(0,sl 1 (eSl false 7 Term.enc) a1),(3,rr 0 (s11.1.set s11.2.toNat x15)),(4,iv s11.2)] [(0,rE 1 (eSl true 7 Term.enc) (s11.1.set s11.2.toNat x15))]) (by simp only [rr,List.length_set]) ?_
  refine J_d 467 [] [4] [(4,iv (w64 (s11.2+1)))] [] [] zB ?_
  exact J_q (J_b (ih (s11.1.set s11.2.toNat x15,w64 (s11.2+1)))) rfl
 ·exact yQ (hk s11.1) rfl
theorem zAv.ok (a1:(List (List Term))):Ok Tryz.prog 110 [sl 1 (eSl false 7 Term.enc) a1] [] ((zAv a1).map fun r=>(so 1 (eSl true 7 Term.enc) r,[])):=by
 refine zH zNd Tryz.f110 0 23 (fun q=>?_)
 unfold zAv
 refine J_d 2 [] [] [] [] [] zB ?_
 refine zA (fun x2 h3=>?_)
 refine J_g 6 [] [(0,sl 1 (eSl false 7 Term.enc) a1),(3,rr 0 x2)] [(0,rE 1 (eSl true 7 Term.enc) x2)] (zD 2 (zMR 87 53 1 24 0 (eSl true 7 Term.enc) ([]:List Term) (.tmp 6) h3 (.nilsl true 7 (.nil))) zB) ?_
 refine J_d 28 [] [4] [(4,iv 0)] [] [] zB ?_
 refine zEE (zA6.ok a1 q _ (fun v19=>J_j ?_) (x2,0))
 refine J_g 30 [] [(2,rr 0 v19)] [(0,rE 1 (eSl true 7 Term.enc) v19)] zB ?_
 exact zBI (ds:=[rr 0 v19]) (ds':=[so 1 (eSl true 7 Term.enc) v19]) (.cons (.cell (.move (.head _) (List.length_map _) (by decide) (.nil))) (.nil) (by decide)) rfl
noncomputable def c49:Code:=(Tryz.f49.body).getD .skip
theorem zBS.ok (a1:Pack):Ok Tryz.prog 49 [.ag (Pack.enc false a1)] [] ((zBS a1).map fun r=>(.ag [sv r.Name,iv r.Version.A,iv r.Version.B,iv r.Version.C,iv r.Size,so 1 eStr r.Provides,so 1 (eSl true 7 Term.enc) r.Needs,so 7 Term.enc r.Bars],[])):=by
 refine zH c49 Tryz.f49 0 27 (fun q=>?_)
 unfold zBS
 refine J_g 2 [(0,0),(1,1)] [(1,pp 0),(2,pp 1)] [(0,.box (Pack.enc false a1)),(1,.box [sv ByteArray.empty,iv 0,iv 0,iv 0,iv 0,nv,nv,nv])] zB ?_
 refine J_g 6 [(0,2)] [(1,pp 0),(2,pp 1),(3,pp 2)] [(0,.box (Pack.enc false a1)),(1,.box [sv ByteArray.empty,iv 0,iv 0,iv 0,iv 0,nv,nv,nv]),(2,.box [sv ByteArray.empty,iv 0,iv 0,iv 0,iv 0,nv,nv,nv])] zB ?_
 refine J_d 14 [] [] [] [2] [(2,.box [sv a1.Name,iv 0,iv 0,iv 0,iv 0,nv,nv,nv])] zB ?_
 refine zA (fun x2 h3=>?_)
 refine J_g 30 [] [(1,pp 0),(2,pp 1),(3,pp 2)] [(0,.box (Pack.enc false a1)),(1,.box [sv ByteArray.empty,iv 0,iv 0,iv 0,iv 0,nv,nv,nv]),(2,.box [sv a1.Name,iv x2.A,iv x2.B,iv x2.C,iv 0,nv,nv,nv])] (zD 2 (xH [(.tmp 8)] [78] (wE.ok a1.Version) h3) zB) ?_
 refine J_d 62 [] [] [] [2] [(2,.box [sv a1.Name,iv x2.A,iv x2.B,iv x2.C,iv a1.Size,nv,nv,nv])] zB ?_
 refine zA (fun x4 h5=>?_)
 refine J_d 126 [] [] [] [2,3] [(2,.box [sv a1.Name,iv x2.A,iv x2.B,iv x2.C,iv a1.Size,rr 3 x4,nv,nv]),(3,rE 1 eStr x4)] (zD 2 (jO («as»:=[sl 1 eStr a1.Provides]) [(.tmp 15)] [70] false [] [] (.cons (.same rfl) (.nil)) (kV.ok a1.Provides) h5 (.own 3)) zB) ?_
 refine zA (fun x6 h7=>?_)
 refine J_d 254 [] [] [] [2,4] [(2,.box [sv a1.Name,iv x2.A,iv x2.B,iv x2.C,iv a1.Size,rr 3 x4,rr 4 x6,nv]),(4,rE 1 (eSl true 7 Term.enc) x6)] (zD 2 (jO («as»:=[sl 1 (eSl false 7 Term.enc) a1.Needs]) [(.tmp 19)] [79] false [] [] (.cons (.same rfl) (.nil)) (zAv.ok a1.Needs) h7 (.own 4)) zB) ?_
 refine zA (fun x8 h9=>?_)
 refine J_g 510 [] [(2,pp 1),(3,pp 2)] [(1,.box [sv ByteArray.empty,iv 0,iv 0,iv 0,iv 0,nv,nv,nv]),(2,.box [sv a1.Name,iv x2.A,iv x2.B,iv x2.C,iv a1.Size,rr 3 x4,rr 4 x6,rr 5 x8]),(3,rE 1 eStr x4),(4,rE 1 (eSl true 7 Term.enc) x6),(5,rE 7 Term.enc x8)] (zD 2 (jO («as»:=[sl 7 Term.enc a1.Bars]) [(.tmp 23)] [80] false [] [] (.cons (.same rfl) (.nil)) (kF.ok a1.Bars) h9 (.own 5)) zB) ?_
 refine J_g 1022 [] [(2,pp 1)] [(1,.box [sv a1.Name,iv x2.A,iv x2.B,iv x2.C,iv a1.Size,rr 3 x4,rr 4 x6,rr 5 x8]),(3,rE 1 eStr x4),(4,rE 1 (eSl true 7 Term.enc) x6),(5,rE 7 Term.enc x8)] zB ?_
 exact zBI (ds:=[.ag [sv a1.Name,iv x2.A,iv x2.B,iv x2.C,iv a1.Size,rr 3 x4,rr 4 x6,rr 5 x8]]) (ds':=[.ag [sv a1.Name,iv x2.A,iv x2.B,iv x2.C,iv a1.Size,so 1 eStr x4,so 1 (eSl true 7 Term.enc) x6,so 7 Term.enc x8]]) (.cons (.ag (.keep rfl (.keep rfl (.keep rfl (.keep rfl (.keep rfl (.move (.tail _ (.head _)) (List.length_map _) (by decide) (.move (.tail _ (.tail _ (.head _))) (List.length_map _) (by decide) (.move (.tail _ (.tail _ (.tail _ (.head _)))) (List.length_map _) (by decide) (.nil)))))))))) (.nil) (by decide)) rfl
noncomputable def c11:Code:=(Tryz.f11.body).getD .skip
theorem zB0.ok (a1:(List Pack)) (q:Wd) (kn:(List Pack)→Option (D×List Ent)) (hk:∀v:(List Pack),J (q.g Tryz.prog 11 0 23) c11 (atI c11 15) (St.mk' [(3,rr 0 v)] [(0,rE 8 (Pack.enc true) v)]) (some v) kn):
  ∀s11:((List Pack)×Int),J (q.g Tryz.prog 11 0 23) c11 (atI c11 116) (St.mk' [(0,sl 8 (Pack.enc false) a1),(3,rr 0 s11.1),(4,iv s11.2)] [(0,rE 8 (Pack.enc true) s11.1)]) (zB0 a1 s11) kn:=by
 refine zAz (fun g ih s11=>?_)
 unfold zBN
 refine J_d 464 [] [11] [(11,bv (decide (s11.2< (a1.length:Int))))] [] [] zB ?_
 refine zC 11 (fun h12=>?_) (fun h12=>?_)
 ·refine zA (fun x13 h14=>?_)
  refine zA (fun x15 h16=>?_)
  refine zA (fun x17 h18=>?_)
  refine J_g 932 [] [(0,sl 8 (Pack.enc false) a1),(3,rr 0 s11.1),(4,iv s11.2)] [(0,rE 8 (Pack.enc true) (s11.1.set s11.2.toNat x15))] (zD 4 (zAc (kk:=.i64) 22 82 8 (Pack.enc false) (.tmp 16) (.tmp 17) h14) (zD 6 (jO («as»:=[.ag (Pack.enc false x13)]) [(.tmp 19)] [82] false [] [] (.cons (.same rfl) (.nil)) (zBS.ok x13) h16 (.ag (.cons (.same rfl rfl) (.cons (.same rfl rfl) (.cons (.same rfl rfl) (.cons (.same rfl rfl) (.cons (.same rfl rfl) (.cons (.own 1) (.cons (.own 2) (.cons (.own 3) (.nil))))))))))) (zD 7 (jT (kk:=.i64) 24 89 8 0 (Pack.enc true) (.tmp 14) (.tmp 15) h18) (zIU 8 (zME (b:=x15) (es':=[sv x15.Name,iv x15.Version.A,iv x15.Version.B,iv x15.Version.C,iv x15.Size,so 1 eStr x15.Provides,so 1 (eSl true 7 Term.enc) x15.Needs,so 7 Term.enc x15.Bars]) (ts:=[1,2,3]) 89 8 0 0 (Pack.enc true) (.ag [sv x15.Name,iv x15.Version.A,iv x15.Version.B,iv x15.Version.C,iv x15.Size,rr 1 x15.Provides,rr 2 x15.Needs,rr 3 x15.Bars]) (.tmp 21) (.tmp 20) [(1,rE 1 eStr x15.Provides),(2,rE 1 (eSl true 7 Term.enc) x15.Needs),(3,rE 7 Term.enc x15.Bars)] h18 (.keep rfl (.keep rfl (.keep rfl (.keep rfl (.keep rfl (.move (.head _) (List.length_map _) (by decide) (.move (.tail _ (.head _)) (List.length_map _) (by decide) (.move (.tail _ (.tail _ (.head _))) (List.length_map _) (by decide) (.nil))))))))) rfl) zB)))) ?_
  refine zHT (σ':=St.mk' [(0,sl 8 (Pack.enc false) a1),(3,rr 0 (s11.1.set s11.2.toNat x15)),(4,iv s11.2)] [(0,rE 8 (Pack.enc true) (s11.1.set s11.2.toNat x15))]) (by simp only [rr,List.length_set]) ?_
  refine J_d 467 [] [4] [(4,iv (w64 (s11.2+1)))] [] [] zB ?_
  exact J_q (J_b (ih (s11.1.set s11.2.toNat x15,w64 (s11.2+1)))) rfl
 ·exact yQ (hk s11.1) rfl
theorem uD.ok (a1:(List Pack)):Ok Tryz.prog 11 [sl 8 (Pack.enc false) a1] [] ((uD a1).map fun r=>(so 8 (Pack.enc true) r,[])):=by
 refine zH c11 Tryz.f11 0 23 (fun q=>?_)
 unfold uD
 refine J_d 2 [] [] [] [] [] zB ?_
 refine zA (fun x2 h3=>?_)
 refine J_g 6 [] [(0,sl 8 (Pack.enc false) a1),(3,rr 0 x2)] [(0,rE 8 (Pack.enc true) x2)] (zD 2 (zMR 24 89 8 120 0 (Pack.enc true) ({Name:=ByteArray.empty,Version:=({A:=0,B:=0,C:=0}:Version),Size:=0,Provides:=([]:List ByteArray),Needs:=([]:List (List Term)),Bars:=([]:List Term)}:Pack) (.tmp 6) h3 (.keep rfl (.keep rfl (.keep rfl (.keep rfl (.keep rfl (.nilsl true 1 (.nilsl true 1 (.nilsl true 7 (.nil)))))))))) zB) ?_
 refine J_d 28 [] [4] [(4,iv 0)] [] [] zB ?_
 refine zEE (zB0.ok a1 q _ (fun v19=>J_j ?_) (x2,0))
 refine J_g 30 [] [(2,rr 0 v19)] [(0,rE 8 (Pack.enc true) v19)] zB ?_
 exact zBI (ds:=[rr 0 v19]) (ds':=[so 8 (Pack.enc true) v19]) (.cons (.cell (.move (.head _) (List.length_map _) (by decide) (.nil))) (.nil) (by decide)) rfl
noncomputable def c206:Code:=(Tryz.f206.body).getD .skip
theorem zBc.ok (a1:(List Int)) (q:Wd) (kn:(List Int)→Option (D×List Ent)) (hk:∀v:(List Int),J (q.g Tryz.prog 206 0 22) c206 (atI c206 15) (St.mk' [(3,rr 0 v)] [(0,rE 1 eU8 v)]) (some v) kn):
  ∀s9:((List Int)×Int),J (q.g Tryz.prog 206 0 22) c206 (atI c206 116) (St.mk' [(0,sl 1 eU8 a1),(3,rr 0 s9.1),(4,iv s9.2)] [(0,rE 1 eU8 s9.1)]) (zBc a1 s9) kn:=by
 refine zAz (fun g ih s9=>?_)
 unfold zBQ
 refine J_d 464 [] [11] [(11,bv (decide (s9.2< (a1.length:Int))))] [] [] zB ?_
 refine zC 11 (fun h10=>?_) (fun h10=>?_)
 ·refine zA (fun x11 h12=>?_)
  refine zA (fun x13 h14=>?_)
  refine J_g 932 [] [(0,sl 1 eU8 a1),(3,rr 0 s9.1),(4,iv s9.2)] [(0,rE 1 eU8 (s9.1.set s9.2.toNat x11))] (zD 4 (zAc (kk:=.i64) 111 5 1 eU8 (.tmp 16) (.tmp 17) h12) (zD 6 (jT (kk:=.i64) 111 5 1 0 eU8 (.tmp 14) (.tmp 15) h14) (zIU 7 (zMc (b:=x11) 5 1 0 0 eU8 (uv x11) (.tmp 20) (.tmp 19) h14 rfl) zB))) ?_
  refine zHT (σ':=St.mk' [(0,sl 1 eU8 a1),(3,rr 0 (s9.1.set s9.2.toNat x11)),(4,iv s9.2)] [(0,rE 1 eU8 (s9.1.set s9.2.toNat x11))]) (by simp only [rr,List.length_set]) ?_
  refine J_d 467 [] [4] [(4,iv (w64 (s9.2+1)))] [] [] zB ?_
  exact J_q (J_b (ih (s9.1.set s9.2.toNat x11,w64 (s9.2+1)))) rfl
 ·exact yQ (hk s9.1) rfl
theorem zBl.ok (a1:(List Int)):Ok Tryz.prog 206 [sl 1 eU8 a1] [] ((zBl a1).map fun r=>(so 1 eU8 r,[])):=by
 refine zH c206 Tryz.f206 0 22 (fun q=>?_)
 unfold zBl
 refine J_g 2 [] [(0,sl 1 eU8 a1)] [] zB ?_
 refine zA (fun x2 h3=>?_)
 refine J_g 6 [] [(0,sl 1 eU8 a1),(3,rr 0 x2)] [(0,rE 1 eU8 x2)] (zD 2 (zMR 111 5 1 1 0 eU8 0 (.tmp 6) h3 (.keep rfl (.nil))) zB) ?_
 refine J_d 28 [] [4] [(4,iv 0)] [] [] zB ?_
 refine zEE (zBc.ok a1 q _ (fun v15=>J_j ?_) (x2,0))
 refine J_g 30 [] [(2,rr 0 v15)] [(0,rE 1 eU8 v15)] zB ?_
 exact zBI (ds:=[rr 0 v15]) (ds':=[so 1 eU8 v15]) (.cons (.cell (.move (.head _) (List.length_map _) (by decide) (.nil))) (.nil) (by decide)) rfl
noncomputable def c130:Code:=(Tryz.f130.body).getD .skip
theorem zBR.ok (a1:File):Ok Tryz.prog 130 [.ag (File.enc false a1)] [] ((zBR a1).map fun r=>(.ag [sv r.Path,so 1 eU8 r.Data],[])):=by
 refine zH c130 Tryz.f130 0 12 (fun q=>?_)
 unfold zBR
 refine J_g 2 [(0,0),(1,1)] [(1,pp 0),(2,pp 1)] [(0,.box (File.enc false a1)),(1,.box [sv ByteArray.empty,nv])] zB ?_
 refine J_g 6 [(0,2)] [(1,pp 0),(2,pp 1),(3,pp 2)] [(0,.box (File.enc false a1)),(1,.box [sv ByteArray.empty,nv]),(2,.box [sv ByteArray.empty,nv])] zB ?_
 refine J_d 14 [] [] [] [2] [(2,.box [sv a1.Path,nv])] zB ?_
 refine zA (fun x2 h3=>?_)
 refine J_g 30 [] [(2,pp 1),(3,pp 2)] [(1,.box [sv ByteArray.empty,nv]),(2,.box [sv a1.Path,rr 3 x2]),(3,rE 1 eU8 x2)] (zD 2 (jO («as»:=[sl 1 eU8 a1.Data]) [(.tmp 8)] [111] false [] [] (.cons (.same rfl) (.nil)) (zBl.ok a1.Data) h3 (.own 3)) zB) ?_
 refine J_g 62 [] [(2,pp 1)] [(1,.box [sv a1.Path,rr 3 x2]),(3,rE 1 eU8 x2)] zB ?_
 exact zBI (ds:=[.ag [sv a1.Path,rr 3 x2]]) (ds':=[.ag [sv a1.Path,so 1 eU8 x2]]) (.cons (.ag (.keep rfl (.move (.tail _ (.head _)) (List.length_map _) (by decide) (.nil)))) (.nil) (by decide)) rfl
noncomputable def c66:Code:=(Tryz.f66.body).getD .skip
theorem zB3.ok (a1:(List File)) (q:Wd) (kn:(List File)→Option (D×List Ent)) (hk:∀v:(List File),J (q.g Tryz.prog 66 0 23) c66 (atI c66 15) (St.mk' [(3,rr 0 v)] [(0,rE 2 (File.enc true) v)]) (some v) kn):
  ∀s11:((List File)×Int),J (q.g Tryz.prog 66 0 23) c66 (atI c66 116) (St.mk' [(0,sl 2 (File.enc false) a1),(3,rr 0 s11.1),(4,iv s11.2)] [(0,rE 2 (File.enc true) s11.1)]) (zB3 a1 s11) kn:=by
 refine zAz (fun g ih s11=>?_)
 unfold zBK
 refine J_d 464 [] [11] [(11,bv (decide (s11.2< (a1.length:Int))))] [] [] zB ?_
 refine zC 11 (fun h12=>?_) (fun h12=>?_)
 ·refine zA (fun x13 h14=>?_)
  refine zA (fun x15 h16=>?_)
  refine zA (fun x17 h18=>?_)
  refine J_g 932 [] [(0,sl 2 (File.enc false) a1),(3,rr 0 s11.1),(4,iv s11.2)] [(0,rE 2 (File.enc true) (s11.1.set s11.2.toNat x15))] (zD 4 (zAc (kk:=.i64) 39 157 2 (File.enc false) (.tmp 16) (.tmp 17) h14) (zD 6 (jO («as»:=[.ag (File.enc false x13)]) [(.tmp 19)] [157] false [] [] (.cons (.same rfl) (.nil)) (zBR.ok x13) h16 (.ag (.cons (.same rfl rfl) (.cons (.own 1) (.nil))))) (zD 7 (jT (kk:=.i64) 25 113 2 0 (File.enc true) (.tmp 14) (.tmp 15) h18) (zIU 8 (zME (b:=x15) (es':=[sv x15.Path,so 1 eU8 x15.Data]) (ts:=[1]) 113 2 0 0 (File.enc true) (.ag [sv x15.Path,rr 1 x15.Data]) (.tmp 21) (.tmp 20) [(1,rE 1 eU8 x15.Data)] h18 (.keep rfl (.move (.head _) (List.length_map _) (by decide) (.nil))) rfl) zB)))) ?_
  refine zHT (σ':=St.mk' [(0,sl 2 (File.enc false) a1),(3,rr 0 (s11.1.set s11.2.toNat x15)),(4,iv s11.2)] [(0,rE 2 (File.enc true) (s11.1.set s11.2.toNat x15))]) (by simp only [rr,List.length_set]) ?_
  refine J_d 467 [] [4] [(4,iv (w64 (s11.2+1)))] [] [] zB ?_
  exact J_q (J_b (ih (s11.1.set s11.2.toNat x15,w64 (s11.2+1)))) rfl
 ·exact yQ (hk s11.1) rfl
theorem zBq.ok (a1:(List File)):Ok Tryz.prog 66 [sl 2 (File.enc false) a1] [] ((zBq a1).map fun r=>(so 2 (File.enc true) r,[])):=by
 refine zH c66 Tryz.f66 0 23 (fun q=>?_)
 unfold zBq
 refine J_d 2 [] [] [] [] [] zB ?_
 refine zA (fun x2 h3=>?_)
 refine J_g 6 [] [(0,sl 2 (File.enc false) a1),(3,rr 0 x2)] [(0,rE 2 (File.enc true) x2)] (zD 2 (zMR 25 113 2 40 0 (File.enc true) ({Path:=ByteArray.empty,Data:=([]:List Int)}:File) (.tmp 6) h3 (.keep rfl (.nilsl true 1 (.nil)))) zB) ?_
 refine J_d 28 [] [4] [(4,iv 0)] [] [] zB ?_
 refine zEE (zB3.ok a1 q _ (fun v19=>J_j ?_) (x2,0))
 refine J_g 30 [] [(2,rr 0 v19)] [(0,rE 2 (File.enc true) v19)] zB ?_
 exact zBI (ds:=[rr 0 v19]) (ds':=[so 2 (File.enc true) v19]) (.cons (.cell (.move (.head _) (List.length_map _) (by decide) (.nil))) (.nil) (by decide)) rfl
noncomputable def c20:Code:=(Tryz.f20.body).getD .skip
theorem jI.ok (a1:zI):Ok Tryz.prog 20 [.ag (zI.enc false a1)] [] ((jI a1).map fun r=>(.ag (zI.enc true r),[])):=by
 refine zH c20 Tryz.f20 0 21 (fun q=>?_)
 unfold jI
 refine J_g 2 [(0,0),(1,1)] [(1,pp 0),(2,pp 1)] [(0,.box (zI.enc false a1)),(1,.box [nv,iv 0,iv 0,iv 0,bv false])] zB ?_
 refine J_d 6 [(0,2)] [3] [(3,pp 2)] [2] [(2,.box [nv,iv 0,iv 0,iv 0,bv false])] zB ?_
 refine zA (fun x2 h3=>?_)
 refine J_g 14 [] [(1,pp 0),(2,pp 1),(3,pp 2)] [(0,.box (zI.enc false a1)),(1,.box [nv,iv 0,iv 0,iv 0,bv false]),(2,.box [rr 3 x2,iv 0,iv 0,iv 0,bv false]),(3,rE 2 (File.enc true) x2)] (zD 2 (jO («as»:=[sl 2 (File.enc false) a1.Files]) [(.tmp 5)] [39] false [] [] (.cons (.same rfl) (.nil)) (zBq.ok a1.Files) h3 (.own 3)) zB) ?_
 refine J_g 30 [] [(1,pp 0),(2,pp 1),(3,pp 2)] [(0,.box (zI.enc false a1)),(1,.box [nv,iv 0,iv 0,iv 0,bv false]),(2,.box [rr 3 x2,iv a1.Budget,iv 0,iv 0,bv false]),(3,rE 2 (File.enc true) x2)] zB ?_
 refine J_g 62 [] [(1,pp 0),(2,pp 1),(3,pp 2)] [(0,.box (zI.enc false a1)),(1,.box [nv,iv 0,iv 0,iv 0,bv false]),(2,.box [rr 3 x2,iv a1.Budget,iv a1.Writes,iv 0,bv false]),(3,rE 2 (File.enc true) x2)] zB ?_
 refine J_g 126 [] [(1,pp 0),(2,pp 1),(3,pp 2)] [(0,.box (zI.enc false a1)),(1,.box [nv,iv 0,iv 0,iv 0,bv false]),(2,.box [rr 3 x2,iv a1.Budget,iv a1.Writes,iv a1.Stop,bv false]),(3,rE 2 (File.enc true) x2)] zB ?_
 refine J_g 254 [] [(2,pp 1),(3,pp 2)] [(1,.box [nv,iv 0,iv 0,iv 0,bv false]),(2,.box [rr 3 x2,iv a1.Budget,iv a1.Writes,iv a1.Stop,bv a1.Down]),(3,rE 2 (File.enc true) x2)] zB ?_
 refine J_g 510 [] [(2,pp 1)] [(1,.box [rr 3 x2,iv a1.Budget,iv a1.Writes,iv a1.Stop,bv a1.Down]),(3,rE 2 (File.enc true) x2)] zB ?_
 exact zBI (ds:=[.ag [rr 3 x2,iv a1.Budget,iv a1.Writes,iv a1.Stop,bv a1.Down]]) (ds':=[.ag [so 2 (File.enc true) x2,iv a1.Budget,iv a1.Writes,iv a1.Stop,bv a1.Down]]) (.cons (.ag (.move (.tail _ (.head _)) (List.length_map _) (by decide) (.keep rfl (.keep rfl (.keep rfl (.keep rfl (.nil))))))) (.nil) (by decide)) rfl
noncomputable def zOJ:Code:=(Tryz.f255.body).getD .skip
theorem wK.ok (a1:Int):Ok Tryz.prog 255 [uv a1] [] ((wK a1).map fun r=>(bv r,[])):=by
 refine zH zOJ Tryz.f255 0 9 (fun q=>?_)
 unfold wK
 refine J_g 2 [] [(0,uv a1)] [] zB ?_
 refine wR (fun h2=>?_) (fun h2=>?_)
 ·refine J_g 6 [] [(2,bv (decide (a1≤122)))] [] (xR 2 [(4,bv (decide (a1≥97)))] [] h2 zB) ?_
  exact zU rfl
 ·refine J_g 6 [] [(2,bv false)] [] (xR 2 [(4,bv (decide (a1≥97)))] [] h2 zB) ?_
  exact zU rfl
noncomputable def zO7:Code:=(Tryz.f268.body).getD .skip
theorem wQ.ok (a1:Int):Ok Tryz.prog 268 [uv a1] [] ((wQ a1).map fun r=>(bv r,[])):=by
 refine zH zO7 Tryz.f268 0 9 (fun q=>?_)
 unfold wQ
 refine J_g 2 [] [(0,uv a1)] [] zB ?_
 refine wR (fun h2=>?_) (fun h2=>?_)
 ·refine J_g 6 [] [(2,bv (decide (a1≤57)))] [] (xR 2 [(4,bv (decide (a1≥48)))] [] h2 zB) ?_
  exact zU rfl
 ·refine J_g 6 [] [(2,bv false)] [] (xR 2 [(4,bv (decide (a1≥48)))] [] h2 zB) ?_
  exact zU rfl
noncomputable def zPd:Code:=(Tryz.f256.body).getD .skip
theorem wT.ok (a1:Int):Ok Tryz.prog 256 [uv a1] [] ((wT a1).map fun r=>(bv r,[])):=by
 refine zH zPd Tryz.f256 0 13 (fun q=>?_)
 unfold wT
 refine J_g 2 [] [(0,uv a1)] [] zB ?_
 refine zA (fun x2 h3=>?_)
 refine wR (fun h4=>?_) (fun h4=>?_)
 ·refine J_g 6 [] [(2,bv true)] [] (zD 1 (xH [(.tmp 3)] [5] (wK.ok a1) h3) (xR 2 [(4,bv x2)] [] h4 zB)) ?_
  exact zU rfl
 ·refine zA (fun x5 h6=>?_)
  refine wR (fun h7=>?_) (fun h7=>?_)
  ·refine J_g 6 [] [(2,bv true)] [] (zD 1 (xH [(.tmp 3)] [5] (wK.ok a1) h3) (xR 2 [(4,bv x2)] [] h4 (zCN 4 2 5 false (xH [(.tmp 6)] [5] (wQ.ok a1) h6) (xR 6 [(8,bv x5)] [] h7 zB)))) ?_
   exact zU rfl
  ·refine J_g 6 [] [(2,bv (a1==95))] [] (zD 1 (xH [(.tmp 3)] [5] (wK.ok a1) h3) (xR 2 [(4,bv x2)] [] h4 (zCN 4 2 5 false (xH [(.tmp 6)] [5] (wQ.ok a1) h6) (xR 6 [(8,bv x5)] [] h7 zB)))) ?_
   exact zU rfl
noncomputable def zMV:Code:=(Tryz.f184.body).getD .skip
theorem tQ.ok (a1:ByteArray) (q:Wd) (kn:Unit→Option (D×List Ent)) (hk:∀v:Unit,J (q.g Tryz.prog 184 0 29) zMV (atI zMV 15) (St.mk' [] []) (some v) kn):
  ∀s16:Int,J (q.g Tryz.prog 184 0 29) zMV (atI zMV 116) (St.mk' [(0,sv a1),(3,iv s16)] []) (tQ a1 s16) (Fl.go (fun r:Int=>some (iv r,[])) kn):=by
 refine zAz (fun g ih s16=>?_)
 unfold zAM
 refine J_d 464 [] [21] [(21,bv (decide (s16< (a1.size:Int))))] [] [] zB ?_
 refine zC 21 (fun h17=>?_) (fun h17=>?_)
 ·refine zA (fun x18 h19=>?_)
  refine zA (fun x20 h21=>?_)
  refine J_d 1864 [] [21,28] [(28,bv (!x20))] [] [] (zD 2 (zIy (kk:=.i64) 9 (.tmp 24) (.tmp 25) h19) (zD 3 (xH [(.tmp 26)] [5] (wT.ok x18) h21) zB)) ?_
  refine zC 28 (fun h22=>?_) (fun h22=>?_)
  ·refine J_g 7460 [] [(2,iv 5)] [] zB ?_
   exact zU rfl
  ·refine J_g 467 [] [(0,sv a1),(3,iv (w64 (s16+1)))] [] zB ?_
   exact J_q (J_b (ih (w64 (s16+1)))) rfl
 ·exact yQ (hk ()) rfl
theorem wB.ok (a1:ByteArray):Ok Tryz.prog 184 [sv a1] [] ((wB a1).map fun r=>(iv r,[])):=by
 refine zH zMV Tryz.f184 0 29 (fun q=>?_)
 unfold wB
 refine J_g 2 [] [(0,sv a1)] [] zB ?_
 refine xC (atI zMV 13) (fun v8:Bool=>St.mk' [(0,sv a1),(17,bv v8)] []) (fun v8=>?_) (fun jv8=>?_)
 ·refine zC 17 (fun h9=>?_) (fun h9=>?_)
  ·refine J_g 52 [] [(2,iv 5)] [] zB ?_
   exact zU rfl
  ·refine J_g 28 [] [(0,sv a1),(3,iv 0)] [] zB ?_
   refine uQ (K0:=(fun r:Int=>some (iv r,[]))) (fun _=>rfl) (tQ.ok a1 q _ (fun v23=>J_j ?_) 0)
   refine J_g 30 [] [(2,iv 0)] [] zB ?_
   exact zU rfl
 ·refine wR (fun h2=>?_) (fun h2=>?_)
  ·refine J_g 12 [] [(0,sv a1),(17,bv true)] [] (xR 3 [(6,bv (decide ((a1.size:Int)<1)))] [] h2 zB) ?_
   exact yQ (J_j (jv8 true)) rfl
  ·refine wR (fun h3=>?_) (fun h3=>?_)
   ·refine J_g 12 [] [(0,sv a1),(17,bv true)] [] (xR 3 [(6,bv (decide ((a1.size:Int)<1)))] [] h2 (xR 8 [(11,bv (decide ((a1.size:Int)>12)))] [] h3 zB)) ?_
    exact yQ (J_j (jv8 true)) rfl
   ·refine zA (fun x4 h5=>?_)
    refine zA (fun x6 h7=>?_)
    refine J_g 12 [] [(0,sv a1),(17,bv (!x6))] [] (xR 3 [(6,bv (decide ((a1.size:Int)<1)))] [] h2 (xR 8 [(11,bv (decide ((a1.size:Int)>12)))] [] h3 (zCN 10 8 12 false (zIy (kk:=.i64) 9 (.tmp 13) (.const (.int .i64 0)) h5) (zCN 11 8 12 false (xH [(.tmp 14)] [5] (wK.ok x4) h7) zB)))) ?_
    exact yQ (J_j (jv8 (!x6))) rfl
noncomputable def c124:Code:=(Tryz.f124.body).getD .skip
theorem yY.ok (a1:Int) (a2:Int) (a3:Int):Ok Tryz.prog 124 [iv a1,iv a2,iv a3] [] ((yY a1 a2 a3).map fun r=>(bv r,[])):=by
 refine zH c124 Tryz.f124 0 15 (fun q=>?_)
 unfold yY
 refine J_d 2 [] [] [] [] [] zB ?_
 refine wR (fun h4=>?_) (fun h4=>?_)
 ·refine J_g 6 [] [(6,bv (decide (a1≤a3)))] [] (xR 3 [(9,bv (decide (a1≥a2)))] [] h4 zB) ?_
  exact zU rfl
 ·refine J_g 6 [] [(6,bv false)] [] (xR 3 [(9,bv (decide (a1≥a2)))] [] h4 zB) ?_
  exact zU rfl
noncomputable def zOq:Code:=(Tryz.f185.body).getD .skip
theorem yS.ok (a1:Version):Ok Tryz.prog 185 [.ag (Version.enc a1)] [] ((yS a1).map fun r=>(iv r,[])):=by
 refine zH zOq Tryz.f185 0 19 (fun q=>?_)
 unfold yS
 refine J_g 2 [(0,0)] [(1,pp 0)] [(0,.box (Version.enc a1))] zB ?_
 refine zA (fun x2 h3=>?_)
 refine xC (atI zOq 13) (fun v10:Bool=>St.mk' [(18,bv v10)] []) (fun v10=>?_) (fun jv10=>?_)
 ·refine zC 18 (fun h11=>?_) (fun h11=>?_)
  ·refine J_g 52 [] [(2,iv 3)] [] zB ?_
   exact zU rfl
  ·refine J_g 14 [] [(2,iv 0)] [] zB ?_
   exact zU rfl
 ·refine wR (fun h4=>?_) (fun h4=>?_)
  ·refine J_g 12 [] [(18,bv true)] [] (zD 2 (xH [(.tmp 4),(.const (.int .i64 0)),(.const (.int .i64 999))] [2,2,2] (yY.ok a1.A 0 999) h3) (xR 4 [(6,bv (!x2))] [] h4 zB)) ?_
   exact yQ (J_j (jv10 true)) rfl
  ·refine zA (fun x5 h6=>?_)
   refine wR (fun h7=>?_) (fun h7=>?_)
   ·refine J_g 12 [] [(18,bv true)] [] (zD 2 (xH [(.tmp 4),(.const (.int .i64 0)),(.const (.int .i64 999))] [2,2,2] (yY.ok a1.A 0 999) h3) (xR 4 [(6,bv (!x2))] [] h4 (zCN 7 4 7 false (xH [(.tmp 9),(.const (.int .i64 0)),(.const (.int .i64 999))] [2,2,2] (yY.ok a1.B 0 999) h6) (xR 10 [(12,bv (!x5))] [] h7 zB)))) ?_
    exact yQ (J_j (jv10 true)) rfl
   ·refine zA (fun x8 h9=>?_)
    refine J_g 12 [] [(18,bv (!x8))] [] (zD 2 (xH [(.tmp 4),(.const (.int .i64 0)),(.const (.int .i64 999))] [2,2,2] (yY.ok a1.A 0 999) h3) (xR 4 [(6,bv (!x2))] [] h4 (zCN 7 4 7 false (xH [(.tmp 9),(.const (.int .i64 0)),(.const (.int .i64 999))] [2,2,2] (yY.ok a1.B 0 999) h6) (xR 10 [(12,bv (!x5))] [] h7 (zCN 13 10 13 false (xH [(.tmp 15),(.const (.int .i64 0)),(.const (.int .i64 999))] [2,2,2] (yY.ok a1.C 0 999) h9) zB))))) ?_
    exact yQ (J_j (jv10 (!x8))) rfl
noncomputable def zNA:Code:=(Tryz.f172.body).getD .skip
theorem zBj.ok (a1:(List ByteArray)) (a2:ByteArray) (q:Wd) (kn:Unit→Option (D×List Ent)) (hk:∀v:Unit,J (q.g Tryz.prog 172 0 18) zNA (atI zNA 7) (St.mk' [] []) (some v) kn):
  ∀s7:Int,J (q.g Tryz.prog 172 0 18) zNA (atI zNA 52) (St.mk' [(0,sl 1 eStr a1),(1,sv a2),(5,iv s7)] []) (zBj a1 a2 s7) (Fl.go (fun r:Bool=>some (bv r,[])) kn):=by
 refine zAz (fun g ih s7=>?_)
 unfold zAE
 refine J_d 208 [] [9] [(9,bv (decide (s7< (a1.length:Int))))] [] [] zB ?_
 refine zC 9 (fun h8=>?_) (fun h8=>?_)
 ·refine zA (fun x9 h10=>?_)
  refine J_d 840 [] [9,17] [(17,bv (seq x9 a2))] [] [] (zD 2 (zAc (kk:=.i64) 70 9 1 eStr (.tmp 12) (.tmp 13) h10) zB) ?_
  refine zC 17 (fun h11=>?_) (fun h11=>?_)
  ·refine J_g 3364 [] [(4,bv true)] [] zB ?_
   exact zU rfl
  ·refine J_d 211 [] [5,17] [(5,iv (w64 (s7+1)))] [] [] zB ?_
   exact J_q (J_b (ih (w64 (s7+1)))) rfl
 ·exact yQ (hk ()) rfl
theorem jZ.ok (a1:(List ByteArray)) (a2:ByteArray):Ok Tryz.prog 172 [sl 1 eStr a1,sv a2] [] ((jZ a1 a2).map fun r=>(bv r,[])):=by
 refine zH zNA Tryz.f172 0 18 (fun q=>?_)
 unfold jZ
 refine J_g 2 [] [(0,sl 1 eStr a1),(1,sv a2)] [] zB ?_
 refine J_d 12 [] [5] [(5,iv 0)] [] [] zB ?_
 refine uQ (K0:=(fun r:Bool=>some (bv r,[]))) (fun _=>rfl) (zBj.ok a1 a2 q _ (fun v12=>J_j ?_) 0)
 refine J_g 14 [] [(4,bv false)] [] zB ?_
 exact zU rfl
noncomputable def zOt:Code:=(Tryz.f274.body).getD .skip
theorem zCz.ok:Ok Tryz.prog 274 [] [] ((zCz).map fun r=>(.ag (Version.enc r),[])):=by
 refine zH zOt Tryz.f274 0 2 (fun q=>?_)
 unfold zCz
 refine J_g 2 [(0,0)] [(0,pp 0)] [(0,.box [iv 0,iv 0,iv 0])] zB ?_
 refine J_g 6 [] [(0,pp 0)] [(0,.box [iv 1000,iv 0,iv 0])] zB ?_
 exact zU rfl
noncomputable def zPb:Code:=(Tryz.f258.body).getD .skip
theorem jJ.ok (a1:Int) (a2:Int):Ok Tryz.prog 258 [iv a1,iv a2] [] ((jJ a1 a2).map fun r=>(iv r,[])):=by
 refine zH zPb Tryz.f258 0 11 (fun q=>?_)
 unfold jJ
 refine J_g 2 [] [(0,iv a1),(1,iv a2)] [] zB ?_
 refine J_d 12 [] [7] [(7,bv (decide (a1<a2)))] [] [] zB ?_
 refine zC 7 (fun h3=>?_) (fun h3=>?_)
 ·refine J_g 52 [] [(4,iv (-1))] [] zB ?_
  exact zU rfl
 ·refine J_g 28 [] [(10,bv (decide (a1>a2)))] [] zB ?_
  refine zC 10 (fun h4=>?_) (fun h4=>?_)
  ·refine J_g 116 [] [(4,iv 1)] [] zB ?_
   exact zU rfl
  ·refine J_g 30 [] [(4,iv 0)] [] zB ?_
   exact zU rfl
noncomputable def zO2:Code:=(Tryz.f187.body).getD .skip
theorem xD.ok (a1:Version) (a2:Version):Ok Tryz.prog 187 [.ag (Version.enc a1),.ag (Version.enc a2)] [] ((xD a1 a2).map fun r=>(iv r,[])):=by
 refine zH zO2 Tryz.f187 0 28 (fun q=>?_)
 unfold xD
 refine J_g 2 [(0,0),(1,1)] [(2,pp 0),(3,pp 1)] [(0,.box (Version.enc a1)),(1,.box (Version.enc a2))] zB ?_
 refine zA (fun x3 h4=>?_)
 refine J_g 12 [] [(2,pp 0),(3,pp 1),(5,iv x3)] [(0,.box (Version.enc a1)),(1,.box (Version.enc a2))] (zD 4 (xH [(.tmp 8),(.tmp 10)] [2,2] (jJ.ok a1.A a2.A) h4) zB) ?_
 refine J_d 26 [] [13] [(13,bv (x3 !=0))] [] [] zB ?_
 refine zC 13 (fun h5=>?_) (fun h5=>?_)
 ·refine J_g 108 [] [(4,iv x3)] [] zB ?_
  exact zU rfl
 ·refine zA (fun x6 h7=>?_)
  refine J_g 28 [] [(2,pp 0),(3,pp 1),(6,iv x6)] [(0,.box (Version.enc a1)),(1,.box (Version.enc a2))] (zD 4 (xH [(.tmp 16),(.tmp 18)] [2,2] (jJ.ok a1.B a2.B) h7) zB) ?_
  refine J_d 58 [] [21] [(21,bv (x6 !=0))] [] [] zB ?_
  refine zC 21 (fun h8=>?_) (fun h8=>?_)
  ·refine J_g 236 [] [(4,iv x6)] [] zB ?_
   exact zU rfl
  ·refine zA (fun x9 h10=>?_)
   refine J_g 30 [] [(4,iv x9)] [] (zD 4 (xH [(.tmp 24),(.tmp 26)] [2,2] (jJ.ok a1.C a2.C) h10) zB) ?_
   exact zU rfl
noncomputable def zOl:Code:=(Tryz.f257.body).getD .skip
theorem kU.ok (a1:Term):Ok Tryz.prog 257 [.ag (Term.enc a1)] [] ((kU a1).map fun r=>(iv r,[])):=by
 refine zH zOl Tryz.f257 0 33 (fun q=>?_)
 unfold kU
 refine J_g 2 [(0,0)] [(1,pp 0)] [(0,.box (Term.enc a1))] zB ?_
 refine zA (fun x2 h3=>?_)
 refine J_g 12 [] [(1,pp 0),(3,iv x2)] [(0,.box (Term.enc a1))] (zD 2 (xH [(.tmp 6)] [9] (wB.ok a1.Name) h3) zB) ?_
 refine J_d 26 [] [9] [(9,bv (x2 !=0))] [] [] zB ?_
 refine zC 9 (fun h4=>?_) (fun h4=>?_)
 ·refine J_g 108 [] [(2,iv x2)] [] zB ?_
  exact zU rfl
 ·refine zA (fun x5 h6=>?_)
  refine J_g 28 [] [(1,pp 0),(4,iv x5)] [(0,.box (Term.enc a1))] (zD 2 (xH [(.tmp 12)] [86] (yS.ok a1.Low) h6) zB) ?_
  refine J_d 58 [] [15] [(15,bv (x5 !=0))] [] [] zB ?_
  refine zC 15 (fun h7=>?_) (fun h7=>?_)
  ·refine J_g 236 [] [(2,iv x5)] [] zB ?_
   exact zU rfl
  ·refine zA (fun x8 h9=>?_)
   refine xC (atI zOl 61) (fun v13:Bool=>St.mk' [(1,pp 0),(26,bv v13)] [(0,.box (Term.enc a1))]) (fun v13=>?_) (fun jv13=>?_)
   ·refine zC 26 (fun h14=>?_) (fun h14=>?_)
    ·refine J_g 244 [] [(2,iv 3)] [] zB ?_
     exact zU rfl
    ·refine zA (fun x15 h16=>?_)
     refine J_g 124 [] [(32,bv (decide (x15≥0)))] [] (zD 4 (xH [(.tmp 28),(.tmp 30)] [86,86] (xD.ok a1.Low a1.High) h16) zB) ?_
     refine zC 32 (fun h17=>?_) (fun h17=>?_)
     ·refine J_g 500 [] [(2,iv 1)] [] zB ?_
      exact zU rfl
     ·refine J_g 126 [] [(2,iv 0)] [] zB ?_
      exact zU rfl
   ·refine wR (fun h10=>?_) (fun h10=>?_)
    ·refine zA (fun x11 h12=>?_)
     refine J_d 60 [] [4,15,26] [(26,bv (x11 !=0))] [] [] (zD 2 (xH [] [] (zCz.ok) h9) (zD 3 (zKY (b:=.neq) (r:=(a1.High.A==x8.A&&(a1.High.B==x8.B&&(a1.High.C==x8.C&&true)))) 86 86 (.tmp 18) (.tmp 19) [.int .i64 a1.High.A,.int .i64 a1.High.B,.int .i64 a1.High.C] [.int .i64 x8.A,.int .i64 x8.B,.int .i64 x8.C] (.inr ⟨rfl,rfl⟩)) (xR 4 [(20,bv (!(a1.High.A==x8.A&&(a1.High.B==x8.B&&(a1.High.C==x8.C&&true)))))] [] h10 (zCN 7 4 21 true (xH [(.tmp 23)] [86] (yS.ok a1.High) h12) zB)))) ?_
     exact yQ (J_j (jv13 (x11 !=0))) rfl
    ·refine J_d 60 [] [4,15,26] [(26,bv false)] [] [] (zD 2 (xH [] [] (zCz.ok) h9) (zD 3 (zKY (b:=.neq) (r:=(a1.High.A==x8.A&&(a1.High.B==x8.B&&(a1.High.C==x8.C&&true)))) 86 86 (.tmp 18) (.tmp 19) [.int .i64 a1.High.A,.int .i64 a1.High.B,.int .i64 a1.High.C] [.int .i64 x8.A,.int .i64 x8.B,.int .i64 x8.C] (.inr ⟨rfl,rfl⟩)) (xR 4 [(20,bv (!(a1.High.A==x8.A&&(a1.High.B==x8.B&&(a1.High.C==x8.C&&true)))))] [] h10 zB))) ?_
     exact yQ (J_j (jv13 false)) rfl
noncomputable def zN6:Code:=(Tryz.f186.body).getD .skip
theorem zBf.ok (a1:(List Term)) (q:Wd) (kn:Unit→Option (D×List Ent)) (hk:∀v:Unit,J (q.g Tryz.prog 186 0 19) zN6 (atI zN6 7) (St.mk' [] []) (some v) kn):
  ∀s8:Int,J (q.g Tryz.prog 186 0 19) zN6 (atI zN6 52) (St.mk' [(0,sl 7 Term.enc a1),(3,iv s8)] []) (zBf a1 s8) (Fl.go (fun r:Int=>some (iv r,[])) kn):=by
 refine zAz (fun g ih s8=>?_)
 unfold zA2
 refine J_d 208 [] [8] [(8,bv (decide (s8< (a1.length:Int))))] [] [] zB ?_
 refine zC 8 (fun h9=>?_) (fun h9=>?_)
 ·refine zA (fun x10 h11=>?_)
  refine zA (fun x12 h13=>?_)
  refine J_g 840 [] [(0,sl 7 Term.enc a1),(3,iv s8),(4,iv x12)] [] (zD 2 (zAc (kk:=.i64) 53 153 7 Term.enc (.tmp 11) (.tmp 12) h11) (zD 4 (xH [(.tmp 14)] [153] (kU.ok x10) h13) zB)) ?_
  refine J_d 1682 [] [17] [(17,bv (x12 !=0))] [] [] zB ?_
  refine zC 17 (fun h14=>?_) (fun h14=>?_)
  ·refine J_g 6732 [] [(2,iv x12)] [] zB ?_
   exact zU rfl
  ·refine J_g 211 [] [(0,sl 7 Term.enc a1),(3,iv (w64 (s8+1)))] [] zB ?_
   exact J_q (J_b (ih (w64 (s8+1)))) rfl
 ·exact yQ (hk ()) rfl
theorem tJ.ok (a1:(List Term)):Ok Tryz.prog 186 [sl 7 Term.enc a1] [] ((tJ a1).map fun r=>(iv r,[])):=by
 refine zH zN6 Tryz.f186 0 19 (fun q=>?_)
 unfold tJ
 refine J_g 2 [] [(0,sl 7 Term.enc a1)] [] zB ?_
 refine J_d 12 [] [3] [(3,iv 0)] [] [] zB ?_
 refine uQ (K0:=(fun r:Int=>some (iv r,[]))) (fun _=>rfl) (zBf.ok a1 q _ (fun v15=>J_j ?_) 0)
 refine J_g 14 [] [(2,iv 0)] [] zB ?_
 exact zU rfl
noncomputable def zI4:Code:=(Tryz.f103.body).getD .skip
theorem tZ.ok (a1:Pack) (q:Wd) (kn:Unit→Option (D×List Ent)) (hk:∀v:Unit,J (q.g Tryz.prog 103 0 118) zI4 (atI zI4 511) (St.mk' [(1,pp 0)] [(0,.box (Pack.enc false a1))]) (some v) kn):
  ∀s70:Int,J (q.g Tryz.prog 103 0 118) zI4 (atI zI4 4084) (St.mk' [(1,pp 0),(8,iv s70)] [(0,.box (Pack.enc false a1))]) (tZ a1 s70) (Fl.go (fun r:Int=>some (iv r,[])) kn):=by
 refine zAz (fun g ih s70=>?_)
 unfold kP
 refine J_d 16336 [] [96] [(96,bv (decide (s70< (a1.Needs.length:Int))))] [] [] zB ?_
 refine zC 96 (fun h71=>?_) (fun h71=>?_)
 ·refine zA (fun x72 h73=>?_)
  refine J_d 130704 [] [96,105] [(105,bv ((x72.length:Int)==0))] [] [] (zD 3 (zAc (kk:=.i64) 87 53 1 (eSl false 7 Term.enc) (.tmp 100) (.tmp 101) h73) zB) ?_
  refine zC 105 (fun h74=>?_) (fun h74=>?_)
  ·refine J_g 522820 [] [(2,iv 1)] [] zB ?_
   exact zU rfl
  ·refine zA (fun x75 h76=>?_)
   refine zA (fun x77 h78=>?_)
   refine J_g 130706 [] [(1,pp 0),(8,iv s70),(9,iv x77)] [(0,.box (Pack.enc false a1))] (zD 3 (zAc (kk:=.i64) 87 53 1 (eSl false 7 Term.enc) (.tmp 107) (.tmp 108) h76) (zD 5 (xH [(.tmp 110)] [53] (tJ.ok x75) h78) zB)) ?_
   refine J_d 261414 [] [113] [(113,bv (x77 !=0))] [] [] zB ?_
   refine zC 113 (fun h79=>?_) (fun h79=>?_)
   ·refine J_g 1045660 [] [(2,iv x77)] [] zB ?_
    exact zU rfl
   ·refine J_d 16339 [] [8,9,113] [(8,iv (w64 (s70+1)))] [] [] zB ?_
    exact J_q (J_b (ih (w64 (s70+1)))) rfl
 ·exact yQ (hk ()) rfl
theorem jD.ok (a1:Pack) (q:Wd) (kn:Unit→Option (D×List Ent)) (hk:∀v:Unit,J (q.g Tryz.prog 103 0 118) zI4 (atI zI4 255) (St.mk' [(1,pp 0)] [(0,.box (Pack.enc false a1))]) (some v) kn):
  ∀s42:Int,J (q.g Tryz.prog 103 0 118) zI4 (atI zI4 2036) (St.mk' [(1,pp 0),(6,iv s42)] [(0,.box (Pack.enc false a1))]) (jD a1 s42) (Fl.go (fun r:Int=>some (iv r,[])) kn):=by
 refine zAz (fun g ih s42=>?_)
 unfold kM
 refine J_d 8144 [] [60] [(60,bv (decide (s42< (a1.Provides.length:Int))))] [] [] zB ?_
 refine zC 60 (fun h43=>?_) (fun h43=>?_)
 ·refine zA (fun x44 h45=>?_)
  refine zA (fun x46 h47=>?_)
  refine J_g 65168 [] [(1,pp 0),(6,iv s42),(7,iv x46)] [(0,.box (Pack.enc false a1))] (zD 3 (zAc (kk:=.i64) 70 9 1 eStr (.tmp 64) (.tmp 65) h45) (zD 5 (xH [(.tmp 67)] [9] (wB.ok x44) h47) zB)) ?_
  refine J_d 130338 [] [70] [(70,bv (x46 !=0))] [] [] zB ?_
  refine zC 70 (fun h48=>?_) (fun h48=>?_)
  ·refine J_g 521356 [] [(2,iv x46)] [] zB ?_
   exact zU rfl
  ·refine zA (fun x49 h50=>?_)
   refine xC (atI zI4 65171) (fun v58:Bool=>St.mk' [(1,pp 0),(6,iv s42),(91,bv v58)] [(0,.box (Pack.enc false a1))]) (fun v58=>?_) (fun jv58=>?_)
   ·refine zC 91 (fun h59=>?_) (fun h59=>?_)
    ·refine J_g 260684 [] [(2,iv 6)] [] zB ?_
     exact zU rfl
    ·refine J_d 8147 [] [6,91] [(6,iv (w64 (s42+1)))] [] [] zB ?_
     exact J_q (J_b (ih (w64 (s42+1)))) rfl
   ·refine wR (fun h51=>?_) (fun h51=>?_)
    ·refine J_d 65170 [] [7,70,91] [(91,bv true)] [] [] (zD 3 (zAc (kk:=.i64) 70 9 1 eStr (.tmp 73) (.tmp 74) h50) (xR 8 [(79,bv (seq x49 a1.Name))] [] h51 zB)) ?_
     exact yQ (J_j (jv58 true)) rfl
    ·refine zA (fun x52 h53=>?_)
     refine zA (fun x54 h55=>?_)
     refine zA (fun x56 h57=>?_)
     refine J_d 65170 [] [7,70,91] [(91,bv x56)] [] [] (zD 3 (zAc (kk:=.i64) 70 9 1 eStr (.tmp 73) (.tmp 74) h50) (xR 8 [(79,bv (seq x49 a1.Name))] [] h51 (zCN 12 8 80 false (zNI 70 9 1 eStr (.tmp 82) none (some (.tmp 83)) h53) (zCN 16 8 80 false (zAc (kk:=.i64) 70 9 1 eStr (.tmp 86) (.tmp 87) h55) (zCN 18 8 80 false (xH [(.tmp 84),(.tmp 89)] [70,9] (jZ.ok x52 x54) h57) zB))))) ?_
     exact yQ (J_j (jv58 x56)) rfl
 ·exact yQ (hk ()) rfl
theorem zAm.ok (a1:Pack) (q:Wd) (kn:Unit→Option (D×List Ent)) (hk:∀v:Unit,J (q.g Tryz.prog 103 0 118) zI4 (atI zI4 127) (St.mk' [(1,pp 0)] [(0,.box (Pack.enc false a1))]) (some v) kn):
  ∀s19:Int,J (q.g Tryz.prog 103 0 118) zI4 (atI zI4 1012) (St.mk' [(1,pp 0),(5,iv s19)] [(0,.box (Pack.enc false a1))]) (zAm a1 s19) (Fl.go (fun r:Int=>some (iv r,[])) kn):=by
 refine zAz (fun g ih s19=>?_)
 unfold kN
 refine J_d 4048 [] [46] [(46,bv (decide (s19< (a1.Needs.length:Int))))] [] [] zB ?_
 refine zC 46 (fun h20=>?_) (fun h20=>?_)
 ·refine zA (fun x21 h22=>?_)
  refine J_d 16200 [] [46,55] [(55,bv (decide ((x21.length:Int)>4)))] [] [] (zD 3 (zAc (kk:=.i64) 87 53 1 (eSl false 7 Term.enc) (.tmp 50) (.tmp 51) h22) zB) ?_
  refine zC 55 (fun h23=>?_) (fun h23=>?_)
  ·refine J_g 64804 [] [(2,iv 2)] [] zB ?_
   exact zU rfl
  ·refine J_d 4051 [] [5,55] [(5,iv (w64 (s19+1)))] [] [] zB ?_
   exact J_q (J_b (ih (w64 (s19+1)))) rfl
 ·exact yQ (hk ()) rfl
theorem kT.ok (a1:Pack):Ok Tryz.prog 103 [.ag (Pack.enc false a1)] [] ((kT a1).map fun r=>(iv r,[])):=by
 refine zH zI4 Tryz.f103 0 118 (fun q=>?_)
 unfold kT
 refine J_g 2 [(0,0)] [(1,pp 0)] [(0,.box (Pack.enc false a1))] zB ?_
 refine zA (fun x2 h3=>?_)
 refine J_g 12 [] [(1,pp 0),(3,iv x2)] [(0,.box (Pack.enc false a1))] (zD 2 (xH [(.tmp 11)] [9] (wB.ok a1.Name) h3) zB) ?_
 refine J_d 26 [] [14] [(14,bv (x2 !=0))] [] [] zB ?_
 refine zC 14 (fun h4=>?_) (fun h4=>?_)
 ·refine J_g 108 [] [(2,iv x2)] [] zB ?_
  exact zU rfl
 ·refine zA (fun x5 h6=>?_)
  refine J_g 28 [] [(1,pp 0),(4,iv x5)] [(0,.box (Pack.enc false a1))] (zD 2 (xH [(.tmp 17)] [86] (yS.ok a1.Version) h6) zB) ?_
  refine J_d 58 [] [20] [(20,bv (x5 !=0))] [] [] zB ?_
  refine zC 20 (fun h7=>?_) (fun h7=>?_)
  ·refine J_g 236 [] [(2,iv x5)] [] zB ?_
   exact zU rfl
  ·refine zA (fun x8 h9=>?_)
   refine J_d 60 [] [4,20,25] [(25,bv (!x8))] [] [] (zD 2 (xH [(.tmp 23),(.const (.int .i64 1)),(.const (.int .i64 200))] [2,2,2] (yY.ok a1.Size 1 200) h9) zB) ?_
   refine zC 25 (fun h10=>?_) (fun h10=>?_)
   ·refine J_g 244 [] [(2,iv 3)] [] zB ?_
    exact zU rfl
   ·refine xC (atI zI4 125) (fun v13:Bool=>St.mk' [(1,pp 0),(41,bv v13)] [(0,.box (Pack.enc false a1))]) (fun v13=>?_) (fun jv13=>?_)
    ·refine zC 41 (fun h14=>?_) (fun h14=>?_)
     ·refine J_g 500 [] [(2,iv 2)] [] zB ?_
      exact zU rfl
     ·refine J_d 252 [] [5,41] [(5,iv 0)] [] [] zB ?_
      refine uQ (K0:=(fun r:Int=>some (iv r,[]))) (fun _=>rfl) (zAm.ok a1 q _ (fun v24=>J_j ?_) 0)
      refine J_d 508 [] [6] [(6,iv 0)] [] [] zB ?_
      refine uQ (K0:=(fun r:Int=>some (iv r,[]))) (fun _=>rfl) (jD.ok a1 q _ (fun v60=>J_j ?_) 0)
      refine J_d 1020 [] [8] [(8,iv 0)] [] [] zB ?_
      refine uQ (K0:=(fun r:Int=>some (iv r,[]))) (fun _=>rfl) (tZ.ok a1 q _ (fun v80=>J_j ?_) 0)
      refine zA (fun x81 h82=>?_)
      refine J_g 1022 [] [(2,iv x81)] [] (zD 2 (xH [(.tmp 116)] [53] (tJ.ok a1.Bars) h82) zB) ?_
      exact zU rfl
    ·refine wR (fun h11=>?_) (fun h11=>?_)
     ·refine J_d 124 [] [25,41] [(41,bv true)] [] [] (xR 4 [(29,bv (decide ((a1.Provides.length:Int)>4)))] [] h11 zB) ?_
      exact yQ (J_j (jv13 true)) rfl
     ·refine wR (fun h12=>?_) (fun h12=>?_)
      ·refine J_d 124 [] [25,41] [(41,bv true)] [] [] (xR 4 [(29,bv (decide ((a1.Provides.length:Int)>4)))] [] h11 (xR 10 [(35,bv (decide ((a1.Needs.length:Int)>4)))] [] h12 zB)) ?_
       exact yQ (J_j (jv13 true)) rfl
      ·refine J_d 124 [] [25,41] [(41,bv (decide ((a1.Bars.length:Int)>4)))] [] [] (xR 4 [(29,bv (decide ((a1.Provides.length:Int)>4)))] [] h11 (xR 10 [(35,bv (decide ((a1.Needs.length:Int)>4)))] [] h12 zB)) ?_
       exact yQ (J_j (jv13 (decide ((a1.Bars.length:Int)>4)))) rfl
noncomputable def zMN:Code:=(Tryz.f104.body).getD .skip
theorem zB9.ok (a1:(List Pack)) (a2:ByteArray) (a3:Version) (q:Wd) (kn:Unit→Option (D×List Ent)) (hk:∀v:Unit,J (q.g Tryz.prog 104 0 32) zMN (atI zMN 7) (St.mk' [] []) (some v) kn):
  ∀s14:Int,J (q.g Tryz.prog 104 0 32) zMN (atI zMN 52) (St.mk' [(0,sl 8 (Pack.enc false) a1),(1,sv a2),(5,pp 0),(7,iv s14)] [(0,.box (Version.enc a3))]) (zB9 a1 a2 a3 s14) (Fl.go (fun r:Int=>some (iv r,[])) kn):=by
 refine zAz (fun g ih s14=>?_)
 unfold zBg
 refine J_d 208 [] [11] [(11,bv (decide (s14< (a1.length:Int))))] [] [] zB ?_
 refine zC 11 (fun h15=>?_) (fun h15=>?_)
 ·refine zA (fun x16 h17=>?_)
  refine xC (atI zMN 841) (fun v23:Bool=>St.mk' [(0,sl 8 (Pack.enc false) a1),(1,sv a2),(5,pp 0),(7,iv s14),(30,bv v23)] [(0,.box (Version.enc a3))]) (fun v23=>?_) (fun jv23=>?_)
  ·refine zC 30 (fun h24=>?_) (fun h24=>?_)
   ·refine J_g 3364 [] [(6,iv s14)] [] zB ?_
    exact zU rfl
   ·refine J_d 211 [] [7,30] [(7,iv (w64 (s14+1)))] [] [] zB ?_
    exact J_q (J_b (ih (w64 (s14+1)))) rfl
  ·refine wR (fun h18=>?_) (fun h18=>?_)
   ·refine zA (fun x19 h20=>?_)
    refine zA (fun x21 h22=>?_)
    refine J_d 840 [] [11,30] [(30,bv (x21==0))] [] [] (zD 2 (zAc (kk:=.i64) 24 89 8 (Pack.enc false) (.tmp 14) (.tmp 15) h17) (xR 7 [(20,bv (seq x16.Name a2))] [] h18 (zCN 10 7 21 true (zAc (kk:=.i64) 24 89 8 (Pack.enc false) (.tmp 22) (.tmp 23) h20) (zCN 14 7 21 true (xH [(.tmp 26),(.tmp 27)] [86,86] (xD.ok x19.Version a3) h22) zB)))) ?_
    exact yQ (J_j (jv23 (x21==0))) rfl
   ·refine J_d 840 [] [11,30] [(30,bv false)] [] [] (zD 2 (zAc (kk:=.i64) 24 89 8 (Pack.enc false) (.tmp 14) (.tmp 15) h17) (xR 7 [(20,bv (seq x16.Name a2))] [] h18 zB)) ?_
    exact yQ (J_j (jv23 false)) rfl
 ·exact yQ (hk ()) rfl
theorem jM.ok (a1:(List Pack)) (a2:ByteArray) (a3:Version):Ok Tryz.prog 104 [sl 8 (Pack.enc false) a1,sv a2,.ag (Version.enc a3)] [] ((jM a1 a2 a3).map fun r=>(iv r,[])):=by
 refine zH zMN Tryz.f104 0 32 (fun q=>?_)
 unfold jM
 refine J_g 2 [(0,0)] [(0,sl 8 (Pack.enc false) a1),(1,sv a2),(5,pp 0)] [(0,.box (Version.enc a3))] zB ?_
 refine J_d 12 [] [7] [(7,iv 0)] [] [] zB ?_
 refine uQ (K0:=(fun r:Int=>some (iv r,[]))) (fun _=>rfl) (zB9.ok a1 a2 a3 q _ (fun v25=>J_j ?_) 0)
 refine J_g 14 [] [(6,iv (-1))] [] zB ?_
 exact zU rfl
noncomputable def c46:Code:=(Tryz.f46.body).getD .skip
theorem uU.ok (a1:(List Pack)) (q:Wd) (kn:Unit→Option (D×List Ent)) (hk:∀v:Unit,J (q.g Tryz.prog 46 0 37) c46 (atI c46 15) (St.mk' [] []) (some v) kn):
  ∀s18:Int,J (q.g Tryz.prog 46 0 37) c46 (atI c46 116) (St.mk' [(0,sl 8 (Pack.enc false) a1),(3,iv s18)] []) (uU a1 s18) (Fl.go (fun r:Int=>some (iv r,[])) kn):=by
 refine zAz (fun g ih s18=>?_)
 unfold uJ
 refine J_d 464 [] [11] [(11,bv (decide (s18< (a1.length:Int))))] [] [] zB ?_
 refine zC 11 (fun h19=>?_) (fun h19=>?_)
 ·refine zA (fun x20 h21=>?_)
  refine zA (fun x22 h23=>?_)
  refine J_g 3728 [] [(0,sl 8 (Pack.enc false) a1),(3,iv s18),(4,iv x22)] [] (zD 2 (zAc (kk:=.i64) 24 89 8 (Pack.enc false) (.tmp 14) (.tmp 15) h21) (zD 4 (xH [(.tmp 17)] [89] (kT.ok x20) h23) zB)) ?_
  refine J_d 7458 [] [20] [(20,bv (x22 !=0))] [] [] zB ?_
  refine zC 20 (fun h24=>?_) (fun h24=>?_)
  ·refine J_g 29836 [] [(2,iv x22)] [] zB ?_
   exact zU rfl
  ·refine zA (fun x25 h26=>?_)
   refine zA (fun x27 h28=>?_)
   refine zA (fun x29 h30=>?_)
   refine zA (fun x31 h32=>?_)
   refine J_d 3730 [] [4,20,36] [(36,bv (decide (x31≥0)))] [] [] (zD 2 (zNI 24 89 8 (Pack.enc false) (.tmp 22) none (some (.tmp 23)) h26) (zD 5 (zAc (kk:=.i64) 24 89 8 (Pack.enc false) (.tmp 25) (.tmp 26) h28) (zD 10 (zAc (kk:=.i64) 24 89 8 (Pack.enc false) (.tmp 30) (.tmp 31) h30) (zD 13 (xH [(.tmp 24),(.tmp 29),(.tmp 34)] [24,9,86] (jM.ok x25 x27.Name x29.Version) h32) zB)))) ?_
   refine zC 36 (fun h33=>?_) (fun h33=>?_)
   ·refine J_g 14924 [] [(2,iv 6)] [] zB ?_
    exact zU rfl
   ·refine J_d 467 [] [3,36] [(3,iv (w64 (s18+1)))] [] [] zB ?_
    exact J_q (J_b (ih (w64 (s18+1)))) rfl
 ·exact yQ (hk ()) rfl
theorem vS.ok (a1:(List Pack)):Ok Tryz.prog 46 [sl 8 (Pack.enc false) a1] [] ((vS a1).map fun r=>(iv r,[])):=by
 refine zH c46 Tryz.f46 0 37 (fun q=>?_)
 unfold vS
 refine J_g 2 [] [(0,sl 8 (Pack.enc false) a1)] [] zB ?_
 refine J_d 12 [] [7] [(7,bv (decide ((a1.length:Int)>24)))] [] [] zB ?_
 refine zC 7 (fun h2=>?_) (fun h2=>?_)
 ·refine J_g 52 [] [(2,iv 2)] [] zB ?_
  exact zU rfl
 ·refine J_d 28 [] [3,7] [(3,iv 0)] [] [] zB ?_
  refine uQ (K0:=(fun r:Int=>some (iv r,[]))) (fun _=>rfl) (uU.ok a1 q _ (fun v34=>J_j ?_) 0)
  refine J_g 30 [] [(2,iv 0)] [] zB ?_
  exact zU rfl
noncomputable def zOP:Code:=(Tryz.f267.body).getD .skip
theorem zCg.ok (a1:Int):Ok Tryz.prog 267 [uv a1] [] ((zCg a1).map fun r=>(bv r,[])):=by
 refine zH zOP Tryz.f267 0 17 (fun q=>?_)
 unfold zCg
 refine J_g 2 [] [(0,uv a1)] [] zB ?_
 refine zA (fun x2 h3=>?_)
 refine wR (fun h4=>?_) (fun h4=>?_)
 ·refine J_g 6 [] [(2,bv true)] [] (zD 1 (xH [(.tmp 3)] [5] (wT.ok a1) h3) (xR 2 [(4,bv x2)] [] h4 zB)) ?_
  exact zU rfl
 ·refine wR (fun h5=>?_) (fun h5=>?_)
  ·refine J_g 6 [] [(2,bv true)] [] (zD 1 (xH [(.tmp 3)] [5] (wT.ok a1) h3) (xR 2 [(4,bv x2)] [] h4 (xR 6 [(8,bv (a1==46))] [] h5 zB))) ?_
   exact zU rfl
  ·refine wR (fun h6=>?_) (fun h6=>?_)
   ·refine J_g 6 [] [(2,bv true)] [] (zD 1 (xH [(.tmp 3)] [5] (wT.ok a1) h3) (xR 2 [(4,bv x2)] [] h4 (xR 6 [(8,bv (a1==46))] [] h5 (xR 10 [(12,bv (a1==45))] [] h6 zB)))) ?_
    exact zU rfl
   ·refine J_g 6 [] [(2,bv (a1==47))] [] (zD 1 (xH [(.tmp 3)] [5] (wT.ok a1) h3) (xR 2 [(4,bv x2)] [] h4 (xR 6 [(8,bv (a1==46))] [] h5 (xR 10 [(12,bv (a1==45))] [] h6 zB)))) ?_
    exact zU rfl
noncomputable def c201:Code:=(Tryz.f201.body).getD .skip
theorem vW.ok (a1:ByteArray) (q:Wd) (kn:Unit→Option (D×List Ent)) (hk:∀v:Unit,J (q.g Tryz.prog 201 0 23) c201 (atI c201 15) (St.mk' [] []) (some v) kn):
  ∀s11:Int,J (q.g Tryz.prog 201 0 23) c201 (atI c201 116) (St.mk' [(0,sv a1),(3,iv s11)] []) (vW a1 s11) (Fl.go (fun r:Int=>some (iv r,[])) kn):=by
 refine zAz (fun g ih s11=>?_)
 unfold uM
 refine J_d 464 [] [15] [(15,bv (decide (s11< (a1.size:Int))))] [] [] zB ?_
 refine zC 15 (fun h12=>?_) (fun h12=>?_)
 ·refine zA (fun x13 h14=>?_)
  refine zA (fun x15 h16=>?_)
  refine J_d 1864 [] [15,22] [(22,bv (!x15))] [] [] (zD 2 (zIy (kk:=.i64) 9 (.tmp 18) (.tmp 19) h14) (zD 3 (xH [(.tmp 20)] [5] (zCg.ok x13) h16) zB)) ?_
  refine zC 22 (fun h17=>?_) (fun h17=>?_)
  ·refine J_g 7460 [] [(2,iv 5)] [] zB ?_
   exact zU rfl
  ·refine J_g 467 [] [(0,sv a1),(3,iv (w64 (s11+1)))] [] zB ?_
   exact J_q (J_b (ih (w64 (s11+1)))) rfl
 ·exact yQ (hk ()) rfl
theorem wD.ok (a1:ByteArray):Ok Tryz.prog 201 [sv a1] [] ((wD a1).map fun r=>(iv r,[])):=by
 refine zH c201 Tryz.f201 0 23 (fun q=>?_)
 unfold wD
 refine J_g 2 [] [(0,sv a1)] [] zB ?_
 refine xC (atI c201 13) (fun v3:Bool=>St.mk' [(0,sv a1),(11,bv v3)] []) (fun v3=>?_) (fun jv3=>?_)
 ·refine zC 11 (fun h4=>?_) (fun h4=>?_)
  ·refine J_g 52 [] [(2,iv 5)] [] zB ?_
   exact zU rfl
  ·refine J_g 28 [] [(0,sv a1),(3,iv 0)] [] zB ?_
   refine uQ (K0:=(fun r:Int=>some (iv r,[]))) (fun _=>rfl) (vW.ok a1 q _ (fun v18=>J_j ?_) 0)
   refine J_g 30 [] [(2,iv 0)] [] zB ?_
   exact zU rfl
 ·refine wR (fun h2=>?_) (fun h2=>?_)
  ·refine J_g 12 [] [(0,sv a1),(11,bv true)] [] (xR 3 [(6,bv (decide ((a1.size:Int)<1)))] [] h2 zB) ?_
   exact yQ (J_j (jv3 true)) rfl
  ·refine J_g 12 [] [(0,sv a1),(11,bv (decide ((a1.size:Int)>40)))] [] (xR 3 [(6,bv (decide ((a1.size:Int)<1)))] [] h2 zB) ?_
   exact yQ (J_j (jv3 (decide ((a1.size:Int)>40)))) rfl
noncomputable def zNs:Code:=(Tryz.f202.body).getD .skip
theorem zBk.ok (a1:zI) (q:Wd) (kn:Int→Option (D×List Ent)) (hk:∀v:Int,J (q.g Tryz.prog 202 1 26) zNs (atI zNs 15) (St.mk' [(3,iv v)] [(0,.box (zI.enc false a1))]) (some v) kn):
  ∀s5:(Int×Int),J (q.g Tryz.prog 202 1 26) zNs (atI zNs 116) (St.mk' [(0,pp 0),(3,iv s5.1),(4,iv s5.2)] [(0,.box (zI.enc false a1))]) (zBk a1 s5) kn:=by
 refine zAz (fun g ih s5=>?_)
 unfold zAD
 refine J_d 464 [] [11] [(11,bv (decide (s5.2< (a1.Files.length:Int))))] [] [] zB ?_
 refine zC 11 (fun h6=>?_) (fun h6=>?_)
 ·refine zA (fun x7 h8=>?_)
  refine J_g 932 [] [(0,pp 0),(3,iv (w64 (s5.1+(x7.Data.length:Int)))),(4,iv s5.2)] [(0,.box (zI.enc false a1))] (zD 6 (zAc (kk:=.i64) 25 113 2 (File.enc false) (.tmp 18) (.tmp 19) h8) zB) ?_
  refine J_d 467 [] [4] [(4,iv (w64 (s5.2+1)))] [] [] zB ?_
  exact J_q (J_b (ih (w64 (s5.1+(x7.Data.length:Int)),w64 (s5.2+1)))) rfl
 ·exact yQ (hk s5.1) rfl
theorem zBi.ok (a1:zI):Ok Tryz.prog 202 [pp 0] [.box (zI.enc false a1)] ((zBi a1).map fun r=>(iv r,[.box (zI.enc false a1)])):=by
 refine zH zNs Tryz.f202 1 26 (fun q=>?_)
 unfold zBi
 refine J_g 2 [] [(0,pp 0)] [(0,.box (zI.enc false a1))] zB ?_
 refine J_g 6 [] [(0,pp 0),(3,iv 0)] [(0,.box (zI.enc false a1))] zB ?_
 refine J_d 28 [] [4] [(4,iv 0)] [] [] zB ?_
 refine zEE (zBk.ok a1 q _ (fun v9=>J_j ?_) (0,0))
 refine J_d 30 [] [2,3] [(2,iv v9)] [] [] zB ?_
 exact zU rfl
noncomputable def zMs:Code:=(Tryz.f123.body).getD .skip
theorem vT.ok (a1:zI) (q:Wd) (kn:Unit→Option (D×List Ent)) (hk:∀v:Unit,J (q.g Tryz.prog 123 0 72) zMs (atI zMs 31) (St.mk' [(1,pp 0)] [(0,.box (zI.enc false a1))]) (some v) kn):
  ∀s29:Int,J (q.g Tryz.prog 123 0 72) zMs (atI zMs 244) (St.mk' [(1,pp 0),(3,iv s29)] [(0,.box (zI.enc false a1))]) (vT a1 s29) (Fl.go (fun r:Int=>some (iv r,[])) kn):=by
 refine zAz (fun g ih s29=>?_)
 unfold uN
 refine J_d 976 [] [29] [(29,bv (decide (s29< (a1.Files.length:Int))))] [] [] zB ?_
 refine zC 29 (fun h30=>?_) (fun h30=>?_)
 ·refine zA (fun x31 h32=>?_)
  refine zA (fun x33 h34=>?_)
  refine J_g 7824 [] [(1,pp 0),(3,iv s29),(4,iv x33)] [(0,.box (zI.enc false a1))] (zD 3 (zAc (kk:=.i64) 25 113 2 (File.enc false) (.tmp 33) (.tmp 34) h32) (zD 6 (xH [(.tmp 37)] [9] (wD.ok x31.Path) h34) zB)) ?_
  refine J_d 15650 [] [40] [(40,bv (x33 !=0))] [] [] zB ?_
  refine zC 40 (fun h35=>?_) (fun h35=>?_)
  ·refine J_g 62604 [] [(2,iv x33)] [] zB ?_
   exact zU rfl
  ·refine xC (atI zMs 15653) (fun v41:Bool=>St.mk' [(1,pp 0),(3,iv s29),(59,bv v41)] [(0,.box (zI.enc false a1))]) (fun v41=>?_) (fun jv41=>?_)
   ·refine zC 59 (fun h42=>?_) (fun h42=>?_)
    ·refine J_g 62612 [] [(2,iv 1)] [] zB ?_
     exact zU rfl
    ·refine zA (fun x43 h44=>?_)
     refine J_d 15654 [] [59,67] [(67,bv (decide ((x43.Data.length:Int)>4000)))] [] [] (zD 3 (zAc (kk:=.i64) 25 113 2 (File.enc false) (.tmp 61) (.tmp 62) h44) zB) ?_
     refine zC 67 (fun h45=>?_) (fun h45=>?_)
     ·refine J_g 62620 [] [(2,iv 2)] [] zB ?_
      exact zU rfl
     ·refine J_d 979 [] [3,67] [(3,iv (w64 (s29+1)))] [] [] zB ?_
      exact J_q (J_b (ih (w64 (s29+1)))) rfl
   ·refine wR (fun h36=>?_) (fun h36=>?_)
    ·refine zA (fun x37 h38=>?_)
     refine zA (fun x39 h40=>?_)
     refine J_d 15652 [] [4,40,59] [(59,bv (slt x37.Path x39.Path||seq x37.Path x39.Path))] [] [] (xR 2 [(43,bv (decide (s29>0)))] [] h36 (zCN 6 2 44 true (zAc (kk:=.i64) 25 113 2 (File.enc false) (.tmp 46) (.tmp 47) h38) (zCN 13 2 44 true (zAc (kk:=.i64) 25 113 2 (File.enc false) (.tmp 52) (.tmp 54) h40) zB))) ?_
     exact yQ (J_j (jv41 (slt x37.Path x39.Path||seq x37.Path x39.Path))) rfl
    ·refine J_d 15652 [] [4,40,59] [(59,bv false)] [] [] (xR 2 [(43,bv (decide (s29>0)))] [] h36 zB) ?_
     exact yQ (J_j (jv41 false)) rfl
 ·exact yQ (hk ()) rfl
theorem wC.ok (a1:zI):Ok Tryz.prog 123 [.ag (zI.enc false a1)] [] ((wC a1).map fun r=>(iv r,[])):=by
 refine zH zMs Tryz.f123 0 72 (fun q=>?_)
 unfold wC
 refine J_g 2 [(0,0)] [(1,pp 0)] [(0,.box (zI.enc false a1))] zB ?_
 refine zA (fun x2 h3=>?_)
 refine xC (atI zMs 13) (fun v10:Bool=>St.mk' [(1,pp 0),(20,bv v10)] [(0,.box (zI.enc false a1))]) (fun v10=>?_) (fun jv10=>?_)
 ·refine zC 20 (fun h11=>?_) (fun h11=>?_)
  ·refine J_g 52 [] [(2,iv 3)] [] zB ?_
   exact zU rfl
  ·refine J_d 28 [] [20,24] [(24,bv (decide ((a1.Files.length:Int)>120)))] [] [] zB ?_
   refine zC 24 (fun h12=>?_) (fun h12=>?_)
   ·refine J_g 116 [] [(2,iv 2)] [] zB ?_
    exact zU rfl
   ·refine J_d 60 [] [3,24] [(3,iv 0)] [] [] zB ?_
    refine uQ (K0:=(fun r:Int=>some (iv r,[]))) (fun _=>rfl) (vT.ok a1 q _ (fun v46=>J_j ?_) 0)
    refine zA (fun x47 h48=>?_)
    refine J_g 124 [] [(71,bv (decide (x47>a1.Budget)))] [] (zD 0 (zFS [(0,.box (zI.enc false a1))] [] (jO («as»:=[pp 0]) [(.tmp 1)] [103] false [(0,.box (zI.enc false a1))] [0] (.cons (.pt rfl) (.nil)) (zBi.ok a1) h48 (.same rfl rfl))) zB) ?_
    refine zC 71 (fun h49=>?_) (fun h49=>?_)
    ·refine J_g 500 [] [(2,iv 8)] [] zB ?_
     exact zU rfl
    ·refine J_g 126 [] [(2,iv 0)] [] zB ?_
     exact zU rfl
 ·refine wR (fun h4=>?_) (fun h4=>?_)
  ·refine J_d 12 [] [20] [(20,bv true)] [] [] (zD 2 (xH [(.tmp 6),(.const (.int .i64 0)),(.const (.int .i64 20000))] [2,2,2] (yY.ok a1.Budget 0 20000) h3) (xR 4 [(8,bv (!x2))] [] h4 zB)) ?_
   exact yQ (J_j (jv10 true)) rfl
  ·refine zA (fun x5 h6=>?_)
   refine wR (fun h7=>?_) (fun h7=>?_)
   ·refine J_d 12 [] [20] [(20,bv true)] [] [] (zD 2 (xH [(.tmp 6),(.const (.int .i64 0)),(.const (.int .i64 20000))] [2,2,2] (yY.ok a1.Budget 0 20000) h3) (xR 4 [(8,bv (!x2))] [] h4 (zCN 7 4 9 false (xH [(.tmp 11),(.const (.int .i64 0)),(.const (.int .i64 1000000000))] [2,2,2] (yY.ok a1.Writes 0 1000000000) h6) (xR 10 [(14,bv (!x5))] [] h7 zB)))) ?_
    exact yQ (J_j (jv10 true)) rfl
   ·refine zA (fun x8 h9=>?_)
    refine J_d 12 [] [20] [(20,bv (!x8))] [] [] (zD 2 (xH [(.tmp 6),(.const (.int .i64 0)),(.const (.int .i64 20000))] [2,2,2] (yY.ok a1.Budget 0 20000) h3) (xR 4 [(8,bv (!x2))] [] h4 (zCN 7 4 9 false (xH [(.tmp 11),(.const (.int .i64 0)),(.const (.int .i64 1000000000))] [2,2,2] (yY.ok a1.Writes 0 1000000000) h6) (xR 10 [(14,bv (!x5))] [] h7 (zCN 13 10 15 false (xH [(.tmp 17),(.const (.int .i64 (-1))),(.const (.int .i64 1000000000))] [2,2,2] (yY.ok a1.Stop (-1) 1000000000) h9) zB))))) ?_
    exact yQ (J_j (jv10 (!x8))) rfl
noncomputable def c62:Code:=(Tryz.f62.body).getD .skip
theorem kE.ok (a1:(List Pack)) (a2:zI):Ok Tryz.prog 62 [sl 8 (Pack.enc false) a1,.ag (zI.enc false a2)] [] ((kE a1 a2).map fun r=>(iv r,[])):=by
 refine zH c62 Tryz.f62 0 13 (fun q=>?_)
 unfold kE
 refine J_d 2 [(0,0)] [1,3] [(3,pp 0)] [0] [(0,.box (zI.enc false a2))] zB ?_
 refine zA (fun x3 h4=>?_)
 refine J_g 12 [] [(3,pp 0),(5,iv x3)] [(0,.box (zI.enc false a2))] (zD 1 (xH [(.tmp 6)] [24] (vS.ok a1) h4) zB) ?_
 refine J_d 26 [] [9] [(9,bv (x3 !=0))] [] [] zB ?_
 refine zC 9 (fun h5=>?_) (fun h5=>?_)
 ·refine J_g 108 [] [(4,iv x3)] [] zB ?_
  exact zU rfl
 ·refine zA (fun x6 h7=>?_)
  refine J_g 14 [] [(4,iv x6)] [] (zD 1 (xH [(.tmp 11)] [27] (wC.ok a2) h7) zB) ?_
  exact zU rfl
noncomputable def zOx:Code:=(Tryz.f142.body).getD .skip
theorem uZ.ok (a1:ByteArray) (a2:ByteArray):Ok Tryz.prog 142 [sv a1,sv a2] [] ((uZ a1 a2).map fun r=>(bv r,[])):=by
 refine zH zOx Tryz.f142 0 18 (fun q=>?_)
 unfold uZ
 refine J_d 2 [] [] [] [] [] zB ?_
 refine wR (fun h3=>?_) (fun h3=>?_)
 ·refine zA (fun x4 h5=>?_)
  refine J_g 6 [] [(4,bv (seq x4 a2))] [] (xR 5 [(9,bv (decide ((a1.size:Int)≥(a2.size:Int))))] [] h3 (zCN 9 5 10 true (zMP 9 (.tmp 11) none (some (.tmp 13)) h5) zB)) ?_
  exact zU rfl
 ·refine J_g 6 [] [(4,bv false)] [] (xR 5 [(9,bv (decide ((a1.size:Int)≥(a2.size:Int))))] [] h3 zB) ?_
  exact zU rfl
noncomputable def c171:Code:=(Tryz.f171.body).getD .skip
theorem jN.ok (a1:zI) (a2:ByteArray) (q:Wd) (kn:(List ByteArray)→Option (D×List Ent)) (hk:∀v:(List ByteArray),J (q.g Tryz.prog 171 1 39) c171 (atI c171 15) (St.mk' [(5,rr 1 v)] [(0,.box (zI.enc false a1)),(1,rE 1 eStr v)]) (some v) kn):
  ∀s14:((List ByteArray)×Int),J (q.g Tryz.prog 171 1 39) c171 (atI c171 116) (St.mk' [(0,pp 0),(1,sv a2),(5,rr 1 s14.1),(6,iv s14.2)] [(0,.box (zI.enc false a1)),(1,rE 1 eStr s14.1)]) (jN a1 a2 s14) kn:=by
 refine zAz (fun g ih s14=>?_)
 unfold jV
 refine J_d 464 [] [14] [(14,bv (decide (s14.2< (a1.Files.length:Int))))] [] [] zB ?_
 refine zC 14 (fun h15=>?_) (fun h15=>?_)
 ·refine zA (fun x16 h17=>?_)
  refine zA (fun x18 h19=>?_)
  refine J_d 1864 [] [14,26] [(26,bv x18)] [] [] (zD 5 (zAc (kk:=.i64) 25 113 2 (File.enc false) (.tmp 20) (.tmp 21) h17) (zD 9 (xH [(.tmp 24),(.tmp 25)] [9,9] (uZ.ok x16.Path a2) h19) zB)) ?_
  refine xC (aft c171 932) (fun v25:(List ByteArray)=>St.mk' [(0,pp 0),(1,sv a2),(5,rr 3 v25),(6,iv s14.2)] [(0,.box (zI.enc false a1)),(3,rE 1 eStr v25)]) (fun v25=>?_) (fun jv25=>?_)
  ·refine J_d 467 [] [6] [(6,iv (w64 (s14.2+1)))] [] [] zB ?_
   refine zAy 3 1 (Nat.le_of_ble_eq_true rfl) (Nat.le_of_ble_eq_true rfl) ?_
   exact J_q (J_b (ih (v25,w64 (s14.2+1)))) rfl
  ·refine zC 26 (fun h20=>?_) (fun h20=>?_)
   ·refine zA (fun x21 h22=>?_)
    refine zA (fun x23 h24=>?_)
    refine J_d 3730 [] [5,26] [(5,rr 3 x23)] [1,3] [(3,rE 1 eStr x23)] (zD 6 (zAc (kk:=.i64) 25 113 2 (File.enc false) (.tmp 31) (.tmp 32) h22) (zD 9 (zCR 70 9 1 2 eStr [x21.Path] [0] [(.tmp 35)] [sv x21.Path]) (zD 10 (zFG 70 70 9 9 1 16 3 1 2 eStr (.tmp 27) (.tmp 36) h24) zB))) ?_
    exact yQ (J_j (jv25 x23)) rfl
   ·refine zAy 1 3 (Nat.le_of_ble_eq_true rfl) (Nat.le_of_ble_eq_true rfl) ?_
    exact yQ (J_j (jv25 s14.1)) rfl
 ·exact yQ (hk s14.1) rfl
theorem uE.ok (a1:zI) (a2:ByteArray):Ok Tryz.prog 171 [pp 0,sv a2] [.box (zI.enc false a1)] ((uE a1 a2).map fun r=>(so 1 eStr r,[.box (zI.enc false a1)])):=by
 refine zH c171 Tryz.f171 1 39 (fun q=>?_)
 unfold uE
 refine J_g 2 [] [(0,pp 0),(1,sv a2)] [(0,.box (zI.enc false a1))] zB ?_
 refine J_g 6 [] [(0,pp 0),(1,sv a2),(5,rr 1 ([]:List ByteArray))] [(0,.box (zI.enc false a1)),(1,rE 1 eStr ([]:List ByteArray))] (zD 0 (zCR 70 9 1 1 eStr ([]:List ByteArray) [] [] []) zB) ?_
 refine J_d 28 [] [6] [(6,iv 0)] [] [] zB ?_
 refine zEE (jN.ok a1 a2 q _ (fun v26=>J_j ?_) (([]:List ByteArray),0))
 refine J_g 30 [] [(4,rr 1 v26)] [(0,.box (zI.enc false a1)),(1,rE 1 eStr v26)] zB ?_
 exact zBI (ds:=[rr 1 v26]) (ds':=[so 1 eStr v26]) (.cons (.cell (.move (.tail _ (.head _)) (List.length_map _) (by decide) (.nil))) (.nil) (by decide)) rfl
noncomputable def c203:Code:=(Tryz.f203.body).getD .skip
theorem zA1.ok (a1:ByteArray) (q:Wd) (kn:Int→Option (D×List Ent)) (hk:∀v:Int,J (q.g Tryz.prog 203 0 37) c203 (atI c203 31) (St.mk' [(6,iv v)] []) (some v) kn):
  ∀s14:(Int×Int),J (q.g Tryz.prog 203 0 37) c203 (atI c203 244) (St.mk' [(0,sv a1),(6,iv s14.1),(7,iv s14.2)] []) (zA1 a1 s14) (Fl.go (fun r:(Int×Bool)=>some (.tu [iv r.1,bv r.2],[])) kn):=by
 refine zAz (fun g ih s14=>?_)
 unfold zAk
 refine J_d 976 [] [20] [(20,bv (decide (s14.2< (a1.size:Int))))] [] [] zB ?_
 refine zC 20 (fun h15=>?_) (fun h15=>?_)
 ·refine zA (fun x16 h17=>?_)
  refine zA (fun x18 h19=>?_)
  refine J_d 7824 [] [20,27] [(27,bv (!x18))] [] [] (zD 2 (zIy (kk:=.i64) 9 (.tmp 23) (.tmp 24) h17) (zD 3 (xH [(.tmp 25)] [5] (wQ.ok x16) h19) zB)) ?_
  refine zC 27 (fun h20=>?_) (fun h20=>?_)
  ·refine J_g 31300 [] [(4,iv 0),(5,bv false)] [] zB ?_
   exact zLC rfl
  ·refine zA (fun x21 h22=>?_)
   refine J_g 3913 [] [(0,sv a1),(6,iv (w64 ((w64 (s14.1*10))+(w64 (IntKind.u8.wrap (x21-48)))))),(7,iv s14.2)] [] (zD 4 (zIy (kk:=.i64) 9 (.tmp 30) (.tmp 31) h22) zB) ?_
   refine J_d 979 [] [7] [(7,iv (w64 (s14.2+1)))] [] [] zB ?_
   exact J_q (J_b (ih (w64 ((w64 (s14.1*10))+(w64 (IntKind.u8.wrap (x21-48)))),w64 (s14.2+1)))) rfl
 ·exact yQ (hk s14.1) rfl
theorem wY.ok (a1:ByteArray) (a2:Int):Ok Tryz.prog 203 [sv a1,iv a2] [] ((wY a1 a2).map fun r=>(.tu [iv r.1,bv r.2],[])):=by
 refine zH c203 Tryz.f203 0 37 (fun q=>?_)
 unfold wY
 refine J_d 2 [] [] [] [] [] zB ?_
 refine xC (atI c203 13) (fun v4:Bool=>St.mk' [(0,sv a1),(16,bv v4)] []) (fun v4=>?_) (fun jv4=>?_)
 ·refine zC 16 (fun h5=>?_) (fun h5=>?_)
  ·refine J_g 52 [] [(4,iv 0),(5,bv false)] [] zB ?_
   exact zLC rfl
  ·refine J_g 14 [] [(0,sv a1),(6,iv 0)] [] zB ?_
   refine J_d 60 [] [7] [(7,iv 0)] [] [] zB ?_
   refine uQ (K0:=(fun r:(Int×Bool)=>some (.tu [iv r.1,bv r.2],[]))) (fun _=>rfl) (zA1.ok a1 q _ (fun v23=>J_j ?_) (0,0))
   refine J_g 62 [] [(4,iv v23),(5,bv true)] [] zB ?_
   exact zLC rfl
 ·refine wR (fun h3=>?_) (fun h3=>?_)
  ·refine J_g 12 [] [(0,sv a1),(16,bv true)] [] (xR 3 [(10,bv (decide ((a1.size:Int)<1)))] [] h3 zB) ?_
   exact yQ (J_j (jv4 true)) rfl
  ·refine J_g 12 [] [(0,sv a1),(16,bv (decide ((a1.size:Int)>a2)))] [] (xR 3 [(10,bv (decide ((a1.size:Int)<1)))] [] h3 zB) ?_
   exact yQ (J_j (jv4 (decide ((a1.size:Int)>a2)))) rfl
noncomputable def zOv:Code:=(Tryz.f128.body).getD .skip
theorem xO.ok (a1:Int):Ok Tryz.prog 128 [iv a1] [] ((xO a1).map fun r=>(sv r,[])):=by
 have key:∀(n:Nat) (a1:Int),Ok Tryz.prog 128 [iv a1] [] ((zMD vH n a1).map fun r=>(sv r,[])):=by
  intro n
  induction n with
  |zero=>intro a1; exact zM8
  |succ n ih=>
   intro a1
   refine zH zOv Tryz.f128 0 20 (fun q=>?_)
   unfold zMD vH
   refine J_g 2 [] [(0,iv a1)] [] zB ?_
   refine J_g 12 [] [(0,iv a1),(4,bv (decide (a1<10)))] [] zB ?_
   refine zC 4 (fun h2=>?_) (fun h2=>?_)
   ·refine J_g 52 [] [(2,sv (b2s [IntKind.u8.wrap (w64 (48+a1))]))] [] (zD 3 (zCR 111 5 1 0 eU8 [IntKind.u8.wrap (w64 (48+a1))] [0] [(.tmp 7)] [uv (IntKind.u8.wrap (w64 (48+a1)))]) (zD 4 (zLX (xs:=[IntKind.u8.wrap (w64 (48+a1))]) 111 9 5 0 (.tmp 8)) zB)) ?_
    exact zU rfl
   ·refine zA (fun x3 h4=>?_)
    refine zA (fun x5 h6=>?_)
    refine J_g 14 [] [(2,sv x5)] [] (zD 2 (xH [(.tmp 11)] [2] (ih (w64 (a1.tdiv 10))) h4) (zD 7 (zCR 111 5 1 0 eU8 [IntKind.u8.wrap (w64 (48+(a1.tmod 10)))] [0] [(.tmp 16)] [uv (IntKind.u8.wrap (w64 (48+(a1.tmod 10))))]) (zD 8 (zLX (xs:=[IntKind.u8.wrap (w64 (48+(a1.tmod 10)))]) 111 9 5 0 (.tmp 17)) (zD 9 (zDv 9 9 (.tmp 12) (.tmp 18) h6) zB)))) ?_
    exact zU rfl
 exact key 64 a1
noncomputable def zOG:Code:=(Tryz.f106.body).getD .skip
theorem xZ.ok (a1:Int):Ok Tryz.prog 106 [iv a1] [] ((xZ a1).map fun r=>(sv r,[])):=by
 refine zH zOG Tryz.f106 0 11 (fun q=>?_)
 unfold xZ
 refine J_g 2 [] [(0,iv a1)] [] zB ?_
 refine zA (fun x2 h3=>?_)
 refine J_g 12 [] [(0,iv a1),(5,bv (!x2))] [] (zD 1 (xH [(.tmp 3),(.const (.int .i64 1)),(.const (.int .i64 999999))] [2,2,2] (yY.ok a1 1 999999) h3) zB) ?_
 refine zC 5 (fun h4=>?_) (fun h4=>?_)
 ·refine J_g 52 [] [(2,sv (bs []))] [] zB ?_
  exact zU rfl
 ·refine zA (fun x5 h6=>?_)
  refine zA (fun x7 h8=>?_)
  refine zA (fun x9 h10=>?_)
  refine J_g 14 [] [(2,sv x9)] [] (zD 2 (xH [(.tmp 7)] [2] (xO.ok (w64 (1000000+a1))) h6) (zD 3 (zMP 9 (.tmp 8) (some (.const (.int .i64 1))) none h8) (zD 4 (zDv 9 9 (.const (.string (bs [103,101,110,47]))) (.tmp 9) h10) zB))) ?_
  exact zU rfl
noncomputable def zMH:Code:=(Tryz.f125.body).getD .skip
theorem zB8.ok (a1:zI) (x2:(List ByteArray)) (q:Wd) (kn:(List Int)→Option (D×List Ent)) (hk:∀v:(List Int),J (q.g Tryz.prog 125 1 41) zMH (atI zMH 31) (St.mk' [(3,rr 1 v)] [(0,.box (zI.enc false a1)),(1,rE 1 zJ v)]) (some v) kn):
  ∀s21:((List Int)×Int),J (q.g Tryz.prog 125 1 41) zMH (atI zMH 244) (St.mk' [(3,rr 1 s21.1),(4,rr 2 x2),(5,iv s21.2)] [(0,.box (zI.enc false a1)),(1,rE 1 zJ s21.1),(2,rE 1 eStr x2)]) (zB8 a1 x2 s21) kn:=by
 refine zAz (fun g ih s21=>?_)
 unfold zBt
 refine J_d 976 [] [14] [(14,bv (decide (s21.2< (x2.length:Int))))] [] [] zB ?_
 refine zC 14 (fun h22=>?_) (fun h22=>?_)
 ·refine zA (fun x23 h24=>?_)
  refine zA (fun x25 h26=>?_)
  refine zA (fun x27 h28=>?_)
  refine J_d 3912 [] [6,7,14] [(6,iv x27.1),(7,bv x27.2)] [] [] (zD 2 (jT (kk:=.i64) 70 9 1 2 eStr (.tmp 18) (.tmp 19) h24) (zD 3 (jR (d:=sv x23) 9 1 2 0 eStr (.tmp 20) h24 (by kernel_rfl)) (zD 4 (zMP 9 (.tmp 21) (some (.const (.int .i64 4))) none h26) (zD 5 (xH [(.tmp 22),(.const (.int .i64 6))] [9,3] (wY.ok x25 6) h28) zB)))) ?_
  refine xC (atI zMH 7827) (fun v34:Bool=>St.mk' [(3,rr 1 s21.1),(4,rr 2 x2),(5,iv s21.2),(6,iv x27.1),(35,bv v34)] [(0,.box (zI.enc false a1)),(1,rE 1 zJ s21.1),(2,rE 1 eStr x2)]) (fun v34=>?_) (fun jv34=>?_)
  ·refine xC (aft zMH 1956) (fun v38:(List Int)=>St.mk' [(3,rr 4 v38),(4,rr 2 x2),(5,iv s21.2)] [(0,.box (zI.enc false a1)),(2,rE 1 eStr x2),(4,rE 1 zJ v38)]) (fun v38=>?_) (fun jv38=>?_)
   ·refine J_d 979 [] [5] [(5,iv (w64 (s21.2+1)))] [] [] zB ?_
    refine zAy 4 1 (Nat.le_of_ble_eq_true rfl) (Nat.le_of_ble_eq_true rfl) ?_
    exact J_q (J_b (ih (v38,w64 (s21.2+1)))) rfl
   ·refine zC 35 (fun h35=>?_) (fun h35=>?_)
    ·refine zA (fun x36 h37=>?_)
     refine J_d 15654 [] [3,6,35] [(3,rr 4 x36)] [1,4] [(4,rE 1 zJ x36)] (zD 2 (zCR 42 2 1 3 zJ [x27.1] [0] [(.tmp 37)] [iv x27.1]) (zD 3 (zFG 42 42 2 2 1 8 4 1 3 zJ (.tmp 36) (.tmp 38) h37) zB)) ?_
     exact yQ (J_j (jv38 x36)) rfl
    ·refine zAy 1 4 (Nat.le_of_ble_eq_true rfl) (Nat.le_of_ble_eq_true rfl) ?_
     exact yQ (J_j (jv38 s21.1)) rfl
  ·refine wR (fun h29=>?_) (fun h29=>?_)
   ·refine zA (fun x30 h31=>?_)
    refine zA (fun x32 h33=>?_)
    refine J_d 7826 [] [7,35] [(35,bv (seq x30 x32))] [] [] (xR 1 [(26,bv x27.2)] [] h29 (zCN 3 1 27 true (xH [(.tmp 28)] [2] (xZ.ok x27.1) h31) (zCN 6 1 27 true (jT (kk:=.i64) 70 9 1 2 eStr (.tmp 30) (.tmp 31) h33) (zCN 7 1 27 true (jR (d:=sv x32) 9 1 2 0 eStr (.tmp 32) h33 (by kernel_rfl)) zB)))) ?_
    exact yQ (J_j (jv34 (seq x30 x32))) rfl
   ·refine J_d 7826 [] [7,35] [(35,bv false)] [] [] (xR 1 [(26,bv x27.2)] [] h29 zB) ?_
    exact yQ (J_j (jv34 false)) rfl
 ·exact yQ (hk s21.1) rfl
theorem vN.ok (a1:zI):Ok Tryz.prog 125 [pp 0] [.box (zI.enc false a1)] ((vN a1).map fun r=>(so 1 zJ r,[.box (zI.enc false a1)])):=by
 refine zH zMH Tryz.f125 1 41 (fun q=>?_)
 unfold vN
 refine J_g 2 [] [(0,pp 0)] [(0,.box (zI.enc false a1))] zB ?_
 refine J_d 6 [] [3] [(3,rr 1 ([]:List Int))] [1] [(1,rE 1 zJ ([]:List Int))] (zD 0 (zCR 42 2 1 1 zJ ([]:List Int) [] [] []) zB) ?_
 refine zA (fun x2 h3=>?_)
 refine J_g 14 [] [(3,rr 1 ([]:List Int)),(4,rr 2 x2)] [(0,.box (zI.enc false a1)),(1,rE 1 zJ ([]:List Int)),(2,rE 1 eStr x2)] (zD 1 (zFS [(0,.box (zI.enc false a1))] [(2,rE 1 eStr x2)] (jO («as»:=[pp 0,sv (bs [103,101,110,47])]) [(.tmp 9),(.const (.string (bs [103,101,110,47])))] [103,9] false [(0,.box (zI.enc false a1))] [0] (.cons (.pt rfl) (.cons (.same rfl) (.nil))) (uE.ok a1 (bs [103,101,110,47])) h3 (.own 2))) zB) ?_
 refine J_d 60 [] [5] [(5,iv 0)] [] [] zB ?_
 refine zEE (zB8.ok a1 x2 q _ (fun v39=>J_j ?_) (([]:List Int),0))
 refine J_g 62 [] [(2,rr 1 v39)] [(0,.box (zI.enc false a1)),(1,rE 1 zJ v39)] zB ?_
 exact zBI (ds:=[rr 1 v39]) (ds':=[so 1 zJ v39]) (.cons (.cell (.move (.tail _ (.head _)) (List.length_map _) (by decide) (.nil))) (.nil) (by decide)) rfl
noncomputable def c168:Code:=(Tryz.f168.body).getD .skip
theorem zCo.ok (a1:(List Int)) (a2:Int) (q:Wd) (kn:Unit→Option (D×List Ent)) (hk:∀v:Unit,J (q.g Tryz.prog 168 0 18) c168 (atI c168 7) (St.mk' [] []) (some v) kn):
  ∀s7:Int,J (q.g Tryz.prog 168 0 18) c168 (atI c168 52) (St.mk' [(0,sl 1 zJ a1),(1,iv a2),(5,iv s7)] []) (zCo a1 a2 s7) (Fl.go (fun r:Bool=>some (bv r,[])) kn):=by
 refine zAz (fun g ih s7=>?_)
 unfold zBH
 refine J_d 208 [] [9] [(9,bv (decide (s7< (a1.length:Int))))] [] [] zB ?_
 refine zC 9 (fun h8=>?_) (fun h8=>?_)
 ·refine zA (fun x9 h10=>?_)
  refine J_d 840 [] [9,17] [(17,bv (x9==a2))] [] [] (zD 2 (zAc (kk:=.i64) 42 2 1 zJ (.tmp 12) (.tmp 13) h10) zB) ?_
  refine zC 17 (fun h11=>?_) (fun h11=>?_)
  ·refine J_g 3364 [] [(4,bv true)] [] zB ?_
   exact zU rfl
  ·refine J_d 211 [] [5,17] [(5,iv (w64 (s7+1)))] [] [] zB ?_
   exact J_q (J_b (ih (w64 (s7+1)))) rfl
 ·exact yQ (hk ()) rfl
theorem xU.ok (a1:(List Int)) (a2:Int):Ok Tryz.prog 168 [sl 1 zJ a1,iv a2] [] ((xU a1 a2).map fun r=>(bv r,[])):=by
 refine zH c168 Tryz.f168 0 18 (fun q=>?_)
 unfold xU
 refine J_g 2 [] [(0,sl 1 zJ a1),(1,iv a2)] [] zB ?_
 refine J_d 12 [] [5] [(5,iv 0)] [] [] zB ?_
 refine uQ (K0:=(fun r:Bool=>some (bv r,[]))) (fun _=>rfl) (zCo.ok a1 a2 q _ (fun v12=>J_j ?_) 0)
 refine J_g 14 [] [(4,bv false)] [] zB ?_
 exact zU rfl
noncomputable def zLP:Code:=(Tryz.f169.body).getD .skip
theorem zCs.ok (a1:(List Int)) (a2:Int) (q:Wd) (kn:((List Int)×Bool)→Option (D×List Ent)) (hk:∀v:((List Int)×Bool),J (q.g Tryz.prog 169 0 43) zLP (atI zLP 31) (St.mk' [(1,iv a2),(5,rr 0 v.1),(6,bv v.2)] [(0,rE 1 zJ v.1)]) (some v) kn):
  ∀s16:((List Int)×Bool×Int),J (q.g Tryz.prog 169 0 43) zLP (atI zLP 244) (St.mk' [(0,sl 1 zJ a1),(1,iv a2),(5,rr 0 s16.1),(6,bv s16.2.1),(7,iv s16.2.2)] [(0,rE 1 zJ s16.1)]) (zCs a1 a2 s16) kn:=by
 refine zAz (fun g ih s16=>?_)
 unfold zBC
 refine J_d 976 [] [12] [(12,bv (decide (s16.2.2< (a1.length:Int))))] [] [] zB ?_
 refine zC 12 (fun h17=>?_) (fun h17=>?_)
 ·refine zA (fun x18 h19=>?_)
  refine xC (atI zLP 7825) (fun v21:Bool=>St.mk' [(0,sl 1 zJ a1),(1,iv a2),(5,rr 0 s16.1),(6,bv s16.2.1),(7,iv s16.2.2),(24,bv v21)] [(0,rE 1 zJ s16.1)]) (fun v21=>?_) (fun jv21=>?_)
  ·refine xC (atI zLP 3913) (fun v25:((List Int)×Bool)=>St.mk' [(0,sl 1 zJ a1),(1,iv a2),(5,rr 2 v25.1),(6,bv v25.2),(7,iv s16.2.2)] [(2,rE 1 zJ v25.1)]) (fun v25=>?_) (fun jv25=>?_)
   ·refine zA (fun x26 h27=>?_)
    refine zA (fun x28 h29=>?_)
    refine J_g 3913 [] [(0,sl 1 zJ a1),(1,iv a2),(5,rr 4 x28),(6,bv v25.2),(7,iv s16.2.2)] [(4,rE 1 zJ x28)] (zD 3 (zAc (kk:=.i64) 42 2 1 zJ (.tmp 30) (.tmp 31) h27) (zD 5 (zCR 42 2 1 3 zJ [x26] [0] [(.tmp 33)] [iv x26]) (zD 6 (zFG 42 42 2 2 1 8 4 2 3 zJ (.tmp 29) (.tmp 34) h29) zB))) ?_
    refine J_d 979 [] [7] [(7,iv (w64 (s16.2.2+1)))] [] [] zB ?_
    refine zAy 4 0 (Nat.le_of_ble_eq_true rfl) (Nat.le_of_ble_eq_true rfl) ?_
    exact J_q (J_b (ih (x28,v25.2,w64 (s16.2.2+1)))) rfl
   ·refine zC 24 (fun h22=>?_) (fun h22=>?_)
    ·refine zA (fun x23 h24=>?_)
     refine J_g 31300 [] [(0,sl 1 zJ a1),(1,iv a2),(5,rr 2 x23),(7,iv s16.2.2)] [(2,rE 1 zJ x23)] (zD 2 (zCR 42 2 1 1 zJ [a2] [0] [(.tmp 26)] [iv a2]) (zD 3 (zFG 42 42 2 2 1 8 2 0 1 zJ (.tmp 25) (.tmp 27) h24) zB)) ?_
     refine J_d 31301 [] [6] [(6,bv true)] [] [] zB ?_
     exact yQ (J_j (jv25 (x23,true))) rfl
    ·refine zAy 0 2 (Nat.le_of_ble_eq_true rfl) (Nat.le_of_ble_eq_true rfl) ?_
     exact yQ (J_j (jv25 (s16.1,s16.2.1))) rfl
  ·refine wR (fun h20=>?_) (fun h20=>?_)
   ·refine J_d 7824 [] [12,24] [(24,bv (!s16.2.1))] [] [] (zD 2 (zAc (kk:=.i64) 42 2 1 zJ (.tmp 15) (.tmp 16) h19) (xR 6 [(20,bv (decide (x18>a2)))] [] h20 zB)) ?_
    exact yQ (J_j (jv21 (!s16.2.1))) rfl
   ·refine J_d 7824 [] [12,24] [(24,bv false)] [] [] (zD 2 (zAc (kk:=.i64) 42 2 1 zJ (.tmp 15) (.tmp 16) h19) (xR 6 [(20,bv (decide (x18>a2)))] [] h20 zB)) ?_
    exact yQ (J_j (jv21 false)) rfl
 ·exact yQ (hk (s16.1,s16.2.1)) rfl
theorem tV.ok (a1:(List Int)) (a2:Int):Ok Tryz.prog 169 [sl 1 zJ a1,iv a2] [] ((tV a1 a2).map fun r=>(so 1 zJ r,[])):=by
 refine zH zLP Tryz.f169 0 43 (fun q=>?_)
 unfold tV
 refine J_g 2 [] [(0,sl 1 zJ a1),(1,iv a2)] [] zB ?_
 refine J_g 6 [] [(0,sl 1 zJ a1),(1,iv a2),(5,rr 0 ([]:List Int))] [(0,rE 1 zJ ([]:List Int))] (zD 0 (zCR 42 2 1 0 zJ ([]:List Int) [] [] []) zB) ?_
 refine J_g 14 [] [(0,sl 1 zJ a1),(1,iv a2),(5,rr 0 ([]:List Int)),(6,bv false)] [(0,rE 1 zJ ([]:List Int))] zB ?_
 refine J_d 60 [] [7] [(7,iv 0)] [] [] zB ?_
 refine zEE (zCs.ok a1 a2 q _ (fun v30=>J_j ?_) (([]:List Int),false,0))
 refine J_d 124 [] [6,37] [(37,bv (!v30.2))] [] [] zB ?_
 refine xC (atI zLP 63) (fun v34:(List Int)=>St.mk' [(5,rr 2 v34)] [(2,rE 1 zJ v34)]) (fun v34=>?_) (fun jv34=>?_)
 ·refine J_g 126 [] [(4,rr 2 v34)] [(2,rE 1 zJ v34)] zB ?_
  exact zBI (ds:=[rr 2 v34]) (ds':=[so 1 zJ v34]) (.cons (.cell (.move (.head _) (List.length_map _) (by decide) (.nil))) (.nil) (by decide)) rfl
 ·refine zC 37 (fun h31=>?_) (fun h31=>?_)
  ·refine zA (fun x32 h33=>?_)
   refine J_g 250 [] [(5,rr 2 x32)] [(2,rE 1 zJ x32)] (zD 2 (zCR 42 2 1 1 zJ [a2] [0] [(.tmp 39)] [iv a2]) (zD 3 (zFG 42 42 2 2 1 8 2 0 1 zJ (.tmp 38) (.tmp 40) h33) zB)) ?_
   exact yQ (J_j (jv34 x32)) rfl
  ·refine zAy 0 2 (Nat.le_of_ble_eq_true rfl) (Nat.le_of_ble_eq_true rfl) ?_
   exact yQ (J_j (jv34 v30.1)) rfl
noncomputable def c93:Code:=(Tryz.f93.body).getD .skip
theorem zBF.ok (a1:zI) (a2:ByteArray) (q:Wd) (kn:Unit→Option (D×List Ent)) (hk:∀v:Unit,J (q.g Tryz.prog 93 1 26) c93 (atI c93 7) (St.mk' [] [(0,.box (zI.enc false a1))]) (some v) kn):
  ∀s7:Int,J (q.g Tryz.prog 93 1 26) c93 (atI c93 52) (St.mk' [(0,pp 0),(1,sv a2),(5,iv s7)] [(0,.box (zI.enc false a1))]) (zBF a1 a2 s7) (Fl.go (fun r:Int=>some (iv r,[.box (zI.enc false a1)])) kn):=by
 refine zAz (fun g ih s7=>?_)
 unfold zAX
 refine J_d 208 [] [12] [(12,bv (decide (s7< (a1.Files.length:Int))))] [] [] zB ?_
 refine zC 12 (fun h8=>?_) (fun h8=>?_)
 ·refine zA (fun x9 h10=>?_)
  refine J_d 840 [] [12,24] [(24,bv (seq x9.Path a2))] [] [] (zD 5 (zAc (kk:=.i64) 25 113 2 (File.enc false) (.tmp 18) (.tmp 19) h10) zB) ?_
  refine zC 24 (fun h11=>?_) (fun h11=>?_)
  ·refine J_g 3364 [] [(4,iv s7)] [(0,.box (zI.enc false a1))] zB ?_
   exact zU rfl
  ·refine J_d 211 [] [5,24] [(5,iv (w64 (s7+1)))] [] [] zB ?_
   exact J_q (J_b (ih (w64 (s7+1)))) rfl
 ·exact yQ (hk ()) rfl
theorem xA.ok (a1:zI) (a2:ByteArray):Ok Tryz.prog 93 [pp 0,sv a2] [.box (zI.enc false a1)] ((xA a1 a2).map fun r=>(iv r,[.box (zI.enc false a1)])):=by
 refine zH c93 Tryz.f93 1 26 (fun q=>?_)
 unfold xA
 refine J_g 2 [] [(0,pp 0),(1,sv a2)] [(0,.box (zI.enc false a1))] zB ?_
 refine J_d 12 [] [5] [(5,iv 0)] [] [] zB ?_
 refine uQ (K0:=(fun r:Int=>some (iv r,[.box (zI.enc false a1)]))) (fun _=>rfl) (zBF.ok a1 a2 q _ (fun v12=>J_j ?_) 0)
 refine J_d 14 [] [4] [(4,iv (-1))] [] [] zB ?_
 exact zU rfl
noncomputable def zOn:Code:=(Tryz.f170.body).getD .skip
theorem kX.ok (a1:zI):Ok Tryz.prog 170 [pp 0] [.box (zI.enc false a1)] ((kX a1).map fun r=>(iv r,[.box (zI.enc false a1)])):=by
 refine zH zOn Tryz.f170 1 33 (fun q=>?_)
 unfold kX
 refine J_d 2 [] [] [] [] [] zB ?_
 refine zA (fun x2 h3=>?_)
 refine J_g 6 [] [(0,pp 0),(3,iv x2)] [(0,.box (zI.enc false a1))] (zD 1 (zFS [(0,.box (zI.enc false a1))] [] (jO («as»:=[pp 0,sv (bs [99,117,114])]) [(.tmp 6),(.const (.string (bs [99,117,114])))] [103,9] false [(0,.box (zI.enc false a1))] [0] (.cons (.pt rfl) (.cons (.same rfl) (.nil))) (xA.ok a1 (bs [99,117,114])) h3 (.same rfl rfl))) zB) ?_
 refine J_d 28 [] [9] [(9,bv (decide (x2<0)))] [] [] zB ?_
 refine zC 9 (fun h4=>?_) (fun h4=>?_)
 ·refine J_d 116 [] [0,2,3,9] [(2,iv 0)] [] [] zB ?_
  exact zU rfl
 ·refine zA (fun x5 h6=>?_)
  refine zA (fun x7 h8=>?_)
  refine J_d 30 [] [3,4,5,9] [(4,iv x7.1),(5,bv x7.2)] [] [] (zD 5 (zAc (kk:=.i64) 25 113 2 (File.enc false) (.tmp 14) (.tmp 15) h6) (zD 8 (zLw (xs:=x5.Data) 111 9 5 (.tmp 18)) (zD 9 (xH [(.tmp 19),(.const (.int .i64 6))] [9,3] (wY.ok (b2s x5.Data) 6) h8) zB))) ?_
  refine xC (atI zOn 125) (fun v14:Bool=>St.mk' [(4,iv x7.1),(31,bv v14)] [(0,.box (zI.enc false a1))]) (fun v14=>?_) (fun jv14=>?_)
  ·refine zC 31 (fun h15=>?_) (fun h15=>?_)
   ·refine J_d 500 [] [2,4,31] [(2,iv 0)] [] [] zB ?_
    exact zU rfl
   ·refine J_d 126 [] [2,4,31] [(2,iv x7.1)] [] [] zB ?_
    exact zU rfl
  ·refine wR (fun h9=>?_) (fun h9=>?_)
   ·refine J_d 124 [] [0,5,31] [(31,bv true)] [] [] (xR 2 [(24,bv (!x7.2))] [] h9 zB) ?_
    exact yQ (J_j (jv14 true)) rfl
   ·refine zA (fun x10 h11=>?_)
    refine zA (fun x12 h13=>?_)
    refine J_d 124 [] [0,5,31] [(31,bv (!x12))] [] [] (xR 2 [(24,bv (!x7.2))] [] h9 (zCN 4 2 25 false (zFS [(0,.box (zI.enc false a1))] [(1,rE 1 zJ x10)] (jO («as»:=[pp 0]) [(.tmp 26)] [103] false [(0,.box (zI.enc false a1))] [0] (.cons (.pt rfl) (.nil)) (vN.ok a1) h11 (.own 1))) (zCN 6 2 25 false (jO («as»:=[rr 1 x10,iv x7.1]) [(.tmp 27),(.tmp 28)] [42,2] true [(1,rE 1 zJ x10)] [] (.cons (zDP (.head _) (fun _=>rfl) rfl) (.cons (.same rfl) (.nil))) (xU.ok x10 x7.1) h13 (.same rfl rfl) (hbor:=fun _=>⟨fhN,yI⟩)) zB))) ?_
    exact yQ (J_j (jv14 (!x12))) rfl
noncomputable def c91:Code:=(Tryz.f91.body).getD .skip
theorem zAi.ok (a1:zI) (a2:(List Int)) (x4:(List Int)) (q:Wd) (kn:(List Int)→Option (D×List Ent)) (hk:∀v:(List Int),J (q.g Tryz.prog 91 1 54) c91 (atI c91 63) (St.mk' [(0,pp 0),(7,rr 2 v)] [(0,.box (zI.enc false a1)),(2,rE 1 zJ v)]) (some v) kn):
  ∀s22:((List Int)×Int),J (q.g Tryz.prog 91 1 54) c91 (atI c91 500) (St.mk' [(0,pp 0),(1,sl 1 zJ a2),(6,rr 1 x4),(7,rr 2 s22.1),(8,iv s22.2)] [(0,.box (zI.enc false a1)),(1,rE 1 zJ x4),(2,rE 1 zJ s22.1)]) (zAi a1 a2 x4 s22) (Fl.go (fun r:((List Int)×Int)=>some (.tu [so 1 zJ r.1,iv r.2],[.box (zI.enc false a1)])) kn):=by
 refine zAz (fun g ih s22=>?_)
 unfold zAC
 refine J_d 2000 [] [19] [(19,bv (decide (s22.2< (a2.length:Int))))] [] [] zB ?_
 refine zC 19 (fun h23=>?_) (fun h23=>?_)
 ·refine zA (fun x24 h25=>?_)
  refine zA (fun x26 h27=>?_)
  refine J_d 16016 [] [19,28] [(28,bv (!x26))] [] [] (zD 3 (zAc (kk:=.i64) 42 2 1 zJ (.tmp 23) (.tmp 24) h25) (zD 5 (jO («as»:=[rr 1 x4,iv x24]) [(.tmp 22),(.tmp 26)] [42,2] true [(1,rE 1 zJ x4)] [] (.cons (zDP (.head _) (fun _=>rfl) rfl) (.cons (.same rfl) (.nil))) (xU.ok x4 x24) h27 (.same rfl rfl) (hbor:=fun _=>⟨fhN,yI⟩)) zB)) ?_
  refine zC 28 (fun h28=>?_) (fun h28=>?_)
  ·refine J_g 64068 [] [(4,nv),(5,iv 4)] [(0,.box (zI.enc false a1))] zB ?_
   exact zBI (ds:=[nv,iv 4]) (ds':=[so 1 zJ ([]:List Int),iv 4]) (.cons (.cell (.nilsl true 1 (.nil))) (.cons (.cell (.keep rfl (.nil))) (.nil) (by decide)) (by decide)) rfl
  ·refine zA (fun x29 h30=>?_)
   refine zA (fun x31 h32=>?_)
   refine J_d 16018 [] [28,35] [(35,bv (!x31))] [] [] (zD 3 (zAc (kk:=.i64) 42 2 1 zJ (.tmp 30) (.tmp 31) h30) (zD 5 (jO («as»:=[rr 2 s22.1,iv x29]) [(.tmp 29),(.tmp 33)] [42,2] true [(2,rE 1 zJ s22.1)] [] (.cons (zDP (.head _) (fun _=>rfl) rfl) (.cons (.same rfl) (.nil))) (xU.ok s22.1 x29) h32 (.same rfl rfl) (hbor:=fun _=>⟨fhN,yI⟩)) zB)) ?_
   refine xC (aft c91 4004) (fun v38:(List Int)=>St.mk' [(0,pp 0),(1,sl 1 zJ a2),(6,rr 1 x4),(7,rr 3 v38),(8,iv s22.2)] [(0,.box (zI.enc false a1)),(1,rE 1 zJ x4),(3,rE 1 zJ v38)]) (fun v38=>?_) (fun jv38=>?_)
   ·refine J_d 2003 [] [8] [(8,iv (w64 (s22.2+1)))] [] [] zB ?_
    refine zAy 3 2 (Nat.le_of_ble_eq_true rfl) (Nat.le_of_ble_eq_true rfl) ?_
    exact J_q (J_b (ih (v38,w64 (s22.2+1)))) rfl
   ·refine zC 35 (fun h33=>?_) (fun h33=>?_)
    ·refine zA (fun x34 h35=>?_)
     refine zA (fun x36 h37=>?_)
     refine J_d 32038 [] [7,35] [(7,rr 3 x36)] [2,3] [(3,rE 1 zJ x36)] (zD 3 (zAc (kk:=.i64) 42 2 1 zJ (.tmp 37) (.tmp 38) h35) (zD 5 (jO («as»:=[rr 2 s22.1,iv x34]) [(.tmp 36),(.tmp 40)] [42,2] true [(2,rE 1 zJ s22.1)] [] (.cons (zDP (.head _) (fun _=>rfl) rfl) (.cons (.same rfl) (.nil))) (tV.ok s22.1 x34) h37 (.own 3) (hbor:=fun _=>⟨fhN,(zDt (zED (fun _=>(flatK yI zDx)) _))⟩)) zB)) ?_
     exact yQ (J_j (jv38 x36)) rfl
    ·refine zAy 2 3 (Nat.le_of_ble_eq_true rfl) (Nat.le_of_ble_eq_true rfl) ?_
     exact yQ (J_j (jv38 s22.1)) rfl
 ·exact yQ (hk s22.1) rfl
theorem vI.ok (a1:zI) (a2:(List Int)):Ok Tryz.prog 91 [pp 0,sl 1 zJ a2] [.box (zI.enc false a1)] ((vI a1 a2).map fun r=>(.tu [so 1 zJ r.1,iv r.2],[.box (zI.enc false a1)])):=by
 refine zH c91 Tryz.f91 1 54 (fun q=>?_)
 unfold vI
 refine J_g 2 [] [(0,pp 0),(1,sl 1 zJ a2)] [(0,.box (zI.enc false a1))] zB ?_
 refine J_d 12 [] [12] [(12,bv (decide ((a2.length:Int)>40)))] [] [] zB ?_
 refine zC 12 (fun h3=>?_) (fun h3=>?_)
 ·refine J_g 52 [] [(4,nv),(5,iv 2)] [(0,.box (zI.enc false a1))] zB ?_
  exact zBI (ds:=[nv,iv 2]) (ds':=[so 1 zJ ([]:List Int),iv 2]) (.cons (.cell (.nilsl true 1 (.nil))) (.cons (.cell (.keep rfl (.nil))) (.nil) (by decide)) (by decide)) rfl
 ·refine zA (fun x4 h5=>?_)
  refine J_g 14 [] [(0,pp 0),(1,sl 1 zJ a2),(6,rr 1 x4)] [(0,.box (zI.enc false a1)),(1,rE 1 zJ x4)] (zD 1 (zFS [(0,.box (zI.enc false a1))] [(1,rE 1 zJ x4)] (jO («as»:=[pp 0]) [(.tmp 13)] [103] false [(0,.box (zI.enc false a1))] [0] (.cons (.pt rfl) (.nil)) (vN.ok a1) h5 (.own 1))) zB) ?_
  refine J_g 30 [] [(0,pp 0),(1,sl 1 zJ a2),(6,rr 1 x4),(7,rr 2 ([]:List Int))] [(0,.box (zI.enc false a1)),(1,rE 1 zJ x4),(2,rE 1 zJ ([]:List Int))] (zD 0 (zCR 42 2 1 2 zJ ([]:List Int) [] [] []) zB) ?_
  refine J_d 124 [] [8] [(8,iv 0)] [] [] zB ?_
  refine uQ (K0:=(fun r:((List Int)×Int)=>some (.tu [so 1 zJ r.1,iv r.2],[.box (zI.enc false a1)]))) (fun _=>rfl) (zAi.ok a1 a2 x4 q _ (fun v39=>J_j ?_) (([]:List Int),0))
  refine zA (fun x40 h41=>?_)
  refine J_g 126 [] [(7,rr 2 v39),(9,iv x40)] [(0,.box (zI.enc false a1)),(2,rE 1 zJ v39)] (zD 1 (zFS [(0,.box (zI.enc false a1))] [] (jO («as»:=[pp 0]) [(.tmp 42)] [103] false [(0,.box (zI.enc false a1))] [0] (.cons (.pt rfl) (.nil)) (kX.ok a1) h41 (.same rfl rfl))) zB) ?_
  refine J_d 508 [] [45] [(45,bv (x40==0))] [] [] zB ?_
  refine zC 45 (fun h42=>?_) (fun h42=>?_)
  ·refine J_g 2036 [] [(4,nv),(5,iv 4)] [(0,.box (zI.enc false a1))] zB ?_
   exact zBI (ds:=[nv,iv 4]) (ds':=[so 1 zJ ([]:List Int),iv 4]) (.cons (.cell (.nilsl true 1 (.nil))) (.cons (.cell (.keep rfl (.nil))) (.nil) (by decide)) (by decide)) rfl
  ·refine zA (fun x43 h44=>?_)
   refine J_d 1020 [] [45,49] [(49,bv (!x43))] [] [] (zD 2 (jO («as»:=[rr 2 v39,iv x40]) [(.tmp 46),(.tmp 47)] [42,2] true [(2,rE 1 zJ v39)] [] (.cons (zDP (.head _) (fun _=>rfl) rfl) (.cons (.same rfl) (.nil))) (xU.ok v39 x40) h44 (.same rfl rfl) (hbor:=fun _=>⟨fhN,yI⟩)) zB) ?_
   refine xC (atI c91 511) (fun v48:(List Int)=>St.mk' [(7,rr 3 v48)] [(0,.box (zI.enc false a1)),(3,rE 1 zJ v48)]) (fun v48=>?_) (fun jv48=>?_)
   ·refine J_g 1022 [] [(4,rr 3 v48),(5,iv 0)] [(0,.box (zI.enc false a1)),(3,rE 1 zJ v48)] zB ?_
    exact zBI (ds:=[rr 3 v48,iv 0]) (ds':=[so 1 zJ v48,iv 0]) (.cons (.cell (.move (.tail _ (.head _)) (List.length_map _) (by decide) (.nil))) (.cons (.cell (.keep rfl (.nil))) (.nil) (by decide)) (by decide)) rfl
   ·refine zC 49 (fun h45=>?_) (fun h45=>?_)
    ·refine zA (fun x46 h47=>?_)
     refine J_d 2042 [] [7,9,49] [(7,rr 3 x46)] [2,3] [(3,rE 1 zJ x46)] (zD 2 (jO («as»:=[rr 2 v39,iv x40]) [(.tmp 50),(.tmp 51)] [42,2] true [(2,rE 1 zJ v39)] [] (.cons (zDP (.head _) (fun _=>rfl) rfl) (.cons (.same rfl) (.nil))) (tV.ok v39 x40) h47 (.own 3) (hbor:=fun _=>⟨fhN,(zDt (zED (fun _=>(flatK yI zDx)) _))⟩)) zB) ?_
     exact yQ (J_j (jv48 x46)) rfl
    ·refine zAy 2 3 (Nat.le_of_ble_eq_true rfl) (Nat.le_of_ble_eq_true rfl) ?_
     exact yQ (J_j (jv48 v39)) rfl
noncomputable def zML:Code:=(Tryz.f217.body).getD .skip
theorem zAR.ok (a1:ByteArray) (a2:Int) (q:Wd) (kn:(List ByteArray)→Option (D×List Ent)) (hk:∀v:(List ByteArray),J (q.g Tryz.prog 217 0 36) zML (atI zML 31) (St.mk' [(5,rr 0 v)] [(0,rE 1 eStr v)]) (some v) kn):
  ∀s14:((List ByteArray)×Int×Int),J (q.g Tryz.prog 217 0 36) zML (atI zML 244) (St.mk' [(0,sv a1),(1,uv a2),(5,rr 0 s14.1),(6,iv s14.2.1),(7,iv s14.2.2)] [(0,rE 1 eStr s14.1)]) (zAR a1 a2 s14) kn:=by
 refine zAz (fun g ih s14=>?_)
 unfold zA0
 refine J_d 976 [] [12] [(12,bv (decide (s14.2.2≤(a1.size:Int))))] [] [] zB ?_
 refine zC 12 (fun h15=>?_) (fun h15=>?_)
 ·refine xC (atI zML 3913) (fun v19:Bool=>St.mk' [(0,sv a1),(1,uv a2),(5,rr 0 s14.1),(6,iv s14.2.1),(7,iv s14.2.2),(25,bv v19)] [(0,rE 1 eStr s14.1)]) (fun v19=>?_) (fun jv19=>?_)
  ·refine xC (aft zML 1956) (fun v25:((List ByteArray)×Int)=>St.mk' [(0,sv a1),(1,uv a2),(5,rr 2 v25.1),(6,iv v25.2),(7,iv s14.2.2)] [(2,rE 1 eStr v25.1)]) (fun v25=>?_) (fun jv25=>?_)
   ·refine J_d 979 [] [7] [(7,iv (w64 (s14.2.2+1)))] [] [] zB ?_
    refine zAy 2 0 (Nat.le_of_ble_eq_true rfl) (Nat.le_of_ble_eq_true rfl) ?_
    exact J_q (J_b (ih (v25.1,v25.2,w64 (s14.2.2+1)))) rfl
   ·refine zC 25 (fun h20=>?_) (fun h20=>?_)
    ·refine zA (fun x21 h22=>?_)
     refine zA (fun x23 h24=>?_)
     refine J_g 15652 [] [(0,sv a1),(1,uv a2),(5,rr 2 x23),(7,iv s14.2.2)] [(2,rE 1 eStr x23)] (zD 4 (zMP 9 (.tmp 27) (some (.tmp 28)) (some (.tmp 29)) h22) (zD 5 (zCR 70 9 1 1 eStr [x21] [0] [(.tmp 30)] [sv x21]) (zD 6 (zFG 70 70 9 9 1 16 2 0 1 eStr (.tmp 26) (.tmp 31) h24) zB))) ?_
     refine J_d 15653 [] [6] [(6,iv (w64 (s14.2.2+1)))] [] [] zB ?_
     exact yQ (J_j (jv25 (x23,w64 (s14.2.2+1)))) rfl
    ·refine zAy 0 2 (Nat.le_of_ble_eq_true rfl) (Nat.le_of_ble_eq_true rfl) ?_
     exact yQ (J_j (jv25 (s14.1,s14.2.1))) rfl
  ·refine wR (fun h16=>?_) (fun h16=>?_)
   ·refine J_d 3912 [] [12,25] [(25,bv true)] [] [] (xR 4 [(18,bv (s14.2.2==(a1.size:Int)))] [] h16 zB) ?_
    exact yQ (J_j (jv19 true)) rfl
   ·refine zA (fun x17 h18=>?_)
    refine J_d 3912 [] [12,25] [(25,bv (x17==a2))] [] [] (xR 4 [(18,bv (s14.2.2==(a1.size:Int)))] [] h16 (zCN 7 4 19 false (zIy (kk:=.i64) 9 (.tmp 20) (.tmp 21) h18) zB)) ?_
    exact yQ (J_j (jv19 (x17==a2))) rfl
 ·exact yQ (hk s14.1) rfl
theorem uH.ok (a1:ByteArray) (a2:Int):Ok Tryz.prog 217 [sv a1,uv a2] [] ((uH a1 a2).map fun r=>(so 1 eStr r,[])):=by
 refine zH zML Tryz.f217 0 36 (fun q=>?_)
 unfold uH
 refine J_g 2 [] [(0,sv a1),(1,uv a2)] [] zB ?_
 refine J_g 6 [] [(0,sv a1),(1,uv a2),(5,rr 0 ([]:List ByteArray))] [(0,rE 1 eStr ([]:List ByteArray))] (zD 0 (zCR 70 9 1 0 eStr ([]:List ByteArray) [] [] []) zB) ?_
 refine J_g 14 [] [(0,sv a1),(1,uv a2),(5,rr 0 ([]:List ByteArray)),(6,iv 0)] [(0,rE 1 eStr ([]:List ByteArray))] zB ?_
 refine J_d 60 [] [7] [(7,iv 0)] [] [] zB ?_
 refine zEE (zAR.ok a1 a2 q _ (fun v26=>J_j ?_) (([]:List ByteArray),0,0))
 refine J_g 62 [] [(4,rr 0 v26)] [(0,rE 1 eStr v26)] zB ?_
 exact zBI (ds:=[rr 0 v26]) (ds':=[so 1 eStr v26]) (.cons (.cell (.move (.head _) (List.length_map _) (by decide) (.nil))) (.nil) (by decide)) rfl
noncomputable def c141:Code:=(Tryz.f141.body).getD .skip
theorem zB2.ok (a1:ByteArray):Ok Tryz.prog 141 [sv a1] [] ((zB2 a1).map fun r=>(so 1 eStr r,[])):=by
 refine zH c141 Tryz.f141 0 19 (fun q=>?_)
 unfold zB2
 refine J_g 2 [] [(0,sv a1)] [] zB ?_
 refine zA (fun x2 h3=>?_)
 refine J_g 6 [] [(3,rr 0 x2)] [(0,rE 1 eStr x2)] (zD 1 (jO («as»:=[sv a1,uv 10]) [(.tmp 4),(.const (.int .u8 10))] [9,5] false [] [] (.cons (.same rfl) (.cons (.same rfl) (.nil))) (uH.ok a1 10) h3 (.own 0)) zB) ?_
 refine zA (fun x4 h5=>?_)
 refine J_d 28 [] [12] [(12,bv (seq x4 (bs [])))] [] [] (zD 4 (jT (kk:=.i64) 70 9 1 0 eStr (.tmp 6) (.tmp 9) h5) (zD 5 (jR (d:=sv x4) 9 1 0 0 eStr (.tmp 10) h5 (by kernel_rfl)) zB)) ?_
 refine xC (atI c141 15) (fun v9:(List ByteArray)=>St.mk' [(3,rr 1 v9)] [(1,rE 1 eStr v9)]) (fun v9=>?_) (fun jv9=>?_)
 ·refine J_g 30 [] [(2,rr 1 v9)] [(1,rE 1 eStr v9)] zB ?_
  exact zBI (ds:=[rr 1 v9]) (ds':=[so 1 eStr v9]) (.cons (.cell (.move (.head _) (List.length_map _) (by decide) (.nil))) (.nil) (by decide)) rfl
 ·refine zC 12 (fun h6=>?_) (fun h6=>?_)
  ·refine zA (fun x7 h8=>?_)
   refine J_g 58 [] [(3,rr 1 x7)] [(1,rE 1 eStr x7)] (zD 4 (zKy 70 9 1 0 1 eStr (.tmp 13) none (some (.tmp 16)) h8) zB) ?_
   exact yQ (J_j (jv9 x7)) rfl
  ·refine zAy 0 1 (Nat.le_of_ble_eq_true rfl) (Nat.le_of_ble_eq_true rfl) ?_
   exact yQ (J_j (jv9 x2)) rfl
noncomputable def zMU:Code:=(Tryz.f220.body).getD .skip
theorem zBz.ok (x2:(List ByteArray)) (q:Wd) (kn:(List ByteArray)→Option (D×List Ent)) (hk:∀v:(List ByteArray),J (q.g Tryz.prog 220 0 28) zMU (atI zMU 31) (St.mk' [(3,rr 0 v)] [(0,rE 1 eStr v)]) (some v) kn):
  ∀s13:((List ByteArray)×Int),J (q.g Tryz.prog 220 0 28) zMU (atI zMU 244) (St.mk' [(3,rr 0 s13.1),(4,rr 1 x2),(5,iv s13.2)] [(0,rE 1 eStr s13.1),(1,rE 1 eStr x2)]) (zBz x2 s13) kn:=by
 refine zAz (fun g ih s13=>?_)
 unfold zA4
 refine J_d 976 [] [12] [(12,bv (decide (s13.2< (x2.length:Int))))] [] [] zB ?_
 refine zC 12 (fun h14=>?_) (fun h14=>?_)
 ·refine zA (fun x15 h16=>?_)
  refine J_d 3912 [] [12,19] [(19,bv (!(seq x15 (bs []))))] [] [] (zD 2 (jT (kk:=.i64) 70 9 1 1 eStr (.tmp 15) (.tmp 16) h16) (zD 3 (jR (d:=sv x15) 9 1 1 0 eStr (.tmp 17) h16 (by kernel_rfl)) zB)) ?_
  refine xC (aft zMU 1956) (fun v22:(List ByteArray)=>St.mk' [(3,rr 3 v22),(4,rr 1 x2),(5,iv s13.2)] [(1,rE 1 eStr x2),(3,rE 1 eStr v22)]) (fun v22=>?_) (fun jv22=>?_)
  ·refine J_d 979 [] [5] [(5,iv (w64 (s13.2+1)))] [] [] zB ?_
   refine zAy 3 0 (Nat.le_of_ble_eq_true rfl) (Nat.le_of_ble_eq_true rfl) ?_
   exact J_q (J_b (ih (v22,w64 (s13.2+1)))) rfl
  ·refine zC 19 (fun h17=>?_) (fun h17=>?_)
   ·refine zA (fun x18 h19=>?_)
    refine zA (fun x20 h21=>?_)
    refine J_d 7826 [] [3,19] [(3,rr 3 x20)] [0,3] [(3,rE 1 eStr x20)] (zD 3 (jT (kk:=.i64) 70 9 1 1 eStr (.tmp 21) (.tmp 22) h19) (zD 4 (jR (d:=sv x18) 9 1 1 0 eStr (.tmp 23) h19 (by kernel_rfl)) (zD 5 (zCR 70 9 1 2 eStr [x18] [0] [(.tmp 24)] [sv x18]) (zD 6 (zFG 70 70 9 9 1 16 3 0 2 eStr (.tmp 20) (.tmp 25) h21) zB)))) ?_
    exact yQ (J_j (jv22 x20)) rfl
   ·refine zAy 0 3 (Nat.le_of_ble_eq_true rfl) (Nat.le_of_ble_eq_true rfl) ?_
    exact yQ (J_j (jv22 s13.1)) rfl
 ·exact yQ (hk s13.1) rfl
theorem zBr.ok (a1:ByteArray):Ok Tryz.prog 220 [sv a1] [] ((zBr a1).map fun r=>(so 1 eStr r,[])):=by
 refine zH zMU Tryz.f220 0 28 (fun q=>?_)
 unfold zBr
 refine J_g 2 [] [(0,sv a1)] [] zB ?_
 refine J_g 6 [] [(0,sv a1),(3,rr 0 ([]:List ByteArray))] [(0,rE 1 eStr ([]:List ByteArray))] (zD 0 (zCR 70 9 1 0 eStr ([]:List ByteArray) [] [] []) zB) ?_
 refine zA (fun x2 h3=>?_)
 refine J_g 14 [] [(3,rr 0 ([]:List ByteArray)),(4,rr 1 x2)] [(0,rE 1 eStr ([]:List ByteArray)),(1,rE 1 eStr x2)] (zD 1 (jO («as»:=[sv a1,uv 32]) [(.tmp 7),(.const (.int .u8 32))] [9,5] false [] [] (.cons (.same rfl) (.cons (.same rfl) (.nil))) (uH.ok a1 32) h3 (.own 1)) zB) ?_
 refine J_d 60 [] [5] [(5,iv 0)] [] [] zB ?_
 refine zEE (zBz.ok x2 q _ (fun v23=>J_j ?_) (([]:List ByteArray),0))
 refine J_g 62 [] [(2,rr 0 v23)] [(0,rE 1 eStr v23)] zB ?_
 exact zBI (ds:=[rr 0 v23]) (ds':=[so 1 eStr v23]) (.cons (.cell (.move (.head _) (List.length_map _) (by decide) (.nil))) (.nil) (by decide)) rfl
noncomputable def zN3:Code:=(Tryz.f221.body).getD .skip
theorem uW.ok (x2:(List ByteArray)) (q:Wd) (kn:(List Int)→Option (D×List Ent)) (hk:∀v:(List Int),J (q.g Tryz.prog 221 0 47) zN3 (atI zN3 63) (St.mk' [(2,pp 0),(4,rr 2 v)] [(0,.box [iv 0,iv 0,iv 0,iv 0]),(2,rE 1 zJ v)]) (some v) kn):
  ∀s13:((List Int)×Int),J (q.g Tryz.prog 221 0 47) zN3 (atI zN3 500) (St.mk' [(2,pp 0),(3,rr 1 x2),(4,rr 2 s13.1),(5,iv s13.2)] [(0,.box [iv 0,iv 0,iv 0,iv 0]),(1,rE 1 eStr x2),(2,rE 1 zJ s13.1)]) (uW x2 s13) (Fl.go (fun r:zN=>some (.ag (zN.enc r),[])) kn):=by
 refine zAz (fun g ih s13=>?_)
 unfold uI
 refine J_d 2000 [] [18] [(18,bv (decide (s13.2< (x2.length:Int))))] [] [] zB ?_
 refine zC 18 (fun h14=>?_) (fun h14=>?_)
 ·refine zA (fun x15 h16=>?_)
  refine zA (fun x17 h18=>?_)
  refine J_g 8008 [] [(2,pp 0),(3,rr 1 x2),(4,rr 2 s13.1),(5,iv s13.2),(6,iv x17.1),(7,bv x17.2)] [(0,.box [iv 0,iv 0,iv 0,iv 0]),(1,rE 1 eStr x2),(2,rE 1 zJ s13.1)] (zD 2 (jT (kk:=.i64) 70 9 1 1 eStr (.tmp 22) (.tmp 23) h16) (zD 3 (jR (d:=sv x15) 9 1 1 0 eStr (.tmp 24) h16 (by kernel_rfl)) (zD 4 (xH [(.tmp 25),(.const (.int .i64 3))] [9,3] (wY.ok x15 3) h18) zB))) ?_
  refine J_d 32036 [] [7,30] [(30,bv (!x17.2))] [] [] zB ?_
  refine zC 30 (fun h19=>?_) (fun h19=>?_)
  ·refine J_g 128148 [] [(2,pp 0)] [(0,.box [iv 5,iv 0,iv 0,iv 0])] zB ?_
   exact zU rfl
  ·refine zA (fun x20 h21=>?_)
   refine J_g 16019 [] [(2,pp 0),(3,rr 1 x2),(4,rr 2 s13.1),(5,iv s13.2)] [(0,.box [iv 0,iv 0,iv 0,iv 0]),(1,rE 1 eStr x2),(2,rE 1 zJ (s13.1.set s13.2.toNat x17.1))] (zD 3 (jT (kk:=.i64) 42 2 1 2 zJ (.tmp 32) (.tmp 33) h21) (zIU 4 (zMc (b:=x17.1) 2 1 2 0 zJ (iv x17.1) (.tmp 35) (.tmp 34) h21 rfl) zB)) ?_
   refine zHT (σ':=St.mk' [(2,pp 0),(3,rr 1 x2),(4,rr 2 (s13.1.set s13.2.toNat x17.1)),(5,iv s13.2)] [(0,.box [iv 0,iv 0,iv 0,iv 0]),(1,rE 1 eStr x2),(2,rE 1 zJ (s13.1.set s13.2.toNat x17.1))]) (by simp only [rr,List.length_set]) ?_
   refine J_d 2003 [] [5] [(5,iv (w64 (s13.2+1)))] [] [] zB ?_
   exact J_q (J_b (ih (s13.1.set s13.2.toNat x17.1,w64 (s13.2+1)))) rfl
 ·exact yQ (hk s13.1) rfl
theorem wN.ok (a1:ByteArray):Ok Tryz.prog 221 [sv a1] [] ((wN a1).map fun r=>(.ag (zN.enc r),[])):=by
 refine zH zN3 Tryz.f221 0 47 (fun q=>?_)
 unfold wN
 refine J_g 2 [(0,0)] [(0,sv a1),(2,pp 0)] [(0,.box [iv 0,iv 0,iv 0,iv 0])] zB ?_
 refine zA (fun x2 h3=>?_)
 refine J_g 6 [] [(2,pp 0),(3,rr 1 x2)] [(0,.box [iv 0,iv 0,iv 0,iv 0]),(1,rE 1 eStr x2)] (zD 1 (jO («as»:=[sv a1,uv 46]) [(.tmp 8),(.const (.int .u8 46))] [9,5] false [] [] (.cons (.same rfl) (.cons (.same rfl) (.nil))) (uH.ok a1 46) h3 (.own 1)) zB) ?_
 refine J_d 28 [] [12] [(12,bv (decide ((x2.length:Int)>3)))] [] [] zB ?_
 refine zC 12 (fun h4=>?_) (fun h4=>?_)
 ·refine J_g 116 [] [(2,pp 0)] [(0,.box [iv 5,iv 0,iv 0,iv 0])] zB ?_
  exact zU rfl
 ·refine J_g 30 [] [(2,pp 0),(3,rr 1 x2),(4,rr 2 [0,0,0])] [(0,.box [iv 0,iv 0,iv 0,iv 0]),(1,rE 1 eStr x2),(2,rE 1 zJ [0,0,0])] (zD 0 (zCR 42 2 1 2 zJ [0,0,0] [0,1,2] [(.const (.int .i64 0)),(.const (.int .i64 0)),(.const (.int .i64 0))] [iv 0,iv 0,iv 0]) zB) ?_
  refine J_d 124 [] [5] [(5,iv 0)] [] [] zB ?_
  refine uQ (K0:=(fun r:zN=>some (.ag (zN.enc r),[]))) (fun _=>rfl) (uW.ok x2 q _ (fun v22=>J_j ?_) ([0,0,0],0))
  refine zA (fun x23 h24=>?_)
  refine zA (fun x25 h26=>?_)
  refine zA (fun x27 h28=>?_)
  refine J_g 126 [] [(2,pp 0)] [(0,.box [iv 0,iv x23,iv x25,iv x27])] (zD 1 (jT (kk:=.i64) 42 2 1 2 zJ (.tmp 36) (.const (.int .i64 0)) h24) (zD 2 (jR (d:=iv x23) 2 1 2 0 zJ (.tmp 37) h24 (by kernel_rfl)) (zD 4 (jT (kk:=.i64) 42 2 1 2 zJ (.tmp 39) (.const (.int .i64 1)) h26) (zD 5 (jR (d:=iv x25) 2 1 2 0 zJ (.tmp 40) h26 (by kernel_rfl)) (zD 7 (jT (kk:=.i64) 42 2 1 2 zJ (.tmp 42) (.const (.int .i64 2)) h28) (zD 8 (jR (d:=iv x27) 2 1 2 0 zJ (.tmp 43) h28 (by kernel_rfl)) zB)))))) ?_
  exact zU rfl
noncomputable def zMB:Code:=(Tryz.f144.body).getD .skip
theorem zBm.ok (a1:(List Pack)) (x4:(List ByteArray)) (q:Wd) (kn:(List Int)→Option (D×List Ent)) (hk:∀v:(List Int),J (q.g Tryz.prog 144 0 60) zMB (atI zMB 63) (St.mk' [(4,pp 0),(6,rr 2 v)] [(0,.box [iv 0,iv 0,nv]),(2,rE 1 zJ v)]) (some v) kn):
  ∀s29:((List Int)×Int),J (q.g Tryz.prog 144 0 60) zMB (atI zMB 500) (St.mk' [(0,sl 8 (Pack.enc false) a1),(4,pp 0),(5,rr 1 x4),(6,rr 2 s29.1),(7,iv s29.2)] [(0,.box [iv 0,iv 0,nv]),(1,rE 1 eStr x4),(2,rE 1 zJ s29.1)]) (zBm a1 x4 s29) (Fl.go (fun r:yE=>some (.ag [iv r.Code,iv r.At,so 1 zJ r.Set],[])) kn):=by
 refine zAz (fun g ih s29=>?_)
 unfold jX
 refine J_d 2000 [] [21] [(21,bv (decide (s29.2< (x4.length:Int))))] [] [] zB ?_
 refine zC 21 (fun h30=>?_) (fun h30=>?_)
 ·refine zA (fun x31 h32=>?_)
  refine zA (fun x33 h34=>?_)
  refine J_g 8008 [] [(0,sl 8 (Pack.enc false) a1),(4,pp 0),(5,rr 1 x4),(6,rr 2 s29.1),(7,iv s29.2),(8,rr 3 x33)] [(0,.box [iv 0,iv 0,nv]),(1,rE 1 eStr x4),(2,rE 1 zJ s29.1),(3,rE 1 eStr x33)] (zD 2 (jT (kk:=.i64) 70 9 1 1 eStr (.tmp 24) (.tmp 25) h32) (zD 3 (jR (d:=sv x31) 9 1 1 0 eStr (.tmp 26) h32 (by kernel_rfl)) (zD 4 (jO («as»:=[sv x31]) [(.tmp 27)] [9] false [] [] (.cons (.same rfl) (.nil)) (zBr.ok x31) h34 (.own 3)) zB))) ?_
  refine J_g 16018 [] [(0,sl 8 (Pack.enc false) a1),(4,pp 0),(5,rr 1 x4),(6,rr 2 s29.1),(7,iv s29.2),(8,rr 3 x33),(9,iv (-1))] [(0,.box [iv 0,iv 0,nv]),(1,rE 1 eStr x4),(2,rE 1 zJ s29.1),(3,rE 1 eStr x33)] zB ?_
  refine J_d 64076 [] [31] [(31,bv ((x33.length:Int)==2))] [] [] zB ?_
  refine xC (atI zMB 32039) (fun v45:Int=>St.mk' [(0,sl 8 (Pack.enc false) a1),(4,pp 0),(5,rr 1 x4),(6,rr 2 s29.1),(7,iv s29.2),(9,iv v45)] [(0,.box [iv 0,iv 0,nv]),(1,rE 1 eStr x4),(2,rE 1 zJ s29.1)]) (fun v45=>?_) (fun jv45=>?_)
  ·refine xC (atI zMB 128157) (fun v49:Bool=>St.mk' [(0,sl 8 (Pack.enc false) a1),(4,pp 0),(5,rr 1 x4),(6,rr 2 s29.1),(7,iv s29.2),(9,iv v45),(52,bv v49)] [(0,.box [iv 0,iv 0,nv]),(1,rE 1 eStr x4),(2,rE 1 zJ s29.1)]) (fun v49=>?_) (fun jv49=>?_)
   ·refine zC 52 (fun h50=>?_) (fun h50=>?_)
    ·refine J_g 512628 [] [(4,pp 0)] [(0,.box [iv 5,iv s29.2,nv])] zB ?_
     exact zBI (ds:=[.ag [iv 5,iv s29.2,nv]]) (ds':=[.ag [iv 5,iv s29.2,so 1 zJ ([]:List Int)]]) (.cons (.ag (.keep rfl (.keep rfl (.nilsl true 1 (.nil))))) (.nil) (by decide)) rfl
    ·refine zA (fun x51 h52=>?_)
     refine J_g 64079 [] [(0,sl 8 (Pack.enc false) a1),(4,pp 0),(5,rr 1 x4),(6,rr 3 x51),(7,iv s29.2)] [(0,.box [iv 0,iv 0,nv]),(1,rE 1 eStr x4),(3,rE 1 zJ x51)] (zD 2 (jO («as»:=[rr 2 s29.1,iv v45]) [(.tmp 55),(.tmp 56)] [42,2] true [(2,rE 1 zJ s29.1)] [] (.cons (zDP (.head _) (fun _=>rfl) rfl) (.cons (.same rfl) (.nil))) (tV.ok s29.1 v45) h52 (.own 3) (hbor:=fun _=>⟨fhN,(zDt (zED (fun _=>(flatK yI zDx)) _))⟩)) zB) ?_
     refine J_d 2003 [] [7] [(7,iv (w64 (s29.2+1)))] [] [] zB ?_
     refine zAy 3 2 (Nat.le_of_ble_eq_true rfl) (Nat.le_of_ble_eq_true rfl) ?_
     exact J_q (J_b (ih (x51,w64 (s29.2+1)))) rfl
   ·refine wR (fun h46=>?_) (fun h46=>?_)
    ·refine J_d 128156 [] [52] [(52,bv true)] [] [] (xR 2 [(47,bv (decide (v45<0)))] [] h46 zB) ?_
     exact yQ (J_j (jv49 true)) rfl
    ·refine zA (fun x47 h48=>?_)
     refine J_d 128156 [] [52] [(52,bv x47)] [] [] (xR 2 [(47,bv (decide (v45<0)))] [] h46 (zCN 5 2 48 false (jO («as»:=[rr 2 s29.1,iv v45]) [(.tmp 49),(.tmp 50)] [42,2] true [(2,rE 1 zJ s29.1)] [] (.cons (zDP (.head _) (fun _=>rfl) rfl) (.cons (.same rfl) (.nil))) (xU.ok s29.1 v45) h48 (.same rfl rfl) (hbor:=fun _=>⟨fhN,yI⟩)) zB)) ?_
     exact yQ (J_j (jv49 x47)) rfl
  ·refine zC 31 (fun h35=>?_) (fun h35=>?_)
   ·refine zA (fun x36 h37=>?_)
    refine zA (fun x38 h39=>?_)
    refine J_g 256308 [(4,4)] [(0,sl 8 (Pack.enc false) a1),(4,pp 0),(5,rr 1 x4),(6,rr 2 s29.1),(7,iv s29.2),(8,rr 3 x33),(9,iv (-1)),(10,pp 4)] [(0,.box [iv 0,iv 0,nv]),(1,rE 1 eStr x4),(2,rE 1 zJ s29.1),(3,rE 1 eStr x33),(4,.box (zN.enc x38))] (zD 1 (jT (kk:=.i64) 70 9 1 3 eStr (.tmp 32) (.const (.int .i64 1)) h37) (zD 2 (jR (d:=sv x36) 9 1 3 0 eStr (.tmp 33) h37 (by kernel_rfl)) (zD 3 (xH [(.tmp 34)] [9] (wN.ok x36) h39) zB))) ?_
    refine J_d 512618 [] [38] [(38,bv (x38.Code==0))] [] [] zB ?_
    refine zC 38 (fun h40=>?_) (fun h40=>?_)
    ·refine zA (fun x41 h42=>?_)
     refine zA (fun x43 h44=>?_)
     refine J_d 1025238 [] [8,9,10,38] [(9,iv x43)] [3,4] [] (zD 2 (jT (kk:=.i64) 70 9 1 3 eStr (.tmp 40) (.const (.int .i64 0)) h42) (zD 3 (jR (d:=sv x41) 9 1 3 0 eStr (.tmp 41) h42 (by kernel_rfl)) (zD 6 (xH [(.tmp 39),(.tmp 42),(.tmp 44)] [24,9,86] (jM.ok a1 x41 x38.Version) h44) zB))) ?_
     exact yQ (J_j (jv45 x43)) rfl
    ·exact yQ (J_j (jv45 (-1))) rfl
   ·exact yQ (J_j (jv45 (-1))) rfl
 ·exact yQ (hk s29.1) rfl
theorem zAT.ok (a1:(List Pack)) (a2:ByteArray):Ok Tryz.prog 144 [sl 8 (Pack.enc false) a1,sv a2] [] ((zAT a1 a2).map fun r=>(.ag [iv r.Code,iv r.At,so 1 zJ r.Set],[])):=by
 refine zH zMB Tryz.f144 0 60 (fun q=>?_)
 unfold zAT
 refine J_g 2 [(0,0)] [(0,sl 8 (Pack.enc false) a1),(1,sv a2),(4,pp 0)] [(0,.box [iv 0,iv 0,nv])] zB ?_
 refine J_d 12 [] [13] [(13,bv (decide ((a2.size:Int)>4000)))] [] [] zB ?_
 refine zC 13 (fun h3=>?_) (fun h3=>?_)
 ·refine J_g 52 [] [(4,pp 0)] [(0,.box [iv 2,iv 0,nv])] zB ?_
  exact zBI (ds:=[.ag [iv 2,iv 0,nv]]) (ds':=[.ag [iv 2,iv 0,so 1 zJ ([]:List Int)]]) (.cons (.ag (.keep rfl (.keep rfl (.nilsl true 1 (.nil))))) (.nil) (by decide)) rfl
 ·refine zA (fun x4 h5=>?_)
  refine J_g 14 [] [(0,sl 8 (Pack.enc false) a1),(4,pp 0),(5,rr 1 x4)] [(0,.box [iv 0,iv 0,nv]),(1,rE 1 eStr x4)] (zD 1 (jO («as»:=[sv a2]) [(.tmp 15)] [9] false [] [] (.cons (.same rfl) (.nil)) (zB2.ok a2) h5 (.own 1)) zB) ?_
  refine J_g 30 [] [(0,sl 8 (Pack.enc false) a1),(4,pp 0),(5,rr 1 x4),(6,rr 2 ([]:List Int))] [(0,.box [iv 0,iv 0,nv]),(1,rE 1 eStr x4),(2,rE 1 zJ ([]:List Int))] (zD 0 (zCR 42 2 1 2 zJ ([]:List Int) [] [] []) zB) ?_
  refine J_d 124 [] [7] [(7,iv 0)] [] [] zB ?_
  refine uQ (K0:=(fun r:yE=>some (.ag [iv r.Code,iv r.At,so 1 zJ r.Set],[]))) (fun _=>rfl) (zBm.ok a1 x4 q _ (fun v53=>J_j ?_) (([]:List Int),0))
  refine J_g 126 [] [(4,pp 0)] [(0,.box [iv 0,iv 0,rr 2 v53]),(2,rE 1 zJ v53)] zB ?_
  exact zBI (ds:=[.ag [iv 0,iv 0,rr 2 v53]]) (ds':=[.ag [iv 0,iv 0,so 1 zJ v53]]) (.cons (.ag (.keep rfl (.keep rfl (.move (.tail _ (.head _)) (List.length_map _) (by decide) (.nil))))) (.nil) (by decide)) rfl
noncomputable def zOZ:Code:=(Tryz.f166.body).getD .skip
theorem zC0.ok (a1:(List Pack)) (a2:zI) (a3:Int):Ok Tryz.prog 166 [sl 8 (Pack.enc false) a1,pp 0,iv a3] [.box (zI.enc false a2)] ((zC0 a1 a2 a3).map fun r=>(.ag [iv r.Code,iv r.At,so 1 zJ r.Set],[.box (zI.enc false a2)])):=by
 refine zH zOZ Tryz.f166 1 35 (fun q=>?_)
 unfold zC0
 refine J_d 2 [(0,1)] [6] [(6,pp 1)] [1] [(1,.box [iv 0,iv 0,nv])] zB ?_
 refine zA (fun x4 h5=>?_)
 refine zA (fun x6 h7=>?_)
 refine J_d 12 [] [12] [(12,bv (!x6))] [] [] (zD 1 (zFS [(0,.box (zI.enc false a2))] [(2,rE 1 zJ x4)] (jO («as»:=[pp 0]) [(.tmp 8)] [103] false [(0,.box (zI.enc false a2))] [0] (.cons (.pt rfl) (.nil)) (vN.ok a2) h5 (.own 2))) (zD 3 (jO («as»:=[rr 2 x4,iv a3]) [(.tmp 9),(.tmp 10)] [42,2] true [(2,rE 1 zJ x4)] [] (.cons (zDP (.head _) (fun _=>rfl) rfl) (.cons (.same rfl) (.nil))) (xU.ok x4 a3) h7 (.same rfl rfl) (hbor:=fun _=>⟨fhN,yI⟩)) zB)) ?_
 refine zC 12 (fun h8=>?_) (fun h8=>?_)
 ·refine J_g 52 [] [(6,pp 1)] [(0,.box (zI.enc false a2)),(1,.box [iv 4,iv 0,nv])] zB ?_
  exact zBI (ds:=[.ag [iv 4,iv 0,nv]]) (ds':=[.ag [iv 4,iv 0,so 1 zJ ([]:List Int)]]) (.cons (.ag (.keep rfl (.keep rfl (.nilsl true 1 (.nil))))) (.nil) (by decide)) rfl
 ·refine zA (fun x9 h10=>?_)
  refine zA (fun x11 h12=>?_)
  refine zA (fun x13 h14=>?_)
  refine zA (fun x15 h16=>?_)
  refine J_g 14 [(14,3)] [(6,pp 1),(7,pp 3)] [(0,.box (zI.enc false a2)),(1,.box [iv 0,iv 0,nv]),(2,rE 1 zJ x15.Set),(3,.box [iv x15.Code,iv x15.At,rr 2 x15.Set])] (zD 7 (xH [(.tmp 20)] [2] (xZ.ok a3) h10) (zD 8 (zFS [(0,.box (zI.enc false a2))] [] (jO («as»:=[pp 0,sv x9]) [(.tmp 19),(.tmp 21)] [103,9] false [(0,.box (zI.enc false a2))] [0] (.cons (.pt rfl) (.cons (.same rfl) (.nil))) (xA.ok a2 x9) h12 (.same rfl rfl))) (zD 9 (zAc (kk:=.i64) 25 113 2 (File.enc false) (.tmp 18) (.tmp 22) h14) (zD 12 (zLw (xs:=x13.Data) 111 9 5 (.tmp 25)) (zD 13 (jO («as»:=[sl 8 (Pack.enc false) a1,sv (b2s x13.Data)]) [(.tmp 14),(.tmp 26)] [24,9] false [] [] (.cons (.same rfl) (.cons (.same rfl) (.nil))) (zAT.ok a1 (b2s x13.Data)) h16 (.ag (.cons (.same rfl rfl) (.cons (.same rfl rfl) (.cons (.own 2) (.nil)))))) zB))))) ?_
  refine J_d 60 [] [30] [(30,bv (x15.Code !=0))] [] [] zB ?_
  refine zC 30 (fun h17=>?_) (fun h17=>?_)
  ·refine J_g 244 [] [(6,pp 1)] [(0,.box (zI.enc false a2)),(1,.box [iv x15.Code,iv 0,nv])] zB ?_
   exact zBI (ds:=[.ag [iv x15.Code,iv 0,nv]]) (ds':=[.ag [iv x15.Code,iv 0,so 1 zJ ([]:List Int)]]) (.cons (.ag (.keep rfl (.keep rfl (.nilsl true 1 (.nil))))) (.nil) (by decide)) rfl
  ·refine J_g 62 [] [(6,pp 1)] [(0,.box (zI.enc false a2)),(1,.box [iv x15.Code,iv x15.At,rr 2 x15.Set]),(2,rE 1 zJ x15.Set)] zB ?_
   exact zBI (ds:=[.ag [iv x15.Code,iv x15.At,rr 2 x15.Set]]) (ds':=[.ag [iv x15.Code,iv x15.At,so 1 zJ x15.Set]]) (.cons (.ag (.keep rfl (.keep rfl (.move (.tail _ (.tail _ (.head _))) (List.length_map _) (by decide) (.nil))))) (.nil) (by decide)) rfl
noncomputable def zOS:Code:=(Tryz.f205.body).getD .skip
theorem vC.ok (a1:Version):Ok Tryz.prog 205 [.ag (Version.enc a1)] [] ((vC a1).map fun r=>(sv r,[])):=by
 refine zH zOS Tryz.f205 0 19 (fun q=>?_)
 unfold vC
 refine J_g 2 [(0,0)] [(1,pp 0)] [(0,.box (Version.enc a1))] zB ?_
 refine zA (fun x2 h3=>?_)
 refine J_d 12 [] [5] [(5,bv (x2 !=0))] [] [] (zD 1 (xH [(.tmp 3)] [86] (yS.ok a1) h3) zB) ?_
 refine zC 5 (fun h4=>?_) (fun h4=>?_)
 ·refine J_g 52 [] [(2,sv (bs []))] [] zB ?_
  exact zU rfl
 ·refine zA (fun x5 h6=>?_)
  refine zA (fun x7 h8=>?_)
  refine zA (fun x9 h10=>?_)
  refine zA (fun x11 h12=>?_)
  refine zA (fun x13 h14=>?_)
  refine zA (fun x15 h16=>?_)
  refine zA (fun x17 h18=>?_)
  refine J_g 14 [] [(2,sv x17)] [] (zD 2 (xH [(.tmp 7)] [2] (xO.ok a1.A) h6) (zD 3 (zDv 9 9 (.tmp 8) (.const (.string (bs [46]))) h8) (zD 6 (xH [(.tmp 11)] [2] (xO.ok a1.B) h10) (zD 7 (zDv 9 9 (.tmp 9) (.tmp 12) h12) (zD 8 (zDv 9 9 (.tmp 13) (.const (.string (bs [46]))) h14) (zD 11 (xH [(.tmp 16)] [2] (xO.ok a1.C) h16) (zD 12 (zDv 9 9 (.tmp 14) (.tmp 17) h18) zB))))))) ?_
  exact zU rfl
noncomputable def zPe:Code:=(Tryz.f129.body).getD .skip
theorem zBV.ok (a1:Pack):Ok Tryz.prog 129 [.ag (Pack.enc false a1)] [] ((zBV a1).map fun r=>(sv r,[])):=by
 refine zH zPe Tryz.f129 0 11 (fun q=>?_)
 unfold zBV
 refine J_g 2 [(0,0)] [(1,pp 0)] [(0,.box (Pack.enc false a1))] zB ?_
 refine zA (fun x2 h3=>?_)
 refine zA (fun x4 h5=>?_)
 refine zA (fun x6 h7=>?_)
 refine zA (fun x8 h9=>?_)
 refine J_g 6 [] [(2,sv x8)] [] (zD 2 (zDv 9 9 (.const (.string (bs [112,107,103,47]))) (.tmp 4) h3) (zD 3 (zDv 9 9 (.tmp 5) (.const (.string (bs [45]))) h5) (zD 6 (xH [(.tmp 8)] [86] (vC.ok a1.Version) h7) (zD 7 (zDv 9 9 (.tmp 6) (.tmp 9) h9) zB)))) ?_
 exact zU rfl
noncomputable def c167:Code:=(Tryz.f167.body).getD .skip
theorem zCM.ok (a1:(List ByteArray)) (a2:ByteArray) (q:Wd) (kn:((List ByteArray)×Bool)→Option (D×List Ent)) (hk:∀v:((List ByteArray)×Bool),J (q.g Tryz.prog 167 0 50) c167 (atI c167 31) (St.mk' [(1,sv a2),(5,rr 0 v.1),(6,bv v.2)] [(0,rE 1 eStr v.1)]) (some v) kn):
  ∀s19:((List ByteArray)×Bool×Int),J (q.g Tryz.prog 167 0 50) c167 (atI c167 244) (St.mk' [(0,sl 1 eStr a1),(1,sv a2),(5,rr 0 s19.1),(6,bv s19.2.1),(7,iv s19.2.2)] [(0,rE 1 eStr s19.1)]) (zCM a1 a2 s19) (Fl.go (fun r:(List ByteArray)=>some (sl 1 eStr r,[])) kn):=by
 refine zAz (fun g ih s19=>?_)
 unfold zDQ
 refine J_d 976 [] [12] [(12,bv (decide (s19.2.2< (a1.length:Int))))] [] [] zB ?_
 refine zC 12 (fun h20=>?_) (fun h20=>?_)
 ·refine zA (fun x21 h22=>?_)
  refine J_d 7824 [] [12,20] [(20,bv (seq x21 a2))] [] [] (zD 2 (zAc (kk:=.i64) 70 9 1 eStr (.tmp 15) (.tmp 16) h22) zB) ?_
  refine zC 20 (fun h23=>?_) (fun h23=>?_)
  ·refine J_g 31300 [] [(4,sl 1 eStr a1)] [] zB ?_
   exact zU rfl
  ·refine zA (fun x24 h25=>?_)
   refine xC (atI c167 15653) (fun v27:Bool=>St.mk' [(0,sl 1 eStr a1),(1,sv a2),(5,rr 0 s19.1),(6,bv s19.2.1),(7,iv s19.2.2),(31,bv v27)] [(0,rE 1 eStr s19.1)]) (fun v27=>?_) (fun jv27=>?_)
   ·refine xC (atI c167 7827) (fun v31:((List ByteArray)×Bool)=>St.mk' [(0,sl 1 eStr a1),(1,sv a2),(5,rr 2 v31.1),(6,bv v31.2),(7,iv s19.2.2)] [(2,rE 1 eStr v31.1)]) (fun v31=>?_) (fun jv31=>?_)
    ·refine zA (fun x32 h33=>?_)
     refine zA (fun x34 h35=>?_)
     refine J_g 7827 [] [(0,sl 1 eStr a1),(1,sv a2),(5,rr 4 x34),(6,bv v31.2),(7,iv s19.2.2)] [(4,rE 1 eStr x34)] (zD 3 (zAc (kk:=.i64) 70 9 1 eStr (.tmp 37) (.tmp 38) h33) (zD 5 (zCR 70 9 1 3 eStr [x32] [0] [(.tmp 40)] [sv x32]) (zD 6 (zFG 70 70 9 9 1 16 4 2 3 eStr (.tmp 36) (.tmp 41) h35) zB))) ?_
     refine J_d 979 [] [7] [(7,iv (w64 (s19.2.2+1)))] [] [] zB ?_
     refine zAy 4 0 (Nat.le_of_ble_eq_true rfl) (Nat.le_of_ble_eq_true rfl) ?_
     exact J_q (J_b (ih (x34,v31.2,w64 (s19.2.2+1)))) rfl
    ·refine zC 31 (fun h28=>?_) (fun h28=>?_)
     ·refine zA (fun x29 h30=>?_)
      refine J_g 62612 [] [(0,sl 1 eStr a1),(1,sv a2),(5,rr 2 x29),(7,iv s19.2.2)] [(2,rE 1 eStr x29)] (zD 2 (zCR 70 9 1 1 eStr [a2] [0] [(.tmp 33)] [sv a2]) (zD 3 (zFG 70 70 9 9 1 16 2 0 1 eStr (.tmp 32) (.tmp 34) h30) zB)) ?_
      refine J_d 62613 [] [6] [(6,bv true)] [] [] zB ?_
      exact yQ (J_j (jv31 (x29,true))) rfl
     ·refine zAy 0 2 (Nat.le_of_ble_eq_true rfl) (Nat.le_of_ble_eq_true rfl) ?_
      exact yQ (J_j (jv31 (s19.1,s19.2.1))) rfl
   ·refine wR (fun h26=>?_) (fun h26=>?_)
    ·refine J_d 15652 [] [20,31] [(31,bv (!s19.2.1))] [] [] (zD 2 (zAc (kk:=.i64) 70 9 1 eStr (.tmp 22) (.tmp 23) h25) (xR 6 [(27,bv (!(slt x24 a2||seq x24 a2)))] [] h26 zB)) ?_
     exact yQ (J_j (jv27 (!s19.2.1))) rfl
    ·refine J_d 15652 [] [20,31] [(31,bv false)] [] [] (zD 2 (zAc (kk:=.i64) 70 9 1 eStr (.tmp 22) (.tmp 23) h25) (xR 6 [(27,bv (!(slt x24 a2||seq x24 a2)))] [] h26 zB)) ?_
     exact yQ (J_j (jv27 false)) rfl
 ·exact yQ (hk (s19.1,s19.2.1)) rfl
theorem zE0.ok (a1:(List ByteArray)) (a2:ByteArray):Ok Tryz.prog 167 [sl 1 eStr a1,sv a2] [] ((zE0 a1 a2).map fun r=>(sl 1 eStr r,[])):=by
 refine zH c167 Tryz.f167 0 50 (fun q=>?_)
 unfold zE0
 refine J_g 2 [] [(0,sl 1 eStr a1),(1,sv a2)] [] zB ?_
 refine J_g 6 [] [(0,sl 1 eStr a1),(1,sv a2),(5,rr 0 ([]:List ByteArray))] [(0,rE 1 eStr ([]:List ByteArray))] (zD 0 (zCR 70 9 1 0 eStr ([]:List ByteArray) [] [] []) zB) ?_
 refine J_g 14 [] [(0,sl 1 eStr a1),(1,sv a2),(5,rr 0 ([]:List ByteArray)),(6,bv false)] [(0,rE 1 eStr ([]:List ByteArray))] zB ?_
 refine J_d 60 [] [7] [(7,iv 0)] [] [] zB ?_
 refine uQ (K0:=(fun r:(List ByteArray)=>some (sl 1 eStr r,[]))) (fun _=>rfl) (zCM.ok a1 a2 q _ (fun v36=>J_j ?_) (([]:List ByteArray),false,0))
 refine J_d 124 [] [6,44] [(44,bv (!v36.2))] [] [] zB ?_
 refine xC (atI c167 63) (fun v40:(List ByteArray)=>St.mk' [(5,rr 2 v40)] [(2,rE 1 eStr v40)]) (fun v40=>?_) (fun jv40=>?_)
 ·refine J_g 126 [] [(4,rr 2 v40)] [(2,rE 1 eStr v40)] zB ?_
  refine zHU [(4,rr 2 v40)] [(2,rE 1 eStr v40)] (by kernel_rfl) ?_
  refine zOc 2 (z:=1) (xs:=v40.map eStr) (tm2:=[(4,sl 1 eStr v40)]) (hp2:=[]) (.cons (.rf (by simp) (zMe (enc:=eStr) (enc':=eStr) (fun _=>rfl) v40 rfl rfl)) (.nil)) (.nil) rfl ?_
  exact zU rfl
 ·refine zC 44 (fun h37=>?_) (fun h37=>?_)
  ·refine zA (fun x38 h39=>?_)
   refine J_g 250 [] [(5,rr 2 x38)] [(2,rE 1 eStr x38)] (zD 2 (zCR 70 9 1 1 eStr [a2] [0] [(.tmp 46)] [sv a2]) (zD 3 (zFG 70 70 9 9 1 16 2 0 1 eStr (.tmp 45) (.tmp 47) h39) zB)) ?_
   exact yQ (J_j (jv40 x38)) rfl
  ·refine zAy 0 2 (Nat.le_of_ble_eq_true rfl) (Nat.le_of_ble_eq_true rfl) ?_
   exact yQ (J_j (jv40 v36.1)) rfl
theorem zBE.ok (a1:(List ByteArray)) (a2:ByteArray) (q:Wd) (kn:((List ByteArray)×Bool)→Option (D×List Ent)) (hk:∀v:((List ByteArray)×Bool),J (q.g Tryz.prog 167 1 50) c167 (atI c167 31) (St.mk' [(1,sv a2),(5,rr 1 v.1),(6,bv v.2)] [(0,rE 1 eStr a1),(1,rE 1 eStr v.1)]) (some v) kn):
  ∀s19:((List ByteArray)×Bool×Int),J (q.g Tryz.prog 167 1 50) c167 (atI c167 244) (St.mk' [(0,rr 0 a1),(1,sv a2),(5,rr 1 s19.1),(6,bv s19.2.1),(7,iv s19.2.2)] [(0,rE 1 eStr a1),(1,rE 1 eStr s19.1)]) (zBE a1 a2 s19) (Fl.go (fun r:(List ByteArray)=>some (so 1 eStr r,[])) kn):=by
 refine zAz (fun g ih s19=>?_)
 unfold zBe
 refine J_d 976 [] [12] [(12,bv (decide (s19.2.2< (a1.length:Int))))] [] [] zB ?_
 refine zC 12 (fun h20=>?_) (fun h20=>?_)
 ·refine zA (fun x21 h22=>?_)
  refine J_d 7824 [] [12,20] [(20,bv (seq x21 a2))] [] [] (zD 2 (jT (kk:=.i64) 70 9 1 0 eStr (.tmp 15) (.tmp 16) h22) (zD 3 (jR (d:=sv x21) 9 1 0 0 eStr (.tmp 17) h22 (by kernel_rfl)) zB)) ?_
  refine zC 20 (fun h23=>?_) (fun h23=>?_)
  ·refine J_g 31300 [] [(4,rr 0 a1)] [(0,rE 1 eStr a1)] zB ?_
   exact zBI (ds:=[rr 0 a1]) (ds':=[so 1 eStr a1]) (.cons (.cell (.move (.head _) (List.length_map _) (by decide) (.nil))) (.nil) (by decide)) rfl
  ·refine zA (fun x24 h25=>?_)
   refine xC (atI c167 15653) (fun v27:Bool=>St.mk' [(0,rr 0 a1),(1,sv a2),(5,rr 1 s19.1),(6,bv s19.2.1),(7,iv s19.2.2),(31,bv v27)] [(0,rE 1 eStr a1),(1,rE 1 eStr s19.1)]) (fun v27=>?_) (fun jv27=>?_)
   ·refine xC (atI c167 7827) (fun v31:((List ByteArray)×Bool)=>St.mk' [(0,rr 0 a1),(1,sv a2),(5,rr 3 v31.1),(6,bv v31.2),(7,iv s19.2.2)] [(0,rE 1 eStr a1),(3,rE 1 eStr v31.1)]) (fun v31=>?_) (fun jv31=>?_)
    ·refine zA (fun x32 h33=>?_)
     refine zA (fun x34 h35=>?_)
     refine J_g 7827 [] [(0,rr 0 a1),(1,sv a2),(5,rr 5 x34),(6,bv v31.2),(7,iv s19.2.2)] [(0,rE 1 eStr a1),(5,rE 1 eStr x34)] (zD 3 (jT (kk:=.i64) 70 9 1 0 eStr (.tmp 37) (.tmp 38) h33) (zD 4 (jR (d:=sv x32) 9 1 0 0 eStr (.tmp 39) h33 (by kernel_rfl)) (zD 5 (zCR 70 9 1 4 eStr [x32] [0] [(.tmp 40)] [sv x32]) (zD 6 (zFG 70 70 9 9 1 16 5 3 4 eStr (.tmp 36) (.tmp 41) h35) zB)))) ?_
     refine J_d 979 [] [7] [(7,iv (w64 (s19.2.2+1)))] [] [] zB ?_
     refine zAy 5 1 (Nat.le_of_ble_eq_true rfl) (Nat.le_of_ble_eq_true rfl) ?_
     exact J_q (J_b (ih (x34,v31.2,w64 (s19.2.2+1)))) rfl
    ·refine zC 31 (fun h28=>?_) (fun h28=>?_)
     ·refine zA (fun x29 h30=>?_)
      refine J_g 62612 [] [(0,rr 0 a1),(1,sv a2),(5,rr 3 x29),(7,iv s19.2.2)] [(0,rE 1 eStr a1),(3,rE 1 eStr x29)] (zD 2 (zCR 70 9 1 2 eStr [a2] [0] [(.tmp 33)] [sv a2]) (zD 3 (zFG 70 70 9 9 1 16 3 1 2 eStr (.tmp 32) (.tmp 34) h30) zB)) ?_
      refine J_d 62613 [] [6] [(6,bv true)] [] [] zB ?_
      exact yQ (J_j (jv31 (x29,true))) rfl
     ·refine zAy 1 3 (Nat.le_of_ble_eq_true rfl) (Nat.le_of_ble_eq_true rfl) ?_
      exact yQ (J_j (jv31 (s19.1,s19.2.1))) rfl
   ·refine wR (fun h26=>?_) (fun h26=>?_)
    ·refine J_d 15652 [] [20,31] [(31,bv (!s19.2.1))] [] [] (zD 2 (jT (kk:=.i64) 70 9 1 0 eStr (.tmp 22) (.tmp 23) h25) (zD 3 (jR (d:=sv x24) 9 1 0 0 eStr (.tmp 24) h25 (by kernel_rfl)) (xR 6 [(27,bv (!(slt x24 a2||seq x24 a2)))] [] h26 zB))) ?_
     exact yQ (J_j (jv27 (!s19.2.1))) rfl
    ·refine J_d 15652 [] [20,31] [(31,bv false)] [] [] (zD 2 (jT (kk:=.i64) 70 9 1 0 eStr (.tmp 22) (.tmp 23) h25) (zD 3 (jR (d:=sv x24) 9 1 0 0 eStr (.tmp 24) h25 (by kernel_rfl)) (xR 6 [(27,bv (!(slt x24 a2||seq x24 a2)))] [] h26 zB))) ?_
     exact yQ (J_j (jv27 false)) rfl
 ·exact yQ (hk (s19.1,s19.2.1)) rfl
theorem zBZ.ok (a1:(List ByteArray)) (a2:ByteArray):Ok Tryz.prog 167 [rr 0 a1,sv a2] [rE 1 eStr a1] ((zBZ a1 a2).map fun r=>(so 1 eStr r,[])):=by
 refine zH c167 Tryz.f167 1 50 (fun q=>?_)
 unfold zBZ
 refine J_g 2 [] [(0,rr 0 a1),(1,sv a2)] [(0,rE 1 eStr a1)] zB ?_
 refine J_g 6 [] [(0,rr 0 a1),(1,sv a2),(5,rr 1 ([]:List ByteArray))] [(0,rE 1 eStr a1),(1,rE 1 eStr ([]:List ByteArray))] (zD 0 (zCR 70 9 1 1 eStr ([]:List ByteArray) [] [] []) zB) ?_
 refine J_g 14 [] [(0,rr 0 a1),(1,sv a2),(5,rr 1 ([]:List ByteArray)),(6,bv false)] [(0,rE 1 eStr a1),(1,rE 1 eStr ([]:List ByteArray))] zB ?_
 refine J_d 60 [] [7] [(7,iv 0)] [] [] zB ?_
 refine uQ (K0:=(fun r:(List ByteArray)=>some (so 1 eStr r,[]))) (fun _=>rfl) (zBE.ok a1 a2 q _ (fun v36=>J_j ?_) (([]:List ByteArray),false,0))
 refine J_d 124 [] [6,44] [(44,bv (!v36.2))] [] [] zB ?_
 refine xC (atI c167 63) (fun v40:(List ByteArray)=>St.mk' [(5,rr 3 v40)] [(0,rE 1 eStr a1),(3,rE 1 eStr v40)]) (fun v40=>?_) (fun jv40=>?_)
 ·refine J_g 126 [] [(4,rr 3 v40)] [(0,rE 1 eStr a1),(3,rE 1 eStr v40)] zB ?_
  exact zBI (ds:=[rr 3 v40]) (ds':=[so 1 eStr v40]) (.cons (.cell (.move (.tail _ (.head _)) (List.length_map _) (by decide) (.nil))) (.nil) (by decide)) rfl
 ·refine zC 44 (fun h37=>?_) (fun h37=>?_)
  ·refine zA (fun x38 h39=>?_)
   refine J_g 250 [] [(5,rr 3 x38)] [(0,rE 1 eStr a1),(3,rE 1 eStr x38)] (zD 2 (zCR 70 9 1 2 eStr [a2] [0] [(.tmp 46)] [sv a2]) (zD 3 (zFG 70 70 9 9 1 16 3 1 2 eStr (.tmp 45) (.tmp 47) h39) zB)) ?_
   exact yQ (J_j (jv40 x38)) rfl
  ·refine zAy 1 3 (Nat.le_of_ble_eq_true rfl) (Nat.le_of_ble_eq_true rfl) ?_
   exact yQ (J_j (jv40 v36.1)) rfl
noncomputable def c90:Code:=(Tryz.f90.body).getD .skip
theorem vB.ok (a1:(List Pack)) (a2:zI) (x4:((List Int)×Int)) (s33:((List ByteArray)×Int)) (x37:yE) (q:Wd) (kn:(List ByteArray)→Option (D×List Ent)) (hk:∀v:(List ByteArray),J (q.g Tryz.prog 90 1 61) c90 (aft c90 4004) (St.mk' [(0,sl 8 (Pack.enc false) a1),(1,pp 0),(8,rr 1 x4.1),(10,rr 2 v),(11,iv s33.2)] [(0,.box (zI.enc false a2)),(1,rE 1 zJ x4.1),(2,rE 1 eStr v)]) (some v) kn):
  ∀s49:((List ByteArray)×Int),J (q.g Tryz.prog 90 1 61) c90 (atI c90 128156) (St.mk' [(0,sl 8 (Pack.enc false) a1),(1,pp 0),(8,rr 1 x4.1),(10,rr 2 s49.1),(11,iv s33.2),(12,pp 4),(13,iv s49.2)] [(0,.box (zI.enc false a2)),(1,rE 1 zJ x4.1),(2,rE 1 eStr s49.1),(3,rE 1 zJ x37.Set),(4,.box [iv x37.Code,iv x37.At,rr 3 x37.Set])]) (vB a1 a2 x4 s33 x37 s49) kn:=by
 refine zAz (fun g ih s49=>?_)
 unfold jH
 refine J_d 512624 [] [46] [(46,bv (decide (s49.2< (x37.Set.length:Int))))] [] [] zB ?_
 refine zC 46 (fun h50=>?_) (fun h50=>?_)
 ·refine zA (fun x51 h52=>?_)
  refine zA (fun x53 h54=>?_)
  refine zA (fun x55 h56=>?_)
  refine zA (fun x57 h58=>?_)
  refine J_g 1025252 [] [(0,sl 8 (Pack.enc false) a1),(1,pp 0),(8,rr 1 x4.1),(10,rr 5 x57),(11,iv s33.2),(12,pp 4),(13,iv s49.2)] [(0,.box (zI.enc false a2)),(1,rE 1 zJ x4.1),(3,rE 1 zJ x37.Set),(4,.box [iv x37.Code,iv x37.At,rr 3 x37.Set]),(5,rE 1 eStr x57)] (zD 5 (jT (kk:=.i64) 42 2 1 3 zJ (.tmp 52) (.tmp 53) h52) (zD 6 (jR (d:=iv x51) 2 1 3 0 zJ (.tmp 54) h52 (by kernel_rfl)) (zD 7 (zAc (kk:=.i64) 24 89 8 (Pack.enc false) (.tmp 50) (.tmp 55) h54) (zD 9 (xH [(.tmp 57)] [89] (zBV.ok x53) h56) (zD 10 (jO («as»:=[rr 2 s49.1,sv x55]) [(.tmp 49),(.tmp 58)] [70,9] false [(2,rE 1 eStr s49.1)] [2] (.cons (.rf rfl) (.cons (.same rfl) (.nil))) (zBZ.ok s49.1 x55) h58 (.own 5)) zB))))) ?_
  refine J_d 512627 [] [13] [(13,iv (w64 (s49.2+1)))] [] [] zB ?_
  refine zAy 5 2 (Nat.le_of_ble_eq_true rfl) (Nat.le_of_ble_eq_true rfl) ?_
  exact J_q (J_b (ih (x57,w64 (s49.2+1)))) rfl
 ·exact yQ (hk s49.1) rfl
theorem kC.ok (a1:(List Pack)) (a2:zI) (x4:((List Int)×Int)) (q:Wd) (kn:(List ByteArray)→Option (D×List Ent)) (hk:∀v:(List ByteArray),J (q.g Tryz.prog 90 1 61) c90 (atI c90 63) (St.mk' [(10,rr 2 v)] [(0,.box (zI.enc false a2)),(2,rE 1 eStr v)]) (some v) kn):
  ∀s33:((List ByteArray)×Int),J (q.g Tryz.prog 90 1 61) c90 (atI c90 500) (St.mk' [(0,sl 8 (Pack.enc false) a1),(1,pp 0),(8,rr 1 x4.1),(10,rr 2 s33.1),(11,iv s33.2)] [(0,.box (zI.enc false a2)),(1,rE 1 zJ x4.1),(2,rE 1 eStr s33.1)]) (kC a1 a2 x4 s33) (Fl.go (fun r:((List ByteArray)×Int)=>some (.tu [so 1 eStr r.1,iv r.2],[.box (zI.enc false a2)])) kn):=by
 refine zAz (fun g ih s33=>?_)
 unfold vO
 refine J_d 2000 [] [27] [(27,bv (decide (s33.2< (x4.1.length:Int))))] [] [] zB ?_
 refine zC 27 (fun h34=>?_) (fun h34=>?_)
 ·refine zA (fun x35 h36=>?_)
  refine zA (fun x37 h38=>?_)
  refine J_g 8008 [(7,4)] [(0,sl 8 (Pack.enc false) a1),(1,pp 0),(8,rr 1 x4.1),(10,rr 2 s33.1),(11,iv s33.2),(12,pp 4)] [(0,.box (zI.enc false a2)),(1,rE 1 zJ x4.1),(2,rE 1 eStr s33.1),(3,rE 1 zJ x37.Set),(4,.box [iv x37.Code,iv x37.At,rr 3 x37.Set])] (zD 4 (jT (kk:=.i64) 42 2 1 1 zJ (.tmp 32) (.tmp 33) h36) (zD 5 (jR (d:=iv x35) 2 1 1 0 zJ (.tmp 34) h36 (by kernel_rfl)) (zD 6 (zFS [(0,.box (zI.enc false a2))] [(3,rE 1 zJ x37.Set)] (jO («as»:=[sl 8 (Pack.enc false) a1,pp 0,iv x35]) [(.tmp 30),(.tmp 31),(.tmp 35)] [24,103,2] false [(0,.box (zI.enc false a2))] [0] (.cons (.same rfl) (.cons (.pt rfl) (.cons (.same rfl) (.nil)))) (zC0.ok a1 a2 x35) h38 (.ag (.cons (.same rfl rfl) (.cons (.same rfl rfl) (.cons (.own 3) (.nil))))))) zB))) ?_
  refine J_d 32036 [] [39] [(39,bv (x37.Code !=0))] [] [] zB ?_
  refine zC 39 (fun h39=>?_) (fun h39=>?_)
  ·refine J_g 128148 [] [(6,nv),(7,iv x37.Code)] [(0,.box (zI.enc false a2))] zB ?_
   exact zBI (ds:=[nv,iv x37.Code]) (ds':=[so 1 eStr ([]:List ByteArray),iv x37.Code]) (.cons (.cell (.nilsl true 1 (.nil))) (.cons (.cell (.keep rfl (.nil))) (.nil) (by decide)) (by decide)) rfl
  ·refine J_d 32038 [] [13,39] [(13,iv 0)] [] [] zB ?_
   refine zEE (vB.ok a1 a2 x4 s33 x37 q _ (fun v59=>J_j ?_) (s33.1,0))
   refine J_d 2003 [] [11] [(11,iv (w64 (s33.2+1)))] [] [] zB ?_
   exact J_q (J_b (ih (v59,w64 (s33.2+1)))) rfl
 ·exact yQ (hk s33.1) rfl
theorem jE.ok (a1:(List Pack)) (a2:zI) (a3:(List Int)):Ok Tryz.prog 90 [sl 8 (Pack.enc false) a1,pp 0,sl 1 zJ a3] [.box (zI.enc false a2)] ((jE a1 a2 a3).map fun r=>(.tu [so 1 eStr r.1,iv r.2],[.box (zI.enc false a2)])):=by
 refine zH c90 Tryz.f90 1 61 (fun q=>?_)
 unfold jE
 refine J_d 2 [] [] [] [] [] zB ?_
 refine zA (fun x4 h5=>?_)
 refine J_g 6 [] [(0,sl 8 (Pack.enc false) a1),(1,pp 0),(8,rr 1 x4.1),(9,iv x4.2)] [(0,.box (zI.enc false a2)),(1,rE 1 zJ x4.1)] (zD 2 (zFS [(0,.box (zI.enc false a2))] [(1,rE 1 zJ x4.1)] (jO («as»:=[pp 0,sl 1 zJ a3]) [(.tmp 15),(.tmp 16)] [103,42] false [(0,.box (zI.enc false a2))] [0] (.cons (.pt rfl) (.cons (.same rfl) (.nil))) (vI.ok a2 a3) h5 (.tu (.cons (.own 1) (.cons (.same rfl rfl) (.nil)))))) zB) ?_
 refine J_d 28 [] [21] [(21,bv (x4.2 !=0))] [] [] zB ?_
 refine zC 21 (fun h6=>?_) (fun h6=>?_)
 ·refine J_g 116 [] [(6,nv),(7,iv x4.2)] [(0,.box (zI.enc false a2))] zB ?_
  exact zBI (ds:=[nv,iv x4.2]) (ds':=[so 1 eStr ([]:List ByteArray),iv x4.2]) (.cons (.cell (.nilsl true 1 (.nil))) (.cons (.cell (.keep rfl (.nil))) (.nil) (by decide)) (by decide)) rfl
 ·refine J_g 30 [] [(0,sl 8 (Pack.enc false) a1),(1,pp 0),(8,rr 1 x4.1),(10,rr 2 ([]:List ByteArray))] [(0,.box (zI.enc false a2)),(1,rE 1 zJ x4.1),(2,rE 1 eStr ([]:List ByteArray))] (zD 0 (zCR 70 9 1 2 eStr ([]:List ByteArray) [] [] []) zB) ?_
  refine J_d 124 [] [11] [(11,iv 0)] [] [] zB ?_
  refine uQ (K0:=(fun r:((List ByteArray)×Int)=>some (.tu [so 1 eStr r.1,iv r.2],[.box (zI.enc false a2)]))) (fun _=>rfl) (kC.ok a1 a2 x4 q _ (fun v60=>J_j ?_) (([]:List ByteArray),0))
  refine J_g 126 [] [(6,rr 2 v60),(7,iv 0)] [(0,.box (zI.enc false a2)),(2,rE 1 eStr v60)] zB ?_
  exact zBI (ds:=[rr 2 v60,iv 0]) (ds':=[so 1 eStr v60,iv 0]) (.cons (.cell (.move (.tail _ (.head _)) (List.length_map _) (by decide) (.nil))) (.cons (.cell (.keep rfl (.nil))) (.nil) (by decide)) (by decide)) rfl
noncomputable def c92:Code:=(Tryz.f92.body).getD .skip
theorem zEo.ok (a1:zI) (a2:(List Int)) (a3:(List ByteArray)) (x34:(List ByteArray)) (q:Wd) (kn:(List ByteArray)→Option (D×List Ent)) (hk:∀v:(List ByteArray),J (q.g Tryz.prog 92 3 59) c92 (atI c92 127) (St.mk' [(7,rr 3 v)] [(0,.box (zI.enc false a1)),(1,rE 1 zJ a2),(2,rE 1 eStr a3),(3,rE 1 eStr v)]) (some v) kn):
  ∀s47:((List ByteArray)×Int),J (q.g Tryz.prog 92 3 59) c92 (atI c92 1012) (St.mk' [(2,rr 2 a3),(7,rr 3 s47.1),(10,rr 4 x34),(11,iv s47.2)] [(0,.box (zI.enc false a1)),(1,rE 1 zJ a2),(2,rE 1 eStr a3),(3,rE 1 eStr s47.1),(4,rE 1 eStr x34)]) (zCC a1 a2 a3 x34 s47) kn:=by
 refine zAz (fun g ih s47=>?_)
 unfold zAd
 refine J_d 4048 [] [41] [(41,bv (decide (s47.2< (x34.length:Int))))] [] [] zB ?_
 refine zC 41 (fun h48=>?_) (fun h48=>?_)
 ·refine zA (fun x49 h50=>?_)
  refine zA (fun x51 h52=>?_)
  refine J_d 16200 [] [41,50] [(50,bv (!x51))] [] [] (zD 3 (jT (kk:=.i64) 70 9 1 4 eStr (.tmp 45) (.tmp 46) h50) (zD 4 (jR (d:=sv x49) 9 1 4 0 eStr (.tmp 47) h50 (by kernel_rfl)) (zD 5 (jO («as»:=[rr 2 a3,sv x49]) [(.tmp 44),(.tmp 48)] [70,9] true [(2,rE 1 eStr a3)] [] (.cons (zDP (.head _) (fun _=>rfl) rfl) (.cons (.same rfl) (.nil))) (jZ.ok a3 x49) h52 (.same rfl rfl) (hbor:=fun _=>⟨fhN,yI⟩)) zB))) ?_
  refine xC (aft c92 8100) (fun v58:(List ByteArray)=>St.mk' [(2,rr 2 a3),(7,rr 6 v58),(10,rr 4 x34),(11,iv s47.2)] [(0,.box (zI.enc false a1)),(1,rE 1 zJ a2),(2,rE 1 eStr a3),(4,rE 1 eStr x34),(6,rE 1 eStr v58)]) (fun v58=>?_) (fun jv58=>?_)
  ·refine J_d 4051 [] [11] [(11,iv (w64 (s47.2+1)))] [] [] zB ?_
   refine zAy 6 3 (Nat.le_of_ble_eq_true rfl) (Nat.le_of_ble_eq_true rfl) ?_
   exact J_q (J_b (ih (v58,w64 (s47.2+1)))) rfl
  ·refine zC 50 (fun h53=>?_) (fun h53=>?_)
   ·refine zA (fun x54 h55=>?_)
    refine zA (fun x56 h57=>?_)
    refine J_d 32402 [] [7,50] [(7,rr 6 x56)] [3,6] [(6,rE 1 eStr x56)] (zD 3 (jT (kk:=.i64) 70 9 1 4 eStr (.tmp 52) (.tmp 53) h55) (zD 4 (jR (d:=sv x54) 9 1 4 0 eStr (.tmp 54) h55 (by kernel_rfl)) (zD 5 (zCR 70 9 1 5 eStr [x54] [0] [(.tmp 55)] [sv x54]) (zD 6 (zFG 70 70 9 9 1 16 6 3 5 eStr (.tmp 51) (.tmp 56) h57) zB)))) ?_
    exact yQ (J_j (jv58 x56)) rfl
   ·refine zAy 3 6 (Nat.le_of_ble_eq_true rfl) (Nat.le_of_ble_eq_true rfl) ?_
    exact yQ (J_j (jv58 s47.1)) rfl
 ·exact yQ (hk s47.1) rfl
theorem zEi.ok (a1:zI) (a2:(List Int)) (a3:(List ByteArray)) (x4:(List Int)) (q:Wd) (kn:(List ByteArray)→Option (D×List Ent)) (hk:∀v:(List ByteArray),J (q.g Tryz.prog 92 3 59) c92 (atI c92 31) (St.mk' [(0,pp 0),(2,rr 2 a3),(7,rr 3 v)] [(0,.box (zI.enc false a1)),(1,rE 1 zJ a2),(2,rE 1 eStr a3),(3,rE 1 eStr v)]) (some v) kn):
  ∀s19:((List ByteArray)×Int),J (q.g Tryz.prog 92 3 59) c92 (atI c92 244) (St.mk' [(0,pp 0),(1,rr 1 a2),(2,rr 2 a3),(7,rr 3 s19.1),(8,rr 4 x4),(9,iv s19.2)] [(0,.box (zI.enc false a1)),(1,rE 1 zJ a2),(2,rE 1 eStr a3),(3,rE 1 eStr s19.1),(4,rE 1 zJ x4)]) (zCF a1 a2 a3 x4 s19) kn:=by
 refine zAz (fun g ih s19=>?_)
 unfold zAf
 refine J_d 976 [] [18] [(18,bv (decide (s19.2< (x4.length:Int))))] [] [] zB ?_
 refine zC 18 (fun h20=>?_) (fun h20=>?_)
 ·refine zA (fun x21 h22=>?_)
  refine zA (fun x23 h24=>?_)
  refine J_d 3912 [] [18,27] [(27,bv (!x23))] [] [] (zD 3 (jT (kk:=.i64) 42 2 1 4 zJ (.tmp 22) (.tmp 23) h22) (zD 4 (jR (d:=iv x21) 2 1 4 0 zJ (.tmp 24) h22 (by kernel_rfl)) (zD 5 (jO («as»:=[rr 1 a2,iv x21]) [(.tmp 21),(.tmp 25)] [42,2] true [(1,rE 1 zJ a2)] [] (.cons (zDP (.head _) (fun _=>rfl) rfl) (.cons (.same rfl) (.nil))) (xU.ok a2 x21) h24 (.same rfl rfl) (hbor:=fun _=>⟨fhN,yI⟩)) zB))) ?_
  refine xC (aft c92 1956) (fun v32:(List ByteArray)=>St.mk' [(0,pp 0),(1,rr 1 a2),(2,rr 2 a3),(7,rr 6 v32),(8,rr 4 x4),(9,iv s19.2)] [(0,.box (zI.enc false a1)),(1,rE 1 zJ a2),(2,rE 1 eStr a3),(4,rE 1 zJ x4),(6,rE 1 eStr v32)]) (fun v32=>?_) (fun jv32=>?_)
  ·refine J_d 979 [] [9] [(9,iv (w64 (s19.2+1)))] [] [] zB ?_
   refine zAy 6 3 (Nat.le_of_ble_eq_true rfl) (Nat.le_of_ble_eq_true rfl) ?_
   exact J_q (J_b (ih (v32,w64 (s19.2+1)))) rfl
  ·refine zC 27 (fun h25=>?_) (fun h25=>?_)
   ·refine zA (fun x26 h27=>?_)
    refine zA (fun x28 h29=>?_)
    refine zA (fun x30 h31=>?_)
    refine J_d 7826 [] [7,27] [(7,rr 6 x30)] [3,6] [(6,rE 1 eStr x30)] (zD 3 (jT (kk:=.i64) 42 2 1 4 zJ (.tmp 29) (.tmp 30) h27) (zD 4 (jR (d:=iv x26) 2 1 4 0 zJ (.tmp 31) h27 (by kernel_rfl)) (zD 5 (xH [(.tmp 32)] [2] (xZ.ok x26) h29) (zD 6 (zCR 70 9 1 5 eStr [x28] [0] [(.tmp 33)] [sv x28]) (zD 7 (zFG 70 70 9 9 1 16 6 3 5 eStr (.tmp 28) (.tmp 34) h31) zB))))) ?_
    exact yQ (J_j (jv32 x30)) rfl
   ·refine zAy 3 6 (Nat.le_of_ble_eq_true rfl) (Nat.le_of_ble_eq_true rfl) ?_
    exact yQ (J_j (jv32 s19.1)) rfl
 ·exact yQ (hk s19.1) rfl
theorem zF0.ok (a1:zI) (a2:(List Int)) (a3:(List ByteArray)):Ok Tryz.prog 92 [pp 0,rr 1 a2,rr 2 a3] [.box (zI.enc false a1),rE 1 zJ a2,rE 1 eStr a3] ((zCw a1 a2 a3).map fun r=>(so 1 eStr r,[.box (zI.enc false a1),rE 1 zJ a2,rE 1 eStr a3])):=by
 refine zH c92 Tryz.f92 3 59 (fun q=>?_)
 unfold zCw
 refine J_g 2 [] [(0,pp 0),(1,rr 1 a2),(2,rr 2 a3)] [(0,.box (zI.enc false a1)),(1,rE 1 zJ a2),(2,rE 1 eStr a3)] zB ?_
 refine J_d 6 [] [7] [(7,rr 3 ([]:List ByteArray))] [3] [(3,rE 1 eStr ([]:List ByteArray))] (zD 0 (zCR 70 9 1 3 eStr ([]:List ByteArray) [] [] []) zB) ?_
 refine zA (fun x4 h5=>?_)
 refine J_g 14 [] [(0,pp 0),(1,rr 1 a2),(2,rr 2 a3),(7,rr 3 ([]:List ByteArray)),(8,rr 4 x4)] [(0,.box (zI.enc false a1)),(1,rE 1 zJ a2),(2,rE 1 eStr a3),(3,rE 1 eStr ([]:List ByteArray)),(4,rE 1 zJ x4)] (zD 1 (zFS [(0,.box (zI.enc false a1))] [(4,rE 1 zJ x4)] (jO («as»:=[pp 0]) [(.tmp 13)] [103] false [(0,.box (zI.enc false a1))] [0] (.cons (.pt rfl) (.nil)) (vN.ok a1) h5 (.own 4))) zB) ?_
 refine J_d 60 [] [9] [(9,iv 0)] [] [] zB ?_
 refine zEE (zEi.ok a1 a2 a3 x4 q _ (fun v33=>J_j ?_) (([]:List ByteArray),0))
 refine zA (fun x34 h35=>?_)
 refine J_g 62 [] [(2,rr 2 a3),(7,rr 3 v33),(10,rr 4 x34)] [(0,.box (zI.enc false a1)),(1,rE 1 zJ a2),(2,rE 1 eStr a3),(3,rE 1 eStr v33),(4,rE 1 eStr x34)] (zD 1 (zFS [(0,.box (zI.enc false a1))] [(4,rE 1 eStr x34)] (jO («as»:=[pp 0,sv (bs [112,107,103,47])]) [(.tmp 36),(.const (.string (bs [112,107,103,47])))] [103,9] false [(0,.box (zI.enc false a1))] [0] (.cons (.pt rfl) (.cons (.same rfl) (.nil))) (uE.ok a1 (bs [112,107,103,47])) h35 (.own 4))) zB) ?_
 refine J_d 252 [] [11] [(11,iv 0)] [] [] zB ?_
 refine zEE (zEo.ok a1 a2 a3 x34 q _ (fun v59=>J_j ?_) (v33,0))
 refine J_g 254 [] [(6,rr 3 v59)] [(0,.box (zI.enc false a1)),(1,rE 1 zJ a2),(2,rE 1 eStr a3),(3,rE 1 eStr v59)] zB ?_
 exact zBI (ds:=[rr 3 v59]) (ds':=[so 1 eStr v59]) (.cons (.cell (.move (.tail _ (.tail _ (.tail _ (.head _)))) (List.length_map _) (by decide) (.nil))) (.nil) (by decide)) rfl
noncomputable def c38:Code:=(Tryz.f38.body).getD .skip
theorem zAh.ok (a2:zI) (x11:(List ByteArray)) (q:Wd) (kn:Int→Option (D×List Ent)) (hk:∀v:Int,J (q.g Tryz.prog 38 0 57) c38 (atI c38 511) (St.mk' [(4,pp 1),(11,iv v)] [(1,.box [iv 0,iv 0])]) (some v) kn):
  ∀s20:(Int×Int),J (q.g Tryz.prog 38 0 57) c38 (atI c38 4084) (St.mk' [(3,pp 0),(4,pp 1),(10,rr 4 x11),(11,iv s20.1),(12,iv s20.2)] [(0,.box (zI.enc false a2)),(1,.box [iv 0,iv 0]),(4,rE 1 eStr x11)]) (zAh a2 x11 s20) kn:=by
 refine zAz (fun g ih s20=>?_)
 unfold zA9
 refine J_d 16336 [] [39] [(39,bv (decide (s20.2< (x11.length:Int))))] [] [] zB ?_
 refine zC 39 (fun h21=>?_) (fun h21=>?_)
 ·refine zA (fun x22 h23=>?_)
  refine zA (fun x24 h25=>?_)
  refine zA (fun x26 h27=>?_)
  refine J_g 32676 [] [(3,pp 0),(4,pp 1),(10,rr 4 x11),(11,iv (w64 (s20.1+(x26.Data.length:Int)))),(12,iv s20.2)] [(0,.box (zI.enc false a2)),(1,.box [iv 0,iv 0]),(4,rE 1 eStr x11)] (zD 5 (jT (kk:=.i64) 70 9 1 4 eStr (.tmp 45) (.tmp 46) h23) (zD 6 (jR (d:=sv x22) 9 1 4 0 eStr (.tmp 47) h23 (by kernel_rfl)) (zD 7 (zFS [(0,.box (zI.enc false a2))] [] (jO («as»:=[pp 0,sv x22]) [(.tmp 3),(.tmp 48)] [103,9] false [(0,.box (zI.enc false a2))] [0] (.cons (.pt rfl) (.cons (.same rfl) (.nil))) (xA.ok a2 x22) h25 (.same rfl rfl))) (zD 8 (zAc (kk:=.i64) 25 113 2 (File.enc false) (.tmp 44) (.tmp 49) h27) zB)))) ?_
  refine J_d 16339 [] [12] [(12,iv (w64 (s20.2+1)))] [] [] zB ?_
  exact J_q (J_b (ih (w64 (s20.1+(x26.Data.length:Int)),w64 (s20.2+1)))) rfl
 ·exact yQ (hk s20.1) rfl
theorem zAp.ok (a1:(List Pack)) (a2:zI):Ok Tryz.prog 38 [sl 8 (Pack.enc false) a1,.ag (zI.enc false a2)] [] ((zAp a1 a2).map fun r=>(.ag (yM.enc r),[])):=by
 refine zH c38 Tryz.f38 0 57 (fun q=>?_)
 unfold zAp
 refine J_d 2 [(0,0),(1,1)] [1,3,4] [(3,pp 0),(4,pp 1)] [0,1] [(0,.box (zI.enc false a2)),(1,.box [iv 0,iv 0])] zB ?_
 refine zA (fun x3 h4=>?_)
 refine J_g 12 [] [(0,sl 8 (Pack.enc false) a1),(3,pp 0),(4,pp 1),(5,iv x3)] [(0,.box (zI.enc false a2)),(1,.box [iv 0,iv 0])] (zD 2 (xH [(.tmp 13),(.tmp 14)] [24,27] (kE.ok a1 a2) h4) zB) ?_
 refine J_d 26 [] [17] [(17,bv (x3 !=0))] [] [] zB ?_
 refine zC 17 (fun h5=>?_) (fun h5=>?_)
 ·refine J_g 108 [] [(4,pp 1)] [(1,.box [iv x3,iv 0])] zB ?_
  exact zU rfl
 ·refine zA (fun x6 h7=>?_)
  refine J_g 14 [] [(3,pp 0),(4,pp 1),(6,rr 2 x6.1),(7,iv x6.2)] [(0,.box (zI.enc false a2)),(1,.box [iv 0,iv 0]),(2,rE 1 eStr x6.1)] (zD 1 (zFS [(0,.box (zI.enc false a2))] [(2,rE 1 eStr x6.1)] (jO («as»:=[sl 8 (Pack.enc false) a1,pp 0,nv]) [(.tmp 21),(.tmp 3),(.const (.slice none 0 0))] [24,103,42] false [(0,.box (zI.enc false a2))] [0] (.cons (.same rfl) (.cons (.pt rfl) (.cons (.nil false 1) (.nil)))) (jE.ok a1 a2 ([]:List Int)) h7 (.tu (.cons (.own 2) (.cons (.same rfl rfl) (.nil)))))) zB) ?_
  refine J_d 60 [] [26] [(26,bv (x6.2 !=0))] [] [] zB ?_
  refine zC 26 (fun h8=>?_) (fun h8=>?_)
  ·refine J_g 244 [] [(4,pp 1)] [(1,.box [iv x6.2,iv 0])] zB ?_
   exact zU rfl
  ·refine zA (fun x9 h10=>?_)
   refine J_d 62 [] [7,8,26] [(8,rr 3 x9.1)] [3] [(3,rE 1 zJ x9.1)] (zD 0 (zFS [(0,.box (zI.enc false a2))] [(3,rE 1 zJ x9.1)] (jO («as»:=[pp 0,nv]) [(.tmp 3),(.const (.slice none 0 0))] [103,42] false [(0,.box (zI.enc false a2))] [0] (.cons (.pt rfl) (.cons (.nil false 1) (.nil))) (vI.ok a2 ([]:List Int)) h10 (.tu (.cons (.own 3) (.cons (.same rfl rfl) (.nil)))))) zB) ?_
   refine zA (fun x11 h12=>?_)
   refine J_g 126 [] [(3,pp 0),(4,pp 1),(10,rr 4 x11)] [(0,.box (zI.enc false a2)),(1,.box [iv 0,iv 0]),(4,rE 1 eStr x11)] (zD 2 (zFS [(0,.box (zI.enc false a2)),(3,rE 1 zJ x9.1),(2,rE 1 eStr x6.1)] [(4,rE 1 eStr x11)] (jO («as»:=[pp 0,rr 3 x9.1,rr 2 x6.1]) [(.tmp 3),(.tmp 33),(.tmp 34)] [103,42,70] false [(0,.box (zI.enc false a2)),(3,rE 1 zJ x9.1),(2,rE 1 eStr x6.1)] [0,3,2] (.cons (.pt rfl) (.cons (.rf rfl) (.cons (.rf rfl) (.nil)))) (zF0.ok a2 x9.1 x6.1) h12 (.own 4))) zB) ?_
   refine J_g 254 [] [(3,pp 0),(4,pp 1),(10,rr 4 x11),(11,iv 0)] [(0,.box (zI.enc false a2)),(1,.box [iv 0,iv 0]),(4,rE 1 eStr x11)] zB ?_
   refine J_d 1020 [] [12] [(12,iv 0)] [] [] zB ?_
   refine zEE (zAh.ok a2 x11 q _ (fun v28=>J_j ?_) (0,0))
   refine J_g 1022 [] [(4,pp 1)] [(1,.box [iv 0,iv v28])] zB ?_
   exact zU rfl
noncomputable def zPg:Code:=(Tryz.f224.body).getD .skip
theorem yZ.ok (a1:Int):Ok Tryz.prog 224 [uv a1] [] ((yZ a1).map fun r=>(bv r,[])):=by
 refine zH zPg Tryz.f224 0 21 (fun q=>?_)
 unfold yZ
 refine J_g 2 [] [(0,uv a1)] [] zB ?_
 refine wR (fun h2=>?_) (fun h2=>?_)
 ·refine wR (fun h3=>?_) (fun h3=>?_)
  ·refine J_g 6 [] [(2,bv true)] [] (xR 2 [(4,bv (decide (a1≥97)))] [] h2 (xR 6 [(8,bv (decide (a1≤122)))] [] h3 (zNW 9 (zNR (i:=9) (g:=6) (t:=9) (b:=false) (v:=(.bool true)) (.inl rfl) (by kernel_rfl) (by kernel_rfl)) (zNW 10 (zNR (i:=10) (g:=9) (t:=12) (b:=true) (v:=undef) (.inr rfl) (by kernel_rfl) (by kernel_rfl)) (zNW 11 (zNR (i:=11) (g:=9) (t:=12) (b:=true) (v:=undef) (.inr rfl) (by kernel_rfl) (by kernel_rfl)) zB))))) ?_
   exact zU rfl
  ·refine wR (fun h4=>?_) (fun h4=>?_)
   ·refine wR (fun h5=>?_) (fun h5=>?_)
    ·refine J_g 6 [] [(2,bv true)] [] (xR 2 [(4,bv (decide (a1≥97)))] [] h2 (xR 6 [(8,bv (decide (a1≤122)))] [] h3 (zJ4 9 6 9 false [(11,bv (decide (a1≥48)))] [] h4 (xR 14 [(16,bv (decide (a1≤57)))] [] h5 zB)))) ?_
     exact zU rfl
    ·refine J_g 6 [] [(2,bv (a1==95))] [] (xR 2 [(4,bv (decide (a1≥97)))] [] h2 (xR 6 [(8,bv (decide (a1≤122)))] [] h3 (zJ4 9 6 9 false [(11,bv (decide (a1≥48)))] [] h4 (xR 14 [(16,bv (decide (a1≤57)))] [] h5 zB)))) ?_
     exact zU rfl
   ·refine J_g 6 [] [(2,bv (a1==95))] [] (xR 2 [(4,bv (decide (a1≥97)))] [] h2 (xR 6 [(8,bv (decide (a1≤122)))] [] h3 (zJ4 9 6 9 false [(11,bv (decide (a1≥48)))] [] h4 zB))) ?_
    exact zU rfl
 ·refine wR (fun h6=>?_) (fun h6=>?_)
  ·refine wR (fun h7=>?_) (fun h7=>?_)
   ·refine J_g 6 [] [(2,bv true)] [] (xR 2 [(4,bv (decide (a1≥97)))] [] h2 (zJ4 9 6 9 false [(11,bv (decide (a1≥48)))] [] h6 (xR 14 [(16,bv (decide (a1≤57)))] [] h7 zB))) ?_
    exact zU rfl
   ·refine J_g 6 [] [(2,bv (a1==95))] [] (xR 2 [(4,bv (decide (a1≥97)))] [] h2 (zJ4 9 6 9 false [(11,bv (decide (a1≥48)))] [] h6 (xR 14 [(16,bv (decide (a1≤57)))] [] h7 zB))) ?_
    exact zU rfl
  ·refine J_g 6 [] [(2,bv (a1==95))] [] (xR 2 [(4,bv (decide (a1≥97)))] [] h2 (zJ4 9 6 9 false [(11,bv (decide (a1≥48)))] [] h6 zB)) ?_
   exact zU rfl
noncomputable def zMM:Code:=(Tryz.f189.body).getD .skip
theorem tT.ok (a1:ByteArray) (q:Wd) (kn:Unit→Option (D×List Ent)) (hk:∀v:Unit,J (q.g Tryz.prog 189 0 33) zMM (atI zMM 15) (St.mk' [] []) (some v) kn):
  ∀s17:Int,J (q.g Tryz.prog 189 0 33) zMM (atI zMM 116) (St.mk' [(0,sv a1),(23,iv (a1.size:Int)),(24,iv s17)] []) (tT a1 s17) (Fl.go (fun r:Int=>some (iv r,[])) kn):=by
 refine zAz (fun g ih s17=>?_)
 unfold zAJ
 refine J_d 232 [] [25] [(25,bv (decide (s17< (a1.size:Int))))] [] [] zB ?_
 refine zC 25 (fun h18=>?_) (fun h18=>?_)
 ·refine J_d 3736 [] [3,25] [(3,iv s17)] [] [] zB ?_
  refine zA (fun x19 h20=>?_)
  refine zA (fun x21 h22=>?_)
  refine J_d 7474 [] [3,31] [(31,bv (!x21))] [] [] (zD 2 (zIy (kk:=.i64) 9 (.tmp 27) (.tmp 28) h20) (zD 3 (xH [(.tmp 29)] [5] (yZ.ok x19) h22) zB)) ?_
  refine zC 31 (fun h23=>?_) (fun h23=>?_)
  ·refine J_g 29900 [] [(2,iv 5)] [] zB ?_
   exact zU rfl
  ·refine J_d 935 [] [24,31] [(24,iv (w64 (s17+1)))] [] [] zB ?_
   exact J_q (J_b (ih (w64 (s17+1)))) rfl
 ·exact yQ (hk ()) rfl
theorem wF.ok (a1:ByteArray):Ok Tryz.prog 189 [sv a1] [] ((wF a1).map fun r=>(iv r,[])):=by
 refine zH zMM Tryz.f189 0 33 (fun q=>?_)
 unfold wF
 refine J_g 2 [] [(0,sv a1)] [] zB ?_
 refine xC (atI zMM 13) (fun v9:Bool=>St.mk' [(0,sv a1),(21,bv v9)] []) (fun v9=>?_) (fun jv9=>?_)
 ·refine zC 21 (fun h10=>?_) (fun h10=>?_)
  ·refine J_g 52 [] [(2,iv 5)] [] zB ?_
   exact zU rfl
  ·refine J_g 28 [] [(0,sv a1),(23,iv (a1.size:Int)),(24,iv 0)] [] zB ?_
   refine uQ (K0:=(fun r:Int=>some (iv r,[]))) (fun _=>rfl) (tT.ok a1 q _ (fun v24=>J_j ?_) 0)
   refine J_g 30 [] [(2,iv 0)] [] zB ?_
   exact zU rfl
 ·refine wR (fun h2=>?_) (fun h2=>?_)
  ·refine J_g 12 [] [(0,sv a1),(21,bv true)] [] (xR 3 [(6,bv (decide ((a1.size:Int)<1)))] [] h2 zB) ?_
   exact yQ (J_j (jv9 true)) rfl
  ·refine wR (fun h3=>?_) (fun h3=>?_)
   ·refine J_g 12 [] [(0,sv a1),(21,bv true)] [] (xR 3 [(6,bv (decide ((a1.size:Int)<1)))] [] h2 (xR 8 [(11,bv (decide ((a1.size:Int)>12)))] [] h3 zB)) ?_
    exact yQ (J_j (jv9 true)) rfl
   ·refine zA (fun x4 h5=>?_)
    refine wR (fun h6=>?_) (fun h6=>?_)
    ·refine J_g 12 [] [(0,sv a1),(21,bv true)] [] (xR 3 [(6,bv (decide ((a1.size:Int)<1)))] [] h2 (xR 8 [(11,bv (decide ((a1.size:Int)>12)))] [] h3 (zCN 10 8 12 false (zIy (kk:=.i64) 9 (.tmp 13) (.const (.int .i64 0)) h5) (xR 13 [(16,bv (decide (x4<97)))] [] h6 zB)))) ?_
     exact yQ (J_j (jv9 true)) rfl
    ·refine zA (fun x7 h8=>?_)
     refine J_g 12 [] [(0,sv a1),(21,bv (decide (x7>122)))] [] (xR 3 [(6,bv (decide ((a1.size:Int)<1)))] [] h2 (xR 8 [(11,bv (decide ((a1.size:Int)>12)))] [] h3 (zCN 10 8 12 false (zIy (kk:=.i64) 9 (.tmp 13) (.const (.int .i64 0)) h5) (xR 13 [(16,bv (decide (x4<97)))] [] h6 (zCN 15 13 17 false (zIy (kk:=.i64) 9 (.tmp 18) (.const (.int .i64 0)) h8) zB))))) ?_
     exact yQ (J_j (jv9 (decide (x7>122)))) rfl
noncomputable def zO4:Code:=(Tryz.f114.body).getD .skip
theorem yO.ok (a1:Int) (a2:Int) (a3:Int):Ok Tryz.prog 114 [iv a1,iv a2,iv a3] [] ((yO a1 a2 a3).map fun r=>(bv r,[])):=by
 refine zH zO4 Tryz.f114 0 15 (fun q=>?_)
 unfold yO
 refine J_d 2 [] [] [] [] [] zB ?_
 refine wR (fun h4=>?_) (fun h4=>?_)
 ·refine J_g 6 [] [(6,bv (decide (a1≤a3)))] [] (xR 3 [(9,bv (decide (a2≤a1)))] [] h4 zB) ?_
  exact zU rfl
 ·refine J_g 6 [] [(6,bv false)] [] (xR 3 [(9,bv (decide (a2≤a1)))] [] h4 zB) ?_
  exact zU rfl
noncomputable def zOr:Code:=(Tryz.f190.body).getD .skip
theorem xE.ok (a1:Version):Ok Tryz.prog 190 [.ag (Version.enc a1)] [] ((xE a1).map fun r=>(iv r,[])):=by
 refine zH zOr Tryz.f190 0 19 (fun q=>?_)
 unfold xE
 refine J_g 2 [(0,0)] [(1,pp 0)] [(0,.box (Version.enc a1))] zB ?_
 refine zA (fun x2 h3=>?_)
 refine xC (atI zOr 13) (fun v10:Bool=>St.mk' [(18,bv v10)] []) (fun v10=>?_) (fun jv10=>?_)
 ·refine zC 18 (fun h11=>?_) (fun h11=>?_)
  ·refine J_g 52 [] [(2,iv 3)] [] zB ?_
   exact zU rfl
  ·refine J_g 14 [] [(2,iv 0)] [] zB ?_
   exact zU rfl
 ·refine wR (fun h4=>?_) (fun h4=>?_)
  ·refine J_g 12 [] [(18,bv true)] [] (zD 2 (xH [(.tmp 4),(.const (.int .i64 0)),(.const (.int .i64 999))] [2,2,2] (yO.ok a1.A 0 999) h3) (xR 4 [(6,bv (!x2))] [] h4 zB)) ?_
   exact yQ (J_j (jv10 true)) rfl
  ·refine zA (fun x5 h6=>?_)
   refine wR (fun h7=>?_) (fun h7=>?_)
   ·refine J_g 12 [] [(18,bv true)] [] (zD 2 (xH [(.tmp 4),(.const (.int .i64 0)),(.const (.int .i64 999))] [2,2,2] (yO.ok a1.A 0 999) h3) (xR 4 [(6,bv (!x2))] [] h4 (zCN 7 4 7 false (xH [(.tmp 9),(.const (.int .i64 0)),(.const (.int .i64 999))] [2,2,2] (yO.ok a1.B 0 999) h6) (xR 10 [(12,bv (!x5))] [] h7 zB)))) ?_
    exact yQ (J_j (jv10 true)) rfl
   ·refine zA (fun x8 h9=>?_)
    refine J_g 12 [] [(18,bv (!x8))] [] (zD 2 (xH [(.tmp 4),(.const (.int .i64 0)),(.const (.int .i64 999))] [2,2,2] (yO.ok a1.A 0 999) h3) (xR 4 [(6,bv (!x2))] [] h4 (zCN 7 4 7 false (xH [(.tmp 9),(.const (.int .i64 0)),(.const (.int .i64 999))] [2,2,2] (yO.ok a1.B 0 999) h6) (xR 10 [(12,bv (!x5))] [] h7 (zCN 13 10 13 false (xH [(.tmp 15),(.const (.int .i64 0)),(.const (.int .i64 999))] [2,2,2] (yO.ok a1.C 0 999) h9) zB))))) ?_
    exact yQ (J_j (jv10 (!x8))) rfl
noncomputable def c67:Code:=(Tryz.f67.body).getD .skip
theorem jC.ok (a1:(List Int)) (q:Wd) (kn:Unit→Option (D×List Ent)) (hk:∀v:Unit,J (q.g Tryz.prog 67 0 15) c67 (atI c67 7) (St.mk' [] []) (some v) kn):
  ∀s6:Int,J (q.g Tryz.prog 67 0 15) c67 (atI c67 52) (St.mk' [(5,sl 1 zJ a1),(6,iv (a1.length:Int)),(7,iv s6)] []) (jC a1 s6) (Fl.go (fun r:Int=>some (iv r,[])) kn):=by
 refine zAz (fun g ih s6=>?_)
 unfold kK
 refine J_d 104 [] [8] [(8,bv (decide (s6< (a1.length:Int))))] [] [] zB ?_
 refine zC 8 (fun h7=>?_) (fun h7=>?_)
 ·refine zA (fun x8 h9=>?_)
  refine J_g 1688 [] [(4,iv x8),(5,sl 1 zJ a1),(6,iv (a1.length:Int)),(7,iv s6)] [] (zD 0 (zAc (kk:=.i64) 42 2 1 zJ (.tmp 5) (.tmp 7) h9) zB) ?_
  refine J_d 3378 [] [12] [(12,bv (x8 !=0))] [] [] zB ?_
  refine zC 12 (fun h10=>?_) (fun h10=>?_)
  ·refine J_g 13516 [] [(2,iv x8)] [] zB ?_
   exact zU rfl
  ·refine J_d 423 [] [4,7,12] [(7,iv (w64 (s6+1)))] [] [] zB ?_
   exact J_q (J_b (ih (w64 (s6+1)))) rfl
 ·exact yQ (hk ()) rfl
theorem wG.ok (a1:(List Int)):Ok Tryz.prog 67 [sl 1 zJ a1] [] ((wG a1).map fun r=>(iv r,[])):=by
 refine zH c67 Tryz.f67 0 15 (fun q=>?_)
 unfold wG
 refine J_g 2 [] [(0,sl 1 zJ a1)] [] zB ?_
 refine J_g 12 [] [(5,sl 1 zJ a1),(6,iv (a1.length:Int)),(7,iv 0)] [] zB ?_
 refine uQ (K0:=(fun r:Int=>some (iv r,[]))) (fun _=>rfl) (jC.ok a1 q _ (fun v11=>J_j ?_) 0)
 refine J_g 14 [] [(2,iv 0)] [] zB ?_
 exact zU rfl
noncomputable def zOE:Code:=(Tryz.f192.body).getD .skip
theorem jW.ok (a1:(List Term)):Ok Tryz.prog 192 [sl 7 Term.enc a1] [] ((jW a1).map fun r=>(bv r,[])):=by
 refine zH zOE Tryz.f192 0 6 (fun q=>?_)
 unfold jW
 refine J_g 2 [] [(0,sl 7 Term.enc a1)] [] zB ?_
 refine J_g 6 [] [(2,bv (decide ((a1.length:Int)>4)))] [] zB ?_
 exact zU rfl
noncomputable def zNw:Code:=(Tryz.f259.body).getD .skip
theorem zZ.ok (a1:(List (List Term))) (q:Wd) (kn:Unit→Option (D×List Ent)) (hk:∀v:Unit,J (q.g Tryz.prog 259 0 19) zNw (atI zNw 7) (St.mk' [] []) (some v) kn):
  ∀s8:Int,J (q.g Tryz.prog 259 0 19) zNw (atI zNw 52) (St.mk' [(0,sl 1 (eSl false 7 Term.enc) a1),(1,.fn 192 []),(7,iv (a1.length:Int)),(8,iv s8)] []) (zZ a1 s8) (Fl.go (fun r:Int=>some (iv r,[])) kn):=by
 refine zAz (fun g ih s8=>?_)
 unfold zV
 refine J_d 104 [] [9] [(9,bv (decide (s8< (a1.length:Int))))] [] [] zB ?_
 refine zC 9 (fun h9=>?_) (fun h9=>?_)
 ·refine J_d 1688 [] [5,9] [(5,iv s8)] [] [] zB ?_
  refine zA (fun x10 h11=>?_)
  refine zA (fun x12 h13=>?_)
  refine J_d 3378 [] [16] [(16,bv x12)] [] [] (zD 3 (zAc (kk:=.i64) 87 53 1 (eSl false 7 Term.enc) (.tmp 12) (.tmp 13) h11) (zD 5 (zKR («as»:=[sl 7 Term.enc x10]) (caps:=[]) 11 [(.tmp 15)] [53] (jW.ok x10) h13) zB)) ?_
  refine zC 16 (fun h14=>?_) (fun h14=>?_)
  ·refine J_g 13516 [] [(4,iv s8)] [] zB ?_
   exact zU rfl
  ·refine J_d 423 [] [5,8,16] [(8,iv (w64 (s8+1)))] [] [] zB ?_
   exact J_q (J_b (ih (w64 (s8+1)))) rfl
 ·exact yQ (hk ()) rfl
theorem zS.ok (a1:(List (List Term))):Ok Tryz.prog 259 [sl 1 (eSl false 7 Term.enc) a1,.fn 192 []] [] ((zS a1).map fun r=>(iv r,[])):=by
 refine zH zNw Tryz.f259 0 19 (fun q=>?_)
 unfold zS
 refine J_g 2 [] [(0,sl 1 (eSl false 7 Term.enc) a1),(1,.fn 192 [])] [] zB ?_
 refine J_d 12 [] [7,8] [(7,iv (a1.length:Int)),(8,iv 0)] [] [] zB ?_
 refine uQ (K0:=(fun r:Int=>some (iv r,[]))) (fun _=>rfl) (zZ.ok a1 q _ (fun v15=>J_j ?_) 0)
 refine J_g 14 [] [(4,iv (-1))] [] zB ?_
 exact zU rfl
noncomputable def zPc:Code:=(Tryz.f191.body).getD .skip
theorem zM.ok (a1:(List (List Term))):Ok Tryz.prog 191 [sl 1 (eSl false 7 Term.enc) a1,.fn 192 []] [] ((zM a1).map fun r=>(bv r,[])):=by
 refine zH zPc Tryz.f191 0 9 (fun q=>?_)
 unfold zM
 refine J_d 2 [] [] [] [] [] zB ?_
 refine zA (fun x2 h3=>?_)
 refine J_g 6 [] [(4,bv (decide (x2≥0)))] [] (zD 2 (jO («as»:=[sl 1 (eSl false 7 Term.enc) a1,.fn 192 []]) [(.tmp 5),(.tmp 6)] [87,186] false [] [] (.cons (.same rfl) (.cons (.fn (.nil)) (.nil))) (zS.ok a1) h3 (.same rfl rfl)) zB) ?_
 exact zU rfl
noncomputable def zN1:Code:=(Tryz.f254.body).getD .skip
theorem wX.ok (a1:(List ByteArray)) (a2:ByteArray) (q:Wd) (kn:Unit→Option (D×List Ent)) (hk:∀v:Unit,J (q.g Tryz.prog 254 0 19) zN1 (atI zN1 7) (St.mk' [] []) (some v) kn):
  ∀s7:Int,J (q.g Tryz.prog 254 0 19) zN1 (atI zN1 52) (St.mk' [(0,sl 1 eStr a1),(1,sv a2),(7,iv (a1.length:Int)),(8,iv s7)] []) (wX a1 a2 s7) (Fl.go (fun r:Int=>some (iv r,[])) kn):=by
 refine zAz (fun g ih s7=>?_)
 unfold wP
 refine J_d 104 [] [9] [(9,bv (decide (s7< (a1.length:Int))))] [] [] zB ?_
 refine zC 9 (fun h8=>?_) (fun h8=>?_)
 ·refine J_d 1688 [] [5,9] [(5,iv s7)] [] [] zB ?_
  refine zA (fun x9 h10=>?_)
  refine J_d 3378 [] [16] [(16,bv (seq a2 x9))] [] [] (zD 3 (zAc (kk:=.i64) 70 9 1 eStr (.tmp 12) (.tmp 13) h10) zB) ?_
  refine zC 16 (fun h11=>?_) (fun h11=>?_)
  ·refine J_g 13516 [] [(4,iv s7)] [] zB ?_
   exact zU rfl
  ·refine J_d 423 [] [5,8,16] [(8,iv (w64 (s7+1)))] [] [] zB ?_
   exact J_q (J_b (ih (w64 (s7+1)))) rfl
 ·exact yQ (hk ()) rfl
theorem vG.ok (a1:(List ByteArray)) (a2:ByteArray):Ok Tryz.prog 254 [sl 1 eStr a1,sv a2] [] ((vG a1 a2).map fun r=>(iv r,[])):=by
 refine zH zN1 Tryz.f254 0 19 (fun q=>?_)
 unfold vG
 refine J_g 2 [] [(0,sl 1 eStr a1),(1,sv a2)] [] zB ?_
 refine J_d 12 [] [7,8] [(7,iv (a1.length:Int)),(8,iv 0)] [] [] zB ?_
 refine uQ (K0:=(fun r:Int=>some (iv r,[]))) (fun _=>rfl) (wX.ok a1 a2 q _ (fun v12=>J_j ?_) 0)
 refine J_g 14 [] [(4,iv (-1))] [] zB ?_
 exact zU rfl
noncomputable def c182:Code:=(Tryz.f182.body).getD .skip
theorem yR.ok (a1:(List ByteArray)) (a2:ByteArray):Ok Tryz.prog 182 [sl 1 eStr a1,sv a2] [] ((yR a1 a2).map fun r=>(bv r,[])):=by
 refine zH c182 Tryz.f182 0 9 (fun q=>?_)
 unfold yR
 refine J_d 2 [] [] [] [] [] zB ?_
 refine zA (fun x3 h4=>?_)
 refine J_g 6 [] [(4,bv (decide (x3≥0)))] [] (zD 2 (xH [(.tmp 5),(.tmp 6)] [70,9] (vG.ok a1 a2) h4) zB) ?_
 exact zU rfl
noncomputable def zO6:Code:=(Tryz.f276.body).getD .skip
theorem zDk.ok:Ok Tryz.prog 276 [] [] ((zDk).map fun r=>(.ag (Version.enc r),[])):=by
 refine zH zO6 Tryz.f276 0 2 (fun q=>?_)
 unfold zDk
 refine J_g 2 [(0,0)] [(0,pp 0)] [(0,.box [iv 0,iv 0,iv 0])] zB ?_
 refine J_g 6 [] [(0,pp 0)] [(0,.box [iv 1000,iv 0,iv 0])] zB ?_
 exact zU rfl
noncomputable def zOH:Code:=(Tryz.f336.body).getD .skip
theorem uF.ok (a1:Int):Ok Tryz.prog 336 [iv a1] [] ((uF a1).map fun r=>(bv r,[])):=by
 refine zH zOH Tryz.f336 0 6 (fun q=>?_)
 unfold uF
 refine J_g 2 [] [(0,iv a1)] [] zB ?_
 refine J_g 6 [] [(2,bv (a1 !=a1))] [] zB ?_
 exact zU rfl
noncomputable def zO1:Code:=(Tryz.f318.body).getD .skip
theorem xG.ok (a1:Int) (a2:Int):Ok Tryz.prog 318 [iv a1,iv a2] [] ((xG a1 a2).map fun r=>(iv r,[])):=by
 refine zH zO1 Tryz.f318 0 20 (fun q=>?_)
 unfold xG
 refine J_d 2 [] [] [] [] [] zB ?_
 refine zA (fun x3 h4=>?_)
 refine J_d 6 [] [5] [(5,bv x3)] [] [] (zD 1 (xH [(.tmp 7)] [2] (uF.ok a1) h4) zB) ?_
 refine zA (fun x5 h6=>?_)
 refine J_g 14 [] [(0,iv a1),(1,iv a2),(5,bv x3),(6,bv x5)] [] (zD 1 (xH [(.tmp 9)] [2] (uF.ok a2) h6) zB) ?_
 refine J_d 60 [] [5,11] [(11,bv x3)] [] [] zB ?_
 refine zC 11 (fun h7=>?_) (fun h7=>?_)
 ·refine J_g 488 [] [(12,bv x5)] [] zB ?_
  refine zC 12 (fun h8=>?_) (fun h8=>?_)
  ·refine J_g 1956 [] [(4,iv 0)] [] zB ?_
   exact zU rfl
  ·refine J_g 490 [] [(4,iv (-1))] [] zB ?_
   exact zU rfl
 ·refine J_g 124 [] [(0,iv a1),(1,iv a2),(13,bv x5)] [] zB ?_
  refine zC 13 (fun h9=>?_) (fun h9=>?_)
  ·refine J_g 500 [] [(4,iv 1)] [] zB ?_
   exact zU rfl
  ·refine J_d 252 [] [13,16] [(16,bv (decide (a1<a2)))] [] [] zB ?_
   refine zC 16 (fun h10=>?_) (fun h10=>?_)
   ·refine J_g 1012 [] [(4,iv (-1))] [] zB ?_
    exact zU rfl
   ·refine J_g 508 [] [(19,bv (decide (a1>a2)))] [] zB ?_
    refine zC 19 (fun h11=>?_) (fun h11=>?_)
    ·refine J_g 2036 [] [(4,iv 1)] [] zB ?_
     exact zU rfl
    ·refine J_g 510 [] [(4,iv 0)] [] zB ?_
     exact zU rfl
noncomputable def zN0:Code:=(Tryz.f317.body).getD .skip
theorem zCr.ok (a1:(List Int)) (q:Wd) (kn:Unit→Option (D×List Ent)) (hk:∀v:Unit,J (q.g Tryz.prog 317 0 18) zN0 (atI zN0 15) (St.mk' [(3,iv 0)] []) (some v) kn):
  ∀s6:Int,J (q.g Tryz.prog 317 0 18) zN0 (atI zN0 116) (St.mk' [(3,iv 0),(6,sl 1 zJ a1),(7,iv (a1.length:Int)),(8,iv s6)] []) (zCr a1 s6) (Fl.go (fun r:Int=>some (iv r,[])) kn):=by
 refine zAz (fun g ih s6=>?_)
 unfold zBA
 refine J_d 232 [] [9] [(9,bv (decide (s6< (a1.length:Int))))] [] [] zB ?_
 refine zC 9 (fun h7=>?_) (fun h7=>?_)
 ·refine zA (fun x8 h9=>?_)
  refine J_g 3736 [] [(3,iv 0),(5,iv x8),(6,sl 1 zJ a1),(7,iv (a1.length:Int)),(8,iv s6)] [] (zD 0 (zAc (kk:=.i64) 331 3 1 zJ (.tmp 6) (.tmp 8) h9) zB) ?_
  refine J_d 7474 [] [14] [(14,bv (x8 !=0))] [] [] zB ?_
  refine zC 14 (fun h10=>?_) (fun h10=>?_)
  ·refine J_g 29900 [] [(2,iv x8)] [] zB ?_
   exact zU rfl
  ·refine J_d 935 [] [5,8,14] [(8,iv (w64 (s6+1)))] [] [] zB ?_
   exact J_q (J_b (ih (w64 (s6+1)))) rfl
 ·exact yQ (hk ()) rfl
theorem zCP.ok (a1:(List Int)):Ok Tryz.prog 317 [sl 1 zJ a1] [] ((zCP a1).map fun r=>(iv r,[])):=by
 refine zH zN0 Tryz.f317 0 18 (fun q=>?_)
 unfold zCP
 refine J_g 2 [] [(0,sl 1 zJ a1)] [] zB ?_
 refine J_g 6 [] [(0,sl 1 zJ a1),(3,iv 0)] [] zB ?_
 refine J_g 28 [] [(3,iv 0),(6,sl 1 zJ a1),(7,iv (a1.length:Int)),(8,iv 0)] [] zB ?_
 refine uQ (K0:=(fun r:Int=>some (iv r,[]))) (fun _=>rfl) (zCr.ok a1 q _ (fun v11=>J_j ?_) 0)
 refine J_g 30 [] [(2,iv 0)] [] zB ?_
 exact zU rfl
noncomputable def zOW:Code:=(Tryz.f278.body).getD .skip
theorem zBs.ok (a1:Version) (a2:Version):Ok Tryz.prog 278 [.ag (Version.enc a1),.ag (Version.enc a2)] [] ((zBs a1 a2).map fun r=>(iv r,[])):=by
 refine zH zOW Tryz.f278 0 22 (fun q=>?_)
 unfold zBs
 refine J_g 2 [(0,0),(1,1)] [(2,pp 0),(3,pp 1)] [(0,.box (Version.enc a1)),(1,.box (Version.enc a2))] zB ?_
 refine zA (fun x3 h4=>?_)
 refine zA (fun x5 h6=>?_)
 refine zA (fun x7 h8=>?_)
 refine zA (fun x9 h10=>?_)
 refine J_g 6 [] [(4,iv x9)] [] (zD 4 (xH [(.tmp 6),(.tmp 8)] [2,2] (xG.ok a1.A a2.A) h4) (zD 9 (xH [(.tmp 11),(.tmp 13)] [2,2] (xG.ok a1.B a2.B) h6) (zD 14 (xH [(.tmp 16),(.tmp 18)] [2,2] (xG.ok a1.C a2.C) h8) (zD 15 (zCR 331 3 1 2 zJ [x3,x5,x7] [0,1,2] [(.tmp 9),(.tmp 14),(.tmp 19)] [iv x3,iv x5,iv x7]) (zD 16 (jO («as»:=[rr 2 [x3,x5,x7]]) [(.tmp 20)] [331] true [(2,rE 1 zJ [x3,x5,x7])] [] (.cons (zDP (.head _) (fun _=>rfl) rfl) (.nil)) (zCP.ok [x3,x5,x7]) h10 (.same rfl rfl) (hbor:=fun _=>⟨fhN,yI⟩)) zB))))) ?_
 exact zU rfl
noncomputable def c228:Code:=(Tryz.f228.body).getD .skip
theorem kR.ok (a1:Term):Ok Tryz.prog 228 [.ag (Term.enc a1)] [] ((kR a1).map fun r=>(iv r,[])):=by
 refine zH c228 Tryz.f228 0 35 (fun q=>?_)
 unfold kR
 refine J_g 2 [(0,0)] [(1,pp 0)] [(0,.box (Term.enc a1))] zB ?_
 refine zA (fun x2 h3=>?_)
 refine J_g 12 [] [(1,pp 0),(3,iv x2)] [(0,.box (Term.enc a1))] (zD 2 (xH [(.tmp 6)] [9] (wF.ok a1.Name) h3) zB) ?_
 refine J_d 26 [] [9] [(9,bv (x2 !=0))] [] [] zB ?_
 refine zC 9 (fun h4=>?_) (fun h4=>?_)
 ·refine J_g 108 [] [(2,iv x2)] [] zB ?_
  exact zU rfl
 ·refine zA (fun x5 h6=>?_)
  refine J_g 28 [] [(1,pp 0),(4,iv x5)] [(0,.box (Term.enc a1))] (zD 2 (xH [(.tmp 12)] [86] (xE.ok a1.Low) h6) zB) ?_
  refine J_d 58 [] [15] [(15,bv (x5 !=0))] [] [] zB ?_
  refine zC 15 (fun h7=>?_) (fun h7=>?_)
  ·refine J_g 236 [] [(2,iv x5)] [] zB ?_
   exact zU rfl
  ·refine zA (fun x8 h9=>?_)
   refine xC (atI c228 121) (fun v13:Bool=>St.mk' [(1,pp 0),(17,bv v13)] [(0,.box (Term.enc a1))]) (fun v13=>?_) (fun jv13=>?_)
   ·refine zC 17 (fun h14=>?_) (fun h14=>?_)
    ·refine J_g 484 [] [(2,iv 3)] [] zB ?_
     exact zU rfl
    ·refine zA (fun x15 h16=>?_)
     refine J_g 486 [] [(28,bv (decide (x15≥0)))] [] (zD 4 (xH [(.tmp 30),(.tmp 32)] [86,86] (zBs.ok a1.Low a1.High) h16) zB) ?_
     refine zC 28 (fun h17=>?_) (fun h17=>?_)
     ·refine J_g 1948 [] [(2,iv 1)] [] zB ?_
      exact zU rfl
     ·refine J_g 62 [] [(2,iv 0)] [] zB ?_
      exact zU rfl
   ·refine wR (fun h10=>?_) (fun h10=>?_)
    ·refine zA (fun x11 h12=>?_)
     refine J_d 120 [] [4,15,17] [(17,bv (x11 !=0))] [] [] (zD 2 (xH [] [] (zDk.ok) h9) (zD 3 (zKY (b:=.neq) (r:=(a1.High.A==x8.A&&(a1.High.B==x8.B&&(a1.High.C==x8.C&&true)))) 86 86 (.tmp 19) (.tmp 20) [.int .i64 a1.High.A,.int .i64 a1.High.B,.int .i64 a1.High.C] [.int .i64 x8.A,.int .i64 x8.B,.int .i64 x8.C] (.inr ⟨rfl,rfl⟩)) (xR 4 [(21,bv (!(a1.High.A==x8.A&&(a1.High.B==x8.B&&(a1.High.C==x8.C&&true)))))] [] h10 (zCN 7 4 22 true (xH [(.tmp 24)] [86] (xE.ok a1.High) h12) zB)))) ?_
     exact yQ (J_j (jv13 (x11 !=0))) rfl
    ·refine J_d 120 [] [4,15,17] [(17,bv false)] [] [] (zD 2 (xH [] [] (zDk.ok) h9) (zD 3 (zKY (b:=.neq) (r:=(a1.High.A==x8.A&&(a1.High.B==x8.B&&(a1.High.C==x8.C&&true)))) 86 86 (.tmp 19) (.tmp 20) [.int .i64 a1.High.A,.int .i64 a1.High.B,.int .i64 a1.High.C] [.int .i64 x8.A,.int .i64 x8.B,.int .i64 x8.C] (.inr ⟨rfl,rfl⟩)) (xR 4 [(21,bv (!(a1.High.A==x8.A&&(a1.High.B==x8.B&&(a1.High.C==x8.C&&true)))))] [] h10 zB))) ?_
     exact yQ (J_j (jv13 false)) rfl
noncomputable def c193:Code:=(Tryz.f193.body).getD .skip
theorem kI.ok (a1:(List Term)) (q:Wd) (kn:Unit→Option (D×List Ent)) (hk:∀v:Unit,J (q.g Tryz.prog 193 0 18) c193 (atI c193 7) (St.mk' [] []) (some v) kn):
  ∀s8:Int,J (q.g Tryz.prog 193 0 18) c193 (atI c193 52) (St.mk' [(6,sl 7 Term.enc a1),(7,iv (a1.length:Int)),(8,iv s8)] []) (kI a1 s8) (Fl.go (fun r:Int=>some (iv r,[])) kn):=by
 refine zAz (fun g ih s8=>?_)
 unfold jF
 refine J_d 104 [] [9] [(9,bv (decide (s8< (a1.length:Int))))] [] [] zB ?_
 refine zC 9 (fun h9=>?_) (fun h9=>?_)
 ·refine zA (fun x10 h11=>?_)
  refine J_d 1688 [(2,0)] [4,9] [(4,pp 0)] [0] [(0,.box (Term.enc x10))] (zD 0 (zAc (kk:=.i64) 53 153 7 Term.enc (.tmp 6) (.tmp 8) h11) zB) ?_
  refine zA (fun x12 h13=>?_)
  refine J_g 3378 [] [(5,iv x12),(6,sl 7 Term.enc a1),(7,iv (a1.length:Int)),(8,iv s8)] [] (zD 1 (xH [(.tmp 12)] [153] (kR.ok x10) h13) zB) ?_
  refine J_d 6758 [] [15] [(15,bv (x12 !=0))] [] [] zB ?_
  refine zC 15 (fun h14=>?_) (fun h14=>?_)
  ·refine J_g 27036 [] [(2,iv x12)] [] zB ?_
   exact zU rfl
  ·refine J_d 423 [] [5,8,15] [(8,iv (w64 (s8+1)))] [] [] zB ?_
   exact J_q (J_b (ih (w64 (s8+1)))) rfl
 ·exact yQ (hk ()) rfl
theorem wJ.ok (a1:(List Term)):Ok Tryz.prog 193 [sl 7 Term.enc a1] [] ((wJ a1).map fun r=>(iv r,[])):=by
 refine zH c193 Tryz.f193 0 18 (fun q=>?_)
 unfold wJ
 refine J_g 2 [] [(0,sl 7 Term.enc a1)] [] zB ?_
 refine J_g 12 [] [(6,sl 7 Term.enc a1),(7,iv (a1.length:Int)),(8,iv 0)] [] zB ?_
 refine uQ (K0:=(fun r:Int=>some (iv r,[]))) (fun _=>rfl) (kI.ok a1 q _ (fun v15=>J_j ?_) 0)
 refine J_g 14 [] [(2,iv 0)] [] zB ?_
 exact zU rfl
noncomputable def zKH:Code:=(Tryz.f112.body).getD .skip
theorem tY.ok (a1:Pack) (q:Wd) (kn:Unit→Option (D×List Ent)) (hk:∀v:Unit,J (q.g Tryz.prog 112 0 93) zKH (atI zKH 63) (St.mk' [(1,pp 0)] [(0,.box (Pack.enc false a1))]) (some v) kn):
  ∀s54:Int,J (q.g Tryz.prog 112 0 93) zKH (atI zKH 500) (St.mk' [(1,pp 0),(75,sl 1 (eSl false 7 Term.enc) a1.Needs),(76,iv (a1.Needs.length:Int)),(77,iv s54)] [(0,.box (Pack.enc false a1))]) (tY a1 s54) (Fl.go (fun r:Int=>some (iv r,[])) kn):=by
 refine zAz (fun g ih s54=>?_)
 unfold kL
 refine J_d 1000 [] [78] [(78,bv (decide (s54< (a1.Needs.length:Int))))] [] [] zB ?_
 refine zC 78 (fun h55=>?_) (fun h55=>?_)
 ·refine zA (fun x56 h57=>?_)
  refine J_g 16024 [] [(1,pp 0),(8,sl 7 Term.enc x56),(75,sl 1 (eSl false 7 Term.enc) a1.Needs),(76,iv (a1.Needs.length:Int)),(77,iv s54)] [(0,.box (Pack.enc false a1))] (zD 0 (zAc (kk:=.i64) 87 53 1 (eSl false 7 Term.enc) (.tmp 75) (.tmp 77) h57) zB) ?_
  refine J_d 64100 [] [83] [(83,bv ((x56.length:Int)==0))] [] [] zB ?_
  refine zC 83 (fun h58=>?_) (fun h58=>?_)
  ·refine J_g 256404 [] [(2,iv 1)] [] zB ?_
   exact zU rfl
  ·refine zA (fun x59 h60=>?_)
   refine J_g 64102 [] [(1,pp 0),(9,iv x59),(75,sl 1 (eSl false 7 Term.enc) a1.Needs),(76,iv (a1.Needs.length:Int)),(77,iv s54)] [(0,.box (Pack.enc false a1))] (zD 1 (xH [(.tmp 84)] [53] (wJ.ok x56) h60) zB) ?_
   refine J_d 128206 [] [87] [(87,bv (x59 !=0))] [] [] zB ?_
   refine zC 87 (fun h61=>?_) (fun h61=>?_)
   ·refine J_g 512828 [] [(2,iv x59)] [] zB ?_
    exact zU rfl
   ·refine J_d 4007 [] [9,77,87] [(77,iv (w64 (s54+1)))] [] [] zB ?_
    exact J_q (J_b (ih (w64 (s54+1)))) rfl
 ·exact yQ (hk ()) rfl
theorem jA.ok (a1:Pack) (q:Wd) (kn:Unit→Option (D×List Ent)) (hk:∀v:Unit,J (q.g Tryz.prog 112 0 93) zKH (atI zKH 31) (St.mk' [(1,pp 0)] [(0,.box (Pack.enc false a1))]) (some v) kn):
  ∀s32:Int,J (q.g Tryz.prog 112 0 93) zKH (atI zKH 244) (St.mk' [(1,pp 0),(49,sl 1 eStr a1.Provides),(50,iv (a1.Provides.length:Int)),(51,iv s32)] [(0,.box (Pack.enc false a1))]) (jA a1 s32) (Fl.go (fun r:Int=>some (iv r,[])) kn):=by
 refine zAz (fun g ih s32=>?_)
 unfold kD
 refine J_d 488 [] [52] [(52,bv (decide (s32< (a1.Provides.length:Int))))] [] [] zB ?_
 refine zC 52 (fun h33=>?_) (fun h33=>?_)
 ·refine zA (fun x34 h35=>?_)
  refine J_d 7832 [] [4,5,52] [(4,iv s32),(5,sv x34)] [] [] (zD 1 (zAc (kk:=.i64) 70 9 1 eStr (.tmp 49) (.tmp 51) h35) zB) ?_
  refine zA (fun x36 h37=>?_)
  refine J_g 31332 [] [(1,pp 0),(4,iv s32),(5,sv x34),(6,iv x36),(49,sl 1 eStr a1.Provides),(50,iv (a1.Provides.length:Int)),(51,iv s32)] [(0,.box (Pack.enc false a1))] (zD 1 (xH [(.tmp 56)] [9] (wF.ok x34) h37) zB) ?_
  refine J_d 62666 [] [59] [(59,bv (x36 !=0))] [] [] zB ?_
  refine zC 59 (fun h38=>?_) (fun h38=>?_)
  ·refine J_g 250668 [] [(2,iv x36)] [] zB ?_
   exact zU rfl
  ·refine xC (atI zKH 31335) (fun v44:Bool=>St.mk' [(1,pp 0),(49,sl 1 eStr a1.Provides),(50,iv (a1.Provides.length:Int)),(51,iv s32),(72,bv v44)] [(0,.box (Pack.enc false a1))]) (fun v44=>?_) (fun jv44=>?_)
   ·refine zC 72 (fun h45=>?_) (fun h45=>?_)
    ·refine J_g 125340 [] [(2,iv 6)] [] zB ?_
     exact zU rfl
    ·refine J_d 1959 [] [51,72] [(51,iv (w64 (s32+1)))] [] [] zB ?_
     exact J_q (J_b (ih (w64 (s32+1)))) rfl
   ·refine wR (fun h39=>?_) (fun h39=>?_)
    ·refine J_d 31334 [] [4,5,6,59,72] [(72,bv true)] [] [] (xR 4 [(64,bv (seq x34 a1.Name))] [] h39 zB) ?_
     exact yQ (J_j (jv44 true)) rfl
    ·refine zA (fun x40 h41=>?_)
     refine zA (fun x42 h43=>?_)
     refine J_d 31334 [] [4,5,6,59,72] [(72,bv x42)] [] [] (xR 4 [(64,bv (seq x34 a1.Name))] [] h39 (zCN 8 4 65 false (zNI 70 9 1 eStr (.tmp 67) none (some (.tmp 68)) h41) (zCN 10 4 65 false (xH [(.tmp 69),(.tmp 70)] [70,9] (yR.ok x40 x34) h43) zB))) ?_
     exact yQ (J_j (jv44 x42)) rfl
 ·exact yQ (hk ()) rfl
theorem kQ.ok (a1:Pack):Ok Tryz.prog 112 [.ag (Pack.enc false a1)] [] ((kQ a1).map fun r=>(iv r,[])):=by
 refine zH zKH Tryz.f112 0 93 (fun q=>?_)
 unfold kQ
 refine J_g 2 [(0,0)] [(1,pp 0)] [(0,.box (Pack.enc false a1))] zB ?_
 refine zA (fun x2 h3=>?_)
 refine zA (fun x4 h5=>?_)
 refine zA (fun x6 h7=>?_)
 refine J_g 12 [] [(1,pp 0),(3,iv x6)] [(0,.box (Pack.enc false a1))] (zD 2 (xH [(.tmp 11)] [9] (wF.ok a1.Name) h3) (zD 5 (xH [(.tmp 14)] [86] (xE.ok a1.Version) h5) (zD 6 (zCR 42 2 1 1 zJ [x2,x4] [0,1] [(.tmp 12),(.tmp 15)] [iv x2,iv x4]) (zD 7 (jO («as»:=[rr 1 [x2,x4]]) [(.tmp 16)] [42] true [(1,rE 1 zJ [x2,x4])] [] (.cons (zDP (.head _) (fun _=>rfl) rfl) (.nil)) (wG.ok [x2,x4]) h7 (.same rfl rfl) (hbor:=fun _=>⟨fhN,yI⟩)) zB)))) ?_
 refine J_d 26 [] [19] [(19,bv (x6 !=0))] [] [] zB ?_
 refine zC 19 (fun h8=>?_) (fun h8=>?_)
 ·refine J_g 108 [] [(2,iv x6)] [] zB ?_
  exact zU rfl
 ·refine zA (fun x9 h10=>?_)
  refine J_d 56 [] [3,19,21] [(21,bv (!x9))] [] [] (zD 2 (xH [(.tmp 23),(.const (.int .i64 1)),(.const (.int .i64 200))] [2,2,2] (yO.ok a1.Size 1 200) h10) zB) ?_
  refine zC 21 (fun h11=>?_) (fun h11=>?_)
  ·refine J_g 228 [] [(2,iv 3)] [] zB ?_
   exact zU rfl
  ·refine xC (atI zKH 231) (fun v17:Bool=>St.mk' [(1,pp 0),(26,bv v17)] [(0,.box (Pack.enc false a1))]) (fun v17=>?_) (fun jv17=>?_)
   ·refine zC 26 (fun h18=>?_) (fun h18=>?_)
    ·refine J_g 924 [] [(2,iv 2)] [] zB ?_
     exact zU rfl
    ·refine J_d 60 [] [26,49,50,51] [(49,sl 1 eStr a1.Provides),(50,iv (a1.Provides.length:Int)),(51,iv 0)] [] [] zB ?_
     refine uQ (K0:=(fun r:Int=>some (iv r,[]))) (fun _=>rfl) (jA.ok a1 q _ (fun v46=>J_j ?_) 0)
     refine J_d 124 [] [75,76,77] [(75,sl 1 (eSl false 7 Term.enc) a1.Needs),(76,iv (a1.Needs.length:Int)),(77,iv 0)] [] [] zB ?_
     refine uQ (K0:=(fun r:Int=>some (iv r,[]))) (fun _=>rfl) (tY.ok a1 q _ (fun v62=>J_j ?_) 0)
     refine zA (fun x63 h64=>?_)
     refine J_g 126 [] [(2,iv x63)] [] (zD 2 (xH [(.tmp 91)] [53] (wJ.ok a1.Bars) h64) zB) ?_
     exact zU rfl
   ·refine wR (fun h12=>?_) (fun h12=>?_)
    ·refine J_d 230 [] [21,26] [(26,bv true)] [] [] (xR 4 [(30,bv (decide ((a1.Provides.length:Int)>4)))] [] h12 zB) ?_
     exact yQ (J_j (jv17 true)) rfl
    ·refine wR (fun h13=>?_) (fun h13=>?_)
     ·refine J_d 230 [] [21,26] [(26,bv true)] [] [] (xR 4 [(30,bv (decide ((a1.Provides.length:Int)>4)))] [] h12 (xR 10 [(36,bv (decide ((a1.Needs.length:Int)>4)))] [] h13 zB)) ?_
      exact yQ (J_j (jv17 true)) rfl
     ·refine wR (fun h14=>?_) (fun h14=>?_)
      ·refine J_d 230 [] [21,26] [(26,bv true)] [] [] (xR 4 [(30,bv (decide ((a1.Provides.length:Int)>4)))] [] h12 (xR 10 [(36,bv (decide ((a1.Needs.length:Int)>4)))] [] h13 (xR 16 [(42,bv (decide ((a1.Bars.length:Int)>4)))] [] h14 zB))) ?_
       exact yQ (J_j (jv17 true)) rfl
      ·refine zA (fun x15 h16=>?_)
       refine J_d 230 [] [21,26] [(26,bv x15)] [] [] (xR 4 [(30,bv (decide ((a1.Provides.length:Int)>4)))] [] h12 (xR 10 [(36,bv (decide ((a1.Needs.length:Int)>4)))] [] h13 (xR 16 [(42,bv (decide ((a1.Bars.length:Int)>4)))] [] h14 (zCN 19 16 43 false (jO («as»:=[sl 1 (eSl false 7 Term.enc) a1.Needs,.fn 192 []]) [(.tmp 45),(.func 192)] [87,186] false [] [] (.cons (.same rfl) (.cons (.fn (.nil)) (.nil))) (zM.ok a1.Needs) h16 (.same rfl rfl)) zB)))) ?_
       exact yQ (J_j (jv17 x15)) rfl
noncomputable def zO5:Code:=(Tryz.f195.body).getD .skip
theorem zC4.ok (a1:Pack) (a2:ByteArray) (a3:Version):Ok Tryz.prog 195 [.ag (Pack.enc false a1),pp 0,pp 1] [.box [sv a2],.box (Version.enc a3)] ((zC4 a1 a2 a3).map fun r=>(bv r,[.box [sv a2],.box (Version.enc a3)])):=by
 refine zH zO5 Tryz.f195 2 15 (fun q=>?_)
 unfold zC4
 refine J_d 2 [(0,2)] [0,3] [(3,pp 2)] [2] [(2,.box (Pack.enc false a1))] zB ?_
 refine wR (fun h4=>?_) (fun h4=>?_)
 ·refine J_d 6 [] [1,2,3,4] [(4,bv (a1.Version.A==a3.A&&(a1.Version.B==a3.B&&(a1.Version.C==a3.C&&true))))] [2] [] (xR 4 [(8,bv (seq a1.Name a2))] [] h4 (zCN 8 4 9 true (zKY (b:=.eql) (r:=(a1.Version.A==a3.A&&(a1.Version.B==a3.B&&(a1.Version.C==a3.C&&true)))) 86 86 (.tmp 11) (.tmp 12) [.int .i64 a1.Version.A,.int .i64 a1.Version.B,.int .i64 a1.Version.C] [.int .i64 a3.A,.int .i64 a3.B,.int .i64 a3.C] (.inl ⟨rfl,rfl⟩)) zB)) ?_
  exact zU rfl
 ·refine J_d 6 [] [1,2,3,4] [(4,bv false)] [2] [] (xR 4 [(8,bv (seq a1.Name a2))] [] h4 zB) ?_
  exact zU rfl
noncomputable def c194:Code:=(Tryz.f194.body).getD .skip
theorem yJ.ok (a1:(List Pack)) (a2:ByteArray) (a3:Version) (q:Wd) (kn:Unit→Option (D×List Ent)) (hk:∀v:Unit,J (q.g Tryz.prog 194 2 19) c194 (atI c194 7) (St.mk' [] [(0,.box [sv a2]),(1,.box (Version.enc a3))]) (some v) kn):
  ∀s10:Int,J (q.g Tryz.prog 194 2 19) c194 (atI c194 52) (St.mk' [(0,sl 8 (Pack.enc false) a1),(1,.fn 195 [pp 0,pp 1]),(7,iv (a1.length:Int)),(8,iv s10)] [(0,.box [sv a2]),(1,.box (Version.enc a3))]) (yJ a1 a2 a3 s10) (Fl.go (fun r:Int=>some (iv r,[.box [sv a2],.box (Version.enc a3)])) kn):=by
 refine zAz (fun g ih s10=>?_)
 unfold yH
 refine J_d 104 [] [9] [(9,bv (decide (s10< (a1.length:Int))))] [] [] zB ?_
 refine zC 9 (fun h11=>?_) (fun h11=>?_)
 ·refine J_d 1688 [] [5,9] [(5,iv s10)] [] [] zB ?_
  refine zA (fun x12 h13=>?_)
  refine zA (fun x14 h15=>?_)
  refine J_d 3378 [] [16] [(16,bv x14)] [] [] (zD 3 (zAc (kk:=.i64) 24 89 8 (Pack.enc false) (.tmp 12) (.tmp 13) h13) (zD 5 (zFS [(0,.box [sv a2]),(1,.box (Version.enc a3))] [] (zMZ 11 [(.tmp 15)] [89] false [(0,.box [sv a2]),(1,.box (Version.enc a3))] [0,1] [.ag (Pack.enc false x12)] [pp 0,pp 1] (.cons (.same rfl) (.cons (.pt rfl) (.cons (.pt rfl) (.nil)))) (zC4.ok x12 a2 a3) h15 (.same rfl rfl))) zB)) ?_
  refine zC 16 (fun h16=>?_) (fun h16=>?_)
  ·refine J_d 13516 [] [0,1,4,5,7,8,16] [(4,iv s10)] [] [] zB ?_
   exact zU rfl
  ·refine J_d 423 [] [5,8,16] [(8,iv (w64 (s10+1)))] [] [] zB ?_
   exact J_q (J_b (ih (w64 (s10+1)))) rfl
 ·exact yQ (hk ()) rfl
theorem yF.ok (a1:(List Pack)) (a2:ByteArray) (a3:Version):Ok Tryz.prog 194 [sl 8 (Pack.enc false) a1,.fn 195 [pp 0,pp 1]] [.box [sv a2],.box (Version.enc a3)] ((yF a1 a2 a3).map fun r=>(iv r,[.box [sv a2],.box (Version.enc a3)])):=by
 refine zH c194 Tryz.f194 2 19 (fun q=>?_)
 unfold yF
 refine J_g 2 [] [(0,sl 8 (Pack.enc false) a1),(1,.fn 195 [pp 0,pp 1])] [(0,.box [sv a2]),(1,.box (Version.enc a3))] zB ?_
 refine J_d 12 [] [7,8] [(7,iv (a1.length:Int)),(8,iv 0)] [] [] zB ?_
 refine uQ (K0:=(fun r:Int=>some (iv r,[.box [sv a2],.box (Version.enc a3)]))) (fun _=>rfl) (yJ.ok a1 a2 a3 q _ (fun v17=>J_j ?_) 0)
 refine J_d 14 [] [4] [(4,iv (-1))] [] [] zB ?_
 exact zU rfl
noncomputable def zOA:Code:=(Tryz.f113.body).getD .skip
theorem zB7.ok (a1:(List Pack)) (a2:ByteArray) (a3:Version):Ok Tryz.prog 113 [sl 8 (Pack.enc false) a1,sv a2,.ag (Version.enc a3)] [] ((zB7 a1 a2 a3).map fun r=>(iv r,[])):=by
 refine zH zOA Tryz.f113 0 10 (fun q=>?_)
 unfold zB7
 refine J_d 2 [(0,0),(1,1)] [1,2,4,5] [(4,pp 0),(5,pp 1)] [0,1] [(0,.box [sv a2]),(1,.box (Version.enc a3))] zB ?_
 refine zA (fun x4 h5=>?_)
 refine J_g 6 [] [(6,iv x4)] [] (zD 2 (zFS [(0,.box [sv a2]),(1,.box (Version.enc a3))] [] (jO («as»:=[sl 8 (Pack.enc false) a1,.fn 195 [pp 0,pp 1]]) [(.tmp 7),(.tmp 8)] [24,215] false [(0,.box [sv a2]),(1,.box (Version.enc a3))] [0,1] (.cons (.same rfl) (.cons (.fn (.cons (.pt rfl) (.cons (.pt rfl) (.nil)))) (.nil))) (yF.ok a1 a2 a3) h5 (.same rfl rfl))) zB) ?_
 exact zU rfl
noncomputable def c50:Code:=(Tryz.f50.body).getD .skip
theorem uX.ok (a1:(List Pack)) (q:Wd) (kn:Unit→Option (D×List Ent)) (hk:∀v:Unit,J (q.g Tryz.prog 50 0 31) c50 (atI c50 15) (St.mk' [] []) (some v) kn):
  ∀s14:Int,J (q.g Tryz.prog 50 0 31) c50 (atI c50 116) (St.mk' [(0,sl 8 (Pack.enc false) a1),(9,sl 8 (Pack.enc false) a1),(10,iv (a1.length:Int)),(11,iv s14)] []) (uX a1 s14) (Fl.go (fun r:Int=>some (iv r,[])) kn):=by
 refine zAz (fun g ih s14=>?_)
 unfold uK
 refine J_d 232 [] [12] [(12,bv (decide (s14< (a1.length:Int))))] [] [] zB ?_
 refine zC 12 (fun h15=>?_) (fun h15=>?_)
 ·refine zA (fun x16 h17=>?_)
  refine J_d 3736 [(3,0)] [3,4,12] [(3,iv s14),(4,pp 0)] [0] [(0,.box (Pack.enc false x16))] (zD 1 (zAc (kk:=.i64) 24 89 8 (Pack.enc false) (.tmp 9) (.tmp 11) h17) zB) ?_
  refine zA (fun x18 h19=>?_)
  refine J_g 14948 [] [(0,sl 8 (Pack.enc false) a1),(3,iv s14),(4,pp 0),(5,iv x18),(9,sl 8 (Pack.enc false) a1),(10,iv (a1.length:Int)),(11,iv s14)] [(0,.box (Pack.enc false x16))] (zD 1 (xH [(.tmp 16)] [89] (kQ.ok x16) h19) zB) ?_
  refine J_d 29898 [] [19] [(19,bv (x18 !=0))] [] [] zB ?_
  refine zC 19 (fun h20=>?_) (fun h20=>?_)
  ·refine J_g 119596 [] [(2,iv x18)] [] zB ?_
   exact zU rfl
  ·refine zA (fun x21 h22=>?_)
   refine zA (fun x23 h24=>?_)
   refine J_d 14950 [] [3,4,5,19,29] [(29,bv (decide (x23≥0)))] [0] [] (zD 2 (zNI 24 89 8 (Pack.enc false) (.tmp 21) none (some (.tmp 22)) h22) (zD 7 (xH [(.tmp 23),(.tmp 25),(.tmp 27)] [24,9,86] (zB7.ok x21 x16.Name x16.Version) h24) zB)) ?_
   refine zC 29 (fun h25=>?_) (fun h25=>?_)
   ·refine J_g 59804 [] [(2,iv 6)] [] zB ?_
    exact zU rfl
   ·refine J_d 935 [] [11,29] [(11,iv (w64 (s14+1)))] [] [] zB ?_
    exact J_q (J_b (ih (w64 (s14+1)))) rfl
 ·exact yQ (hk ()) rfl
theorem xV.ok (a1:(List Pack)):Ok Tryz.prog 50 [sl 8 (Pack.enc false) a1] [] ((xV a1).map fun r=>(iv r,[])):=by
 refine zH c50 Tryz.f50 0 31 (fun q=>?_)
 unfold xV
 refine J_g 2 [] [(0,sl 8 (Pack.enc false) a1)] [] zB ?_
 refine J_d 12 [] [8] [(8,bv (decide ((a1.length:Int)>24)))] [] [] zB ?_
 refine zC 8 (fun h2=>?_) (fun h2=>?_)
 ·refine J_g 52 [] [(2,iv 2)] [] zB ?_
  exact zU rfl
 ·refine J_d 28 [] [8,9,10,11] [(9,sl 8 (Pack.enc false) a1),(10,iv (a1.length:Int)),(11,iv 0)] [] [] zB ?_
  refine uQ (K0:=(fun r:Int=>some (iv r,[]))) (fun _=>rfl) (uX.ok a1 q _ (fun v26=>J_j ?_) 0)
  refine J_g 30 [] [(2,iv 0)] [] zB ?_
  exact zU rfl
noncomputable def zMo:Code:=(Tryz.f207.body).getD .skip
theorem jB.ok (a1:ByteArray) (q:Wd) (kn:Unit→Option (D×List Ent)) (hk:∀v:Unit,J (q.g Tryz.prog 207 0 37) zMo (atI zMo 15) (St.mk' [] []) (some v) kn):
  ∀s15:Int,J (q.g Tryz.prog 207 0 37) zMo (atI zMo 116) (St.mk' [(0,sv a1),(14,iv (a1.size:Int)),(15,iv s15)] []) (jB a1 s15) (Fl.go (fun r:Int=>some (iv r,[])) kn):=by
 refine zAz (fun g ih s15=>?_)
 unfold zCl
 refine J_d 232 [] [16] [(16,bv (decide (s15< (a1.size:Int))))] [] [] zB ?_
 refine zC 16 (fun h16=>?_) (fun h16=>?_)
 ·refine J_d 3736 [] [3,16] [(3,iv s15)] [] [] zB ?_
  refine zA (fun x17 h18=>?_)
  refine J_d 7474 [] [3,4] [(4,uv x17)] [] [] (zD 2 (zIy (kk:=.i64) 9 (.tmp 18) (.tmp 19) h18) zB) ?_
  refine zA (fun x19 h20=>?_)
  refine xC (atI zMo 14951) (fun v24:Bool=>St.mk' [(0,sv a1),(14,iv (a1.size:Int)),(15,iv s15),(35,bv v24)] []) (fun v24=>?_) (fun jv24=>?_)
  ·refine zC 35 (fun h25=>?_) (fun h25=>?_)
   ·refine J_g 59804 [] [(2,iv 5)] [] zB ?_
    exact zU rfl
   ·refine J_d 935 [] [15,35] [(15,iv (w64 (s15+1)))] [] [] zB ?_
    exact J_q (J_b (ih (w64 (s15+1)))) rfl
  ·refine wR (fun h21=>?_) (fun h21=>?_)
   ·refine wR (fun h22=>?_) (fun h22=>?_)
    ·refine wR (fun h23=>?_) (fun h23=>?_)
     ·refine J_d 14950 [] [4,35] [(35,bv (x17 !=47))] [] [] (zD 1 (xH [(.tmp 21)] [5] (yZ.ok x17) h20) (xR 3 [(23,bv (!x19))] [] h21 (xR 7 [(27,bv (x17 !=46))] [] h22 (xR 11 [(31,bv (x17 !=45))] [] h23 zB)))) ?_
      exact yQ (J_j (jv24 (x17 !=47))) rfl
     ·refine J_d 14950 [] [4,35] [(35,bv false)] [] [] (zD 1 (xH [(.tmp 21)] [5] (yZ.ok x17) h20) (xR 3 [(23,bv (!x19))] [] h21 (xR 7 [(27,bv (x17 !=46))] [] h22 (xR 11 [(31,bv (x17 !=45))] [] h23 zB)))) ?_
      exact yQ (J_j (jv24 false)) rfl
    ·refine J_d 14950 [] [4,35] [(35,bv false)] [] [] (zD 1 (xH [(.tmp 21)] [5] (yZ.ok x17) h20) (xR 3 [(23,bv (!x19))] [] h21 (xR 7 [(27,bv (x17 !=46))] [] h22 zB))) ?_
     exact yQ (J_j (jv24 false)) rfl
   ·refine J_d 14950 [] [4,35] [(35,bv false)] [] [] (zD 1 (xH [(.tmp 21)] [5] (yZ.ok x17) h20) (xR 3 [(23,bv (!x19))] [] h21 zB)) ?_
    exact yQ (J_j (jv24 false)) rfl
 ·exact yQ (hk ()) rfl
theorem kW.ok (a1:ByteArray):Ok Tryz.prog 207 [sv a1] [] ((kW a1).map fun r=>(iv r,[])):=by
 refine zH zMo Tryz.f207 0 37 (fun q=>?_)
 unfold kW
 refine J_g 2 [] [(0,sv a1)] [] zB ?_
 refine xC (atI zMo 13) (fun v3:Bool=>St.mk' [(0,sv a1),(12,bv v3)] []) (fun v3=>?_) (fun jv3=>?_)
 ·refine zC 12 (fun h4=>?_) (fun h4=>?_)
  ·refine J_g 52 [] [(2,iv 5)] [] zB ?_
   exact zU rfl
  ·refine J_g 28 [] [(0,sv a1),(14,iv (a1.size:Int)),(15,iv 0)] [] zB ?_
   refine uQ (K0:=(fun r:Int=>some (iv r,[]))) (fun _=>rfl) (jB.ok a1 q _ (fun v26=>J_j ?_) 0)
   refine J_g 30 [] [(2,iv 0)] [] zB ?_
   exact zU rfl
 ·refine wR (fun h2=>?_) (fun h2=>?_)
  ·refine J_g 12 [] [(0,sv a1),(12,bv true)] [] (xR 3 [(7,bv (decide ((a1.size:Int)<1)))] [] h2 zB) ?_
   exact yQ (J_j (jv3 true)) rfl
  ·refine J_g 12 [] [(0,sv a1),(12,bv (decide ((a1.size:Int)>40)))] [] (xR 3 [(7,bv (decide ((a1.size:Int)<1)))] [] h2 zB) ?_
   exact yQ (J_j (jv3 (decide ((a1.size:Int)>40)))) rfl
noncomputable def zNj:Code:=(Tryz.f161.body).getD .skip
theorem zAK.ok (a1:zI) (q:Wd) (kn:Int→Option (D×List Ent)) (hk:∀v:Int,J (q.g Tryz.prog 161 0 20) zNj (atI zNj 15) (St.mk' [(3,iv v)] []) (some v) kn):
  ∀s5:(Int×Int),J (q.g Tryz.prog 161 0 20) zNj (atI zNj 116) (St.mk' [(3,iv s5.1),(7,sl 2 (File.enc false) a1.Files),(8,iv (a1.Files.length:Int)),(9,iv s5.2)] []) (zAK a1 s5) kn:=by
 refine zAz (fun g ih s5=>?_)
 unfold zCQ
 refine J_d 232 [] [10] [(10,bv (decide (s5.2< (a1.Files.length:Int))))] [] [] zB ?_
 refine zC 10 (fun h6=>?_) (fun h6=>?_)
 ·refine zA (fun x7 h8=>?_)
  refine J_g 3736 [(2,0)] [(3,iv s5.1),(5,pp 0),(7,sl 2 (File.enc false) a1.Files),(8,iv (a1.Files.length:Int)),(9,iv s5.2)] [(0,.box (File.enc false x7))] (zD 0 (zAc (kk:=.i64) 25 113 2 (File.enc false) (.tmp 7) (.tmp 9) h8) zB) ?_
  refine J_g 3737 [] [(3,iv (w64 (s5.1+(x7.Data.length:Int)))),(7,sl 2 (File.enc false) a1.Files),(8,iv (a1.Files.length:Int)),(9,iv s5.2)] [] zB ?_
  refine J_d 935 [] [9] [(9,iv (w64 (s5.2+1)))] [] [] zB ?_
  exact J_q (J_b (ih (w64 (s5.1+(x7.Data.length:Int)),w64 (s5.2+1)))) rfl
 ·exact yQ (hk s5.1) rfl
theorem zBn.ok (a1:zI):Ok Tryz.prog 161 [.ag (zI.enc false a1)] [] ((zBn a1).map fun r=>(iv r,[])):=by
 refine zH zNj Tryz.f161 0 20 (fun q=>?_)
 unfold zBn
 refine J_g 2 [(0,0)] [(1,pp 0)] [(0,.box (zI.enc false a1))] zB ?_
 refine J_g 6 [] [(1,pp 0),(3,iv 0)] [(0,.box (zI.enc false a1))] zB ?_
 refine J_g 28 [] [(3,iv 0),(7,sl 2 (File.enc false) a1.Files),(8,iv (a1.Files.length:Int)),(9,iv 0)] [] zB ?_
 refine zEE (zAK.ok a1 q _ (fun v9=>J_j ?_) (0,0))
 refine J_g 30 [] [(2,iv v9)] [] zB ?_
 exact zU rfl
noncomputable def c131:Code:=(Tryz.f131.body).getD .skip
theorem tX.ok (a1:zI) (q:Wd) (kn:Unit→Option (D×List Ent)) (hk:∀v:Unit,J (q.g Tryz.prog 131 0 68) c131 (atI c131 15) (St.mk' [(1,pp 0)] [(0,.box (zI.enc false a1))]) (some v) kn):
  ∀s25:Int,J (q.g Tryz.prog 131 0 68) c131 (atI c131 116) (St.mk' [(1,pp 0),(29,sl 2 (File.enc false) a1.Files),(30,iv (a1.Files.length:Int)),(31,iv s25)] [(0,.box (zI.enc false a1))]) (tX a1 s25) (Fl.go (fun r:Int=>some (iv r,[])) kn):=by
 refine zAz (fun g ih s25=>?_)
 unfold zCn
 refine J_d 232 [] [32] [(32,bv (decide (s25< (a1.Files.length:Int))))] [] [] zB ?_
 refine zC 32 (fun h26=>?_) (fun h26=>?_)
 ·refine zA (fun x27 h28=>?_)
  refine J_d 3736 [(3,1)] [3,4,32] [(3,iv s25),(4,pp 1)] [1] [(1,.box (File.enc false x27))] (zD 1 (zAc (kk:=.i64) 25 113 2 (File.enc false) (.tmp 29) (.tmp 31) h28) zB) ?_
  refine zA (fun x29 h30=>?_)
  refine J_g 14948 [] [(1,pp 0),(3,iv s25),(4,pp 1),(5,iv x29),(29,sl 2 (File.enc false) a1.Files),(30,iv (a1.Files.length:Int)),(31,iv s25)] [(0,.box (zI.enc false a1)),(1,.box (File.enc false x27))] (zD 2 (xH [(.tmp 37)] [9] (kW.ok x27.Path) h30) zB) ?_
  refine J_d 29898 [] [40] [(40,bv (x29 !=0))] [] [] zB ?_
  refine zC 40 (fun h31=>?_) (fun h31=>?_)
  ·refine J_g 119596 [] [(2,iv x29)] [] zB ?_
   exact zU rfl
  ·refine xC (atI c131 29901) (fun v35:Bool=>St.mk' [(1,pp 0),(4,pp 1),(29,sl 2 (File.enc false) a1.Files),(30,iv (a1.Files.length:Int)),(31,iv s25),(42,bv v35)] [(0,.box (zI.enc false a1)),(1,.box (File.enc false x27))]) (fun v35=>?_) (fun jv35=>?_)
   ·refine zC 42 (fun h36=>?_) (fun h36=>?_)
    ·refine J_g 119604 [] [(2,iv 1)] [] zB ?_
     exact zU rfl
    ·refine J_d 119606 [] [4,42,57] [(57,bv (decide ((x27.Data.length:Int)>4000)))] [1] [] zB ?_
     refine zC 57 (fun h37=>?_) (fun h37=>?_)
     ·refine J_g 478428 [] [(2,iv 2)] [] zB ?_
      exact zU rfl
     ·refine J_d 935 [] [31,57] [(31,iv (w64 (s25+1)))] [] [] zB ?_
      exact J_q (J_b (ih (w64 (s25+1)))) rfl
   ·refine wR (fun h32=>?_) (fun h32=>?_)
    ·refine zA (fun x33 h34=>?_)
     refine J_d 29900 [] [3,5,40,42] [(42,bv (slt x27.Path x33.Path||seq x27.Path x33.Path))] [] [] (xR 2 [(44,bv (decide (s25>0)))] [] h32 (zCN 9 2 45 true (zAc (kk:=.i64) 25 113 2 (File.enc false) (.tmp 49) (.tmp 51) h34) zB)) ?_
     exact yQ (J_j (jv35 (slt x27.Path x33.Path||seq x27.Path x33.Path))) rfl
    ·refine J_d 29900 [] [3,5,40,42] [(42,bv false)] [] [] (xR 2 [(44,bv (decide (s25>0)))] [] h32 zB) ?_
     exact yQ (J_j (jv35 false)) rfl
 ·exact yQ (hk ()) rfl
theorem zAa.ok (a1:zI):Ok Tryz.prog 131 [.ag (zI.enc false a1)] [] ((zAa a1).map fun r=>(iv r,[])):=by
 refine zH c131 Tryz.f131 0 68 (fun q=>?_)
 unfold zAa
 refine J_g 2 [(0,0)] [(1,pp 0)] [(0,.box (zI.enc false a1))] zB ?_
 refine zA (fun x2 h3=>?_)
 refine xC (atI c131 25) (fun v10:Bool=>St.mk' [(1,pp 0),(6,bv v10)] [(0,.box (zI.enc false a1))]) (fun v10=>?_) (fun jv10=>?_)
 ·refine zC 6 (fun h11=>?_) (fun h11=>?_)
  ·refine J_g 100 [] [(2,iv 3)] [] zB ?_
   exact zU rfl
  ·refine J_d 102 [] [6,23] [(23,bv (decide ((a1.Files.length:Int)>120)))] [] [] zB ?_
   refine zC 23 (fun h12=>?_) (fun h12=>?_)
   ·refine J_g 412 [] [(2,iv 2)] [] zB ?_
    exact zU rfl
   ·refine J_d 28 [] [23,29,30,31] [(29,sl 2 (File.enc false) a1.Files),(30,iv (a1.Files.length:Int)),(31,iv 0)] [] [] zB ?_
    refine uQ (K0:=(fun r:Int=>some (iv r,[]))) (fun _=>rfl) (tX.ok a1 q _ (fun v38=>J_j ?_) 0)
    refine zA (fun x39 h40=>?_)
    refine J_g 60 [] [(67,bv (decide (x39>a1.Budget)))] [] (zD 1 (xH [(.tmp 63)] [27] (zBn.ok a1) h40) zB) ?_
    refine zC 67 (fun h41=>?_) (fun h41=>?_)
    ·refine J_g 244 [] [(2,iv 8)] [] zB ?_
     exact zU rfl
    ·refine J_g 62 [] [(2,iv 0)] [] zB ?_
     exact zU rfl
 ·refine wR (fun h4=>?_) (fun h4=>?_)
  ·refine J_d 24 [] [6] [(6,bv true)] [] [] (zD 2 (xH [(.tmp 8),(.const (.int .i64 0)),(.const (.int .i64 20000))] [2,2,2] (yO.ok a1.Budget 0 20000) h3) (xR 4 [(10,bv (!x2))] [] h4 zB)) ?_
   exact yQ (J_j (jv10 true)) rfl
  ·refine zA (fun x5 h6=>?_)
   refine wR (fun h7=>?_) (fun h7=>?_)
   ·refine J_d 24 [] [6] [(6,bv true)] [] [] (zD 2 (xH [(.tmp 8),(.const (.int .i64 0)),(.const (.int .i64 20000))] [2,2,2] (yO.ok a1.Budget 0 20000) h3) (xR 4 [(10,bv (!x2))] [] h4 (zCN 7 4 11 false (xH [(.tmp 13),(.const (.int .i64 0)),(.const (.int .i64 1000000000))] [2,2,2] (yO.ok a1.Writes 0 1000000000) h6) (xR 10 [(16,bv (!x5))] [] h7 zB)))) ?_
    exact yQ (J_j (jv10 true)) rfl
   ·refine zA (fun x8 h9=>?_)
    refine J_d 24 [] [6] [(6,bv (!x8))] [] [] (zD 2 (xH [(.tmp 8),(.const (.int .i64 0)),(.const (.int .i64 20000))] [2,2,2] (yO.ok a1.Budget 0 20000) h3) (xR 4 [(10,bv (!x2))] [] h4 (zCN 7 4 11 false (xH [(.tmp 13),(.const (.int .i64 0)),(.const (.int .i64 1000000000))] [2,2,2] (yO.ok a1.Writes 0 1000000000) h6) (xR 10 [(16,bv (!x5))] [] h7 (zCN 13 10 17 false (xH [(.tmp 19),(.const (.int .i64 (-1))),(.const (.int .i64 1000000000))] [2,2,2] (yO.ok a1.Stop (-1) 1000000000) h9) zB))))) ?_
    exact yQ (J_j (jv10 (!x8))) rfl
noncomputable def c68:Code:=(Tryz.f68.body).getD .skip
theorem tC.ok (a1:(List Pack)) (a2:zI):Ok Tryz.prog 68 [sl 8 (Pack.enc false) a1,.ag (zI.enc false a2)] [] ((tC a1 a2).map fun r=>(iv r,[])):=by
 refine zH c68 Tryz.f68 0 11 (fun q=>?_)
 unfold tC
 refine J_d 2 [(0,0)] [1,3] [(3,pp 0)] [0] [(0,.box (zI.enc false a2))] zB ?_
 refine zA (fun x3 h4=>?_)
 refine zA (fun x5 h6=>?_)
 refine zA (fun x7 h8=>?_)
 refine J_g 6 [] [(4,iv x7)] [] (zD 1 (xH [(.tmp 5)] [24] (xV.ok a1) h4) (zD 3 (xH [(.tmp 7)] [27] (zAa.ok a2) h6) (zD 4 (zCR 42 2 1 1 zJ [x3,x5] [0,1] [(.tmp 6),(.tmp 8)] [iv x3,iv x5]) (zD 5 (jO («as»:=[rr 1 [x3,x5]]) [(.tmp 9)] [42] true [(1,rE 1 zJ [x3,x5])] [] (.cons (zDP (.head _) (fun _=>rfl) rfl) (.nil)) (wG.ok [x3,x5]) h8 (.same rfl rfl) (hbor:=fun _=>⟨fhN,yI⟩)) zB)))) ?_
 exact zU rfl
noncomputable def zO3:Code:=(Tryz.f275.body).getD .skip
theorem yV.ok (a1:ByteArray) (a2:ByteArray):Ok Tryz.prog 275 [sv a1,sv a2] [] ((yV a1 a2).map fun r=>(bv r,[])):=by
 refine zH zO3 Tryz.f275 0 18 (fun q=>?_)
 unfold yV
 refine J_d 2 [] [] [] [] [] zB ?_
 refine wR (fun h3=>?_) (fun h3=>?_)
 ·refine zA (fun x4 h5=>?_)
  refine J_g 6 [] [(4,bv (seq x4 a2))] [] (xR 5 [(9,bv (decide ((a1.size:Int)≥(a2.size:Int))))] [] h3 (zCN 9 5 10 true (zMP 9 (.tmp 11) none (some (.tmp 13)) h5) zB)) ?_
  exact zU rfl
 ·refine J_g 6 [] [(4,bv false)] [] (xR 5 [(9,bv (decide ((a1.size:Int)≥(a2.size:Int))))] [] h3 zB) ?_
  exact zU rfl
noncomputable def zOD:Code:=(Tryz.f253.body).getD .skip
theorem strings_HasPrefix.ok (a1:ByteArray) (a2:ByteArray):Ok Tryz.prog 253 [sv a1,sv a2] [] ((strings_HasPrefix a1 a2).map fun r=>(bv r,[])):=by
 refine zH zOD Tryz.f253 0 8 (fun q=>?_)
 unfold strings_HasPrefix
 refine J_d 2 [] [] [] [] [] zB ?_
 refine zA (fun x3 h4=>?_)
 refine J_g 6 [] [(4,bv x3)] [] (zD 2 (xH [(.tmp 5),(.tmp 6)] [9,9] (yV.ok a1 a2) h4) zB) ?_
 exact zU rfl
noncomputable def zMT:Code:=(Tryz.f181.body).getD .skip
theorem uO.ok (a1:zI) (a2:ByteArray) (q:Wd) (kn:(List ByteArray)→Option (D×List Ent)) (hk:∀v:(List ByteArray),J (q.g Tryz.prog 181 0 27) zMT (atI zMT 15) (St.mk' [(5,rr 1 v)] [(1,rE 1 eStr v)]) (some v) kn):
  ∀s12:((List ByteArray)×Int),J (q.g Tryz.prog 181 0 27) zMT (atI zMT 116) (St.mk' [(1,sv a2),(5,rr 1 s12.1),(10,sl 2 (File.enc false) a1.Files),(11,iv (a1.Files.length:Int)),(12,iv s12.2)] [(1,rE 1 eStr s12.1)]) (uO a1 a2 s12) kn:=by
 refine zAz (fun g ih s12=>?_)
 unfold zCd
 refine J_d 232 [] [13] [(13,bv (decide (s12.2< (a1.Files.length:Int))))] [] [] zB ?_
 refine zC 13 (fun h13=>?_) (fun h13=>?_)
 ·refine zA (fun x14 h15=>?_)
  refine J_d 3736 [(2,2)] [7,13] [(7,pp 2)] [2] [(2,.box (File.enc false x14))] (zD 0 (zAc (kk:=.i64) 25 113 2 (File.enc false) (.tmp 10) (.tmp 12) h15) zB) ?_
  refine zA (fun x16 h17=>?_)
  refine J_d 7474 [] [19] [(19,bv x16)] [] [] (zD 3 (xH [(.tmp 17),(.tmp 18)] [9,9] (strings_HasPrefix.ok x14.Path a2) h17) zB) ?_
  refine xC (aft zMT 1868) (fun v21:(List ByteArray)=>St.mk' [(1,sv a2),(5,rr 4 v21),(10,sl 2 (File.enc false) a1.Files),(11,iv (a1.Files.length:Int)),(12,iv s12.2)] [(4,rE 1 eStr v21)]) (fun v21=>?_) (fun jv21=>?_)
  ·refine J_d 935 [] [12] [(12,iv (w64 (s12.2+1)))] [] [] zB ?_
   refine zAy 4 1 (Nat.le_of_ble_eq_true rfl) (Nat.le_of_ble_eq_true rfl) ?_
   exact J_q (J_b (ih (v21,w64 (s12.2+1)))) rfl
  ·refine zC 19 (fun h18=>?_) (fun h18=>?_)
   ·refine zA (fun x19 h20=>?_)
    refine J_d 14950 [] [5,7,19] [(5,rr 4 x19)] [1,2,4] [(4,rE 1 eStr x19)] (zD 3 (zCR 70 9 1 3 eStr [x14.Path] [0] [(.tmp 22)] [sv x14.Path]) (zD 4 (zFG 70 70 9 9 1 16 4 1 3 eStr (.tmp 20) (.tmp 23) h20) zB)) ?_
    exact yQ (J_j (jv21 x19)) rfl
   ·refine zAy 1 4 (Nat.le_of_ble_eq_true rfl) (Nat.le_of_ble_eq_true rfl) ?_
    exact yQ (J_j (jv21 s12.1)) rfl
 ·exact yQ (hk s12.1) rfl
theorem wW.ok (a1:zI) (a2:ByteArray):Ok Tryz.prog 181 [.ag (zI.enc false a1),sv a2] [] ((wW a1 a2).map fun r=>(so 1 eStr r,[])):=by
 refine zH zMT Tryz.f181 0 27 (fun q=>?_)
 unfold wW
 refine J_g 2 [(0,0)] [(1,sv a2),(2,pp 0)] [(0,.box (zI.enc false a1))] zB ?_
 refine J_g 6 [] [(1,sv a2),(2,pp 0),(5,rr 1 ([]:List ByteArray))] [(0,.box (zI.enc false a1)),(1,rE 1 eStr ([]:List ByteArray))] (zD 0 (zCR 70 9 1 1 eStr ([]:List ByteArray) [] [] []) zB) ?_
 refine J_d 28 [] [2,10,11,12] [(10,sl 2 (File.enc false) a1.Files),(11,iv (a1.Files.length:Int)),(12,iv 0)] [0] [] zB ?_
 refine zEE (uO.ok a1 a2 q _ (fun v22=>J_j ?_) (([]:List ByteArray),0))
 refine J_g 30 [] [(4,rr 1 v22)] [(1,rE 1 eStr v22)] zB ?_
 exact zBI (ds:=[rr 1 v22]) (ds':=[so 1 eStr v22]) (.cons (.cell (.move (.head _) (List.length_map _) (by decide) (.nil))) (.nil) (by decide)) rfl
noncomputable def zMF:Code:=(Tryz.f209.body).getD .skip
theorem zBG.ok (a1:ByteArray) (q:Wd) (kn:Int→Option (D×List Ent)) (hk:∀v:Int,J (q.g Tryz.prog 209 0 40) zMF (atI zMF 31) (St.mk' [(5,iv v)] []) (some v) kn):
  ∀s16:(Int×Int),J (q.g Tryz.prog 209 0 40) zMF (atI zMF 244) (St.mk' [(0,sv a1),(5,iv s16.1),(16,iv (a1.size:Int)),(17,iv s16.2)] []) (zBG a1 s16) (Fl.go (fun r:Int=>some (iv r,[])) kn):=by
 refine zAz (fun g ih s16=>?_)
 unfold zAO
 refine J_d 488 [] [18] [(18,bv (decide (s16.2< (a1.size:Int))))] [] [] zB ?_
 refine zC 18 (fun h17=>?_) (fun h17=>?_)
 ·refine J_d 7832 [] [6,18] [(6,iv s16.2)] [] [] zB ?_
  refine zA (fun x18 h19=>?_)
  refine xC (atI zMF 31333) (fun v23:Bool=>St.mk' [(0,sv a1),(5,iv s16.1),(6,iv s16.2),(16,iv (a1.size:Int)),(17,iv s16.2),(29,bv v23)] []) (fun v23=>?_) (fun jv23=>?_)
  ·refine zC 29 (fun h24=>?_) (fun h24=>?_)
   ·refine J_g 125332 [] [(4,iv (-1))] [] zB ?_
    exact zU rfl
   ·refine zA (fun x25 h26=>?_)
    refine J_g 15667 [] [(0,sv a1),(5,iv (w64 ((w64 (10*s16.1))+(w64 (IntKind.u8.wrap (x25-48)))))),(16,iv (a1.size:Int)),(17,iv s16.2)] [] (zD 4 (zIy (kk:=.i64) 9 (.tmp 32) (.tmp 33) h26) zB) ?_
    refine J_d 1959 [] [17] [(17,iv (w64 (s16.2+1)))] [] [] zB ?_
    exact J_q (J_b (ih (w64 ((w64 (10*s16.1))+(w64 (IntKind.u8.wrap (x25-48)))),w64 (s16.2+1)))) rfl
  ·refine wR (fun h20=>?_) (fun h20=>?_)
   ·refine J_d 31332 [] [29] [(29,bv true)] [] [] (zD 2 (zIy (kk:=.i64) 9 (.tmp 20) (.tmp 21) h19) (xR 4 [(23,bv (decide (x18<48)))] [] h20 zB)) ?_
    exact yQ (J_j (jv23 true)) rfl
   ·refine zA (fun x21 h22=>?_)
    refine J_d 31332 [] [29] [(29,bv (decide (x21>57)))] [] [] (zD 2 (zIy (kk:=.i64) 9 (.tmp 20) (.tmp 21) h19) (xR 4 [(23,bv (decide (x18<48)))] [] h20 (zCN 7 4 24 false (zIy (kk:=.i64) 9 (.tmp 25) (.tmp 26) h22) zB))) ?_
    exact yQ (J_j (jv23 (decide (x21>57)))) rfl
 ·exact yQ (hk s16.1) rfl
theorem jG.ok (a1:ByteArray) (a2:Int):Ok Tryz.prog 209 [sv a1,iv a2] [] ((jG a1 a2).map fun r=>(iv r,[])):=by
 refine zH zMF Tryz.f209 0 40 (fun q=>?_)
 unfold jG
 refine J_d 2 [] [] [] [] [] zB ?_
 refine xC (atI zMF 13) (fun v4:Bool=>St.mk' [(0,sv a1),(14,bv v4)] []) (fun v4=>?_) (fun jv4=>?_)
 ·refine zC 14 (fun h5=>?_) (fun h5=>?_)
  ·refine J_g 52 [] [(4,iv (-1))] [] zB ?_
   exact zU rfl
  ·refine J_g 14 [] [(0,sv a1),(5,iv 0)] [] zB ?_
   refine J_d 60 [] [16,17] [(16,iv (a1.size:Int)),(17,iv 0)] [] [] zB ?_
   refine uQ (K0:=(fun r:Int=>some (iv r,[]))) (fun _=>rfl) (zBG.ok a1 q _ (fun v27=>J_j ?_) (0,0))
   refine J_g 62 [] [(4,iv v27)] [] zB ?_
   exact zU rfl
 ·refine wR (fun h3=>?_) (fun h3=>?_)
  ·refine J_g 12 [] [(0,sv a1),(14,bv true)] [] (xR 2 [(8,bv (seq a1 (bs [])))] [] h3 zB) ?_
   exact yQ (J_j (jv4 true)) rfl
  ·refine J_g 12 [] [(0,sv a1),(14,bv (decide ((a1.size:Int)>a2)))] [] (xR 2 [(8,bv (seq a1 (bs [])))] [] h3 zB) ?_
   exact yQ (J_j (jv4 (decide ((a1.size:Int)>a2)))) rfl
end Go.Told

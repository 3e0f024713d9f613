import Derived.Test.YtobkkecdnlecgaaGreatDoorToldCutSystem
import Derived.Test.YtobkkecdnlecgaaGreatDoorShelfCutSystem
import Derived.Test.YtobkkecdnlecgaaGreatDoorProg
set_option linter.unusedVariables false
set_option maxRecDepth 4000
namespace Go.Told
open Go Go.Im Go.Proofs
noncomputable def c109:Code:=(Tryz.f109.body).getD .skip
theorem zBX.ok (a1:(List ByteArray)) (q:Wd) (kn:Int→Option (D×List Ent)) (hk:∀v:Int,J (q.g Tryz.prog 109 0 28) c109 (atI c109 31) (St.mk' [(1,iv v)] []) (some v) kn):
  ∀s8:(Int×Int),J (q.g Tryz.prog 109 0 28) c109 (atI c109 244) (St.mk' [(0,sl 1 eStr a1),(1,iv s8.1),(5,iv s8.2)] []) (zBX a1 s8) (Fl.go (fun r:Int=>some (iv r,[])) kn):=by
 refine tQ (fun g ih s8=>?_)
 unfold zBp
 refine J_d 976 [] [15] [(15,bv (decide (s8.2< (a1.length:Int))))] [] [] zB ?_
 refine zG 15 (fun h9=>?_) (fun h9=>?_)
 ·refine zA (fun x10 h11=>?_)
  refine J_g 3912 [] [(0,sl 1 eStr a1),(1,iv (w64 (s8.1-(x10.size:Int)))),(5,iv s8.2)] [] (zF 3 (vI (kk:=.i64) 86 9 1 eStr (.tmp 19) (.tmp 20) h11) zB) ?_
  refine J_d 7826 [] [26] [(26,bv (decide ((w64 (s8.1-(x10.size:Int)))<0)))] [] [] zB ?_
  refine zG 26 (fun h12=>?_) (fun h12=>?_)
  ·refine J_g 31308 [] [(4,iv (-1))] [] zB ?_
   exact zM rfl
  ·refine J_d 979 [] [5,26] [(5,iv (w64 (s8.2+1)))] [] [] zB ?_
   exact J_q (J_b (ih (w64 (s8.1-(x10.size:Int)),w64 (s8.2+1)))) rfl
 ·exact yN (hk s8.1) rfl
theorem zB0.ok (a1:(List ByteArray)) (a2:Int):Ok Tryz.prog 109 [sl 1 eStr a1,iv a2] [] ((zB0 a1 a2).map fun r=>(iv r,[])):=by
 refine zH c109 Tryz.f109 0 28 (fun q=>?_)
 unfold zB0
 refine J_g 2 [] [(0,sl 1 eStr a1),(1,iv a2)] [] zB ?_
 refine J_g 6 [] [(0,sl 1 eStr a1),(1,iv (w64 (a2-(a1.length:Int))))] [] zB ?_
 refine J_d 28 [] [11] [(11,bv (decide ((w64 (a2-(a1.length:Int)))<0)))] [] [] zB ?_
 refine zG 11 (fun h3=>?_) (fun h3=>?_)
 ·refine J_g 116 [] [(4,iv (-1))] [] zB ?_
  exact zM rfl
 ·refine J_d 60 [] [5,11] [(5,iv 0)] [] [] zB ?_
  refine vZ (K0:=(fun r:Int=>some (iv r,[]))) (fun _=>rfl) (zBX.ok a1 q _ (fun v13=>J_j ?_) (w64 (a2-(a1.length:Int)),0))
  refine J_g 62 [] [(4,iv v13)] [] zB ?_
  exact zM rfl
noncomputable def zU1:Code:=(Tryz.f195.body).getD .skip
theorem zEK.ok (a1:Term) (a2:Int):Ok Tryz.prog 195 [.ag (Term.enc a1),iv a2] [] ((zEK a1 a2).map fun r=>(iv r,[])):=by
 refine zH zU1 Tryz.f195 0 13 (fun q=>?_)
 unfold zEK
 refine J_g 2 [(0,0)] [(1,iv a2),(2,pp 0)] [(0,.box (Term.enc a1))] zB ?_
 refine J_g 6 [] [(1,iv (w64 (a2-(a1.Name.size:Int))))] [] zB ?_
 refine J_d 28 [] [11] [(11,bv (decide ((w64 (a2-(a1.Name.size:Int)))<0)))] [] [] zB ?_
 refine zG 11 (fun h3=>?_) (fun h3=>?_)
 ·refine J_g 116 [] [(4,iv (-1))] [] zB ?_
  exact zM rfl
 ·refine J_g 30 [] [(4,iv (w64 (a2-(a1.Name.size:Int))))] [] zB ?_
  exact zM rfl
noncomputable def zRN:Code:=(Tryz.f111.body).getD .skip
theorem zDc.ok (a1:(List Term)) (q:Wd) (kn:Int→Option (D×List Ent)) (hk:∀v:Int,J (q.g Tryz.prog 111 0 27) zRN (atI zRN 31) (St.mk' [(1,iv v)] []) (some v) kn):
  ∀s10:(Int×Int),J (q.g Tryz.prog 111 0 27) zRN (atI zRN 244) (St.mk' [(0,sl 7 Term.enc a1),(1,iv s10.1),(5,iv s10.2)] []) (zDc a1 s10) (Fl.go (fun r:Int=>some (iv r,[])) kn):=by
 refine tQ (fun g ih s10=>?_)
 unfold zC7
 refine J_d 976 [] [15] [(15,bv (decide (s10.2< (a1.length:Int))))] [] [] zB ?_
 refine zG 15 (fun h11=>?_) (fun h11=>?_)
 ·refine zA (fun x12 h13=>?_)
  refine zA (fun x14 h15=>?_)
  refine J_g 3912 [] [(0,sl 7 Term.enc a1),(1,iv x14),(5,iv s10.2)] [] (zF 2 (vI (kk:=.i64) 88 224 7 Term.enc (.tmp 18) (.tmp 19) h13) (zF 5 (xC [(.tmp 21),(.tmp 22)] [224,3] (zEK.ok x12 s10.1) h15) zB)) ?_
  refine J_d 7826 [] [25] [(25,bv (decide (x14<0)))] [] [] zB ?_
  refine zG 25 (fun h16=>?_) (fun h16=>?_)
  ·refine J_g 31308 [] [(4,iv (-1))] [] zB ?_
   exact zM rfl
  ·refine J_d 979 [] [5,25] [(5,iv (w64 (s10.2+1)))] [] [] zB ?_
   exact J_q (J_b (ih (x14,w64 (s10.2+1)))) rfl
 ·exact yN (hk s10.1) rfl
theorem zBd.ok (a1:(List Term)) (a2:Int):Ok Tryz.prog 111 [sl 7 Term.enc a1,iv a2] [] ((zBd a1 a2).map fun r=>(iv r,[])):=by
 refine zH zRN Tryz.f111 0 27 (fun q=>?_)
 unfold zBd
 refine J_g 2 [] [(0,sl 7 Term.enc a1),(1,iv a2)] [] zB ?_
 refine J_g 6 [] [(0,sl 7 Term.enc a1),(1,iv (w64 (a2-(a1.length:Int))))] [] zB ?_
 refine J_d 28 [] [11] [(11,bv (decide ((w64 (a2-(a1.length:Int)))<0)))] [] [] zB ?_
 refine zG 11 (fun h3=>?_) (fun h3=>?_)
 ·refine J_g 116 [] [(4,iv (-1))] [] zB ?_
  exact zM rfl
 ·refine J_d 60 [] [5,11] [(5,iv 0)] [] [] zB ?_
  refine vZ (K0:=(fun r:Int=>some (iv r,[]))) (fun _=>rfl) (zDc.ok a1 q _ (fun v17=>J_j ?_) (w64 (a2-(a1.length:Int)),0))
  refine J_g 62 [] [(4,iv v17)] [] zB ?_
  exact zM rfl
noncomputable def zSh:Code:=(Tryz.f110.body).getD .skip
theorem zCC.ok (a1:(List (List Term))) (q:Wd) (kn:Int→Option (D×List Ent)) (hk:∀v:Int,J (q.g Tryz.prog 110 0 27) zSh (atI zSh 31) (St.mk' [(1,iv v)] []) (some v) kn):
  ∀s10:(Int×Int),J (q.g Tryz.prog 110 0 27) zSh (atI zSh 244) (St.mk' [(0,sl 1 (eSl false 7 Term.enc) a1),(1,iv s10.1),(5,iv s10.2)] []) (zCC a1 s10) (Fl.go (fun r:Int=>some (iv r,[])) kn):=by
 refine tQ (fun g ih s10=>?_)
 unfold zCe
 refine J_d 976 [] [15] [(15,bv (decide (s10.2< (a1.length:Int))))] [] [] zB ?_
 refine zG 15 (fun h11=>?_) (fun h11=>?_)
 ·refine zA (fun x12 h13=>?_)
  refine zA (fun x14 h15=>?_)
  refine J_g 3912 [] [(0,sl 1 (eSl false 7 Term.enc) a1),(1,iv x14),(5,iv s10.2)] [] (zF 2 (vI (kk:=.i64) 87 88 1 (eSl false 7 Term.enc) (.tmp 18) (.tmp 19) h13) (zF 5 (xC [(.tmp 21),(.tmp 22)] [88,3] (zBd.ok x12 s10.1) h15) zB)) ?_
  refine J_d 7826 [] [25] [(25,bv (decide (x14<0)))] [] [] zB ?_
  refine zG 25 (fun h16=>?_) (fun h16=>?_)
  ·refine J_g 31308 [] [(4,iv (-1))] [] zB ?_
   exact zM rfl
  ·refine J_d 979 [] [5,25] [(5,iv (w64 (s10.2+1)))] [] [] zB ?_
   exact J_q (J_b (ih (x14,w64 (s10.2+1)))) rfl
 ·exact yN (hk s10.1) rfl
theorem zCl.ok (a1:(List (List Term))) (a2:Int):Ok Tryz.prog 110 [sl 1 (eSl false 7 Term.enc) a1,iv a2] [] ((zCl a1 a2).map fun r=>(iv r,[])):=by
 refine zH zSh Tryz.f110 0 27 (fun q=>?_)
 unfold zCl
 refine J_g 2 [] [(0,sl 1 (eSl false 7 Term.enc) a1),(1,iv a2)] [] zB ?_
 refine J_g 6 [] [(0,sl 1 (eSl false 7 Term.enc) a1),(1,iv (w64 (a2-(a1.length:Int))))] [] zB ?_
 refine J_d 28 [] [11] [(11,bv (decide ((w64 (a2-(a1.length:Int)))<0)))] [] [] zB ?_
 refine zG 11 (fun h3=>?_) (fun h3=>?_)
 ·refine J_g 116 [] [(4,iv (-1))] [] zB ?_
  exact zM rfl
 ·refine J_d 60 [] [5,11] [(5,iv 0)] [] [] zB ?_
  refine vZ (K0:=(fun r:Int=>some (iv r,[]))) (fun _=>rfl) (zCC.ok a1 q _ (fun v17=>J_j ?_) (w64 (a2-(a1.length:Int)),0))
  refine J_g 62 [] [(4,iv v17)] [] zB ?_
  exact zM rfl
noncomputable def c51:Code:=(Tryz.f51.body).getD .skip
theorem zEM.ok (a1:Pack) (a2:Int):Ok Tryz.prog 51 [.ag (Pack.enc false a1),iv a2] [] ((zEM a1 a2).map fun r=>(iv r,[])):=by
 refine zH c51 Tryz.f51 0 31 (fun q=>?_)
 unfold zEM
 refine J_g 2 [(0,0)] [(1,iv a2),(2,pp 0)] [(0,.box (Pack.enc false a1))] zB ?_
 refine J_g 6 [] [(1,iv (w64 (a2-(a1.Name.size:Int)))),(2,pp 0)] [(0,.box (Pack.enc false a1))] zB ?_
 refine J_d 28 [] [11] [(11,bv (decide ((w64 (a2-(a1.Name.size:Int)))<0)))] [] [] zB ?_
 refine zG 11 (fun h3=>?_) (fun h3=>?_)
 ·refine J_g 116 [] [(4,iv (-1))] [] zB ?_
  exact zM rfl
 ·refine zA (fun x4 h5=>?_)
  refine J_g 30 [] [(1,iv x4),(2,pp 0)] [(0,.box (Pack.enc false a1))] (zF 3 (xC [(.tmp 13),(.tmp 14)] [86,3] (zB0.ok a1.Provides (w64 (a2-(a1.Name.size:Int)))) h5) zB) ?_
  refine J_d 124 [] [17] [(17,bv (decide (x4<0)))] [] [] zB ?_
  refine zG 17 (fun h6=>?_) (fun h6=>?_)
  ·refine J_g 500 [] [(4,iv (-1))] [] zB ?_
   exact zM rfl
  ·refine zA (fun x7 h8=>?_)
   refine J_g 126 [] [(1,iv x7),(2,pp 0)] [(0,.box (Pack.enc false a1))] (zF 3 (xC [(.tmp 19),(.tmp 20)] [87,3] (zCl.ok a1.Needs x4) h8) zB) ?_
   refine J_d 508 [] [23] [(23,bv (decide (x7<0)))] [] [] zB ?_
   refine zG 23 (fun h9=>?_) (fun h9=>?_)
   ·refine J_g 2036 [] [(4,iv (-1))] [] zB ?_
    exact zM rfl
   ·refine zA (fun x10 h11=>?_)
    refine J_g 510 [] [(1,iv x10)] [] (zF 3 (xC [(.tmp 25),(.tmp 26)] [88,3] (zBd.ok a1.Bars x7) h11) zB) ?_
    refine J_g 2044 [] [(1,iv x10),(29,bv (decide (x10<0)))] [] zB ?_
    refine zG 29 (fun h12=>?_) (fun h12=>?_)
    ·refine J_g 8180 [] [(4,iv (-1))] [] zB ?_
     exact zM rfl
    ·refine J_g 2046 [] [(4,iv x10)] [] zB ?_
     exact zM rfl
noncomputable def c13:Code:=(Tryz.f13.body).getD .skip
theorem zDP.ok (a1:(List Pack)) (q:Wd) (kn:Int→Option (D×List Ent)) (hk:∀v:Int,J (q.g Tryz.prog 13 0 27) c13 (atI c13 31) (St.mk' [(1,iv v)] []) (some v) kn):
  ∀s10:(Int×Int),J (q.g Tryz.prog 13 0 27) c13 (atI c13 244) (St.mk' [(0,sl 8 (Pack.enc false) a1),(1,iv s10.1),(5,iv s10.2)] []) (zDP a1 s10) (Fl.go (fun r:Int=>some (iv r,[])) kn):=by
 refine tQ (fun g ih s10=>?_)
 unfold zC9
 refine J_d 976 [] [15] [(15,bv (decide (s10.2< (a1.length:Int))))] [] [] zB ?_
 refine zG 15 (fun h11=>?_) (fun h11=>?_)
 ·refine zA (fun x12 h13=>?_)
  refine zA (fun x14 h15=>?_)
  refine J_g 3912 [] [(0,sl 8 (Pack.enc false) a1),(1,iv x14),(5,iv s10.2)] [] (zF 2 (vI (kk:=.i64) 22 90 8 (Pack.enc false) (.tmp 18) (.tmp 19) h13) (zF 5 (xC [(.tmp 21),(.tmp 22)] [90,3] (zEM.ok x12 s10.1) h15) zB)) ?_
  refine J_d 7826 [] [25] [(25,bv (decide (x14<0)))] [] [] zB ?_
  refine zG 25 (fun h16=>?_) (fun h16=>?_)
  ·refine J_g 31308 [] [(4,iv (-1))] [] zB ?_
   exact zM rfl
  ·refine J_d 979 [] [5,25] [(5,iv (w64 (s10.2+1)))] [] [] zB ?_
   exact J_q (J_b (ih (x14,w64 (s10.2+1)))) rfl
 ·exact yN (hk s10.1) rfl
theorem zDm.ok (a1:(List Pack)) (a2:Int):Ok Tryz.prog 13 [sl 8 (Pack.enc false) a1,iv a2] [] ((zDm a1 a2).map fun r=>(iv r,[])):=by
 refine zH c13 Tryz.f13 0 27 (fun q=>?_)
 unfold zDm
 refine J_g 2 [] [(0,sl 8 (Pack.enc false) a1),(1,iv a2)] [] zB ?_
 refine J_g 6 [] [(0,sl 8 (Pack.enc false) a1),(1,iv (w64 (a2-(a1.length:Int))))] [] zB ?_
 refine J_d 28 [] [11] [(11,bv (decide ((w64 (a2-(a1.length:Int)))<0)))] [] [] zB ?_
 refine zG 11 (fun h3=>?_) (fun h3=>?_)
 ·refine J_g 116 [] [(4,iv (-1))] [] zB ?_
  exact zM rfl
 ·refine J_d 60 [] [5,11] [(5,iv 0)] [] [] zB ?_
  refine vZ (K0:=(fun r:Int=>some (iv r,[]))) (fun _=>rfl) (zDP.ok a1 q _ (fun v17=>J_j ?_) (w64 (a2-(a1.length:Int)),0))
  refine J_g 62 [] [(4,iv v17)] [] zB ?_
  exact zM rfl
noncomputable def c196:Code:=(Tryz.f196.body).getD .skip
theorem zCX.ok (a1:(List Int)) (a2:Int):Ok Tryz.prog 196 [sl 1 eU8 a1,iv a2] [] ((zCX a1 a2).map fun r=>(iv r,[])):=by
 refine zH c196 Tryz.f196 0 12 (fun q=>?_)
 unfold zCX
 refine J_g 2 [] [(0,sl 1 eU8 a1),(1,iv a2)] [] zB ?_
 refine J_g 6 [] [(1,iv (w64 (a2-(a1.length:Int))))] [] zB ?_
 refine J_d 28 [] [10] [(10,bv (decide ((w64 (a2-(a1.length:Int)))<0)))] [] [] zB ?_
 refine zG 10 (fun h3=>?_) (fun h3=>?_)
 ·refine J_g 116 [] [(4,iv (-1))] [] zB ?_
  exact zM rfl
 ·refine J_g 30 [] [(4,iv (w64 (a2-(a1.length:Int))))] [] zB ?_
  exact zM rfl
noncomputable def zTW:Code:=(Tryz.f112.body).getD .skip
theorem zEE.ok (a1:File) (a2:Int):Ok Tryz.prog 112 [.ag (File.enc false a1),iv a2] [] ((zEE a1 a2).map fun r=>(iv r,[])):=by
 refine zH zTW Tryz.f112 0 19 (fun q=>?_)
 unfold zEE
 refine J_g 2 [(0,0)] [(1,iv a2),(2,pp 0)] [(0,.box (File.enc false a1))] zB ?_
 refine J_g 6 [] [(1,iv (w64 (a2-(a1.Path.size:Int)))),(2,pp 0)] [(0,.box (File.enc false a1))] zB ?_
 refine J_d 28 [] [11] [(11,bv (decide ((w64 (a2-(a1.Path.size:Int)))<0)))] [] [] zB ?_
 refine zG 11 (fun h3=>?_) (fun h3=>?_)
 ·refine J_g 116 [] [(4,iv (-1))] [] zB ?_
  exact zM rfl
 ·refine zA (fun x4 h5=>?_)
  refine J_g 30 [] [(1,iv x4)] [] (zF 3 (xC [(.tmp 13),(.tmp 14)] [121,3] (zCX.ok a1.Data (w64 (a2-(a1.Path.size:Int)))) h5) zB) ?_
  refine J_g 124 [] [(1,iv x4),(17,bv (decide (x4<0)))] [] zB ?_
  refine zG 17 (fun h6=>?_) (fun h6=>?_)
  ·refine J_g 500 [] [(4,iv (-1))] [] zB ?_
   exact zM rfl
  ·refine J_g 126 [] [(4,iv x4)] [] zB ?_
   exact zM rfl
noncomputable def c52:Code:=(Tryz.f52.body).getD .skip
theorem zDe.ok (a1:(List File)) (q:Wd) (kn:Int→Option (D×List Ent)) (hk:∀v:Int,J (q.g Tryz.prog 52 0 27) c52 (atI c52 31) (St.mk' [(1,iv v)] []) (some v) kn):
  ∀s10:(Int×Int),J (q.g Tryz.prog 52 0 27) c52 (atI c52 244) (St.mk' [(0,sl 2 (File.enc false) a1),(1,iv s10.1),(5,iv s10.2)] []) (zDe a1 s10) (Fl.go (fun r:Int=>some (iv r,[])) kn):=by
 refine tQ (fun g ih s10=>?_)
 unfold zCz
 refine J_d 976 [] [15] [(15,bv (decide (s10.2< (a1.length:Int))))] [] [] zB ?_
 refine zG 15 (fun h11=>?_) (fun h11=>?_)
 ·refine zA (fun x12 h13=>?_)
  refine zA (fun x14 h15=>?_)
  refine J_g 3912 [] [(0,sl 2 (File.enc false) a1),(1,iv x14),(5,iv s10.2)] [] (zF 2 (vI (kk:=.i64) 23 158 2 (File.enc false) (.tmp 18) (.tmp 19) h13) (zF 5 (xC [(.tmp 21),(.tmp 22)] [158,3] (zEE.ok x12 s10.1) h15) zB)) ?_
  refine J_d 7826 [] [25] [(25,bv (decide (x14<0)))] [] [] zB ?_
  refine zG 25 (fun h16=>?_) (fun h16=>?_)
  ·refine J_g 31308 [] [(4,iv (-1))] [] zB ?_
   exact zM rfl
  ·refine J_d 979 [] [5,25] [(5,iv (w64 (s10.2+1)))] [] [] zB ?_
   exact J_q (J_b (ih (x14,w64 (s10.2+1)))) rfl
 ·exact yN (hk s10.1) rfl
theorem zDg.ok (a1:(List File)) (a2:Int):Ok Tryz.prog 52 [sl 2 (File.enc false) a1,iv a2] [] ((zDg a1 a2).map fun r=>(iv r,[])):=by
 refine zH c52 Tryz.f52 0 27 (fun q=>?_)
 unfold zDg
 refine J_g 2 [] [(0,sl 2 (File.enc false) a1),(1,iv a2)] [] zB ?_
 refine J_g 6 [] [(0,sl 2 (File.enc false) a1),(1,iv (w64 (a2-(a1.length:Int))))] [] zB ?_
 refine J_d 28 [] [11] [(11,bv (decide ((w64 (a2-(a1.length:Int)))<0)))] [] [] zB ?_
 refine zG 11 (fun h3=>?_) (fun h3=>?_)
 ·refine J_g 116 [] [(4,iv (-1))] [] zB ?_
  exact zM rfl
 ·refine J_d 60 [] [5,11] [(5,iv 0)] [] [] zB ?_
  refine vZ (K0:=(fun r:Int=>some (iv r,[]))) (fun _=>rfl) (zDe.ok a1 q _ (fun v17=>J_j ?_) (w64 (a2-(a1.length:Int)),0))
  refine J_g 62 [] [(4,iv v17)] [] zB ?_
  exact zM rfl
noncomputable def c14:Code:=(Tryz.f14.body).getD .skip
theorem zEG.ok (a1:zD) (a2:Int):Ok Tryz.prog 14 [.ag (zD.enc false a1),iv a2] [] ((zEG a1 a2).map fun r=>(iv r,[])):=by
 refine zH c14 Tryz.f14 0 12 (fun q=>?_)
 unfold zEG
 refine J_g 2 [(0,0)] [(1,iv a2),(2,pp 0)] [(0,.box (zD.enc false a1))] zB ?_
 refine zA (fun x3 h4=>?_)
 refine J_g 6 [] [(1,iv x3)] [] (zF 3 (xC [(.tmp 6),(.tmp 7)] [23,3] (zDg.ok a1.Files a2) h4) zB) ?_
 refine J_g 28 [] [(1,iv x3),(10,bv (decide (x3<0)))] [] zB ?_
 refine zG 10 (fun h5=>?_) (fun h5=>?_)
 ·refine J_g 116 [] [(4,iv (-1))] [] zB ?_
  exact zM rfl
 ·refine J_g 30 [] [(4,iv x3)] [] zB ?_
  exact zM rfl
noncomputable def c8:Code:=(Tryz.f8.body).getD .skip
theorem zCm.ok (a1:System) (a2:Int):Ok Tryz.prog 8 [.ag (System.enc false a1),iv a2] [] ((zCm a1 a2).map fun r=>(iv r,[])):=by
 refine zH c8 Tryz.f8 0 18 (fun q=>?_)
 unfold zCm
 refine J_g 2 [(0,0)] [(1,iv a2),(2,pp 0)] [(0,.box (System.enc false a1))] zB ?_
 refine zA (fun x3 h4=>?_)
 refine J_g 6 [] [(1,iv x3),(2,pp 0)] [(0,.box (System.enc false a1))] (zF 3 (xC [(.tmp 6),(.tmp 7)] [22,3] (zDm.ok a1.Catalog a2) h4) zB) ?_
 refine J_d 28 [] [10] [(10,bv (decide (x3<0)))] [] [] zB ?_
 refine zG 10 (fun h5=>?_) (fun h5=>?_)
 ·refine J_g 116 [] [(4,iv (-1))] [] zB ?_
  exact zM rfl
 ·refine zA (fun x6 h7=>?_)
  refine J_g 30 [] [(1,iv x6)] [] (zF 3 (xC [(.tmp 12),(.tmp 13)] [25,3] (zEG.ok a1.zD x3) h7) zB) ?_
  refine J_g 124 [] [(1,iv x6),(16,bv (decide (x6<0)))] [] zB ?_
  refine zG 16 (fun h8=>?_) (fun h8=>?_)
  ·refine J_g 500 [] [(4,iv (-1))] [] zB ?_
   exact zM rfl
  ·refine J_g 126 [] [(4,iv x6)] [] zB ?_
   exact zM rfl
noncomputable def zTG:Code:=(Tryz.f121.body).getD .skip
theorem vV.ok (a1:Version):Ok Tryz.prog 121 [.ag (Version.enc a1)] [] ((vV a1).map fun r=>(.ag (Version.enc r),[])):=by
 refine zH zTG Tryz.f121 0 14 (fun q=>?_)
 unfold vV
 refine J_g 2 [(0,0),(1,1)] [(1,pp 0),(2,pp 1)] [(0,.box (Version.enc a1)),(1,.box [iv 0,iv 0,iv 0])] zB ?_
 refine J_g 6 [(0,2)] [(1,pp 0),(2,pp 1),(3,pp 2)] [(0,.box (Version.enc a1)),(1,.box [iv 0,iv 0,iv 0]),(2,.box [iv 0,iv 0,iv 0])] zB ?_
 refine J_g 14 [] [(1,pp 0),(2,pp 1),(3,pp 2)] [(0,.box (Version.enc a1)),(1,.box [iv 0,iv 0,iv 0]),(2,.box [iv a1.A,iv 0,iv 0])] zB ?_
 refine J_g 30 [] [(1,pp 0),(2,pp 1),(3,pp 2)] [(0,.box (Version.enc a1)),(1,.box [iv 0,iv 0,iv 0]),(2,.box [iv a1.A,iv a1.B,iv 0])] zB ?_
 refine J_g 62 [] [(2,pp 1),(3,pp 2)] [(1,.box [iv 0,iv 0,iv 0]),(2,.box (Version.enc a1))] zB ?_
 refine J_g 126 [] [(2,pp 1)] [(1,.box (Version.enc a1))] zB ?_
 exact zM rfl
noncomputable def zSn:Code:=(Tryz.f122.body).getD .skip
theorem zBR.ok (a1:(List ByteArray)) (q:Wd) (kn:(List ByteArray)→Option (D×List Ent)) (hk:∀v:(List ByteArray),J (q.g Tryz.prog 122 0 22) zSn (atI zSn 15) (St.mk' [(3,rr 0 v)] [(0,rE 1 eStr v)]) (some v) kn):
  ∀s9:((List ByteArray)×Int),J (q.g Tryz.prog 122 0 22) zSn (atI zSn 116) (St.mk' [(0,sl 1 eStr a1),(3,rr 0 s9.1),(4,iv s9.2)] [(0,rE 1 eStr s9.1)]) (zBR a1 s9) kn:=by
 refine tQ (fun g ih s9=>?_)
 unfold zCK
 refine J_d 464 [] [11] [(11,bv (decide (s9.2< (a1.length:Int))))] [] [] zB ?_
 refine zG 11 (fun h10=>?_) (fun h10=>?_)
 ·refine zA (fun x11 h12=>?_)
  refine zA (fun x13 h14=>?_)
  refine J_g 932 [] [(0,sl 1 eStr a1),(3,rr 0 s9.1),(4,iv s9.2)] [(0,rE 1 eStr (s9.1.set s9.2.toNat x11))] (zF 4 (vI (kk:=.i64) 86 9 1 eStr (.tmp 16) (.tmp 17) h12) (zF 6 (zAv (kk:=.i64) 86 9 1 0 eStr (.tmp 14) (.tmp 15) h14) (zHK 7 (zJn (b:=x11) 9 1 0 0 eStr (sv x11) (.tmp 20) (.tmp 19) h14 rfl) zB))) ?_
  refine zGK (σ':=St.mk' [(0,sl 1 eStr a1),(3,rr 0 (s9.1.set s9.2.toNat x11)),(4,iv s9.2)] [(0,rE 1 eStr (s9.1.set s9.2.toNat x11))]) (by simp only [rr,List.length_set]) ?_
  refine J_d 467 [] [4] [(4,iv (w64 (s9.2+1)))] [] [] zB ?_
  exact J_q (J_b (ih (s9.1.set s9.2.toNat x11,w64 (s9.2+1)))) rfl
 ·exact yN (hk s9.1) rfl
theorem zB2.ok (a1:(List ByteArray)):Ok Tryz.prog 122 [sl 1 eStr a1] [] ((zB2 a1).map fun r=>(so 1 eStr r,[])):=by
 refine zH zSn Tryz.f122 0 22 (fun q=>?_)
 unfold zB2
 refine J_d 2 [] [] [] [] [] zB ?_
 refine zA (fun x2 h3=>?_)
 refine J_g 6 [] [(0,sl 1 eStr a1),(3,rr 0 x2)] [(0,rE 1 eStr x2)] (zF 2 (zR6 86 9 1 16 0 eStr ByteArray.empty (.tmp 6) h3 (.keep rfl (.nil))) zB) ?_
 refine J_d 28 [] [4] [(4,iv 0)] [] [] zB ?_
 refine zFJ (zBR.ok a1 q _ (fun v15=>J_j ?_) (x2,0))
 refine J_g 30 [] [(2,rr 0 v15)] [(0,rE 1 eStr v15)] zB ?_
 exact zBq (ds:=[rr 0 v15]) (ds':=[so 1 eStr v15]) (.cons (.cell (.move (.head _) (List.length_map _) (by decide) (.nil))) (.nil) (by decide)) rfl
noncomputable def c198:Code:=(Tryz.f198.body).getD .skip
theorem zEJ.ok (a1:Term):Ok Tryz.prog 198 [.ag (Term.enc a1)] [] ((zEJ a1).map fun r=>(.ag (Term.enc r),[])):=by
 refine zH c198 Tryz.f198 0 16 (fun q=>?_)
 unfold zEJ
 refine J_g 2 [(0,0),(1,1)] [(1,pp 0),(2,pp 1)] [(0,.box (Term.enc a1)),(1,.box [sv ByteArray.empty,iv 0,iv 0,iv 0,iv 0,iv 0,iv 0])] zB ?_
 refine J_g 6 [(0,2)] [(1,pp 0),(2,pp 1),(3,pp 2)] [(0,.box (Term.enc a1)),(1,.box [sv ByteArray.empty,iv 0,iv 0,iv 0,iv 0,iv 0,iv 0]),(2,.box [sv ByteArray.empty,iv 0,iv 0,iv 0,iv 0,iv 0,iv 0])] zB ?_
 refine J_d 14 [] [] [] [2] [(2,.box [sv a1.Name,iv 0,iv 0,iv 0,iv 0,iv 0,iv 0])] zB ?_
 refine zA (fun x2 h3=>?_)
 refine J_d 30 [] [] [] [2] [(2,.box [sv a1.Name,iv x2.A,iv x2.B,iv x2.C,iv 0,iv 0,iv 0])] (zF 2 (xC [(.tmp 8)] [85] (vV.ok a1.Low) h3) zB) ?_
 refine zA (fun x4 h5=>?_)
 refine J_g 62 [] [(2,pp 1),(3,pp 2)] [(1,.box [sv ByteArray.empty,iv 0,iv 0,iv 0,iv 0,iv 0,iv 0]),(2,.box [sv a1.Name,iv x2.A,iv x2.B,iv x2.C,iv x4.A,iv x4.B,iv x4.C])] (zF 2 (xC [(.tmp 12)] [85] (vV.ok a1.High) h5) zB) ?_
 refine J_g 126 [] [(2,pp 1)] [(1,.box [sv a1.Name,iv x2.A,iv x2.B,iv x2.C,iv x4.A,iv x4.B,iv x4.C])] zB ?_
 exact zM rfl
noncomputable def c124:Code:=(Tryz.f124.body).getD .skip
theorem zDf.ok (a1:(List Term)) (q:Wd) (kn:(List Term)→Option (D×List Ent)) (hk:∀v:(List Term),J (q.g Tryz.prog 124 0 23) c124 (atI c124 15) (St.mk' [(3,rr 0 v)] [(0,rE 7 Term.enc v)]) (some v) kn):
  ∀s11:((List Term)×Int),J (q.g Tryz.prog 124 0 23) c124 (atI c124 116) (St.mk' [(0,sl 7 Term.enc a1),(3,rr 0 s11.1),(4,iv s11.2)] [(0,rE 7 Term.enc s11.1)]) (zDf a1 s11) kn:=by
 refine tQ (fun g ih s11=>?_)
 unfold zEv
 refine J_d 464 [] [11] [(11,bv (decide (s11.2< (a1.length:Int))))] [] [] zB ?_
 refine zG 11 (fun h12=>?_) (fun h12=>?_)
 ·refine zA (fun x13 h14=>?_)
  refine zA (fun x15 h16=>?_)
  refine zA (fun x17 h18=>?_)
  refine J_g 932 [] [(0,sl 7 Term.enc a1),(3,rr 0 s11.1),(4,iv s11.2)] [(0,rE 7 Term.enc (s11.1.set s11.2.toNat x15))] (zF 4 (vI (kk:=.i64) 88 224 7 Term.enc (.tmp 16) (.tmp 17) h14) (zF 6 (xC [(.tmp 19)] [224] (zEJ.ok x13) h16) (zF 7 (zAv (kk:=.i64) 75 149 7 0 Term.enc (.tmp 14) (.tmp 15) h18) (zHK 8 (zJn (b:=x15) 149 7 0 0 Term.enc (.ag (Term.enc x15)) (.tmp 21) (.tmp 20) h18 rfl) zB)))) ?_
  refine zGK (σ':=St.mk' [(0,sl 7 Term.enc a1),(3,rr 0 (s11.1.set s11.2.toNat x15)),(4,iv s11.2)] [(0,rE 7 Term.enc (s11.1.set s11.2.toNat x15))]) (by simp only [rr,List.length_set]) ?_
  refine J_d 467 [] [4] [(4,iv (w64 (s11.2+1)))] [] [] zB ?_
  exact J_q (J_b (ih (s11.1.set s11.2.toNat x15,w64 (s11.2+1)))) rfl
 ·exact yN (hk s11.1) rfl
theorem zBb.ok (a1:(List Term)):Ok Tryz.prog 124 [sl 7 Term.enc a1] [] ((zBb a1).map fun r=>(so 7 Term.enc r,[])):=by
 refine zH c124 Tryz.f124 0 23 (fun q=>?_)
 unfold zBb
 refine J_d 2 [] [] [] [] [] zB ?_
 refine zA (fun x2 h3=>?_)
 refine J_g 6 [] [(0,sl 7 Term.enc a1),(3,rr 0 x2)] [(0,rE 7 Term.enc x2)] (zF 2 (zR6 75 149 7 64 0 Term.enc ({Name:=ByteArray.empty,Low:=({A:=0,B:=0,C:=0}:Version),High:=({A:=0,B:=0,C:=0}:Version)}:Term) (.tmp 6) h3 (.keep rfl (.keep rfl (.keep rfl (.keep rfl (.keep rfl (.keep rfl (.keep rfl (.nil))))))))) zB) ?_
 refine J_d 28 [] [4] [(4,iv 0)] [] [] zB ?_
 refine zFJ (zDf.ok a1 q _ (fun v19=>J_j ?_) (x2,0))
 refine J_g 30 [] [(2,rr 0 v19)] [(0,rE 7 Term.enc v19)] zB ?_
 exact zBq (ds:=[rr 0 v19]) (ds':=[so 7 Term.enc v19]) (.cons (.cell (.move (.head _) (List.length_map _) (by decide) (.nil))) (.nil) (by decide)) rfl
noncomputable def zSi:Code:=(Tryz.f123.body).getD .skip
theorem zCw.ok (a1:(List (List Term))) (q:Wd) (kn:(List (List Term))→Option (D×List Ent)) (hk:∀v:(List (List Term)),J (q.g Tryz.prog 123 0 23) zSi (atI zSi 15) (St.mk' [(3,rr 0 v)] [(0,rE 1 (eSl true 7 Term.enc) v)]) (some v) kn):
  ∀s11:((List (List Term))×Int),J (q.g Tryz.prog 123 0 23) zSi (atI zSi 116) (St.mk' [(0,sl 1 (eSl false 7 Term.enc) a1),(3,rr 0 s11.1),(4,iv s11.2)] [(0,rE 1 (eSl true 7 Term.enc) s11.1)]) (zCw a1 s11) kn:=by
 refine tQ (fun g ih s11=>?_)
 unfold zDY
 refine J_d 464 [] [11] [(11,bv (decide (s11.2< (a1.length:Int))))] [] [] zB ?_
 refine zG 11 (fun h12=>?_) (fun h12=>?_)
 ·refine zA (fun x13 h14=>?_)
  refine zA (fun x15 h16=>?_)
  refine zA (fun x17 h18=>?_)
  refine J_g 932 [] [(0,sl 1 (eSl false 7 Term.enc) a1),(3,rr 0 s11.1),(4,iv s11.2)] [(0,rE 1 (eSl true 7 Term.enc) (s11.1.set s11.2.toNat x15))] (zF 4 (vI (kk:=.i64) 87 88 1 (eSl false 7 Term.enc) (.tmp 16) (.tmp 17) h14) (zF 6 (vQ («as»:=[sl 7 Term.enc x13]) [(.tmp 19)] [88] false [] [] (.cons (.same rfl) (.nil)) (zBb.ok x13) h16 (.own 1)) (zF 7 (zAv (kk:=.i64) 100 75 1 0 (eSl true 7 Term.enc) (.tmp 14) (.tmp 15) h18) (zHK 8 (zQS (b:=x15) (es':=[so 7 Term.enc x15]) (ts:=[1]) 75 1 0 0 (eSl true 7 Term.enc) (rr 1 x15) (.tmp 21) (.tmp 20) [(1,rE 7 Term.enc x15)] h18 (.move (.head _) (List.length_map _) (by decide) (.nil)) rfl) zB)))) ?_
  refine zGK (σ':=St.mk' [(0,sl 1 (eSl false 7 Term.enc) a1),(3,rr 0 (s11.1.set s11.2.toNat x15)),(4,iv s11.2)] [(0,rE 1 (eSl true 7 Term.enc) (s11.1.set s11.2.toNat x15))]) (by simp only [rr,List.length_set]) ?_
  refine J_d 467 [] [4] [(4,iv (w64 (s11.2+1)))] [] [] zB ?_
  exact J_q (J_b (ih (s11.1.set s11.2.toNat x15,w64 (s11.2+1)))) rfl
 ·exact yN (hk s11.1) rfl
theorem zCk.ok (a1:(List (List Term))):Ok Tryz.prog 123 [sl 1 (eSl false 7 Term.enc) a1] [] ((zCk a1).map fun r=>(so 1 (eSl true 7 Term.enc) r,[])):=by
 refine zH zSi Tryz.f123 0 23 (fun q=>?_)
 unfold zCk
 refine J_d 2 [] [] [] [] [] zB ?_
 refine zA (fun x2 h3=>?_)
 refine J_g 6 [] [(0,sl 1 (eSl false 7 Term.enc) a1),(3,rr 0 x2)] [(0,rE 1 (eSl true 7 Term.enc) x2)] (zF 2 (zR6 100 75 1 24 0 (eSl true 7 Term.enc) ([]:List Term) (.tmp 6) h3 (.nilsl true 7 (.nil))) zB) ?_
 refine J_d 28 [] [4] [(4,iv 0)] [] [] zB ?_
 refine zFJ (zCw.ok a1 q _ (fun v19=>J_j ?_) (x2,0))
 refine J_g 30 [] [(2,rr 0 v19)] [(0,rE 1 (eSl true 7 Term.enc) v19)] zB ?_
 exact zBq (ds:=[rr 0 v19]) (ds':=[so 1 (eSl true 7 Term.enc) v19]) (.cons (.cell (.move (.head _) (List.length_map _) (by decide) (.nil))) (.nil) (by decide)) rfl
noncomputable def c60:Code:=(Tryz.f60.body).getD .skip
theorem zED.ok (a1:Pack):Ok Tryz.prog 60 [.ag (Pack.enc false a1)] [] ((zED a1).map fun r=>(.ag [sv r.Name,iv r.Version.A,iv r.Version.B,iv r.Version.C,iv r.Size,so 1 eStr r.Provides,so 1 (eSl true 7 Term.enc) r.Needs,so 7 Term.enc r.Bars],[])):=by
 refine zH c60 Tryz.f60 0 27 (fun q=>?_)
 unfold zED
 refine J_g 2 [(0,0),(1,1)] [(1,pp 0),(2,pp 1)] [(0,.box (Pack.enc false a1)),(1,.box [sv ByteArray.empty,iv 0,iv 0,iv 0,iv 0,nv,nv,nv])] zB ?_
 refine J_g 6 [(0,2)] [(1,pp 0),(2,pp 1),(3,pp 2)] [(0,.box (Pack.enc false a1)),(1,.box [sv ByteArray.empty,iv 0,iv 0,iv 0,iv 0,nv,nv,nv]),(2,.box [sv ByteArray.empty,iv 0,iv 0,iv 0,iv 0,nv,nv,nv])] zB ?_
 refine J_d 14 [] [] [] [2] [(2,.box [sv a1.Name,iv 0,iv 0,iv 0,iv 0,nv,nv,nv])] zB ?_
 refine zA (fun x2 h3=>?_)
 refine J_g 30 [] [(1,pp 0),(2,pp 1),(3,pp 2)] [(0,.box (Pack.enc false a1)),(1,.box [sv ByteArray.empty,iv 0,iv 0,iv 0,iv 0,nv,nv,nv]),(2,.box [sv a1.Name,iv x2.A,iv x2.B,iv x2.C,iv 0,nv,nv,nv])] (zF 2 (xC [(.tmp 8)] [85] (vV.ok a1.Version) h3) zB) ?_
 refine J_d 62 [] [] [] [2] [(2,.box [sv a1.Name,iv x2.A,iv x2.B,iv x2.C,iv a1.Size,nv,nv,nv])] zB ?_
 refine zA (fun x4 h5=>?_)
 refine J_d 126 [] [] [] [2,3] [(2,.box [sv a1.Name,iv x2.A,iv x2.B,iv x2.C,iv a1.Size,rr 3 x4,nv,nv]),(3,rE 1 eStr x4)] (zF 2 (vQ («as»:=[sl 1 eStr a1.Provides]) [(.tmp 15)] [86] false [] [] (.cons (.same rfl) (.nil)) (zB2.ok a1.Provides) h5 (.own 3)) zB) ?_
 refine zA (fun x6 h7=>?_)
 refine J_d 254 [] [] [] [2,4] [(2,.box [sv a1.Name,iv x2.A,iv x2.B,iv x2.C,iv a1.Size,rr 3 x4,rr 4 x6,nv]),(4,rE 1 (eSl true 7 Term.enc) x6)] (zF 2 (vQ («as»:=[sl 1 (eSl false 7 Term.enc) a1.Needs]) [(.tmp 19)] [87] false [] [] (.cons (.same rfl) (.nil)) (zCk.ok a1.Needs) h7 (.own 4)) zB) ?_
 refine zA (fun x8 h9=>?_)
 refine J_g 510 [] [(2,pp 1),(3,pp 2)] [(1,.box [sv ByteArray.empty,iv 0,iv 0,iv 0,iv 0,nv,nv,nv]),(2,.box [sv a1.Name,iv x2.A,iv x2.B,iv x2.C,iv a1.Size,rr 3 x4,rr 4 x6,rr 5 x8]),(3,rE 1 eStr x4),(4,rE 1 (eSl true 7 Term.enc) x6),(5,rE 7 Term.enc x8)] (zF 2 (vQ («as»:=[sl 7 Term.enc a1.Bars]) [(.tmp 23)] [88] false [] [] (.cons (.same rfl) (.nil)) (zBb.ok a1.Bars) h9 (.own 5)) zB) ?_
 refine J_g 1022 [] [(2,pp 1)] [(1,.box [sv a1.Name,iv x2.A,iv x2.B,iv x2.C,iv a1.Size,rr 3 x4,rr 4 x6,rr 5 x8]),(3,rE 1 eStr x4),(4,rE 1 (eSl true 7 Term.enc) x6),(5,rE 7 Term.enc x8)] zB ?_
 exact zBq (ds:=[.ag [sv a1.Name,iv x2.A,iv x2.B,iv x2.C,iv a1.Size,rr 3 x4,rr 4 x6,rr 5 x8]]) (ds':=[.ag [sv a1.Name,iv x2.A,iv x2.B,iv x2.C,iv a1.Size,so 1 eStr x4,so 1 (eSl true 7 Term.enc) x6,so 7 Term.enc x8]]) (.cons (.ag (.keep rfl (.keep rfl (.keep rfl (.keep rfl (.keep rfl (.move (.tail _ (.head _)) (List.length_map _) (by decide) (.move (.tail _ (.tail _ (.head _))) (List.length_map _) (by decide) (.move (.tail _ (.tail _ (.tail _ (.head _)))) (List.length_map _) (by decide) (.nil)))))))))) (.nil) (by decide)) rfl
noncomputable def c16:Code:=(Tryz.f16.body).getD .skip
theorem zD5.ok (a1:(List Pack)) (q:Wd) (kn:(List Pack)→Option (D×List Ent)) (hk:∀v:(List Pack),J (q.g Tryz.prog 16 0 23) c16 (atI c16 15) (St.mk' [(3,rr 0 v)] [(0,rE 8 (Pack.enc true) v)]) (some v) kn):
  ∀s11:((List Pack)×Int),J (q.g Tryz.prog 16 0 23) c16 (atI c16 116) (St.mk' [(0,sl 8 (Pack.enc false) a1),(3,rr 0 s11.1),(4,iv s11.2)] [(0,rE 8 (Pack.enc true) s11.1)]) (zD5 a1 s11) kn:=by
 refine tQ (fun g ih s11=>?_)
 unfold zE1
 refine J_d 464 [] [11] [(11,bv (decide (s11.2< (a1.length:Int))))] [] [] zB ?_
 refine zG 11 (fun h12=>?_) (fun h12=>?_)
 ·refine zA (fun x13 h14=>?_)
  refine zA (fun x15 h16=>?_)
  refine zA (fun x17 h18=>?_)
  refine J_g 932 [] [(0,sl 8 (Pack.enc false) a1),(3,rr 0 s11.1),(4,iv s11.2)] [(0,rE 8 (Pack.enc true) (s11.1.set s11.2.toNat x15))] (zF 4 (vI (kk:=.i64) 22 90 8 (Pack.enc false) (.tmp 16) (.tmp 17) h14) (zF 6 (vQ («as»:=[.ag (Pack.enc false x13)]) [(.tmp 19)] [90] false [] [] (.cons (.same rfl) (.nil)) (zED.ok x13) h16 (.ag (.cons (.same rfl rfl) (.cons (.same rfl rfl) (.cons (.same rfl rfl) (.cons (.same rfl rfl) (.cons (.same rfl rfl) (.cons (.own 1) (.cons (.own 2) (.cons (.own 3) (.nil))))))))))) (zF 7 (zAv (kk:=.i64) 30 102 8 0 (Pack.enc true) (.tmp 14) (.tmp 15) h18) (zHK 8 (zQS (b:=x15) (es':=[sv x15.Name,iv x15.Version.A,iv x15.Version.B,iv x15.Version.C,iv x15.Size,so 1 eStr x15.Provides,so 1 (eSl true 7 Term.enc) x15.Needs,so 7 Term.enc x15.Bars]) (ts:=[1,2,3]) 102 8 0 0 (Pack.enc true) (.ag [sv x15.Name,iv x15.Version.A,iv x15.Version.B,iv x15.Version.C,iv x15.Size,rr 1 x15.Provides,rr 2 x15.Needs,rr 3 x15.Bars]) (.tmp 21) (.tmp 20) [(1,rE 1 eStr x15.Provides),(2,rE 1 (eSl true 7 Term.enc) x15.Needs),(3,rE 7 Term.enc x15.Bars)] h18 (.keep rfl (.keep rfl (.keep rfl (.keep rfl (.keep rfl (.move (.head _) (List.length_map _) (by decide) (.move (.tail _ (.head _)) (List.length_map _) (by decide) (.move (.tail _ (.tail _ (.head _))) (List.length_map _) (by decide) (.nil))))))))) rfl) zB)))) ?_
  refine zGK (σ':=St.mk' [(0,sl 8 (Pack.enc false) a1),(3,rr 0 (s11.1.set s11.2.toNat x15)),(4,iv s11.2)] [(0,rE 8 (Pack.enc true) (s11.1.set s11.2.toNat x15))]) (by simp only [rr,List.length_set]) ?_
  refine J_d 467 [] [4] [(4,iv (w64 (s11.2+1)))] [] [] zB ?_
  exact J_q (J_b (ih (s11.1.set s11.2.toNat x15,w64 (s11.2+1)))) rfl
 ·exact yN (hk s11.1) rfl
theorem zDu.ok (a1:(List Pack)):Ok Tryz.prog 16 [sl 8 (Pack.enc false) a1] [] ((zDu a1).map fun r=>(so 8 (Pack.enc true) r,[])):=by
 refine zH c16 Tryz.f16 0 23 (fun q=>?_)
 unfold zDu
 refine J_d 2 [] [] [] [] [] zB ?_
 refine zA (fun x2 h3=>?_)
 refine J_g 6 [] [(0,sl 8 (Pack.enc false) a1),(3,rr 0 x2)] [(0,rE 8 (Pack.enc true) x2)] (zF 2 (zR6 30 102 8 120 0 (Pack.enc true) ({Name:=ByteArray.empty,Version:=({A:=0,B:=0,C:=0}:Version),Size:=0,Provides:=([]:List ByteArray),Needs:=([]:List (List Term)),Bars:=([]:List Term)}:Pack) (.tmp 6) h3 (.keep rfl (.keep rfl (.keep rfl (.keep rfl (.keep rfl (.nilsl true 1 (.nilsl true 1 (.nilsl true 7 (.nil)))))))))) zB) ?_
 refine J_d 28 [] [4] [(4,iv 0)] [] [] zB ?_
 refine zFJ (zD5.ok a1 q _ (fun v19=>J_j ?_) (x2,0))
 refine J_g 30 [] [(2,rr 0 v19)] [(0,rE 8 (Pack.enc true) v19)] zB ?_
 exact zBq (ds:=[rr 0 v19]) (ds':=[so 8 (Pack.enc true) v19]) (.cons (.cell (.move (.head _) (List.length_map _) (by decide) (.nil))) (.nil) (by decide)) rfl
noncomputable def zRR:Code:=(Tryz.f199.body).getD .skip
theorem zDq.ok (a1:(List Int)) (q:Wd) (kn:(List Int)→Option (D×List Ent)) (hk:∀v:(List Int),J (q.g Tryz.prog 199 0 22) zRR (atI zRR 15) (St.mk' [(3,rr 0 v)] [(0,rE 1 eU8 v)]) (some v) kn):
  ∀s9:((List Int)×Int),J (q.g Tryz.prog 199 0 22) zRR (atI zRR 116) (St.mk' [(0,sl 1 eU8 a1),(3,rr 0 s9.1),(4,iv s9.2)] [(0,rE 1 eU8 s9.1)]) (zDq a1 s9) kn:=by
 refine tQ (fun g ih s9=>?_)
 unfold zE3
 refine J_d 464 [] [11] [(11,bv (decide (s9.2< (a1.length:Int))))] [] [] zB ?_
 refine zG 11 (fun h10=>?_) (fun h10=>?_)
 ·refine zA (fun x11 h12=>?_)
  refine zA (fun x13 h14=>?_)
  refine J_g 932 [] [(0,sl 1 eU8 a1),(3,rr 0 s9.1),(4,iv s9.2)] [(0,rE 1 eU8 (s9.1.set s9.2.toNat x11))] (zF 4 (vI (kk:=.i64) 121 5 1 eU8 (.tmp 16) (.tmp 17) h12) (zF 6 (zAv (kk:=.i64) 121 5 1 0 eU8 (.tmp 14) (.tmp 15) h14) (zHK 7 (zJn (b:=x11) 5 1 0 0 eU8 (uv x11) (.tmp 20) (.tmp 19) h14 rfl) zB))) ?_
  refine zGK (σ':=St.mk' [(0,sl 1 eU8 a1),(3,rr 0 (s9.1.set s9.2.toNat x11)),(4,iv s9.2)] [(0,rE 1 eU8 (s9.1.set s9.2.toNat x11))]) (by simp only [rr,List.length_set]) ?_
  refine J_d 467 [] [4] [(4,iv (w64 (s9.2+1)))] [] [] zB ?_
  exact J_q (J_b (ih (s9.1.set s9.2.toNat x11,w64 (s9.2+1)))) rfl
 ·exact yN (hk s9.1) rfl
theorem zDo.ok (a1:(List Int)):Ok Tryz.prog 199 [sl 1 eU8 a1] [] ((zDo a1).map fun r=>(so 1 eU8 r,[])):=by
 refine zH zRR Tryz.f199 0 22 (fun q=>?_)
 unfold zDo
 refine J_g 2 [] [(0,sl 1 eU8 a1)] [] zB ?_
 refine zA (fun x2 h3=>?_)
 refine J_g 6 [] [(0,sl 1 eU8 a1),(3,rr 0 x2)] [(0,rE 1 eU8 x2)] (zF 2 (zR6 121 5 1 1 0 eU8 0 (.tmp 6) h3 (.keep rfl (.nil))) zB) ?_
 refine J_d 28 [] [4] [(4,iv 0)] [] [] zB ?_
 refine zFJ (zDq.ok a1 q _ (fun v15=>J_j ?_) (x2,0))
 refine J_g 30 [] [(2,rr 0 v15)] [(0,rE 1 eU8 v15)] zB ?_
 exact zBq (ds:=[rr 0 v15]) (ds':=[so 1 eU8 v15]) (.cons (.cell (.move (.head _) (List.length_map _) (by decide) (.nil))) (.nil) (by decide)) rfl
noncomputable def zUe:Code:=(Tryz.f125.body).getD .skip
theorem zE6.ok (a1:File):Ok Tryz.prog 125 [.ag (File.enc false a1)] [] ((zE6 a1).map fun r=>(.ag [sv r.Path,so 1 eU8 r.Data],[])):=by
 refine zH zUe Tryz.f125 0 12 (fun q=>?_)
 unfold zE6
 refine J_g 2 [(0,0),(1,1)] [(1,pp 0),(2,pp 1)] [(0,.box (File.enc false a1)),(1,.box [sv ByteArray.empty,nv])] zB ?_
 refine J_g 6 [(0,2)] [(1,pp 0),(2,pp 1),(3,pp 2)] [(0,.box (File.enc false a1)),(1,.box [sv ByteArray.empty,nv]),(2,.box [sv ByteArray.empty,nv])] zB ?_
 refine J_d 14 [] [] [] [2] [(2,.box [sv a1.Path,nv])] zB ?_
 refine zA (fun x2 h3=>?_)
 refine J_g 30 [] [(2,pp 1),(3,pp 2)] [(1,.box [sv ByteArray.empty,nv]),(2,.box [sv a1.Path,rr 3 x2]),(3,rE 1 eU8 x2)] (zF 2 (vQ («as»:=[sl 1 eU8 a1.Data]) [(.tmp 8)] [121] false [] [] (.cons (.same rfl) (.nil)) (zDo.ok a1.Data) h3 (.own 3)) zB) ?_
 refine J_g 62 [] [(2,pp 1)] [(1,.box [sv a1.Path,rr 3 x2]),(3,rE 1 eU8 x2)] zB ?_
 exact zBq (ds:=[.ag [sv a1.Path,rr 3 x2]]) (ds':=[.ag [sv a1.Path,so 1 eU8 x2]]) (.cons (.ag (.keep rfl (.move (.tail _ (.head _)) (List.length_map _) (by decide) (.nil)))) (.nil) (by decide)) rfl
noncomputable def c61:Code:=(Tryz.f61.body).getD .skip
theorem zD7.ok (a1:(List File)) (q:Wd) (kn:(List File)→Option (D×List Ent)) (hk:∀v:(List File),J (q.g Tryz.prog 61 0 23) c61 (atI c61 15) (St.mk' [(3,rr 0 v)] [(0,rE 2 (File.enc true) v)]) (some v) kn):
  ∀s11:((List File)×Int),J (q.g Tryz.prog 61 0 23) c61 (atI c61 116) (St.mk' [(0,sl 2 (File.enc false) a1),(3,rr 0 s11.1),(4,iv s11.2)] [(0,rE 2 (File.enc true) s11.1)]) (zD7 a1 s11) kn:=by
 refine tQ (fun g ih s11=>?_)
 unfold zEy
 refine J_d 464 [] [11] [(11,bv (decide (s11.2< (a1.length:Int))))] [] [] zB ?_
 refine zG 11 (fun h12=>?_) (fun h12=>?_)
 ·refine zA (fun x13 h14=>?_)
  refine zA (fun x15 h16=>?_)
  refine zA (fun x17 h18=>?_)
  refine J_g 932 [] [(0,sl 2 (File.enc false) a1),(3,rr 0 s11.1),(4,iv s11.2)] [(0,rE 2 (File.enc true) (s11.1.set s11.2.toNat x15))] (zF 4 (vI (kk:=.i64) 23 158 2 (File.enc false) (.tmp 16) (.tmp 17) h14) (zF 6 (vQ («as»:=[.ag (File.enc false x13)]) [(.tmp 19)] [158] false [] [] (.cons (.same rfl) (.nil)) (zE6.ok x13) h16 (.ag (.cons (.same rfl rfl) (.cons (.own 1) (.nil))))) (zF 7 (zAv (kk:=.i64) 31 138 2 0 (File.enc true) (.tmp 14) (.tmp 15) h18) (zHK 8 (zQS (b:=x15) (es':=[sv x15.Path,so 1 eU8 x15.Data]) (ts:=[1]) 138 2 0 0 (File.enc true) (.ag [sv x15.Path,rr 1 x15.Data]) (.tmp 21) (.tmp 20) [(1,rE 1 eU8 x15.Data)] h18 (.keep rfl (.move (.head _) (List.length_map _) (by decide) (.nil))) rfl) zB)))) ?_
  refine zGK (σ':=St.mk' [(0,sl 2 (File.enc false) a1),(3,rr 0 (s11.1.set s11.2.toNat x15)),(4,iv s11.2)] [(0,rE 2 (File.enc true) (s11.1.set s11.2.toNat x15))]) (by simp only [rr,List.length_set]) ?_
  refine J_d 467 [] [4] [(4,iv (w64 (s11.2+1)))] [] [] zB ?_
  exact J_q (J_b (ih (s11.1.set s11.2.toNat x15,w64 (s11.2+1)))) rfl
 ·exact yN (hk s11.1) rfl
theorem zDs.ok (a1:(List File)):Ok Tryz.prog 61 [sl 2 (File.enc false) a1] [] ((zDs a1).map fun r=>(so 2 (File.enc true) r,[])):=by
 refine zH c61 Tryz.f61 0 23 (fun q=>?_)
 unfold zDs
 refine J_d 2 [] [] [] [] [] zB ?_
 refine zA (fun x2 h3=>?_)
 refine J_g 6 [] [(0,sl 2 (File.enc false) a1),(3,rr 0 x2)] [(0,rE 2 (File.enc true) x2)] (zF 2 (zR6 31 138 2 40 0 (File.enc true) ({Path:=ByteArray.empty,Data:=([]:List Int)}:File) (.tmp 6) h3 (.keep rfl (.nilsl true 1 (.nil)))) zB) ?_
 refine J_d 28 [] [4] [(4,iv 0)] [] [] zB ?_
 refine zFJ (zD7.ok a1 q _ (fun v19=>J_j ?_) (x2,0))
 refine J_g 30 [] [(2,rr 0 v19)] [(0,rE 2 (File.enc true) v19)] zB ?_
 exact zBq (ds:=[rr 0 v19]) (ds':=[so 2 (File.enc true) v19]) (.cons (.cell (.move (.head _) (List.length_map _) (by decide) (.nil))) (.nil) (by decide)) rfl
noncomputable def c17:Code:=(Tryz.f17.body).getD .skip
theorem zEA.ok (a1:zD):Ok Tryz.prog 17 [.ag (zD.enc false a1)] [] ((zEA a1).map fun r=>(.ag (zD.enc true r),[])):=by
 refine zH c17 Tryz.f17 0 21 (fun q=>?_)
 unfold zEA
 refine J_g 2 [(0,0),(1,1)] [(1,pp 0),(2,pp 1)] [(0,.box (zD.enc false a1)),(1,.box [nv,iv 0,iv 0,iv 0,bv false])] zB ?_
 refine J_d 6 [(0,2)] [3] [(3,pp 2)] [2] [(2,.box [nv,iv 0,iv 0,iv 0,bv false])] zB ?_
 refine zA (fun x2 h3=>?_)
 refine J_g 14 [] [(1,pp 0),(2,pp 1),(3,pp 2)] [(0,.box (zD.enc false a1)),(1,.box [nv,iv 0,iv 0,iv 0,bv false]),(2,.box [rr 3 x2,iv 0,iv 0,iv 0,bv false]),(3,rE 2 (File.enc true) x2)] (zF 2 (vQ («as»:=[sl 2 (File.enc false) a1.Files]) [(.tmp 5)] [23] false [] [] (.cons (.same rfl) (.nil)) (zDs.ok a1.Files) h3 (.own 3)) zB) ?_
 refine J_g 30 [] [(1,pp 0),(2,pp 1),(3,pp 2)] [(0,.box (zD.enc false a1)),(1,.box [nv,iv 0,iv 0,iv 0,bv false]),(2,.box [rr 3 x2,iv a1.Budget,iv 0,iv 0,bv false]),(3,rE 2 (File.enc true) x2)] zB ?_
 refine J_g 62 [] [(1,pp 0),(2,pp 1),(3,pp 2)] [(0,.box (zD.enc false a1)),(1,.box [nv,iv 0,iv 0,iv 0,bv false]),(2,.box [rr 3 x2,iv a1.Budget,iv a1.Writes,iv 0,bv false]),(3,rE 2 (File.enc true) x2)] zB ?_
 refine J_g 126 [] [(1,pp 0),(2,pp 1),(3,pp 2)] [(0,.box (zD.enc false a1)),(1,.box [nv,iv 0,iv 0,iv 0,bv false]),(2,.box [rr 3 x2,iv a1.Budget,iv a1.Writes,iv a1.Stop,bv false]),(3,rE 2 (File.enc true) x2)] zB ?_
 refine J_g 254 [] [(2,pp 1),(3,pp 2)] [(1,.box [nv,iv 0,iv 0,iv 0,bv false]),(2,.box [rr 3 x2,iv a1.Budget,iv a1.Writes,iv a1.Stop,bv a1.Down]),(3,rE 2 (File.enc true) x2)] zB ?_
 refine J_g 510 [] [(2,pp 1)] [(1,.box [rr 3 x2,iv a1.Budget,iv a1.Writes,iv a1.Stop,bv a1.Down]),(3,rE 2 (File.enc true) x2)] zB ?_
 exact zBq (ds:=[.ag [rr 3 x2,iv a1.Budget,iv a1.Writes,iv a1.Stop,bv a1.Down]]) (ds':=[.ag [so 2 (File.enc true) x2,iv a1.Budget,iv a1.Writes,iv a1.Stop,bv a1.Down]]) (.cons (.ag (.move (.tail _ (.head _)) (List.length_map _) (by decide) (.keep rfl (.keep rfl (.keep rfl (.keep rfl (.nil))))))) (.nil) (by decide)) rfl
noncomputable def c10:Code:=(Tryz.f10.body).getD .skip
theorem vK.ok (a1:System):Ok Tryz.prog 10 [.ag (System.enc false a1)] [] ((vK a1).map fun r=>(.ag (System.enc true r),[])):=by
 refine zH c10 Tryz.f10 0 13 (fun q=>?_)
 unfold vK
 refine J_g 2 [(0,0),(1,1)] [(1,pp 0),(2,pp 1)] [(0,.box (System.enc false a1)),(1,.box [nv,nv,iv 0,iv 0,iv 0,bv false])] zB ?_
 refine J_d 6 [(0,2)] [3] [(3,pp 2)] [2] [(2,.box [nv,nv,iv 0,iv 0,iv 0,bv false])] zB ?_
 refine zA (fun x2 h3=>?_)
 refine J_d 14 [] [] [] [2,3] [(2,.box [rr 3 x2,nv,iv 0,iv 0,iv 0,bv false]),(3,rE 8 (Pack.enc true) x2)] (zF 2 (vQ («as»:=[sl 8 (Pack.enc false) a1.Catalog]) [(.tmp 5)] [22] false [] [] (.cons (.same rfl) (.nil)) (zDu.ok a1.Catalog) h3 (.own 3)) zB) ?_
 refine zA (fun x4 h5=>?_)
 refine J_g 30 [] [(2,pp 1),(3,pp 2)] [(1,.box [nv,nv,iv 0,iv 0,iv 0,bv false]),(2,.box [rr 3 x2,rr 4 x4.Files,iv x4.Budget,iv x4.Writes,iv x4.Stop,bv x4.Down]),(3,rE 8 (Pack.enc true) x2),(4,rE 2 (File.enc true) x4.Files)] (zF 2 (vQ («as»:=[.ag (zD.enc false a1.zD)]) [(.tmp 9)] [25] false [] [] (.cons (.same rfl) (.nil)) (zEA.ok a1.zD) h5 (.ag (.cons (.own 4) (.cons (.same rfl rfl) (.cons (.same rfl rfl) (.cons (.same rfl rfl) (.cons (.same rfl rfl) (.nil)))))))) zB) ?_
 refine J_g 62 [] [(2,pp 1)] [(1,.box [rr 3 x2,rr 4 x4.Files,iv x4.Budget,iv x4.Writes,iv x4.Stop,bv x4.Down]),(3,rE 8 (Pack.enc true) x2),(4,rE 2 (File.enc true) x4.Files)] zB ?_
 exact zBq (ds:=[.ag [rr 3 x2,rr 4 x4.Files,iv x4.Budget,iv x4.Writes,iv x4.Stop,bv x4.Down]]) (ds':=[.ag [so 8 (Pack.enc true) x2,so 2 (File.enc true) x4.Files,iv x4.Budget,iv x4.Writes,iv x4.Stop,bv x4.Down]]) (.cons (.ag (.move (.tail _ (.head _)) (List.length_map _) (by decide) (.move (.tail _ (.tail _ (.head _))) (List.length_map _) (by decide) (.keep rfl (.keep rfl (.keep rfl (.keep rfl (.nil)))))))) (.nil) (by decide)) rfl
noncomputable def zUc:Code:=(Tryz.f289.body).getD .skip
theorem vY.ok (a1:Int):Ok Tryz.prog 289 [uv a1] [] ((vY a1).map fun r=>(bv r,[])):=by
 refine zH zUc Tryz.f289 0 9 (fun q=>?_)
 unfold vY
 refine J_g 2 [] [(0,uv a1)] [] zB ?_
 refine wT (fun h2=>?_) (fun h2=>?_)
 ·refine J_g 6 [] [(2,bv (decide (a1≤122)))] [] (wE 2 [(4,bv (decide (a1≥97)))] [] h2 zB) ?_
  exact zM rfl
 ·refine J_g 6 [] [(2,bv false)] [] (wE 2 [(4,bv (decide (a1≥97)))] [] h2 zB) ?_
  exact zM rfl
noncomputable def c233:Code:=(Tryz.f233.body).getD .skip
theorem uD.ok (a1:Int):Ok Tryz.prog 233 [uv a1] [] ((uD a1).map fun r=>(bv r,[])):=by
 refine zH c233 Tryz.f233 0 9 (fun q=>?_)
 unfold uD
 refine J_g 2 [] [(0,uv a1)] [] zB ?_
 refine wT (fun h2=>?_) (fun h2=>?_)
 ·refine J_g 6 [] [(2,bv (decide (a1≤57)))] [] (wE 2 [(4,bv (decide (a1≥48)))] [] h2 zB) ?_
  exact zM rfl
 ·refine J_g 6 [] [(2,bv false)] [] (wE 2 [(4,bv (decide (a1≥48)))] [] h2 zB) ?_
  exact zM rfl
noncomputable def c236:Code:=(Tryz.f236.body).getD .skip
theorem vO.ok (a1:Int):Ok Tryz.prog 236 [uv a1] [] ((vO a1).map fun r=>(bv r,[])):=by
 refine zH c236 Tryz.f236 0 13 (fun q=>?_)
 unfold vO
 refine J_g 2 [] [(0,uv a1)] [] zB ?_
 refine zA (fun x2 h3=>?_)
 refine wT (fun h4=>?_) (fun h4=>?_)
 ·refine J_g 6 [] [(2,bv true)] [] (zF 1 (xC [(.tmp 3)] [5] (vY.ok a1) h3) (wE 2 [(4,bv x2)] [] h4 zB)) ?_
  exact zM rfl
 ·refine zA (fun x5 h6=>?_)
  refine wT (fun h7=>?_) (fun h7=>?_)
  ·refine J_g 6 [] [(2,bv true)] [] (zF 1 (xC [(.tmp 3)] [5] (vY.ok a1) h3) (wE 2 [(4,bv x2)] [] h4 (zBr 4 2 5 false (xC [(.tmp 6)] [5] (uD.ok a1) h6) (wE 6 [(8,bv x5)] [] h7 zB)))) ?_
   exact zM rfl
  ·refine J_g 6 [] [(2,bv (a1==95))] [] (zF 1 (xC [(.tmp 3)] [5] (vY.ok a1) h3) (wE 2 [(4,bv x2)] [] h4 (zBr 4 2 5 false (xC [(.tmp 6)] [5] (uD.ok a1) h6) (wE 6 [(8,bv x5)] [] h7 zB)))) ?_
   exact zM rfl
noncomputable def c228:Code:=(Tryz.f228.body).getD .skip
theorem kY.ok (a1:ByteArray) (q:Wd) (kn:Unit→Option (D×List Ent)) (hk:∀v:Unit,J (q.g Tryz.prog 228 0 29) c228 (atI c228 15) (St.mk' [] []) (some v) kn):
  ∀s16:Int,J (q.g Tryz.prog 228 0 29) c228 (atI c228 116) (St.mk' [(0,sv a1),(3,iv s16)] []) (kY a1 s16) (Fl.go (fun r:Int=>some (iv r,[])) kn):=by
 refine tQ (fun g ih s16=>?_)
 unfold zCT
 refine J_d 464 [] [21] [(21,bv (decide (s16< (a1.size:Int))))] [] [] zB ?_
 refine zG 21 (fun h17=>?_) (fun h17=>?_)
 ·refine zA (fun x18 h19=>?_)
  refine zA (fun x20 h21=>?_)
  refine J_d 1864 [] [21,28] [(28,bv (!x20))] [] [] (zF 2 (zJL (kk:=.i64) 9 (.tmp 24) (.tmp 25) h19) (zF 3 (xC [(.tmp 26)] [5] (vO.ok x18) h21) zB)) ?_
  refine zG 28 (fun h22=>?_) (fun h22=>?_)
  ·refine J_g 7460 [] [(2,iv 5)] [] zB ?_
   exact zM rfl
  ·refine J_g 467 [] [(0,sv a1),(3,iv (w64 (s16+1)))] [] zB ?_
   exact J_q (J_b (ih (w64 (s16+1)))) rfl
 ·exact yN (hk ()) rfl
theorem vD.ok (a1:ByteArray):Ok Tryz.prog 228 [sv a1] [] ((vD a1).map fun r=>(iv r,[])):=by
 refine zH c228 Tryz.f228 0 29 (fun q=>?_)
 unfold vD
 refine J_g 2 [] [(0,sv a1)] [] zB ?_
 refine wH (atI c228 13) (fun v8:Bool=>St.mk' [(0,sv a1),(17,bv v8)] []) (fun v8=>?_) (fun jv8=>?_)
 ·refine zG 17 (fun h9=>?_) (fun h9=>?_)
  ·refine J_g 52 [] [(2,iv 5)] [] zB ?_
   exact zM rfl
  ·refine J_g 28 [] [(0,sv a1),(3,iv 0)] [] zB ?_
   refine vZ (K0:=(fun r:Int=>some (iv r,[]))) (fun _=>rfl) (kY.ok a1 q _ (fun v23=>J_j ?_) 0)
   refine J_g 30 [] [(2,iv 0)] [] zB ?_
   exact zM rfl
 ·refine wT (fun h2=>?_) (fun h2=>?_)
  ·refine J_g 12 [] [(0,sv a1),(17,bv true)] [] (wE 3 [(6,bv (decide ((a1.size:Int)<1)))] [] h2 zB) ?_
   exact yN (J_j (jv8 true)) rfl
  ·refine wT (fun h3=>?_) (fun h3=>?_)
   ·refine J_g 12 [] [(0,sv a1),(17,bv true)] [] (wE 3 [(6,bv (decide ((a1.size:Int)<1)))] [] h2 (wE 8 [(11,bv (decide ((a1.size:Int)>12)))] [] h3 zB)) ?_
    exact yN (J_j (jv8 true)) rfl
   ·refine zA (fun x4 h5=>?_)
    refine zA (fun x6 h7=>?_)
    refine J_g 12 [] [(0,sv a1),(17,bv (!x6))] [] (wE 3 [(6,bv (decide ((a1.size:Int)<1)))] [] h2 (wE 8 [(11,bv (decide ((a1.size:Int)>12)))] [] h3 (zBr 10 8 12 false (zJL (kk:=.i64) 9 (.tmp 13) (.const (.int .i64 0)) h5) (zBr 11 8 12 false (xC [(.tmp 14)] [5] (vY.ok x4) h7) zB)))) ?_
    exact yN (J_j (jv8 (!x6))) rfl
noncomputable def c164:Code:=(Tryz.f164.body).getD .skip
theorem wP.ok (a1:Int) (a2:Int) (a3:Int):Ok Tryz.prog 164 [iv a1,iv a2,iv a3] [] ((wP a1 a2 a3).map fun r=>(bv r,[])):=by
 refine zH c164 Tryz.f164 0 15 (fun q=>?_)
 unfold wP
 refine J_d 2 [] [] [] [] [] zB ?_
 refine wT (fun h4=>?_) (fun h4=>?_)
 ·refine J_g 6 [] [(6,bv (decide (a1≤a3)))] [] (wE 3 [(9,bv (decide (a1≥a2)))] [] h4 zB) ?_
  exact zM rfl
 ·refine J_g 6 [] [(6,bv false)] [] (wE 3 [(9,bv (decide (a1≥a2)))] [] h4 zB) ?_
  exact zM rfl
noncomputable def c229:Code:=(Tryz.f229.body).getD .skip
theorem wJ.ok (a1:Version):Ok Tryz.prog 229 [.ag (Version.enc a1)] [] ((wJ a1).map fun r=>(iv r,[])):=by
 refine zH c229 Tryz.f229 0 19 (fun q=>?_)
 unfold wJ
 refine J_g 2 [(0,0)] [(1,pp 0)] [(0,.box (Version.enc a1))] zB ?_
 refine zA (fun x2 h3=>?_)
 refine wH (atI c229 13) (fun v10:Bool=>St.mk' [(18,bv v10)] []) (fun v10=>?_) (fun jv10=>?_)
 ·refine zG 18 (fun h11=>?_) (fun h11=>?_)
  ·refine J_g 52 [] [(2,iv 3)] [] zB ?_
   exact zM rfl
  ·refine J_g 14 [] [(2,iv 0)] [] zB ?_
   exact zM rfl
 ·refine wT (fun h4=>?_) (fun h4=>?_)
  ·refine J_g 12 [] [(18,bv true)] [] (zF 2 (xC [(.tmp 4),(.const (.int .i64 0)),(.const (.int .i64 999))] [2,2,2] (wP.ok a1.A 0 999) h3) (wE 4 [(6,bv (!x2))] [] h4 zB)) ?_
   exact yN (J_j (jv10 true)) rfl
  ·refine zA (fun x5 h6=>?_)
   refine wT (fun h7=>?_) (fun h7=>?_)
   ·refine J_g 12 [] [(18,bv true)] [] (zF 2 (xC [(.tmp 4),(.const (.int .i64 0)),(.const (.int .i64 999))] [2,2,2] (wP.ok a1.A 0 999) h3) (wE 4 [(6,bv (!x2))] [] h4 (zBr 7 4 7 false (xC [(.tmp 9),(.const (.int .i64 0)),(.const (.int .i64 999))] [2,2,2] (wP.ok a1.B 0 999) h6) (wE 10 [(12,bv (!x5))] [] h7 zB)))) ?_
    exact yN (J_j (jv10 true)) rfl
   ·refine zA (fun x8 h9=>?_)
    refine J_g 12 [] [(18,bv (!x8))] [] (zF 2 (xC [(.tmp 4),(.const (.int .i64 0)),(.const (.int .i64 999))] [2,2,2] (wP.ok a1.A 0 999) h3) (wE 4 [(6,bv (!x2))] [] h4 (zBr 7 4 7 false (xC [(.tmp 9),(.const (.int .i64 0)),(.const (.int .i64 999))] [2,2,2] (wP.ok a1.B 0 999) h6) (wE 10 [(12,bv (!x5))] [] h7 (zBr 13 10 13 false (xC [(.tmp 15),(.const (.int .i64 0)),(.const (.int .i64 999))] [2,2,2] (wP.ok a1.C 0 999) h9) zB))))) ?_
    exact yN (J_j (jv10 (!x8))) rfl
noncomputable def c119:Code:=(Tryz.f119.body).getD .skip
theorem zD4.ok (a1:(List ByteArray)) (a2:ByteArray) (q:Wd) (kn:Unit→Option (D×List Ent)) (hk:∀v:Unit,J (q.g Tryz.prog 119 0 18) c119 (atI c119 7) (St.mk' [] []) (some v) kn):
  ∀s7:Int,J (q.g Tryz.prog 119 0 18) c119 (atI c119 52) (St.mk' [(0,sl 1 eStr a1),(1,sv a2),(5,iv s7)] []) (zD4 a1 a2 s7) (Fl.go (fun r:Bool=>some (bv r,[])) kn):=by
 refine tQ (fun g ih s7=>?_)
 unfold zC2
 refine J_d 208 [] [9] [(9,bv (decide (s7< (a1.length:Int))))] [] [] zB ?_
 refine zG 9 (fun h8=>?_) (fun h8=>?_)
 ·refine zA (fun x9 h10=>?_)
  refine J_d 840 [] [9,17] [(17,bv (seq x9 a2))] [] [] (zF 2 (vI (kk:=.i64) 86 9 1 eStr (.tmp 12) (.tmp 13) h10) zB) ?_
  refine zG 17 (fun h11=>?_) (fun h11=>?_)
  ·refine J_g 3364 [] [(4,bv true)] [] zB ?_
   exact zM rfl
  ·refine J_d 211 [] [5,17] [(5,iv (w64 (s7+1)))] [] [] zB ?_
   exact J_q (J_b (ih (w64 (s7+1)))) rfl
 ·exact yN (hk ()) rfl
theorem kU.ok (a1:(List ByteArray)) (a2:ByteArray):Ok Tryz.prog 119 [sl 1 eStr a1,sv a2] [] ((kU a1 a2).map fun r=>(bv r,[])):=by
 refine zH c119 Tryz.f119 0 18 (fun q=>?_)
 unfold kU
 refine J_g 2 [] [(0,sl 1 eStr a1),(1,sv a2)] [] zB ?_
 refine J_d 12 [] [5] [(5,iv 0)] [] [] zB ?_
 refine vZ (K0:=(fun r:Bool=>some (bv r,[]))) (fun _=>rfl) (zD4.ok a1 a2 q _ (fun v12=>J_j ?_) 0)
 refine J_g 14 [] [(4,bv false)] [] zB ?_
 exact zM rfl
noncomputable def zTO:Code:=(Tryz.f292.body).getD .skip
theorem zAe.ok:Ok Tryz.prog 292 [] [] ((zAe).map fun r=>(.ag (Version.enc r),[])):=by
 refine zH zTO Tryz.f292 0 2 (fun q=>?_)
 unfold zAe
 refine J_g 2 [(0,0)] [(0,pp 0)] [(0,.box [iv 0,iv 0,iv 0])] zB ?_
 refine J_g 6 [] [(0,pp 0)] [(0,.box [iv 1000,iv 0,iv 0])] zB ?_
 exact zM rfl
noncomputable def zUa:Code:=(Tryz.f290.body).getD .skip
theorem zAt.ok (a1:Int) (a2:Int):Ok Tryz.prog 290 [iv a1,iv a2] [] ((zAt a1 a2).map fun r=>(iv r,[])):=by
 refine zH zUa Tryz.f290 0 11 (fun q=>?_)
 unfold zAt
 refine J_g 2 [] [(0,iv a1),(1,iv a2)] [] zB ?_
 refine J_d 12 [] [7] [(7,bv (decide (a1<a2)))] [] [] zB ?_
 refine zG 7 (fun h3=>?_) (fun h3=>?_)
 ·refine J_g 52 [] [(4,iv (-1))] [] zB ?_
  exact zM rfl
 ·refine J_g 28 [] [(10,bv (decide (a1>a2)))] [] zB ?_
  refine zG 10 (fun h4=>?_) (fun h4=>?_)
  ·refine J_g 116 [] [(4,iv 1)] [] zB ?_
   exact zM rfl
  ·refine J_g 30 [] [(4,iv 0)] [] zB ?_
   exact zM rfl
noncomputable def zTA:Code:=(Tryz.f231.body).getD .skip
theorem yF.ok (a1:Version) (a2:Version):Ok Tryz.prog 231 [.ag (Version.enc a1),.ag (Version.enc a2)] [] ((yF a1 a2).map fun r=>(iv r,[])):=by
 refine zH zTA Tryz.f231 0 28 (fun q=>?_)
 unfold yF
 refine J_g 2 [(0,0),(1,1)] [(2,pp 0),(3,pp 1)] [(0,.box (Version.enc a1)),(1,.box (Version.enc a2))] zB ?_
 refine zA (fun x3 h4=>?_)
 refine J_g 12 [] [(2,pp 0),(3,pp 1),(5,iv x3)] [(0,.box (Version.enc a1)),(1,.box (Version.enc a2))] (zF 4 (xC [(.tmp 8),(.tmp 10)] [2,2] (zAt.ok a1.A a2.A) h4) zB) ?_
 refine J_d 26 [] [13] [(13,bv (x3 !=0))] [] [] zB ?_
 refine zG 13 (fun h5=>?_) (fun h5=>?_)
 ·refine J_g 108 [] [(4,iv x3)] [] zB ?_
  exact zM rfl
 ·refine zA (fun x6 h7=>?_)
  refine J_g 28 [] [(2,pp 0),(3,pp 1),(6,iv x6)] [(0,.box (Version.enc a1)),(1,.box (Version.enc a2))] (zF 4 (xC [(.tmp 16),(.tmp 18)] [2,2] (zAt.ok a1.B a2.B) h7) zB) ?_
  refine J_d 58 [] [21] [(21,bv (x6 !=0))] [] [] zB ?_
  refine zG 21 (fun h8=>?_) (fun h8=>?_)
  ·refine J_g 236 [] [(4,iv x6)] [] zB ?_
   exact zM rfl
  ·refine zA (fun x9 h10=>?_)
   refine J_g 30 [] [(4,iv x9)] [] (zF 4 (xC [(.tmp 24),(.tmp 26)] [2,2] (zAt.ok a1.C a2.C) h10) zB) ?_
   exact zM rfl
noncomputable def zTv:Code:=(Tryz.f238.body).getD .skip
theorem vU.ok (a1:Term):Ok Tryz.prog 238 [.ag (Term.enc a1)] [] ((vU a1).map fun r=>(iv r,[])):=by
 refine zH zTv Tryz.f238 0 33 (fun q=>?_)
 unfold vU
 refine J_g 2 [(0,0)] [(1,pp 0)] [(0,.box (Term.enc a1))] zB ?_
 refine zA (fun x2 h3=>?_)
 refine J_g 12 [] [(1,pp 0),(3,iv x2)] [(0,.box (Term.enc a1))] (zF 2 (xC [(.tmp 6)] [9] (vD.ok a1.Name) h3) zB) ?_
 refine J_d 26 [] [9] [(9,bv (x2 !=0))] [] [] zB ?_
 refine zG 9 (fun h4=>?_) (fun h4=>?_)
 ·refine J_g 108 [] [(2,iv x2)] [] zB ?_
  exact zM rfl
 ·refine zA (fun x5 h6=>?_)
  refine J_g 28 [] [(1,pp 0),(4,iv x5)] [(0,.box (Term.enc a1))] (zF 2 (xC [(.tmp 12)] [99] (wJ.ok a1.Low) h6) zB) ?_
  refine J_d 58 [] [15] [(15,bv (x5 !=0))] [] [] zB ?_
  refine zG 15 (fun h7=>?_) (fun h7=>?_)
  ·refine J_g 236 [] [(2,iv x5)] [] zB ?_
   exact zM rfl
  ·refine zA (fun x8 h9=>?_)
   refine wH (atI zTv 61) (fun v13:Bool=>St.mk' [(1,pp 0),(26,bv v13)] [(0,.box (Term.enc a1))]) (fun v13=>?_) (fun jv13=>?_)
   ·refine zG 26 (fun h14=>?_) (fun h14=>?_)
    ·refine J_g 244 [] [(2,iv 3)] [] zB ?_
     exact zM rfl
    ·refine zA (fun x15 h16=>?_)
     refine J_g 124 [] [(32,bv (decide (x15≥0)))] [] (zF 4 (xC [(.tmp 28),(.tmp 30)] [99,99] (yF.ok a1.Low a1.High) h16) zB) ?_
     refine zG 32 (fun h17=>?_) (fun h17=>?_)
     ·refine J_g 500 [] [(2,iv 1)] [] zB ?_
      exact zM rfl
     ·refine J_g 126 [] [(2,iv 0)] [] zB ?_
      exact zM rfl
   ·refine wT (fun h10=>?_) (fun h10=>?_)
    ·refine zA (fun x11 h12=>?_)
     refine J_d 60 [] [4,15,26] [(26,bv (x11 !=0))] [] [] (zF 2 (xC [] [] (zAe.ok) h9) (zF 3 (zLk (b:=.neq) (r:=(a1.High.A==x8.A&&(a1.High.B==x8.B&&(a1.High.C==x8.C&&true)))) 99 99 (.tmp 18) (.tmp 19) [.int .i64 a1.High.A,.int .i64 a1.High.B,.int .i64 a1.High.C] [.int .i64 x8.A,.int .i64 x8.B,.int .i64 x8.C] (.inr ⟨rfl,rfl⟩)) (wE 4 [(20,bv (!(a1.High.A==x8.A&&(a1.High.B==x8.B&&(a1.High.C==x8.C&&true)))))] [] h10 (zBr 7 4 21 true (xC [(.tmp 23)] [99] (wJ.ok a1.High) h12) zB)))) ?_
     exact yN (J_j (jv13 (x11 !=0))) rfl
    ·refine J_d 60 [] [4,15,26] [(26,bv false)] [] [] (zF 2 (xC [] [] (zAe.ok) h9) (zF 3 (zLk (b:=.neq) (r:=(a1.High.A==x8.A&&(a1.High.B==x8.B&&(a1.High.C==x8.C&&true)))) 99 99 (.tmp 18) (.tmp 19) [.int .i64 a1.High.A,.int .i64 a1.High.B,.int .i64 a1.High.C] [.int .i64 x8.A,.int .i64 x8.B,.int .i64 x8.C] (.inr ⟨rfl,rfl⟩)) (wE 4 [(20,bv (!(a1.High.A==x8.A&&(a1.High.B==x8.B&&(a1.High.C==x8.C&&true)))))] [] h10 zB))) ?_
     exact yN (J_j (jv13 false)) rfl
noncomputable def zSd:Code:=(Tryz.f230.body).getD .skip
theorem zDB.ok (a1:(List Term)) (q:Wd) (kn:Unit→Option (D×List Ent)) (hk:∀v:Unit,J (q.g Tryz.prog 230 0 19) zSd (atI zSd 7) (St.mk' [] []) (some v) kn):
  ∀s8:Int,J (q.g Tryz.prog 230 0 19) zSd (atI zSd 52) (St.mk' [(0,sl 7 Term.enc a1),(3,iv s8)] []) (zDB a1 s8) (Fl.go (fun r:Int=>some (iv r,[])) kn):=by
 refine tQ (fun g ih s8=>?_)
 unfold zCA
 refine J_d 208 [] [8] [(8,bv (decide (s8< (a1.length:Int))))] [] [] zB ?_
 refine zG 8 (fun h9=>?_) (fun h9=>?_)
 ·refine zA (fun x10 h11=>?_)
  refine zA (fun x12 h13=>?_)
  refine J_g 840 [] [(0,sl 7 Term.enc a1),(3,iv s8),(4,iv x12)] [] (zF 2 (vI (kk:=.i64) 75 149 7 Term.enc (.tmp 11) (.tmp 12) h11) (zF 4 (xC [(.tmp 14)] [149] (vU.ok x10) h13) zB)) ?_
  refine J_d 1682 [] [17] [(17,bv (x12 !=0))] [] [] zB ?_
  refine zG 17 (fun h14=>?_) (fun h14=>?_)
  ·refine J_g 6732 [] [(2,iv x12)] [] zB ?_
   exact zM rfl
  ·refine J_g 211 [] [(0,sl 7 Term.enc a1),(3,iv (w64 (s8+1)))] [] zB ?_
   exact J_q (J_b (ih (w64 (s8+1)))) rfl
 ·exact yN (hk ()) rfl
theorem kQ.ok (a1:(List Term)):Ok Tryz.prog 230 [sl 7 Term.enc a1] [] ((kQ a1).map fun r=>(iv r,[])):=by
 refine zH zSd Tryz.f230 0 19 (fun q=>?_)
 unfold kQ
 refine J_g 2 [] [(0,sl 7 Term.enc a1)] [] zB ?_
 refine J_d 12 [] [3] [(3,iv 0)] [] [] zB ?_
 refine vZ (K0:=(fun r:Int=>some (iv r,[]))) (fun _=>rfl) (zDB.ok a1 q _ (fun v15=>J_j ?_) 0)
 refine J_g 14 [] [(2,iv 0)] [] zB ?_
 exact zM rfl
noncomputable def c162:Code:=(Tryz.f162.body).getD .skip
theorem zAg.ok (a1:Pack) (q:Wd) (kn:Unit→Option (D×List Ent)) (hk:∀v:Unit,J (q.g Tryz.prog 162 0 118) c162 (atI c162 511) (St.mk' [(1,pp 0)] [(0,.box (Pack.enc false a1))]) (some v) kn):
  ∀s70:Int,J (q.g Tryz.prog 162 0 118) c162 (atI c162 4084) (St.mk' [(1,pp 0),(8,iv s70)] [(0,.box (Pack.enc false a1))]) (zAg a1 s70) (Fl.go (fun r:Int=>some (iv r,[])) kn):=by
 refine tQ (fun g ih s70=>?_)
 unfold zAN
 refine J_d 16336 [] [96] [(96,bv (decide (s70< (a1.Needs.length:Int))))] [] [] zB ?_
 refine zG 96 (fun h71=>?_) (fun h71=>?_)
 ·refine zA (fun x72 h73=>?_)
  refine J_d 130704 [] [96,105] [(105,bv ((x72.length:Int)==0))] [] [] (zF 3 (vI (kk:=.i64) 100 75 1 (eSl false 7 Term.enc) (.tmp 100) (.tmp 101) h73) zB) ?_
  refine zG 105 (fun h74=>?_) (fun h74=>?_)
  ·refine J_g 522820 [] [(2,iv 1)] [] zB ?_
   exact zM rfl
  ·refine zA (fun x75 h76=>?_)
   refine zA (fun x77 h78=>?_)
   refine J_g 130706 [] [(1,pp 0),(8,iv s70),(9,iv x77)] [(0,.box (Pack.enc false a1))] (zF 3 (vI (kk:=.i64) 100 75 1 (eSl false 7 Term.enc) (.tmp 107) (.tmp 108) h76) (zF 5 (xC [(.tmp 110)] [75] (kQ.ok x75) h78) zB)) ?_
   refine J_d 261414 [] [113] [(113,bv (x77 !=0))] [] [] zB ?_
   refine zG 113 (fun h79=>?_) (fun h79=>?_)
   ·refine J_g 1045660 [] [(2,iv x77)] [] zB ?_
    exact zM rfl
   ·refine J_d 16339 [] [8,9,113] [(8,iv (w64 (s70+1)))] [] [] zB ?_
    exact J_q (J_b (ih (w64 (s70+1)))) rfl
 ·exact yN (hk ()) rfl
theorem zAi.ok (a1:Pack) (q:Wd) (kn:Unit→Option (D×List Ent)) (hk:∀v:Unit,J (q.g Tryz.prog 162 0 118) c162 (atI c162 255) (St.mk' [(1,pp 0)] [(0,.box (Pack.enc false a1))]) (some v) kn):
  ∀s42:Int,J (q.g Tryz.prog 162 0 118) c162 (atI c162 2036) (St.mk' [(1,pp 0),(6,iv s42)] [(0,.box (Pack.enc false a1))]) (zAi a1 s42) (Fl.go (fun r:Int=>some (iv r,[])) kn):=by
 refine tQ (fun g ih s42=>?_)
 unfold zBh
 refine J_d 8144 [] [60] [(60,bv (decide (s42< (a1.Provides.length:Int))))] [] [] zB ?_
 refine zG 60 (fun h43=>?_) (fun h43=>?_)
 ·refine zA (fun x44 h45=>?_)
  refine zA (fun x46 h47=>?_)
  refine J_g 65168 [] [(1,pp 0),(6,iv s42),(7,iv x46)] [(0,.box (Pack.enc false a1))] (zF 3 (vI (kk:=.i64) 86 9 1 eStr (.tmp 64) (.tmp 65) h45) (zF 5 (xC [(.tmp 67)] [9] (vD.ok x44) h47) zB)) ?_
  refine J_d 130338 [] [70] [(70,bv (x46 !=0))] [] [] zB ?_
  refine zG 70 (fun h48=>?_) (fun h48=>?_)
  ·refine J_g 521356 [] [(2,iv x46)] [] zB ?_
   exact zM rfl
  ·refine zA (fun x49 h50=>?_)
   refine wH (atI c162 65171) (fun v58:Bool=>St.mk' [(1,pp 0),(6,iv s42),(91,bv v58)] [(0,.box (Pack.enc false a1))]) (fun v58=>?_) (fun jv58=>?_)
   ·refine zG 91 (fun h59=>?_) (fun h59=>?_)
    ·refine J_g 260684 [] [(2,iv 6)] [] zB ?_
     exact zM rfl
    ·refine J_d 8147 [] [6,91] [(6,iv (w64 (s42+1)))] [] [] zB ?_
     exact J_q (J_b (ih (w64 (s42+1)))) rfl
   ·refine wT (fun h51=>?_) (fun h51=>?_)
    ·refine J_d 65170 [] [7,70,91] [(91,bv true)] [] [] (zF 3 (vI (kk:=.i64) 86 9 1 eStr (.tmp 73) (.tmp 74) h50) (wE 8 [(79,bv (seq x49 a1.Name))] [] h51 zB)) ?_
     exact yN (J_j (jv58 true)) rfl
    ·refine zA (fun x52 h53=>?_)
     refine zA (fun x54 h55=>?_)
     refine zA (fun x56 h57=>?_)
     refine J_d 65170 [] [7,70,91] [(91,bv x56)] [] [] (zF 3 (vI (kk:=.i64) 86 9 1 eStr (.tmp 73) (.tmp 74) h50) (wE 8 [(79,bv (seq x49 a1.Name))] [] h51 (zBr 12 8 80 false (zRE 86 9 1 eStr (.tmp 82) none (some (.tmp 83)) h53) (zBr 16 8 80 false (vI (kk:=.i64) 86 9 1 eStr (.tmp 86) (.tmp 87) h55) (zBr 18 8 80 false (xC [(.tmp 84),(.tmp 89)] [86,9] (kU.ok x52 x54) h57) zB))))) ?_
     exact yN (J_j (jv58 x56)) rfl
 ·exact yN (hk ()) rfl
theorem zBI.ok (a1:Pack) (q:Wd) (kn:Unit→Option (D×List Ent)) (hk:∀v:Unit,J (q.g Tryz.prog 162 0 118) c162 (atI c162 127) (St.mk' [(1,pp 0)] [(0,.box (Pack.enc false a1))]) (some v) kn):
  ∀s19:Int,J (q.g Tryz.prog 162 0 118) c162 (atI c162 1012) (St.mk' [(1,pp 0),(5,iv s19)] [(0,.box (Pack.enc false a1))]) (zBI a1 s19) (Fl.go (fun r:Int=>some (iv r,[])) kn):=by
 refine tQ (fun g ih s19=>?_)
 unfold zBf
 refine J_d 4048 [] [46] [(46,bv (decide (s19< (a1.Needs.length:Int))))] [] [] zB ?_
 refine zG 46 (fun h20=>?_) (fun h20=>?_)
 ·refine zA (fun x21 h22=>?_)
  refine J_d 16200 [] [46,55] [(55,bv (decide ((x21.length:Int)>4)))] [] [] (zF 3 (vI (kk:=.i64) 100 75 1 (eSl false 7 Term.enc) (.tmp 50) (.tmp 51) h22) zB) ?_
  refine zG 55 (fun h23=>?_) (fun h23=>?_)
  ·refine J_g 64804 [] [(2,iv 2)] [] zB ?_
   exact zM rfl
  ·refine J_d 4051 [] [5,55] [(5,iv (w64 (s19+1)))] [] [] zB ?_
   exact J_q (J_b (ih (w64 (s19+1)))) rfl
 ·exact yN (hk ()) rfl
theorem zB8.ok (a1:Pack):Ok Tryz.prog 162 [.ag (Pack.enc false a1)] [] ((zB8 a1).map fun r=>(iv r,[])):=by
 refine zH c162 Tryz.f162 0 118 (fun q=>?_)
 unfold zB8
 refine J_g 2 [(0,0)] [(1,pp 0)] [(0,.box (Pack.enc false a1))] zB ?_
 refine zA (fun x2 h3=>?_)
 refine J_g 12 [] [(1,pp 0),(3,iv x2)] [(0,.box (Pack.enc false a1))] (zF 2 (xC [(.tmp 11)] [9] (vD.ok a1.Name) h3) zB) ?_
 refine J_d 26 [] [14] [(14,bv (x2 !=0))] [] [] zB ?_
 refine zG 14 (fun h4=>?_) (fun h4=>?_)
 ·refine J_g 108 [] [(2,iv x2)] [] zB ?_
  exact zM rfl
 ·refine zA (fun x5 h6=>?_)
  refine J_g 28 [] [(1,pp 0),(4,iv x5)] [(0,.box (Pack.enc false a1))] (zF 2 (xC [(.tmp 17)] [99] (wJ.ok a1.Version) h6) zB) ?_
  refine J_d 58 [] [20] [(20,bv (x5 !=0))] [] [] zB ?_
  refine zG 20 (fun h7=>?_) (fun h7=>?_)
  ·refine J_g 236 [] [(2,iv x5)] [] zB ?_
   exact zM rfl
  ·refine zA (fun x8 h9=>?_)
   refine J_d 60 [] [4,20,25] [(25,bv (!x8))] [] [] (zF 2 (xC [(.tmp 23),(.const (.int .i64 1)),(.const (.int .i64 200))] [2,2,2] (wP.ok a1.Size 1 200) h9) zB) ?_
   refine zG 25 (fun h10=>?_) (fun h10=>?_)
   ·refine J_g 244 [] [(2,iv 3)] [] zB ?_
    exact zM rfl
   ·refine wH (atI c162 125) (fun v13:Bool=>St.mk' [(1,pp 0),(41,bv v13)] [(0,.box (Pack.enc false a1))]) (fun v13=>?_) (fun jv13=>?_)
    ·refine zG 41 (fun h14=>?_) (fun h14=>?_)
     ·refine J_g 500 [] [(2,iv 2)] [] zB ?_
      exact zM rfl
     ·refine J_d 252 [] [5,41] [(5,iv 0)] [] [] zB ?_
      refine vZ (K0:=(fun r:Int=>some (iv r,[]))) (fun _=>rfl) (zBI.ok a1 q _ (fun v24=>J_j ?_) 0)
      refine J_d 508 [] [6] [(6,iv 0)] [] [] zB ?_
      refine vZ (K0:=(fun r:Int=>some (iv r,[]))) (fun _=>rfl) (zAi.ok a1 q _ (fun v60=>J_j ?_) 0)
      refine J_d 1020 [] [8] [(8,iv 0)] [] [] zB ?_
      refine vZ (K0:=(fun r:Int=>some (iv r,[]))) (fun _=>rfl) (zAg.ok a1 q _ (fun v80=>J_j ?_) 0)
      refine zA (fun x81 h82=>?_)
      refine J_g 1022 [] [(2,iv x81)] [] (zF 2 (xC [(.tmp 116)] [75] (kQ.ok a1.Bars) h82) zB) ?_
      exact zM rfl
    ·refine wT (fun h11=>?_) (fun h11=>?_)
     ·refine J_d 124 [] [25,41] [(41,bv true)] [] [] (wE 4 [(29,bv (decide ((a1.Provides.length:Int)>4)))] [] h11 zB) ?_
      exact yN (J_j (jv13 true)) rfl
     ·refine wT (fun h12=>?_) (fun h12=>?_)
      ·refine J_d 124 [] [25,41] [(41,bv true)] [] [] (wE 4 [(29,bv (decide ((a1.Provides.length:Int)>4)))] [] h11 (wE 10 [(35,bv (decide ((a1.Needs.length:Int)>4)))] [] h12 zB)) ?_
       exact yN (J_j (jv13 true)) rfl
      ·refine J_d 124 [] [25,41] [(41,bv (decide ((a1.Bars.length:Int)>4)))] [] [] (wE 4 [(29,bv (decide ((a1.Provides.length:Int)>4)))] [] h11 (wE 10 [(35,bv (decide ((a1.Needs.length:Int)>4)))] [] h12 zB)) ?_
       exact yN (J_j (jv13 (decide ((a1.Bars.length:Int)>4)))) rfl
noncomputable def zR5:Code:=(Tryz.f163.body).getD .skip
theorem zEs.ok (a1:(List Pack)) (a2:ByteArray) (a3:Version) (q:Wd) (kn:Unit→Option (D×List Ent)) (hk:∀v:Unit,J (q.g Tryz.prog 163 0 32) zR5 (atI zR5 7) (St.mk' [] []) (some v) kn):
  ∀s14:Int,J (q.g Tryz.prog 163 0 32) zR5 (atI zR5 52) (St.mk' [(0,sl 8 (Pack.enc false) a1),(1,sv a2),(5,pp 0),(7,iv s14)] [(0,.box (Version.enc a3))]) (zEs a1 a2 a3 s14) (Fl.go (fun r:Int=>some (iv r,[])) kn):=by
 refine tQ (fun g ih s14=>?_)
 unfold zCW
 refine J_d 208 [] [11] [(11,bv (decide (s14< (a1.length:Int))))] [] [] zB ?_
 refine zG 11 (fun h15=>?_) (fun h15=>?_)
 ·refine zA (fun x16 h17=>?_)
  refine wH (atI zR5 841) (fun v23:Bool=>St.mk' [(0,sl 8 (Pack.enc false) a1),(1,sv a2),(5,pp 0),(7,iv s14),(30,bv v23)] [(0,.box (Version.enc a3))]) (fun v23=>?_) (fun jv23=>?_)
  ·refine zG 30 (fun h24=>?_) (fun h24=>?_)
   ·refine J_g 3364 [] [(6,iv s14)] [] zB ?_
    exact zM rfl
   ·refine J_d 211 [] [7,30] [(7,iv (w64 (s14+1)))] [] [] zB ?_
    exact J_q (J_b (ih (w64 (s14+1)))) rfl
  ·refine wT (fun h18=>?_) (fun h18=>?_)
   ·refine zA (fun x19 h20=>?_)
    refine zA (fun x21 h22=>?_)
    refine J_d 840 [] [11,30] [(30,bv (x21==0))] [] [] (zF 2 (vI (kk:=.i64) 30 102 8 (Pack.enc false) (.tmp 14) (.tmp 15) h17) (wE 7 [(20,bv (seq x16.Name a2))] [] h18 (zBr 10 7 21 true (vI (kk:=.i64) 30 102 8 (Pack.enc false) (.tmp 22) (.tmp 23) h20) (zBr 14 7 21 true (xC [(.tmp 26),(.tmp 27)] [99,99] (yF.ok x19.Version a3) h22) zB)))) ?_
    exact yN (J_j (jv23 (x21==0))) rfl
   ·refine J_d 840 [] [11,30] [(30,bv false)] [] [] (zF 2 (vI (kk:=.i64) 30 102 8 (Pack.enc false) (.tmp 14) (.tmp 15) h17) (wE 7 [(20,bv (seq x16.Name a2))] [] h18 zB)) ?_
    exact yN (J_j (jv23 false)) rfl
 ·exact yN (hk ()) rfl
theorem zAo.ok (a1:(List Pack)) (a2:ByteArray) (a3:Version):Ok Tryz.prog 163 [sl 8 (Pack.enc false) a1,sv a2,.ag (Version.enc a3)] [] ((zAo a1 a2 a3).map fun r=>(iv r,[])):=by
 refine zH zR5 Tryz.f163 0 32 (fun q=>?_)
 unfold zAo
 refine J_g 2 [(0,0)] [(0,sl 8 (Pack.enc false) a1),(1,sv a2),(5,pp 0)] [(0,.box (Version.enc a3))] zB ?_
 refine J_d 12 [] [7] [(7,iv 0)] [] [] zB ?_
 refine vZ (K0:=(fun r:Int=>some (iv r,[]))) (fun _=>rfl) (zEs.ok a1 a2 a3 q _ (fun v25=>J_j ?_) 0)
 refine J_g 14 [] [(6,iv (-1))] [] zB ?_
 exact zM rfl
noncomputable def c90:Code:=(Tryz.f90.body).getD .skip
theorem kC.ok (a1:(List Pack)) (q:Wd) (kn:Unit→Option (D×List Ent)) (hk:∀v:Unit,J (q.g Tryz.prog 90 0 37) c90 (atI c90 15) (St.mk' [] []) (some v) kn):
  ∀s18:Int,J (q.g Tryz.prog 90 0 37) c90 (atI c90 116) (St.mk' [(0,sl 8 (Pack.enc false) a1),(3,iv s18)] []) (kC a1 s18) (Fl.go (fun r:Int=>some (iv r,[])) kn):=by
 refine tQ (fun g ih s18=>?_)
 unfold jJ
 refine J_d 464 [] [11] [(11,bv (decide (s18< (a1.length:Int))))] [] [] zB ?_
 refine zG 11 (fun h19=>?_) (fun h19=>?_)
 ·refine zA (fun x20 h21=>?_)
  refine zA (fun x22 h23=>?_)
  refine J_g 3728 [] [(0,sl 8 (Pack.enc false) a1),(3,iv s18),(4,iv x22)] [] (zF 2 (vI (kk:=.i64) 30 102 8 (Pack.enc false) (.tmp 14) (.tmp 15) h21) (zF 4 (xC [(.tmp 17)] [102] (zB8.ok x20) h23) zB)) ?_
  refine J_d 7458 [] [20] [(20,bv (x22 !=0))] [] [] zB ?_
  refine zG 20 (fun h24=>?_) (fun h24=>?_)
  ·refine J_g 29836 [] [(2,iv x22)] [] zB ?_
   exact zM rfl
  ·refine zA (fun x25 h26=>?_)
   refine zA (fun x27 h28=>?_)
   refine zA (fun x29 h30=>?_)
   refine zA (fun x31 h32=>?_)
   refine J_d 3730 [] [4,20,36] [(36,bv (decide (x31≥0)))] [] [] (zF 2 (zRE 30 102 8 (Pack.enc false) (.tmp 22) none (some (.tmp 23)) h26) (zF 5 (vI (kk:=.i64) 30 102 8 (Pack.enc false) (.tmp 25) (.tmp 26) h28) (zF 10 (vI (kk:=.i64) 30 102 8 (Pack.enc false) (.tmp 30) (.tmp 31) h30) (zF 13 (xC [(.tmp 24),(.tmp 29),(.tmp 34)] [30,9,99] (zAo.ok x25 x27.Name x29.Version) h32) zB)))) ?_
   refine zG 36 (fun h33=>?_) (fun h33=>?_)
   ·refine J_g 14924 [] [(2,iv 6)] [] zB ?_
    exact zM rfl
   ·refine J_d 467 [] [3,36] [(3,iv (w64 (s18+1)))] [] [] zB ?_
    exact J_q (J_b (ih (w64 (s18+1)))) rfl
 ·exact yN (hk ()) rfl
theorem tF.ok (a1:(List Pack)):Ok Tryz.prog 90 [sl 8 (Pack.enc false) a1] [] ((tF a1).map fun r=>(iv r,[])):=by
 refine zH c90 Tryz.f90 0 37 (fun q=>?_)
 unfold tF
 refine J_g 2 [] [(0,sl 8 (Pack.enc false) a1)] [] zB ?_
 refine J_d 12 [] [7] [(7,bv (decide ((a1.length:Int)>24)))] [] [] zB ?_
 refine zG 7 (fun h2=>?_) (fun h2=>?_)
 ·refine J_g 52 [] [(2,iv 2)] [] zB ?_
  exact zM rfl
 ·refine J_d 28 [] [3,7] [(3,iv 0)] [] [] zB ?_
  refine vZ (K0:=(fun r:Int=>some (iv r,[]))) (fun _=>rfl) (kC.ok a1 q _ (fun v34=>J_j ?_) 0)
  refine J_g 30 [] [(2,iv 0)] [] zB ?_
  exact zM rfl
noncomputable def c232:Code:=(Tryz.f232.body).getD .skip
theorem zEN.ok (a1:Int):Ok Tryz.prog 232 [uv a1] [] ((zEN a1).map fun r=>(bv r,[])):=by
 refine zH c232 Tryz.f232 0 17 (fun q=>?_)
 unfold zEN
 refine J_g 2 [] [(0,uv a1)] [] zB ?_
 refine zA (fun x2 h3=>?_)
 refine wT (fun h4=>?_) (fun h4=>?_)
 ·refine J_g 6 [] [(2,bv true)] [] (zF 1 (xC [(.tmp 3)] [5] (vO.ok a1) h3) (wE 2 [(4,bv x2)] [] h4 zB)) ?_
  exact zM rfl
 ·refine wT (fun h5=>?_) (fun h5=>?_)
  ·refine J_g 6 [] [(2,bv true)] [] (zF 1 (xC [(.tmp 3)] [5] (vO.ok a1) h3) (wE 2 [(4,bv x2)] [] h4 (wE 6 [(8,bv (a1==46))] [] h5 zB))) ?_
   exact zM rfl
  ·refine wT (fun h6=>?_) (fun h6=>?_)
   ·refine J_g 6 [] [(2,bv true)] [] (zF 1 (xC [(.tmp 3)] [5] (vO.ok a1) h3) (wE 2 [(4,bv x2)] [] h4 (wE 6 [(8,bv (a1==46))] [] h5 (wE 10 [(12,bv (a1==45))] [] h6 zB)))) ?_
    exact zM rfl
   ·refine J_g 6 [] [(2,bv (a1==47))] [] (zF 1 (xC [(.tmp 3)] [5] (vO.ok a1) h3) (wE 2 [(4,bv x2)] [] h4 (wE 6 [(8,bv (a1==46))] [] h5 (wE 10 [(12,bv (a1==45))] [] h6 zB)))) ?_
    exact zM rfl
noncomputable def zRB:Code:=(Tryz.f165.body).getD .skip
theorem tN.ok (a1:ByteArray) (q:Wd) (kn:Unit→Option (D×List Ent)) (hk:∀v:Unit,J (q.g Tryz.prog 165 0 23) zRB (atI zRB 15) (St.mk' [] []) (some v) kn):
  ∀s11:Int,J (q.g Tryz.prog 165 0 23) zRB (atI zRB 116) (St.mk' [(0,sv a1),(3,iv s11)] []) (tN a1 s11) (Fl.go (fun r:Int=>some (iv r,[])) kn):=by
 refine tQ (fun g ih s11=>?_)
 unfold jP
 refine J_d 464 [] [15] [(15,bv (decide (s11< (a1.size:Int))))] [] [] zB ?_
 refine zG 15 (fun h12=>?_) (fun h12=>?_)
 ·refine zA (fun x13 h14=>?_)
  refine zA (fun x15 h16=>?_)
  refine J_d 1864 [] [15,22] [(22,bv (!x15))] [] [] (zF 2 (zJL (kk:=.i64) 9 (.tmp 18) (.tmp 19) h14) (zF 3 (xC [(.tmp 20)] [5] (zEN.ok x13) h16) zB)) ?_
  refine zG 22 (fun h17=>?_) (fun h17=>?_)
  ·refine J_g 7460 [] [(2,iv 5)] [] zB ?_
   exact zM rfl
  ·refine J_g 467 [] [(0,sv a1),(3,iv (w64 (s11+1)))] [] zB ?_
   exact J_q (J_b (ih (w64 (s11+1)))) rfl
 ·exact yN (hk ()) rfl
theorem vT.ok (a1:ByteArray):Ok Tryz.prog 165 [sv a1] [] ((vT a1).map fun r=>(iv r,[])):=by
 refine zH zRB Tryz.f165 0 23 (fun q=>?_)
 unfold vT
 refine J_g 2 [] [(0,sv a1)] [] zB ?_
 refine wH (atI zRB 13) (fun v3:Bool=>St.mk' [(0,sv a1),(11,bv v3)] []) (fun v3=>?_) (fun jv3=>?_)
 ·refine zG 11 (fun h4=>?_) (fun h4=>?_)
  ·refine J_g 52 [] [(2,iv 5)] [] zB ?_
   exact zM rfl
  ·refine J_g 28 [] [(0,sv a1),(3,iv 0)] [] zB ?_
   refine vZ (K0:=(fun r:Int=>some (iv r,[]))) (fun _=>rfl) (tN.ok a1 q _ (fun v18=>J_j ?_) 0)
   refine J_g 30 [] [(2,iv 0)] [] zB ?_
   exact zM rfl
 ·refine wT (fun h2=>?_) (fun h2=>?_)
  ·refine J_g 12 [] [(0,sv a1),(11,bv true)] [] (wE 3 [(6,bv (decide ((a1.size:Int)<1)))] [] h2 zB) ?_
   exact yN (J_j (jv3 true)) rfl
  ·refine J_g 12 [] [(0,sv a1),(11,bv (decide ((a1.size:Int)>40)))] [] (wE 3 [(6,bv (decide ((a1.size:Int)<1)))] [] h2 zB) ?_
   exact yN (J_j (jv3 (decide ((a1.size:Int)>40)))) rfl
noncomputable def zRT:Code:=(Tryz.f150.body).getD .skip
theorem zDv.ok (a1:zD) (q:Wd) (kn:Int→Option (D×List Ent)) (hk:∀v:Int,J (q.g Tryz.prog 150 1 26) zRT (atI zRT 15) (St.mk' [(3,iv v)] [(0,.box (zD.enc false a1))]) (some v) kn):
  ∀s5:(Int×Int),J (q.g Tryz.prog 150 1 26) zRT (atI zRT 116) (St.mk' [(0,pp 0),(3,iv s5.1),(4,iv s5.2)] [(0,.box (zD.enc false a1))]) (zDv a1 s5) kn:=by
 refine tQ (fun g ih s5=>?_)
 unfold zCv
 refine J_d 464 [] [11] [(11,bv (decide (s5.2< (a1.Files.length:Int))))] [] [] zB ?_
 refine zG 11 (fun h6=>?_) (fun h6=>?_)
 ·refine zA (fun x7 h8=>?_)
  refine J_g 932 [] [(0,pp 0),(3,iv (w64 (s5.1+(x7.Data.length:Int)))),(4,iv s5.2)] [(0,.box (zD.enc false a1))] (zF 6 (vI (kk:=.i64) 31 138 2 (File.enc false) (.tmp 18) (.tmp 19) h8) zB) ?_
  refine J_d 467 [] [4] [(4,iv (w64 (s5.2+1)))] [] [] zB ?_
  exact J_q (J_b (ih (w64 (s5.1+(x7.Data.length:Int)),w64 (s5.2+1)))) rfl
 ·exact yN (hk s5.1) rfl
theorem zDL.ok (a1:zD):Ok Tryz.prog 150 [pp 0] [.box (zD.enc false a1)] ((zDL a1).map fun r=>(iv r,[.box (zD.enc false a1)])):=by
 refine zH zRT Tryz.f150 1 26 (fun q=>?_)
 unfold zDL
 refine J_g 2 [] [(0,pp 0)] [(0,.box (zD.enc false a1))] zB ?_
 refine J_g 6 [] [(0,pp 0),(3,iv 0)] [(0,.box (zD.enc false a1))] zB ?_
 refine J_d 28 [] [4] [(4,iv 0)] [] [] zB ?_
 refine zFJ (zDv.ok a1 q _ (fun v9=>J_j ?_) (0,0))
 refine J_d 30 [] [2,3] [(2,iv v9)] [] [] zB ?_
 exact zM rfl
noncomputable def c91:Code:=(Tryz.f91.body).getD .skip
theorem tT.ok (a1:zD) (q:Wd) (kn:Unit→Option (D×List Ent)) (hk:∀v:Unit,J (q.g Tryz.prog 91 0 72) c91 (atI c91 31) (St.mk' [(1,pp 0)] [(0,.box (zD.enc false a1))]) (some v) kn):
  ∀s29:Int,J (q.g Tryz.prog 91 0 72) c91 (atI c91 244) (St.mk' [(1,pp 0),(3,iv s29)] [(0,.box (zD.enc false a1))]) (tT a1 s29) (Fl.go (fun r:Int=>some (iv r,[])) kn):=by
 refine tQ (fun g ih s29=>?_)
 unfold jS
 refine J_d 976 [] [29] [(29,bv (decide (s29< (a1.Files.length:Int))))] [] [] zB ?_
 refine zG 29 (fun h30=>?_) (fun h30=>?_)
 ·refine zA (fun x31 h32=>?_)
  refine zA (fun x33 h34=>?_)
  refine J_g 7824 [] [(1,pp 0),(3,iv s29),(4,iv x33)] [(0,.box (zD.enc false a1))] (zF 3 (vI (kk:=.i64) 31 138 2 (File.enc false) (.tmp 33) (.tmp 34) h32) (zF 6 (xC [(.tmp 37)] [9] (vT.ok x31.Path) h34) zB)) ?_
  refine J_d 15650 [] [40] [(40,bv (x33 !=0))] [] [] zB ?_
  refine zG 40 (fun h35=>?_) (fun h35=>?_)
  ·refine J_g 62604 [] [(2,iv x33)] [] zB ?_
   exact zM rfl
  ·refine wH (atI c91 15653) (fun v41:Bool=>St.mk' [(1,pp 0),(3,iv s29),(59,bv v41)] [(0,.box (zD.enc false a1))]) (fun v41=>?_) (fun jv41=>?_)
   ·refine zG 59 (fun h42=>?_) (fun h42=>?_)
    ·refine J_g 62612 [] [(2,iv 1)] [] zB ?_
     exact zM rfl
    ·refine zA (fun x43 h44=>?_)
     refine J_d 15654 [] [59,67] [(67,bv (decide ((x43.Data.length:Int)>4000)))] [] [] (zF 3 (vI (kk:=.i64) 31 138 2 (File.enc false) (.tmp 61) (.tmp 62) h44) zB) ?_
     refine zG 67 (fun h45=>?_) (fun h45=>?_)
     ·refine J_g 62620 [] [(2,iv 2)] [] zB ?_
      exact zM rfl
     ·refine J_d 979 [] [3,67] [(3,iv (w64 (s29+1)))] [] [] zB ?_
      exact J_q (J_b (ih (w64 (s29+1)))) rfl
   ·refine wT (fun h36=>?_) (fun h36=>?_)
    ·refine zA (fun x37 h38=>?_)
     refine zA (fun x39 h40=>?_)
     refine J_d 15652 [] [4,40,59] [(59,bv (slt x37.Path x39.Path||seq x37.Path x39.Path))] [] [] (wE 2 [(43,bv (decide (s29>0)))] [] h36 (zBr 6 2 44 true (vI (kk:=.i64) 31 138 2 (File.enc false) (.tmp 46) (.tmp 47) h38) (zBr 13 2 44 true (vI (kk:=.i64) 31 138 2 (File.enc false) (.tmp 52) (.tmp 54) h40) zB))) ?_
     exact yN (J_j (jv41 (slt x37.Path x39.Path||seq x37.Path x39.Path))) rfl
    ·refine J_d 15652 [] [4,40,59] [(59,bv false)] [] [] (wE 2 [(43,bv (decide (s29>0)))] [] h36 zB) ?_
     exact yN (J_j (jv41 false)) rfl
 ·exact yN (hk ()) rfl
theorem vC.ok (a1:zD):Ok Tryz.prog 91 [.ag (zD.enc false a1)] [] ((vC a1).map fun r=>(iv r,[])):=by
 refine zH c91 Tryz.f91 0 72 (fun q=>?_)
 unfold vC
 refine J_g 2 [(0,0)] [(1,pp 0)] [(0,.box (zD.enc false a1))] zB ?_
 refine zA (fun x2 h3=>?_)
 refine wH (atI c91 13) (fun v10:Bool=>St.mk' [(1,pp 0),(20,bv v10)] [(0,.box (zD.enc false a1))]) (fun v10=>?_) (fun jv10=>?_)
 ·refine zG 20 (fun h11=>?_) (fun h11=>?_)
  ·refine J_g 52 [] [(2,iv 3)] [] zB ?_
   exact zM rfl
  ·refine J_d 28 [] [20,24] [(24,bv (decide ((a1.Files.length:Int)>120)))] [] [] zB ?_
   refine zG 24 (fun h12=>?_) (fun h12=>?_)
   ·refine J_g 116 [] [(2,iv 2)] [] zB ?_
    exact zM rfl
   ·refine J_d 60 [] [3,24] [(3,iv 0)] [] [] zB ?_
    refine vZ (K0:=(fun r:Int=>some (iv r,[]))) (fun _=>rfl) (tT.ok a1 q _ (fun v46=>J_j ?_) 0)
    refine zA (fun x47 h48=>?_)
    refine J_g 124 [] [(71,bv (decide (x47>a1.Budget)))] [] (zF 0 (zKg [(0,.box (zD.enc false a1))] [] (vQ («as»:=[pp 0]) [(.tmp 1)] [72] false [(0,.box (zD.enc false a1))] [0] (.cons (.pt rfl) (.nil)) (zDL.ok a1) h48 (.same rfl rfl))) zB) ?_
    refine zG 71 (fun h49=>?_) (fun h49=>?_)
    ·refine J_g 500 [] [(2,iv 8)] [] zB ?_
     exact zM rfl
    ·refine J_g 126 [] [(2,iv 0)] [] zB ?_
     exact zM rfl
 ·refine wT (fun h4=>?_) (fun h4=>?_)
  ·refine J_d 12 [] [20] [(20,bv true)] [] [] (zF 2 (xC [(.tmp 6),(.const (.int .i64 0)),(.const (.int .i64 20000))] [2,2,2] (wP.ok a1.Budget 0 20000) h3) (wE 4 [(8,bv (!x2))] [] h4 zB)) ?_
   exact yN (J_j (jv10 true)) rfl
  ·refine zA (fun x5 h6=>?_)
   refine wT (fun h7=>?_) (fun h7=>?_)
   ·refine J_d 12 [] [20] [(20,bv true)] [] [] (zF 2 (xC [(.tmp 6),(.const (.int .i64 0)),(.const (.int .i64 20000))] [2,2,2] (wP.ok a1.Budget 0 20000) h3) (wE 4 [(8,bv (!x2))] [] h4 (zBr 7 4 9 false (xC [(.tmp 11),(.const (.int .i64 0)),(.const (.int .i64 1000000000))] [2,2,2] (wP.ok a1.Writes 0 1000000000) h6) (wE 10 [(14,bv (!x5))] [] h7 zB)))) ?_
    exact yN (J_j (jv10 true)) rfl
   ·refine zA (fun x8 h9=>?_)
    refine J_d 12 [] [20] [(20,bv (!x8))] [] [] (zF 2 (xC [(.tmp 6),(.const (.int .i64 0)),(.const (.int .i64 20000))] [2,2,2] (wP.ok a1.Budget 0 20000) h3) (wE 4 [(8,bv (!x2))] [] h4 (zBr 7 4 9 false (xC [(.tmp 11),(.const (.int .i64 0)),(.const (.int .i64 1000000000))] [2,2,2] (wP.ok a1.Writes 0 1000000000) h6) (wE 10 [(14,bv (!x5))] [] h7 (zBr 13 10 15 false (xC [(.tmp 17),(.const (.int .i64 (-1))),(.const (.int .i64 1000000000))] [2,2,2] (wP.ok a1.Stop (-1) 1000000000) h9) zB))))) ?_
    exact yN (J_j (jv10 (!x8))) rfl
noncomputable def c42:Code:=(Tryz.f42.body).getD .skip
theorem zAP.ok (a1:(List Pack)) (a2:zD):Ok Tryz.prog 42 [sl 8 (Pack.enc false) a1,.ag (zD.enc false a2)] [] ((zAP a1 a2).map fun r=>(iv r,[])):=by
 refine zH c42 Tryz.f42 0 13 (fun q=>?_)
 unfold zAP
 refine J_d 2 [(0,0)] [1,3] [(3,pp 0)] [0] [(0,.box (zD.enc false a2))] zB ?_
 refine zA (fun x3 h4=>?_)
 refine J_g 12 [] [(3,pp 0),(5,iv x3)] [(0,.box (zD.enc false a2))] (zF 1 (xC [(.tmp 6)] [30] (tF.ok a1) h4) zB) ?_
 refine J_d 26 [] [9] [(9,bv (x3 !=0))] [] [] zB ?_
 refine zG 9 (fun h5=>?_) (fun h5=>?_)
 ·refine J_g 108 [] [(4,iv x3)] [] zB ?_
  exact zM rfl
 ·refine zA (fun x6 h7=>?_)
  refine J_g 14 [] [(4,iv x6)] [] (zF 1 (xC [(.tmp 11)] [33] (vC.ok a2) h7) zB) ?_
  exact zM rfl
noncomputable def c54:Code:=(Tryz.f54.body).getD .skip
theorem zEl.ok (a1:zD) (a2:ByteArray) (q:Wd) (kn:Unit→Option (D×List Ent)) (hk:∀v:Unit,J (q.g Tryz.prog 54 0 26) c54 (atI c54 7) (St.mk' [] []) (some v) kn):
  ∀s7:Int,J (q.g Tryz.prog 54 0 26) c54 (atI c54 52) (St.mk' [(0,.pb [sl 2 (File.enc false) a1.Files,iv a1.Budget,iv a1.Writes,iv a1.Stop,bv a1.Down]),(1,sv a2),(5,iv s7)] []) (zEl a1 a2 s7) (Fl.go (fun r:Int=>some (iv r,[])) kn):=by
 refine tQ (fun g ih s7=>?_)
 unfold zDF
 refine J_d 208 [] [12] [(12,bv (decide (s7< (a1.Files.length:Int))))] [] [] (zF 2 (zGq (.tmp 7) [sl 2 (File.enc false) a1.Files,iv a1.Budget,iv a1.Writes,iv a1.Stop,bv a1.Down]) (zF 3 (zFl 33 (.tmp 8) 0 0 1 [sl 2 (File.enc false) a1.Files,iv a1.Budget,iv a1.Writes,iv a1.Stop,bv a1.Down]) (zF 4 (zFB (d:=sl 2 (File.enc false) a1.Files) 31 (.tmp 9) [sl 2 (File.enc false) a1.Files]) zB))) ?_
 refine zG 12 (fun h8=>?_) (fun h8=>?_)
 ·refine zA (fun x9 h10=>?_)
  refine J_d 840 [] [12,24] [(24,bv (seq x9.Path a2))] [] [] (zF 1 (zGq (.tmp 15) [sl 2 (File.enc false) a1.Files,iv a1.Budget,iv a1.Writes,iv a1.Stop,bv a1.Down]) (zF 2 (zFl 33 (.tmp 16) 0 0 1 [sl 2 (File.enc false) a1.Files,iv a1.Budget,iv a1.Writes,iv a1.Stop,bv a1.Down]) (zF 3 (zFB (d:=sl 2 (File.enc false) a1.Files) 31 (.tmp 17) [sl 2 (File.enc false) a1.Files]) (zF 5 (vI (kk:=.i64) 31 138 2 (File.enc false) (.tmp 18) (.tmp 19) h10) zB)))) ?_
  refine zG 24 (fun h11=>?_) (fun h11=>?_)
  ·refine J_g 3364 [] [(4,iv s7)] [] zB ?_
   exact zM rfl
  ·refine J_d 211 [] [5,24] [(5,iv (w64 (s7+1)))] [] [] zB ?_
   exact J_q (J_b (ih (w64 (s7+1)))) rfl
 ·exact yN (hk ()) rfl
theorem wQ.ok (a1:zD) (a2:ByteArray):Ok Tryz.prog 54 [.pb [sl 2 (File.enc false) a1.Files,iv a1.Budget,iv a1.Writes,iv a1.Stop,bv a1.Down],sv a2] [] ((wQ a1 a2).map fun r=>(iv r,[])):=by
 refine zH c54 Tryz.f54 0 26 (fun q=>?_)
 unfold wQ
 refine J_g 2 [] [(0,.pb [sl 2 (File.enc false) a1.Files,iv a1.Budget,iv a1.Writes,iv a1.Stop,bv a1.Down]),(1,sv a2)] [] zB ?_
 refine J_d 12 [] [5] [(5,iv 0)] [] [] zB ?_
 refine vZ (K0:=(fun r:Int=>some (iv r,[]))) (fun _=>rfl) (zEl.ok a1 a2 q _ (fun v12=>J_j ?_) 0)
 refine J_g 14 [] [(4,iv (-1))] [] zB ?_
 exact zM rfl
noncomputable def zRA:Code:=(Tryz.f166.body).getD .skip
theorem zCH.ok (a1:ByteArray) (q:Wd) (kn:Int→Option (D×List Ent)) (hk:∀v:Int,J (q.g Tryz.prog 166 0 37) zRA (atI zRA 31) (St.mk' [(6,iv v)] []) (some v) kn):
  ∀s14:(Int×Int),J (q.g Tryz.prog 166 0 37) zRA (atI zRA 244) (St.mk' [(0,sv a1),(6,iv s14.1),(7,iv s14.2)] []) (zCH a1 s14) (Fl.go (fun r:(Int×Bool)=>some (.tu [iv r.1,bv r.2],[])) kn):=by
 refine tQ (fun g ih s14=>?_)
 unfold zBJ
 refine J_d 976 [] [20] [(20,bv (decide (s14.2< (a1.size:Int))))] [] [] zB ?_
 refine zG 20 (fun h15=>?_) (fun h15=>?_)
 ·refine zA (fun x16 h17=>?_)
  refine zA (fun x18 h19=>?_)
  refine J_d 7824 [] [20,27] [(27,bv (!x18))] [] [] (zF 2 (zJL (kk:=.i64) 9 (.tmp 23) (.tmp 24) h17) (zF 3 (xC [(.tmp 25)] [5] (uD.ok x16) h19) zB)) ?_
  refine zG 27 (fun h20=>?_) (fun h20=>?_)
  ·refine J_g 31300 [] [(4,iv 0),(5,bv false)] [] zB ?_
   exact zO0 rfl
  ·refine zA (fun x21 h22=>?_)
   refine J_g 3913 [] [(0,sv a1),(6,iv (w64 ((w64 (s14.1*10))+(w64 (IntKind.u8.wrap (x21-48)))))),(7,iv s14.2)] [] (zF 4 (zJL (kk:=.i64) 9 (.tmp 30) (.tmp 31) h22) zB) ?_
   refine J_d 979 [] [7] [(7,iv (w64 (s14.2+1)))] [] [] zB ?_
   exact J_q (J_b (ih (w64 ((w64 (s14.1*10))+(w64 (IntKind.u8.wrap (x21-48)))),w64 (s14.2+1)))) rfl
 ·exact yN (hk s14.1) rfl
theorem uN.ok (a1:ByteArray) (a2:Int):Ok Tryz.prog 166 [sv a1,iv a2] [] ((uN a1 a2).map fun r=>(.tu [iv r.1,bv r.2],[])):=by
 refine zH zRA Tryz.f166 0 37 (fun q=>?_)
 unfold uN
 refine J_d 2 [] [] [] [] [] zB ?_
 refine wH (atI zRA 13) (fun v4:Bool=>St.mk' [(0,sv a1),(16,bv v4)] []) (fun v4=>?_) (fun jv4=>?_)
 ·refine zG 16 (fun h5=>?_) (fun h5=>?_)
  ·refine J_g 52 [] [(4,iv 0),(5,bv false)] [] zB ?_
   exact zO0 rfl
  ·refine J_g 14 [] [(0,sv a1),(6,iv 0)] [] zB ?_
   refine J_d 60 [] [7] [(7,iv 0)] [] [] zB ?_
   refine vZ (K0:=(fun r:(Int×Bool)=>some (.tu [iv r.1,bv r.2],[]))) (fun _=>rfl) (zCH.ok a1 q _ (fun v23=>J_j ?_) (0,0))
   refine J_g 62 [] [(4,iv v23),(5,bv true)] [] zB ?_
   exact zO0 rfl
 ·refine wT (fun h3=>?_) (fun h3=>?_)
  ·refine J_g 12 [] [(0,sv a1),(16,bv true)] [] (wE 3 [(10,bv (decide ((a1.size:Int)<1)))] [] h3 zB) ?_
   exact yN (J_j (jv4 true)) rfl
  ·refine J_g 12 [] [(0,sv a1),(16,bv (decide ((a1.size:Int)>a2)))] [] (wE 3 [(10,bv (decide ((a1.size:Int)<1)))] [] h3 zB) ?_
   exact yN (J_j (jv4 (decide ((a1.size:Int)>a2)))) rfl
noncomputable def zT8:Code:=(Tryz.f197.body).getD .skip
theorem kN.ok (a1:ByteArray) (a2:ByteArray):Ok Tryz.prog 197 [sv a1,sv a2] [] ((kN a1 a2).map fun r=>(bv r,[])):=by
 refine zH zT8 Tryz.f197 0 18 (fun q=>?_)
 unfold kN
 refine J_d 2 [] [] [] [] [] zB ?_
 refine wT (fun h3=>?_) (fun h3=>?_)
 ·refine zA (fun x4 h5=>?_)
  refine J_g 6 [] [(4,bv (seq x4 a2))] [] (wE 5 [(9,bv (decide ((a1.size:Int)≥(a2.size:Int))))] [] h3 (zBr 9 5 10 true (zLK 9 (.tmp 11) none (some (.tmp 13)) h5) zB)) ?_
  exact zM rfl
 ·refine J_g 6 [] [(4,bv false)] [] (wE 5 [(9,bv (decide ((a1.size:Int)≥(a2.size:Int))))] [] h3 zB) ?_
  exact zM rfl
noncomputable def zR7:Code:=(Tryz.f118.body).getD .skip
theorem zAn.ok (a1:zD) (a2:ByteArray) (q:Wd) (kn:(List ByteArray)→Option (D×List Ent)) (hk:∀v:(List ByteArray),J (q.g Tryz.prog 118 0 39) zR7 (atI zR7 15) (St.mk' [(5,rr 0 v)] [(0,rE 1 eStr v)]) (some v) kn):
  ∀s14:((List ByteArray)×Int),J (q.g Tryz.prog 118 0 39) zR7 (atI zR7 116) (St.mk' [(0,.pb [sl 2 (File.enc false) a1.Files,iv a1.Budget,iv a1.Writes,iv a1.Stop,bv a1.Down]),(1,sv a2),(5,rr 0 s14.1),(6,iv s14.2)] [(0,rE 1 eStr s14.1)]) (zAn a1 a2 s14) kn:=by
 refine tQ (fun g ih s14=>?_)
 unfold zAG
 refine J_d 464 [] [14] [(14,bv (decide (s14.2< (a1.Files.length:Int))))] [] [] (zF 2 (zGq (.tmp 9) [sl 2 (File.enc false) a1.Files,iv a1.Budget,iv a1.Writes,iv a1.Stop,bv a1.Down]) (zF 3 (zFl 33 (.tmp 10) 0 0 1 [sl 2 (File.enc false) a1.Files,iv a1.Budget,iv a1.Writes,iv a1.Stop,bv a1.Down]) (zF 4 (zFB (d:=sl 2 (File.enc false) a1.Files) 31 (.tmp 11) [sl 2 (File.enc false) a1.Files]) zB))) ?_
 refine zG 14 (fun h15=>?_) (fun h15=>?_)
 ·refine zA (fun x16 h17=>?_)
  refine zA (fun x18 h19=>?_)
  refine J_d 1864 [] [14,26] [(26,bv x18)] [] [] (zF 1 (zGq (.tmp 17) [sl 2 (File.enc false) a1.Files,iv a1.Budget,iv a1.Writes,iv a1.Stop,bv a1.Down]) (zF 2 (zFl 33 (.tmp 18) 0 0 1 [sl 2 (File.enc false) a1.Files,iv a1.Budget,iv a1.Writes,iv a1.Stop,bv a1.Down]) (zF 3 (zFB (d:=sl 2 (File.enc false) a1.Files) 31 (.tmp 19) [sl 2 (File.enc false) a1.Files]) (zF 5 (vI (kk:=.i64) 31 138 2 (File.enc false) (.tmp 20) (.tmp 21) h17) (zF 9 (xC [(.tmp 24),(.tmp 25)] [9,9] (kN.ok x16.Path a2) h19) zB))))) ?_
  refine wH (aft zR7 932) (fun v25:(List ByteArray)=>St.mk' [(0,.pb [sl 2 (File.enc false) a1.Files,iv a1.Budget,iv a1.Writes,iv a1.Stop,bv a1.Down]),(1,sv a2),(5,rr 2 v25),(6,iv s14.2)] [(2,rE 1 eStr v25)]) (fun v25=>?_) (fun jv25=>?_)
  ·refine J_d 467 [] [6] [(6,iv (w64 (s14.2+1)))] [] [] zB ?_
   refine zBD 2 0 (Nat.le_of_ble_eq_true rfl) (Nat.le_of_ble_eq_true rfl) ?_
   exact J_q (J_b (ih (v25,w64 (s14.2+1)))) rfl
  ·refine zG 26 (fun h20=>?_) (fun h20=>?_)
   ·refine zA (fun x21 h22=>?_)
    refine zA (fun x23 h24=>?_)
    refine J_d 3730 [] [5,26] [(5,rr 2 x23)] [0,2] [(2,rE 1 eStr x23)] (zF 2 (zGq (.tmp 28) [sl 2 (File.enc false) a1.Files,iv a1.Budget,iv a1.Writes,iv a1.Stop,bv a1.Down]) (zF 3 (zFl 33 (.tmp 29) 0 0 1 [sl 2 (File.enc false) a1.Files,iv a1.Budget,iv a1.Writes,iv a1.Stop,bv a1.Down]) (zF 4 (zFB (d:=sl 2 (File.enc false) a1.Files) 31 (.tmp 30) [sl 2 (File.enc false) a1.Files]) (zF 6 (vI (kk:=.i64) 31 138 2 (File.enc false) (.tmp 31) (.tmp 32) h22) (zF 9 (zFk 86 9 1 1 eStr [x21.Path] [0] [(.tmp 35)] [sv x21.Path]) (zF 10 (zHR 86 86 9 9 1 16 2 0 1 eStr (.tmp 27) (.tmp 36) h24) zB)))))) ?_
    exact yN (J_j (jv25 x23)) rfl
   ·refine zBD 0 2 (Nat.le_of_ble_eq_true rfl) (Nat.le_of_ble_eq_true rfl) ?_
    exact yN (J_j (jv25 s14.1)) rfl
 ·exact yN (hk s14.1) rfl
theorem zBj.ok (a1:zD) (a2:ByteArray):Ok Tryz.prog 118 [.pb [sl 2 (File.enc false) a1.Files,iv a1.Budget,iv a1.Writes,iv a1.Stop,bv a1.Down],sv a2] [] ((zBj a1 a2).map fun r=>(so 1 eStr r,[])):=by
 refine zH zR7 Tryz.f118 0 39 (fun q=>?_)
 unfold zBj
 refine J_g 2 [] [(0,.pb [sl 2 (File.enc false) a1.Files,iv a1.Budget,iv a1.Writes,iv a1.Stop,bv a1.Down]),(1,sv a2)] [] zB ?_
 refine J_g 6 [] [(0,.pb [sl 2 (File.enc false) a1.Files,iv a1.Budget,iv a1.Writes,iv a1.Stop,bv a1.Down]),(1,sv a2),(5,rr 0 ([]:List ByteArray))] [(0,rE 1 eStr ([]:List ByteArray))] (zF 0 (zFk 86 9 1 0 eStr ([]:List ByteArray) [] [] []) zB) ?_
 refine J_d 28 [] [6] [(6,iv 0)] [] [] zB ?_
 refine zFJ (zAn.ok a1 a2 q _ (fun v26=>J_j ?_) (([]:List ByteArray),0))
 refine J_g 30 [] [(4,rr 0 v26)] [(0,rE 1 eStr v26)] zB ?_
 exact zBq (ds:=[rr 0 v26]) (ds':=[so 1 eStr v26]) (.cons (.cell (.move (.head _) (List.length_map _) (by decide) (.nil))) (.nil) (by decide)) rfl
noncomputable def c79:Code:=(Tryz.f79.body).getD .skip
theorem vB.ok (a1:Int):Ok Tryz.prog 79 [iv a1] [] ((vB a1).map fun r=>(sv r,[])):=by
 have key:∀(n:Nat) (a1:Int),Ok Tryz.prog 79 [iv a1] [] ((zRm uX n a1).map fun r=>(sv r,[])):=by
  intro n
  induction n with
  |zero=>intro a1; exact zQW
  |succ n ih=>
   intro a1
   refine zH c79 Tryz.f79 0 20 (fun q=>?_)
   unfold zRm uX
   refine J_g 2 [] [(0,iv a1)] [] zB ?_
   refine J_g 12 [] [(0,iv a1),(4,bv (decide (a1<10)))] [] zB ?_
   refine zG 4 (fun h2=>?_) (fun h2=>?_)
   ·refine J_g 52 [] [(2,sv (b2s [IntKind.u8.wrap (w64 (48+a1))]))] [] (zF 3 (zFk 121 5 1 0 eU8 [IntKind.u8.wrap (w64 (48+a1))] [0] [(.tmp 7)] [uv (IntKind.u8.wrap (w64 (48+a1)))]) (zF 4 (zOR (xs:=[IntKind.u8.wrap (w64 (48+a1))]) 121 9 5 0 (.tmp 8)) zB)) ?_
    exact zM rfl
   ·refine zA (fun x3 h4=>?_)
    refine zA (fun x5 h6=>?_)
    refine J_g 14 [] [(2,sv x5)] [] (zF 2 (xC [(.tmp 11)] [2] (ih (w64 (a1.tdiv 10))) h4) (zF 7 (zFk 121 5 1 0 eU8 [IntKind.u8.wrap (w64 (48+(a1.tmod 10)))] [0] [(.tmp 16)] [uv (IntKind.u8.wrap (w64 (48+(a1.tmod 10))))]) (zF 8 (zOR (xs:=[IntKind.u8.wrap (w64 (48+(a1.tmod 10)))]) 121 9 5 0 (.tmp 17)) (zF 9 (zEf 9 9 (.tmp 12) (.tmp 18) h6) zB)))) ?_
    exact zM rfl
 exact key 64 a1
noncomputable def c117:Code:=(Tryz.f117.body).getD .skip
theorem jE.ok (a1:Int):Ok Tryz.prog 117 [iv a1] [] ((jE a1).map fun r=>(sv r,[])):=by
 refine zH c117 Tryz.f117 0 11 (fun q=>?_)
 unfold jE
 refine J_g 2 [] [(0,iv a1)] [] zB ?_
 refine zA (fun x2 h3=>?_)
 refine J_g 12 [] [(0,iv a1),(5,bv (!x2))] [] (zF 1 (xC [(.tmp 3),(.const (.int .i64 1)),(.const (.int .i64 999999))] [2,2,2] (wP.ok a1 1 999999) h3) zB) ?_
 refine zG 5 (fun h4=>?_) (fun h4=>?_)
 ·refine J_g 52 [] [(2,sv (bs []))] [] zB ?_
  exact zM rfl
 ·refine zA (fun x5 h6=>?_)
  refine zA (fun x7 h8=>?_)
  refine zA (fun x9 h10=>?_)
  refine J_g 14 [] [(2,sv x9)] [] (zF 2 (xC [(.tmp 7)] [2] (vB.ok (w64 (1000000+a1))) h6) (zF 3 (zLK 9 (.tmp 8) (some (.const (.int .i64 1))) none h8) (zF 4 (zEf 9 9 (.const (.string (bs [103,101,110,47]))) (.tmp 9) h10) zB))) ?_
  exact zM rfl
noncomputable def zQM:Code:=(Tryz.f114.body).getD .skip
theorem zEr.ok (a1:zD) (x2:(List ByteArray)) (q:Wd) (kn:(List Int)→Option (D×List Ent)) (hk:∀v:(List Int),J (q.g Tryz.prog 114 0 41) zQM (atI zQM 31) (St.mk' [(3,rr 0 v)] [(0,rE 1 zU v)]) (some v) kn):
  ∀s21:((List Int)×Int),J (q.g Tryz.prog 114 0 41) zQM (atI zQM 244) (St.mk' [(3,rr 0 s21.1),(4,rr 1 x2),(5,iv s21.2)] [(0,rE 1 zU s21.1),(1,rE 1 eStr x2)]) (zEr a1 x2 s21) kn:=by
 refine tQ (fun g ih s21=>?_)
 unfold zD0
 refine J_d 976 [] [14] [(14,bv (decide (s21.2< (x2.length:Int))))] [] [] zB ?_
 refine zG 14 (fun h22=>?_) (fun h22=>?_)
 ·refine zA (fun x23 h24=>?_)
  refine zA (fun x25 h26=>?_)
  refine zA (fun x27 h28=>?_)
  refine J_d 3912 [] [6,7,14] [(6,iv x27.1),(7,bv x27.2)] [] [] (zF 2 (zAv (kk:=.i64) 86 9 1 1 eStr (.tmp 18) (.tmp 19) h24) (zF 3 (zFq (d:=sv x23) 9 1 1 0 eStr (.tmp 20) h24 (by kernel_rfl)) (zF 4 (zLK 9 (.tmp 21) (some (.const (.int .i64 4))) none h26) (zF 5 (xC [(.tmp 22),(.const (.int .i64 6))] [9,3] (uN.ok x25 6) h28) zB)))) ?_
  refine wH (atI zQM 7827) (fun v34:Bool=>St.mk' [(3,rr 0 s21.1),(4,rr 1 x2),(5,iv s21.2),(6,iv x27.1),(35,bv v34)] [(0,rE 1 zU s21.1),(1,rE 1 eStr x2)]) (fun v34=>?_) (fun jv34=>?_)
  ·refine wH (aft zQM 1956) (fun v38:(List Int)=>St.mk' [(3,rr 3 v38),(4,rr 1 x2),(5,iv s21.2)] [(1,rE 1 eStr x2),(3,rE 1 zU v38)]) (fun v38=>?_) (fun jv38=>?_)
   ·refine J_d 979 [] [5] [(5,iv (w64 (s21.2+1)))] [] [] zB ?_
    refine zBD 3 0 (Nat.le_of_ble_eq_true rfl) (Nat.le_of_ble_eq_true rfl) ?_
    exact J_q (J_b (ih (v38,w64 (s21.2+1)))) rfl
   ·refine zG 35 (fun h35=>?_) (fun h35=>?_)
    ·refine zA (fun x36 h37=>?_)
     refine J_d 15654 [] [3,6,35] [(3,rr 3 x36)] [0,3] [(3,rE 1 zU x36)] (zF 2 (zFk 39 2 1 2 zU [x27.1] [0] [(.tmp 37)] [iv x27.1]) (zF 3 (zHR 39 39 2 2 1 8 3 0 2 zU (.tmp 36) (.tmp 38) h37) zB)) ?_
     exact yN (J_j (jv38 x36)) rfl
    ·refine zBD 0 3 (Nat.le_of_ble_eq_true rfl) (Nat.le_of_ble_eq_true rfl) ?_
     exact yN (J_j (jv38 s21.1)) rfl
  ·refine wT (fun h29=>?_) (fun h29=>?_)
   ·refine zA (fun x30 h31=>?_)
    refine zA (fun x32 h33=>?_)
    refine J_d 7826 [] [7,35] [(35,bv (seq x30 x32))] [] [] (wE 1 [(26,bv x27.2)] [] h29 (zBr 3 1 27 true (xC [(.tmp 28)] [2] (jE.ok x27.1) h31) (zBr 6 1 27 true (zAv (kk:=.i64) 86 9 1 1 eStr (.tmp 30) (.tmp 31) h33) (zBr 7 1 27 true (zFq (d:=sv x32) 9 1 1 0 eStr (.tmp 32) h33 (by kernel_rfl)) zB)))) ?_
    exact yN (J_j (jv34 (seq x30 x32))) rfl
   ·refine J_d 7826 [] [7,35] [(35,bv false)] [] [] (wE 1 [(26,bv x27.2)] [] h29 zB) ?_
    exact yN (J_j (jv34 false)) rfl
 ·exact yN (hk s21.1) rfl
theorem zCp.ok (a1:zD):Ok Tryz.prog 114 [.pb [sl 2 (File.enc false) a1.Files,iv a1.Budget,iv a1.Writes,iv a1.Stop,bv a1.Down]] [] ((zCp a1).map fun r=>(so 1 zU r,[])):=by
 refine zH zQM Tryz.f114 0 41 (fun q=>?_)
 unfold zCp
 refine J_g 2 [] [(0,.pb [sl 2 (File.enc false) a1.Files,iv a1.Budget,iv a1.Writes,iv a1.Stop,bv a1.Down])] [] zB ?_
 refine J_d 6 [] [3] [(3,rr 0 ([]:List Int))] [0] [(0,rE 1 zU ([]:List Int))] (zF 0 (zFk 39 2 1 0 zU ([]:List Int) [] [] []) zB) ?_
 refine zA (fun x2 h3=>?_)
 refine J_g 14 [] [(3,rr 0 ([]:List Int)),(4,rr 1 x2)] [(0,rE 1 zU ([]:List Int)),(1,rE 1 eStr x2)] (zF 1 (vQ («as»:=[.pb [sl 2 (File.enc false) a1.Files,iv a1.Budget,iv a1.Writes,iv a1.Stop,bv a1.Down],sv (bs [103,101,110,47])]) [(.tmp 9),(.const (.string (bs [103,101,110,47])))] [72,9] false [] [] (.cons (.pb (.cons (.same rfl) (.cons (.same rfl) (.cons (.same rfl) (.cons (.same rfl) (.cons (.same rfl) (.nil))))))) (.cons (.same rfl) (.nil))) (zBj.ok a1 (bs [103,101,110,47])) h3 (.own 1)) zB) ?_
 refine J_d 60 [] [5] [(5,iv 0)] [] [] zB ?_
 refine zFJ (zEr.ok a1 x2 q _ (fun v39=>J_j ?_) (([]:List Int),0))
 refine J_g 62 [] [(2,rr 0 v39)] [(0,rE 1 zU v39)] zB ?_
 exact zBq (ds:=[rr 0 v39]) (ds':=[so 1 zU v39]) (.cons (.cell (.move (.head _) (List.length_map _) (by decide) (.nil))) (.nil) (by decide)) rfl
noncomputable def zSt:Code:=(Tryz.f115.body).getD .skip
theorem zEZ.ok (a1:(List Int)) (a2:Int) (q:Wd) (kn:Unit→Option (D×List Ent)) (hk:∀v:Unit,J (q.g Tryz.prog 115 0 18) zSt (atI zSt 7) (St.mk' [] []) (some v) kn):
  ∀s7:Int,J (q.g Tryz.prog 115 0 18) zSt (atI zSt 52) (St.mk' [(0,sl 1 zU a1),(1,iv a2),(5,iv s7)] []) (zEZ a1 a2 s7) (Fl.go (fun r:Bool=>some (bv r,[])) kn):=by
 refine tQ (fun g ih s7=>?_)
 unfold zEm
 refine J_d 208 [] [9] [(9,bv (decide (s7< (a1.length:Int))))] [] [] zB ?_
 refine zG 9 (fun h8=>?_) (fun h8=>?_)
 ·refine zA (fun x9 h10=>?_)
  refine J_d 840 [] [9,17] [(17,bv (x9==a2))] [] [] (zF 2 (vI (kk:=.i64) 39 2 1 zU (.tmp 12) (.tmp 13) h10) zB) ?_
  refine zG 17 (fun h11=>?_) (fun h11=>?_)
  ·refine J_g 3364 [] [(4,bv true)] [] zB ?_
   exact zM rfl
  ·refine J_d 211 [] [5,17] [(5,iv (w64 (s7+1)))] [] [] zB ?_
   exact J_q (J_b (ih (w64 (s7+1)))) rfl
 ·exact yN (hk ()) rfl
theorem zBK.ok (a1:(List Int)) (a2:Int):Ok Tryz.prog 115 [sl 1 zU a1,iv a2] [] ((zBK a1 a2).map fun r=>(bv r,[])):=by
 refine zH zSt Tryz.f115 0 18 (fun q=>?_)
 unfold zBK
 refine J_g 2 [] [(0,sl 1 zU a1),(1,iv a2)] [] zB ?_
 refine J_d 12 [] [5] [(5,iv 0)] [] [] zB ?_
 refine vZ (K0:=(fun r:Bool=>some (bv r,[]))) (fun _=>rfl) (zEZ.ok a1 a2 q _ (fun v12=>J_j ?_) 0)
 refine J_g 14 [] [(4,bv false)] [] zB ?_
 exact zM rfl
noncomputable def c92:Code:=(Tryz.f92.body).getD .skip
theorem zB1.ok (a1:zD):Ok Tryz.prog 92 [.pb [sl 2 (File.enc false) a1.Files,iv a1.Budget,iv a1.Writes,iv a1.Stop,bv a1.Down]] [] ((zB1 a1).map fun r=>(iv r,[])):=by
 refine zH c92 Tryz.f92 0 33 (fun q=>?_)
 unfold zB1
 refine J_d 2 [] [] [] [] [] zB ?_
 refine zA (fun x2 h3=>?_)
 refine J_g 6 [] [(0,.pb [sl 2 (File.enc false) a1.Files,iv a1.Budget,iv a1.Writes,iv a1.Stop,bv a1.Down]),(3,iv x2)] [] (zF 1 (vQ («as»:=[.pb [sl 2 (File.enc false) a1.Files,iv a1.Budget,iv a1.Writes,iv a1.Stop,bv a1.Down],sv (bs [99,117,114])]) [(.tmp 6),(.const (.string (bs [99,117,114])))] [72,9] false [] [] (.cons (.pb (.cons (.same rfl) (.cons (.same rfl) (.cons (.same rfl) (.cons (.same rfl) (.cons (.same rfl) (.nil))))))) (.cons (.same rfl) (.nil))) (wQ.ok a1 (bs [99,117,114])) h3 (.same rfl rfl)) zB) ?_
 refine J_d 28 [] [9] [(9,bv (decide (x2<0)))] [] [] zB ?_
 refine zG 9 (fun h4=>?_) (fun h4=>?_)
 ·refine J_g 116 [] [(2,iv 0)] [] zB ?_
  exact zM rfl
 ·refine zA (fun x5 h6=>?_)
  refine zA (fun x7 h8=>?_)
  refine J_d 30 [] [3,4,5,9] [(4,iv x7.1),(5,bv x7.2)] [] [] (zF 1 (zGq (.tmp 11) [sl 2 (File.enc false) a1.Files,iv a1.Budget,iv a1.Writes,iv a1.Stop,bv a1.Down]) (zF 2 (zFl 33 (.tmp 12) 0 0 1 [sl 2 (File.enc false) a1.Files,iv a1.Budget,iv a1.Writes,iv a1.Stop,bv a1.Down]) (zF 3 (zFB (d:=sl 2 (File.enc false) a1.Files) 31 (.tmp 13) [sl 2 (File.enc false) a1.Files]) (zF 5 (vI (kk:=.i64) 31 138 2 (File.enc false) (.tmp 14) (.tmp 15) h6) (zF 8 (zL2 (xs:=x5.Data) 121 9 5 (.tmp 18)) (zF 9 (xC [(.tmp 19),(.const (.int .i64 6))] [9,3] (uN.ok (b2s x5.Data) 6) h8) zB)))))) ?_
  refine wH (atI c92 125) (fun v14:Bool=>St.mk' [(4,iv x7.1),(31,bv v14)] []) (fun v14=>?_) (fun jv14=>?_)
  ·refine zG 31 (fun h15=>?_) (fun h15=>?_)
   ·refine J_g 500 [] [(2,iv 0)] [] zB ?_
    exact zM rfl
   ·refine J_g 126 [] [(2,iv x7.1)] [] zB ?_
    exact zM rfl
  ·refine wT (fun h9=>?_) (fun h9=>?_)
   ·refine J_g 124 [] [(4,iv x7.1),(31,bv true)] [] (wE 2 [(24,bv (!x7.2))] [] h9 zB) ?_
    exact yN (J_j (jv14 true)) rfl
   ·refine zA (fun x10 h11=>?_)
    refine zA (fun x12 h13=>?_)
    refine J_g 124 [] [(4,iv x7.1),(31,bv (!x12))] [] (wE 2 [(24,bv (!x7.2))] [] h9 (zBr 4 2 25 false (vQ («as»:=[.pb [sl 2 (File.enc false) a1.Files,iv a1.Budget,iv a1.Writes,iv a1.Stop,bv a1.Down]]) [(.tmp 26)] [72] false [] [] (.cons (.pb (.cons (.same rfl) (.cons (.same rfl) (.cons (.same rfl) (.cons (.same rfl) (.cons (.same rfl) (.nil))))))) (.nil)) (zCp.ok a1) h11 (.own 0)) (zBr 6 2 25 false (vQ («as»:=[rr 0 x10,iv x7.1]) [(.tmp 27),(.tmp 28)] [39,2] true [(0,rE 1 zU x10)] [] (.cons (zFE (.head _) (fun _=>rfl) rfl) (.cons (.same rfl) (.nil))) (zBK.ok x10 x7.1) h13 (.same rfl rfl) (hbor:=fun _=>⟨fhN,zQ⟩)) zB))) ?_
    exact yN (J_j (jv14 (!x12))) rfl
noncomputable def zRz:Code:=(Tryz.f235.body).getD .skip
theorem zDK.ok (a1:ByteArray) (a2:Int) (q:Wd) (kn:(List ByteArray)→Option (D×List Ent)) (hk:∀v:(List ByteArray),J (q.g Tryz.prog 235 0 36) zRz (atI zRz 31) (St.mk' [(5,rr 0 v)] [(0,rE 1 eStr v)]) (some v) kn):
  ∀s14:((List ByteArray)×Int×Int),J (q.g Tryz.prog 235 0 36) zRz (atI zRz 244) (St.mk' [(0,sv a1),(1,uv a2),(5,rr 0 s14.1),(6,iv s14.2.1),(7,iv s14.2.2)] [(0,rE 1 eStr s14.1)]) (zDK a1 a2 s14) kn:=by
 refine tQ (fun g ih s14=>?_)
 unfold zCx
 refine J_d 976 [] [12] [(12,bv (decide (s14.2.2≤(a1.size:Int))))] [] [] zB ?_
 refine zG 12 (fun h15=>?_) (fun h15=>?_)
 ·refine wH (atI zRz 3913) (fun v19:Bool=>St.mk' [(0,sv a1),(1,uv a2),(5,rr 0 s14.1),(6,iv s14.2.1),(7,iv s14.2.2),(25,bv v19)] [(0,rE 1 eStr s14.1)]) (fun v19=>?_) (fun jv19=>?_)
  ·refine wH (aft zRz 1956) (fun v25:((List ByteArray)×Int)=>St.mk' [(0,sv a1),(1,uv a2),(5,rr 2 v25.1),(6,iv v25.2),(7,iv s14.2.2)] [(2,rE 1 eStr v25.1)]) (fun v25=>?_) (fun jv25=>?_)
   ·refine J_d 979 [] [7] [(7,iv (w64 (s14.2.2+1)))] [] [] zB ?_
    refine zBD 2 0 (Nat.le_of_ble_eq_true rfl) (Nat.le_of_ble_eq_true rfl) ?_
    exact J_q (J_b (ih (v25.1,v25.2,w64 (s14.2.2+1)))) rfl
   ·refine zG 25 (fun h20=>?_) (fun h20=>?_)
    ·refine zA (fun x21 h22=>?_)
     refine zA (fun x23 h24=>?_)
     refine J_g 15652 [] [(0,sv a1),(1,uv a2),(5,rr 2 x23),(7,iv s14.2.2)] [(2,rE 1 eStr x23)] (zF 4 (zLK 9 (.tmp 27) (some (.tmp 28)) (some (.tmp 29)) h22) (zF 5 (zFk 86 9 1 1 eStr [x21] [0] [(.tmp 30)] [sv x21]) (zF 6 (zHR 86 86 9 9 1 16 2 0 1 eStr (.tmp 26) (.tmp 31) h24) zB))) ?_
     refine J_d 15653 [] [6] [(6,iv (w64 (s14.2.2+1)))] [] [] zB ?_
     exact yN (J_j (jv25 (x23,w64 (s14.2.2+1)))) rfl
    ·refine zBD 0 2 (Nat.le_of_ble_eq_true rfl) (Nat.le_of_ble_eq_true rfl) ?_
     exact yN (J_j (jv25 (s14.1,s14.2.1))) rfl
  ·refine wT (fun h16=>?_) (fun h16=>?_)
   ·refine J_d 3912 [] [12,25] [(25,bv true)] [] [] (wE 4 [(18,bv (s14.2.2==(a1.size:Int)))] [] h16 zB) ?_
    exact yN (J_j (jv19 true)) rfl
   ·refine zA (fun x17 h18=>?_)
    refine J_d 3912 [] [12,25] [(25,bv (x17==a2))] [] [] (wE 4 [(18,bv (s14.2.2==(a1.size:Int)))] [] h16 (zBr 7 4 19 false (zJL (kk:=.i64) 9 (.tmp 20) (.tmp 21) h18) zB)) ?_
    exact yN (J_j (jv19 (x17==a2))) rfl
 ·exact yN (hk s14.1) rfl
theorem jI.ok (a1:ByteArray) (a2:Int):Ok Tryz.prog 235 [sv a1,uv a2] [] ((jI a1 a2).map fun r=>(so 1 eStr r,[])):=by
 refine zH zRz Tryz.f235 0 36 (fun q=>?_)
 unfold jI
 refine J_g 2 [] [(0,sv a1),(1,uv a2)] [] zB ?_
 refine J_g 6 [] [(0,sv a1),(1,uv a2),(5,rr 0 ([]:List ByteArray))] [(0,rE 1 eStr ([]:List ByteArray))] (zF 0 (zFk 86 9 1 0 eStr ([]:List ByteArray) [] [] []) zB) ?_
 refine J_g 14 [] [(0,sv a1),(1,uv a2),(5,rr 0 ([]:List ByteArray)),(6,iv 0)] [(0,rE 1 eStr ([]:List ByteArray))] zB ?_
 refine J_d 60 [] [7] [(7,iv 0)] [] [] zB ?_
 refine zFJ (zDK.ok a1 a2 q _ (fun v26=>J_j ?_) (([]:List ByteArray),0,0))
 refine J_g 62 [] [(4,rr 0 v26)] [(0,rE 1 eStr v26)] zB ?_
 exact zBq (ds:=[rr 0 v26]) (ds':=[so 1 eStr v26]) (.cons (.cell (.move (.head _) (List.length_map _) (by decide) (.nil))) (.nil) (by decide)) rfl
noncomputable def zTr:Code:=(Tryz.f170.body).getD .skip
theorem zBg.ok (a1:ByteArray):Ok Tryz.prog 170 [sv a1] [] ((zBg a1).map fun r=>(so 1 eStr r,[])):=by
 refine zH zTr Tryz.f170 0 19 (fun q=>?_)
 unfold zBg
 refine J_g 2 [] [(0,sv a1)] [] zB ?_
 refine zA (fun x2 h3=>?_)
 refine J_g 6 [] [(3,rr 0 x2)] [(0,rE 1 eStr x2)] (zF 1 (vQ («as»:=[sv a1,uv 10]) [(.tmp 4),(.const (.int .u8 10))] [9,5] false [] [] (.cons (.same rfl) (.cons (.same rfl) (.nil))) (jI.ok a1 10) h3 (.own 0)) zB) ?_
 refine zA (fun x4 h5=>?_)
 refine J_d 28 [] [12] [(12,bv (seq x4 (bs [])))] [] [] (zF 4 (zAv (kk:=.i64) 86 9 1 0 eStr (.tmp 6) (.tmp 9) h5) (zF 5 (zFq (d:=sv x4) 9 1 0 0 eStr (.tmp 10) h5 (by kernel_rfl)) zB)) ?_
 refine wH (atI zTr 15) (fun v9:(List ByteArray)=>St.mk' [(3,rr 1 v9)] [(1,rE 1 eStr v9)]) (fun v9=>?_) (fun jv9=>?_)
 ·refine J_g 30 [] [(2,rr 1 v9)] [(1,rE 1 eStr v9)] zB ?_
  exact zBq (ds:=[rr 1 v9]) (ds':=[so 1 eStr v9]) (.cons (.cell (.move (.head _) (List.length_map _) (by decide) (.nil))) (.nil) (by decide)) rfl
 ·refine zG 12 (fun h6=>?_) (fun h6=>?_)
  ·refine zA (fun x7 h8=>?_)
   refine J_g 58 [] [(3,rr 1 x7)] [(1,rE 1 eStr x7)] (zF 4 (zQo 86 9 1 0 1 eStr (.tmp 13) none (some (.tmp 16)) h8) zB) ?_
   exact yN (J_j (jv9 x7)) rfl
  ·refine zBD 0 1 (Nat.le_of_ble_eq_true rfl) (Nat.le_of_ble_eq_true rfl) ?_
   exact yN (J_j (jv9 x2)) rfl
noncomputable def zR3:Code:=(Tryz.f216.body).getD .skip
theorem zDh.ok (x2:(List ByteArray)) (q:Wd) (kn:(List ByteArray)→Option (D×List Ent)) (hk:∀v:(List ByteArray),J (q.g Tryz.prog 216 0 28) zR3 (atI zR3 31) (St.mk' [(3,rr 0 v)] [(0,rE 1 eStr v)]) (some v) kn):
  ∀s13:((List ByteArray)×Int),J (q.g Tryz.prog 216 0 28) zR3 (atI zR3 244) (St.mk' [(3,rr 0 s13.1),(4,rr 1 x2),(5,iv s13.2)] [(0,rE 1 eStr s13.1),(1,rE 1 eStr x2)]) (zDh x2 s13) kn:=by
 refine tQ (fun g ih s13=>?_)
 unfold zC5
 refine J_d 976 [] [12] [(12,bv (decide (s13.2< (x2.length:Int))))] [] [] zB ?_
 refine zG 12 (fun h14=>?_) (fun h14=>?_)
 ·refine zA (fun x15 h16=>?_)
  refine J_d 3912 [] [12,19] [(19,bv (!(seq x15 (bs []))))] [] [] (zF 2 (zAv (kk:=.i64) 86 9 1 1 eStr (.tmp 15) (.tmp 16) h16) (zF 3 (zFq (d:=sv x15) 9 1 1 0 eStr (.tmp 17) h16 (by kernel_rfl)) zB)) ?_
  refine wH (aft zR3 1956) (fun v22:(List ByteArray)=>St.mk' [(3,rr 3 v22),(4,rr 1 x2),(5,iv s13.2)] [(1,rE 1 eStr x2),(3,rE 1 eStr v22)]) (fun v22=>?_) (fun jv22=>?_)
  ·refine J_d 979 [] [5] [(5,iv (w64 (s13.2+1)))] [] [] zB ?_
   refine zBD 3 0 (Nat.le_of_ble_eq_true rfl) (Nat.le_of_ble_eq_true rfl) ?_
   exact J_q (J_b (ih (v22,w64 (s13.2+1)))) rfl
  ·refine zG 19 (fun h17=>?_) (fun h17=>?_)
   ·refine zA (fun x18 h19=>?_)
    refine zA (fun x20 h21=>?_)
    refine J_d 7826 [] [3,19] [(3,rr 3 x20)] [0,3] [(3,rE 1 eStr x20)] (zF 3 (zAv (kk:=.i64) 86 9 1 1 eStr (.tmp 21) (.tmp 22) h19) (zF 4 (zFq (d:=sv x18) 9 1 1 0 eStr (.tmp 23) h19 (by kernel_rfl)) (zF 5 (zFk 86 9 1 2 eStr [x18] [0] [(.tmp 24)] [sv x18]) (zF 6 (zHR 86 86 9 9 1 16 3 0 2 eStr (.tmp 20) (.tmp 25) h21) zB)))) ?_
    exact yN (J_j (jv22 x20)) rfl
   ·refine zBD 0 3 (Nat.le_of_ble_eq_true rfl) (Nat.le_of_ble_eq_true rfl) ?_
    exact yN (J_j (jv22 s13.1)) rfl
 ·exact yN (hk s13.1) rfl
theorem zDM.ok (a1:ByteArray):Ok Tryz.prog 216 [sv a1] [] ((zDM a1).map fun r=>(so 1 eStr r,[])):=by
 refine zH zR3 Tryz.f216 0 28 (fun q=>?_)
 unfold zDM
 refine J_g 2 [] [(0,sv a1)] [] zB ?_
 refine J_g 6 [] [(0,sv a1),(3,rr 0 ([]:List ByteArray))] [(0,rE 1 eStr ([]:List ByteArray))] (zF 0 (zFk 86 9 1 0 eStr ([]:List ByteArray) [] [] []) zB) ?_
 refine zA (fun x2 h3=>?_)
 refine J_g 14 [] [(3,rr 0 ([]:List ByteArray)),(4,rr 1 x2)] [(0,rE 1 eStr ([]:List ByteArray)),(1,rE 1 eStr x2)] (zF 1 (vQ («as»:=[sv a1,uv 32]) [(.tmp 7),(.const (.int .u8 32))] [9,5] false [] [] (.cons (.same rfl) (.cons (.same rfl) (.nil))) (jI.ok a1 32) h3 (.own 1)) zB) ?_
 refine J_d 60 [] [5] [(5,iv 0)] [] [] zB ?_
 refine zFJ (zDh.ok x2 q _ (fun v23=>J_j ?_) (([]:List ByteArray),0))
 refine J_g 62 [] [(2,rr 0 v23)] [(0,rE 1 eStr v23)] zB ?_
 exact zBq (ds:=[rr 0 v23]) (ds':=[so 1 eStr v23]) (.cons (.cell (.move (.head _) (List.length_map _) (by decide) (.nil))) (.nil) (by decide)) rfl
noncomputable def zSD:Code:=(Tryz.f217.body).getD .skip
theorem kI.ok (x2:(List ByteArray)) (q:Wd) (kn:(List Int)→Option (D×List Ent)) (hk:∀v:(List Int),J (q.g Tryz.prog 217 0 47) zSD (atI zSD 63) (St.mk' [(2,pp 0),(4,rr 2 v)] [(0,.box [iv 0,iv 0,iv 0,iv 0]),(2,rE 1 zU v)]) (some v) kn):
  ∀s13:((List Int)×Int),J (q.g Tryz.prog 217 0 47) zSD (atI zSD 500) (St.mk' [(2,pp 0),(3,rr 1 x2),(4,rr 2 s13.1),(5,iv s13.2)] [(0,.box [iv 0,iv 0,iv 0,iv 0]),(1,rE 1 eStr x2),(2,rE 1 zU s13.1)]) (kI x2 s13) (Fl.go (fun r:zN=>some (.ag (zN.enc r),[])) kn):=by
 refine tQ (fun g ih s13=>?_)
 unfold jG
 refine J_d 2000 [] [18] [(18,bv (decide (s13.2< (x2.length:Int))))] [] [] zB ?_
 refine zG 18 (fun h14=>?_) (fun h14=>?_)
 ·refine zA (fun x15 h16=>?_)
  refine zA (fun x17 h18=>?_)
  refine J_g 8008 [] [(2,pp 0),(3,rr 1 x2),(4,rr 2 s13.1),(5,iv s13.2),(6,iv x17.1),(7,bv x17.2)] [(0,.box [iv 0,iv 0,iv 0,iv 0]),(1,rE 1 eStr x2),(2,rE 1 zU s13.1)] (zF 2 (zAv (kk:=.i64) 86 9 1 1 eStr (.tmp 22) (.tmp 23) h16) (zF 3 (zFq (d:=sv x15) 9 1 1 0 eStr (.tmp 24) h16 (by kernel_rfl)) (zF 4 (xC [(.tmp 25),(.const (.int .i64 3))] [9,3] (uN.ok x15 3) h18) zB))) ?_
  refine J_d 32036 [] [7,30] [(30,bv (!x17.2))] [] [] zB ?_
  refine zG 30 (fun h19=>?_) (fun h19=>?_)
  ·refine J_g 128148 [] [(2,pp 0)] [(0,.box [iv 5,iv 0,iv 0,iv 0])] zB ?_
   exact zM rfl
  ·refine zA (fun x20 h21=>?_)
   refine J_g 16019 [] [(2,pp 0),(3,rr 1 x2),(4,rr 2 s13.1),(5,iv s13.2)] [(0,.box [iv 0,iv 0,iv 0,iv 0]),(1,rE 1 eStr x2),(2,rE 1 zU (s13.1.set s13.2.toNat x17.1))] (zF 3 (zAv (kk:=.i64) 39 2 1 2 zU (.tmp 32) (.tmp 33) h21) (zHK 4 (zJn (b:=x17.1) 2 1 2 0 zU (iv x17.1) (.tmp 35) (.tmp 34) h21 rfl) zB)) ?_
   refine zGK (σ':=St.mk' [(2,pp 0),(3,rr 1 x2),(4,rr 2 (s13.1.set s13.2.toNat x17.1)),(5,iv s13.2)] [(0,.box [iv 0,iv 0,iv 0,iv 0]),(1,rE 1 eStr x2),(2,rE 1 zU (s13.1.set s13.2.toNat x17.1))]) (by simp only [rr,List.length_set]) ?_
   refine J_d 2003 [] [5] [(5,iv (w64 (s13.2+1)))] [] [] zB ?_
   exact J_q (J_b (ih (s13.1.set s13.2.toNat x17.1,w64 (s13.2+1)))) rfl
 ·exact yN (hk s13.1) rfl
theorem xW.ok (a1:ByteArray):Ok Tryz.prog 217 [sv a1] [] ((xW a1).map fun r=>(.ag (zN.enc r),[])):=by
 refine zH zSD Tryz.f217 0 47 (fun q=>?_)
 unfold xW
 refine J_g 2 [(0,0)] [(0,sv a1),(2,pp 0)] [(0,.box [iv 0,iv 0,iv 0,iv 0])] zB ?_
 refine zA (fun x2 h3=>?_)
 refine J_g 6 [] [(2,pp 0),(3,rr 1 x2)] [(0,.box [iv 0,iv 0,iv 0,iv 0]),(1,rE 1 eStr x2)] (zF 1 (vQ («as»:=[sv a1,uv 46]) [(.tmp 8),(.const (.int .u8 46))] [9,5] false [] [] (.cons (.same rfl) (.cons (.same rfl) (.nil))) (jI.ok a1 46) h3 (.own 1)) zB) ?_
 refine J_d 28 [] [12] [(12,bv (decide ((x2.length:Int)>3)))] [] [] zB ?_
 refine zG 12 (fun h4=>?_) (fun h4=>?_)
 ·refine J_g 116 [] [(2,pp 0)] [(0,.box [iv 5,iv 0,iv 0,iv 0])] zB ?_
  exact zM rfl
 ·refine J_g 30 [] [(2,pp 0),(3,rr 1 x2),(4,rr 2 [0,0,0])] [(0,.box [iv 0,iv 0,iv 0,iv 0]),(1,rE 1 eStr x2),(2,rE 1 zU [0,0,0])] (zF 0 (zFk 39 2 1 2 zU [0,0,0] [0,1,2] [(.const (.int .i64 0)),(.const (.int .i64 0)),(.const (.int .i64 0))] [iv 0,iv 0,iv 0]) zB) ?_
  refine J_d 124 [] [5] [(5,iv 0)] [] [] zB ?_
  refine vZ (K0:=(fun r:zN=>some (.ag (zN.enc r),[]))) (fun _=>rfl) (kI.ok x2 q _ (fun v22=>J_j ?_) ([0,0,0],0))
  refine zA (fun x23 h24=>?_)
  refine zA (fun x25 h26=>?_)
  refine zA (fun x27 h28=>?_)
  refine J_g 126 [] [(2,pp 0)] [(0,.box [iv 0,iv x23,iv x25,iv x27])] (zF 1 (zAv (kk:=.i64) 39 2 1 2 zU (.tmp 36) (.const (.int .i64 0)) h24) (zF 2 (zFq (d:=iv x23) 2 1 2 0 zU (.tmp 37) h24 (by kernel_rfl)) (zF 4 (zAv (kk:=.i64) 39 2 1 2 zU (.tmp 39) (.const (.int .i64 1)) h26) (zF 5 (zFq (d:=iv x25) 2 1 2 0 zU (.tmp 40) h26 (by kernel_rfl)) (zF 7 (zAv (kk:=.i64) 39 2 1 2 zU (.tmp 42) (.const (.int .i64 2)) h28) (zF 8 (zFq (d:=iv x27) 2 1 2 0 zU (.tmp 43) h28 (by kernel_rfl)) zB)))))) ?_
  exact zM rfl
noncomputable def c116:Code:=(Tryz.f116.body).getD .skip
theorem zFh.ok (a1:(List Int)) (a2:Int) (q:Wd) (kn:((List Int)×Bool)→Option (D×List Ent)) (hk:∀v:((List Int)×Bool),J (q.g Tryz.prog 116 0 43) c116 (atI c116 31) (St.mk' [(1,iv a2),(5,rr 0 v.1),(6,bv v.2)] [(0,rE 1 zU v.1)]) (some v) kn):
  ∀s16:((List Int)×Bool×Int),J (q.g Tryz.prog 116 0 43) c116 (atI c116 244) (St.mk' [(0,sl 1 zU a1),(1,iv a2),(5,rr 0 s16.1),(6,bv s16.2.1),(7,iv s16.2.2)] [(0,rE 1 zU s16.1)]) (zFh a1 a2 s16) kn:=by
 refine tQ (fun g ih s16=>?_)
 unfold zEk
 refine J_d 976 [] [12] [(12,bv (decide (s16.2.2< (a1.length:Int))))] [] [] zB ?_
 refine zG 12 (fun h17=>?_) (fun h17=>?_)
 ·refine zA (fun x18 h19=>?_)
  refine wH (atI c116 7825) (fun v21:Bool=>St.mk' [(0,sl 1 zU a1),(1,iv a2),(5,rr 0 s16.1),(6,bv s16.2.1),(7,iv s16.2.2),(24,bv v21)] [(0,rE 1 zU s16.1)]) (fun v21=>?_) (fun jv21=>?_)
  ·refine wH (atI c116 3913) (fun v25:((List Int)×Bool)=>St.mk' [(0,sl 1 zU a1),(1,iv a2),(5,rr 2 v25.1),(6,bv v25.2),(7,iv s16.2.2)] [(2,rE 1 zU v25.1)]) (fun v25=>?_) (fun jv25=>?_)
   ·refine zA (fun x26 h27=>?_)
    refine zA (fun x28 h29=>?_)
    refine J_g 3913 [] [(0,sl 1 zU a1),(1,iv a2),(5,rr 4 x28),(6,bv v25.2),(7,iv s16.2.2)] [(4,rE 1 zU x28)] (zF 3 (vI (kk:=.i64) 39 2 1 zU (.tmp 30) (.tmp 31) h27) (zF 5 (zFk 39 2 1 3 zU [x26] [0] [(.tmp 33)] [iv x26]) (zF 6 (zHR 39 39 2 2 1 8 4 2 3 zU (.tmp 29) (.tmp 34) h29) zB))) ?_
    refine J_d 979 [] [7] [(7,iv (w64 (s16.2.2+1)))] [] [] zB ?_
    refine zBD 4 0 (Nat.le_of_ble_eq_true rfl) (Nat.le_of_ble_eq_true rfl) ?_
    exact J_q (J_b (ih (x28,v25.2,w64 (s16.2.2+1)))) rfl
   ·refine zG 24 (fun h22=>?_) (fun h22=>?_)
    ·refine zA (fun x23 h24=>?_)
     refine J_g 31300 [] [(0,sl 1 zU a1),(1,iv a2),(5,rr 2 x23),(7,iv s16.2.2)] [(2,rE 1 zU x23)] (zF 2 (zFk 39 2 1 1 zU [a2] [0] [(.tmp 26)] [iv a2]) (zF 3 (zHR 39 39 2 2 1 8 2 0 1 zU (.tmp 25) (.tmp 27) h24) zB)) ?_
     refine J_d 31301 [] [6] [(6,bv true)] [] [] zB ?_
     exact yN (J_j (jv25 (x23,true))) rfl
    ·refine zBD 0 2 (Nat.le_of_ble_eq_true rfl) (Nat.le_of_ble_eq_true rfl) ?_
     exact yN (J_j (jv25 (s16.1,s16.2.1))) rfl
  ·refine wT (fun h20=>?_) (fun h20=>?_)
   ·refine J_d 7824 [] [12,24] [(24,bv (!s16.2.1))] [] [] (zF 2 (vI (kk:=.i64) 39 2 1 zU (.tmp 15) (.tmp 16) h19) (wE 6 [(20,bv (decide (x18>a2)))] [] h20 zB)) ?_
    exact yN (J_j (jv21 (!s16.2.1))) rfl
   ·refine J_d 7824 [] [12,24] [(24,bv false)] [] [] (zF 2 (vI (kk:=.i64) 39 2 1 zU (.tmp 15) (.tmp 16) h19) (wE 6 [(20,bv (decide (x18>a2)))] [] h20 zB)) ?_
    exact yN (J_j (jv21 false)) rfl
 ·exact yN (hk (s16.1,s16.2.1)) rfl
theorem zEQ.ok (a1:(List Int)) (a2:Int):Ok Tryz.prog 116 [sl 1 zU a1,iv a2] [] ((zEQ a1 a2).map fun r=>(so 1 zU r,[])):=by
 refine zH c116 Tryz.f116 0 43 (fun q=>?_)
 unfold zEQ
 refine J_g 2 [] [(0,sl 1 zU a1),(1,iv a2)] [] zB ?_
 refine J_g 6 [] [(0,sl 1 zU a1),(1,iv a2),(5,rr 0 ([]:List Int))] [(0,rE 1 zU ([]:List Int))] (zF 0 (zFk 39 2 1 0 zU ([]:List Int) [] [] []) zB) ?_
 refine J_g 14 [] [(0,sl 1 zU a1),(1,iv a2),(5,rr 0 ([]:List Int)),(6,bv false)] [(0,rE 1 zU ([]:List Int))] zB ?_
 refine J_d 60 [] [7] [(7,iv 0)] [] [] zB ?_
 refine zFJ (zFh.ok a1 a2 q _ (fun v30=>J_j ?_) (([]:List Int),false,0))
 refine J_d 124 [] [6,37] [(37,bv (!v30.2))] [] [] zB ?_
 refine wH (atI c116 63) (fun v34:(List Int)=>St.mk' [(5,rr 2 v34)] [(2,rE 1 zU v34)]) (fun v34=>?_) (fun jv34=>?_)
 ·refine J_g 126 [] [(4,rr 2 v34)] [(2,rE 1 zU v34)] zB ?_
  exact zBq (ds:=[rr 2 v34]) (ds':=[so 1 zU v34]) (.cons (.cell (.move (.head _) (List.length_map _) (by decide) (.nil))) (.nil) (by decide)) rfl
 ·refine zG 37 (fun h31=>?_) (fun h31=>?_)
  ·refine zA (fun x32 h33=>?_)
   refine J_g 250 [] [(5,rr 2 x32)] [(2,rE 1 zU x32)] (zF 2 (zFk 39 2 1 1 zU [a2] [0] [(.tmp 39)] [iv a2]) (zF 3 (zHR 39 39 2 2 1 8 2 0 1 zU (.tmp 38) (.tmp 40) h33) zB)) ?_
   exact yN (J_j (jv34 x32)) rfl
  ·refine zBD 0 2 (Nat.le_of_ble_eq_true rfl) (Nat.le_of_ble_eq_true rfl) ?_
   exact yN (J_j (jv34 v30.1)) rfl
noncomputable def zQN:Code:=(Tryz.f149.body).getD .skip
theorem zDd.ok (a1:(List Pack)) (x4:(List ByteArray)) (q:Wd) (kn:(List Int)→Option (D×List Ent)) (hk:∀v:(List Int),J (q.g Tryz.prog 149 0 60) zQN (atI zQN 63) (St.mk' [(4,pp 0),(6,rr 2 v)] [(0,.box [iv 0,iv 0,nv]),(2,rE 1 zU v)]) (some v) kn):
  ∀s29:((List Int)×Int),J (q.g Tryz.prog 149 0 60) zQN (atI zQN 500) (St.mk' [(0,sl 8 (Pack.enc false) a1),(4,pp 0),(5,rr 1 x4),(6,rr 2 s29.1),(7,iv s29.2)] [(0,.box [iv 0,iv 0,nv]),(1,rE 1 eStr x4),(2,rE 1 zU s29.1)]) (zDd a1 x4 s29) (Fl.go (fun r:xK=>some (.ag [iv r.Code,iv r.At,so 1 zU r.Set],[])) kn):=by
 refine tQ (fun g ih s29=>?_)
 unfold zAI
 refine J_d 2000 [] [21] [(21,bv (decide (s29.2< (x4.length:Int))))] [] [] zB ?_
 refine zG 21 (fun h30=>?_) (fun h30=>?_)
 ·refine zA (fun x31 h32=>?_)
  refine zA (fun x33 h34=>?_)
  refine J_g 8008 [] [(0,sl 8 (Pack.enc false) a1),(4,pp 0),(5,rr 1 x4),(6,rr 2 s29.1),(7,iv s29.2),(8,rr 3 x33)] [(0,.box [iv 0,iv 0,nv]),(1,rE 1 eStr x4),(2,rE 1 zU s29.1),(3,rE 1 eStr x33)] (zF 2 (zAv (kk:=.i64) 86 9 1 1 eStr (.tmp 24) (.tmp 25) h32) (zF 3 (zFq (d:=sv x31) 9 1 1 0 eStr (.tmp 26) h32 (by kernel_rfl)) (zF 4 (vQ («as»:=[sv x31]) [(.tmp 27)] [9] false [] [] (.cons (.same rfl) (.nil)) (zDM.ok x31) h34 (.own 3)) zB))) ?_
  refine J_g 16018 [] [(0,sl 8 (Pack.enc false) a1),(4,pp 0),(5,rr 1 x4),(6,rr 2 s29.1),(7,iv s29.2),(8,rr 3 x33),(9,iv (-1))] [(0,.box [iv 0,iv 0,nv]),(1,rE 1 eStr x4),(2,rE 1 zU s29.1),(3,rE 1 eStr x33)] zB ?_
  refine J_d 64076 [] [31] [(31,bv ((x33.length:Int)==2))] [] [] zB ?_
  refine wH (atI zQN 32039) (fun v45:Int=>St.mk' [(0,sl 8 (Pack.enc false) a1),(4,pp 0),(5,rr 1 x4),(6,rr 2 s29.1),(7,iv s29.2),(9,iv v45)] [(0,.box [iv 0,iv 0,nv]),(1,rE 1 eStr x4),(2,rE 1 zU s29.1)]) (fun v45=>?_) (fun jv45=>?_)
  ·refine wH (atI zQN 128157) (fun v49:Bool=>St.mk' [(0,sl 8 (Pack.enc false) a1),(4,pp 0),(5,rr 1 x4),(6,rr 2 s29.1),(7,iv s29.2),(9,iv v45),(52,bv v49)] [(0,.box [iv 0,iv 0,nv]),(1,rE 1 eStr x4),(2,rE 1 zU s29.1)]) (fun v49=>?_) (fun jv49=>?_)
   ·refine zG 52 (fun h50=>?_) (fun h50=>?_)
    ·refine J_g 512628 [] [(4,pp 0)] [(0,.box [iv 5,iv s29.2,nv])] zB ?_
     exact zBq (ds:=[.ag [iv 5,iv s29.2,nv]]) (ds':=[.ag [iv 5,iv s29.2,so 1 zU ([]:List Int)]]) (.cons (.ag (.keep rfl (.keep rfl (.nilsl true 1 (.nil))))) (.nil) (by decide)) rfl
    ·refine zA (fun x51 h52=>?_)
     refine J_g 64079 [] [(0,sl 8 (Pack.enc false) a1),(4,pp 0),(5,rr 1 x4),(6,rr 3 x51),(7,iv s29.2)] [(0,.box [iv 0,iv 0,nv]),(1,rE 1 eStr x4),(3,rE 1 zU x51)] (zF 2 (vQ («as»:=[rr 2 s29.1,iv v45]) [(.tmp 55),(.tmp 56)] [39,2] true [(2,rE 1 zU s29.1)] [] (.cons (zFE (.head _) (fun _=>rfl) rfl) (.cons (.same rfl) (.nil))) (zEQ.ok s29.1 v45) h52 (.own 3) (hbor:=fun _=>⟨fhN,(zFA (zGy (fun _=>(flatK zQ zGs)) _))⟩)) zB) ?_
     refine J_d 2003 [] [7] [(7,iv (w64 (s29.2+1)))] [] [] zB ?_
     refine zBD 3 2 (Nat.le_of_ble_eq_true rfl) (Nat.le_of_ble_eq_true rfl) ?_
     exact J_q (J_b (ih (x51,w64 (s29.2+1)))) rfl
   ·refine wT (fun h46=>?_) (fun h46=>?_)
    ·refine J_d 128156 [] [52] [(52,bv true)] [] [] (wE 2 [(47,bv (decide (v45<0)))] [] h46 zB) ?_
     exact yN (J_j (jv49 true)) rfl
    ·refine zA (fun x47 h48=>?_)
     refine J_d 128156 [] [52] [(52,bv x47)] [] [] (wE 2 [(47,bv (decide (v45<0)))] [] h46 (zBr 5 2 48 false (vQ («as»:=[rr 2 s29.1,iv v45]) [(.tmp 49),(.tmp 50)] [39,2] true [(2,rE 1 zU s29.1)] [] (.cons (zFE (.head _) (fun _=>rfl) rfl) (.cons (.same rfl) (.nil))) (zBK.ok s29.1 v45) h48 (.same rfl rfl) (hbor:=fun _=>⟨fhN,zQ⟩)) zB)) ?_
     exact yN (J_j (jv49 x47)) rfl
  ·refine zG 31 (fun h35=>?_) (fun h35=>?_)
   ·refine zA (fun x36 h37=>?_)
    refine zA (fun x38 h39=>?_)
    refine J_g 256308 [(4,4)] [(0,sl 8 (Pack.enc false) a1),(4,pp 0),(5,rr 1 x4),(6,rr 2 s29.1),(7,iv s29.2),(8,rr 3 x33),(9,iv (-1)),(10,pp 4)] [(0,.box [iv 0,iv 0,nv]),(1,rE 1 eStr x4),(2,rE 1 zU s29.1),(3,rE 1 eStr x33),(4,.box (zN.enc x38))] (zF 1 (zAv (kk:=.i64) 86 9 1 3 eStr (.tmp 32) (.const (.int .i64 1)) h37) (zF 2 (zFq (d:=sv x36) 9 1 3 0 eStr (.tmp 33) h37 (by kernel_rfl)) (zF 3 (xC [(.tmp 34)] [9] (xW.ok x36) h39) zB))) ?_
    refine J_d 512618 [] [38] [(38,bv (x38.Code==0))] [] [] zB ?_
    refine zG 38 (fun h40=>?_) (fun h40=>?_)
    ·refine zA (fun x41 h42=>?_)
     refine zA (fun x43 h44=>?_)
     refine J_d 1025238 [] [8,9,10,38] [(9,iv x43)] [3,4] [] (zF 2 (zAv (kk:=.i64) 86 9 1 3 eStr (.tmp 40) (.const (.int .i64 0)) h42) (zF 3 (zFq (d:=sv x41) 9 1 3 0 eStr (.tmp 41) h42 (by kernel_rfl)) (zF 6 (xC [(.tmp 39),(.tmp 42),(.tmp 44)] [30,9,99] (zAo.ok a1 x41 x38.Version) h44) zB))) ?_
     exact yN (J_j (jv45 x43)) rfl
    ·exact yN (J_j (jv45 (-1))) rfl
   ·exact yN (J_j (jv45 (-1))) rfl
 ·exact yN (hk s29.1) rfl
theorem zCZ.ok (a1:(List Pack)) (a2:ByteArray):Ok Tryz.prog 149 [sl 8 (Pack.enc false) a1,sv a2] [] ((zCZ a1 a2).map fun r=>(.ag [iv r.Code,iv r.At,so 1 zU r.Set],[])):=by
 refine zH zQN Tryz.f149 0 60 (fun q=>?_)
 unfold zCZ
 refine J_g 2 [(0,0)] [(0,sl 8 (Pack.enc false) a1),(1,sv a2),(4,pp 0)] [(0,.box [iv 0,iv 0,nv])] zB ?_
 refine J_d 12 [] [13] [(13,bv (decide ((a2.size:Int)>4000)))] [] [] zB ?_
 refine zG 13 (fun h3=>?_) (fun h3=>?_)
 ·refine J_g 52 [] [(4,pp 0)] [(0,.box [iv 2,iv 0,nv])] zB ?_
  exact zBq (ds:=[.ag [iv 2,iv 0,nv]]) (ds':=[.ag [iv 2,iv 0,so 1 zU ([]:List Int)]]) (.cons (.ag (.keep rfl (.keep rfl (.nilsl true 1 (.nil))))) (.nil) (by decide)) rfl
 ·refine zA (fun x4 h5=>?_)
  refine J_g 14 [] [(0,sl 8 (Pack.enc false) a1),(4,pp 0),(5,rr 1 x4)] [(0,.box [iv 0,iv 0,nv]),(1,rE 1 eStr x4)] (zF 1 (vQ («as»:=[sv a2]) [(.tmp 15)] [9] false [] [] (.cons (.same rfl) (.nil)) (zBg.ok a2) h5 (.own 1)) zB) ?_
  refine J_g 30 [] [(0,sl 8 (Pack.enc false) a1),(4,pp 0),(5,rr 1 x4),(6,rr 2 ([]:List Int))] [(0,.box [iv 0,iv 0,nv]),(1,rE 1 eStr x4),(2,rE 1 zU ([]:List Int))] (zF 0 (zFk 39 2 1 2 zU ([]:List Int) [] [] []) zB) ?_
  refine J_d 124 [] [7] [(7,iv 0)] [] [] zB ?_
  refine vZ (K0:=(fun r:xK=>some (.ag [iv r.Code,iv r.At,so 1 zU r.Set],[]))) (fun _=>rfl) (zDd.ok a1 x4 q _ (fun v53=>J_j ?_) (([]:List Int),0))
  refine J_g 126 [] [(4,pp 0)] [(0,.box [iv 0,iv 0,rr 2 v53]),(2,rE 1 zU v53)] zB ?_
  exact zBq (ds:=[.ag [iv 0,iv 0,rr 2 v53]]) (ds':=[.ag [iv 0,iv 0,so 1 zU v53]]) (.cons (.ag (.keep rfl (.keep rfl (.move (.tail _ (.head _)) (List.length_map _) (by decide) (.nil))))) (.nil) (by decide)) rfl
noncomputable def c77:Code:=(Tryz.f77.body).getD .skip
theorem zFt.ok (a1:(List Pack)) (a2:zD) (a3:Int):Ok Tryz.prog 77 [sl 8 (Pack.enc false) a1,.pb [sl 2 (File.enc false) a2.Files,iv a2.Budget,iv a2.Writes,iv a2.Stop,bv a2.Down],iv a3] [] ((zFt a1 a2 a3).map fun r=>(.ag [iv r.Code,iv r.At,so 1 zU r.Set],[])):=by
 refine zH c77 Tryz.f77 0 35 (fun q=>?_)
 unfold zFt
 refine J_d 2 [(0,0)] [6] [(6,pp 0)] [0] [(0,.box [iv 0,iv 0,nv])] zB ?_
 refine zA (fun x4 h5=>?_)
 refine zA (fun x6 h7=>?_)
 refine J_d 12 [] [12] [(12,bv (!x6))] [] [] (zF 1 (vQ («as»:=[.pb [sl 2 (File.enc false) a2.Files,iv a2.Budget,iv a2.Writes,iv a2.Stop,bv a2.Down]]) [(.tmp 8)] [72] false [] [] (.cons (.pb (.cons (.same rfl) (.cons (.same rfl) (.cons (.same rfl) (.cons (.same rfl) (.cons (.same rfl) (.nil))))))) (.nil)) (zCp.ok a2) h5 (.own 1)) (zF 3 (vQ («as»:=[rr 1 x4,iv a3]) [(.tmp 9),(.tmp 10)] [39,2] true [(1,rE 1 zU x4)] [] (.cons (zFE (.head _) (fun _=>rfl) rfl) (.cons (.same rfl) (.nil))) (zBK.ok x4 a3) h7 (.same rfl rfl) (hbor:=fun _=>⟨fhN,zQ⟩)) zB)) ?_
 refine zG 12 (fun h8=>?_) (fun h8=>?_)
 ·refine J_g 52 [] [(6,pp 0)] [(0,.box [iv 4,iv 0,nv])] zB ?_
  exact zBq (ds:=[.ag [iv 4,iv 0,nv]]) (ds':=[.ag [iv 4,iv 0,so 1 zU ([]:List Int)]]) (.cons (.ag (.keep rfl (.keep rfl (.nilsl true 1 (.nil))))) (.nil) (by decide)) rfl
 ·refine zA (fun x9 h10=>?_)
  refine zA (fun x11 h12=>?_)
  refine zA (fun x13 h14=>?_)
  refine zA (fun x15 h16=>?_)
  refine J_g 14 [(14,2)] [(6,pp 0),(7,pp 2)] [(0,.box [iv 0,iv 0,nv]),(1,rE 1 zU x15.Set),(2,.box [iv x15.Code,iv x15.At,rr 1 x15.Set])] (zF 2 (zGq (.tmp 15) [sl 2 (File.enc false) a2.Files,iv a2.Budget,iv a2.Writes,iv a2.Stop,bv a2.Down]) (zF 3 (zFl 33 (.tmp 16) 0 0 1 [sl 2 (File.enc false) a2.Files,iv a2.Budget,iv a2.Writes,iv a2.Stop,bv a2.Down]) (zF 4 (zFB (d:=sl 2 (File.enc false) a2.Files) 31 (.tmp 17) [sl 2 (File.enc false) a2.Files]) (zF 7 (xC [(.tmp 20)] [2] (jE.ok a3) h10) (zF 8 (vQ («as»:=[.pb [sl 2 (File.enc false) a2.Files,iv a2.Budget,iv a2.Writes,iv a2.Stop,bv a2.Down],sv x9]) [(.tmp 19),(.tmp 21)] [72,9] false [] [] (.cons (.pb (.cons (.same rfl) (.cons (.same rfl) (.cons (.same rfl) (.cons (.same rfl) (.cons (.same rfl) (.nil))))))) (.cons (.same rfl) (.nil))) (wQ.ok a2 x9) h12 (.same rfl rfl)) (zF 9 (vI (kk:=.i64) 31 138 2 (File.enc false) (.tmp 18) (.tmp 22) h14) (zF 12 (zL2 (xs:=x13.Data) 121 9 5 (.tmp 25)) (zF 13 (vQ («as»:=[sl 8 (Pack.enc false) a1,sv (b2s x13.Data)]) [(.tmp 14),(.tmp 26)] [30,9] false [] [] (.cons (.same rfl) (.cons (.same rfl) (.nil))) (zCZ.ok a1 (b2s x13.Data)) h16 (.ag (.cons (.same rfl rfl) (.cons (.same rfl rfl) (.cons (.own 1) (.nil)))))) zB)))))))) ?_
  refine J_d 60 [] [30] [(30,bv (x15.Code !=0))] [] [] zB ?_
  refine zG 30 (fun h17=>?_) (fun h17=>?_)
  ·refine J_g 244 [] [(6,pp 0)] [(0,.box [iv x15.Code,iv 0,nv])] zB ?_
   exact zBq (ds:=[.ag [iv x15.Code,iv 0,nv]]) (ds':=[.ag [iv x15.Code,iv 0,so 1 zU ([]:List Int)]]) (.cons (.ag (.keep rfl (.keep rfl (.nilsl true 1 (.nil))))) (.nil) (by decide)) rfl
  ·refine J_g 62 [] [(6,pp 0)] [(0,.box [iv x15.Code,iv x15.At,rr 1 x15.Set]),(1,rE 1 zU x15.Set)] zB ?_
   exact zBq (ds:=[.ag [iv x15.Code,iv x15.At,rr 1 x15.Set]]) (ds':=[.ag [iv x15.Code,iv x15.At,so 1 zU x15.Set]]) (.cons (.ag (.keep rfl (.keep rfl (.move (.tail _ (.head _)) (List.length_map _) (by decide) (.nil))))) (.nil) (by decide)) rfl
noncomputable def c43:Code:=(Tryz.f43.body).getD .skip
theorem zDH.ok (a1:(List Pack)) (a2:zD):Ok Tryz.prog 43 [sl 8 (Pack.enc false) a1,.pb [sl 2 (File.enc false) a2.Files,iv a2.Budget,iv a2.Writes,iv a2.Stop,bv a2.Down]] [] ((zDH a1 a2).map fun r=>(.ag [iv r.Code,iv r.At,so 1 zU r.Set],[])):=by
 refine zH c43 Tryz.f43 0 10 (fun q=>?_)
 unfold zDH
 refine J_d 2 [(0,0)] [4] [(4,pp 0)] [0] [(0,.box [iv 0,iv 0,nv])] zB ?_
 refine zA (fun x3 h4=>?_)
 refine zA (fun x5 h6=>?_)
 refine J_g 6 [] [(4,pp 0)] [(0,.box [iv x5.Code,iv x5.At,rr 1 x5.Set]),(1,rE 1 zU x5.Set)] (zF 3 (vQ («as»:=[.pb [sl 2 (File.enc false) a2.Files,iv a2.Budget,iv a2.Writes,iv a2.Stop,bv a2.Down]]) [(.tmp 7)] [72] false [] [] (.cons (.pb (.cons (.same rfl) (.cons (.same rfl) (.cons (.same rfl) (.cons (.same rfl) (.cons (.same rfl) (.nil))))))) (.nil)) (zB1.ok a2) h4 (.same rfl rfl)) (zF 4 (vQ («as»:=[sl 8 (Pack.enc false) a1,.pb [sl 2 (File.enc false) a2.Files,iv a2.Budget,iv a2.Writes,iv a2.Stop,bv a2.Down],iv x3]) [(.tmp 5),(.tmp 6),(.tmp 8)] [30,72,2] false [] [] (.cons (.same rfl) (.cons (.pb (.cons (.same rfl) (.cons (.same rfl) (.cons (.same rfl) (.cons (.same rfl) (.cons (.same rfl) (.nil))))))) (.cons (.same rfl) (.nil)))) (zFt.ok a1 a2 x3) h6 (.ag (.cons (.same rfl rfl) (.cons (.same rfl rfl) (.cons (.own 1) (.nil)))))) zB)) ?_
 exact zBq (ds:=[.ag [iv x5.Code,iv x5.At,rr 1 x5.Set]]) (ds':=[.ag [iv x5.Code,iv x5.At,so 1 zU x5.Set]]) (.cons (.ag (.keep rfl (.keep rfl (.move (.tail _ (.head _)) (List.length_map _) (by decide) (.nil))))) (.nil) (by decide)) rfl
noncomputable def zT7:Code:=(Tryz.f291.body).getD .skip
theorem kL.ok (a1:Term) (a2:ByteArray) (a3:Version):Ok Tryz.prog 291 [.ag (Term.enc a1),sv a2,.ag (Version.enc a3)] [] ((kL a1 a2 a3).map fun r=>(bv r,[])):=by
 refine zH zT7 Tryz.f291 0 25 (fun q=>?_)
 unfold kL
 refine J_g 2 [(0,0),(1,1)] [(1,sv a2),(3,pp 0),(5,pp 1)] [(0,.box (Term.enc a1)),(1,.box (Version.enc a3))] zB ?_
 refine wT (fun h4=>?_) (fun h4=>?_)
 ·refine zA (fun x5 h6=>?_)
  refine wT (fun h7=>?_) (fun h7=>?_)
  ·refine zA (fun x8 h9=>?_)
   refine J_g 6 [] [(6,bv (decide (x8<0)))] [] (wE 4 [(10,bv (seq a1.Name a2))] [] h4 (zBr 8 4 11 true (xC [(.tmp 12),(.tmp 14)] [99,99] (yF.ok a3 a1.Low) h6) (wE 11 [(17,bv (decide (x5≥0)))] [] h7 (zBr 15 11 18 true (xC [(.tmp 19),(.tmp 21)] [99,99] (yF.ok a3 a1.High) h9) zB)))) ?_
   exact zM rfl
  ·refine J_g 6 [] [(6,bv false)] [] (wE 4 [(10,bv (seq a1.Name a2))] [] h4 (zBr 8 4 11 true (xC [(.tmp 12),(.tmp 14)] [99,99] (yF.ok a3 a1.Low) h6) (wE 11 [(17,bv (decide (x5≥0)))] [] h7 zB))) ?_
   exact zM rfl
 ·refine J_g 6 [] [(6,bv false)] [] (wE 4 [(10,bv (seq a1.Name a2))] [] h4 zB) ?_
  exact zM rfl
noncomputable def c234:Code:=(Tryz.f234.body).getD .skip
theorem zDk.ok (a1:Pack) (a2:Term):Ok Tryz.prog 234 [.ag (Pack.enc false a1),.ag (Term.enc a2)] [] ((zDk a1 a2).map fun r=>(bv r,[])):=by
 refine zH c234 Tryz.f234 0 25 (fun q=>?_)
 unfold zDk
 refine J_g 2 [(0,0),(1,1)] [(2,pp 0),(3,pp 1)] [(0,.box (Pack.enc false a1)),(1,.box (Term.enc a2))] zB ?_
 refine wT (fun h3=>?_) (fun h3=>?_)
 ·refine zA (fun x4 h5=>?_)
  refine J_g 6 [] [(4,bv x4)] [] (wE 5 [(9,bv (seq a2.Name a1.Name))] [] h3 (zBr 18 12 17 true (xC [(.tmp 18),(.tmp 20),(.tmp 22)] [149,9,99] (kL.ok a2 a2.Name a1.Version) h5) zB)) ?_
  exact zM rfl
 ·refine zA (fun x6 h7=>?_)
  refine wT (fun h8=>?_) (fun h8=>?_)
  ·refine zA (fun x9 h10=>?_)
   refine J_g 6 [] [(4,bv x9)] [] (wE 5 [(9,bv (seq a2.Name a1.Name))] [] h3 (zBr 10 5 10 false (xC [(.tmp 12),(.tmp 14)] [86,9] (kU.ok a1.Provides a2.Name) h7) (wE 12 [(16,bv x6)] [] h8 (zBr 18 12 17 true (xC [(.tmp 18),(.tmp 20),(.tmp 22)] [149,9,99] (kL.ok a2 a2.Name a1.Version) h10) zB)))) ?_
   exact zM rfl
  ·refine J_g 6 [] [(4,bv false)] [] (wE 5 [(9,bv (seq a2.Name a1.Name))] [] h3 (zBr 10 5 10 false (xC [(.tmp 12),(.tmp 14)] [86,9] (kU.ok a1.Provides a2.Name) h7) (wE 12 [(16,bv x6)] [] h8 zB))) ?_
   exact zM rfl
noncomputable def c168:Code:=(Tryz.f168.body).getD .skip
theorem zDE.ok (a1:(List Pack)) (a2:(List Int)) (a3:Term) (a4:Int) (q:Wd) (kn:Unit→Option (D×List Ent)) (hk:∀v:Unit,J (q.g Tryz.prog 168 0 33) c168 (atI c168 7) (St.mk' [] []) (some v) kn):
  ∀s17:Int,J (q.g Tryz.prog 168 0 33) c168 (atI c168 52) (St.mk' [(0,sl 8 (Pack.enc false) a1),(1,sl 1 zU a2),(3,iv a4),(6,pp 0),(9,iv s17)] [(0,.box (Term.enc a3))]) (zDE a1 a2 a3 a4 s17) (Fl.go (fun r:Bool=>some (bv r,[])) kn):=by
 refine tQ (fun g ih s17=>?_)
 unfold zCF
 refine J_d 208 [] [13] [(13,bv (decide (s17< (a2.length:Int))))] [] [] zB ?_
 refine zG 13 (fun h18=>?_) (fun h18=>?_)
 ·refine zA (fun x19 h20=>?_)
  refine wH (atI c168 841) (fun v28:Bool=>St.mk' [(0,sl 8 (Pack.enc false) a1),(1,sl 1 zU a2),(3,iv a4),(6,pp 0),(9,iv s17),(32,bv v28)] [(0,.box (Term.enc a3))]) (fun v28=>?_) (fun jv28=>?_)
  ·refine zG 32 (fun h29=>?_) (fun h29=>?_)
   ·refine J_g 3364 [] [(8,bv true)] [] zB ?_
    exact zM rfl
   ·refine J_d 211 [] [9,32] [(9,iv (w64 (s17+1)))] [] [] zB ?_
    exact J_q (J_b (ih (w64 (s17+1)))) rfl
  ·refine wT (fun h21=>?_) (fun h21=>?_)
   ·refine zA (fun x22 h23=>?_)
    refine zA (fun x24 h25=>?_)
    refine zA (fun x26 h27=>?_)
    refine J_d 840 [] [13,32] [(32,bv x26)] [] [] (zF 2 (vI (kk:=.i64) 39 2 1 zU (.tmp 16) (.tmp 17) h20) (wE 6 [(21,bv (x19 !=a4))] [] h21 (zBr 10 6 22 true (vI (kk:=.i64) 39 2 1 zU (.tmp 24) (.tmp 25) h23) (zBr 12 6 22 true (vI (kk:=.i64) 30 102 8 (Pack.enc false) (.tmp 23) (.tmp 27) h25) (zBr 15 6 22 true (xC [(.tmp 29),(.tmp 30)] [102,149] (zDk.ok x24 a3) h27) zB))))) ?_
    exact yN (J_j (jv28 x26)) rfl
   ·refine J_d 840 [] [13,32] [(32,bv false)] [] [] (zF 2 (vI (kk:=.i64) 39 2 1 zU (.tmp 16) (.tmp 17) h20) (wE 6 [(21,bv (x19 !=a4))] [] h21 zB)) ?_
    exact yN (J_j (jv28 false)) rfl
 ·exact yN (hk ()) rfl
theorem zBk.ok (a1:(List Pack)) (a2:(List Int)) (a3:Term) (a4:Int):Ok Tryz.prog 168 [sl 8 (Pack.enc false) a1,sl 1 zU a2,.ag (Term.enc a3),iv a4] [] ((zBk a1 a2 a3 a4).map fun r=>(bv r,[])):=by
 refine zH c168 Tryz.f168 0 33 (fun q=>?_)
 unfold zBk
 refine J_g 2 [(0,0)] [(0,sl 8 (Pack.enc false) a1),(1,sl 1 zU a2),(3,iv a4),(6,pp 0)] [(0,.box (Term.enc a3))] zB ?_
 refine J_d 12 [] [9] [(9,iv 0)] [] [] zB ?_
 refine vZ (K0:=(fun r:Bool=>some (bv r,[]))) (fun _=>rfl) (zDE.ok a1 a2 a3 a4 q _ (fun v30=>J_j ?_) 0)
 refine J_g 14 [] [(8,bv false)] [] zB ?_
 exact zM rfl
noncomputable def c167:Code:=(Tryz.f167.body).getD .skip
theorem zFi.ok (a1:(List Pack)) (a2:(List Int)) (a3:(List Term)) (q:Wd) (kn:Unit→Option (D×List Ent)) (hk:∀v:Unit,J (q.g Tryz.prog 167 0 21) c167 (atI c167 7) (St.mk' [] []) (some v) kn):
  ∀s10:Int,J (q.g Tryz.prog 167 0 21) c167 (atI c167 52) (St.mk' [(0,sl 8 (Pack.enc false) a1),(1,sl 1 zU a2),(2,sl 7 Term.enc a3),(7,iv s10)] []) (zFi a1 a2 a3 s10) (Fl.go (fun r:Bool=>some (bv r,[])) kn):=by
 refine tQ (fun g ih s10=>?_)
 unfold zEj
 refine J_d 208 [] [11] [(11,bv (decide (s10< (a3.length:Int))))] [] [] zB ?_
 refine zG 11 (fun h11=>?_) (fun h11=>?_)
 ·refine zA (fun x12 h13=>?_)
  refine zA (fun x14 h15=>?_)
  refine J_d 840 [] [11,20] [(20,bv x14)] [] [] (zF 4 (vI (kk:=.i64) 75 149 7 Term.enc (.tmp 16) (.tmp 17) h13) (zF 6 (xC [(.tmp 14),(.tmp 15),(.tmp 19),(.const (.int .i64 (-1)))] [30,39,149,2] (zBk.ok a1 a2 x12 (-1)) h15) zB)) ?_
  refine zG 20 (fun h16=>?_) (fun h16=>?_)
  ·refine J_g 3364 [] [(6,bv true)] [] zB ?_
   exact zM rfl
  ·refine J_d 211 [] [7,20] [(7,iv (w64 (s10+1)))] [] [] zB ?_
   exact J_q (J_b (ih (w64 (s10+1)))) rfl
 ·exact yN (hk ()) rfl
theorem zFn.ok (a1:(List Pack)) (a2:(List Int)) (a3:(List Term)):Ok Tryz.prog 167 [sl 8 (Pack.enc false) a1,sl 1 zU a2,sl 7 Term.enc a3] [] ((zFn a1 a2 a3).map fun r=>(bv r,[])):=by
 refine zH c167 Tryz.f167 0 21 (fun q=>?_)
 unfold zFn
 refine J_g 2 [] [(0,sl 8 (Pack.enc false) a1),(1,sl 1 zU a2),(2,sl 7 Term.enc a3)] [] zB ?_
 refine J_d 12 [] [7] [(7,iv 0)] [] [] zB ?_
 refine vZ (K0:=(fun r:Bool=>some (bv r,[]))) (fun _=>rfl) (zFi.ok a1 a2 a3 q _ (fun v17=>J_j ?_) 0)
 refine J_g 14 [] [(6,bv false)] [] zB ?_
 exact zM rfl
noncomputable def c93:Code:=(Tryz.f93.body).getD .skip
theorem zCt.ok (a1:(List Pack)) (a2:(List Int)) (s82:((List zT)×Int)) (x86:Pack) (q:Wd) (kn:(List zT)→Option (D×List Ent)) (hk:∀v:(List zT),J (q.g Tryz.prog 93 0 103) c93 (aft c93 932) (St.mk' [(0,sl 8 (Pack.enc false) a1),(1,sl 1 zU a2),(5,rr 0 v),(6,iv s82.2)] [(0,rE 3 zT.enc v)]) (some v) kn):
  ∀s147:((List zT)×Int),J (q.g Tryz.prog 93 0 103) c93 (atI c93 59708) (St.mk' [(0,sl 8 (Pack.enc false) a1),(1,sl 1 zU a2),(5,rr 0 s147.1),(6,iv s82.2),(7,pp 1),(10,iv s147.2)] [(0,rE 3 zT.enc s147.1),(1,.box (Pack.enc false x86))]) (zCt a1 a2 s82 x86 s147) kn:=by
 refine tQ (fun g ih s147=>?_)
 unfold zBU
 refine J_d 238832 [] [78] [(78,bv (decide (s147.2< (x86.Bars.length:Int))))] [] [] zB ?_
 refine zG 78 (fun h148=>?_) (fun h148=>?_)
 ·refine zA (fun x149 h150=>?_)
  refine zA (fun x151 h152=>?_)
  refine zA (fun x153 h154=>?_)
  refine J_d 955336 [] [78,92] [(92,bv x153)] [] [] (zF 5 (vI (kk:=.i64) 75 149 7 Term.enc (.tmp 84) (.tmp 85) h150) (zF 9 (vI (kk:=.i64) 39 2 1 zU (.tmp 88) (.tmp 89) h152) (zF 11 (xC [(.tmp 81),(.tmp 82),(.tmp 87),(.tmp 91)] [30,39,149,2] (zBk.ok a1 a2 x149 x151) h154) zB))) ?_
  refine wH (aft c93 477668) (fun v160:(List zT)=>St.mk' [(0,sl 8 (Pack.enc false) a1),(1,sl 1 zU a2),(5,rr 3 v160),(6,iv s82.2),(7,pp 1),(10,iv s147.2)] [(1,.box (Pack.enc false x86)),(3,rE 3 zT.enc v160)]) (fun v160=>?_) (fun jv160=>?_)
  ·refine J_d 238835 [] [10] [(10,iv (w64 (s147.2+1)))] [] [] zB ?_
   refine zBD 3 0 (Nat.le_of_ble_eq_true rfl) (Nat.le_of_ble_eq_true rfl) ?_
   exact J_q (J_b (ih (v160,w64 (s147.2+1)))) rfl
  ·refine zG 92 (fun h155=>?_) (fun h155=>?_)
   ·refine zA (fun x156 h157=>?_)
    refine zA (fun x158 h159=>?_)
    refine J_d 1910674 [] [5,92] [(5,rr 3 x158)] [0,3] [(3,rE 3 zT.enc x158)] (zF 3 (vI (kk:=.i64) 39 2 1 zU (.tmp 94) (.tmp 95) h157) (zF 7 (zFk 133 199 3 2 zT.enc [({Kind:=3,Pack:=x156,At:=s147.2}:zT)] [0] [(.tmp 99)] [.ag [iv 3,iv x156,iv s147.2]]) (zF 8 (zHR 133 133 199 199 3 24 3 0 2 zT.enc (.tmp 93) (.tmp 100) h159) zB))) ?_
    exact yN (J_j (jv160 x158)) rfl
   ·refine zBD 0 3 (Nat.le_of_ble_eq_true rfl) (Nat.le_of_ble_eq_true rfl) ?_
    exact yN (J_j (jv160 s147.1)) rfl
 ·exact yN (hk s147.1) rfl
theorem zC0.ok (a1:(List Pack)) (a2:(List Int)) (s82:((List zT)×Int)) (x86:Pack) (q:Wd) (kn:(List zT)→Option (D×List Ent)) (hk:∀v:(List zT),J (q.g Tryz.prog 93 0 103) c93 (atI c93 7463) (St.mk' [(0,sl 8 (Pack.enc false) a1),(1,sl 1 zU a2),(5,rr 0 v),(6,iv s82.2),(7,pp 1)] [(0,rE 3 zT.enc v),(1,.box (Pack.enc false x86))]) (some v) kn):
  ∀s121:((List zT)×Int),J (q.g Tryz.prog 93 0 103) c93 (atI c93 59700) (St.mk' [(0,sl 8 (Pack.enc false) a1),(1,sl 1 zU a2),(5,rr 0 s121.1),(6,iv s82.2),(7,pp 1),(9,iv s121.2)] [(0,rE 3 zT.enc s121.1),(1,.box (Pack.enc false x86))]) (zC0 a1 a2 s82 x86 s121) kn:=by
 refine tQ (fun g ih s121=>?_)
 unfold zBW
 refine J_d 238800 [] [53] [(53,bv (decide (s121.2< (x86.Needs.length:Int))))] [] [] zB ?_
 refine zG 53 (fun h122=>?_) (fun h122=>?_)
 ·refine zA (fun x123 h124=>?_)
  refine zA (fun x125 h126=>?_)
  refine J_d 955208 [] [53,64] [(64,bv (!x125))] [] [] (zF 5 (vI (kk:=.i64) 100 75 1 (eSl false 7 Term.enc) (.tmp 59) (.tmp 60) h124) (zF 7 (xC [(.tmp 56),(.tmp 57),(.tmp 62)] [30,39,75] (zFn.ok a1 a2 x123) h126) zB)) ?_
  refine wH (aft c93 477604) (fun v132:(List zT)=>St.mk' [(0,sl 8 (Pack.enc false) a1),(1,sl 1 zU a2),(5,rr 3 v132),(6,iv s82.2),(7,pp 1),(9,iv s121.2)] [(1,.box (Pack.enc false x86)),(3,rE 3 zT.enc v132)]) (fun v132=>?_) (fun jv132=>?_)
  ·refine J_d 238803 [] [9] [(9,iv (w64 (s121.2+1)))] [] [] zB ?_
   refine zBD 3 0 (Nat.le_of_ble_eq_true rfl) (Nat.le_of_ble_eq_true rfl) ?_
   exact J_q (J_b (ih (v132,w64 (s121.2+1)))) rfl
  ·refine zG 64 (fun h127=>?_) (fun h127=>?_)
   ·refine zA (fun x128 h129=>?_)
    refine zA (fun x130 h131=>?_)
    refine J_d 1910418 [] [5,64] [(5,rr 3 x130)] [0,3] [(3,rE 3 zT.enc x130)] (zF 3 (vI (kk:=.i64) 39 2 1 zU (.tmp 66) (.tmp 67) h129) (zF 7 (zFk 133 199 3 2 zT.enc [({Kind:=2,Pack:=x128,At:=s121.2}:zT)] [0] [(.tmp 71)] [.ag [iv 2,iv x128,iv s121.2]]) (zF 8 (zHR 133 133 199 199 3 24 3 0 2 zT.enc (.tmp 65) (.tmp 72) h131) zB))) ?_
    exact yN (J_j (jv132 x130)) rfl
   ·refine zBD 0 3 (Nat.le_of_ble_eq_true rfl) (Nat.le_of_ble_eq_true rfl) ?_
    exact yN (J_j (jv132 s121.1)) rfl
 ·exact yN (hk s121.1) rfl
theorem zAH.ok (a1:(List Pack)) (a2:(List Int)) (s82:((List zT)×Int)) (x86:Pack) (q:Wd) (kn:(List zT)→Option (D×List Ent)) (hk:∀v:(List zT),J (q.g Tryz.prog 93 0 103) c93 (atI c93 3731) (St.mk' [(0,sl 8 (Pack.enc false) a1),(1,sl 1 zU a2),(5,rr 0 v),(6,iv s82.2),(7,pp 1)] [(0,rE 3 zT.enc v),(1,.box (Pack.enc false x86))]) (some v) kn):
  ∀s98:Int,J (q.g Tryz.prog 93 0 103) c93 (atI c93 29844) (St.mk' [(0,sl 8 (Pack.enc false) a1),(1,sl 1 zU a2),(5,rr 0 s82.1),(6,iv s82.2),(7,pp 1),(8,iv s98)] [(0,rE 3 zT.enc s82.1),(1,.box (Pack.enc false x86))]) (zAH a1 a2 s82 x86 s98) kn:=by
 refine tQ (fun g ih s98=>?_)
 unfold zBZ
 refine J_d 119376 [] [27] [(27,bv (decide (s98<s82.2)))] [] [] zB ?_
 refine zG 27 (fun h99=>?_) (fun h99=>?_)
 ·refine zA (fun x100 h101=>?_)
  refine zA (fun x102 h103=>?_)
  refine J_d 477512 [] [27,40] [(40,bv (seq x102.Name x86.Name))] [] [] (zF 3 (vI (kk:=.i64) 39 2 1 zU (.tmp 31) (.tmp 32) h101) (zF 5 (vI (kk:=.i64) 30 102 8 (Pack.enc false) (.tmp 30) (.tmp 34) h103) zB)) ?_
  refine zG 40 (fun h104=>?_) (fun h104=>?_)
  ·refine zA (fun x105 h106=>?_)
   refine zA (fun x107 h108=>?_)
   refine J_d 1910052 [] [5,8,40] [(5,rr 3 x107)] [0,3] [(3,rE 3 zT.enc x107)] (zF 3 (vI (kk:=.i64) 39 2 1 zU (.tmp 42) (.tmp 43) h106) (zF 6 (zFk 133 199 3 2 zT.enc [({Kind:=1,Pack:=x105,At:=0}:zT)] [0] [(.tmp 46)] [.ag [iv 1,iv x105,iv 0]]) (zF 7 (zHR 133 133 199 199 3 24 3 0 2 zT.enc (.tmp 41) (.tmp 47) h108) zB))) ?_
   refine zBD 3 0 (Nat.le_of_ble_eq_true rfl) (Nat.le_of_ble_eq_true rfl) ?_
   exact yN (hk x107) rfl
  ·refine J_d 119379 [] [8,40] [(8,iv (w64 (s98+1)))] [] [] zB ?_
   exact J_q (J_b (ih (w64 (s98+1)))) rfl
 ·exact yN (hk s82.1) rfl
theorem zCs.ok (a1:(List Pack)) (a2:(List Int)) (q:Wd) (kn:(List zT)→Option (D×List Ent)) (hk:∀v:(List zT),J (q.g Tryz.prog 93 0 103) c93 (atI c93 15) (St.mk' [(5,rr 0 v)] [(0,rE 3 zT.enc v)]) (some v) kn):
  ∀s82:((List zT)×Int),J (q.g Tryz.prog 93 0 103) c93 (atI c93 116) (St.mk' [(0,sl 8 (Pack.enc false) a1),(1,sl 1 zU a2),(5,rr 0 s82.1),(6,iv s82.2)] [(0,rE 3 zT.enc s82.1)]) (zCs a1 a2 s82) kn:=by
 refine tQ (fun g ih s82=>?_)
 unfold zBG
 refine J_d 464 [] [15] [(15,bv (decide (s82.2< (a2.length:Int))))] [] [] zB ?_
 refine zG 15 (fun h83=>?_) (fun h83=>?_)
 ·refine zA (fun x84 h85=>?_)
  refine zA (fun x86 h87=>?_)
  refine J_g 1864 [(7,1)] [(0,sl 8 (Pack.enc false) a1),(1,sl 1 zU a2),(5,rr 0 s82.1),(6,iv s82.2),(7,pp 1)] [(0,rE 3 zT.enc s82.1),(1,.box (Pack.enc false x86))] (zF 3 (vI (kk:=.i64) 39 2 1 zU (.tmp 19) (.tmp 20) h85) (zF 5 (vI (kk:=.i64) 30 102 8 (Pack.enc false) (.tmp 18) (.tmp 22) h87) zB)) ?_
  refine J_d 7460 [] [8] [(8,iv 0)] [] [] zB ?_
  refine zFJ (zAH.ok a1 a2 s82 x86 q _ (fun v109=>J_j ?_) 0)
  refine J_d 14924 [] [9] [(9,iv 0)] [] [] zB ?_
  refine zFJ (zC0.ok a1 a2 s82 x86 q _ (fun v133=>J_j ?_) (v109,0))
  refine J_d 14926 [] [10] [(10,iv 0)] [] [] zB ?_
  refine zFJ (zCt.ok a1 a2 s82 x86 q _ (fun v161=>J_j ?_) (v133,0))
  refine J_d 467 [] [6] [(6,iv (w64 (s82.2+1)))] [] [] zB ?_
  exact J_q (J_b (ih (v161,w64 (s82.2+1)))) rfl
 ·exact yN (hk s82.1) rfl
theorem zCh.ok (a1:(List Pack)) (a2:(List Int)):Ok Tryz.prog 93 [sl 8 (Pack.enc false) a1,sl 1 zU a2] [] ((zCh a1 a2).map fun r=>(so 3 zT.enc r,[])):=by
 refine zH c93 Tryz.f93 0 103 (fun q=>?_)
 unfold zCh
 refine J_g 2 [] [(0,sl 8 (Pack.enc false) a1),(1,sl 1 zU a2)] [] zB ?_
 refine J_g 6 [] [(0,sl 8 (Pack.enc false) a1),(1,sl 1 zU a2),(5,rr 0 ([]:List zT))] [(0,rE 3 zT.enc ([]:List zT))] (zF 0 (zFk 133 199 3 0 zT.enc ([]:List zT) [] [] []) zB) ?_
 refine J_d 28 [] [6] [(6,iv 0)] [] [] zB ?_
 refine zFJ (zCs.ok a1 a2 q _ (fun v162=>J_j ?_) (([]:List zT),0))
 refine J_g 30 [] [(4,rr 0 v162)] [(0,rE 3 zT.enc v162)] zB ?_
 exact zBq (ds:=[rr 0 v162]) (ds':=[so 3 zT.enc v162]) (.cons (.cell (.move (.head _) (List.length_map _) (by decide) (.nil))) (.nil) (by decide)) rfl
noncomputable def c44:Code:=(Tryz.f44.body).getD .skip
theorem zDb.ok (a1:(List Pack)) (a2:(List Int)):Ok Tryz.prog 44 [sl 8 (Pack.enc false) a1,sl 1 zU a2] [] ((zDb a1 a2).map fun r=>(bv r,[])):=by
 refine zH c44 Tryz.f44 0 10 (fun q=>?_)
 unfold zDb
 refine J_d 2 [] [] [] [] [] zB ?_
 refine zA (fun x3 h4=>?_)
 refine J_g 6 [] [(4,bv ((x3.length:Int)==0))] [] (zF 2 (vQ («as»:=[sl 8 (Pack.enc false) a1,sl 1 zU a2]) [(.tmp 5),(.tmp 6)] [30,39] false [] [] (.cons (.same rfl) (.cons (.same rfl) (.nil))) (zCh.ok a1 a2) h4 (.own 0)) zB) ?_
 exact zM rfl
noncomputable def zUn:Code:=(Tryz.f169.body).getD .skip
theorem xX.ok (a1:Version):Ok Tryz.prog 169 [.ag (Version.enc a1)] [] ((xX a1).map fun r=>(sv r,[])):=by
 refine zH zUn Tryz.f169 0 19 (fun q=>?_)
 unfold xX
 refine J_g 2 [(0,0)] [(1,pp 0)] [(0,.box (Version.enc a1))] zB ?_
 refine zA (fun x2 h3=>?_)
 refine J_d 12 [] [5] [(5,bv (x2 !=0))] [] [] (zF 1 (xC [(.tmp 3)] [99] (wJ.ok a1) h3) zB) ?_
 refine zG 5 (fun h4=>?_) (fun h4=>?_)
 ·refine J_g 52 [] [(2,sv (bs []))] [] zB ?_
  exact zM rfl
 ·refine zA (fun x5 h6=>?_)
  refine zA (fun x7 h8=>?_)
  refine zA (fun x9 h10=>?_)
  refine zA (fun x11 h12=>?_)
  refine zA (fun x13 h14=>?_)
  refine zA (fun x15 h16=>?_)
  refine zA (fun x17 h18=>?_)
  refine J_g 14 [] [(2,sv x17)] [] (zF 2 (xC [(.tmp 7)] [2] (vB.ok a1.A) h6) (zF 3 (zEf 9 9 (.tmp 8) (.const (.string (bs [46]))) h8) (zF 6 (xC [(.tmp 11)] [2] (vB.ok a1.B) h10) (zF 7 (zEf 9 9 (.tmp 9) (.tmp 12) h12) (zF 8 (zEf 9 9 (.tmp 13) (.const (.string (bs [46]))) h14) (zF 11 (xC [(.tmp 16)] [2] (vB.ok a1.C) h16) (zF 12 (zEf 9 9 (.tmp 14) (.tmp 17) h18) zB))))))) ?_
  exact zM rfl
noncomputable def c94:Code:=(Tryz.f94.body).getD .skip
theorem zEL.ok (a1:Pack):Ok Tryz.prog 94 [.ag (Pack.enc false a1)] [] ((zEL a1).map fun r=>(sv r,[])):=by
 refine zH c94 Tryz.f94 0 11 (fun q=>?_)
 unfold zEL
 refine J_g 2 [(0,0)] [(1,pp 0)] [(0,.box (Pack.enc false a1))] zB ?_
 refine zA (fun x2 h3=>?_)
 refine zA (fun x4 h5=>?_)
 refine zA (fun x6 h7=>?_)
 refine zA (fun x8 h9=>?_)
 refine J_g 6 [] [(2,sv x8)] [] (zF 2 (zEf 9 9 (.const (.string (bs [112,107,103,47]))) (.tmp 4) h3) (zF 3 (zEf 9 9 (.tmp 5) (.const (.string (bs [45]))) h5) (zF 6 (xC [(.tmp 8)] [99] (xX.ok a1.Version) h7) (zF 7 (zEf 9 9 (.tmp 6) (.tmp 9) h9) zB)))) ?_
 exact zM rfl
noncomputable def c96:Code:=(Tryz.f96.body).getD .skip
theorem zD3.ok (a1:Pack) (q:Wd) (kn:(List Int)→Option (D×List Ent)) (hk:∀v:(List Int),J (q.g Tryz.prog 96 0 50) c96 (atI c96 63) (St.mk' [(5,rr 1 v)] [(1,rE 1 eU8 v)]) (some v) kn):
  ∀s13:(Int×(List Int)×Int),J (q.g Tryz.prog 96 0 50) c96 (atI c96 500) (St.mk' [(1,pp 0),(3,iv s13.1),(5,rr 1 s13.2.1),(6,iv s13.2.2)] [(0,.box (Pack.enc false a1)),(1,rE 1 eU8 s13.2.1)]) (zD3 a1 s13) kn:=by
 refine tQ (fun g ih s13=>?_)
 unfold zC3
 refine J_d 2000 [] [36] [(36,bv (decide (s13.2.2<a1.Size)))] [] [] zB ?_
 refine zG 36 (fun h14=>?_) (fun h14=>?_)
 ·refine J_d 8008 [] [3,36] [(3,iv (s13.1.tmod 256))] [] [] zB ?_
  refine zA (fun x15 h16=>?_)
  refine J_g 16018 [] [(1,pp 0),(3,iv (s13.1.tmod 256)),(5,rr 3 x15),(6,iv s13.2.2)] [(0,.box (Pack.enc false a1)),(3,rE 1 eU8 x15)] (zF 3 (zFk 121 5 1 2 eU8 [IntKind.u8.wrap (s13.1.tmod 256)] [0] [(.tmp 43)] [uv (IntKind.u8.wrap (s13.1.tmod 256))]) (zF 4 (zHR 121 121 5 5 1 1 3 1 2 eU8 (.tmp 41) (.tmp 44) h16) zB)) ?_
  refine J_g 16019 [] [(1,pp 0),(3,iv (w64 ((w64 (31*(s13.1.tmod 256)))+7))),(5,rr 3 x15),(6,iv s13.2.2)] [(0,.box (Pack.enc false a1)),(3,rE 1 eU8 x15)] zB ?_
  refine J_d 2003 [] [6] [(6,iv (w64 (s13.2.2+1)))] [] [] zB ?_
  refine zBD 3 1 (Nat.le_of_ble_eq_true rfl) (Nat.le_of_ble_eq_true rfl) ?_
  exact J_q (J_b (ih (w64 ((w64 (31*(s13.1.tmod 256)))+7),x15,w64 (s13.2.2+1)))) rfl
 ·exact yN (hk s13.2.1) rfl
theorem zDI.ok (a1:Pack) (q:Wd) (kn:Int→Option (D×List Ent)) (hk:∀v:Int,J (q.g Tryz.prog 96 0 50) c96 (atI c96 15) (St.mk' [(1,pp 0),(3,iv v)] [(0,.box (Pack.enc false a1))]) (some v) kn):
  ∀s5:(Int×Int),J (q.g Tryz.prog 96 0 50) c96 (atI c96 116) (St.mk' [(1,pp 0),(3,iv s5.1),(4,iv s5.2)] [(0,.box (Pack.enc false a1))]) (zDI a1 s5) kn:=by
 refine tQ (fun g ih s5=>?_)
 unfold zCB
 refine J_d 464 [] [22] [(22,bv (decide (s5.2< (a1.Name.size:Int))))] [] [] zB ?_
 refine zG 22 (fun h6=>?_) (fun h6=>?_)
 ·refine zA (fun x7 h8=>?_)
  refine J_g 932 [] [(1,pp 0),(3,iv (w64 (s5.1+(w64 (x7))))),(4,iv s5.2)] [(0,.box (Pack.enc false a1))] (zF 4 (zJL (kk:=.i64) 9 (.tmp 27) (.tmp 28) h8) zB) ?_
  refine J_d 467 [] [4] [(4,iv (w64 (s5.2+1)))] [] [] zB ?_
  exact J_q (J_b (ih (w64 (s5.1+(w64 (x7))),w64 (s5.2+1)))) rfl
 ·exact yN (hk s5.1) rfl
theorem zDy.ok (a1:Pack):Ok Tryz.prog 96 [.ag (Pack.enc false a1)] [] ((zDy a1).map fun r=>(so 1 eU8 r,[])):=by
 refine zH c96 Tryz.f96 0 50 (fun q=>?_)
 unfold zDy
 refine J_g 2 [(0,0)] [(1,pp 0)] [(0,.box (Pack.enc false a1))] zB ?_
 refine J_g 6 [] [(1,pp 0),(3,iv (w64 ((w64 (a1.Version.A+a1.Version.B))+a1.Version.C)))] [(0,.box (Pack.enc false a1))] zB ?_
 refine J_d 28 [] [4] [(4,iv 0)] [] [] zB ?_
 refine zFJ (zDI.ok a1 q _ (fun v9=>J_j ?_) (w64 ((w64 (a1.Version.A+a1.Version.B))+a1.Version.C),0))
 refine J_g 30 [] [(1,pp 0),(3,iv v9),(5,rr 1 ([]:List Int))] [(0,.box (Pack.enc false a1)),(1,rE 1 eU8 ([]:List Int))] (zF 0 (zFk 121 5 1 1 eU8 ([]:List Int) [] [] []) zB) ?_
 refine J_d 124 [] [6] [(6,iv 0)] [] [] zB ?_
 refine zFJ (zD3.ok a1 q _ (fun v17=>J_j ?_) (v9,([]:List Int),0))
 refine J_g 126 [] [(2,rr 1 v17)] [(1,rE 1 eU8 v17)] zB ?_
 exact zBq (ds:=[rr 1 v17]) (ds':=[so 1 eU8 v17]) (.cons (.cell (.move (.head _) (List.length_map _) (by decide) (.nil))) (.nil) (by decide)) rfl
noncomputable def c95:Code:=(Tryz.f95.body).getD .skip
theorem zFs.ok (a1:(List Int)) (a2:(List Int)):Ok Tryz.prog 95 [sl 1 eU8 a1,sl 1 eU8 a2] [] ((zFs a1 a2).map fun r=>(bv r,[])):=by
 refine zH c95 Tryz.f95 0 10 (fun q=>?_)
 unfold zFs
 refine J_g 2 [] [(0,sl 1 eU8 a1),(1,sl 1 eU8 a2)] [] zB ?_
 refine J_g 6 [] [(4,bv (seq (b2s a1) (b2s a2)))] [] (zF 1 (zL2 (xs:=a1) 121 9 5 (.tmp 5)) (zF 3 (zL2 (xs:=a2) 121 9 5 (.tmp 7)) zB)) ?_
 exact zM rfl
noncomputable def c45:Code:=(Tryz.f45.body).getD .skip
theorem zCc.ok (a1:(List Pack)) (a2:zD) (a3:(List Int)) (q:Wd) (kn:(List Int)→Option (D×List Ent)) (hk:∀v:(List Int),J (q.g Tryz.prog 45 0 57) c45 (atI c45 15) (St.mk' [(7,rr 0 v)] [(0,rE 1 zU v)]) (some v) kn):
  ∀s31:((List Int)×Int),J (q.g Tryz.prog 45 0 57) c45 (atI c45 116) (St.mk' [(0,sl 8 (Pack.enc false) a1),(1,.pb [sl 2 (File.enc false) a2.Files,iv a2.Budget,iv a2.Writes,iv a2.Stop,bv a2.Down]),(2,sl 1 zU a3),(7,rr 0 s31.1),(8,iv s31.2)] [(0,rE 1 zU s31.1)]) (zCc a1 a2 a3 s31) kn:=by
 refine tQ (fun g ih s31=>?_)
 unfold zAT
 refine J_d 464 [] [14] [(14,bv (decide (s31.2< (a3.length:Int))))] [] [] zB ?_
 refine zG 14 (fun h32=>?_) (fun h32=>?_)
 ·refine zA (fun x33 h34=>?_)
  refine zA (fun x35 h36=>?_)
  refine zA (fun x37 h38=>?_)
  refine zA (fun x39 h40=>?_)
  refine J_d 1864 [] [9,14] [(9,iv x39)] [] [] (zF 4 (vI (kk:=.i64) 39 2 1 zU (.tmp 19) (.tmp 20) h34) (zF 6 (vI (kk:=.i64) 30 102 8 (Pack.enc false) (.tmp 18) (.tmp 22) h36) (zF 8 (xC [(.tmp 24)] [102] (zEL.ok x35) h38) (zF 9 (vQ («as»:=[.pb [sl 2 (File.enc false) a2.Files,iv a2.Budget,iv a2.Writes,iv a2.Stop,bv a2.Down],sv x37]) [(.tmp 17),(.tmp 25)] [72,9] false [] [] (.cons (.pb (.cons (.same rfl) (.cons (.same rfl) (.cons (.same rfl) (.cons (.same rfl) (.cons (.same rfl) (.nil))))))) (.cons (.same rfl) (.nil))) (wQ.ok a2 x37) h40 (.same rfl rfl)) zB)))) ?_
  refine wH (atI c45 3731) (fun v52:Bool=>St.mk' [(0,sl 8 (Pack.enc false) a1),(1,.pb [sl 2 (File.enc false) a2.Files,iv a2.Budget,iv a2.Writes,iv a2.Stop,bv a2.Down]),(2,sl 1 zU a3),(7,rr 0 s31.1),(8,iv s31.2),(48,bv v52)] [(0,rE 1 zU s31.1)]) (fun v52=>?_) (fun jv52=>?_)
  ·refine wH (aft c45 932) (fun v58:(List Int)=>St.mk' [(0,sl 8 (Pack.enc false) a1),(1,.pb [sl 2 (File.enc false) a2.Files,iv a2.Budget,iv a2.Writes,iv a2.Stop,bv a2.Down]),(2,sl 1 zU a3),(7,rr 2 v58),(8,iv s31.2)] [(2,rE 1 zU v58)]) (fun v58=>?_) (fun jv58=>?_)
   ·refine J_d 467 [] [8] [(8,iv (w64 (s31.2+1)))] [] [] zB ?_
    refine zBD 2 0 (Nat.le_of_ble_eq_true rfl) (Nat.le_of_ble_eq_true rfl) ?_
    exact J_q (J_b (ih (v58,w64 (s31.2+1)))) rfl
   ·refine zG 48 (fun h53=>?_) (fun h53=>?_)
    ·refine zA (fun x54 h55=>?_)
     refine zA (fun x56 h57=>?_)
     refine J_d 7462 [] [7,48] [(7,rr 2 x56)] [0,2] [(2,rE 1 zU x56)] (zF 3 (vI (kk:=.i64) 39 2 1 zU (.tmp 50) (.tmp 51) h55) (zF 5 (zFk 39 2 1 1 zU [x54] [0] [(.tmp 53)] [iv x54]) (zF 6 (zHR 39 39 2 2 1 8 2 0 1 zU (.tmp 49) (.tmp 54) h57) zB))) ?_
     exact yN (J_j (jv58 x56)) rfl
    ·refine zBD 0 2 (Nat.le_of_ble_eq_true rfl) (Nat.le_of_ble_eq_true rfl) ?_
     exact yN (J_j (jv58 s31.1)) rfl
  ·refine wT (fun h41=>?_) (fun h41=>?_)
   ·refine J_d 3730 [] [9,48] [(48,bv true)] [] [] (wE 2 [(28,bv (decide (x39<0)))] [] h41 zB) ?_
    exact yN (J_j (jv52 true)) rfl
   ·refine zA (fun x42 h43=>?_)
    refine zA (fun x44 h45=>?_)
    refine zA (fun x46 h47=>?_)
    refine zA (fun x48 h49=>?_)
    refine zA (fun x50 h51=>?_)
    refine J_d 3730 [] [9,48] [(48,bv (!x50))] [] [] (wE 2 [(28,bv (decide (x39<0)))] [] h41 (zBr 4 2 29 false (zGq (.tmp 30) [sl 2 (File.enc false) a2.Files,iv a2.Budget,iv a2.Writes,iv a2.Stop,bv a2.Down]) (zBr 5 2 29 false (zFl 33 (.tmp 31) 0 0 1 [sl 2 (File.enc false) a2.Files,iv a2.Budget,iv a2.Writes,iv a2.Stop,bv a2.Down]) (zBr 6 2 29 false (zFB (d:=sl 2 (File.enc false) a2.Files) 31 (.tmp 32) [sl 2 (File.enc false) a2.Files]) (zBr 8 2 29 false (vI (kk:=.i64) 31 138 2 (File.enc false) (.tmp 33) (.tmp 34) h43) (zBr 14 2 29 false (vI (kk:=.i64) 39 2 1 zU (.tmp 39) (.tmp 40) h45) (zBr 16 2 29 false (vI (kk:=.i64) 30 102 8 (Pack.enc false) (.tmp 38) (.tmp 42) h47) (zBr 18 2 29 false (vQ («as»:=[.ag (Pack.enc false x46)]) [(.tmp 44)] [102] false [] [] (.cons (.same rfl) (.nil)) (zDy.ok x46) h49 (.own 1)) (zBr 19 2 29 false (vQ («as»:=[sl 1 eU8 x42.Data,rr 1 x48]) [(.tmp 37),(.tmp 45)] [121,121] true [(1,rE 1 eU8 x48)] [] (.cons (.same rfl) (.cons (zFE (.head _) (fun _=>rfl) rfl) (.nil))) (zFs.ok x42.Data x48) h51 (.same rfl rfl) (hbor:=fun _=>⟨fhN,zQ⟩)) zB))))))))) ?_
    exact yN (J_j (jv52 (!x50))) rfl
 ·exact yN (hk s31.1) rfl
theorem zBz.ok (a1:(List Pack)) (a2:zD) (a3:(List Int)):Ok Tryz.prog 45 [sl 8 (Pack.enc false) a1,.pb [sl 2 (File.enc false) a2.Files,iv a2.Budget,iv a2.Writes,iv a2.Stop,bv a2.Down],sl 1 zU a3] [] ((zBz a1 a2 a3).map fun r=>(so 1 zU r,[])):=by
 refine zH c45 Tryz.f45 0 57 (fun q=>?_)
 unfold zBz
 refine J_g 2 [] [(0,sl 8 (Pack.enc false) a1),(1,.pb [sl 2 (File.enc false) a2.Files,iv a2.Budget,iv a2.Writes,iv a2.Stop,bv a2.Down]),(2,sl 1 zU a3)] [] zB ?_
 refine J_g 6 [] [(0,sl 8 (Pack.enc false) a1),(1,.pb [sl 2 (File.enc false) a2.Files,iv a2.Budget,iv a2.Writes,iv a2.Stop,bv a2.Down]),(2,sl 1 zU a3),(7,rr 0 ([]:List Int))] [(0,rE 1 zU ([]:List Int))] (zF 0 (zFk 39 2 1 0 zU ([]:List Int) [] [] []) zB) ?_
 refine J_d 28 [] [8] [(8,iv 0)] [] [] zB ?_
 refine zFJ (zCc.ok a1 a2 a3 q _ (fun v59=>J_j ?_) (([]:List Int),0))
 refine J_g 30 [] [(6,rr 0 v59)] [(0,rE 1 zU v59)] zB ?_
 exact zBq (ds:=[rr 0 v59]) (ds':=[so 1 zU v59]) (.cons (.cell (.move (.head _) (List.length_map _) (by decide) (.nil))) (.nil) (by decide)) rfl
noncomputable def zUi:Code:=(Tryz.f237.body).getD .skip
theorem zET.ok (a1:ByteArray):Ok Tryz.prog 237 [sv a1] [] ((zET a1).map fun r=>(.ag (Term.enc r),[])):=by
 refine zH zUi Tryz.f237 0 6 (fun q=>?_)
 unfold zET
 refine J_g 2 [(0,0)] [(0,sv a1),(2,pp 0)] [(0,.box [sv ByteArray.empty,iv 0,iv 0,iv 0,iv 0,iv 0,iv 0])] zB ?_
 refine zA (fun x2 h3=>?_)
 refine J_g 6 [] [(2,pp 0)] [(0,.box [sv a1,iv 0,iv 0,iv 0,iv x2.A,iv x2.B,iv x2.C])] (zF 1 (xC [] [] (zAe.ok) h3) zB) ?_
 exact zM rfl
noncomputable def c171:Code:=(Tryz.f171.body).getD .skip
theorem zAd.ok (x20:Term) (x25:ByteArray) (q:Wd) (kn:Int→Option (D×List Ent)) (hk:∀v:Int,J (q.g Tryz.prog 171 0 97) c171 (atI c171 1023) (St.mk' [(2,pp 0),(4,pp 1),(5,sv x25),(7,iv v)] [(0,.box [iv 0,sv ByteArray.empty,iv 0,iv 0,iv 0,iv 0,iv 0,iv 0]),(1,.box (Term.enc x20))]) (some v) kn):
  ∀s32:Int,J (q.g Tryz.prog 171 0 97) c171 (atI c171 4088) (St.mk' [(2,pp 0),(4,pp 1),(5,sv x25),(7,iv s32)] [(0,.box [iv 0,sv ByteArray.empty,iv 0,iv 0,iv 0,iv 0,iv 0,iv 0]),(1,.box (Term.enc x20))]) (zAd x20 x25 s32) kn:=by
 refine tQ (fun g ih s32=>?_)
 unfold zCJ
 refine wH (atI c171 16353) (fun v36:Bool=>St.mk' [(2,pp 0),(4,pp 1),(5,sv x25),(7,iv s32),(45,bv v36)] [(0,.box [iv 0,sv ByteArray.empty,iv 0,iv 0,iv 0,iv 0,iv 0,iv 0]),(1,.box (Term.enc x20))]) (fun v36=>?_) (fun jv36=>?_)
 ·refine zG 45 (fun h37=>?_) (fun h37=>?_)
  ·refine J_d 16354 [] [7,45] [(7,iv (w64 (s32+1)))] [] [] zB ?_
   exact J_q (J_b (ih (w64 (s32+1)))) rfl
  ·exact yN (hk s32) rfl
 ·refine wT (fun h33=>?_) (fun h33=>?_)
  ·refine zA (fun x34 h35=>?_)
   refine J_d 16352 [] [45] [(45,bv (x34 !=60))] [] [] (wE 4 [(39,bv (decide (s32< (x25.size:Int))))] [] h33 (zBr 7 4 40 true (zJL (kk:=.i64) 9 (.tmp 41) (.tmp 42) h35) zB)) ?_
   exact yN (J_j (jv36 (x34 !=60))) rfl
  ·refine J_d 16352 [] [45] [(45,bv false)] [] [] (wE 4 [(39,bv (decide (s32< (x25.size:Int))))] [] h33 zB) ?_
   exact yN (J_j (jv36 false)) rfl
theorem zAh.ok (a1:ByteArray) (q:Wd) (kn:Int→Option (D×List Ent)) (hk:∀v:Int,J (q.g Tryz.prog 171 0 97) c171 (atI c171 15) (St.mk' [(0,sv a1),(2,pp 0),(3,iv v)] [(0,.box [iv 0,sv ByteArray.empty,iv 0,iv 0,iv 0,iv 0,iv 0,iv 0])]) (some v) kn):
  ∀s9:Int,J (q.g Tryz.prog 171 0 97) c171 (atI c171 56) (St.mk' [(0,sv a1),(2,pp 0),(3,iv s9)] [(0,.box [iv 0,sv ByteArray.empty,iv 0,iv 0,iv 0,iv 0,iv 0,iv 0])]) (zAh a1 s9) kn:=by
 refine tQ (fun g ih s9=>?_)
 unfold zCO
 refine wH (atI c171 225) (fun v15:Bool=>St.mk' [(0,sv a1),(2,pp 0),(3,iv s9),(21,bv v15)] [(0,.box [iv 0,sv ByteArray.empty,iv 0,iv 0,iv 0,iv 0,iv 0,iv 0])]) (fun v15=>?_) (fun jv15=>?_)
 ·refine zG 21 (fun h16=>?_) (fun h16=>?_)
  ·refine J_d 226 [] [3,21] [(3,iv (w64 (s9+1)))] [] [] zB ?_
   exact J_q (J_b (ih (w64 (s9+1)))) rfl
  ·exact yN (hk s9) rfl
 ·refine wT (fun h10=>?_) (fun h10=>?_)
  ·refine zA (fun x11 h12=>?_)
   refine zA (fun x13 h14=>?_)
   refine J_d 224 [] [21] [(21,bv x13)] [] [] (wE 4 [(15,bv (decide (s9< (a1.size:Int))))] [] h10 (zBr 7 4 16 true (zJL (kk:=.i64) 9 (.tmp 17) (.tmp 18) h12) (zBr 8 4 16 true (xC [(.tmp 19)] [5] (vO.ok x11) h14) zB))) ?_
   exact yN (J_j (jv15 x13)) rfl
  ·refine J_d 224 [] [21] [(21,bv false)] [] [] (wE 4 [(15,bv (decide (s9< (a1.size:Int))))] [] h10 zB) ?_
   exact yN (J_j (jv15 false)) rfl
theorem zB6.ok (a1:ByteArray):Ok Tryz.prog 171 [sv a1] [] ((zB6 a1).map fun r=>(.ag (xL.enc r),[])):=by
 refine zH c171 Tryz.f171 0 97 (fun q=>?_)
 unfold zB6
 refine J_g 2 [(0,0)] [(0,sv a1),(2,pp 0)] [(0,.box [iv 0,sv ByteArray.empty,iv 0,iv 0,iv 0,iv 0,iv 0,iv 0])] zB ?_
 refine J_d 6 [] [3] [(3,iv 0)] [] [] zB ?_
 refine zFJ (zAh.ok a1 q _ (fun v17=>J_j ?_) 0)
 refine zA (fun x18 h19=>?_)
 refine zA (fun x20 h21=>?_)
 refine J_d 30 [(4,1)] [4] [(4,pp 1)] [1] [(1,.box (Term.enc x20))] (zF 2 (zLK 9 (.tmp 24) none (some (.tmp 25)) h19) (zF 3 (xC [(.tmp 26)] [9] (zET.ok x18) h21) zB)) ?_
 refine zA (fun x22 h23=>?_)
 refine J_d 124 [] [31] [(31,bv (x22 !=0))] [] [] (zF 2 (xC [(.tmp 29)] [9] (vD.ok x20.Name) h23) zB) ?_
 refine zG 31 (fun h24=>?_) (fun h24=>?_)
 ·refine J_g 500 [] [(2,pp 0)] [(0,.box [iv 5,sv ByteArray.empty,iv 0,iv 0,iv 0,iv 0,iv 0,iv 0])] zB ?_
  exact zM rfl
 ·refine zA (fun x25 h26=>?_)
  refine J_g 126 [] [(2,pp 0),(4,pp 1),(5,sv x25)] [(0,.box [iv 0,sv ByteArray.empty,iv 0,iv 0,iv 0,iv 0,iv 0,iv 0]),(1,.box (Term.enc x20))] (zF 2 (zLK 9 (.tmp 33) (some (.tmp 34)) none h26) zB) ?_
  refine J_g 254 [] [(2,pp 0),(4,pp 1),(5,sv x25)] [(0,.box [iv 0,sv ByteArray.empty,iv 0,iv 0,iv 0,iv 0,iv 0,iv 0]),(1,.box (Term.enc x20))] zB ?_
  refine J_d 510 [] [7] [(7,iv 0)] [] [] zB ?_
  refine zFJ (zAd.ok x20 x25 q _ (fun v38=>J_j ?_) 0)
  refine J_d 4092 [] [51] [(51,bv (decide (v38< (x25.size:Int))))] [] [] zB ?_
  refine zKz (atI c171 2047) (fun v45:(Int×Int×Int)=>St.mk' [(2,pp 0),(4,pp 1),(5,sv x25),(7,iv v38)] [(0,.box [iv 0,sv ByteArray.empty,iv 0,iv 0,iv 0,iv 0,iv 0,iv 0]),(1,.box [sv x20.Name,iv x20.Low.A,iv x20.Low.B,iv x20.Low.C,iv v45.1,iv v45.2.1,iv v45.2.2])]) (fun v45=>?_) (fun jv45=>?_)
  ·refine zA (fun x46 h47=>?_)
   refine J_g 4094 [] [(2,pp 0),(4,pp 1),(9,sv x46)] [(0,.box [iv 0,sv ByteArray.empty,iv 0,iv 0,iv 0,iv 0,iv 0,iv 0]),(1,.box [sv x20.Name,iv x20.Low.A,iv x20.Low.B,iv x20.Low.C,iv v45.1,iv v45.2.1,iv v45.2.2])] (zF 2 (zLK 9 (.tmp 65) none (some (.tmp 66)) h47) zB) ?_
   refine J_d 16380 [] [69] [(69,bv (!(seq x46 (bs []))))] [] [] zB ?_
   refine zKz (atI c171 8191) (fun v59:(Int×Int×Int)=>St.mk' [(2,pp 0),(4,pp 1)] [(0,.box [iv 0,sv ByteArray.empty,iv 0,iv 0,iv 0,iv 0,iv 0,iv 0]),(1,.box [sv x20.Name,iv v59.1,iv v59.2.1,iv v59.2.2,iv v45.1,iv v45.2.1,iv v45.2.2])]) (fun v59=>?_) (fun jv59=>?_)
   ·refine zA (fun x60 h61=>?_)
    refine J_g 32764 [] [(2,pp 0),(4,pp 1),(11,iv x60)] [(0,.box [iv 0,sv ByteArray.empty,iv 0,iv 0,iv 0,iv 0,iv 0,iv 0]),(1,.box [sv x20.Name,iv v59.1,iv v59.2.1,iv v59.2.2,iv v45.1,iv v45.2.1,iv v45.2.2])] (zF 1 (xC [(.tmp 89)] [149] (vU.ok ({Name:=x20.Name,Low:=({A:=v59.1,B:=v59.2.1,C:=v59.2.2}:Version),High:=({A:=v45.1,B:=v45.2.1,C:=v45.2.2}:Version)}:Term)) h61) zB) ?_
    refine J_d 65530 [] [92] [(92,bv (x60 !=0))] [] [] zB ?_
    refine zG 92 (fun h62=>?_) (fun h62=>?_)
    ·refine J_g 262124 [] [(2,pp 0)] [(0,.box [iv x60,sv ByteArray.empty,iv 0,iv 0,iv 0,iv 0,iv 0,iv 0])] zB ?_
     exact zM rfl
    ·refine J_g 32766 [] [(2,pp 0)] [(0,.box [iv 0,sv x20.Name,iv v59.1,iv v59.2.1,iv v59.2.2,iv v45.1,iv v45.2.1,iv v45.2.2])] zB ?_
     exact zM rfl
   ·refine zG 69 (fun h48=>?_) (fun h48=>?_)
    ·refine wH (atI c171 131049) (fun v52:Bool=>St.mk' [(2,pp 0),(4,pp 1),(9,sv x46),(77,bv v52)] [(0,.box [iv 0,sv ByteArray.empty,iv 0,iv 0,iv 0,iv 0,iv 0,iv 0]),(1,.box [sv x20.Name,iv x20.Low.A,iv x20.Low.B,iv x20.Low.C,iv v45.1,iv v45.2.1,iv v45.2.2])]) (fun v52=>?_) (fun jv52=>?_)
     ·refine zG 77 (fun h53=>?_) (fun h53=>?_)
      ·refine J_g 524196 [] [(2,pp 0)] [(0,.box [iv 5,sv ByteArray.empty,iv 0,iv 0,iv 0,iv 0,iv 0,iv 0])] zB ?_
       exact zM rfl
      ·refine zA (fun x54 h55=>?_)
       refine zA (fun x56 h57=>?_)
       refine J_g 131050 [(3,2)] [(2,pp 0),(4,pp 1),(10,pp 2)] [(0,.box [iv 0,sv ByteArray.empty,iv 0,iv 0,iv 0,iv 0,iv 0,iv 0]),(1,.box [sv x20.Name,iv x20.Low.A,iv x20.Low.B,iv x20.Low.C,iv v45.1,iv v45.2.1,iv v45.2.2]),(2,.box (zN.enc x56))] (zF 1 (zLK 9 (.tmp 79) (some (.const (.int .i64 2))) none h55) (zF 2 (xC [(.tmp 80)] [9] (xW.ok x54) h57) zB)) ?_
       refine J_d 524204 [] [84] [(84,bv (x56.Code !=0))] [] [] zB ?_
       refine zG 84 (fun h58=>?_) (fun h58=>?_)
       ·refine J_g 2096820 [] [(2,pp 0)] [(0,.box [iv 5,sv ByteArray.empty,iv 0,iv 0,iv 0,iv 0,iv 0,iv 0])] zB ?_
        exact zM rfl
       ·refine J_d 262103 [] [10,84] [] [1,2] [(1,.box [sv x20.Name,iv x56.Version.A,iv x56.Version.B,iv x56.Version.C,iv v45.1,iv v45.2.1,iv v45.2.2])] zB ?_
        exact yN (J_j (jv59 (x56.Version.A,x56.Version.B,x56.Version.C))) rfl
     ·refine wT (fun h49=>?_) (fun h49=>?_)
      ·refine J_d 131048 [] [69,77] [(77,bv true)] [] [] (wE 3 [(72,bv (decide ((x46.size:Int)<2)))] [] h49 zB) ?_
       exact yN (J_j (jv52 true)) rfl
      ·refine zA (fun x50 h51=>?_)
       refine J_d 131048 [] [69,77] [(77,bv (!(seq x50 (bs [62,61]))))] [] [] (wE 3 [(72,bv (decide ((x46.size:Int)<2)))] [] h49 (zBr 5 3 73 false (zLK 9 (.tmp 74) none (some (.const (.int .i64 2))) h51) zB)) ?_
       exact yN (J_j (jv52 (!(seq x50 (bs [62,61]))))) rfl
    ·exact yN (J_j (jv59 (x20.Low.A,x20.Low.B,x20.Low.C))) rfl
  ·refine zG 51 (fun h39=>?_) (fun h39=>?_)
   ·refine zA (fun x40 h41=>?_)
    refine J_d 16372 [] [6,51] [(6,sv x40)] [] [] (zF 3 (zLK 9 (.tmp 52) (some (.tmp 54)) none h41) zB) ?_
    refine zA (fun x42 h43=>?_)
    refine J_g 32746 [(2,2)] [(2,pp 0),(4,pp 1),(5,sv x25),(7,iv v38),(8,pp 2)] [(0,.box [iv 0,sv ByteArray.empty,iv 0,iv 0,iv 0,iv 0,iv 0,iv 0]),(1,.box (Term.enc x20)),(2,.box (zN.enc x42))] (zF 1 (xC [(.tmp 56)] [9] (xW.ok x40) h43) zB) ?_
    refine J_d 130988 [] [60] [(60,bv (x42.Code !=0))] [] [] zB ?_
    refine zG 60 (fun h44=>?_) (fun h44=>?_)
    ·refine J_g 523956 [] [(2,pp 0)] [(0,.box [iv 5,sv ByteArray.empty,iv 0,iv 0,iv 0,iv 0,iv 0,iv 0])] zB ?_
     exact zM rfl
    ·refine J_d 65495 [] [8,60] [] [1,2] [(1,.box [sv x20.Name,iv x20.Low.A,iv x20.Low.B,iv x20.Low.C,iv x42.Version.A,iv x42.Version.B,iv x42.Version.C])] zB ?_
     exact yN (J_j (jv45 (x42.Version.A,x42.Version.B,x42.Version.C))) rfl
   ·exact yN (J_j (jv45 (x20.High.A,x20.High.B,x20.High.C))) rfl
noncomputable def zTg:Code:=(Tryz.f239.body).getD .skip
theorem zAy.ok (a1:Term):Ok Tryz.prog 239 [.ag (Term.enc a1)] [] ((zAy a1).map fun r=>(sv r,[])):=by
 refine zH zTg Tryz.f239 0 31 (fun q=>?_)
 unfold zAy
 refine J_g 2 [(0,0)] [(1,pp 0)] [(0,.box (Term.enc a1))] zB ?_
 refine zA (fun x2 h3=>?_)
 refine J_d 12 [] [6] [(6,bv (x2 !=0))] [] [] (zF 1 (xC [(.tmp 4)] [149] (vU.ok a1) h3) zB) ?_
 refine zG 6 (fun h4=>?_) (fun h4=>?_)
 ·refine J_g 52 [] [(2,sv (bs []))] [] zB ?_
  exact zM rfl
 ·refine J_d 14 [] [3,6] [(3,sv a1.Name)] [] [] zB ?_
  refine zA (fun x5 h6=>?_)
  refine J_d 60 [] [13] [(13,bv (x5 !=0))] [] [] (zF 3 (xC [(.tmp 10),(.tmp 11)] [99,99] (yF.ok a1.Low ({A:=0,B:=0,C:=0}:Version)) h6) zB) ?_
  refine wH (atI zTg 31) (fun v14:ByteArray=>St.mk' [(1,pp 0),(3,sv v14)] [(0,.box (Term.enc a1))]) (fun v14=>?_) (fun jv14=>?_)
  ·refine zA (fun x15 h16=>?_)
   refine J_d 124 [] [23] [(23,bv (!(a1.High.A==x15.A&&(a1.High.B==x15.B&&(a1.High.C==x15.C&&true)))))] [] [] (zF 2 (xC [] [] (zAe.ok) h16) (zF 3 (zLk (b:=.neq) (r:=(a1.High.A==x15.A&&(a1.High.B==x15.B&&(a1.High.C==x15.C&&true)))) 99 99 (.tmp 21) (.tmp 22) [.int .i64 a1.High.A,.int .i64 a1.High.B,.int .i64 a1.High.C] [.int .i64 x15.A,.int .i64 x15.B,.int .i64 x15.C] (.inr ⟨rfl,rfl⟩)) zB)) ?_
   refine wH (atI zTg 63) (fun v24:ByteArray=>St.mk' [(3,sv v24)] []) (fun v24=>?_) (fun jv24=>?_)
   ·refine J_g 126 [] [(2,sv v24)] [] zB ?_
    exact zM rfl
   ·refine zG 23 (fun h17=>?_) (fun h17=>?_)
    ·refine zA (fun x18 h19=>?_)
     refine zA (fun x20 h21=>?_)
     refine zA (fun x22 h23=>?_)
     refine J_g 250 [] [(3,sv x22)] [] (zF 1 (zEf 9 9 (.tmp 24) (.const (.string (bs [60]))) h19) (zF 4 (xC [(.tmp 27)] [99] (xX.ok a1.High) h21) (zF 5 (zEf 9 9 (.tmp 25) (.tmp 28) h23) zB))) ?_
     exact yN (J_j (jv24 x22)) rfl
    ·exact yN (J_j (jv24 v14)) rfl
  ·refine zG 13 (fun h7=>?_) (fun h7=>?_)
   ·refine zA (fun x8 h9=>?_)
    refine zA (fun x10 h11=>?_)
    refine zA (fun x12 h13=>?_)
    refine J_d 122 [] [3,13] [(3,sv x12)] [] [] (zF 1 (zEf 9 9 (.tmp 14) (.const (.string (bs [62,61]))) h9) (zF 4 (xC [(.tmp 17)] [99] (xX.ok a1.Low) h11) (zF 5 (zEf 9 9 (.tmp 15) (.tmp 18) h13) zB))) ?_
    exact yN (J_j (jv14 x12)) rfl
   ·exact yN (J_j (jv14 a1.Name)) rfl
noncomputable def zRV:Code:=(Tryz.f172.body).getD .skip
theorem zEq.ok (a1:(List Term)) (q:Wd) (kn:ByteArray→Option (D×List Ent)) (hk:∀v:ByteArray,J (q.g Tryz.prog 172 0 20) zRV (atI zRV 15) (St.mk' [(3,sv v)] []) (some v) kn):
  ∀s11:(ByteArray×Int),J (q.g Tryz.prog 172 0 20) zRV (atI zRV 116) (St.mk' [(0,sl 7 Term.enc a1),(3,sv s11.1),(4,iv s11.2)] []) (zEq a1 s11) kn:=by
 refine tQ (fun g ih s11=>?_)
 unfold zDp
 refine J_d 464 [] [8] [(8,bv (decide (s11.2< (a1.length:Int))))] [] [] zB ?_
 refine zG 8 (fun h12=>?_) (fun h12=>?_)
 ·refine zA (fun x13 h14=>?_)
  refine zA (fun x15 h16=>?_)
  refine zA (fun x17 h18=>?_)
  refine zA (fun x19 h20=>?_)
  refine J_g 932 [] [(0,sl 7 Term.enc a1),(3,sv x19),(4,iv s11.2)] [] (zF 3 (vI (kk:=.i64) 75 149 7 Term.enc (.tmp 12) (.tmp 13) h14) (zF 5 (xC [(.tmp 15)] [149] (zAy.ok x13) h16) (zF 6 (zEf 9 9 (.tmp 11) (.tmp 16) h18) (zF 7 (zEf 9 9 (.tmp 17) (.const (.string (bs [10]))) h20) zB)))) ?_
  refine J_d 467 [] [4] [(4,iv (w64 (s11.2+1)))] [] [] zB ?_
  exact J_q (J_b (ih (x19,w64 (s11.2+1)))) rfl
 ·exact yN (hk s11.1) rfl
theorem zE9.ok (a1:(List Term)):Ok Tryz.prog 172 [sl 7 Term.enc a1] [] ((zE9 a1).map fun r=>(sv r,[])):=by
 refine zH zRV Tryz.f172 0 20 (fun q=>?_)
 unfold zE9
 refine J_g 2 [] [(0,sl 7 Term.enc a1)] [] zB ?_
 refine J_g 6 [] [(0,sl 7 Term.enc a1),(3,sv (bs []))] [] zB ?_
 refine J_d 28 [] [4] [(4,iv 0)] [] [] zB ?_
 refine zFJ (zEq.ok a1 q _ (fun v21=>J_j ?_) (bs [],0))
 refine J_g 30 [] [(2,sv v21)] [] zB ?_
 exact zM rfl
noncomputable def c97:Code:=(Tryz.f97.body).getD .skip
theorem zDG.ok (a1:ByteArray) (x2:(List ByteArray)) (s22:((List Term)×Int)) (x26:xL) (q:Wd) (kn:Unit→Option (D×List Ent)) (hk:∀v:Unit,J (q.g Tryz.prog 97 0 58) c97 (atI c97 15655) (St.mk' [(0,sv a1),(4,rr 0 x2),(5,rr 1 s22.1),(6,iv s22.2),(7,pp 2)] [(0,rE 1 eStr x2),(1,rE 7 Term.enc s22.1),(2,.box (xL.enc x26))]) (some v) kn):
  ∀s33:Int,J (q.g Tryz.prog 97 0 58) c97 (atI c97 125236) (St.mk' [(0,sv a1),(4,rr 0 x2),(5,rr 1 s22.1),(6,iv s22.2),(7,pp 2),(8,iv s33)] [(0,rE 1 eStr x2),(1,rE 7 Term.enc s22.1),(2,.box (xL.enc x26))]) (zDG a1 x2 s22 x26 s33) (Fl.go (fun r:((List Term)×Bool)=>some (.tu [so 7 Term.enc r.1,bv r.2],[])) kn):=by
 refine tQ (fun g ih s33=>?_)
 unfold zCE
 refine J_d 500944 [] [30] [(30,bv (decide (s33< (s22.1.length:Int))))] [] [] zB ?_
 refine zG 30 (fun h34=>?_) (fun h34=>?_)
 ·refine zA (fun x35 h36=>?_)
  refine J_d 2003784 [] [30,41] [(41,bv (seq x35.Name x26.Term.Name))] [] [] (zF 2 (zAv (kk:=.i64) 75 149 7 1 Term.enc (.tmp 33) (.tmp 34) h36) (zF 4 (zFq (d:=sv x35.Name) 9 7 1 0 Term.enc (.tmp 36) h36 (by kernel_rfl)) zB)) ?_
  refine zG 41 (fun h37=>?_) (fun h37=>?_)
  ·refine J_g 8015140 [] [(2,rr 1 s22.1),(3,bv false)] [(1,rE 7 Term.enc s22.1)] zB ?_
   exact zBq (ds:=[rr 1 s22.1,bv false]) (ds':=[so 7 Term.enc s22.1,bv false]) (.cons (.cell (.move (.head _) (List.length_map _) (by decide) (.nil))) (.cons (.cell (.keep rfl (.nil))) (.nil) (by decide)) (by decide)) rfl
  ·refine J_d 500947 [] [8,41] [(8,iv (w64 (s33+1)))] [] [] zB ?_
   exact J_q (J_b (ih (w64 (s33+1)))) rfl
 ·exact yN (hk ()) rfl
theorem zDl.ok (a1:ByteArray) (x2:(List ByteArray)) (q:Wd) (kn:(List Term)→Option (D×List Ent)) (hk:∀v:(List Term),J (q.g Tryz.prog 97 0 58) c97 (atI c97 31) (St.mk' [(0,sv a1),(5,rr 1 v)] [(1,rE 7 Term.enc v)]) (some v) kn):
  ∀s22:((List Term)×Int),J (q.g Tryz.prog 97 0 58) c97 (atI c97 244) (St.mk' [(0,sv a1),(4,rr 0 x2),(5,rr 1 s22.1),(6,iv s22.2)] [(0,rE 1 eStr x2),(1,rE 7 Term.enc s22.1)]) (zDl a1 x2 s22) (Fl.go (fun r:((List Term)×Bool)=>some (.tu [so 7 Term.enc r.1,bv r.2],[])) kn):=by
 refine tQ (fun g ih s22=>?_)
 unfold zC6
 refine J_d 976 [] [15] [(15,bv (decide (s22.2< (x2.length:Int))))] [] [] zB ?_
 refine zG 15 (fun h23=>?_) (fun h23=>?_)
 ·refine zA (fun x24 h25=>?_)
  refine zA (fun x26 h27=>?_)
  refine J_g 3912 [(5,2)] [(0,sv a1),(4,rr 0 x2),(5,rr 1 s22.1),(6,iv s22.2),(7,pp 2)] [(0,rE 1 eStr x2),(1,rE 7 Term.enc s22.1),(2,.box (xL.enc x26))] (zF 2 (zAv (kk:=.i64) 86 9 1 0 eStr (.tmp 18) (.tmp 19) h25) (zF 3 (zFq (d:=sv x24) 9 1 0 0 eStr (.tmp 20) h25 (by kernel_rfl)) (zF 4 (xC [(.tmp 21)] [9] (zB6.ok x24) h27) zB))) ?_
  refine J_d 15652 [] [25] [(25,bv (x26.Code !=0))] [] [] zB ?_
  refine zG 25 (fun h28=>?_) (fun h28=>?_)
  ·refine J_g 62612 [] [(2,rr 1 s22.1),(3,bv false)] [(1,rE 7 Term.enc s22.1)] zB ?_
   exact zBq (ds:=[rr 1 s22.1,bv false]) (ds':=[so 7 Term.enc s22.1,bv false]) (.cons (.cell (.move (.head _) (List.length_map _) (by decide) (.nil))) (.cons (.cell (.keep rfl (.nil))) (.nil) (by decide)) (by decide)) rfl
  ·refine J_d 31308 [] [8,25] [(8,iv 0)] [] [] zB ?_
   refine vZ (K0:=(fun r:((List Term)×Bool)=>some (.tu [so 7 Term.enc r.1,bv r.2],[]))) (fun _=>rfl) (zDG.ok a1 x2 s22 x26 q _ (fun v38=>J_j ?_) 0)
   refine zA (fun x39 h40=>?_)
   refine J_g 15655 [] [(0,sv a1),(4,rr 0 x2),(5,rr 4 x39),(6,iv s22.2)] [(0,rE 1 eStr x2),(4,rE 7 Term.enc x39)] (zF 3 (zFk 75 149 7 3 Term.enc [x26.Term] [0] [(.tmp 45)] [.ag (Term.enc x26.Term)]) (zF 4 (zHR 75 75 149 149 7 64 4 1 3 Term.enc (.tmp 43) (.tmp 46) h40) zB)) ?_
   refine J_d 979 [] [6] [(6,iv (w64 (s22.2+1)))] [] [] zB ?_
   refine zBD 4 1 (Nat.le_of_ble_eq_true rfl) (Nat.le_of_ble_eq_true rfl) ?_
   exact J_q (J_b (ih (x39,w64 (s22.2+1)))) rfl
 ·exact yN (hk s22.1) rfl
theorem zD6.ok (a1:ByteArray):Ok Tryz.prog 97 [sv a1] [] ((zD6 a1).map fun r=>(.tu [so 7 Term.enc r.1,bv r.2],[])):=by
 refine zH c97 Tryz.f97 0 58 (fun q=>?_)
 unfold zD6
 refine J_g 2 [] [(0,sv a1)] [] zB ?_
 refine zA (fun x2 h3=>?_)
 refine J_g 6 [] [(0,sv a1),(4,rr 0 x2)] [(0,rE 1 eStr x2)] (zF 1 (vQ («as»:=[sv a1]) [(.tmp 9)] [9] false [] [] (.cons (.same rfl) (.nil)) (zBg.ok a1) h3 (.own 0)) zB) ?_
 refine J_g 14 [] [(0,sv a1),(4,rr 0 x2),(5,rr 1 ([]:List Term))] [(0,rE 1 eStr x2),(1,rE 7 Term.enc ([]:List Term))] (zF 0 (zFk 75 149 7 1 Term.enc ([]:List Term) [] [] []) zB) ?_
 refine J_d 60 [] [6] [(6,iv 0)] [] [] zB ?_
 refine vZ (K0:=(fun r:((List Term)×Bool)=>some (.tu [so 7 Term.enc r.1,bv r.2],[]))) (fun _=>rfl) (zDl.ok a1 x2 q _ (fun v41=>J_j ?_) (([]:List Term),0))
 refine wT (fun h42=>?_) (fun h42=>?_)
 ·refine zA (fun x43 h44=>?_)
  refine J_g 62 [] [(2,rr 1 v41),(3,bv (seq x43 a1))] [(1,rE 7 Term.enc v41)] (wE 4 [(51,bv (decide ((v41.length:Int)≤8)))] [] h42 (zBr 6 4 52 true (vQ («as»:=[rr 1 v41]) [(.tmp 53)] [75] true [(1,rE 7 Term.enc v41)] [] (.cons (zFE (.head _) (fun _=>rfl) rfl) (.nil)) (zE9.ok v41) h44 (.same rfl rfl) (hbor:=fun _=>⟨fhN,zQ⟩)) zB)) ?_
  exact zBq (ds:=[rr 1 v41,bv (seq x43 a1)]) (ds':=[so 7 Term.enc v41,bv (seq x43 a1)]) (.cons (.cell (.move (.head _) (List.length_map _) (by decide) (.nil))) (.cons (.cell (.keep rfl (.nil))) (.nil) (by decide)) (by decide)) rfl
 ·refine J_g 62 [] [(2,rr 1 v41),(3,bv false)] [(1,rE 7 Term.enc v41)] (wE 4 [(51,bv (decide ((v41.length:Int)≤8)))] [] h42 zB) ?_
  exact zBq (ds:=[rr 1 v41,bv false]) (ds':=[so 7 Term.enc v41,bv false]) (.cons (.cell (.move (.head _) (List.length_map _) (by decide) (.nil))) (.cons (.cell (.keep rfl (.nil))) (.nil) (by decide)) (by decide)) rfl
noncomputable def c46:Code:=(Tryz.f46.body).getD .skip
theorem zEC.ok (a1:zD):Ok Tryz.prog 46 [.pb [sl 2 (File.enc false) a1.Files,iv a1.Budget,iv a1.Writes,iv a1.Stop,bv a1.Down]] [] ((zEC a1).map fun r=>(.tu [so 7 Term.enc r.1,bv r.2],[])):=by
 refine zH c46 Tryz.f46 0 21 (fun q=>?_)
 unfold zEC
 refine J_d 2 [] [] [] [] [] zB ?_
 refine zA (fun x2 h3=>?_)
 refine J_g 6 [] [(0,.pb [sl 2 (File.enc false) a1.Files,iv a1.Budget,iv a1.Writes,iv a1.Stop,bv a1.Down]),(4,iv x2)] [] (zF 1 (vQ («as»:=[.pb [sl 2 (File.enc false) a1.Files,iv a1.Budget,iv a1.Writes,iv a1.Stop,bv a1.Down],sv (bs [114,111,111,116,115])]) [(.tmp 5),(.const (.string (bs [114,111,111,116,115])))] [72,9] false [] [] (.cons (.pb (.cons (.same rfl) (.cons (.same rfl) (.cons (.same rfl) (.cons (.same rfl) (.cons (.same rfl) (.nil))))))) (.cons (.same rfl) (.nil))) (wQ.ok a1 (bs [114,111,111,116,115])) h3 (.same rfl rfl)) zB) ?_
 refine J_d 28 [] [8] [(8,bv (decide (x2<0)))] [] [] zB ?_
 refine zG 8 (fun h4=>?_) (fun h4=>?_)
 ·refine J_g 116 [] [(2,nv),(3,bv true)] [] zB ?_
  exact zBq (ds:=[nv,bv true]) (ds':=[so 7 Term.enc ([]:List Term),bv true]) (.cons (.cell (.nilsl true 7 (.nil))) (.cons (.cell (.keep rfl (.nil))) (.nil) (by decide)) (by decide)) rfl
 ·refine zA (fun x5 h6=>?_)
  refine zA (fun x7 h8=>?_)
  refine J_g 30 [] [(2,rr 0 x7.1),(3,bv x7.2)] [(0,rE 7 Term.enc x7.1)] (zF 1 (zGq (.tmp 9) [sl 2 (File.enc false) a1.Files,iv a1.Budget,iv a1.Writes,iv a1.Stop,bv a1.Down]) (zF 2 (zFl 33 (.tmp 10) 0 0 1 [sl 2 (File.enc false) a1.Files,iv a1.Budget,iv a1.Writes,iv a1.Stop,bv a1.Down]) (zF 3 (zFB (d:=sl 2 (File.enc false) a1.Files) 31 (.tmp 11) [sl 2 (File.enc false) a1.Files]) (zF 5 (vI (kk:=.i64) 31 138 2 (File.enc false) (.tmp 12) (.tmp 13) h6) (zF 8 (zL2 (xs:=x5.Data) 121 9 5 (.tmp 16)) (zF 9 (vQ («as»:=[sv (b2s x5.Data)]) [(.tmp 17)] [9] false [] [] (.cons (.same rfl) (.nil)) (zD6.ok (b2s x5.Data)) h8 (.tu (.cons (.own 0) (.cons (.same rfl rfl) (.nil))))) zB)))))) ?_
  exact zBq (ds:=[rr 0 x7.1,bv x7.2]) (ds':=[so 7 Term.enc x7.1,bv x7.2]) (.cons (.cell (.move (.head _) (List.length_map _) (by decide) (.nil))) (.cons (.cell (.keep rfl (.nil))) (.nil) (by decide)) (by decide)) rfl
noncomputable def c9:Code:=(Tryz.f9.body).getD .skip
theorem uW.ok (a1:System):Ok Tryz.prog 9 [.ag (System.enc false a1)] [] ((uW a1).map fun r=>(iv r,[])):=by
 refine zH c9 Tryz.f9 0 47 (fun q=>?_)
 unfold uW
 refine J_g 2 [] [(1,.pb [sl 8 (Pack.enc false) a1.Catalog,sl 2 (File.enc false) a1.zD.Files,iv a1.zD.Budget,iv a1.zD.Writes,iv a1.zD.Stop,bv a1.zD.Down])] [] (zF 0 (zPg 35 (.tmp 0) (.ag (System.enc false a1))) zB) ?_
 refine zA (fun x2 h3=>?_)
 refine J_g 12 [] [(1,.pb [sl 8 (Pack.enc false) a1.Catalog,sl 2 (File.enc false) a1.zD.Files,iv a1.zD.Budget,iv a1.zD.Writes,iv a1.zD.Stop,bv a1.zD.Down]),(3,iv x2)] [] (zF 0 (zFl 35 (.tmp 1) 0 0 1 [sl 8 (Pack.enc false) a1.Catalog,sl 2 (File.enc false) a1.zD.Files,iv a1.zD.Budget,iv a1.zD.Writes,iv a1.zD.Stop,bv a1.zD.Down]) (zF 1 (zFB (d:=sl 8 (Pack.enc false) a1.Catalog) 30 (.tmp 7) [sl 8 (Pack.enc false) a1.Catalog]) (zF 2 (zFl 35 (.tmp 1) 1 1 5 [sl 8 (Pack.enc false) a1.Catalog,sl 2 (File.enc false) a1.zD.Files,iv a1.zD.Budget,iv a1.zD.Writes,iv a1.zD.Stop,bv a1.zD.Down]) (zF 3 (zFB (d:=.ag (zD.enc false a1.zD)) 33 (.tmp 9) [sl 2 (File.enc false) a1.zD.Files,iv a1.zD.Budget,iv a1.zD.Writes,iv a1.zD.Stop,bv a1.zD.Down]) (zF 4 (xC [(.tmp 8),(.tmp 10)] [30,33] (zAP.ok a1.Catalog a1.zD) h3) zB))))) ?_
 refine J_d 26 [] [13] [(13,bv (x2 !=0))] [] [] zB ?_
 refine zG 13 (fun h4=>?_) (fun h4=>?_)
 ·refine J_g 108 [] [(2,iv x2)] [] zB ?_
  exact zM rfl
 ·refine zA (fun x5 h6=>?_)
  refine J_g 14 [(4,1)] [(1,.pb [sl 8 (Pack.enc false) a1.Catalog,sl 2 (File.enc false) a1.zD.Files,iv a1.zD.Budget,iv a1.zD.Writes,iv a1.zD.Stop,bv a1.zD.Down]),(4,pp 1)] [(0,rE 1 zU x5.Set),(1,.box [iv x5.Code,iv x5.At,rr 0 x5.Set])] (zF 0 (zFl 35 (.tmp 1) 0 0 1 [sl 8 (Pack.enc false) a1.Catalog,sl 2 (File.enc false) a1.zD.Files,iv a1.zD.Budget,iv a1.zD.Writes,iv a1.zD.Stop,bv a1.zD.Down]) (zF 1 (zFB (d:=sl 8 (Pack.enc false) a1.Catalog) 30 (.tmp 15) [sl 8 (Pack.enc false) a1.Catalog]) (zF 2 (zFl 35 (.tmp 1) 1 1 5 [sl 8 (Pack.enc false) a1.Catalog,sl 2 (File.enc false) a1.zD.Files,iv a1.zD.Budget,iv a1.zD.Writes,iv a1.zD.Stop,bv a1.zD.Down]) (zF 3 (vQ («as»:=[sl 8 (Pack.enc false) a1.Catalog,.pb [sl 2 (File.enc false) a1.zD.Files,iv a1.zD.Budget,iv a1.zD.Writes,iv a1.zD.Stop,bv a1.zD.Down]]) [(.tmp 16),(.tmp 17)] [30,72] false [] [] (.cons (.same rfl) (.cons (.pb (.cons (.same rfl) (.cons (.same rfl) (.cons (.same rfl) (.cons (.same rfl) (.cons (.same rfl) (.nil))))))) (.nil))) (zDH.ok a1.Catalog a1.zD) h6 (.ag (.cons (.same rfl rfl) (.cons (.same rfl rfl) (.cons (.own 0) (.nil)))))) zB)))) ?_
  refine J_d 60 [] [21] [(21,bv (x5.Code !=0))] [] [] zB ?_
  refine zG 21 (fun h7=>?_) (fun h7=>?_)
  ·refine J_g 244 [] [(2,iv x5.Code)] [] zB ?_
   exact zM rfl
  ·refine zA (fun x8 h9=>?_)
   refine wH (atI c9 125) (fun v13:Bool=>St.mk' [(1,.pb [sl 8 (Pack.enc false) a1.Catalog,sl 2 (File.enc false) a1.zD.Files,iv a1.zD.Budget,iv a1.zD.Writes,iv a1.zD.Stop,bv a1.zD.Down]),(39,bv v13)] []) (fun v13=>?_) (fun jv13=>?_)
   ·refine zG 39 (fun h14=>?_) (fun h14=>?_)
    ·refine J_g 500 [] [(2,iv 1)] [] zB ?_
     exact zM rfl
    ·refine zA (fun x15 h16=>?_)
     refine J_g 252 [] [(6,bv x15.2)] [] (zF 0 (zFl 35 (.tmp 1) 1 1 5 [sl 8 (Pack.enc false) a1.Catalog,sl 2 (File.enc false) a1.zD.Files,iv a1.zD.Budget,iv a1.zD.Writes,iv a1.zD.Stop,bv a1.zD.Down]) (zF 1 (vQ («as»:=[.pb [sl 2 (File.enc false) a1.zD.Files,iv a1.zD.Budget,iv a1.zD.Writes,iv a1.zD.Stop,bv a1.zD.Down]]) [(.tmp 41)] [72] false [] [] (.cons (.pb (.cons (.same rfl) (.cons (.same rfl) (.cons (.same rfl) (.cons (.same rfl) (.cons (.same rfl) (.nil))))))) (.nil)) (zEC.ok a1.zD) h16 (.tu (.cons (.own 0) (.cons (.same rfl rfl) (.nil))))) zB)) ?_
     refine J_g 506 [] [(46,bv (!x15.2))] [] zB ?_
     refine zG 46 (fun h17=>?_) (fun h17=>?_)
     ·refine J_g 2028 [] [(2,iv 5)] [] zB ?_
      exact zM rfl
     ·refine J_g 254 [] [(2,iv 0)] [] zB ?_
      exact zM rfl
   ·refine wT (fun h10=>?_) (fun h10=>?_)
    ·refine J_d 124 [] [4,21,39] [(39,bv true)] [0,1] [] (zF 0 (zFl 35 (.tmp 1) 0 0 1 [sl 8 (Pack.enc false) a1.Catalog,sl 2 (File.enc false) a1.zD.Files,iv a1.zD.Budget,iv a1.zD.Writes,iv a1.zD.Stop,bv a1.zD.Down]) (zF 1 (zFB (d:=sl 8 (Pack.enc false) a1.Catalog) 30 (.tmp 24) [sl 8 (Pack.enc false) a1.Catalog]) (zF 4 (vQ («as»:=[sl 8 (Pack.enc false) a1.Catalog,rr 0 x5.Set]) [(.tmp 25),(.tmp 27)] [30,39] true [(0,rE 1 zU x5.Set)] [] (.cons (.same rfl) (.cons (zFE (.head _) (fun _=>rfl) rfl) (.nil))) (zDb.ok a1.Catalog x5.Set) h9 (.same rfl rfl) (hbor:=fun _=>⟨fhN,zQ⟩)) (wE 6 [(29,bv (!x8))] [] h10 zB)))) ?_
     exact yN (J_j (jv13 true)) rfl
    ·refine zA (fun x11 h12=>?_)
     refine J_d 124 [] [4,21,39] [(39,bv (decide ((x11.length:Int)>0)))] [0,1] [] (zF 0 (zFl 35 (.tmp 1) 0 0 1 [sl 8 (Pack.enc false) a1.Catalog,sl 2 (File.enc false) a1.zD.Files,iv a1.zD.Budget,iv a1.zD.Writes,iv a1.zD.Stop,bv a1.zD.Down]) (zF 1 (zFB (d:=sl 8 (Pack.enc false) a1.Catalog) 30 (.tmp 24) [sl 8 (Pack.enc false) a1.Catalog]) (zF 4 (vQ («as»:=[sl 8 (Pack.enc false) a1.Catalog,rr 0 x5.Set]) [(.tmp 25),(.tmp 27)] [30,39] true [(0,rE 1 zU x5.Set)] [] (.cons (.same rfl) (.cons (zFE (.head _) (fun _=>rfl) rfl) (.nil))) (zDb.ok a1.Catalog x5.Set) h9 (.same rfl rfl) (hbor:=fun _=>⟨fhN,zQ⟩)) (wE 6 [(29,bv (!x8))] [] h10 (zBr 7 6 30 false (zFl 35 (.tmp 1) 0 0 1 [sl 8 (Pack.enc false) a1.Catalog,sl 2 (File.enc false) a1.zD.Files,iv a1.zD.Budget,iv a1.zD.Writes,iv a1.zD.Stop,bv a1.zD.Down]) (zBr 8 6 30 false (zFB (d:=sl 8 (Pack.enc false) a1.Catalog) 30 (.tmp 31) [sl 8 (Pack.enc false) a1.Catalog]) (zBr 9 6 30 false (zFl 35 (.tmp 1) 1 1 5 [sl 8 (Pack.enc false) a1.Catalog,sl 2 (File.enc false) a1.zD.Files,iv a1.zD.Budget,iv a1.zD.Writes,iv a1.zD.Stop,bv a1.zD.Down]) (zBr 12 6 30 false (vQ («as»:=[sl 8 (Pack.enc false) a1.Catalog,.pb [sl 2 (File.enc false) a1.zD.Files,iv a1.zD.Budget,iv a1.zD.Writes,iv a1.zD.Stop,bv a1.zD.Down],rr 0 x5.Set]) [(.tmp 32),(.tmp 33),(.tmp 35)] [30,72,39] true [(0,rE 1 zU x5.Set)] [] (.cons (.same rfl) (.cons (.pb (.cons (.same rfl) (.cons (.same rfl) (.cons (.same rfl) (.cons (.same rfl) (.cons (.same rfl) (.nil))))))) (.cons (zFE (.head _) (fun _=>rfl) rfl) (.nil)))) (zBz.ok a1.Catalog a1.zD x5.Set) h12 (.own 2) (hbor:=fun _=>⟨fhN,(zFA (zGy (fun _=>(flatK zQ zGs)) _))⟩)) zB)))))))) ?_
     exact yN (J_j (jv13 (decide ((x11.length:Int)>0)))) rfl
noncomputable def c56:Code:=(Tryz.f56.body).getD .skip
theorem zBw.ok (a1:zD) (q:Wd) (kn:(List File)→Option (D×List Ent)) (hk:∀v:(List File),J (q.g Tryz.prog 56 0 35) c56 (atI c56 31) (St.mk' [(2,pp 1),(3,pp 2)] [(1,.box [nv,iv 0,iv 0,iv 0,bv false]),(2,.box [rr 3 v,iv a1.Budget,iv a1.Writes,iv a1.Stop,bv a1.Down]),(3,rE 2 (File.enc true) v)]) (some v) kn):
  ∀s20:((List File)×Int),J (q.g Tryz.prog 56 0 35) c56 (atI c56 244) (St.mk' [(1,pp 0),(2,pp 1),(3,pp 2),(4,iv s20.2)] [(0,.box (zD.enc false a1)),(1,.box [nv,iv 0,iv 0,iv 0,bv false]),(2,.box [rr 3 s20.1,iv a1.Budget,iv a1.Writes,iv a1.Stop,bv a1.Down]),(3,rE 2 (File.enc true) s20.1)]) (zBw a1 s20) kn:=by
 refine tQ (fun g ih s20=>?_)
 unfold zBO
 refine J_d 976 [] [11] [(11,bv (decide (s20.2< (a1.Files.length:Int))))] [] [] zB ?_
 refine zG 11 (fun h21=>?_) (fun h21=>?_)
 ·refine zA (fun x22 h23=>?_)
  refine zA (fun x24 h25=>?_)
  refine zA (fun x26 h27=>?_)
  refine zA (fun x28 h29=>?_)
  refine J_g 1956 [] [(1,pp 0),(2,pp 1),(3,pp 2),(4,iv s20.2)] [(0,.box (zD.enc false a1)),(1,.box [nv,iv 0,iv 0,iv 0,bv false]),(2,.box [rr 7 x28,iv a1.Budget,iv a1.Writes,iv a1.Stop,bv a1.Down]),(7,rE 2 (File.enc true) x28)] (zF 5 (vI (kk:=.i64) 31 138 2 (File.enc false) (.tmp 17) (.tmp 18) h23) (zF 8 (zFk 121 5 1 4 eU8 ([]:List Int) [] [] []) (zF 12 (vI (kk:=.i64) 31 138 2 (File.enc false) (.tmp 24) (.tmp 25) h25) (zF 15 (zKQ 121 121 5 5 1 1 5 4 eU8 (.tmp 22) (.tmp 28) h27) (zF 17 (zRa (ds:=[sv x22.Path,rr 5 x26]) (ts:=[5]) 31 138 2 6 (File.enc true) [({Path:=x22.Path,Data:=x26}:File)] [0] [(.tmp 30)] [.ag [sv x22.Path,rr 5 x26]] [(5,rE 1 eU8 x26)] (.keep rfl (.move (.head _) (List.length_map _) (by decide) (.nil)))) (zF 18 (zHR 31 31 138 138 2 40 7 3 6 (File.enc true) (.tmp 15) (.tmp 31) h29) zB)))))) ?_
  refine J_d 979 [] [4] [(4,iv (w64 (s20.2+1)))] [] [] zB ?_
  refine zBD 7 3 (Nat.le_of_ble_eq_true rfl) (Nat.le_of_ble_eq_true rfl) ?_
  exact J_q (J_b (ih (x28,w64 (s20.2+1)))) rfl
 ·exact yN (hk s20.1) rfl
theorem zCr.ok (a1:zD):Ok Tryz.prog 56 [.ag (zD.enc false a1)] [] ((zCr a1).map fun r=>(.ag (zD.enc true r),[])):=by
 refine zH c56 Tryz.f56 0 35 (fun q=>?_)
 unfold zCr
 refine J_g 2 [(0,0),(1,1)] [(1,pp 0),(2,pp 1)] [(0,.box (zD.enc false a1)),(1,.box [nv,iv 0,iv 0,iv 0,bv false])] zB ?_
 refine J_g 6 [(1,2)] [(1,pp 0),(2,pp 1),(3,pp 2)] [(0,.box (zD.enc false a1)),(1,.box [nv,iv 0,iv 0,iv 0,bv false]),(2,.box (zD.enc false a1))] zB ?_
 refine J_g 14 [] [(1,pp 0),(2,pp 1),(3,pp 2)] [(0,.box (zD.enc false a1)),(1,.box [nv,iv 0,iv 0,iv 0,bv false]),(2,.box [nv,iv a1.Budget,iv a1.Writes,iv a1.Stop,bv a1.Down])] zB ?_
 refine J_d 60 [] [4] [(4,iv 0)] [] [] zB ?_
 refine zOQ 2 0 3 2 rfl rfl (Nat.le_of_ble_eq_true rfl) (by kernel_rfl) ?_
 refine zFJ (zBw.ok a1 q _ (fun v30=>J_j ?_) (([]:List File),0))
 refine J_g 62 [] [(2,pp 1)] [(1,.box [rr 3 v30,iv a1.Budget,iv a1.Writes,iv a1.Stop,bv a1.Down]),(3,rE 2 (File.enc true) v30)] zB ?_
 exact zBq (ds:=[.ag [rr 3 v30,iv a1.Budget,iv a1.Writes,iv a1.Stop,bv a1.Down]]) (ds':=[.ag [so 2 (File.enc true) v30,iv a1.Budget,iv a1.Writes,iv a1.Stop,bv a1.Down]]) (.cons (.ag (.move (.tail _ (.head _)) (List.length_map _) (by decide) (.keep rfl (.keep rfl (.keep rfl (.keep rfl (.nil))))))) (.nil) (by decide)) rfl
noncomputable def c87:Code:=(Tryz.f87.body).getD .skip
theorem zES.ok (a1:zD):Ok Tryz.prog 87 [.ag (zD.enc false a1)] [] ((zES a1).map fun r=>(.ag (wD.enc true r),[])):=by
 refine zH c87 Tryz.f87 0 16 (fun q=>?_)
 unfold zES
 refine J_g 2 [(0,0),(1,1)] [(1,pp 0),(2,pp 1)] [(0,.box (zD.enc false a1)),(1,.box [iv 0,nv,iv 0,iv 0,iv 0,bv false])] zB ?_
 refine zA (fun x2 h3=>?_)
 refine J_g 12 [] [(1,pp 0),(2,pp 1),(3,iv x2)] [(0,.box (zD.enc false a1)),(1,.box [iv 0,nv,iv 0,iv 0,iv 0,bv false])] (zF 1 (xC [(.tmp 5)] [33] (vC.ok a1) h3) zB) ?_
 refine J_d 26 [] [8] [(8,bv (x2 !=0))] [] [] zB ?_
 refine zG 8 (fun h4=>?_) (fun h4=>?_)
 ·refine J_g 108 [] [(2,pp 1)] [(1,.box [iv x2,nv,iv 0,iv 0,iv 0,bv false])] zB ?_
  exact zBq (ds:=[.ag [iv x2,nv,iv 0,iv 0,iv 0,bv false]]) (ds':=[.ag [iv x2,so 2 (File.enc true) ([]:List File),iv 0,iv 0,iv 0,bv false]]) (.cons (.ag (.keep rfl (.nilsl true 2 (.keep rfl (.keep rfl (.keep rfl (.keep rfl (.nil)))))))) (.nil) (by decide)) rfl
 ·refine zA (fun x5 h6=>?_)
  refine J_g 14 [(2,3)] [(2,pp 1),(4,pp 3)] [(1,.box [iv 0,nv,iv 0,iv 0,iv 0,bv false]),(2,rE 2 (File.enc true) x5.Files),(3,.box [rr 2 x5.Files,iv x5.Budget,iv x5.Writes,iv x5.Stop,bv x5.Down])] (zF 1 (vQ («as»:=[.ag (zD.enc false a1)]) [(.tmp 11)] [33] false [] [] (.cons (.same rfl) (.nil)) (zCr.ok a1) h6 (.ag (.cons (.own 2) (.cons (.same rfl rfl) (.cons (.same rfl rfl) (.cons (.same rfl rfl) (.cons (.same rfl rfl) (.nil)))))))) zB) ?_
  refine J_g 30 [] [(2,pp 1),(4,pp 3)] [(1,.box [iv 0,nv,iv 0,iv 0,iv 0,bv false]),(2,rE 2 (File.enc true) x5.Files),(3,.box [rr 2 x5.Files,iv x5.Budget,iv x5.Writes,iv x5.Stop,bv true])] zB ?_
  refine J_g 62 [] [(2,pp 1)] [(1,.box [iv 0,rr 2 x5.Files,iv x5.Budget,iv x5.Writes,iv x5.Stop,bv true]),(2,rE 2 (File.enc true) x5.Files)] zB ?_
  exact zBq (ds:=[.ag [iv 0,rr 2 x5.Files,iv x5.Budget,iv x5.Writes,iv x5.Stop,bv true]]) (ds':=[.ag [iv 0,so 2 (File.enc true) x5.Files,iv x5.Budget,iv x5.Writes,iv x5.Stop,bv true]]) (.cons (.ag (.keep rfl (.move (.tail _ (.head _)) (List.length_map _) (by decide) (.keep rfl (.keep rfl (.keep rfl (.keep rfl (.nil)))))))) (.nil) (by decide)) rfl
noncomputable def c157:Code:=(Tryz.f157.body).getD .skip
theorem zCD.ok (a1:(List Pack)) (s46:((List Pack)×Int)) (x48:Pack) (x50:(List ByteArray)) (q:Wd) (kn:(List (List Term))→Option (D×List Ent)) (hk:∀v:(List (List Term)),J (q.g Tryz.prog 157 0 59) c157 (atI c157 14927) (St.mk' [(0,sl 8 (Pack.enc false) a1),(3,rr 0 s46.1),(4,iv s46.2),(5,pp 1)] [(0,rE 8 (Pack.enc true) s46.1),(1,.box [sv x48.Name,iv x48.Version.A,iv x48.Version.B,iv x48.Version.C,iv x48.Size,rr 3 x50,rr 4 v,sl 7 Term.enc x48.Bars]),(3,rE 1 eStr x50),(4,rE 1 (eSl true 7 Term.enc) v)]) (some v) kn):
  ∀s74:((List (List Term))×Int),J (q.g Tryz.prog 157 0 59) c157 (atI c157 119412) (St.mk' [(0,sl 8 (Pack.enc false) a1),(3,rr 0 s46.1),(4,iv s46.2),(5,pp 1),(6,iv s74.2)] [(0,rE 8 (Pack.enc true) s46.1),(1,.box [sv x48.Name,iv x48.Version.A,iv x48.Version.B,iv x48.Version.C,iv x48.Size,rr 3 x50,rr 4 s74.1,sl 7 Term.enc x48.Bars]),(3,rE 1 eStr x50),(4,rE 1 (eSl true 7 Term.enc) s74.1)]) (zCD a1 s46 x48 x50 s74) kn:=by
 refine tQ (fun g ih s74=>?_)
 unfold zBS
 refine zA (fun x75 h76=>?_)
 refine J_d 477648 [] [31] [(31,bv (decide (s74.2< (x75.Needs.length:Int))))] [] [] (zF 3 (vI (kk:=.i64) 30 102 8 (Pack.enc false) (.tmp 25) (.tmp 26) h76) zB) ?_
 refine zG 31 (fun h77=>?_) (fun h77=>?_)
 ·refine zA (fun x78 h79=>?_)
  refine zA (fun x80 h81=>?_)
  refine zA (fun x82 h83=>?_)
  refine zA (fun x84 h85=>?_)
  refine J_g 955300 [] [(0,sl 8 (Pack.enc false) a1),(3,rr 0 s46.1),(4,iv s46.2),(5,pp 1),(6,iv s74.2)] [(0,rE 8 (Pack.enc true) s46.1),(1,.box [sv x48.Name,iv x48.Version.A,iv x48.Version.B,iv x48.Version.C,iv x48.Size,rr 3 x50,rr 8 x84,sl 7 Term.enc x48.Bars]),(3,rE 1 eStr x50),(8,rE 1 (eSl true 7 Term.enc) x84)] (zF 2 (zFk 75 149 7 5 Term.enc ([]:List Term) [] [] []) (zF 5 (vI (kk:=.i64) 30 102 8 (Pack.enc false) (.tmp 37) (.tmp 38) h79) (zF 9 (vI (kk:=.i64) 100 75 1 (eSl false 7 Term.enc) (.tmp 41) (.tmp 42) h81) (zF 11 (zKQ 75 75 149 149 7 64 6 5 Term.enc (.tmp 36) (.tmp 44) h83) (zF 12 (zRa (ds:=[rr 6 x82]) (ts:=[6]) 100 75 1 7 (eSl true 7 Term.enc) [x82] [0] [(.tmp 45)] [rr 6 x82] [(6,rE 7 Term.enc x82)] (.move (.head _) (List.length_map _) (by decide) (.nil))) (zF 13 (zHR 100 100 75 75 1 24 8 4 7 (eSl true 7 Term.enc) (.tmp 35) (.tmp 46) h85) zB)))))) ?_
  refine J_d 477651 [] [6] [(6,iv (w64 (s74.2+1)))] [] [] zB ?_
  refine zBD 8 4 (Nat.le_of_ble_eq_true rfl) (Nat.le_of_ble_eq_true rfl) ?_
  exact J_q (J_b (ih (x84,w64 (s74.2+1)))) rfl
 ·exact yN (hk s74.1) rfl
theorem zC1.ok (a1:(List Pack)) (q:Wd) (kn:(List Pack)→Option (D×List Ent)) (hk:∀v:(List Pack),J (q.g Tryz.prog 157 0 59) c157 (atI c157 15) (St.mk' [(3,rr 0 v)] [(0,rE 8 (Pack.enc true) v)]) (some v) kn):
  ∀s46:((List Pack)×Int),J (q.g Tryz.prog 157 0 59) c157 (atI c157 116) (St.mk' [(0,sl 8 (Pack.enc false) a1),(3,rr 0 s46.1),(4,iv s46.2)] [(0,rE 8 (Pack.enc true) s46.1)]) (zC1 a1 s46) kn:=by
 refine tQ (fun g ih s46=>?_)
 unfold zBV
 refine J_d 464 [] [11] [(11,bv (decide (s46.2< (a1.length:Int))))] [] [] zB ?_
 refine zG 11 (fun h47=>?_) (fun h47=>?_)
 ·refine zA (fun x48 h49=>?_)
  refine J_d 1864 [(4,1)] [5,11] [(5,pp 1)] [1] [(1,.box (Pack.enc false x48))] (zF 2 (vI (kk:=.i64) 30 102 8 (Pack.enc false) (.tmp 14) (.tmp 15) h49) zB) ?_
  refine zA (fun x50 h51=>?_)
  refine J_g 3730 [] [(0,sl 8 (Pack.enc false) a1),(3,rr 0 s46.1),(4,iv s46.2),(5,pp 1)] [(0,rE 8 (Pack.enc true) s46.1),(1,.box [sv x48.Name,iv x48.Version.A,iv x48.Version.B,iv x48.Version.C,iv x48.Size,rr 3 x50,sl 1 (eSl false 7 Term.enc) x48.Needs,sl 7 Term.enc x48.Bars]),(3,rE 1 eStr x50)] (zF 0 (zFk 86 9 1 2 eStr ([]:List ByteArray) [] [] []) (zF 3 (zKQ 86 86 9 9 1 16 3 2 eStr (.tmp 18) (.tmp 20) h51) zB)) ?_
  refine J_g 7462 [] [(0,sl 8 (Pack.enc false) a1),(3,rr 0 s46.1),(4,iv s46.2),(5,pp 1)] [(0,rE 8 (Pack.enc true) s46.1),(1,.box [sv x48.Name,iv x48.Version.A,iv x48.Version.B,iv x48.Version.C,iv x48.Size,rr 3 x50,nv,sl 7 Term.enc x48.Bars]),(3,rE 1 eStr x50)] zB ?_
  refine J_d 29852 [] [6] [(6,iv 0)] [] [] zB ?_
  refine zOQ 1 6 4 1 rfl rfl (Nat.le_of_ble_eq_true rfl) (by kernel_rfl) ?_
  refine zFJ (zCD.ok a1 s46 x48 x50 q _ (fun v86=>J_j ?_) (([]:List (List Term)),0))
  refine zA (fun x87 h88=>?_)
  refine J_d 29854 [] [] [] [1,6] [(1,.box [sv x48.Name,iv x48.Version.A,iv x48.Version.B,iv x48.Version.C,iv x48.Size,rr 3 x50,rr 4 v86,rr 6 x87]),(6,rE 7 Term.enc x87)] (zF 0 (zFk 75 149 7 5 Term.enc ([]:List Term) [] [] []) (zF 3 (zKQ 75 75 149 149 7 64 6 5 Term.enc (.tmp 49) (.tmp 51) h88) zB)) ?_
  refine zA (fun x89 h90=>?_)
  refine J_g 29855 [] [(0,sl 8 (Pack.enc false) a1),(3,rr 8 x89),(4,iv s46.2)] [(8,rE 8 (Pack.enc true) x89)] (zF 2 (zRa (ds:=[sv x48.Name,iv x48.Version.A,iv x48.Version.B,iv x48.Version.C,iv x48.Size,rr 3 x50,rr 4 v86,rr 6 x87]) (ts:=[3,4,6]) 30 102 8 7 (Pack.enc true) [({Name:=x48.Name,Version:=x48.Version,Size:=x48.Size,Provides:=x50,Needs:=v86,Bars:=x87}:Pack)] [0] [(.tmp 55)] [.ag [sv x48.Name,iv x48.Version.A,iv x48.Version.B,iv x48.Version.C,iv x48.Size,rr 3 x50,rr 4 v86,rr 6 x87]] [(3,rE 1 eStr x50),(4,rE 1 (eSl true 7 Term.enc) v86),(6,rE 7 Term.enc x87)] (.keep rfl (.keep rfl (.keep rfl (.keep rfl (.keep rfl (.move (.head _) (List.length_map _) (by decide) (.move (.tail _ (.head _)) (List.length_map _) (by decide) (.move (.tail _ (.tail _ (.head _))) (List.length_map _) (by decide) (.nil)))))))))) (zF 3 (zHR 30 30 102 102 8 120 8 0 7 (Pack.enc true) (.tmp 54) (.tmp 56) h90) zB)) ?_
  refine J_d 467 [] [4] [(4,iv (w64 (s46.2+1)))] [] [] zB ?_
  refine zBD 8 0 (Nat.le_of_ble_eq_true rfl) (Nat.le_of_ble_eq_true rfl) ?_
  exact J_q (J_b (ih (x89,w64 (s46.2+1)))) rfl
 ·exact yN (hk s46.1) rfl
theorem kP.ok (a1:(List Pack)):Ok Tryz.prog 157 [sl 8 (Pack.enc false) a1] [] ((kP a1).map fun r=>(so 8 (Pack.enc true) r,[])):=by
 refine zH c157 Tryz.f157 0 59 (fun q=>?_)
 unfold kP
 refine J_g 2 [] [(0,sl 8 (Pack.enc false) a1)] [] zB ?_
 refine J_g 6 [] [(0,sl 8 (Pack.enc false) a1),(3,rr 0 ([]:List Pack))] [(0,rE 8 (Pack.enc false) ([]:List Pack))] (zF 0 (zFk 30 102 8 0 (Pack.enc false) ([]:List Pack) [] [] []) zB) ?_
 refine J_d 28 [] [4] [(4,iv 0)] [] [] zB ?_
 refine zFJ (zC1.ok a1 q _ (fun v91=>J_j ?_) (([]:List Pack),0))
 refine J_g 30 [] [(2,rr 0 v91)] [(0,rE 8 (Pack.enc true) v91)] zB ?_
 exact zBq (ds:=[rr 0 v91]) (ds':=[so 8 (Pack.enc true) v91]) (.cons (.cell (.move (.head _) (List.length_map _) (by decide) (.nil))) (.nil) (by decide)) rfl
noncomputable def c86:Code:=(Tryz.f86.body).getD .skip
theorem zGB.ok (a1:System) (a2:wD) (a3:Int):Ok Tryz.prog 86 [.ag (System.enc false a1),.ag (wD.enc false a2),iv a3] [] ((zGB a1 a2 a3).map fun r=>(.ag [iv r.Code,iv r.Choices,so 8 (Pack.enc true) r.System.Catalog,sl 2 (File.enc false) r.System.zD.Files,iv r.System.zD.Budget,iv r.System.zD.Writes,iv r.System.zD.Stop,bv r.System.zD.Down],[])):=by
 refine zH c86 Tryz.f86 0 36 (fun q=>?_)
 unfold zGB
 refine J_g 2 [(0,0),(1,1),(2,2)] [(2,iv a3),(3,pp 0),(4,pp 1),(6,pp 2)] [(0,.box (System.enc false a1)),(1,.box (wD.enc false a2)),(2,.box [iv 0,iv 0,nv,nv,iv 0,iv 0,iv 0,bv false])] zB ?_
 refine wH (atI c86 13) (fun v6:Bool=>St.mk' [(2,iv a3),(3,pp 0),(4,pp 1),(6,pp 2),(21,bv v6)] [(0,.box (System.enc false a1)),(1,.box (wD.enc false a2)),(2,.box [iv 0,iv 0,nv,nv,iv 0,iv 0,iv 0,bv false])]) (fun v6=>?_) (fun jv6=>?_)
 ·refine zG 21 (fun h7=>?_) (fun h7=>?_)
  ·refine J_g 52 [] [(6,pp 2)] [(2,.box [iv a2.Code,iv a3,nv,nv,iv 0,iv 0,iv 0,bv false])] zB ?_
   exact zBq (ds:=[.ag [iv a2.Code,iv a3,nv,nv,iv 0,iv 0,iv 0,bv false]]) (ds':=[.ag [iv a2.Code,iv a3,so 8 (Pack.enc true) ([]:List Pack),sl 2 (File.enc false) ([]:List File),iv 0,iv 0,iv 0,bv false]]) (.cons (.ag (.keep rfl (.keep rfl (.nilsl true 8 (.nilsl false 2 (.keep rfl (.keep rfl (.keep rfl (.keep rfl (.nil)))))))))) (.nil) (by decide)) rfl
  ·refine zA (fun x8 h9=>?_)
   refine J_g 14 [] [(6,pp 2)] [(2,.box [iv a2.Code,iv a3,rr 3 x8,sl 2 (File.enc false) a2.zD.Files,iv a2.zD.Budget,iv a2.zD.Writes,iv a2.zD.Stop,bv a2.zD.Down]),(3,rE 8 (Pack.enc true) x8)] (zF 5 (vQ («as»:=[sl 8 (Pack.enc false) a1.Catalog]) [(.tmp 30)] [30] false [] [] (.cons (.same rfl) (.nil)) (kP.ok a1.Catalog) h9 (.own 3)) zB) ?_
   exact zBq (ds:=[.ag [iv a2.Code,iv a3,rr 3 x8,sl 2 (File.enc false) a2.zD.Files,iv a2.zD.Budget,iv a2.zD.Writes,iv a2.zD.Stop,bv a2.zD.Down]]) (ds':=[.ag [iv a2.Code,iv a3,so 8 (Pack.enc true) x8,sl 2 (File.enc false) a2.zD.Files,iv a2.zD.Budget,iv a2.zD.Writes,iv a2.zD.Stop,bv a2.zD.Down]]) (.cons (.ag (.keep rfl (.keep rfl (.move (.tail _ (.head _)) (List.length_map _) (by decide) (.keep rfl (.keep rfl (.keep rfl (.keep rfl (.keep rfl (.nil)))))))))) (.nil) (by decide)) rfl
 ·refine wT (fun h4=>?_) (fun h4=>?_)
  ·refine wT (fun h5=>?_) (fun h5=>?_)
   ·refine J_d 12 [] [21] [(21,bv (a2.Code !=9))] [] [] (wE 3 [(9,bv (a2.Code !=0))] [] h4 (wE 10 [(16,bv ((a2.zD.Files.length:Int)==0))] [] h5 zB)) ?_
    exact yN (J_j (jv6 (a2.Code !=9))) rfl
   ·refine J_d 12 [] [21] [(21,bv false)] [] [] (wE 3 [(9,bv (a2.Code !=0))] [] h4 (wE 10 [(16,bv ((a2.zD.Files.length:Int)==0))] [] h5 zB)) ?_
    exact yN (J_j (jv6 false)) rfl
  ·refine J_d 12 [] [21] [(21,bv false)] [] [] (wE 3 [(9,bv (a2.Code !=0))] [] h4 zB) ?_
   exact yN (J_j (jv6 false)) rfl
theorem zEa.ok (a1:System) (a2:wD) (a3:Int):Ok Tryz.prog 86 [.ag (System.enc false a1),.ag [iv a2.Code,rr 0 a2.zD.Files,iv a2.zD.Budget,iv a2.zD.Writes,iv a2.zD.Stop,bv a2.zD.Down],iv a3] [rE 2 (File.enc true) a2.zD.Files] ((zEa a1 a2 a3).map fun r=>(.ag (zC.enc true r),[])):=by
 refine zH c86 Tryz.f86 1 36 (fun q=>?_)
 unfold zEa
 refine J_d 2 [(0,1),(1,2),(2,3)] [0,1,3,4,6] [(3,pp 1),(4,pp 2),(6,pp 3)] [1,2,3] [(1,.box (System.enc false a1)),(2,.box [iv a2.Code,rr 0 a2.zD.Files,iv a2.zD.Budget,iv a2.zD.Writes,iv a2.zD.Stop,bv a2.zD.Down]),(3,.box [iv 0,iv 0,nv,nv,iv 0,iv 0,iv 0,bv false])] zB ?_
 refine wH (atI c86 13) (fun v6:Bool=>St.mk' [(2,iv a3),(3,pp 1),(4,pp 2),(6,pp 3),(21,bv v6)] [(0,rE 2 (File.enc true) a2.zD.Files),(1,.box (System.enc false a1)),(2,.box [iv a2.Code,rr 0 a2.zD.Files,iv a2.zD.Budget,iv a2.zD.Writes,iv a2.zD.Stop,bv a2.zD.Down]),(3,.box [iv 0,iv 0,nv,nv,iv 0,iv 0,iv 0,bv false])]) (fun v6=>?_) (fun jv6=>?_)
 ·refine zG 21 (fun h7=>?_) (fun h7=>?_)
  ·refine J_g 52 [] [(6,pp 3)] [(0,rE 2 (File.enc true) a2.zD.Files),(3,.box [iv a2.Code,iv a3,nv,nv,iv 0,iv 0,iv 0,bv false])] zB ?_
   exact zBq (ds:=[.ag [iv a2.Code,iv a3,nv,nv,iv 0,iv 0,iv 0,bv false]]) (ds':=[.ag [iv a2.Code,iv a3,so 8 (Pack.enc true) ([]:List Pack),so 2 (File.enc true) ([]:List File),iv 0,iv 0,iv 0,bv false]]) (.cons (.ag (.keep rfl (.keep rfl (.nilsl true 8 (.nilsl true 2 (.keep rfl (.keep rfl (.keep rfl (.keep rfl (.nil)))))))))) (.nil) (by decide)) rfl
  ·refine zA (fun x8 h9=>?_)
   refine J_g 14 [] [(6,pp 3)] [(0,rE 2 (File.enc true) a2.zD.Files),(3,.box [iv a2.Code,iv a3,rr 4 x8,rr 0 a2.zD.Files,iv a2.zD.Budget,iv a2.zD.Writes,iv a2.zD.Stop,bv a2.zD.Down]),(4,rE 8 (Pack.enc true) x8)] (zF 5 (vQ («as»:=[sl 8 (Pack.enc false) a1.Catalog]) [(.tmp 30)] [30] false [] [] (.cons (.same rfl) (.nil)) (kP.ok a1.Catalog) h9 (.own 4)) zB) ?_
   exact zBq (ds:=[.ag [iv a2.Code,iv a3,rr 4 x8,rr 0 a2.zD.Files,iv a2.zD.Budget,iv a2.zD.Writes,iv a2.zD.Stop,bv a2.zD.Down]]) (ds':=[.ag [iv a2.Code,iv a3,so 8 (Pack.enc true) x8,so 2 (File.enc true) a2.zD.Files,iv a2.zD.Budget,iv a2.zD.Writes,iv a2.zD.Stop,bv a2.zD.Down]]) (.cons (.ag (.keep rfl (.keep rfl (.move (.tail _ (.tail _ (.head _))) (List.length_map _) (by decide) (.move (.head _) (List.length_map _) (by decide) (.keep rfl (.keep rfl (.keep rfl (.keep rfl (.nil)))))))))) (.nil) (by decide)) rfl
 ·refine wT (fun h4=>?_) (fun h4=>?_)
  ·refine wT (fun h5=>?_) (fun h5=>?_)
   ·refine J_d 12 [] [21] [(21,bv (a2.Code !=9))] [] [] (wE 3 [(9,bv (a2.Code !=0))] [] h4 (wE 10 [(16,bv ((a2.zD.Files.length:Int)==0))] [] h5 zB)) ?_
    exact yN (J_j (jv6 (a2.Code !=9))) rfl
   ·refine J_d 12 [] [21] [(21,bv false)] [] [] (wE 3 [(9,bv (a2.Code !=0))] [] h4 (wE 10 [(16,bv ((a2.zD.Files.length:Int)==0))] [] h5 zB)) ?_
    exact yN (J_j (jv6 false)) rfl
  ·refine J_d 12 [] [21] [(21,bv false)] [] [] (wE 3 [(9,bv (a2.Code !=0))] [] h4 zB) ?_
   exact yN (J_j (jv6 false)) rfl
noncomputable def c37:Code:=(Tryz.f37.body).getD .skip
theorem kV.ok (a1:System):Ok Tryz.prog 37 [.ag (System.enc false a1)] [] ((kV a1).map fun r=>(.ag (zC.enc true r),[])):=by
 refine zH c37 Tryz.f37 0 15 (fun q=>?_)
 unfold kV
 refine J_g 2 [(0,0),(1,1)] [(1,pp 0),(2,pp 1)] [(0,.box (System.enc false a1)),(1,.box [iv 0,iv 0,nv,nv,iv 0,iv 0,iv 0,bv false])] zB ?_
 refine zA (fun x2 h3=>?_)
 refine J_g 12 [] [(1,pp 0),(2,pp 1),(3,iv x2)] [(0,.box (System.enc false a1)),(1,.box [iv 0,iv 0,nv,nv,iv 0,iv 0,iv 0,bv false])] (zF 1 (xC [(.tmp 4)] [35] (uW.ok a1) h3) zB) ?_
 refine J_d 26 [] [7] [(7,bv (x2 !=0))] [] [] zB ?_
 refine zG 7 (fun h4=>?_) (fun h4=>?_)
 ·refine J_g 108 [] [(2,pp 1)] [(1,.box [iv x2,iv 0,nv,nv,iv 0,iv 0,iv 0,bv false])] zB ?_
  exact zBq (ds:=[.ag [iv x2,iv 0,nv,nv,iv 0,iv 0,iv 0,bv false]]) (ds':=[.ag [iv x2,iv 0,so 8 (Pack.enc true) ([]:List Pack),so 2 (File.enc true) ([]:List File),iv 0,iv 0,iv 0,bv false]]) (.cons (.ag (.keep rfl (.keep rfl (.nilsl true 8 (.nilsl true 2 (.keep rfl (.keep rfl (.keep rfl (.keep rfl (.nil)))))))))) (.nil) (by decide)) rfl
 ·refine zA (fun x5 h6=>?_)
  refine zA (fun x7 h8=>?_)
  refine J_g 14 [] [(2,pp 1)] [(1,.box [iv x7.Code,iv x7.Choices,rr 3 x7.System.Catalog,rr 4 x7.System.zD.Files,iv x7.System.zD.Budget,iv x7.System.zD.Writes,iv x7.System.zD.Stop,bv x7.System.zD.Down]),(3,rE 8 (Pack.enc true) x7.System.Catalog),(4,rE 2 (File.enc true) x7.System.zD.Files)] (zF 3 (vQ («as»:=[.ag (zD.enc false a1.zD)]) [(.tmp 12)] [33] false [] [] (.cons (.same rfl) (.nil)) (zES.ok a1.zD) h6 (.ag (.cons (.same rfl rfl) (.cons (.own 2) (.cons (.same rfl rfl) (.cons (.same rfl rfl) (.cons (.same rfl rfl) (.cons (.same rfl rfl) (.nil))))))))) (zF 4 (vQ («as»:=[.ag (System.enc false a1),.ag [iv x5.Code,rr 2 x5.zD.Files,iv x5.zD.Budget,iv x5.zD.Writes,iv x5.zD.Stop,bv x5.zD.Down],iv 0]) [(.tmp 10),(.tmp 13),(.const (.int .i64 0))] [35,43,2] false [(2,rE 2 (File.enc true) x5.zD.Files)] [2] (.cons (.same rfl) (.cons (.ag (.cons (.same rfl) (.cons (.rf rfl) (.cons (.same rfl) (.cons (.same rfl) (.cons (.same rfl) (.cons (.same rfl) (.nil)))))))) (.cons (.same rfl) (.nil)))) (zEa.ok a1 x5 0) h8 (.ag (.cons (.same rfl rfl) (.cons (.same rfl rfl) (.cons (.own 3) (.cons (.own 4) (.cons (.same rfl rfl) (.cons (.same rfl rfl) (.cons (.same rfl rfl) (.cons (.same rfl rfl) (.nil))))))))))) zB)) ?_
  exact zBq (ds:=[.ag [iv x7.Code,iv x7.Choices,rr 3 x7.System.Catalog,rr 4 x7.System.zD.Files,iv x7.System.zD.Budget,iv x7.System.zD.Writes,iv x7.System.zD.Stop,bv x7.System.zD.Down]]) (ds':=[.ag (zC.enc true x7)]) (.cons (.ag (.keep rfl (.keep rfl (.move (.tail _ (.head _)) (List.length_map _) (by decide) (.move (.tail _ (.tail _ (.head _))) (List.length_map _) (by decide) (.keep rfl (.keep rfl (.keep rfl (.keep rfl (.nil)))))))))) (.nil) (by decide)) rfl
noncomputable def zUs:Code:=(Tryz.f184.body).getD .skip
theorem wC.ok (a1:Int):Ok Tryz.prog 184 [uv a1] [] ((wC a1).map fun r=>(bv r,[])):=by
 refine zH zUs Tryz.f184 0 21 (fun q=>?_)
 unfold wC
 refine J_g 2 [] [(0,uv a1)] [] zB ?_
 refine wT (fun h2=>?_) (fun h2=>?_)
 ·refine wT (fun h3=>?_) (fun h3=>?_)
  ·refine J_g 6 [] [(2,bv true)] [] (wE 2 [(4,bv (decide (a1≥97)))] [] h2 (wE 6 [(8,bv (decide (a1≤122)))] [] h3 (zTa 9 (zTd (i:=9) (g:=6) (t:=9) (b:=false) (v:=(.bool true)) (.inl rfl) (by kernel_rfl) (by kernel_rfl)) (zTa 10 (zTd (i:=10) (g:=9) (t:=12) (b:=true) (v:=undef) (.inr rfl) (by kernel_rfl) (by kernel_rfl)) (zTa 11 (zTd (i:=11) (g:=9) (t:=12) (b:=true) (v:=undef) (.inr rfl) (by kernel_rfl) (by kernel_rfl)) zB))))) ?_
   exact zM rfl
  ·refine wT (fun h4=>?_) (fun h4=>?_)
   ·refine wT (fun h5=>?_) (fun h5=>?_)
    ·refine J_g 6 [] [(2,bv true)] [] (wE 2 [(4,bv (decide (a1≥97)))] [] h2 (wE 6 [(8,bv (decide (a1≤122)))] [] h3 (zOb 9 6 9 false [(11,bv (decide (a1≥48)))] [] h4 (wE 14 [(16,bv (decide (a1≤57)))] [] h5 zB)))) ?_
     exact zM rfl
    ·refine J_g 6 [] [(2,bv (a1==95))] [] (wE 2 [(4,bv (decide (a1≥97)))] [] h2 (wE 6 [(8,bv (decide (a1≤122)))] [] h3 (zOb 9 6 9 false [(11,bv (decide (a1≥48)))] [] h4 (wE 14 [(16,bv (decide (a1≤57)))] [] h5 zB)))) ?_
     exact zM rfl
   ·refine J_g 6 [] [(2,bv (a1==95))] [] (wE 2 [(4,bv (decide (a1≥97)))] [] h2 (wE 6 [(8,bv (decide (a1≤122)))] [] h3 (zOb 9 6 9 false [(11,bv (decide (a1≥48)))] [] h4 zB))) ?_
    exact zM rfl
 ·refine wT (fun h6=>?_) (fun h6=>?_)
  ·refine wT (fun h7=>?_) (fun h7=>?_)
   ·refine J_g 6 [] [(2,bv true)] [] (wE 2 [(4,bv (decide (a1≥97)))] [] h2 (zOb 9 6 9 false [(11,bv (decide (a1≥48)))] [] h6 (wE 14 [(16,bv (decide (a1≤57)))] [] h7 zB))) ?_
    exact zM rfl
   ·refine J_g 6 [] [(2,bv (a1==95))] [] (wE 2 [(4,bv (decide (a1≥97)))] [] h2 (zOb 9 6 9 false [(11,bv (decide (a1≥48)))] [] h6 (wE 14 [(16,bv (decide (a1≤57)))] [] h7 zB))) ?_
    exact zM rfl
  ·refine J_g 6 [] [(2,bv (a1==95))] [] (wE 2 [(4,bv (decide (a1≥97)))] [] h2 (zOb 9 6 9 false [(11,bv (decide (a1≥48)))] [] h6 zB)) ?_
   exact zM rfl
noncomputable def zR9:Code:=(Tryz.f186.body).getD .skip
theorem zAl.ok (a1:ByteArray) (q:Wd) (kn:Unit→Option (D×List Ent)) (hk:∀v:Unit,J (q.g Tryz.prog 186 0 33) zR9 (atI zR9 15) (St.mk' [] []) (some v) kn):
  ∀s17:Int,J (q.g Tryz.prog 186 0 33) zR9 (atI zR9 116) (St.mk' [(0,sv a1),(23,iv (a1.size:Int)),(24,iv s17)] []) (zAl a1 s17) (Fl.go (fun r:Int=>some (iv r,[])) kn):=by
 refine tQ (fun g ih s17=>?_)
 unfold zCQ
 refine J_d 232 [] [25] [(25,bv (decide (s17< (a1.size:Int))))] [] [] zB ?_
 refine zG 25 (fun h18=>?_) (fun h18=>?_)
 ·refine J_d 3736 [] [3,25] [(3,iv s17)] [] [] zB ?_
  refine zA (fun x19 h20=>?_)
  refine zA (fun x21 h22=>?_)
  refine J_d 7474 [] [3,31] [(31,bv (!x21))] [] [] (zF 2 (zJL (kk:=.i64) 9 (.tmp 27) (.tmp 28) h20) (zF 3 (xC [(.tmp 29)] [5] (wC.ok x19) h22) zB)) ?_
  refine zG 31 (fun h23=>?_) (fun h23=>?_)
  ·refine J_g 29900 [] [(2,iv 5)] [] zB ?_
   exact zM rfl
  ·refine J_d 935 [] [24,31] [(24,iv (w64 (s17+1)))] [] [] zB ?_
   exact J_q (J_b (ih (w64 (s17+1)))) rfl
 ·exact yN (hk ()) rfl
theorem wZ.ok (a1:ByteArray):Ok Tryz.prog 186 [sv a1] [] ((wZ a1).map fun r=>(iv r,[])):=by
 refine zH zR9 Tryz.f186 0 33 (fun q=>?_)
 unfold wZ
 refine J_g 2 [] [(0,sv a1)] [] zB ?_
 refine wH (atI zR9 13) (fun v9:Bool=>St.mk' [(0,sv a1),(21,bv v9)] []) (fun v9=>?_) (fun jv9=>?_)
 ·refine zG 21 (fun h10=>?_) (fun h10=>?_)
  ·refine J_g 52 [] [(2,iv 5)] [] zB ?_
   exact zM rfl
  ·refine J_g 28 [] [(0,sv a1),(23,iv (a1.size:Int)),(24,iv 0)] [] zB ?_
   refine vZ (K0:=(fun r:Int=>some (iv r,[]))) (fun _=>rfl) (zAl.ok a1 q _ (fun v24=>J_j ?_) 0)
   refine J_g 30 [] [(2,iv 0)] [] zB ?_
   exact zM rfl
 ·refine wT (fun h2=>?_) (fun h2=>?_)
  ·refine J_g 12 [] [(0,sv a1),(21,bv true)] [] (wE 3 [(6,bv (decide ((a1.size:Int)<1)))] [] h2 zB) ?_
   exact yN (J_j (jv9 true)) rfl
  ·refine wT (fun h3=>?_) (fun h3=>?_)
   ·refine J_g 12 [] [(0,sv a1),(21,bv true)] [] (wE 3 [(6,bv (decide ((a1.size:Int)<1)))] [] h2 (wE 8 [(11,bv (decide ((a1.size:Int)>12)))] [] h3 zB)) ?_
    exact yN (J_j (jv9 true)) rfl
   ·refine zA (fun x4 h5=>?_)
    refine wT (fun h6=>?_) (fun h6=>?_)
    ·refine J_g 12 [] [(0,sv a1),(21,bv true)] [] (wE 3 [(6,bv (decide ((a1.size:Int)<1)))] [] h2 (wE 8 [(11,bv (decide ((a1.size:Int)>12)))] [] h3 (zBr 10 8 12 false (zJL (kk:=.i64) 9 (.tmp 13) (.const (.int .i64 0)) h5) (wE 13 [(16,bv (decide (x4<97)))] [] h6 zB)))) ?_
     exact yN (J_j (jv9 true)) rfl
    ·refine zA (fun x7 h8=>?_)
     refine J_g 12 [] [(0,sv a1),(21,bv (decide (x7>122)))] [] (wE 3 [(6,bv (decide ((a1.size:Int)<1)))] [] h2 (wE 8 [(11,bv (decide ((a1.size:Int)>12)))] [] h3 (zBr 10 8 12 false (zJL (kk:=.i64) 9 (.tmp 13) (.const (.int .i64 0)) h5) (wE 13 [(16,bv (decide (x4<97)))] [] h6 (zBr 15 13 17 false (zJL (kk:=.i64) 9 (.tmp 18) (.const (.int .i64 0)) h8) zB))))) ?_
     exact yN (J_j (jv9 (decide (x7>122)))) rfl
noncomputable def c175:Code:=(Tryz.f175.body).getD .skip
theorem xZ.ok (a1:Int) (a2:Int) (a3:Int):Ok Tryz.prog 175 [iv a1,iv a2,iv a3] [] ((xZ a1 a2 a3).map fun r=>(bv r,[])):=by
 refine zH c175 Tryz.f175 0 15 (fun q=>?_)
 unfold xZ
 refine J_d 2 [] [] [] [] [] zB ?_
 refine wT (fun h4=>?_) (fun h4=>?_)
 ·refine J_g 6 [] [(6,bv (decide (a1≤a3)))] [] (wE 3 [(9,bv (decide (a2≤a1)))] [] h4 zB) ?_
  exact zM rfl
 ·refine J_g 6 [] [(6,bv false)] [] (wE 3 [(9,bv (decide (a2≤a1)))] [] h4 zB) ?_
  exact zM rfl
noncomputable def zTt:Code:=(Tryz.f240.body).getD .skip
theorem wV.ok (a1:Version):Ok Tryz.prog 240 [.ag (Version.enc a1)] [] ((wV a1).map fun r=>(iv r,[])):=by
 refine zH zTt Tryz.f240 0 19 (fun q=>?_)
 unfold wV
 refine J_g 2 [(0,0)] [(1,pp 0)] [(0,.box (Version.enc a1))] zB ?_
 refine zA (fun x2 h3=>?_)
 refine wH (atI zTt 13) (fun v10:Bool=>St.mk' [(18,bv v10)] []) (fun v10=>?_) (fun jv10=>?_)
 ·refine zG 18 (fun h11=>?_) (fun h11=>?_)
  ·refine J_g 52 [] [(2,iv 3)] [] zB ?_
   exact zM rfl
  ·refine J_g 14 [] [(2,iv 0)] [] zB ?_
   exact zM rfl
 ·refine wT (fun h4=>?_) (fun h4=>?_)
  ·refine J_g 12 [] [(18,bv true)] [] (zF 2 (xC [(.tmp 4),(.const (.int .i64 0)),(.const (.int .i64 999))] [2,2,2] (xZ.ok a1.A 0 999) h3) (wE 4 [(6,bv (!x2))] [] h4 zB)) ?_
   exact yN (J_j (jv10 true)) rfl
  ·refine zA (fun x5 h6=>?_)
   refine wT (fun h7=>?_) (fun h7=>?_)
   ·refine J_g 12 [] [(18,bv true)] [] (zF 2 (xC [(.tmp 4),(.const (.int .i64 0)),(.const (.int .i64 999))] [2,2,2] (xZ.ok a1.A 0 999) h3) (wE 4 [(6,bv (!x2))] [] h4 (zBr 7 4 7 false (xC [(.tmp 9),(.const (.int .i64 0)),(.const (.int .i64 999))] [2,2,2] (xZ.ok a1.B 0 999) h6) (wE 10 [(12,bv (!x5))] [] h7 zB)))) ?_
    exact yN (J_j (jv10 true)) rfl
   ·refine zA (fun x8 h9=>?_)
    refine J_g 12 [] [(18,bv (!x8))] [] (zF 2 (xC [(.tmp 4),(.const (.int .i64 0)),(.const (.int .i64 999))] [2,2,2] (xZ.ok a1.A 0 999) h3) (wE 4 [(6,bv (!x2))] [] h4 (zBr 7 4 7 false (xC [(.tmp 9),(.const (.int .i64 0)),(.const (.int .i64 999))] [2,2,2] (xZ.ok a1.B 0 999) h6) (wE 10 [(12,bv (!x5))] [] h7 (zBr 13 10 13 false (xC [(.tmp 15),(.const (.int .i64 0)),(.const (.int .i64 999))] [2,2,2] (xZ.ok a1.C 0 999) h9) zB))))) ?_
    exact yN (J_j (jv10 (!x8))) rfl
noncomputable def c98:Code:=(Tryz.f98.body).getD .skip
theorem zAa.ok (a1:(List Int)) (q:Wd) (kn:Unit→Option (D×List Ent)) (hk:∀v:Unit,J (q.g Tryz.prog 98 0 15) c98 (atI c98 7) (St.mk' [] []) (some v) kn):
  ∀s6:Int,J (q.g Tryz.prog 98 0 15) c98 (atI c98 52) (St.mk' [(5,sl 1 zU a1),(6,iv (a1.length:Int)),(7,iv s6)] []) (zAa a1 s6) (Fl.go (fun r:Int=>some (iv r,[])) kn):=by
 refine tQ (fun g ih s6=>?_)
 unfold zAL
 refine J_d 104 [] [8] [(8,bv (decide (s6< (a1.length:Int))))] [] [] zB ?_
 refine zG 8 (fun h7=>?_) (fun h7=>?_)
 ·refine zA (fun x8 h9=>?_)
  refine J_g 1688 [] [(4,iv x8),(5,sl 1 zU a1),(6,iv (a1.length:Int)),(7,iv s6)] [] (zF 0 (vI (kk:=.i64) 39 2 1 zU (.tmp 5) (.tmp 7) h9) zB) ?_
  refine J_d 3378 [] [12] [(12,bv (x8 !=0))] [] [] zB ?_
  refine zG 12 (fun h10=>?_) (fun h10=>?_)
  ·refine J_g 13516 [] [(2,iv x8)] [] zB ?_
   exact zM rfl
  ·refine J_d 423 [] [4,7,12] [(7,iv (w64 (s6+1)))] [] [] zB ?_
   exact J_q (J_b (ih (w64 (s6+1)))) rfl
 ·exact yN (hk ()) rfl
theorem vS.ok (a1:(List Int)):Ok Tryz.prog 98 [sl 1 zU a1] [] ((vS a1).map fun r=>(iv r,[])):=by
 refine zH c98 Tryz.f98 0 15 (fun q=>?_)
 unfold vS
 refine J_g 2 [] [(0,sl 1 zU a1)] [] zB ?_
 refine J_g 12 [] [(5,sl 1 zU a1),(6,iv (a1.length:Int)),(7,iv 0)] [] zB ?_
 refine vZ (K0:=(fun r:Int=>some (iv r,[]))) (fun _=>rfl) (zAa.ok a1 q _ (fun v11=>J_j ?_) 0)
 refine J_g 14 [] [(2,iv 0)] [] zB ?_
 exact zM rfl
noncomputable def zUk:Code:=(Tryz.f242.body).getD .skip
theorem zAJ.ok (a1:(List Term)):Ok Tryz.prog 242 [sl 7 Term.enc a1] [] ((zAJ a1).map fun r=>(bv r,[])):=by
 refine zH zUk Tryz.f242 0 6 (fun q=>?_)
 unfold zAJ
 refine J_g 2 [] [(0,sl 7 Term.enc a1)] [] zB ?_
 refine J_g 6 [] [(2,bv (decide ((a1.length:Int)>4)))] [] zB ?_
 exact zM rfl
noncomputable def zRX:Code:=(Tryz.f293.body).getD .skip
theorem yR.ok (a1:(List (List Term))) (q:Wd) (kn:Unit→Option (D×List Ent)) (hk:∀v:Unit,J (q.g Tryz.prog 293 0 19) zRX (atI zRX 7) (St.mk' [] []) (some v) kn):
  ∀s8:Int,J (q.g Tryz.prog 293 0 19) zRX (atI zRX 52) (St.mk' [(0,sl 1 (eSl false 7 Term.enc) a1),(1,.fn 242 []),(7,iv (a1.length:Int)),(8,iv s8)] []) (yR a1 s8) (Fl.go (fun r:Int=>some (iv r,[])) kn):=by
 refine tQ (fun g ih s8=>?_)
 unfold yK
 refine J_d 104 [] [9] [(9,bv (decide (s8< (a1.length:Int))))] [] [] zB ?_
 refine zG 9 (fun h9=>?_) (fun h9=>?_)
 ·refine J_d 1688 [] [5,9] [(5,iv s8)] [] [] zB ?_
  refine zA (fun x10 h11=>?_)
  refine zA (fun x12 h13=>?_)
  refine J_d 3378 [] [16] [(16,bv x12)] [] [] (zF 3 (vI (kk:=.i64) 100 75 1 (eSl false 7 Term.enc) (.tmp 12) (.tmp 13) h11) (zF 5 (zP5 («as»:=[sl 7 Term.enc x10]) (caps:=[]) 11 [(.tmp 15)] [75] (zAJ.ok x10) h13) zB)) ?_
  refine zG 16 (fun h14=>?_) (fun h14=>?_)
  ·refine J_g 13516 [] [(4,iv s8)] [] zB ?_
   exact zM rfl
  ·refine J_d 423 [] [5,8,16] [(8,iv (w64 (s8+1)))] [] [] zB ?_
   exact J_q (J_b (ih (w64 (s8+1)))) rfl
 ·exact yN (hk ()) rfl
theorem yG.ok (a1:(List (List Term))):Ok Tryz.prog 293 [sl 1 (eSl false 7 Term.enc) a1,.fn 242 []] [] ((yG a1).map fun r=>(iv r,[])):=by
 refine zH zRX Tryz.f293 0 19 (fun q=>?_)
 unfold yG
 refine J_g 2 [] [(0,sl 1 (eSl false 7 Term.enc) a1),(1,.fn 242 [])] [] zB ?_
 refine J_d 12 [] [7,8] [(7,iv (a1.length:Int)),(8,iv 0)] [] [] zB ?_
 refine vZ (K0:=(fun r:Int=>some (iv r,[]))) (fun _=>rfl) (yR.ok a1 q _ (fun v15=>J_j ?_) 0)
 refine J_g 14 [] [(4,iv (-1))] [] zB ?_
 exact zM rfl
noncomputable def zUt:Code:=(Tryz.f241.body).getD .skip
theorem zR.ok (a1:(List (List Term))):Ok Tryz.prog 241 [sl 1 (eSl false 7 Term.enc) a1,.fn 242 []] [] ((zR a1).map fun r=>(bv r,[])):=by
 refine zH zUt Tryz.f241 0 9 (fun q=>?_)
 unfold zR
 refine J_d 2 [] [] [] [] [] zB ?_
 refine zA (fun x2 h3=>?_)
 refine J_g 6 [] [(4,bv (decide (x2≥0)))] [] (zF 2 (vQ («as»:=[sl 1 (eSl false 7 Term.enc) a1,.fn 242 []]) [(.tmp 5),(.tmp 6)] [100,154] false [] [] (.cons (.same rfl) (.cons (.fn (.nil)) (.nil))) (yG.ok a1) h3 (.same rfl rfl)) zB) ?_
 exact zM rfl
end Go.Told

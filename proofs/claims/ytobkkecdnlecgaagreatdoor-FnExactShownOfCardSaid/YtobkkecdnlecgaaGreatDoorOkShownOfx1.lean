import Derived.Test.YtobkkecdnlecgaaGreatDoorToldShownOf
import Derived.Test.YtobkkecdnlecgaaGreatDoorShelfShownOf
import Derived.Test.YtobkkecdnlecgaaGreatDoorProg
set_option linter.unusedVariables false
set_option maxRecDepth 4000
namespace Go.Told
open Go Go.Im Go.Proofs
noncomputable def c109:Code:=(Tryz.f109.body).getD .skip
theorem zBk.ok (a1:(List ByteArray)) (q:Wd) (kn:Int→Option (D×List Ent)) (hk:∀v:Int,J (q.g Tryz.prog 109 0 28) c109 (atI c109 31) (St.mk' [(1,iv v)] []) (some v) kn):
  ∀s8:(Int×Int),J (q.g Tryz.prog 109 0 28) c109 (atI c109 244) (St.mk' [(0,sl 1 eStr a1),(1,iv s8.1),(5,iv s8.2)] []) (zBk a1 s8) (Fl.go (fun r:Int=>some (iv r,[])) kn):=by
 refine jJ (fun g ih s8=>?_)
 unfold zAP
 refine J_g 976 [] [(0,sl 1 eStr a1),(1,iv s8.1),(5,iv s8.2),(15,bv (decide (s8.2< (a1.length:Int))))] [] zB ?_
 refine zD 15 (fun h9=>?_) (fun h9=>?_)
 ·refine zA (fun x10 h11=>?_)
  refine J_g 3912 [] [(0,sl 1 eStr a1),(1,iv (w64 (s8.1-(x10.size:Int)))),(5,iv s8.2)] [] (zC 3 (uN (kk:=.i64) 86 9 1 eStr (.tmp 19) (.tmp 20) h11) zB) ?_
  refine J_g 7826 [] [(0,sl 1 eStr a1),(1,iv (w64 (s8.1-(x10.size:Int)))),(5,iv s8.2),(26,bv (decide ((w64 (s8.1-(x10.size:Int)))<0)))] [] zB ?_
  refine zD 26 (fun h12=>?_) (fun h12=>?_)
  ·refine J_g 31308 [] [(4,iv (-1))] [] zB ?_
   exact zR rfl
  ·refine J_g 979 [] [(0,sl 1 eStr a1),(1,iv (w64 (s8.1-(x10.size:Int)))),(5,iv (w64 (s8.2+1)))] [] zB ?_
   exact J_q (J_b (ih (w64 (s8.1-(x10.size:Int)),w64 (s8.2+1)))) rfl
 ·exact xB (hk s8.1) rfl
theorem zBg.ok (a1:(List ByteArray)) (a2:Int):Ok Tryz.prog 109 [sl 1 eStr a1,iv a2] [] ((zBg a1 a2).map fun r=>(iv r,[])):=by
 refine zH c109 Tryz.f109 0 28 (fun q=>?_)
 unfold zBg
 refine J_g 2 [] [(0,sl 1 eStr a1),(1,iv a2)] [] zB ?_
 refine J_g 6 [] [(0,sl 1 eStr a1),(1,iv (w64 (a2-(a1.length:Int))))] [] zB ?_
 refine J_g 28 [] [(0,sl 1 eStr a1),(1,iv (w64 (a2-(a1.length:Int)))),(11,bv (decide ((w64 (a2-(a1.length:Int)))<0)))] [] zB ?_
 refine zD 11 (fun h3=>?_) (fun h3=>?_)
 ·refine J_g 116 [] [(4,iv (-1))] [] zB ?_
  exact zR rfl
 ·refine J_g 60 [] [(0,sl 1 eStr a1),(1,iv (w64 (a2-(a1.length:Int)))),(5,iv 0)] [] zB ?_
  refine vY (K0:=(fun r:Int=>some (iv r,[]))) (fun _=>rfl) (zBk.ok a1 q _ (fun v13=>J_j ?_) (w64 (a2-(a1.length:Int)),0))
  refine J_g 62 [] [(4,iv v13)] [] zB ?_
  exact zR rfl
noncomputable def zSR:Code:=(Tryz.f195.body).getD .skip
theorem zEc.ok (a1:Term) (a2:Int):Ok Tryz.prog 195 [.ag (Term.enc a1),iv a2] [] ((zEc a1 a2).map fun r=>(iv r,[])):=by
 refine zH zSR Tryz.f195 0 13 (fun q=>?_)
 unfold zEc
 refine J_g 2 [(0,0)] [(1,iv a2),(2,pp 0)] [(0,.box (Term.enc a1))] zB ?_
 refine J_g 6 [] [(1,iv (w64 (a2-(a1.Name.size:Int))))] [] zB ?_
 refine J_g 28 [] [(1,iv (w64 (a2-(a1.Name.size:Int)))),(11,bv (decide ((w64 (a2-(a1.Name.size:Int)))<0)))] [] zB ?_
 refine zD 11 (fun h3=>?_) (fun h3=>?_)
 ·refine J_g 116 [] [(4,iv (-1))] [] zB ?_
  exact zR rfl
 ·refine J_g 30 [] [(4,iv (w64 (a2-(a1.Name.size:Int))))] [] zB ?_
  exact zR rfl
noncomputable def zR6:Code:=(Tryz.f111.body).getD .skip
theorem zCA.ok (a1:(List Term)) (q:Wd) (kn:Int→Option (D×List Ent)) (hk:∀v:Int,J (q.g Tryz.prog 111 0 27) zR6 (atI zR6 31) (St.mk' [(1,iv v)] []) (some v) kn):
  ∀s10:(Int×Int),J (q.g Tryz.prog 111 0 27) zR6 (atI zR6 244) (St.mk' [(0,sl 7 Term.enc a1),(1,iv s10.1),(5,iv s10.2)] []) (zCA a1 s10) (Fl.go (fun r:Int=>some (iv r,[])) kn):=by
 refine jJ (fun g ih s10=>?_)
 unfold zBI
 refine J_g 976 [] [(0,sl 7 Term.enc a1),(1,iv s10.1),(5,iv s10.2),(15,bv (decide (s10.2< (a1.length:Int))))] [] zB ?_
 refine zD 15 (fun h11=>?_) (fun h11=>?_)
 ·refine zA (fun x12 h13=>?_)
  refine zA (fun x14 h15=>?_)
  refine J_g 3912 [] [(0,sl 7 Term.enc a1),(1,iv x14),(5,iv s10.2)] [] (zC 2 (uN (kk:=.i64) 88 224 7 Term.enc (.tmp 18) (.tmp 19) h13) (zC 5 (xO [(.tmp 21),(.tmp 22)] [224,3] (zEc.ok x12 s10.1) h15) zB)) ?_
  refine J_g 7826 [] [(0,sl 7 Term.enc a1),(1,iv x14),(5,iv s10.2),(25,bv (decide (x14<0)))] [] zB ?_
  refine zD 25 (fun h16=>?_) (fun h16=>?_)
  ·refine J_g 31308 [] [(4,iv (-1))] [] zB ?_
   exact zR rfl
  ·refine J_g 979 [] [(0,sl 7 Term.enc a1),(1,iv x14),(5,iv (w64 (s10.2+1)))] [] zB ?_
   exact J_q (J_b (ih (x14,w64 (s10.2+1)))) rfl
 ·exact xB (hk s10.1) rfl
theorem zA3.ok (a1:(List Term)) (a2:Int):Ok Tryz.prog 111 [sl 7 Term.enc a1,iv a2] [] ((zA3 a1 a2).map fun r=>(iv r,[])):=by
 refine zH zR6 Tryz.f111 0 27 (fun q=>?_)
 unfold zA3
 refine J_g 2 [] [(0,sl 7 Term.enc a1),(1,iv a2)] [] zB ?_
 refine J_g 6 [] [(0,sl 7 Term.enc a1),(1,iv (w64 (a2-(a1.length:Int))))] [] zB ?_
 refine J_g 28 [] [(0,sl 7 Term.enc a1),(1,iv (w64 (a2-(a1.length:Int)))),(11,bv (decide ((w64 (a2-(a1.length:Int)))<0)))] [] zB ?_
 refine zD 11 (fun h3=>?_) (fun h3=>?_)
 ·refine J_g 116 [] [(4,iv (-1))] [] zB ?_
  exact zR rfl
 ·refine J_g 60 [] [(0,sl 7 Term.enc a1),(1,iv (w64 (a2-(a1.length:Int)))),(5,iv 0)] [] zB ?_
  refine vY (K0:=(fun r:Int=>some (iv r,[]))) (fun _=>rfl) (zCA.ok a1 q _ (fun v17=>J_j ?_) (w64 (a2-(a1.length:Int)),0))
  refine J_g 62 [] [(4,iv v17)] [] zB ?_
  exact zR rfl
noncomputable def zRJ:Code:=(Tryz.f110.body).getD .skip
theorem zBQ.ok (a1:(List (List Term))) (q:Wd) (kn:Int→Option (D×List Ent)) (hk:∀v:Int,J (q.g Tryz.prog 110 0 27) zRJ (atI zRJ 31) (St.mk' [(1,iv v)] []) (some v) kn):
  ∀s10:(Int×Int),J (q.g Tryz.prog 110 0 27) zRJ (atI zRJ 244) (St.mk' [(0,sl 1 (eSl false 7 Term.enc) a1),(1,iv s10.1),(5,iv s10.2)] []) (zBQ a1 s10) (Fl.go (fun r:Int=>some (iv r,[])) kn):=by
 refine jJ (fun g ih s10=>?_)
 unfold zBu
 refine J_g 976 [] [(0,sl 1 (eSl false 7 Term.enc) a1),(1,iv s10.1),(5,iv s10.2),(15,bv (decide (s10.2< (a1.length:Int))))] [] zB ?_
 refine zD 15 (fun h11=>?_) (fun h11=>?_)
 ·refine zA (fun x12 h13=>?_)
  refine zA (fun x14 h15=>?_)
  refine J_g 3912 [] [(0,sl 1 (eSl false 7 Term.enc) a1),(1,iv x14),(5,iv s10.2)] [] (zC 2 (uN (kk:=.i64) 87 88 1 (eSl false 7 Term.enc) (.tmp 18) (.tmp 19) h13) (zC 5 (xO [(.tmp 21),(.tmp 22)] [88,3] (zA3.ok x12 s10.1) h15) zB)) ?_
  refine J_g 7826 [] [(0,sl 1 (eSl false 7 Term.enc) a1),(1,iv x14),(5,iv s10.2),(25,bv (decide (x14<0)))] [] zB ?_
  refine zD 25 (fun h16=>?_) (fun h16=>?_)
  ·refine J_g 31308 [] [(4,iv (-1))] [] zB ?_
   exact zR rfl
  ·refine J_g 979 [] [(0,sl 1 (eSl false 7 Term.enc) a1),(1,iv x14),(5,iv (w64 (s10.2+1)))] [] zB ?_
   exact J_q (J_b (ih (x14,w64 (s10.2+1)))) rfl
 ·exact xB (hk s10.1) rfl
theorem zB3.ok (a1:(List (List Term))) (a2:Int):Ok Tryz.prog 110 [sl 1 (eSl false 7 Term.enc) a1,iv a2] [] ((zB3 a1 a2).map fun r=>(iv r,[])):=by
 refine zH zRJ Tryz.f110 0 27 (fun q=>?_)
 unfold zB3
 refine J_g 2 [] [(0,sl 1 (eSl false 7 Term.enc) a1),(1,iv a2)] [] zB ?_
 refine J_g 6 [] [(0,sl 1 (eSl false 7 Term.enc) a1),(1,iv (w64 (a2-(a1.length:Int))))] [] zB ?_
 refine J_g 28 [] [(0,sl 1 (eSl false 7 Term.enc) a1),(1,iv (w64 (a2-(a1.length:Int)))),(11,bv (decide ((w64 (a2-(a1.length:Int)))<0)))] [] zB ?_
 refine zD 11 (fun h3=>?_) (fun h3=>?_)
 ·refine J_g 116 [] [(4,iv (-1))] [] zB ?_
  exact zR rfl
 ·refine J_g 60 [] [(0,sl 1 (eSl false 7 Term.enc) a1),(1,iv (w64 (a2-(a1.length:Int)))),(5,iv 0)] [] zB ?_
  refine vY (K0:=(fun r:Int=>some (iv r,[]))) (fun _=>rfl) (zBQ.ok a1 q _ (fun v17=>J_j ?_) (w64 (a2-(a1.length:Int)),0))
  refine J_g 62 [] [(4,iv v17)] [] zB ?_
  exact zR rfl
noncomputable def c51:Code:=(Tryz.f51.body).getD .skip
theorem zDR.ok (a1:Pack) (a2:Int):Ok Tryz.prog 51 [.ag (Pack.enc false a1),iv a2] [] ((zDR a1 a2).map fun r=>(iv r,[])):=by
 refine zH c51 Tryz.f51 0 31 (fun q=>?_)
 unfold zDR
 refine J_g 2 [(0,0)] [(1,iv a2),(2,pp 0)] [(0,.box (Pack.enc false a1))] zB ?_
 refine J_g 6 [] [(1,iv (w64 (a2-(a1.Name.size:Int)))),(2,pp 0)] [(0,.box (Pack.enc false a1))] zB ?_
 refine J_g 28 [] [(1,iv (w64 (a2-(a1.Name.size:Int)))),(2,pp 0),(11,bv (decide ((w64 (a2-(a1.Name.size:Int)))<0)))] [(0,.box (Pack.enc false a1))] zB ?_
 refine zD 11 (fun h3=>?_) (fun h3=>?_)
 ·refine J_g 116 [] [(4,iv (-1))] [] zB ?_
  exact zR rfl
 ·refine zA (fun x4 h5=>?_)
  refine J_g 30 [] [(1,iv x4),(2,pp 0)] [(0,.box (Pack.enc false a1))] (zC 3 (xO [(.tmp 13),(.tmp 14)] [86,3] (zBg.ok a1.Provides (w64 (a2-(a1.Name.size:Int)))) h5) zB) ?_
  refine J_g 124 [] [(1,iv x4),(2,pp 0),(17,bv (decide (x4<0)))] [(0,.box (Pack.enc false a1))] zB ?_
  refine zD 17 (fun h6=>?_) (fun h6=>?_)
  ·refine J_g 500 [] [(4,iv (-1))] [] zB ?_
   exact zR rfl
  ·refine zA (fun x7 h8=>?_)
   refine J_g 126 [] [(1,iv x7),(2,pp 0)] [(0,.box (Pack.enc false a1))] (zC 3 (xO [(.tmp 19),(.tmp 20)] [87,3] (zB3.ok a1.Needs x4) h8) zB) ?_
   refine J_g 508 [] [(1,iv x7),(2,pp 0),(23,bv (decide (x7<0)))] [(0,.box (Pack.enc false a1))] zB ?_
   refine zD 23 (fun h9=>?_) (fun h9=>?_)
   ·refine J_g 2036 [] [(4,iv (-1))] [] zB ?_
    exact zR rfl
   ·refine zA (fun x10 h11=>?_)
    refine J_g 510 [] [(1,iv x10)] [] (zC 3 (xO [(.tmp 25),(.tmp 26)] [88,3] (zA3.ok a1.Bars x7) h11) zB) ?_
    refine J_g 2044 [] [(1,iv x10),(29,bv (decide (x10<0)))] [] zB ?_
    refine zD 29 (fun h12=>?_) (fun h12=>?_)
    ·refine J_g 8180 [] [(4,iv (-1))] [] zB ?_
     exact zR rfl
    ·refine J_g 2046 [] [(4,iv x10)] [] zB ?_
     exact zR rfl
noncomputable def c13:Code:=(Tryz.f13.body).getD .skip
theorem zDj.ok (a1:(List Pack)) (q:Wd) (kn:Int→Option (D×List Ent)) (hk:∀v:Int,J (q.g Tryz.prog 13 0 27) c13 (atI c13 31) (St.mk' [(1,iv v)] []) (some v) kn):
  ∀s10:(Int×Int),J (q.g Tryz.prog 13 0 27) c13 (atI c13 244) (St.mk' [(0,sl 8 (Pack.enc false) a1),(1,iv s10.1),(5,iv s10.2)] []) (zDj a1 s10) (Fl.go (fun r:Int=>some (iv r,[])) kn):=by
 refine jJ (fun g ih s10=>?_)
 unfold zBO
 refine J_g 976 [] [(0,sl 8 (Pack.enc false) a1),(1,iv s10.1),(5,iv s10.2),(15,bv (decide (s10.2< (a1.length:Int))))] [] zB ?_
 refine zD 15 (fun h11=>?_) (fun h11=>?_)
 ·refine zA (fun x12 h13=>?_)
  refine zA (fun x14 h15=>?_)
  refine J_g 3912 [] [(0,sl 8 (Pack.enc false) a1),(1,iv x14),(5,iv s10.2)] [] (zC 2 (uN (kk:=.i64) 22 90 8 (Pack.enc false) (.tmp 18) (.tmp 19) h13) (zC 5 (xO [(.tmp 21),(.tmp 22)] [90,3] (zDR.ok x12 s10.1) h15) zB)) ?_
  refine J_g 7826 [] [(0,sl 8 (Pack.enc false) a1),(1,iv x14),(5,iv s10.2),(25,bv (decide (x14<0)))] [] zB ?_
  refine zD 25 (fun h16=>?_) (fun h16=>?_)
  ·refine J_g 31308 [] [(4,iv (-1))] [] zB ?_
   exact zR rfl
  ·refine J_g 979 [] [(0,sl 8 (Pack.enc false) a1),(1,iv x14),(5,iv (w64 (s10.2+1)))] [] zB ?_
   exact J_q (J_b (ih (x14,w64 (s10.2+1)))) rfl
 ·exact xB (hk s10.1) rfl
theorem zC3.ok (a1:(List Pack)) (a2:Int):Ok Tryz.prog 13 [sl 8 (Pack.enc false) a1,iv a2] [] ((zC3 a1 a2).map fun r=>(iv r,[])):=by
 refine zH c13 Tryz.f13 0 27 (fun q=>?_)
 unfold zC3
 refine J_g 2 [] [(0,sl 8 (Pack.enc false) a1),(1,iv a2)] [] zB ?_
 refine J_g 6 [] [(0,sl 8 (Pack.enc false) a1),(1,iv (w64 (a2-(a1.length:Int))))] [] zB ?_
 refine J_g 28 [] [(0,sl 8 (Pack.enc false) a1),(1,iv (w64 (a2-(a1.length:Int)))),(11,bv (decide ((w64 (a2-(a1.length:Int)))<0)))] [] zB ?_
 refine zD 11 (fun h3=>?_) (fun h3=>?_)
 ·refine J_g 116 [] [(4,iv (-1))] [] zB ?_
  exact zR rfl
 ·refine J_g 60 [] [(0,sl 8 (Pack.enc false) a1),(1,iv (w64 (a2-(a1.length:Int)))),(5,iv 0)] [] zB ?_
  refine vY (K0:=(fun r:Int=>some (iv r,[]))) (fun _=>rfl) (zDj.ok a1 q _ (fun v17=>J_j ?_) (w64 (a2-(a1.length:Int)),0))
  refine J_g 62 [] [(4,iv v17)] [] zB ?_
  exact zR rfl
noncomputable def c196:Code:=(Tryz.f196.body).getD .skip
theorem zCX.ok (a1:(List Int)) (a2:Int):Ok Tryz.prog 196 [sl 1 eU8 a1,iv a2] [] ((zCX a1 a2).map fun r=>(iv r,[])):=by
 refine zH c196 Tryz.f196 0 12 (fun q=>?_)
 unfold zCX
 refine J_g 2 [] [(0,sl 1 eU8 a1),(1,iv a2)] [] zB ?_
 refine J_g 6 [] [(1,iv (w64 (a2-(a1.length:Int))))] [] zB ?_
 refine J_g 28 [] [(1,iv (w64 (a2-(a1.length:Int)))),(10,bv (decide ((w64 (a2-(a1.length:Int)))<0)))] [] zB ?_
 refine zD 10 (fun h3=>?_) (fun h3=>?_)
 ·refine J_g 116 [] [(4,iv (-1))] [] zB ?_
  exact zR rfl
 ·refine J_g 30 [] [(4,iv (w64 (a2-(a1.length:Int))))] [] zB ?_
  exact zR rfl
noncomputable def zSQ:Code:=(Tryz.f112.body).getD .skip
theorem zDP.ok (a1:File) (a2:Int):Ok Tryz.prog 112 [.ag (File.enc false a1),iv a2] [] ((zDP a1 a2).map fun r=>(iv r,[])):=by
 refine zH zSQ Tryz.f112 0 19 (fun q=>?_)
 unfold zDP
 refine J_g 2 [(0,0)] [(1,iv a2),(2,pp 0)] [(0,.box (File.enc false a1))] zB ?_
 refine J_g 6 [] [(1,iv (w64 (a2-(a1.Path.size:Int)))),(2,pp 0)] [(0,.box (File.enc false a1))] zB ?_
 refine J_g 28 [] [(1,iv (w64 (a2-(a1.Path.size:Int)))),(2,pp 0),(11,bv (decide ((w64 (a2-(a1.Path.size:Int)))<0)))] [(0,.box (File.enc false a1))] zB ?_
 refine zD 11 (fun h3=>?_) (fun h3=>?_)
 ·refine J_g 116 [] [(4,iv (-1))] [] zB ?_
  exact zR rfl
 ·refine zA (fun x4 h5=>?_)
  refine J_g 30 [] [(1,iv x4)] [] (zC 3 (xO [(.tmp 13),(.tmp 14)] [121,3] (zCX.ok a1.Data (w64 (a2-(a1.Path.size:Int)))) h5) zB) ?_
  refine J_g 124 [] [(1,iv x4),(17,bv (decide (x4<0)))] [] zB ?_
  refine zD 17 (fun h6=>?_) (fun h6=>?_)
  ·refine J_g 500 [] [(4,iv (-1))] [] zB ?_
   exact zR rfl
  ·refine J_g 126 [] [(4,iv x4)] [] zB ?_
   exact zR rfl
noncomputable def c52:Code:=(Tryz.f52.body).getD .skip
theorem zC8.ok (a1:(List File)) (q:Wd) (kn:Int→Option (D×List Ent)) (hk:∀v:Int,J (q.g Tryz.prog 52 0 27) c52 (atI c52 31) (St.mk' [(1,iv v)] []) (some v) kn):
  ∀s10:(Int×Int),J (q.g Tryz.prog 52 0 27) c52 (atI c52 244) (St.mk' [(0,sl 2 (File.enc false) a1),(1,iv s10.1),(5,iv s10.2)] []) (zC8 a1 s10) (Fl.go (fun r:Int=>some (iv r,[])) kn):=by
 refine jJ (fun g ih s10=>?_)
 unfold zCb
 refine J_g 976 [] [(0,sl 2 (File.enc false) a1),(1,iv s10.1),(5,iv s10.2),(15,bv (decide (s10.2< (a1.length:Int))))] [] zB ?_
 refine zD 15 (fun h11=>?_) (fun h11=>?_)
 ·refine zA (fun x12 h13=>?_)
  refine zA (fun x14 h15=>?_)
  refine J_g 3912 [] [(0,sl 2 (File.enc false) a1),(1,iv x14),(5,iv s10.2)] [] (zC 2 (uN (kk:=.i64) 23 158 2 (File.enc false) (.tmp 18) (.tmp 19) h13) (zC 5 (xO [(.tmp 21),(.tmp 22)] [158,3] (zDP.ok x12 s10.1) h15) zB)) ?_
  refine J_g 7826 [] [(0,sl 2 (File.enc false) a1),(1,iv x14),(5,iv s10.2),(25,bv (decide (x14<0)))] [] zB ?_
  refine zD 25 (fun h16=>?_) (fun h16=>?_)
  ·refine J_g 31308 [] [(4,iv (-1))] [] zB ?_
   exact zR rfl
  ·refine J_g 979 [] [(0,sl 2 (File.enc false) a1),(1,iv x14),(5,iv (w64 (s10.2+1)))] [] zB ?_
   exact J_q (J_b (ih (x14,w64 (s10.2+1)))) rfl
 ·exact xB (hk s10.1) rfl
theorem zCB.ok (a1:(List File)) (a2:Int):Ok Tryz.prog 52 [sl 2 (File.enc false) a1,iv a2] [] ((zCB a1 a2).map fun r=>(iv r,[])):=by
 refine zH c52 Tryz.f52 0 27 (fun q=>?_)
 unfold zCB
 refine J_g 2 [] [(0,sl 2 (File.enc false) a1),(1,iv a2)] [] zB ?_
 refine J_g 6 [] [(0,sl 2 (File.enc false) a1),(1,iv (w64 (a2-(a1.length:Int))))] [] zB ?_
 refine J_g 28 [] [(0,sl 2 (File.enc false) a1),(1,iv (w64 (a2-(a1.length:Int)))),(11,bv (decide ((w64 (a2-(a1.length:Int)))<0)))] [] zB ?_
 refine zD 11 (fun h3=>?_) (fun h3=>?_)
 ·refine J_g 116 [] [(4,iv (-1))] [] zB ?_
  exact zR rfl
 ·refine J_g 60 [] [(0,sl 2 (File.enc false) a1),(1,iv (w64 (a2-(a1.length:Int)))),(5,iv 0)] [] zB ?_
  refine vY (K0:=(fun r:Int=>some (iv r,[]))) (fun _=>rfl) (zC8.ok a1 q _ (fun v17=>J_j ?_) (w64 (a2-(a1.length:Int)),0))
  refine J_g 62 [] [(4,iv v17)] [] zB ?_
  exact zR rfl
noncomputable def c14:Code:=(Tryz.f14.body).getD .skip
theorem zEg.ok (a1:zF) (a2:Int):Ok Tryz.prog 14 [.ag (zF.enc false a1),iv a2] [] ((zEg a1 a2).map fun r=>(iv r,[])):=by
 refine zH c14 Tryz.f14 0 12 (fun q=>?_)
 unfold zEg
 refine J_g 2 [(0,0)] [(1,iv a2),(2,pp 0)] [(0,.box (zF.enc false a1))] zB ?_
 refine zA (fun x3 h4=>?_)
 refine J_g 6 [] [(1,iv x3)] [] (zC 3 (xO [(.tmp 6),(.tmp 7)] [23,3] (zCB.ok a1.Files a2) h4) zB) ?_
 refine J_g 28 [] [(1,iv x3),(10,bv (decide (x3<0)))] [] zB ?_
 refine zD 10 (fun h5=>?_) (fun h5=>?_)
 ·refine J_g 116 [] [(4,iv (-1))] [] zB ?_
  exact zR rfl
 ·refine J_g 30 [] [(4,iv x3)] [] zB ?_
  exact zR rfl
noncomputable def c8:Code:=(Tryz.f8.body).getD .skip
theorem zB9.ok (a1:System) (a2:Int):Ok Tryz.prog 8 [.ag (System.enc false a1),iv a2] [] ((zB9 a1 a2).map fun r=>(iv r,[])):=by
 refine zH c8 Tryz.f8 0 18 (fun q=>?_)
 unfold zB9
 refine J_g 2 [(0,0)] [(1,iv a2),(2,pp 0)] [(0,.box (System.enc false a1))] zB ?_
 refine zA (fun x3 h4=>?_)
 refine J_g 6 [] [(1,iv x3),(2,pp 0)] [(0,.box (System.enc false a1))] (zC 3 (xO [(.tmp 6),(.tmp 7)] [22,3] (zC3.ok a1.Catalog a2) h4) zB) ?_
 refine J_g 28 [] [(1,iv x3),(2,pp 0),(10,bv (decide (x3<0)))] [(0,.box (System.enc false a1))] zB ?_
 refine zD 10 (fun h5=>?_) (fun h5=>?_)
 ·refine J_g 116 [] [(4,iv (-1))] [] zB ?_
  exact zR rfl
 ·refine zA (fun x6 h7=>?_)
  refine J_g 30 [] [(1,iv x6)] [] (zC 3 (xO [(.tmp 12),(.tmp 13)] [25,3] (zEg.ok a1.zF x3) h7) zB) ?_
  refine J_g 124 [] [(1,iv x6),(16,bv (decide (x6<0)))] [] zB ?_
  refine zD 16 (fun h8=>?_) (fun h8=>?_)
  ·refine J_g 500 [] [(4,iv (-1))] [] zB ?_
   exact zR rfl
  ·refine J_g 126 [] [(4,iv x6)] [] zB ?_
   exact zR rfl
noncomputable def zSV:Code:=(Tryz.f121.body).getD .skip
theorem vK.ok (a1:Version):Ok Tryz.prog 121 [.ag (Version.enc a1)] [] ((vK a1).map fun r=>(.ag (Version.enc r),[])):=by
 refine zH zSV Tryz.f121 0 14 (fun q=>?_)
 unfold vK
 refine J_g 2 [(0,0),(1,1)] [(1,pp 0),(2,pp 1)] [(0,.box (Version.enc a1)),(1,.box [iv 0,iv 0,iv 0])] zB ?_
 refine J_g 6 [(0,2)] [(1,pp 0),(2,pp 1),(3,pp 2)] [(0,.box (Version.enc a1)),(1,.box [iv 0,iv 0,iv 0]),(2,.box [iv 0,iv 0,iv 0])] zB ?_
 refine J_g 14 [] [(1,pp 0),(2,pp 1),(3,pp 2)] [(0,.box (Version.enc a1)),(1,.box [iv 0,iv 0,iv 0]),(2,.box [iv a1.A,iv 0,iv 0])] zB ?_
 refine J_g 30 [] [(1,pp 0),(2,pp 1),(3,pp 2)] [(0,.box (Version.enc a1)),(1,.box [iv 0,iv 0,iv 0]),(2,.box [iv a1.A,iv a1.B,iv 0])] zB ?_
 refine J_g 62 [] [(2,pp 1),(3,pp 2)] [(1,.box [iv 0,iv 0,iv 0]),(2,.box (Version.enc a1))] zB ?_
 refine J_g 126 [] [(2,pp 1)] [(1,.box (Version.enc a1))] zB ?_
 exact zR rfl
noncomputable def zR8:Code:=(Tryz.f122.body).getD .skip
theorem zBp.ok (a1:(List ByteArray)) (q:Wd) (kn:(List ByteArray)→Option (D×List Ent)) (hk:∀v:(List ByteArray),J (q.g Tryz.prog 122 0 22) zR8 (atI zR8 15) (St.mk' [(3,rr 0 v)] [(0,rE 1 eStr v)]) (some v) kn):
  ∀s9:((List ByteArray)×Int),J (q.g Tryz.prog 122 0 22) zR8 (atI zR8 116) (St.mk' [(0,sl 1 eStr a1),(3,rr 0 s9.1),(4,iv s9.2)] [(0,rE 1 eStr s9.1)]) (zBp a1 s9) kn:=by
 refine jJ (fun g ih s9=>?_)
 unfold zCl
 refine J_g 464 [] [(0,sl 1 eStr a1),(3,rr 0 s9.1),(4,iv s9.2),(11,bv (decide (s9.2< (a1.length:Int))))] [(0,rE 1 eStr s9.1)] zB ?_
 refine zD 11 (fun h10=>?_) (fun h10=>?_)
 ·refine zA (fun x11 h12=>?_)
  refine zA (fun x13 h14=>?_)
  refine J_g 932 [] [(0,sl 1 eStr a1),(3,rr 0 s9.1),(4,iv s9.2)] [(0,rE 1 eStr (s9.1.set s9.2.toNat x11))] (zC 4 (uN (kk:=.i64) 86 9 1 eStr (.tmp 16) (.tmp 17) h12) (zC 6 (kM (kk:=.i64) 86 9 1 0 eStr (.tmp 14) (.tmp 15) h14) (zGY 7 (zIc (b:=x11) 9 1 0 0 eStr (sv x11) (.tmp 20) (.tmp 19) h14 rfl) zB))) ?_
  refine zFJ (σ':=St.mk' [(0,sl 1 eStr a1),(3,rr 0 (s9.1.set s9.2.toNat x11)),(4,iv s9.2)] [(0,rE 1 eStr (s9.1.set s9.2.toNat x11))]) (by simp only [rr,List.length_set]) ?_
  refine J_g 467 [] [(0,sl 1 eStr a1),(3,rr 0 (s9.1.set s9.2.toNat x11)),(4,iv (w64 (s9.2+1)))] [(0,rE 1 eStr (s9.1.set s9.2.toNat x11))] zB ?_
  exact J_q (J_b (ih (s9.1.set s9.2.toNat x11,w64 (s9.2+1)))) rfl
 ·exact xB (hk s9.1) rfl
theorem zAY.ok (a1:(List ByteArray)):Ok Tryz.prog 122 [sl 1 eStr a1] [] ((zAY a1).map fun r=>(so 1 eStr r,[])):=by
 refine zH zR8 Tryz.f122 0 22 (fun q=>?_)
 unfold zAY
 refine J_g 2 [] [(0,sl 1 eStr a1)] [] zB ?_
 refine zA (fun x2 h3=>?_)
 refine J_g 6 [] [(0,sl 1 eStr a1),(3,rr 0 x2)] [(0,rE 1 eStr x2)] (zC 2 (zQE 86 9 1 16 0 eStr ByteArray.empty (.tmp 6) h3 (.keep rfl (.nil))) zB) ?_
 refine J_g 28 [] [(0,sl 1 eStr a1),(3,rr 0 x2),(4,iv 0)] [(0,rE 1 eStr x2)] zB ?_
 refine zFl (zBp.ok a1 q _ (fun v15=>J_j ?_) (x2,0))
 refine J_g 30 [] [(2,rr 0 v15)] [(0,rE 1 eStr v15)] zB ?_
 exact zD5 (ds:=[rr 0 v15]) (ds':=[so 1 eStr v15]) (.cons (.cell (.move (.head _) (List.length_map _) (by decide) (.nil))) (.nil) (by decide)) rfl
noncomputable def c198:Code:=(Tryz.f198.body).getD .skip
theorem zDV.ok (a1:Term):Ok Tryz.prog 198 [.ag (Term.enc a1)] [] ((zDV a1).map fun r=>(.ag (Term.enc r),[])):=by
 refine zH c198 Tryz.f198 0 16 (fun q=>?_)
 unfold zDV
 refine J_g 2 [(0,0),(1,1)] [(1,pp 0),(2,pp 1)] [(0,.box (Term.enc a1)),(1,.box [sv ByteArray.empty,iv 0,iv 0,iv 0,iv 0,iv 0,iv 0])] zB ?_
 refine J_g 6 [(0,2)] [(1,pp 0),(2,pp 1),(3,pp 2)] [(0,.box (Term.enc a1)),(1,.box [sv ByteArray.empty,iv 0,iv 0,iv 0,iv 0,iv 0,iv 0]),(2,.box [sv ByteArray.empty,iv 0,iv 0,iv 0,iv 0,iv 0,iv 0])] zB ?_
 refine J_g 14 [] [(1,pp 0),(2,pp 1),(3,pp 2)] [(0,.box (Term.enc a1)),(1,.box [sv ByteArray.empty,iv 0,iv 0,iv 0,iv 0,iv 0,iv 0]),(2,.box [sv a1.Name,iv 0,iv 0,iv 0,iv 0,iv 0,iv 0])] zB ?_
 refine zA (fun x2 h3=>?_)
 refine J_g 30 [] [(1,pp 0),(2,pp 1),(3,pp 2)] [(0,.box (Term.enc a1)),(1,.box [sv ByteArray.empty,iv 0,iv 0,iv 0,iv 0,iv 0,iv 0]),(2,.box [sv a1.Name,iv x2.A,iv x2.B,iv x2.C,iv 0,iv 0,iv 0])] (zC 2 (xO [(.tmp 8)] [85] (vK.ok a1.Low) h3) zB) ?_
 refine zA (fun x4 h5=>?_)
 refine J_g 62 [] [(2,pp 1),(3,pp 2)] [(1,.box [sv ByteArray.empty,iv 0,iv 0,iv 0,iv 0,iv 0,iv 0]),(2,.box [sv a1.Name,iv x2.A,iv x2.B,iv x2.C,iv x4.A,iv x4.B,iv x4.C])] (zC 2 (xO [(.tmp 12)] [85] (vK.ok a1.High) h5) zB) ?_
 refine J_g 126 [] [(2,pp 1)] [(1,.box [sv a1.Name,iv x2.A,iv x2.B,iv x2.C,iv x4.A,iv x4.B,iv x4.C])] zB ?_
 exact zR rfl
noncomputable def c124:Code:=(Tryz.f124.body).getD .skip
theorem zCH.ok (a1:(List Term)) (q:Wd) (kn:(List Term)→Option (D×List Ent)) (hk:∀v:(List Term),J (q.g Tryz.prog 124 0 23) c124 (atI c124 15) (St.mk' [(3,rr 0 v)] [(0,rE 7 Term.enc v)]) (some v) kn):
  ∀s11:((List Term)×Int),J (q.g Tryz.prog 124 0 23) c124 (atI c124 116) (St.mk' [(0,sl 7 Term.enc a1),(3,rr 0 s11.1),(4,iv s11.2)] [(0,rE 7 Term.enc s11.1)]) (zCH a1 s11) kn:=by
 refine jJ (fun g ih s11=>?_)
 unfold zDN
 refine J_g 464 [] [(0,sl 7 Term.enc a1),(3,rr 0 s11.1),(4,iv s11.2),(11,bv (decide (s11.2< (a1.length:Int))))] [(0,rE 7 Term.enc s11.1)] zB ?_
 refine zD 11 (fun h12=>?_) (fun h12=>?_)
 ·refine zA (fun x13 h14=>?_)
  refine zA (fun x15 h16=>?_)
  refine zA (fun x17 h18=>?_)
  refine J_g 932 [] [(0,sl 7 Term.enc a1),(3,rr 0 s11.1),(4,iv s11.2)] [(0,rE 7 Term.enc (s11.1.set s11.2.toNat x15))] (zC 4 (uN (kk:=.i64) 88 224 7 Term.enc (.tmp 16) (.tmp 17) h14) (zC 6 (xO [(.tmp 19)] [224] (zDV.ok x13) h16) (zC 7 (kM (kk:=.i64) 75 149 7 0 Term.enc (.tmp 14) (.tmp 15) h18) (zGY 8 (zIc (b:=x15) 149 7 0 0 Term.enc (.ag (Term.enc x15)) (.tmp 21) (.tmp 20) h18 rfl) zB)))) ?_
  refine zFJ (σ':=St.mk' [(0,sl 7 Term.enc a1),(3,rr 0 (s11.1.set s11.2.toNat x15)),(4,iv s11.2)] [(0,rE 7 Term.enc (s11.1.set s11.2.toNat x15))]) (by simp only [rr,List.length_set]) ?_
  refine J_g 467 [] [(0,sl 7 Term.enc a1),(3,rr 0 (s11.1.set s11.2.toNat x15)),(4,iv (w64 (s11.2+1)))] [(0,rE 7 Term.enc (s11.1.set s11.2.toNat x15))] zB ?_
  exact J_q (J_b (ih (s11.1.set s11.2.toNat x15,w64 (s11.2+1)))) rfl
 ·exact xB (hk s11.1) rfl
theorem zAF.ok (a1:(List Term)):Ok Tryz.prog 124 [sl 7 Term.enc a1] [] ((zAF a1).map fun r=>(so 7 Term.enc r,[])):=by
 refine zH c124 Tryz.f124 0 23 (fun q=>?_)
 unfold zAF
 refine J_g 2 [] [(0,sl 7 Term.enc a1)] [] zB ?_
 refine zA (fun x2 h3=>?_)
 refine J_g 6 [] [(0,sl 7 Term.enc a1),(3,rr 0 x2)] [(0,rE 7 Term.enc x2)] (zC 2 (zQE 75 149 7 64 0 Term.enc ({Name:=ByteArray.empty,Low:=({A:=0,B:=0,C:=0}:Version),High:=({A:=0,B:=0,C:=0}:Version)}:Term) (.tmp 6) h3 (.keep rfl (.keep rfl (.keep rfl (.keep rfl (.keep rfl (.keep rfl (.keep rfl (.nil))))))))) zB) ?_
 refine J_g 28 [] [(0,sl 7 Term.enc a1),(3,rr 0 x2),(4,iv 0)] [(0,rE 7 Term.enc x2)] zB ?_
 refine zFl (zCH.ok a1 q _ (fun v19=>J_j ?_) (x2,0))
 refine J_g 30 [] [(2,rr 0 v19)] [(0,rE 7 Term.enc v19)] zB ?_
 exact zD5 (ds:=[rr 0 v19]) (ds':=[so 7 Term.enc v19]) (.cons (.cell (.move (.head _) (List.length_map _) (by decide) (.nil))) (.nil) (by decide)) rfl
noncomputable def zRv:Code:=(Tryz.f123.body).getD .skip
theorem zBK.ok (a1:(List (List Term))) (q:Wd) (kn:(List (List Term))→Option (D×List Ent)) (hk:∀v:(List (List Term)),J (q.g Tryz.prog 123 0 23) zRv (atI zRv 15) (St.mk' [(3,rr 0 v)] [(0,rE 1 (eSl true 7 Term.enc) v)]) (some v) kn):
  ∀s11:((List (List Term))×Int),J (q.g Tryz.prog 123 0 23) zRv (atI zRv 116) (St.mk' [(0,sl 1 (eSl false 7 Term.enc) a1),(3,rr 0 s11.1),(4,iv s11.2)] [(0,rE 1 (eSl true 7 Term.enc) s11.1)]) (zBK a1 s11) kn:=by
 refine jJ (fun g ih s11=>?_)
 unfold zDo
 refine J_g 464 [] [(0,sl 1 (eSl false 7 Term.enc) a1),(3,rr 0 s11.1),(4,iv s11.2),(11,bv (decide (s11.2< (a1.length:Int))))] [(0,rE 1 (eSl true 7 Term.enc) s11.1)] zB ?_
 refine zD 11 (fun h12=>?_) (fun h12=>?_)
 ·refine zA (fun x13 h14=>?_)
  refine zA (fun x15 h16=>?_)
  refine zA (fun x17 h18=>?_)
  refine J_g 932 [] [(0,sl 1 (eSl false 7 Term.enc) a1),(3,rr 0 s11.1),(4,iv s11.2)] [(0,rE 1 (eSl true 7 Term.enc) (s11.1.set s11.2.toNat x15))] (zC 4 (uN (kk:=.i64) 87 88 1 (eSl false 7 Term.enc) (.tmp 16) (.tmp 17) h14) (zC 6 (uH («as»:=[sl 7 Term.enc x13]) [(.tmp 19)] [88] false [] [] (.cons (.same rfl) (.nil)) (zAF.ok x13) h16 (.own 1)) (zC 7 (kM (kk:=.i64) 100 75 1 0 (eSl true 7 Term.enc) (.tmp 14) (.tmp 15) h18) (zGY 8 (zQb (b:=x15) (es':=[so 7 Term.enc x15]) (ts:=[1]) 75 1 0 0 (eSl true 7 Term.enc) (rr 1 x15) (.tmp 21) (.tmp 20) [(1,rE 7 Term.enc x15)] h18 (.move (.head _) (List.length_map _) (by decide) (.nil)) rfl) zB)))) ?_
  refine zFJ (σ':=St.mk' [(0,sl 1 (eSl false 7 Term.enc) a1),(3,rr 0 (s11.1.set s11.2.toNat x15)),(4,iv s11.2)] [(0,rE 1 (eSl true 7 Term.enc) (s11.1.set s11.2.toNat x15))]) (by simp only [rr,List.length_set]) ?_
  refine J_g 467 [] [(0,sl 1 (eSl false 7 Term.enc) a1),(3,rr 0 (s11.1.set s11.2.toNat x15)),(4,iv (w64 (s11.2+1)))] [(0,rE 1 (eSl true 7 Term.enc) (s11.1.set s11.2.toNat x15))] zB ?_
  exact J_q (J_b (ih (s11.1.set s11.2.toNat x15,w64 (s11.2+1)))) rfl
 ·exact xB (hk s11.1) rfl
theorem zB5.ok (a1:(List (List Term))):Ok Tryz.prog 123 [sl 1 (eSl false 7 Term.enc) a1] [] ((zB5 a1).map fun r=>(so 1 (eSl true 7 Term.enc) r,[])):=by
 refine zH zRv Tryz.f123 0 23 (fun q=>?_)
 unfold zB5
 refine J_g 2 [] [(0,sl 1 (eSl false 7 Term.enc) a1)] [] zB ?_
 refine zA (fun x2 h3=>?_)
 refine J_g 6 [] [(0,sl 1 (eSl false 7 Term.enc) a1),(3,rr 0 x2)] [(0,rE 1 (eSl true 7 Term.enc) x2)] (zC 2 (zQE 100 75 1 24 0 (eSl true 7 Term.enc) ([]:List Term) (.tmp 6) h3 (.nilsl true 7 (.nil))) zB) ?_
 refine J_g 28 [] [(0,sl 1 (eSl false 7 Term.enc) a1),(3,rr 0 x2),(4,iv 0)] [(0,rE 1 (eSl true 7 Term.enc) x2)] zB ?_
 refine zFl (zBK.ok a1 q _ (fun v19=>J_j ?_) (x2,0))
 refine J_g 30 [] [(2,rr 0 v19)] [(0,rE 1 (eSl true 7 Term.enc) v19)] zB ?_
 exact zD5 (ds:=[rr 0 v19]) (ds':=[so 1 (eSl true 7 Term.enc) v19]) (.cons (.cell (.move (.head _) (List.length_map _) (by decide) (.nil))) (.nil) (by decide)) rfl
noncomputable def c60:Code:=(Tryz.f60.body).getD .skip
theorem zEa.ok (a1:Pack):Ok Tryz.prog 60 [.ag (Pack.enc false a1)] [] ((zEa a1).map fun r=>(.ag [sv r.Name,iv r.Version.A,iv r.Version.B,iv r.Version.C,iv r.Size,so 1 eStr r.Provides,so 1 (eSl true 7 Term.enc) r.Needs,so 7 Term.enc r.Bars],[])):=by
 refine zH c60 Tryz.f60 0 27 (fun q=>?_)
 unfold zEa
 refine J_g 2 [(0,0),(1,1)] [(1,pp 0),(2,pp 1)] [(0,.box (Pack.enc false a1)),(1,.box [sv ByteArray.empty,iv 0,iv 0,iv 0,iv 0,nv,nv,nv])] zB ?_
 refine J_g 6 [(0,2)] [(1,pp 0),(2,pp 1),(3,pp 2)] [(0,.box (Pack.enc false a1)),(1,.box [sv ByteArray.empty,iv 0,iv 0,iv 0,iv 0,nv,nv,nv]),(2,.box [sv ByteArray.empty,iv 0,iv 0,iv 0,iv 0,nv,nv,nv])] zB ?_
 refine J_g 14 [] [(1,pp 0),(2,pp 1),(3,pp 2)] [(0,.box (Pack.enc false a1)),(1,.box [sv ByteArray.empty,iv 0,iv 0,iv 0,iv 0,nv,nv,nv]),(2,.box [sv a1.Name,iv 0,iv 0,iv 0,iv 0,nv,nv,nv])] zB ?_
 refine zA (fun x2 h3=>?_)
 refine J_g 30 [] [(1,pp 0),(2,pp 1),(3,pp 2)] [(0,.box (Pack.enc false a1)),(1,.box [sv ByteArray.empty,iv 0,iv 0,iv 0,iv 0,nv,nv,nv]),(2,.box [sv a1.Name,iv x2.A,iv x2.B,iv x2.C,iv 0,nv,nv,nv])] (zC 2 (xO [(.tmp 8)] [85] (vK.ok a1.Version) h3) zB) ?_
 refine J_g 62 [] [(1,pp 0),(2,pp 1),(3,pp 2)] [(0,.box (Pack.enc false a1)),(1,.box [sv ByteArray.empty,iv 0,iv 0,iv 0,iv 0,nv,nv,nv]),(2,.box [sv a1.Name,iv x2.A,iv x2.B,iv x2.C,iv a1.Size,nv,nv,nv])] zB ?_
 refine zA (fun x4 h5=>?_)
 refine J_g 126 [] [(1,pp 0),(2,pp 1),(3,pp 2)] [(0,.box (Pack.enc false a1)),(1,.box [sv ByteArray.empty,iv 0,iv 0,iv 0,iv 0,nv,nv,nv]),(2,.box [sv a1.Name,iv x2.A,iv x2.B,iv x2.C,iv a1.Size,rr 3 x4,nv,nv]),(3,rE 1 eStr x4)] (zC 2 (uH («as»:=[sl 1 eStr a1.Provides]) [(.tmp 15)] [86] false [] [] (.cons (.same rfl) (.nil)) (zAY.ok a1.Provides) h5 (.own 3)) zB) ?_
 refine zA (fun x6 h7=>?_)
 refine J_g 254 [] [(1,pp 0),(2,pp 1),(3,pp 2)] [(0,.box (Pack.enc false a1)),(1,.box [sv ByteArray.empty,iv 0,iv 0,iv 0,iv 0,nv,nv,nv]),(2,.box [sv a1.Name,iv x2.A,iv x2.B,iv x2.C,iv a1.Size,rr 3 x4,rr 4 x6,nv]),(3,rE 1 eStr x4),(4,rE 1 (eSl true 7 Term.enc) x6)] (zC 2 (uH («as»:=[sl 1 (eSl false 7 Term.enc) a1.Needs]) [(.tmp 19)] [87] false [] [] (.cons (.same rfl) (.nil)) (zB5.ok a1.Needs) h7 (.own 4)) zB) ?_
 refine zA (fun x8 h9=>?_)
 refine J_g 510 [] [(2,pp 1),(3,pp 2)] [(1,.box [sv ByteArray.empty,iv 0,iv 0,iv 0,iv 0,nv,nv,nv]),(2,.box [sv a1.Name,iv x2.A,iv x2.B,iv x2.C,iv a1.Size,rr 3 x4,rr 4 x6,rr 5 x8]),(3,rE 1 eStr x4),(4,rE 1 (eSl true 7 Term.enc) x6),(5,rE 7 Term.enc x8)] (zC 2 (uH («as»:=[sl 7 Term.enc a1.Bars]) [(.tmp 23)] [88] false [] [] (.cons (.same rfl) (.nil)) (zAF.ok a1.Bars) h9 (.own 5)) zB) ?_
 refine J_g 1022 [] [(2,pp 1)] [(1,.box [sv a1.Name,iv x2.A,iv x2.B,iv x2.C,iv a1.Size,rr 3 x4,rr 4 x6,rr 5 x8]),(3,rE 1 eStr x4),(4,rE 1 (eSl true 7 Term.enc) x6),(5,rE 7 Term.enc x8)] zB ?_
 exact zD5 (ds:=[.ag [sv a1.Name,iv x2.A,iv x2.B,iv x2.C,iv a1.Size,rr 3 x4,rr 4 x6,rr 5 x8]]) (ds':=[.ag [sv a1.Name,iv x2.A,iv x2.B,iv x2.C,iv a1.Size,so 1 eStr x4,so 1 (eSl true 7 Term.enc) x6,so 7 Term.enc x8]]) (.cons (.ag (.keep rfl (.keep rfl (.keep rfl (.keep rfl (.keep rfl (.move (.tail _ (.head _)) (List.length_map _) (by decide) (.move (.tail _ (.tail _ (.head _))) (List.length_map _) (by decide) (.move (.tail _ (.tail _ (.tail _ (.head _)))) (List.length_map _) (by decide) (.nil)))))))))) (.nil) (by decide)) rfl
noncomputable def c16:Code:=(Tryz.f16.body).getD .skip
theorem zCw.ok (a1:(List Pack)) (q:Wd) (kn:(List Pack)→Option (D×List Ent)) (hk:∀v:(List Pack),J (q.g Tryz.prog 16 0 23) c16 (atI c16 15) (St.mk' [(3,rr 0 v)] [(0,rE 8 (Pack.enc true) v)]) (some v) kn):
  ∀s11:((List Pack)×Int),J (q.g Tryz.prog 16 0 23) c16 (atI c16 116) (St.mk' [(0,sl 8 (Pack.enc false) a1),(3,rr 0 s11.1),(4,iv s11.2)] [(0,rE 8 (Pack.enc true) s11.1)]) (zCw a1 s11) kn:=by
 refine jJ (fun g ih s11=>?_)
 unfold zDI
 refine J_g 464 [] [(0,sl 8 (Pack.enc false) a1),(3,rr 0 s11.1),(4,iv s11.2),(11,bv (decide (s11.2< (a1.length:Int))))] [(0,rE 8 (Pack.enc true) s11.1)] zB ?_
 refine zD 11 (fun h12=>?_) (fun h12=>?_)
 ·refine zA (fun x13 h14=>?_)
  refine zA (fun x15 h16=>?_)
  refine zA (fun x17 h18=>?_)
  refine J_g 932 [] [(0,sl 8 (Pack.enc false) a1),(3,rr 0 s11.1),(4,iv s11.2)] [(0,rE 8 (Pack.enc true) (s11.1.set s11.2.toNat x15))] (zC 4 (uN (kk:=.i64) 22 90 8 (Pack.enc false) (.tmp 16) (.tmp 17) h14) (zC 6 (uH («as»:=[.ag (Pack.enc false x13)]) [(.tmp 19)] [90] false [] [] (.cons (.same rfl) (.nil)) (zEa.ok x13) h16 (.ag (.cons (.same rfl rfl) (.cons (.same rfl rfl) (.cons (.same rfl rfl) (.cons (.same rfl rfl) (.cons (.same rfl rfl) (.cons (.own 1) (.cons (.own 2) (.cons (.own 3) (.nil))))))))))) (zC 7 (kM (kk:=.i64) 30 102 8 0 (Pack.enc true) (.tmp 14) (.tmp 15) h18) (zGY 8 (zQb (b:=x15) (es':=[sv x15.Name,iv x15.Version.A,iv x15.Version.B,iv x15.Version.C,iv x15.Size,so 1 eStr x15.Provides,so 1 (eSl true 7 Term.enc) x15.Needs,so 7 Term.enc x15.Bars]) (ts:=[1,2,3]) 102 8 0 0 (Pack.enc true) (.ag [sv x15.Name,iv x15.Version.A,iv x15.Version.B,iv x15.Version.C,iv x15.Size,rr 1 x15.Provides,rr 2 x15.Needs,rr 3 x15.Bars]) (.tmp 21) (.tmp 20) [(1,rE 1 eStr x15.Provides),(2,rE 1 (eSl true 7 Term.enc) x15.Needs),(3,rE 7 Term.enc x15.Bars)] h18 (.keep rfl (.keep rfl (.keep rfl (.keep rfl (.keep rfl (.move (.head _) (List.length_map _) (by decide) (.move (.tail _ (.head _)) (List.length_map _) (by decide) (.move (.tail _ (.tail _ (.head _))) (List.length_map _) (by decide) (.nil))))))))) rfl) zB)))) ?_
  refine zFJ (σ':=St.mk' [(0,sl 8 (Pack.enc false) a1),(3,rr 0 (s11.1.set s11.2.toNat x15)),(4,iv s11.2)] [(0,rE 8 (Pack.enc true) (s11.1.set s11.2.toNat x15))]) (by simp only [rr,List.length_set]) ?_
  refine J_g 467 [] [(0,sl 8 (Pack.enc false) a1),(3,rr 0 (s11.1.set s11.2.toNat x15)),(4,iv (w64 (s11.2+1)))] [(0,rE 8 (Pack.enc true) (s11.1.set s11.2.toNat x15))] zB ?_
  exact J_q (J_b (ih (s11.1.set s11.2.toNat x15,w64 (s11.2+1)))) rfl
 ·exact xB (hk s11.1) rfl
theorem zDl.ok (a1:(List Pack)):Ok Tryz.prog 16 [sl 8 (Pack.enc false) a1] [] ((zDl a1).map fun r=>(so 8 (Pack.enc true) r,[])):=by
 refine zH c16 Tryz.f16 0 23 (fun q=>?_)
 unfold zDl
 refine J_g 2 [] [(0,sl 8 (Pack.enc false) a1)] [] zB ?_
 refine zA (fun x2 h3=>?_)
 refine J_g 6 [] [(0,sl 8 (Pack.enc false) a1),(3,rr 0 x2)] [(0,rE 8 (Pack.enc true) x2)] (zC 2 (zQE 30 102 8 120 0 (Pack.enc true) ({Name:=ByteArray.empty,Version:=({A:=0,B:=0,C:=0}:Version),Size:=0,Provides:=([]:List ByteArray),Needs:=([]:List (List Term)),Bars:=([]:List Term)}:Pack) (.tmp 6) h3 (.keep rfl (.keep rfl (.keep rfl (.keep rfl (.keep rfl (.nilsl true 1 (.nilsl true 1 (.nilsl true 7 (.nil)))))))))) zB) ?_
 refine J_g 28 [] [(0,sl 8 (Pack.enc false) a1),(3,rr 0 x2),(4,iv 0)] [(0,rE 8 (Pack.enc true) x2)] zB ?_
 refine zFl (zCw.ok a1 q _ (fun v19=>J_j ?_) (x2,0))
 refine J_g 30 [] [(2,rr 0 v19)] [(0,rE 8 (Pack.enc true) v19)] zB ?_
 exact zD5 (ds:=[rr 0 v19]) (ds':=[so 8 (Pack.enc true) v19]) (.cons (.cell (.move (.head _) (List.length_map _) (by decide) (.nil))) (.nil) (by decide)) rfl
noncomputable def zR1:Code:=(Tryz.f199.body).getD .skip
theorem zCp.ok (a1:(List Int)) (q:Wd) (kn:(List Int)→Option (D×List Ent)) (hk:∀v:(List Int),J (q.g Tryz.prog 199 0 22) zR1 (atI zR1 15) (St.mk' [(3,rr 0 v)] [(0,rE 1 eU8 v)]) (some v) kn):
  ∀s9:((List Int)×Int),J (q.g Tryz.prog 199 0 22) zR1 (atI zR1 116) (St.mk' [(0,sl 1 eU8 a1),(3,rr 0 s9.1),(4,iv s9.2)] [(0,rE 1 eU8 s9.1)]) (zCp a1 s9) kn:=by
 refine jJ (fun g ih s9=>?_)
 unfold zDG
 refine J_g 464 [] [(0,sl 1 eU8 a1),(3,rr 0 s9.1),(4,iv s9.2),(11,bv (decide (s9.2< (a1.length:Int))))] [(0,rE 1 eU8 s9.1)] zB ?_
 refine zD 11 (fun h10=>?_) (fun h10=>?_)
 ·refine zA (fun x11 h12=>?_)
  refine zA (fun x13 h14=>?_)
  refine J_g 932 [] [(0,sl 1 eU8 a1),(3,rr 0 s9.1),(4,iv s9.2)] [(0,rE 1 eU8 (s9.1.set s9.2.toNat x11))] (zC 4 (uN (kk:=.i64) 121 5 1 eU8 (.tmp 16) (.tmp 17) h12) (zC 6 (kM (kk:=.i64) 121 5 1 0 eU8 (.tmp 14) (.tmp 15) h14) (zGY 7 (zIc (b:=x11) 5 1 0 0 eU8 (uv x11) (.tmp 20) (.tmp 19) h14 rfl) zB))) ?_
  refine zFJ (σ':=St.mk' [(0,sl 1 eU8 a1),(3,rr 0 (s9.1.set s9.2.toNat x11)),(4,iv s9.2)] [(0,rE 1 eU8 (s9.1.set s9.2.toNat x11))]) (by simp only [rr,List.length_set]) ?_
  refine J_g 467 [] [(0,sl 1 eU8 a1),(3,rr 0 (s9.1.set s9.2.toNat x11)),(4,iv (w64 (s9.2+1)))] [(0,rE 1 eU8 (s9.1.set s9.2.toNat x11))] zB ?_
  exact J_q (J_b (ih (s9.1.set s9.2.toNat x11,w64 (s9.2+1)))) rfl
 ·exact xB (hk s9.1) rfl
theorem zCq.ok (a1:(List Int)):Ok Tryz.prog 199 [sl 1 eU8 a1] [] ((zCq a1).map fun r=>(so 1 eU8 r,[])):=by
 refine zH zR1 Tryz.f199 0 22 (fun q=>?_)
 unfold zCq
 refine J_g 2 [] [(0,sl 1 eU8 a1)] [] zB ?_
 refine zA (fun x2 h3=>?_)
 refine J_g 6 [] [(0,sl 1 eU8 a1),(3,rr 0 x2)] [(0,rE 1 eU8 x2)] (zC 2 (zQE 121 5 1 1 0 eU8 0 (.tmp 6) h3 (.keep rfl (.nil))) zB) ?_
 refine J_g 28 [] [(0,sl 1 eU8 a1),(3,rr 0 x2),(4,iv 0)] [(0,rE 1 eU8 x2)] zB ?_
 refine zFl (zCp.ok a1 q _ (fun v15=>J_j ?_) (x2,0))
 refine J_g 30 [] [(2,rr 0 v15)] [(0,rE 1 eU8 v15)] zB ?_
 exact zD5 (ds:=[rr 0 v15]) (ds':=[so 1 eU8 v15]) (.cons (.cell (.move (.head _) (List.length_map _) (by decide) (.nil))) (.nil) (by decide)) rfl
noncomputable def zSH:Code:=(Tryz.f125.body).getD .skip
theorem zDW.ok (a1:File):Ok Tryz.prog 125 [.ag (File.enc false a1)] [] ((zDW a1).map fun r=>(.ag [sv r.Path,so 1 eU8 r.Data],[])):=by
 refine zH zSH Tryz.f125 0 12 (fun q=>?_)
 unfold zDW
 refine J_g 2 [(0,0),(1,1)] [(1,pp 0),(2,pp 1)] [(0,.box (File.enc false a1)),(1,.box [sv ByteArray.empty,nv])] zB ?_
 refine J_g 6 [(0,2)] [(1,pp 0),(2,pp 1),(3,pp 2)] [(0,.box (File.enc false a1)),(1,.box [sv ByteArray.empty,nv]),(2,.box [sv ByteArray.empty,nv])] zB ?_
 refine J_g 14 [] [(1,pp 0),(2,pp 1),(3,pp 2)] [(0,.box (File.enc false a1)),(1,.box [sv ByteArray.empty,nv]),(2,.box [sv a1.Path,nv])] zB ?_
 refine zA (fun x2 h3=>?_)
 refine J_g 30 [] [(2,pp 1),(3,pp 2)] [(1,.box [sv ByteArray.empty,nv]),(2,.box [sv a1.Path,rr 3 x2]),(3,rE 1 eU8 x2)] (zC 2 (uH («as»:=[sl 1 eU8 a1.Data]) [(.tmp 8)] [121] false [] [] (.cons (.same rfl) (.nil)) (zCq.ok a1.Data) h3 (.own 3)) zB) ?_
 refine J_g 62 [] [(2,pp 1)] [(1,.box [sv a1.Path,rr 3 x2]),(3,rE 1 eU8 x2)] zB ?_
 exact zD5 (ds:=[.ag [sv a1.Path,rr 3 x2]]) (ds':=[.ag [sv a1.Path,so 1 eU8 x2]]) (.cons (.ag (.keep rfl (.move (.tail _ (.head _)) (List.length_map _) (by decide) (.nil)))) (.nil) (by decide)) rfl
noncomputable def c61:Code:=(Tryz.f61.body).getD .skip
theorem zCP.ok (a1:(List File)) (q:Wd) (kn:(List File)→Option (D×List Ent)) (hk:∀v:(List File),J (q.g Tryz.prog 61 0 23) c61 (atI c61 15) (St.mk' [(3,rr 0 v)] [(0,rE 2 (File.enc true) v)]) (some v) kn):
  ∀s11:((List File)×Int),J (q.g Tryz.prog 61 0 23) c61 (atI c61 116) (St.mk' [(0,sl 2 (File.enc false) a1),(3,rr 0 s11.1),(4,iv s11.2)] [(0,rE 2 (File.enc true) s11.1)]) (zCP a1 s11) kn:=by
 refine jJ (fun g ih s11=>?_)
 unfold zDF
 refine J_g 464 [] [(0,sl 2 (File.enc false) a1),(3,rr 0 s11.1),(4,iv s11.2),(11,bv (decide (s11.2< (a1.length:Int))))] [(0,rE 2 (File.enc true) s11.1)] zB ?_
 refine zD 11 (fun h12=>?_) (fun h12=>?_)
 ·refine zA (fun x13 h14=>?_)
  refine zA (fun x15 h16=>?_)
  refine zA (fun x17 h18=>?_)
  refine J_g 932 [] [(0,sl 2 (File.enc false) a1),(3,rr 0 s11.1),(4,iv s11.2)] [(0,rE 2 (File.enc true) (s11.1.set s11.2.toNat x15))] (zC 4 (uN (kk:=.i64) 23 158 2 (File.enc false) (.tmp 16) (.tmp 17) h14) (zC 6 (uH («as»:=[.ag (File.enc false x13)]) [(.tmp 19)] [158] false [] [] (.cons (.same rfl) (.nil)) (zDW.ok x13) h16 (.ag (.cons (.same rfl rfl) (.cons (.own 1) (.nil))))) (zC 7 (kM (kk:=.i64) 31 138 2 0 (File.enc true) (.tmp 14) (.tmp 15) h18) (zGY 8 (zQb (b:=x15) (es':=[sv x15.Path,so 1 eU8 x15.Data]) (ts:=[1]) 138 2 0 0 (File.enc true) (.ag [sv x15.Path,rr 1 x15.Data]) (.tmp 21) (.tmp 20) [(1,rE 1 eU8 x15.Data)] h18 (.keep rfl (.move (.head _) (List.length_map _) (by decide) (.nil))) rfl) zB)))) ?_
  refine zFJ (σ':=St.mk' [(0,sl 2 (File.enc false) a1),(3,rr 0 (s11.1.set s11.2.toNat x15)),(4,iv s11.2)] [(0,rE 2 (File.enc true) (s11.1.set s11.2.toNat x15))]) (by simp only [rr,List.length_set]) ?_
  refine J_g 467 [] [(0,sl 2 (File.enc false) a1),(3,rr 0 (s11.1.set s11.2.toNat x15)),(4,iv (w64 (s11.2+1)))] [(0,rE 2 (File.enc true) (s11.1.set s11.2.toNat x15))] zB ?_
  exact J_q (J_b (ih (s11.1.set s11.2.toNat x15,w64 (s11.2+1)))) rfl
 ·exact xB (hk s11.1) rfl
theorem zCW.ok (a1:(List File)):Ok Tryz.prog 61 [sl 2 (File.enc false) a1] [] ((zCW a1).map fun r=>(so 2 (File.enc true) r,[])):=by
 refine zH c61 Tryz.f61 0 23 (fun q=>?_)
 unfold zCW
 refine J_g 2 [] [(0,sl 2 (File.enc false) a1)] [] zB ?_
 refine zA (fun x2 h3=>?_)
 refine J_g 6 [] [(0,sl 2 (File.enc false) a1),(3,rr 0 x2)] [(0,rE 2 (File.enc true) x2)] (zC 2 (zQE 31 138 2 40 0 (File.enc true) ({Path:=ByteArray.empty,Data:=([]:List Int)}:File) (.tmp 6) h3 (.keep rfl (.nilsl true 1 (.nil)))) zB) ?_
 refine J_g 28 [] [(0,sl 2 (File.enc false) a1),(3,rr 0 x2),(4,iv 0)] [(0,rE 2 (File.enc true) x2)] zB ?_
 refine zFl (zCP.ok a1 q _ (fun v19=>J_j ?_) (x2,0))
 refine J_g 30 [] [(2,rr 0 v19)] [(0,rE 2 (File.enc true) v19)] zB ?_
 exact zD5 (ds:=[rr 0 v19]) (ds':=[so 2 (File.enc true) v19]) (.cons (.cell (.move (.head _) (List.length_map _) (by decide) (.nil))) (.nil) (by decide)) rfl
noncomputable def c17:Code:=(Tryz.f17.body).getD .skip
theorem zDS.ok (a1:zF):Ok Tryz.prog 17 [.ag (zF.enc false a1)] [] ((zDS a1).map fun r=>(.ag (zF.enc true r),[])):=by
 refine zH c17 Tryz.f17 0 21 (fun q=>?_)
 unfold zDS
 refine J_g 2 [(0,0),(1,1)] [(1,pp 0),(2,pp 1)] [(0,.box (zF.enc false a1)),(1,.box [nv,iv 0,iv 0,iv 0,bv false])] zB ?_
 refine J_g 6 [(0,2)] [(1,pp 0),(2,pp 1),(3,pp 2)] [(0,.box (zF.enc false a1)),(1,.box [nv,iv 0,iv 0,iv 0,bv false]),(2,.box [nv,iv 0,iv 0,iv 0,bv false])] zB ?_
 refine zA (fun x2 h3=>?_)
 refine J_g 14 [] [(1,pp 0),(2,pp 1),(3,pp 2)] [(0,.box (zF.enc false a1)),(1,.box [nv,iv 0,iv 0,iv 0,bv false]),(2,.box [rr 3 x2,iv 0,iv 0,iv 0,bv false]),(3,rE 2 (File.enc true) x2)] (zC 2 (uH («as»:=[sl 2 (File.enc false) a1.Files]) [(.tmp 5)] [23] false [] [] (.cons (.same rfl) (.nil)) (zCW.ok a1.Files) h3 (.own 3)) zB) ?_
 refine J_g 30 [] [(1,pp 0),(2,pp 1),(3,pp 2)] [(0,.box (zF.enc false a1)),(1,.box [nv,iv 0,iv 0,iv 0,bv false]),(2,.box [rr 3 x2,iv a1.Budget,iv 0,iv 0,bv false]),(3,rE 2 (File.enc true) x2)] zB ?_
 refine J_g 62 [] [(1,pp 0),(2,pp 1),(3,pp 2)] [(0,.box (zF.enc false a1)),(1,.box [nv,iv 0,iv 0,iv 0,bv false]),(2,.box [rr 3 x2,iv a1.Budget,iv a1.Writes,iv 0,bv false]),(3,rE 2 (File.enc true) x2)] zB ?_
 refine J_g 126 [] [(1,pp 0),(2,pp 1),(3,pp 2)] [(0,.box (zF.enc false a1)),(1,.box [nv,iv 0,iv 0,iv 0,bv false]),(2,.box [rr 3 x2,iv a1.Budget,iv a1.Writes,iv a1.Stop,bv false]),(3,rE 2 (File.enc true) x2)] zB ?_
 refine J_g 254 [] [(2,pp 1),(3,pp 2)] [(1,.box [nv,iv 0,iv 0,iv 0,bv false]),(2,.box [rr 3 x2,iv a1.Budget,iv a1.Writes,iv a1.Stop,bv a1.Down]),(3,rE 2 (File.enc true) x2)] zB ?_
 refine J_g 510 [] [(2,pp 1)] [(1,.box [rr 3 x2,iv a1.Budget,iv a1.Writes,iv a1.Stop,bv a1.Down]),(3,rE 2 (File.enc true) x2)] zB ?_
 exact zD5 (ds:=[.ag [rr 3 x2,iv a1.Budget,iv a1.Writes,iv a1.Stop,bv a1.Down]]) (ds':=[.ag [so 2 (File.enc true) x2,iv a1.Budget,iv a1.Writes,iv a1.Stop,bv a1.Down]]) (.cons (.ag (.move (.tail _ (.head _)) (List.length_map _) (by decide) (.keep rfl (.keep rfl (.keep rfl (.keep rfl (.nil))))))) (.nil) (by decide)) rfl
noncomputable def c10:Code:=(Tryz.f10.body).getD .skip
theorem vD.ok (a1:System):Ok Tryz.prog 10 [.ag (System.enc false a1)] [] ((vD a1).map fun r=>(.ag (System.enc true r),[])):=by
 refine zH c10 Tryz.f10 0 13 (fun q=>?_)
 unfold vD
 refine J_g 2 [(0,0),(1,1)] [(1,pp 0),(2,pp 1)] [(0,.box (System.enc false a1)),(1,.box [nv,nv,iv 0,iv 0,iv 0,bv false])] zB ?_
 refine J_g 6 [(0,2)] [(1,pp 0),(2,pp 1),(3,pp 2)] [(0,.box (System.enc false a1)),(1,.box [nv,nv,iv 0,iv 0,iv 0,bv false]),(2,.box [nv,nv,iv 0,iv 0,iv 0,bv false])] zB ?_
 refine zA (fun x2 h3=>?_)
 refine J_g 14 [] [(1,pp 0),(2,pp 1),(3,pp 2)] [(0,.box (System.enc false a1)),(1,.box [nv,nv,iv 0,iv 0,iv 0,bv false]),(2,.box [rr 3 x2,nv,iv 0,iv 0,iv 0,bv false]),(3,rE 8 (Pack.enc true) x2)] (zC 2 (uH («as»:=[sl 8 (Pack.enc false) a1.Catalog]) [(.tmp 5)] [22] false [] [] (.cons (.same rfl) (.nil)) (zDl.ok a1.Catalog) h3 (.own 3)) zB) ?_
 refine zA (fun x4 h5=>?_)
 refine J_g 30 [] [(2,pp 1),(3,pp 2)] [(1,.box [nv,nv,iv 0,iv 0,iv 0,bv false]),(2,.box [rr 3 x2,rr 4 x4.Files,iv x4.Budget,iv x4.Writes,iv x4.Stop,bv x4.Down]),(3,rE 8 (Pack.enc true) x2),(4,rE 2 (File.enc true) x4.Files)] (zC 2 (uH («as»:=[.ag (zF.enc false a1.zF)]) [(.tmp 9)] [25] false [] [] (.cons (.same rfl) (.nil)) (zDS.ok a1.zF) h5 (.ag (.cons (.own 4) (.cons (.same rfl rfl) (.cons (.same rfl rfl) (.cons (.same rfl rfl) (.cons (.same rfl rfl) (.nil)))))))) zB) ?_
 refine J_g 62 [] [(2,pp 1)] [(1,.box [rr 3 x2,rr 4 x4.Files,iv x4.Budget,iv x4.Writes,iv x4.Stop,bv x4.Down]),(3,rE 8 (Pack.enc true) x2),(4,rE 2 (File.enc true) x4.Files)] zB ?_
 exact zD5 (ds:=[.ag [rr 3 x2,rr 4 x4.Files,iv x4.Budget,iv x4.Writes,iv x4.Stop,bv x4.Down]]) (ds':=[.ag [so 8 (Pack.enc true) x2,so 2 (File.enc true) x4.Files,iv x4.Budget,iv x4.Writes,iv x4.Stop,bv x4.Down]]) (.cons (.ag (.move (.tail _ (.head _)) (List.length_map _) (by decide) (.move (.tail _ (.tail _ (.head _))) (List.length_map _) (by decide) (.keep rfl (.keep rfl (.keep rfl (.keep rfl (.nil)))))))) (.nil) (by decide)) rfl
noncomputable def zSM:Code:=(Tryz.f289.body).getD .skip
theorem vO.ok (a1:Int):Ok Tryz.prog 289 [uv a1] [] ((vO a1).map fun r=>(bv r,[])):=by
 refine zH zSM Tryz.f289 0 9 (fun q=>?_)
 unfold vO
 refine J_g 2 [] [(0,uv a1)] [] zB ?_
 refine wN (fun h2=>?_) (fun h2=>?_)
 ·refine J_g 6 [] [(2,bv (decide (a1≤122)))] [] (wF 2 [(4,bv (decide (a1≥97)))] [] h2 zB) ?_
  exact zR rfl
 ·refine J_g 6 [] [(2,bv false)] [] (wF 2 [(4,bv (decide (a1≥97)))] [] h2 zB) ?_
  exact zR rfl
noncomputable def c233:Code:=(Tryz.f233.body).getD .skip
theorem vR.ok (a1:Int):Ok Tryz.prog 233 [uv a1] [] ((vR a1).map fun r=>(bv r,[])):=by
 refine zH c233 Tryz.f233 0 9 (fun q=>?_)
 unfold vR
 refine J_g 2 [] [(0,uv a1)] [] zB ?_
 refine wN (fun h2=>?_) (fun h2=>?_)
 ·refine J_g 6 [] [(2,bv (decide (a1≤57)))] [] (wF 2 [(4,bv (decide (a1≥48)))] [] h2 zB) ?_
  exact zR rfl
 ·refine J_g 6 [] [(2,bv false)] [] (wF 2 [(4,bv (decide (a1≥48)))] [] h2 zB) ?_
  exact zR rfl
noncomputable def c236:Code:=(Tryz.f236.body).getD .skip
theorem vG.ok (a1:Int):Ok Tryz.prog 236 [uv a1] [] ((vG a1).map fun r=>(bv r,[])):=by
 refine zH c236 Tryz.f236 0 13 (fun q=>?_)
 unfold vG
 refine J_g 2 [] [(0,uv a1)] [] zB ?_
 refine zA (fun x2 h3=>?_)
 refine wN (fun h4=>?_) (fun h4=>?_)
 ·refine J_g 6 [] [(2,bv true)] [] (zC 1 (xO [(.tmp 3)] [5] (vO.ok a1) h3) (wF 2 [(4,bv x2)] [] h4 zB)) ?_
  exact zR rfl
 ·refine zA (fun x5 h6=>?_)
  refine wN (fun h7=>?_) (fun h7=>?_)
  ·refine J_g 6 [] [(2,bv true)] [] (zC 1 (xO [(.tmp 3)] [5] (vO.ok a1) h3) (wF 2 [(4,bv x2)] [] h4 (zAR 4 2 5 false (xO [(.tmp 6)] [5] (vR.ok a1) h6) (wF 6 [(8,bv x5)] [] h7 zB)))) ?_
   exact zR rfl
  ·refine J_g 6 [] [(2,bv (a1==95))] [] (zC 1 (xO [(.tmp 3)] [5] (vO.ok a1) h3) (wF 2 [(4,bv x2)] [] h4 (zAR 4 2 5 false (xO [(.tmp 6)] [5] (vR.ok a1) h6) (wF 6 [(8,bv x5)] [] h7 zB)))) ?_
   exact zR rfl
noncomputable def c228:Code:=(Tryz.f228.body).getD .skip
theorem kD.ok (a1:ByteArray) (q:Wd) (kn:Unit→Option (D×List Ent)) (hk:∀v:Unit,J (q.g Tryz.prog 228 0 29) c228 (atI c228 15) (St.mk' [] []) (some v) kn):
  ∀s16:Int,J (q.g Tryz.prog 228 0 29) c228 (atI c228 116) (St.mk' [(0,sv a1),(3,iv s16)] []) (kD a1 s16) (Fl.go (fun r:Int=>some (iv r,[])) kn):=by
 refine jJ (fun g ih s16=>?_)
 unfold zCe
 refine J_g 464 [] [(0,sv a1),(3,iv s16),(21,bv (decide (s16< (a1.size:Int))))] [] zB ?_
 refine zD 21 (fun h17=>?_) (fun h17=>?_)
 ·refine zA (fun x18 h19=>?_)
  refine zA (fun x20 h21=>?_)
  refine J_g 1864 [] [(0,sv a1),(3,iv s16),(28,bv (!x20))] [] (zC 2 (zJr (kk:=.i64) 9 (.tmp 24) (.tmp 25) h19) (zC 3 (xO [(.tmp 26)] [5] (vG.ok x18) h21) zB)) ?_
  refine zD 28 (fun h22=>?_) (fun h22=>?_)
  ·refine J_g 7460 [] [(2,iv 5)] [] zB ?_
   exact zR rfl
  ·refine J_g 467 [] [(0,sv a1),(3,iv (w64 (s16+1)))] [] zB ?_
   exact J_q (J_b (ih (w64 (s16+1)))) rfl
 ·exact xB (hk ()) rfl
theorem wX.ok (a1:ByteArray):Ok Tryz.prog 228 [sv a1] [] ((wX a1).map fun r=>(iv r,[])):=by
 refine zH c228 Tryz.f228 0 29 (fun q=>?_)
 unfold wX
 refine J_g 2 [] [(0,sv a1)] [] zB ?_
 refine wD (atI c228 13) (fun v8:Bool=>St.mk' [(0,sv a1),(17,bv v8)] []) (fun v8=>?_) (fun jv8=>?_)
 ·refine zD 17 (fun h9=>?_) (fun h9=>?_)
  ·refine J_g 52 [] [(2,iv 5)] [] zB ?_
   exact zR rfl
  ·refine J_g 28 [] [(0,sv a1),(3,iv 0)] [] zB ?_
   refine vY (K0:=(fun r:Int=>some (iv r,[]))) (fun _=>rfl) (kD.ok a1 q _ (fun v23=>J_j ?_) 0)
   refine J_g 30 [] [(2,iv 0)] [] zB ?_
   exact zR rfl
 ·refine wN (fun h2=>?_) (fun h2=>?_)
  ·refine J_g 12 [] [(0,sv a1),(17,bv true)] [] (wF 3 [(6,bv (decide ((a1.size:Int)<1)))] [] h2 zB) ?_
   exact xB (J_j (jv8 true)) rfl
  ·refine wN (fun h3=>?_) (fun h3=>?_)
   ·refine J_g 12 [] [(0,sv a1),(17,bv true)] [] (wF 3 [(6,bv (decide ((a1.size:Int)<1)))] [] h2 (wF 8 [(11,bv (decide ((a1.size:Int)>12)))] [] h3 zB)) ?_
    exact xB (J_j (jv8 true)) rfl
   ·refine zA (fun x4 h5=>?_)
    refine zA (fun x6 h7=>?_)
    refine J_g 12 [] [(0,sv a1),(17,bv (!x6))] [] (wF 3 [(6,bv (decide ((a1.size:Int)<1)))] [] h2 (wF 8 [(11,bv (decide ((a1.size:Int)>12)))] [] h3 (zAR 10 8 12 false (zJr (kk:=.i64) 9 (.tmp 13) (.const (.int .i64 0)) h5) (zAR 11 8 12 false (xO [(.tmp 14)] [5] (vO.ok x4) h7) zB)))) ?_
    exact xB (J_j (jv8 (!x6))) rfl
noncomputable def c164:Code:=(Tryz.f164.body).getD .skip
theorem wG.ok (a1:Int) (a2:Int) (a3:Int):Ok Tryz.prog 164 [iv a1,iv a2,iv a3] [] ((wG a1 a2 a3).map fun r=>(bv r,[])):=by
 refine zH c164 Tryz.f164 0 15 (fun q=>?_)
 unfold wG
 refine J_g 2 [] [(0,iv a1),(1,iv a2),(2,iv a3)] [] zB ?_
 refine wN (fun h4=>?_) (fun h4=>?_)
 ·refine J_g 6 [] [(6,bv (decide (a1≤a3)))] [] (wF 3 [(9,bv (decide (a1≥a2)))] [] h4 zB) ?_
  exact zR rfl
 ·refine J_g 6 [] [(6,bv false)] [] (wF 3 [(9,bv (decide (a1≥a2)))] [] h4 zB) ?_
  exact zR rfl
noncomputable def c229:Code:=(Tryz.f229.body).getD .skip
theorem wB.ok (a1:Version):Ok Tryz.prog 229 [.ag (Version.enc a1)] [] ((wB a1).map fun r=>(iv r,[])):=by
 refine zH c229 Tryz.f229 0 19 (fun q=>?_)
 unfold wB
 refine J_g 2 [(0,0)] [(1,pp 0)] [(0,.box (Version.enc a1))] zB ?_
 refine zA (fun x2 h3=>?_)
 refine wD (atI c229 13) (fun v10:Bool=>St.mk' [(18,bv v10)] []) (fun v10=>?_) (fun jv10=>?_)
 ·refine zD 18 (fun h11=>?_) (fun h11=>?_)
  ·refine J_g 52 [] [(2,iv 3)] [] zB ?_
   exact zR rfl
  ·refine J_g 14 [] [(2,iv 0)] [] zB ?_
   exact zR rfl
 ·refine wN (fun h4=>?_) (fun h4=>?_)
  ·refine J_g 12 [] [(18,bv true)] [] (zC 2 (xO [(.tmp 4),(.const (.int .i64 0)),(.const (.int .i64 999))] [2,2,2] (wG.ok a1.A 0 999) h3) (wF 4 [(6,bv (!x2))] [] h4 zB)) ?_
   exact xB (J_j (jv10 true)) rfl
  ·refine zA (fun x5 h6=>?_)
   refine wN (fun h7=>?_) (fun h7=>?_)
   ·refine J_g 12 [] [(18,bv true)] [] (zC 2 (xO [(.tmp 4),(.const (.int .i64 0)),(.const (.int .i64 999))] [2,2,2] (wG.ok a1.A 0 999) h3) (wF 4 [(6,bv (!x2))] [] h4 (zAR 7 4 7 false (xO [(.tmp 9),(.const (.int .i64 0)),(.const (.int .i64 999))] [2,2,2] (wG.ok a1.B 0 999) h6) (wF 10 [(12,bv (!x5))] [] h7 zB)))) ?_
    exact xB (J_j (jv10 true)) rfl
   ·refine zA (fun x8 h9=>?_)
    refine J_g 12 [] [(18,bv (!x8))] [] (zC 2 (xO [(.tmp 4),(.const (.int .i64 0)),(.const (.int .i64 999))] [2,2,2] (wG.ok a1.A 0 999) h3) (wF 4 [(6,bv (!x2))] [] h4 (zAR 7 4 7 false (xO [(.tmp 9),(.const (.int .i64 0)),(.const (.int .i64 999))] [2,2,2] (wG.ok a1.B 0 999) h6) (wF 10 [(12,bv (!x5))] [] h7 (zAR 13 10 13 false (xO [(.tmp 15),(.const (.int .i64 0)),(.const (.int .i64 999))] [2,2,2] (wG.ok a1.C 0 999) h9) zB))))) ?_
    exact xB (J_j (jv10 (!x8))) rfl
noncomputable def c119:Code:=(Tryz.f119.body).getD .skip
theorem zC7.ok (a1:(List ByteArray)) (a2:ByteArray) (q:Wd) (kn:Unit→Option (D×List Ent)) (hk:∀v:Unit,J (q.g Tryz.prog 119 0 18) c119 (atI c119 7) (St.mk' [] []) (some v) kn):
  ∀s7:Int,J (q.g Tryz.prog 119 0 18) c119 (atI c119 52) (St.mk' [(0,sl 1 eStr a1),(1,sv a2),(5,iv s7)] []) (zC7 a1 a2 s7) (Fl.go (fun r:Bool=>some (bv r,[])) kn):=by
 refine jJ (fun g ih s7=>?_)
 unfold zBX
 refine J_g 208 [] [(0,sl 1 eStr a1),(1,sv a2),(5,iv s7),(9,bv (decide (s7< (a1.length:Int))))] [] zB ?_
 refine zD 9 (fun h8=>?_) (fun h8=>?_)
 ·refine zA (fun x9 h10=>?_)
  refine J_g 840 [] [(0,sl 1 eStr a1),(1,sv a2),(5,iv s7),(17,bv (seq x9 a2))] [] (zC 2 (uN (kk:=.i64) 86 9 1 eStr (.tmp 12) (.tmp 13) h10) zB) ?_
  refine zD 17 (fun h11=>?_) (fun h11=>?_)
  ·refine J_g 3364 [] [(4,bv true)] [] zB ?_
   exact zR rfl
  ·refine J_g 211 [] [(0,sl 1 eStr a1),(1,sv a2),(5,iv (w64 (s7+1)))] [] zB ?_
   exact J_q (J_b (ih (w64 (s7+1)))) rfl
 ·exact xB (hk ()) rfl
theorem jV.ok (a1:(List ByteArray)) (a2:ByteArray):Ok Tryz.prog 119 [sl 1 eStr a1,sv a2] [] ((jV a1 a2).map fun r=>(bv r,[])):=by
 refine zH c119 Tryz.f119 0 18 (fun q=>?_)
 unfold jV
 refine J_g 2 [] [(0,sl 1 eStr a1),(1,sv a2)] [] zB ?_
 refine J_g 12 [] [(0,sl 1 eStr a1),(1,sv a2),(5,iv 0)] [] zB ?_
 refine vY (K0:=(fun r:Bool=>some (bv r,[]))) (fun _=>rfl) (zC7.ok a1 a2 q _ (fun v12=>J_j ?_) 0)
 refine J_g 14 [] [(4,bv false)] [] zB ?_
 exact zR rfl
noncomputable def zTh:Code:=(Tryz.f292.body).getD .skip
theorem kP.ok:Ok Tryz.prog 292 [] [] ((kP).map fun r=>(.ag (Version.enc r),[])):=by
 refine zH zTh Tryz.f292 0 2 (fun q=>?_)
 unfold kP
 refine J_g 2 [(0,0)] [(0,pp 0)] [(0,.box [iv 0,iv 0,iv 0])] zB ?_
 refine J_g 6 [] [(0,pp 0)] [(0,.box [iv 1000,iv 0,iv 0])] zB ?_
 exact zR rfl
noncomputable def zS7:Code:=(Tryz.f290.body).getD .skip
theorem kU.ok (a1:Int) (a2:Int):Ok Tryz.prog 290 [iv a1,iv a2] [] ((kU a1 a2).map fun r=>(iv r,[])):=by
 refine zH zS7 Tryz.f290 0 11 (fun q=>?_)
 unfold kU
 refine J_g 2 [] [(0,iv a1),(1,iv a2)] [] zB ?_
 refine J_g 12 [] [(0,iv a1),(1,iv a2),(7,bv (decide (a1<a2)))] [] zB ?_
 refine zD 7 (fun h3=>?_) (fun h3=>?_)
 ·refine J_g 52 [] [(4,iv (-1))] [] zB ?_
  exact zR rfl
 ·refine J_g 28 [] [(10,bv (decide (a1>a2)))] [] zB ?_
  refine zD 10 (fun h4=>?_) (fun h4=>?_)
  ·refine J_g 116 [] [(4,iv 1)] [] zB ?_
   exact zR rfl
  ·refine J_g 30 [] [(4,iv 0)] [] zB ?_
   exact zR rfl
noncomputable def zTa:Code:=(Tryz.f231.body).getD .skip
theorem yF.ok (a1:Version) (a2:Version):Ok Tryz.prog 231 [.ag (Version.enc a1),.ag (Version.enc a2)] [] ((yF a1 a2).map fun r=>(iv r,[])):=by
 refine zH zTa Tryz.f231 0 28 (fun q=>?_)
 unfold yF
 refine J_g 2 [(0,0),(1,1)] [(2,pp 0),(3,pp 1)] [(0,.box (Version.enc a1)),(1,.box (Version.enc a2))] zB ?_
 refine zA (fun x3 h4=>?_)
 refine J_g 12 [] [(2,pp 0),(3,pp 1),(5,iv x3)] [(0,.box (Version.enc a1)),(1,.box (Version.enc a2))] (zC 4 (xO [(.tmp 8),(.tmp 10)] [2,2] (kU.ok a1.A a2.A) h4) zB) ?_
 refine J_g 26 [] [(2,pp 0),(3,pp 1),(5,iv x3),(13,bv (x3 !=0))] [(0,.box (Version.enc a1)),(1,.box (Version.enc a2))] zB ?_
 refine zD 13 (fun h5=>?_) (fun h5=>?_)
 ·refine J_g 108 [] [(4,iv x3)] [] zB ?_
  exact zR rfl
 ·refine zA (fun x6 h7=>?_)
  refine J_g 28 [] [(2,pp 0),(3,pp 1),(6,iv x6)] [(0,.box (Version.enc a1)),(1,.box (Version.enc a2))] (zC 4 (xO [(.tmp 16),(.tmp 18)] [2,2] (kU.ok a1.B a2.B) h7) zB) ?_
  refine J_g 58 [] [(2,pp 0),(3,pp 1),(6,iv x6),(21,bv (x6 !=0))] [(0,.box (Version.enc a1)),(1,.box (Version.enc a2))] zB ?_
  refine zD 21 (fun h8=>?_) (fun h8=>?_)
  ·refine J_g 236 [] [(4,iv x6)] [] zB ?_
   exact zR rfl
  ·refine zA (fun x9 h10=>?_)
   refine J_g 30 [] [(4,iv x9)] [] (zC 4 (xO [(.tmp 24),(.tmp 26)] [2,2] (kU.ok a1.C a2.C) h10) zB) ?_
   exact zR rfl
noncomputable def zSu:Code:=(Tryz.f238.body).getD .skip
theorem vM.ok (a1:Term):Ok Tryz.prog 238 [.ag (Term.enc a1)] [] ((vM a1).map fun r=>(iv r,[])):=by
 refine zH zSu Tryz.f238 0 33 (fun q=>?_)
 unfold vM
 refine J_g 2 [(0,0)] [(1,pp 0)] [(0,.box (Term.enc a1))] zB ?_
 refine zA (fun x2 h3=>?_)
 refine J_g 12 [] [(1,pp 0),(3,iv x2)] [(0,.box (Term.enc a1))] (zC 2 (xO [(.tmp 6)] [9] (wX.ok a1.Name) h3) zB) ?_
 refine J_g 26 [] [(1,pp 0),(3,iv x2),(9,bv (x2 !=0))] [(0,.box (Term.enc a1))] zB ?_
 refine zD 9 (fun h4=>?_) (fun h4=>?_)
 ·refine J_g 108 [] [(2,iv x2)] [] zB ?_
  exact zR rfl
 ·refine zA (fun x5 h6=>?_)
  refine J_g 28 [] [(1,pp 0),(4,iv x5)] [(0,.box (Term.enc a1))] (zC 2 (xO [(.tmp 12)] [99] (wB.ok a1.Low) h6) zB) ?_
  refine J_g 58 [] [(1,pp 0),(4,iv x5),(15,bv (x5 !=0))] [(0,.box (Term.enc a1))] zB ?_
  refine zD 15 (fun h7=>?_) (fun h7=>?_)
  ·refine J_g 236 [] [(2,iv x5)] [] zB ?_
   exact zR rfl
  ·refine zA (fun x8 h9=>?_)
   refine wD (atI zSu 61) (fun v13:Bool=>St.mk' [(1,pp 0),(26,bv v13)] [(0,.box (Term.enc a1))]) (fun v13=>?_) (fun jv13=>?_)
   ·refine zD 26 (fun h14=>?_) (fun h14=>?_)
    ·refine J_g 244 [] [(2,iv 3)] [] zB ?_
     exact zR rfl
    ·refine zA (fun x15 h16=>?_)
     refine J_g 124 [] [(32,bv (decide (x15≥0)))] [] (zC 4 (xO [(.tmp 28),(.tmp 30)] [99,99] (yF.ok a1.Low a1.High) h16) zB) ?_
     refine zD 32 (fun h17=>?_) (fun h17=>?_)
     ·refine J_g 500 [] [(2,iv 1)] [] zB ?_
      exact zR rfl
     ·refine J_g 126 [] [(2,iv 0)] [] zB ?_
      exact zR rfl
   ·refine wN (fun h10=>?_) (fun h10=>?_)
    ·refine zA (fun x11 h12=>?_)
     refine J_g 60 [] [(1,pp 0),(26,bv (x11 !=0))] [(0,.box (Term.enc a1))] (zC 2 (xO [] [] (kP.ok) h9) (zC 3 (zKo (b:=.neq) (r:=(a1.High.A==x8.A&&(a1.High.B==x8.B&&(a1.High.C==x8.C&&true)))) 99 99 (.tmp 18) (.tmp 19) [.int .i64 a1.High.A,.int .i64 a1.High.B,.int .i64 a1.High.C] [.int .i64 x8.A,.int .i64 x8.B,.int .i64 x8.C] (.inr ⟨rfl,rfl⟩)) (wF 4 [(20,bv (!(a1.High.A==x8.A&&(a1.High.B==x8.B&&(a1.High.C==x8.C&&true)))))] [] h10 (zAR 7 4 21 true (xO [(.tmp 23)] [99] (wB.ok a1.High) h12) zB)))) ?_
     exact xB (J_j (jv13 (x11 !=0))) rfl
    ·refine J_g 60 [] [(1,pp 0),(26,bv false)] [(0,.box (Term.enc a1))] (zC 2 (xO [] [] (kP.ok) h9) (zC 3 (zKo (b:=.neq) (r:=(a1.High.A==x8.A&&(a1.High.B==x8.B&&(a1.High.C==x8.C&&true)))) 99 99 (.tmp 18) (.tmp 19) [.int .i64 a1.High.A,.int .i64 a1.High.B,.int .i64 a1.High.C] [.int .i64 x8.A,.int .i64 x8.B,.int .i64 x8.C] (.inr ⟨rfl,rfl⟩)) (wF 4 [(20,bv (!(a1.High.A==x8.A&&(a1.High.B==x8.B&&(a1.High.C==x8.C&&true)))))] [] h10 zB))) ?_
     exact xB (J_j (jv13 false)) rfl
noncomputable def zRC:Code:=(Tryz.f230.body).getD .skip
theorem zCZ.ok (a1:(List Term)) (q:Wd) (kn:Unit→Option (D×List Ent)) (hk:∀v:Unit,J (q.g Tryz.prog 230 0 19) zRC (atI zRC 7) (St.mk' [] []) (some v) kn):
  ∀s8:Int,J (q.g Tryz.prog 230 0 19) zRC (atI zRC 52) (St.mk' [(0,sl 7 Term.enc a1),(3,iv s8)] []) (zCZ a1 s8) (Fl.go (fun r:Int=>some (iv r,[])) kn):=by
 refine jJ (fun g ih s8=>?_)
 unfold zBT
 refine J_g 208 [] [(0,sl 7 Term.enc a1),(3,iv s8),(8,bv (decide (s8< (a1.length:Int))))] [] zB ?_
 refine zD 8 (fun h9=>?_) (fun h9=>?_)
 ·refine zA (fun x10 h11=>?_)
  refine zA (fun x12 h13=>?_)
  refine J_g 840 [] [(0,sl 7 Term.enc a1),(3,iv s8),(4,iv x12)] [] (zC 2 (uN (kk:=.i64) 75 149 7 Term.enc (.tmp 11) (.tmp 12) h11) (zC 4 (xO [(.tmp 14)] [149] (vM.ok x10) h13) zB)) ?_
  refine J_g 1682 [] [(0,sl 7 Term.enc a1),(3,iv s8),(4,iv x12),(17,bv (x12 !=0))] [] zB ?_
  refine zD 17 (fun h14=>?_) (fun h14=>?_)
  ·refine J_g 6732 [] [(2,iv x12)] [] zB ?_
   exact zR rfl
  ·refine J_g 211 [] [(0,sl 7 Term.enc a1),(3,iv (w64 (s8+1)))] [] zB ?_
   exact J_q (J_b (ih (w64 (s8+1)))) rfl
 ·exact xB (hk ()) rfl
theorem jY.ok (a1:(List Term)):Ok Tryz.prog 230 [sl 7 Term.enc a1] [] ((jY a1).map fun r=>(iv r,[])):=by
 refine zH zRC Tryz.f230 0 19 (fun q=>?_)
 unfold jY
 refine J_g 2 [] [(0,sl 7 Term.enc a1)] [] zB ?_
 refine J_g 12 [] [(0,sl 7 Term.enc a1),(3,iv 0)] [] zB ?_
 refine vY (K0:=(fun r:Int=>some (iv r,[]))) (fun _=>rfl) (zCZ.ok a1 q _ (fun v15=>J_j ?_) 0)
 refine J_g 14 [] [(2,iv 0)] [] zB ?_
 exact zR rfl
noncomputable def c162:Code:=(Tryz.f162.body).getD .skip
theorem kR.ok (a1:Pack) (q:Wd) (kn:Unit→Option (D×List Ent)) (hk:∀v:Unit,J (q.g Tryz.prog 162 0 118) c162 (atI c162 511) (St.mk' [(1,pp 0)] [(0,.box (Pack.enc false a1))]) (some v) kn):
  ∀s70:Int,J (q.g Tryz.prog 162 0 118) c162 (atI c162 4084) (St.mk' [(1,pp 0),(8,iv s70)] [(0,.box (Pack.enc false a1))]) (kR a1 s70) (Fl.go (fun r:Int=>some (iv r,[])) kn):=by
 refine jJ (fun g ih s70=>?_)
 unfold zA9
 refine J_g 16336 [] [(1,pp 0),(8,iv s70),(96,bv (decide (s70< (a1.Needs.length:Int))))] [(0,.box (Pack.enc false a1))] zB ?_
 refine zD 96 (fun h71=>?_) (fun h71=>?_)
 ·refine zA (fun x72 h73=>?_)
  refine J_g 130704 [] [(1,pp 0),(8,iv s70),(105,bv ((x72.length:Int)==0))] [(0,.box (Pack.enc false a1))] (zC 3 (uN (kk:=.i64) 100 75 1 (eSl false 7 Term.enc) (.tmp 100) (.tmp 101) h73) zB) ?_
  refine zD 105 (fun h74=>?_) (fun h74=>?_)
  ·refine J_g 522820 [] [(2,iv 1)] [] zB ?_
   exact zR rfl
  ·refine zA (fun x75 h76=>?_)
   refine zA (fun x77 h78=>?_)
   refine J_g 130706 [] [(1,pp 0),(8,iv s70),(9,iv x77)] [(0,.box (Pack.enc false a1))] (zC 3 (uN (kk:=.i64) 100 75 1 (eSl false 7 Term.enc) (.tmp 107) (.tmp 108) h76) (zC 5 (xO [(.tmp 110)] [75] (jY.ok x75) h78) zB)) ?_
   refine J_g 261414 [] [(1,pp 0),(8,iv s70),(9,iv x77),(113,bv (x77 !=0))] [(0,.box (Pack.enc false a1))] zB ?_
   refine zD 113 (fun h79=>?_) (fun h79=>?_)
   ·refine J_g 1045660 [] [(2,iv x77)] [] zB ?_
    exact zR rfl
   ·refine J_g 16339 [] [(1,pp 0),(8,iv (w64 (s70+1)))] [(0,.box (Pack.enc false a1))] zB ?_
    exact J_q (J_b (ih (w64 (s70+1)))) rfl
 ·exact xB (hk ()) rfl
theorem kN.ok (a1:Pack) (q:Wd) (kn:Unit→Option (D×List Ent)) (hk:∀v:Unit,J (q.g Tryz.prog 162 0 118) c162 (atI c162 255) (St.mk' [(1,pp 0)] [(0,.box (Pack.enc false a1))]) (some v) kn):
  ∀s42:Int,J (q.g Tryz.prog 162 0 118) c162 (atI c162 2036) (St.mk' [(1,pp 0),(6,iv s42)] [(0,.box (Pack.enc false a1))]) (kN a1 s42) (Fl.go (fun r:Int=>some (iv r,[])) kn):=by
 refine jJ (fun g ih s42=>?_)
 unfold zA7
 refine J_g 8144 [] [(1,pp 0),(6,iv s42),(60,bv (decide (s42< (a1.Provides.length:Int))))] [(0,.box (Pack.enc false a1))] zB ?_
 refine zD 60 (fun h43=>?_) (fun h43=>?_)
 ·refine zA (fun x44 h45=>?_)
  refine zA (fun x46 h47=>?_)
  refine J_g 65168 [] [(1,pp 0),(6,iv s42),(7,iv x46)] [(0,.box (Pack.enc false a1))] (zC 3 (uN (kk:=.i64) 86 9 1 eStr (.tmp 64) (.tmp 65) h45) (zC 5 (xO [(.tmp 67)] [9] (wX.ok x44) h47) zB)) ?_
  refine J_g 130338 [] [(1,pp 0),(6,iv s42),(7,iv x46),(70,bv (x46 !=0))] [(0,.box (Pack.enc false a1))] zB ?_
  refine zD 70 (fun h48=>?_) (fun h48=>?_)
  ·refine J_g 521356 [] [(2,iv x46)] [] zB ?_
   exact zR rfl
  ·refine zA (fun x49 h50=>?_)
   refine wD (atI c162 65171) (fun v58:Bool=>St.mk' [(1,pp 0),(6,iv s42),(91,bv v58)] [(0,.box (Pack.enc false a1))]) (fun v58=>?_) (fun jv58=>?_)
   ·refine zD 91 (fun h59=>?_) (fun h59=>?_)
    ·refine J_g 260684 [] [(2,iv 6)] [] zB ?_
     exact zR rfl
    ·refine J_g 8147 [] [(1,pp 0),(6,iv (w64 (s42+1)))] [(0,.box (Pack.enc false a1))] zB ?_
     exact J_q (J_b (ih (w64 (s42+1)))) rfl
   ·refine wN (fun h51=>?_) (fun h51=>?_)
    ·refine J_g 65170 [] [(1,pp 0),(6,iv s42),(91,bv true)] [(0,.box (Pack.enc false a1))] (zC 3 (uN (kk:=.i64) 86 9 1 eStr (.tmp 73) (.tmp 74) h50) (wF 8 [(79,bv (seq x49 a1.Name))] [] h51 zB)) ?_
     exact xB (J_j (jv58 true)) rfl
    ·refine zA (fun x52 h53=>?_)
     refine zA (fun x54 h55=>?_)
     refine zA (fun x56 h57=>?_)
     refine J_g 65170 [] [(1,pp 0),(6,iv s42),(91,bv x56)] [(0,.box (Pack.enc false a1))] (zC 3 (uN (kk:=.i64) 86 9 1 eStr (.tmp 73) (.tmp 74) h50) (wF 8 [(79,bv (seq x49 a1.Name))] [] h51 (zAR 12 8 80 false (zQO 86 9 1 eStr (.tmp 82) none (some (.tmp 83)) h53) (zAR 16 8 80 false (uN (kk:=.i64) 86 9 1 eStr (.tmp 86) (.tmp 87) h55) (zAR 18 8 80 false (xO [(.tmp 84),(.tmp 89)] [86,9] (jV.ok x52 x54) h57) zB))))) ?_
     exact xB (J_j (jv58 x56)) rfl
 ·exact xB (hk ()) rfl
theorem zBv.ok (a1:Pack) (q:Wd) (kn:Unit→Option (D×List Ent)) (hk:∀v:Unit,J (q.g Tryz.prog 162 0 118) c162 (atI c162 127) (St.mk' [(1,pp 0)] [(0,.box (Pack.enc false a1))]) (some v) kn):
  ∀s19:Int,J (q.g Tryz.prog 162 0 118) c162 (atI c162 1012) (St.mk' [(1,pp 0),(5,iv s19)] [(0,.box (Pack.enc false a1))]) (zBv a1 s19) (Fl.go (fun r:Int=>some (iv r,[])) kn):=by
 refine jJ (fun g ih s19=>?_)
 unfold zA5
 refine J_g 4048 [] [(1,pp 0),(5,iv s19),(46,bv (decide (s19< (a1.Needs.length:Int))))] [(0,.box (Pack.enc false a1))] zB ?_
 refine zD 46 (fun h20=>?_) (fun h20=>?_)
 ·refine zA (fun x21 h22=>?_)
  refine J_g 16200 [] [(1,pp 0),(5,iv s19),(55,bv (decide ((x21.length:Int)>4)))] [(0,.box (Pack.enc false a1))] (zC 3 (uN (kk:=.i64) 100 75 1 (eSl false 7 Term.enc) (.tmp 50) (.tmp 51) h22) zB) ?_
  refine zD 55 (fun h23=>?_) (fun h23=>?_)
  ·refine J_g 64804 [] [(2,iv 2)] [] zB ?_
   exact zR rfl
  ·refine J_g 4051 [] [(1,pp 0),(5,iv (w64 (s19+1)))] [(0,.box (Pack.enc false a1))] zB ?_
   exact J_q (J_b (ih (w64 (s19+1)))) rfl
 ·exact xB (hk ()) rfl
theorem zAV.ok (a1:Pack):Ok Tryz.prog 162 [.ag (Pack.enc false a1)] [] ((zAV a1).map fun r=>(iv r,[])):=by
 refine zH c162 Tryz.f162 0 118 (fun q=>?_)
 unfold zAV
 refine J_g 2 [(0,0)] [(1,pp 0)] [(0,.box (Pack.enc false a1))] zB ?_
 refine zA (fun x2 h3=>?_)
 refine J_g 12 [] [(1,pp 0),(3,iv x2)] [(0,.box (Pack.enc false a1))] (zC 2 (xO [(.tmp 11)] [9] (wX.ok a1.Name) h3) zB) ?_
 refine J_g 26 [] [(1,pp 0),(3,iv x2),(14,bv (x2 !=0))] [(0,.box (Pack.enc false a1))] zB ?_
 refine zD 14 (fun h4=>?_) (fun h4=>?_)
 ·refine J_g 108 [] [(2,iv x2)] [] zB ?_
  exact zR rfl
 ·refine zA (fun x5 h6=>?_)
  refine J_g 28 [] [(1,pp 0),(4,iv x5)] [(0,.box (Pack.enc false a1))] (zC 2 (xO [(.tmp 17)] [99] (wB.ok a1.Version) h6) zB) ?_
  refine J_g 58 [] [(1,pp 0),(4,iv x5),(20,bv (x5 !=0))] [(0,.box (Pack.enc false a1))] zB ?_
  refine zD 20 (fun h7=>?_) (fun h7=>?_)
  ·refine J_g 236 [] [(2,iv x5)] [] zB ?_
   exact zR rfl
  ·refine zA (fun x8 h9=>?_)
   refine J_g 60 [] [(1,pp 0),(25,bv (!x8))] [(0,.box (Pack.enc false a1))] (zC 2 (xO [(.tmp 23),(.const (.int .i64 1)),(.const (.int .i64 200))] [2,2,2] (wG.ok a1.Size 1 200) h9) zB) ?_
   refine zD 25 (fun h10=>?_) (fun h10=>?_)
   ·refine J_g 244 [] [(2,iv 3)] [] zB ?_
    exact zR rfl
   ·refine wD (atI c162 125) (fun v13:Bool=>St.mk' [(1,pp 0),(41,bv v13)] [(0,.box (Pack.enc false a1))]) (fun v13=>?_) (fun jv13=>?_)
    ·refine zD 41 (fun h14=>?_) (fun h14=>?_)
     ·refine J_g 500 [] [(2,iv 2)] [] zB ?_
      exact zR rfl
     ·refine J_g 252 [] [(1,pp 0),(5,iv 0)] [(0,.box (Pack.enc false a1))] zB ?_
      refine vY (K0:=(fun r:Int=>some (iv r,[]))) (fun _=>rfl) (zBv.ok a1 q _ (fun v24=>J_j ?_) 0)
      refine J_g 508 [] [(1,pp 0),(6,iv 0)] [(0,.box (Pack.enc false a1))] zB ?_
      refine vY (K0:=(fun r:Int=>some (iv r,[]))) (fun _=>rfl) (kN.ok a1 q _ (fun v60=>J_j ?_) 0)
      refine J_g 1020 [] [(1,pp 0),(8,iv 0)] [(0,.box (Pack.enc false a1))] zB ?_
      refine vY (K0:=(fun r:Int=>some (iv r,[]))) (fun _=>rfl) (kR.ok a1 q _ (fun v80=>J_j ?_) 0)
      refine zA (fun x81 h82=>?_)
      refine J_g 1022 [] [(2,iv x81)] [] (zC 2 (xO [(.tmp 116)] [75] (jY.ok a1.Bars) h82) zB) ?_
      exact zR rfl
    ·refine wN (fun h11=>?_) (fun h11=>?_)
     ·refine J_g 124 [] [(1,pp 0),(41,bv true)] [(0,.box (Pack.enc false a1))] (wF 4 [(29,bv (decide ((a1.Provides.length:Int)>4)))] [] h11 zB) ?_
      exact xB (J_j (jv13 true)) rfl
     ·refine wN (fun h12=>?_) (fun h12=>?_)
      ·refine J_g 124 [] [(1,pp 0),(41,bv true)] [(0,.box (Pack.enc false a1))] (wF 4 [(29,bv (decide ((a1.Provides.length:Int)>4)))] [] h11 (wF 10 [(35,bv (decide ((a1.Needs.length:Int)>4)))] [] h12 zB)) ?_
       exact xB (J_j (jv13 true)) rfl
      ·refine J_g 124 [] [(1,pp 0),(41,bv (decide ((a1.Bars.length:Int)>4)))] [(0,.box (Pack.enc false a1))] (wF 4 [(29,bv (decide ((a1.Provides.length:Int)>4)))] [] h11 (wF 10 [(35,bv (decide ((a1.Needs.length:Int)>4)))] [] h12 zB)) ?_
       exact xB (J_j (jv13 (decide ((a1.Bars.length:Int)>4)))) rfl
noncomputable def zQP:Code:=(Tryz.f163.body).getD .skip
theorem zD6.ok (a1:(List Pack)) (a2:ByteArray) (a3:Version) (q:Wd) (kn:Unit→Option (D×List Ent)) (hk:∀v:Unit,J (q.g Tryz.prog 163 0 32) zQP (atI zQP 7) (St.mk' [] []) (some v) kn):
  ∀s14:Int,J (q.g Tryz.prog 163 0 32) zQP (atI zQP 52) (St.mk' [(0,sl 8 (Pack.enc false) a1),(1,sv a2),(5,pp 0),(7,iv s14)] [(0,.box (Version.enc a3))]) (zD6 a1 a2 a3 s14) (Fl.go (fun r:Int=>some (iv r,[])) kn):=by
 refine jJ (fun g ih s14=>?_)
 unfold zC5
 refine J_g 208 [] [(0,sl 8 (Pack.enc false) a1),(1,sv a2),(5,pp 0),(7,iv s14),(11,bv (decide (s14< (a1.length:Int))))] [(0,.box (Version.enc a3))] zB ?_
 refine zD 11 (fun h15=>?_) (fun h15=>?_)
 ·refine zA (fun x16 h17=>?_)
  refine wD (atI zQP 841) (fun v23:Bool=>St.mk' [(0,sl 8 (Pack.enc false) a1),(1,sv a2),(5,pp 0),(7,iv s14),(30,bv v23)] [(0,.box (Version.enc a3))]) (fun v23=>?_) (fun jv23=>?_)
  ·refine zD 30 (fun h24=>?_) (fun h24=>?_)
   ·refine J_g 3364 [] [(6,iv s14)] [] zB ?_
    exact zR rfl
   ·refine J_g 211 [] [(0,sl 8 (Pack.enc false) a1),(1,sv a2),(5,pp 0),(7,iv (w64 (s14+1)))] [(0,.box (Version.enc a3))] zB ?_
    exact J_q (J_b (ih (w64 (s14+1)))) rfl
  ·refine wN (fun h18=>?_) (fun h18=>?_)
   ·refine zA (fun x19 h20=>?_)
    refine zA (fun x21 h22=>?_)
    refine J_g 840 [] [(0,sl 8 (Pack.enc false) a1),(1,sv a2),(5,pp 0),(7,iv s14),(30,bv (x21==0))] [(0,.box (Version.enc a3))] (zC 2 (uN (kk:=.i64) 30 102 8 (Pack.enc false) (.tmp 14) (.tmp 15) h17) (wF 7 [(20,bv (seq x16.Name a2))] [] h18 (zAR 10 7 21 true (uN (kk:=.i64) 30 102 8 (Pack.enc false) (.tmp 22) (.tmp 23) h20) (zAR 14 7 21 true (xO [(.tmp 26),(.tmp 27)] [99,99] (yF.ok x19.Version a3) h22) zB)))) ?_
    exact xB (J_j (jv23 (x21==0))) rfl
   ·refine J_g 840 [] [(0,sl 8 (Pack.enc false) a1),(1,sv a2),(5,pp 0),(7,iv s14),(30,bv false)] [(0,.box (Version.enc a3))] (zC 2 (uN (kk:=.i64) 30 102 8 (Pack.enc false) (.tmp 14) (.tmp 15) h17) (wF 7 [(20,bv (seq x16.Name a2))] [] h18 zB)) ?_
    exact xB (J_j (jv23 false)) rfl
 ·exact xB (hk ()) rfl
theorem kY.ok (a1:(List Pack)) (a2:ByteArray) (a3:Version):Ok Tryz.prog 163 [sl 8 (Pack.enc false) a1,sv a2,.ag (Version.enc a3)] [] ((kY a1 a2 a3).map fun r=>(iv r,[])):=by
 refine zH zQP Tryz.f163 0 32 (fun q=>?_)
 unfold kY
 refine J_g 2 [(0,0)] [(0,sl 8 (Pack.enc false) a1),(1,sv a2),(5,pp 0)] [(0,.box (Version.enc a3))] zB ?_
 refine J_g 12 [] [(0,sl 8 (Pack.enc false) a1),(1,sv a2),(5,pp 0),(7,iv 0)] [(0,.box (Version.enc a3))] zB ?_
 refine vY (K0:=(fun r:Int=>some (iv r,[]))) (fun _=>rfl) (zD6.ok a1 a2 a3 q _ (fun v25=>J_j ?_) 0)
 refine J_g 14 [] [(6,iv (-1))] [] zB ?_
 exact zR rfl
noncomputable def c90:Code:=(Tryz.f90.body).getD .skip
theorem jQ.ok (a1:(List Pack)) (q:Wd) (kn:Unit→Option (D×List Ent)) (hk:∀v:Unit,J (q.g Tryz.prog 90 0 37) c90 (atI c90 15) (St.mk' [] []) (some v) kn):
  ∀s18:Int,J (q.g Tryz.prog 90 0 37) c90 (atI c90 116) (St.mk' [(0,sl 8 (Pack.enc false) a1),(3,iv s18)] []) (jQ a1 s18) (Fl.go (fun r:Int=>some (iv r,[])) kn):=by
 refine jJ (fun g ih s18=>?_)
 unfold tK
 refine J_g 464 [] [(0,sl 8 (Pack.enc false) a1),(3,iv s18),(11,bv (decide (s18< (a1.length:Int))))] [] zB ?_
 refine zD 11 (fun h19=>?_) (fun h19=>?_)
 ·refine zA (fun x20 h21=>?_)
  refine zA (fun x22 h23=>?_)
  refine J_g 3728 [] [(0,sl 8 (Pack.enc false) a1),(3,iv s18),(4,iv x22)] [] (zC 2 (uN (kk:=.i64) 30 102 8 (Pack.enc false) (.tmp 14) (.tmp 15) h21) (zC 4 (xO [(.tmp 17)] [102] (zAV.ok x20) h23) zB)) ?_
  refine J_g 7458 [] [(0,sl 8 (Pack.enc false) a1),(3,iv s18),(4,iv x22),(20,bv (x22 !=0))] [] zB ?_
  refine zD 20 (fun h24=>?_) (fun h24=>?_)
  ·refine J_g 29836 [] [(2,iv x22)] [] zB ?_
   exact zR rfl
  ·refine zA (fun x25 h26=>?_)
   refine zA (fun x27 h28=>?_)
   refine zA (fun x29 h30=>?_)
   refine zA (fun x31 h32=>?_)
   refine J_g 3730 [] [(0,sl 8 (Pack.enc false) a1),(3,iv s18),(36,bv (decide (x31≥0)))] [] (zC 2 (zQO 30 102 8 (Pack.enc false) (.tmp 22) none (some (.tmp 23)) h26) (zC 5 (uN (kk:=.i64) 30 102 8 (Pack.enc false) (.tmp 25) (.tmp 26) h28) (zC 10 (uN (kk:=.i64) 30 102 8 (Pack.enc false) (.tmp 30) (.tmp 31) h30) (zC 13 (xO [(.tmp 24),(.tmp 29),(.tmp 34)] [30,9,99] (kY.ok x25 x27.Name x29.Version) h32) zB)))) ?_
   refine zD 36 (fun h33=>?_) (fun h33=>?_)
   ·refine J_g 14924 [] [(2,iv 6)] [] zB ?_
    exact zR rfl
   ·refine J_g 467 [] [(0,sl 8 (Pack.enc false) a1),(3,iv (w64 (s18+1)))] [] zB ?_
    exact J_q (J_b (ih (w64 (s18+1)))) rfl
 ·exact xB (hk ()) rfl
theorem uV.ok (a1:(List Pack)):Ok Tryz.prog 90 [sl 8 (Pack.enc false) a1] [] ((uV a1).map fun r=>(iv r,[])):=by
 refine zH c90 Tryz.f90 0 37 (fun q=>?_)
 unfold uV
 refine J_g 2 [] [(0,sl 8 (Pack.enc false) a1)] [] zB ?_
 refine J_g 12 [] [(0,sl 8 (Pack.enc false) a1),(7,bv (decide ((a1.length:Int)>24)))] [] zB ?_
 refine zD 7 (fun h2=>?_) (fun h2=>?_)
 ·refine J_g 52 [] [(2,iv 2)] [] zB ?_
  exact zR rfl
 ·refine J_g 28 [] [(0,sl 8 (Pack.enc false) a1),(3,iv 0)] [] zB ?_
  refine vY (K0:=(fun r:Int=>some (iv r,[]))) (fun _=>rfl) (jQ.ok a1 q _ (fun v34=>J_j ?_) 0)
  refine J_g 30 [] [(2,iv 0)] [] zB ?_
  exact zR rfl
noncomputable def c232:Code:=(Tryz.f232.body).getD .skip
theorem zEh.ok (a1:Int):Ok Tryz.prog 232 [uv a1] [] ((zEh a1).map fun r=>(bv r,[])):=by
 refine zH c232 Tryz.f232 0 17 (fun q=>?_)
 unfold zEh
 refine J_g 2 [] [(0,uv a1)] [] zB ?_
 refine zA (fun x2 h3=>?_)
 refine wN (fun h4=>?_) (fun h4=>?_)
 ·refine J_g 6 [] [(2,bv true)] [] (zC 1 (xO [(.tmp 3)] [5] (vG.ok a1) h3) (wF 2 [(4,bv x2)] [] h4 zB)) ?_
  exact zR rfl
 ·refine wN (fun h5=>?_) (fun h5=>?_)
  ·refine J_g 6 [] [(2,bv true)] [] (zC 1 (xO [(.tmp 3)] [5] (vG.ok a1) h3) (wF 2 [(4,bv x2)] [] h4 (wF 6 [(8,bv (a1==46))] [] h5 zB))) ?_
   exact zR rfl
  ·refine wN (fun h6=>?_) (fun h6=>?_)
   ·refine J_g 6 [] [(2,bv true)] [] (zC 1 (xO [(.tmp 3)] [5] (vG.ok a1) h3) (wF 2 [(4,bv x2)] [] h4 (wF 6 [(8,bv (a1==46))] [] h5 (wF 10 [(12,bv (a1==45))] [] h6 zB)))) ?_
    exact zR rfl
   ·refine J_g 6 [] [(2,bv (a1==47))] [] (zC 1 (xO [(.tmp 3)] [5] (vG.ok a1) h3) (wF 2 [(4,bv x2)] [] h4 (wF 6 [(8,bv (a1==46))] [] h5 (wF 10 [(12,bv (a1==45))] [] h6 zB)))) ?_
    exact zR rfl
noncomputable def zQC:Code:=(Tryz.f165.body).getD .skip
theorem tF.ok (a1:ByteArray) (q:Wd) (kn:Unit→Option (D×List Ent)) (hk:∀v:Unit,J (q.g Tryz.prog 165 0 23) zQC (atI zQC 15) (St.mk' [] []) (some v) kn):
  ∀s11:Int,J (q.g Tryz.prog 165 0 23) zQC (atI zQC 116) (St.mk' [(0,sv a1),(3,iv s11)] []) (tF a1 s11) (Fl.go (fun r:Int=>some (iv r,[])) kn):=by
 refine jJ (fun g ih s11=>?_)
 unfold jD
 refine J_g 464 [] [(0,sv a1),(3,iv s11),(15,bv (decide (s11< (a1.size:Int))))] [] zB ?_
 refine zD 15 (fun h12=>?_) (fun h12=>?_)
 ·refine zA (fun x13 h14=>?_)
  refine zA (fun x15 h16=>?_)
  refine J_g 1864 [] [(0,sv a1),(3,iv s11),(22,bv (!x15))] [] (zC 2 (zJr (kk:=.i64) 9 (.tmp 18) (.tmp 19) h14) (zC 3 (xO [(.tmp 20)] [5] (zEh.ok x13) h16) zB)) ?_
  refine zD 22 (fun h17=>?_) (fun h17=>?_)
  ·refine J_g 7460 [] [(2,iv 5)] [] zB ?_
   exact zR rfl
  ·refine J_g 467 [] [(0,sv a1),(3,iv (w64 (s11+1)))] [] zB ?_
   exact J_q (J_b (ih (w64 (s11+1)))) rfl
 ·exact xB (hk ()) rfl
theorem vN.ok (a1:ByteArray):Ok Tryz.prog 165 [sv a1] [] ((vN a1).map fun r=>(iv r,[])):=by
 refine zH zQC Tryz.f165 0 23 (fun q=>?_)
 unfold vN
 refine J_g 2 [] [(0,sv a1)] [] zB ?_
 refine wD (atI zQC 13) (fun v3:Bool=>St.mk' [(0,sv a1),(11,bv v3)] []) (fun v3=>?_) (fun jv3=>?_)
 ·refine zD 11 (fun h4=>?_) (fun h4=>?_)
  ·refine J_g 52 [] [(2,iv 5)] [] zB ?_
   exact zR rfl
  ·refine J_g 28 [] [(0,sv a1),(3,iv 0)] [] zB ?_
   refine vY (K0:=(fun r:Int=>some (iv r,[]))) (fun _=>rfl) (tF.ok a1 q _ (fun v18=>J_j ?_) 0)
   refine J_g 30 [] [(2,iv 0)] [] zB ?_
   exact zR rfl
 ·refine wN (fun h2=>?_) (fun h2=>?_)
  ·refine J_g 12 [] [(0,sv a1),(11,bv true)] [] (wF 3 [(6,bv (decide ((a1.size:Int)<1)))] [] h2 zB) ?_
   exact xB (J_j (jv3 true)) rfl
  ·refine J_g 12 [] [(0,sv a1),(11,bv (decide ((a1.size:Int)>40)))] [] (wF 3 [(6,bv (decide ((a1.size:Int)<1)))] [] h2 zB) ?_
   exact xB (J_j (jv3 (decide ((a1.size:Int)>40)))) rfl
noncomputable def zQY:Code:=(Tryz.f150.body).getD .skip
theorem zCY.ok (a1:zF) (q:Wd) (kn:Int→Option (D×List Ent)) (hk:∀v:Int,J (q.g Tryz.prog 150 1 26) zQY (atI zQY 15) (St.mk' [(3,iv v)] [(0,.box (zF.enc false a1))]) (some v) kn):
  ∀s5:(Int×Int),J (q.g Tryz.prog 150 1 26) zQY (atI zQY 116) (St.mk' [(0,pp 0),(3,iv s5.1),(4,iv s5.2)] [(0,.box (zF.enc false a1))]) (zCY a1 s5) kn:=by
 refine jJ (fun g ih s5=>?_)
 unfold zBH
 refine J_g 464 [] [(0,pp 0),(3,iv s5.1),(4,iv s5.2),(11,bv (decide (s5.2< (a1.Files.length:Int))))] [(0,.box (zF.enc false a1))] zB ?_
 refine zD 11 (fun h6=>?_) (fun h6=>?_)
 ·refine zA (fun x7 h8=>?_)
  refine J_g 932 [] [(0,pp 0),(3,iv (w64 (s5.1+(x7.Data.length:Int)))),(4,iv s5.2)] [(0,.box (zF.enc false a1))] (zC 6 (uN (kk:=.i64) 31 138 2 (File.enc false) (.tmp 18) (.tmp 19) h8) zB) ?_
  refine J_g 467 [] [(0,pp 0),(3,iv (w64 (s5.1+(x7.Data.length:Int)))),(4,iv (w64 (s5.2+1)))] [(0,.box (zF.enc false a1))] zB ?_
  exact J_q (J_b (ih (w64 (s5.1+(x7.Data.length:Int)),w64 (s5.2+1)))) rfl
 ·exact xB (hk s5.1) rfl
theorem zCD.ok (a1:zF):Ok Tryz.prog 150 [pp 0] [.box (zF.enc false a1)] ((zCD a1).map fun r=>(iv r,[.box (zF.enc false a1)])):=by
 refine zH zQY Tryz.f150 1 26 (fun q=>?_)
 unfold zCD
 refine J_g 2 [] [(0,pp 0)] [(0,.box (zF.enc false a1))] zB ?_
 refine J_g 6 [] [(0,pp 0),(3,iv 0)] [(0,.box (zF.enc false a1))] zB ?_
 refine J_g 28 [] [(0,pp 0),(3,iv 0),(4,iv 0)] [(0,.box (zF.enc false a1))] zB ?_
 refine zFl (zCY.ok a1 q _ (fun v9=>J_j ?_) (0,0))
 refine J_g 30 [] [(2,iv v9)] [(0,.box (zF.enc false a1))] zB ?_
 exact zR rfl
noncomputable def c91:Code:=(Tryz.f91.body).getD .skip
theorem uU.ok (a1:zF) (q:Wd) (kn:Unit→Option (D×List Ent)) (hk:∀v:Unit,J (q.g Tryz.prog 91 0 72) c91 (atI c91 31) (St.mk' [(1,pp 0)] [(0,.box (zF.enc false a1))]) (some v) kn):
  ∀s29:Int,J (q.g Tryz.prog 91 0 72) c91 (atI c91 244) (St.mk' [(1,pp 0),(3,iv s29)] [(0,.box (zF.enc false a1))]) (uU a1 s29) (Fl.go (fun r:Int=>some (iv r,[])) kn):=by
 refine jJ (fun g ih s29=>?_)
 unfold jC
 refine J_g 976 [] [(1,pp 0),(3,iv s29),(29,bv (decide (s29< (a1.Files.length:Int))))] [(0,.box (zF.enc false a1))] zB ?_
 refine zD 29 (fun h30=>?_) (fun h30=>?_)
 ·refine zA (fun x31 h32=>?_)
  refine zA (fun x33 h34=>?_)
  refine J_g 7824 [] [(1,pp 0),(3,iv s29),(4,iv x33)] [(0,.box (zF.enc false a1))] (zC 3 (uN (kk:=.i64) 31 138 2 (File.enc false) (.tmp 33) (.tmp 34) h32) (zC 6 (xO [(.tmp 37)] [9] (vN.ok x31.Path) h34) zB)) ?_
  refine J_g 15650 [] [(1,pp 0),(3,iv s29),(4,iv x33),(40,bv (x33 !=0))] [(0,.box (zF.enc false a1))] zB ?_
  refine zD 40 (fun h35=>?_) (fun h35=>?_)
  ·refine J_g 62604 [] [(2,iv x33)] [] zB ?_
   exact zR rfl
  ·refine wD (atI c91 15653) (fun v41:Bool=>St.mk' [(1,pp 0),(3,iv s29),(59,bv v41)] [(0,.box (zF.enc false a1))]) (fun v41=>?_) (fun jv41=>?_)
   ·refine zD 59 (fun h42=>?_) (fun h42=>?_)
    ·refine J_g 62612 [] [(2,iv 1)] [] zB ?_
     exact zR rfl
    ·refine zA (fun x43 h44=>?_)
     refine J_g 15654 [] [(1,pp 0),(3,iv s29),(67,bv (decide ((x43.Data.length:Int)>4000)))] [(0,.box (zF.enc false a1))] (zC 3 (uN (kk:=.i64) 31 138 2 (File.enc false) (.tmp 61) (.tmp 62) h44) zB) ?_
     refine zD 67 (fun h45=>?_) (fun h45=>?_)
     ·refine J_g 62620 [] [(2,iv 2)] [] zB ?_
      exact zR rfl
     ·refine J_g 979 [] [(1,pp 0),(3,iv (w64 (s29+1)))] [(0,.box (zF.enc false a1))] zB ?_
      exact J_q (J_b (ih (w64 (s29+1)))) rfl
   ·refine wN (fun h36=>?_) (fun h36=>?_)
    ·refine zA (fun x37 h38=>?_)
     refine zA (fun x39 h40=>?_)
     refine J_g 15652 [] [(1,pp 0),(3,iv s29),(59,bv (slt x37.Path x39.Path||seq x37.Path x39.Path))] [(0,.box (zF.enc false a1))] (wF 2 [(43,bv (decide (s29>0)))] [] h36 (zAR 6 2 44 true (uN (kk:=.i64) 31 138 2 (File.enc false) (.tmp 46) (.tmp 47) h38) (zAR 13 2 44 true (uN (kk:=.i64) 31 138 2 (File.enc false) (.tmp 52) (.tmp 54) h40) zB))) ?_
     exact xB (J_j (jv41 (slt x37.Path x39.Path||seq x37.Path x39.Path))) rfl
    ·refine J_g 15652 [] [(1,pp 0),(3,iv s29),(59,bv false)] [(0,.box (zF.enc false a1))] (wF 2 [(43,bv (decide (s29>0)))] [] h36 zB) ?_
     exact xB (J_j (jv41 false)) rfl
 ·exact xB (hk ()) rfl
theorem vJ.ok (a1:zF):Ok Tryz.prog 91 [.ag (zF.enc false a1)] [] ((vJ a1).map fun r=>(iv r,[])):=by
 refine zH c91 Tryz.f91 0 72 (fun q=>?_)
 unfold vJ
 refine J_g 2 [(0,0)] [(1,pp 0)] [(0,.box (zF.enc false a1))] zB ?_
 refine zA (fun x2 h3=>?_)
 refine wD (atI c91 13) (fun v10:Bool=>St.mk' [(1,pp 0),(20,bv v10)] [(0,.box (zF.enc false a1))]) (fun v10=>?_) (fun jv10=>?_)
 ·refine zD 20 (fun h11=>?_) (fun h11=>?_)
  ·refine J_g 52 [] [(2,iv 3)] [] zB ?_
   exact zR rfl
  ·refine J_g 28 [] [(1,pp 0),(24,bv (decide ((a1.Files.length:Int)>120)))] [(0,.box (zF.enc false a1))] zB ?_
   refine zD 24 (fun h12=>?_) (fun h12=>?_)
   ·refine J_g 116 [] [(2,iv 2)] [] zB ?_
    exact zR rfl
   ·refine J_g 60 [] [(1,pp 0),(3,iv 0)] [(0,.box (zF.enc false a1))] zB ?_
    refine vY (K0:=(fun r:Int=>some (iv r,[]))) (fun _=>rfl) (uU.ok a1 q _ (fun v46=>J_j ?_) 0)
    refine zA (fun x47 h48=>?_)
    refine J_g 124 [] [(71,bv (decide (x47>a1.Budget)))] [] (zC 0 (zJ2 [(0,.box (zF.enc false a1))] [] (uH («as»:=[pp 0]) [(.tmp 1)] [72] false [(0,.box (zF.enc false a1))] [0] (.cons (.pt rfl) (.nil)) (zCD.ok a1) h48 (.same rfl rfl))) zB) ?_
    refine zD 71 (fun h49=>?_) (fun h49=>?_)
    ·refine J_g 500 [] [(2,iv 8)] [] zB ?_
     exact zR rfl
    ·refine J_g 126 [] [(2,iv 0)] [] zB ?_
     exact zR rfl
 ·refine wN (fun h4=>?_) (fun h4=>?_)
  ·refine J_g 12 [] [(1,pp 0),(20,bv true)] [(0,.box (zF.enc false a1))] (zC 2 (xO [(.tmp 6),(.const (.int .i64 0)),(.const (.int .i64 20000))] [2,2,2] (wG.ok a1.Budget 0 20000) h3) (wF 4 [(8,bv (!x2))] [] h4 zB)) ?_
   exact xB (J_j (jv10 true)) rfl
  ·refine zA (fun x5 h6=>?_)
   refine wN (fun h7=>?_) (fun h7=>?_)
   ·refine J_g 12 [] [(1,pp 0),(20,bv true)] [(0,.box (zF.enc false a1))] (zC 2 (xO [(.tmp 6),(.const (.int .i64 0)),(.const (.int .i64 20000))] [2,2,2] (wG.ok a1.Budget 0 20000) h3) (wF 4 [(8,bv (!x2))] [] h4 (zAR 7 4 9 false (xO [(.tmp 11),(.const (.int .i64 0)),(.const (.int .i64 1000000000))] [2,2,2] (wG.ok a1.Writes 0 1000000000) h6) (wF 10 [(14,bv (!x5))] [] h7 zB)))) ?_
    exact xB (J_j (jv10 true)) rfl
   ·refine zA (fun x8 h9=>?_)
    refine J_g 12 [] [(1,pp 0),(20,bv (!x8))] [(0,.box (zF.enc false a1))] (zC 2 (xO [(.tmp 6),(.const (.int .i64 0)),(.const (.int .i64 20000))] [2,2,2] (wG.ok a1.Budget 0 20000) h3) (wF 4 [(8,bv (!x2))] [] h4 (zAR 7 4 9 false (xO [(.tmp 11),(.const (.int .i64 0)),(.const (.int .i64 1000000000))] [2,2,2] (wG.ok a1.Writes 0 1000000000) h6) (wF 10 [(14,bv (!x5))] [] h7 (zAR 13 10 15 false (xO [(.tmp 17),(.const (.int .i64 (-1))),(.const (.int .i64 1000000000))] [2,2,2] (wG.ok a1.Stop (-1) 1000000000) h9) zB))))) ?_
    exact xB (J_j (jv10 (!x8))) rfl
noncomputable def c42:Code:=(Tryz.f42.body).getD .skip
theorem zAz.ok (a1:(List Pack)) (a2:zF):Ok Tryz.prog 42 [sl 8 (Pack.enc false) a1,.ag (zF.enc false a2)] [] ((zAz a1 a2).map fun r=>(iv r,[])):=by
 refine zH c42 Tryz.f42 0 13 (fun q=>?_)
 unfold zAz
 refine J_g 2 [(0,0)] [(0,sl 8 (Pack.enc false) a1),(3,pp 0)] [(0,.box (zF.enc false a2))] zB ?_
 refine zA (fun x3 h4=>?_)
 refine J_g 12 [] [(3,pp 0),(5,iv x3)] [(0,.box (zF.enc false a2))] (zC 1 (xO [(.tmp 6)] [30] (uV.ok a1) h4) zB) ?_
 refine J_g 26 [] [(3,pp 0),(5,iv x3),(9,bv (x3 !=0))] [(0,.box (zF.enc false a2))] zB ?_
 refine zD 9 (fun h5=>?_) (fun h5=>?_)
 ·refine J_g 108 [] [(4,iv x3)] [] zB ?_
  exact zR rfl
 ·refine zA (fun x6 h7=>?_)
  refine J_g 14 [] [(4,iv x6)] [] (zC 1 (xO [(.tmp 11)] [33] (vJ.ok a2) h7) zB) ?_
  exact zR rfl
noncomputable def c54:Code:=(Tryz.f54.body).getD .skip
theorem zDA.ok (a1:zF) (a2:ByteArray) (q:Wd) (kn:Unit→Option (D×List Ent)) (hk:∀v:Unit,J (q.g Tryz.prog 54 0 26) c54 (atI c54 7) (St.mk' [] []) (some v) kn):
  ∀s7:Int,J (q.g Tryz.prog 54 0 26) c54 (atI c54 52) (St.mk' [(0,.pb [sl 2 (File.enc false) a1.Files,iv a1.Budget,iv a1.Writes,iv a1.Stop,bv a1.Down]),(1,sv a2),(5,iv s7)] []) (zDA a1 a2 s7) (Fl.go (fun r:Int=>some (iv r,[])) kn):=by
 refine jJ (fun g ih s7=>?_)
 unfold zC1
 refine J_g 208 [] [(0,.pb [sl 2 (File.enc false) a1.Files,iv a1.Budget,iv a1.Writes,iv a1.Stop,bv a1.Down]),(1,sv a2),(5,iv s7),(12,bv (decide (s7< (a1.Files.length:Int))))] [] (zC 2 (zFC (.tmp 7) [sl 2 (File.enc false) a1.Files,iv a1.Budget,iv a1.Writes,iv a1.Stop,bv a1.Down]) (zC 3 (zEi 33 (.tmp 8) 0 0 1 [sl 2 (File.enc false) a1.Files,iv a1.Budget,iv a1.Writes,iv a1.Stop,bv a1.Down]) (zC 4 (zE3 (d:=sl 2 (File.enc false) a1.Files) 31 (.tmp 9) [sl 2 (File.enc false) a1.Files]) zB))) ?_
 refine zD 12 (fun h8=>?_) (fun h8=>?_)
 ·refine zA (fun x9 h10=>?_)
  refine J_g 840 [] [(0,.pb [sl 2 (File.enc false) a1.Files,iv a1.Budget,iv a1.Writes,iv a1.Stop,bv a1.Down]),(1,sv a2),(5,iv s7),(24,bv (seq x9.Path a2))] [] (zC 1 (zFC (.tmp 15) [sl 2 (File.enc false) a1.Files,iv a1.Budget,iv a1.Writes,iv a1.Stop,bv a1.Down]) (zC 2 (zEi 33 (.tmp 16) 0 0 1 [sl 2 (File.enc false) a1.Files,iv a1.Budget,iv a1.Writes,iv a1.Stop,bv a1.Down]) (zC 3 (zE3 (d:=sl 2 (File.enc false) a1.Files) 31 (.tmp 17) [sl 2 (File.enc false) a1.Files]) (zC 5 (uN (kk:=.i64) 31 138 2 (File.enc false) (.tmp 18) (.tmp 19) h10) zB)))) ?_
  refine zD 24 (fun h11=>?_) (fun h11=>?_)
  ·refine J_g 3364 [] [(4,iv s7)] [] zB ?_
   exact zR rfl
  ·refine J_g 211 [] [(0,.pb [sl 2 (File.enc false) a1.Files,iv a1.Budget,iv a1.Writes,iv a1.Stop,bv a1.Down]),(1,sv a2),(5,iv (w64 (s7+1)))] [] zB ?_
   exact J_q (J_b (ih (w64 (s7+1)))) rfl
 ·exact xB (hk ()) rfl
theorem wH.ok (a1:zF) (a2:ByteArray):Ok Tryz.prog 54 [.pb [sl 2 (File.enc false) a1.Files,iv a1.Budget,iv a1.Writes,iv a1.Stop,bv a1.Down],sv a2] [] ((wH a1 a2).map fun r=>(iv r,[])):=by
 refine zH c54 Tryz.f54 0 26 (fun q=>?_)
 unfold wH
 refine J_g 2 [] [(0,.pb [sl 2 (File.enc false) a1.Files,iv a1.Budget,iv a1.Writes,iv a1.Stop,bv a1.Down]),(1,sv a2)] [] zB ?_
 refine J_g 12 [] [(0,.pb [sl 2 (File.enc false) a1.Files,iv a1.Budget,iv a1.Writes,iv a1.Stop,bv a1.Down]),(1,sv a2),(5,iv 0)] [] zB ?_
 refine vY (K0:=(fun r:Int=>some (iv r,[]))) (fun _=>rfl) (zDA.ok a1 a2 q _ (fun v12=>J_j ?_) 0)
 refine J_g 14 [] [(4,iv (-1))] [] zB ?_
 exact zR rfl
noncomputable def zQG:Code:=(Tryz.f166.body).getD .skip
theorem zBM.ok (a1:ByteArray) (q:Wd) (kn:Int→Option (D×List Ent)) (hk:∀v:Int,J (q.g Tryz.prog 166 0 37) zQG (atI zQG 31) (St.mk' [(6,iv v)] []) (some v) kn):
  ∀s14:(Int×Int),J (q.g Tryz.prog 166 0 37) zQG (atI zQG 244) (St.mk' [(0,sv a1),(6,iv s14.1),(7,iv s14.2)] []) (zBM a1 s14) (Fl.go (fun r:(Int×Bool)=>some (.tu [iv r.1,bv r.2],[])) kn):=by
 refine jJ (fun g ih s14=>?_)
 unfold zBw
 refine J_g 976 [] [(0,sv a1),(6,iv s14.1),(7,iv s14.2),(20,bv (decide (s14.2< (a1.size:Int))))] [] zB ?_
 refine zD 20 (fun h15=>?_) (fun h15=>?_)
 ·refine zA (fun x16 h17=>?_)
  refine zA (fun x18 h19=>?_)
  refine J_g 7824 [] [(0,sv a1),(6,iv s14.1),(7,iv s14.2),(27,bv (!x18))] [] (zC 2 (zJr (kk:=.i64) 9 (.tmp 23) (.tmp 24) h17) (zC 3 (xO [(.tmp 25)] [5] (vR.ok x16) h19) zB)) ?_
  refine zD 27 (fun h20=>?_) (fun h20=>?_)
  ·refine J_g 31300 [] [(4,iv 0),(5,bv false)] [] zB ?_
   exact zNA rfl
  ·refine zA (fun x21 h22=>?_)
   refine J_g 3913 [] [(0,sv a1),(6,iv (w64 ((w64 (s14.1*10))+(w64 (IntKind.u8.wrap (x21-48)))))),(7,iv s14.2)] [] (zC 4 (zJr (kk:=.i64) 9 (.tmp 30) (.tmp 31) h22) zB) ?_
   refine J_g 979 [] [(0,sv a1),(6,iv (w64 ((w64 (s14.1*10))+(w64 (IntKind.u8.wrap (x21-48)))))),(7,iv (w64 (s14.2+1)))] [] zB ?_
   exact J_q (J_b (ih (w64 ((w64 (s14.1*10))+(w64 (IntKind.u8.wrap (x21-48)))),w64 (s14.2+1)))) rfl
 ·exact xB (hk s14.1) rfl
theorem uD.ok (a1:ByteArray) (a2:Int):Ok Tryz.prog 166 [sv a1,iv a2] [] ((uD a1 a2).map fun r=>(.tu [iv r.1,bv r.2],[])):=by
 refine zH zQG Tryz.f166 0 37 (fun q=>?_)
 unfold uD
 refine J_g 2 [] [(0,sv a1),(1,iv a2)] [] zB ?_
 refine wD (atI zQG 13) (fun v4:Bool=>St.mk' [(0,sv a1),(16,bv v4)] []) (fun v4=>?_) (fun jv4=>?_)
 ·refine zD 16 (fun h5=>?_) (fun h5=>?_)
  ·refine J_g 52 [] [(4,iv 0),(5,bv false)] [] zB ?_
   exact zNA rfl
  ·refine J_g 14 [] [(0,sv a1),(6,iv 0)] [] zB ?_
   refine J_g 60 [] [(0,sv a1),(6,iv 0),(7,iv 0)] [] zB ?_
   refine vY (K0:=(fun r:(Int×Bool)=>some (.tu [iv r.1,bv r.2],[]))) (fun _=>rfl) (zBM.ok a1 q _ (fun v23=>J_j ?_) (0,0))
   refine J_g 62 [] [(4,iv v23),(5,bv true)] [] zB ?_
   exact zNA rfl
 ·refine wN (fun h3=>?_) (fun h3=>?_)
  ·refine J_g 12 [] [(0,sv a1),(16,bv true)] [] (wF 3 [(10,bv (decide ((a1.size:Int)<1)))] [] h3 zB) ?_
   exact xB (J_j (jv4 true)) rfl
  ·refine J_g 12 [] [(0,sv a1),(16,bv (decide ((a1.size:Int)>a2)))] [] (wF 3 [(10,bv (decide ((a1.size:Int)<1)))] [] h3 zB) ?_
   exact xB (J_j (jv4 (decide ((a1.size:Int)>a2)))) rfl
noncomputable def zTc:Code:=(Tryz.f197.body).getD .skip
theorem jU.ok (a1:ByteArray) (a2:ByteArray):Ok Tryz.prog 197 [sv a1,sv a2] [] ((jU a1 a2).map fun r=>(bv r,[])):=by
 refine zH zTc Tryz.f197 0 18 (fun q=>?_)
 unfold jU
 refine J_g 2 [] [(0,sv a1),(1,sv a2)] [] zB ?_
 refine wN (fun h3=>?_) (fun h3=>?_)
 ·refine zA (fun x4 h5=>?_)
  refine J_g 6 [] [(4,bv (seq x4 a2))] [] (wF 5 [(9,bv (decide ((a1.size:Int)≥(a2.size:Int))))] [] h3 (zAR 9 5 10 true (zKW 9 (.tmp 11) none (some (.tmp 13)) h5) zB)) ?_
  exact zR rfl
 ·refine J_g 6 [] [(4,bv false)] [] (wF 5 [(9,bv (decide ((a1.size:Int)≥(a2.size:Int))))] [] h3 zB) ?_
  exact zR rfl
noncomputable def zQB:Code:=(Tryz.f118.body).getD .skip
theorem zAn.ok (a1:zF) (a2:ByteArray) (q:Wd) (kn:(List ByteArray)→Option (D×List Ent)) (hk:∀v:(List ByteArray),J (q.g Tryz.prog 118 0 39) zQB (atI zQB 15) (St.mk' [(5,rr 0 v)] [(0,rE 1 eStr v)]) (some v) kn):
  ∀s14:((List ByteArray)×Int),J (q.g Tryz.prog 118 0 39) zQB (atI zQB 116) (St.mk' [(0,.pb [sl 2 (File.enc false) a1.Files,iv a1.Budget,iv a1.Writes,iv a1.Stop,bv a1.Down]),(1,sv a2),(5,rr 0 s14.1),(6,iv s14.2)] [(0,rE 1 eStr s14.1)]) (zAn a1 a2 s14) kn:=by
 refine jJ (fun g ih s14=>?_)
 unfold zAw
 refine J_g 464 [] [(0,.pb [sl 2 (File.enc false) a1.Files,iv a1.Budget,iv a1.Writes,iv a1.Stop,bv a1.Down]),(1,sv a2),(5,rr 0 s14.1),(6,iv s14.2),(14,bv (decide (s14.2< (a1.Files.length:Int))))] [(0,rE 1 eStr s14.1)] (zC 2 (zFC (.tmp 9) [sl 2 (File.enc false) a1.Files,iv a1.Budget,iv a1.Writes,iv a1.Stop,bv a1.Down]) (zC 3 (zEi 33 (.tmp 10) 0 0 1 [sl 2 (File.enc false) a1.Files,iv a1.Budget,iv a1.Writes,iv a1.Stop,bv a1.Down]) (zC 4 (zE3 (d:=sl 2 (File.enc false) a1.Files) 31 (.tmp 11) [sl 2 (File.enc false) a1.Files]) zB))) ?_
 refine zD 14 (fun h15=>?_) (fun h15=>?_)
 ·refine zA (fun x16 h17=>?_)
  refine zA (fun x18 h19=>?_)
  refine J_g 1864 [] [(0,.pb [sl 2 (File.enc false) a1.Files,iv a1.Budget,iv a1.Writes,iv a1.Stop,bv a1.Down]),(1,sv a2),(5,rr 0 s14.1),(6,iv s14.2),(26,bv x18)] [(0,rE 1 eStr s14.1)] (zC 1 (zFC (.tmp 17) [sl 2 (File.enc false) a1.Files,iv a1.Budget,iv a1.Writes,iv a1.Stop,bv a1.Down]) (zC 2 (zEi 33 (.tmp 18) 0 0 1 [sl 2 (File.enc false) a1.Files,iv a1.Budget,iv a1.Writes,iv a1.Stop,bv a1.Down]) (zC 3 (zE3 (d:=sl 2 (File.enc false) a1.Files) 31 (.tmp 19) [sl 2 (File.enc false) a1.Files]) (zC 5 (uN (kk:=.i64) 31 138 2 (File.enc false) (.tmp 20) (.tmp 21) h17) (zC 9 (xO [(.tmp 24),(.tmp 25)] [9,9] (jU.ok x16.Path a2) h19) zB))))) ?_
  refine wD (aft zQB 932) (fun v25:(List ByteArray)=>St.mk' [(0,.pb [sl 2 (File.enc false) a1.Files,iv a1.Budget,iv a1.Writes,iv a1.Stop,bv a1.Down]),(1,sv a2),(5,rr 2 v25),(6,iv s14.2)] [(2,rE 1 eStr v25)]) (fun v25=>?_) (fun jv25=>?_)
  ·refine J_g 467 [] [(0,.pb [sl 2 (File.enc false) a1.Files,iv a1.Budget,iv a1.Writes,iv a1.Stop,bv a1.Down]),(1,sv a2),(5,rr 2 v25),(6,iv (w64 (s14.2+1)))] [(2,rE 1 eStr v25)] zB ?_
   refine zCo 2 0 (Nat.le_of_ble_eq_true rfl) (Nat.le_of_ble_eq_true rfl) ?_
   exact J_q (J_b (ih (v25,w64 (s14.2+1)))) rfl
  ·refine zD 26 (fun h20=>?_) (fun h20=>?_)
   ·refine zA (fun x21 h22=>?_)
    refine zA (fun x23 h24=>?_)
    refine J_g 3730 [] [(0,.pb [sl 2 (File.enc false) a1.Files,iv a1.Budget,iv a1.Writes,iv a1.Stop,bv a1.Down]),(1,sv a2),(5,rr 2 x23),(6,iv s14.2)] [(2,rE 1 eStr x23)] (zC 2 (zFC (.tmp 28) [sl 2 (File.enc false) a1.Files,iv a1.Budget,iv a1.Writes,iv a1.Stop,bv a1.Down]) (zC 3 (zEi 33 (.tmp 29) 0 0 1 [sl 2 (File.enc false) a1.Files,iv a1.Budget,iv a1.Writes,iv a1.Stop,bv a1.Down]) (zC 4 (zE3 (d:=sl 2 (File.enc false) a1.Files) 31 (.tmp 30) [sl 2 (File.enc false) a1.Files]) (zC 6 (uN (kk:=.i64) 31 138 2 (File.enc false) (.tmp 31) (.tmp 32) h22) (zC 9 (zFd 86 9 1 1 eStr [x21.Path] [0] [(.tmp 35)] [sv x21.Path]) (zC 10 (zIJ 86 86 9 9 1 16 2 0 1 eStr (.tmp 27) (.tmp 36) h24) zB)))))) ?_
    exact xB (J_j (jv25 x23)) rfl
   ·refine zCo 0 2 (Nat.le_of_ble_eq_true rfl) (Nat.le_of_ble_eq_true rfl) ?_
    exact xB (J_j (jv25 s14.1)) rfl
 ·exact xB (hk s14.1) rfl
theorem zA0.ok (a1:zF) (a2:ByteArray):Ok Tryz.prog 118 [.pb [sl 2 (File.enc false) a1.Files,iv a1.Budget,iv a1.Writes,iv a1.Stop,bv a1.Down],sv a2] [] ((zA0 a1 a2).map fun r=>(so 1 eStr r,[])):=by
 refine zH zQB Tryz.f118 0 39 (fun q=>?_)
 unfold zA0
 refine J_g 2 [] [(0,.pb [sl 2 (File.enc false) a1.Files,iv a1.Budget,iv a1.Writes,iv a1.Stop,bv a1.Down]),(1,sv a2)] [] zB ?_
 refine J_g 6 [] [(0,.pb [sl 2 (File.enc false) a1.Files,iv a1.Budget,iv a1.Writes,iv a1.Stop,bv a1.Down]),(1,sv a2),(5,rr 0 ([]:List ByteArray))] [(0,rE 1 eStr ([]:List ByteArray))] (zC 0 (zFd 86 9 1 0 eStr ([]:List ByteArray) [] [] []) zB) ?_
 refine J_g 28 [] [(0,.pb [sl 2 (File.enc false) a1.Files,iv a1.Budget,iv a1.Writes,iv a1.Stop,bv a1.Down]),(1,sv a2),(5,rr 0 ([]:List ByteArray)),(6,iv 0)] [(0,rE 1 eStr ([]:List ByteArray))] zB ?_
 refine zFl (zAn.ok a1 a2 q _ (fun v26=>J_j ?_) (([]:List ByteArray),0))
 refine J_g 30 [] [(4,rr 0 v26)] [(0,rE 1 eStr v26)] zB ?_
 exact zD5 (ds:=[rr 0 v26]) (ds':=[so 1 eStr v26]) (.cons (.cell (.move (.head _) (List.length_map _) (by decide) (.nil))) (.nil) (by decide)) rfl
noncomputable def c79:Code:=(Tryz.f79.body).getD .skip
theorem wU.ok (a1:Int):Ok Tryz.prog 79 [iv a1] [] ((wU a1).map fun r=>(sv r,[])):=by
 have key:∀(n:Nat) (a1:Int),Ok Tryz.prog 79 [iv a1] [] ((zQv uL n a1).map fun r=>(sv r,[])):=by
  intro n
  induction n with
  |zero=>intro a1; exact zQs
  |succ n ih=>
   intro a1
   refine zH c79 Tryz.f79 0 20 (fun q=>?_)
   unfold zQv uL
   refine J_g 2 [] [(0,iv a1)] [] zB ?_
   refine J_g 12 [] [(0,iv a1),(4,bv (decide (a1<10)))] [] zB ?_
   refine zD 4 (fun h2=>?_) (fun h2=>?_)
   ·refine J_g 52 [] [(2,sv (b2s [IntKind.u8.wrap (w64 (48+a1))]))] [] (zC 3 (zFd 121 5 1 0 eU8 [IntKind.u8.wrap (w64 (48+a1))] [0] [(.tmp 7)] [uv (IntKind.u8.wrap (w64 (48+a1)))]) (zC 4 (zNH (xs:=[IntKind.u8.wrap (w64 (48+a1))]) 121 9 5 0 (.tmp 8)) zB)) ?_
    exact zR rfl
   ·refine zA (fun x3 h4=>?_)
    refine zA (fun x5 h6=>?_)
    refine J_g 14 [] [(2,sv x5)] [] (zC 2 (xO [(.tmp 11)] [2] (ih (w64 (a1.tdiv 10))) h4) (zC 7 (zFd 121 5 1 0 eU8 [IntKind.u8.wrap (w64 (48+(a1.tmod 10)))] [0] [(.tmp 16)] [uv (IntKind.u8.wrap (w64 (48+(a1.tmod 10))))]) (zC 8 (zNH (xs:=[IntKind.u8.wrap (w64 (48+(a1.tmod 10)))]) 121 9 5 0 (.tmp 17)) (zC 9 (zD8 9 9 (.tmp 12) (.tmp 18) h6) zB)))) ?_
    exact zR rfl
 exact key 64 a1
noncomputable def c117:Code:=(Tryz.f117.body).getD .skip
theorem tN.ok (a1:Int):Ok Tryz.prog 117 [iv a1] [] ((tN a1).map fun r=>(sv r,[])):=by
 refine zH c117 Tryz.f117 0 11 (fun q=>?_)
 unfold tN
 refine J_g 2 [] [(0,iv a1)] [] zB ?_
 refine zA (fun x2 h3=>?_)
 refine J_g 12 [] [(0,iv a1),(5,bv (!x2))] [] (zC 1 (xO [(.tmp 3),(.const (.int .i64 1)),(.const (.int .i64 999999))] [2,2,2] (wG.ok a1 1 999999) h3) zB) ?_
 refine zD 5 (fun h4=>?_) (fun h4=>?_)
 ·refine J_g 52 [] [(2,sv (bs []))] [] zB ?_
  exact zR rfl
 ·refine zA (fun x5 h6=>?_)
  refine zA (fun x7 h8=>?_)
  refine zA (fun x9 h10=>?_)
  refine J_g 14 [] [(2,sv x9)] [] (zC 2 (xO [(.tmp 7)] [2] (wU.ok (w64 (1000000+a1))) h6) (zC 3 (zKW 9 (.tmp 8) (some (.const (.int .i64 1))) none h8) (zC 4 (zD8 9 9 (.const (.string (bs [103,101,110,47]))) (.tmp 9) h10) zB))) ?_
  exact zR rfl
noncomputable def zPW:Code:=(Tryz.f114.body).getD .skip
theorem zDy.ok (a1:zF) (x2:(List ByteArray)) (q:Wd) (kn:(List Int)→Option (D×List Ent)) (hk:∀v:(List Int),J (q.g Tryz.prog 114 0 41) zPW (atI zPW 31) (St.mk' [(3,rr 0 v)] [(0,rE 1 zG v)]) (some v) kn):
  ∀s21:((List Int)×Int),J (q.g Tryz.prog 114 0 41) zPW (atI zPW 244) (St.mk' [(3,rr 0 s21.1),(4,rr 1 x2),(5,iv s21.2)] [(0,rE 1 zG s21.1),(1,rE 1 eStr x2)]) (zDy a1 x2 s21) kn:=by
 refine jJ (fun g ih s21=>?_)
 unfold zCF
 refine J_g 976 [] [(3,rr 0 s21.1),(4,rr 1 x2),(5,iv s21.2),(14,bv (decide (s21.2< (x2.length:Int))))] [(0,rE 1 zG s21.1),(1,rE 1 eStr x2)] zB ?_
 refine zD 14 (fun h22=>?_) (fun h22=>?_)
 ·refine zA (fun x23 h24=>?_)
  refine zA (fun x25 h26=>?_)
  refine zA (fun x27 h28=>?_)
  refine J_g 3912 [] [(3,rr 0 s21.1),(4,rr 1 x2),(5,iv s21.2),(6,iv x27.1),(7,bv x27.2)] [(0,rE 1 zG s21.1),(1,rE 1 eStr x2)] (zC 2 (kM (kk:=.i64) 86 9 1 1 eStr (.tmp 18) (.tmp 19) h24) (zC 3 (zED (d:=sv x23) 9 1 1 0 eStr (.tmp 20) h24 (by kernel_rfl)) (zC 4 (zKW 9 (.tmp 21) (some (.const (.int .i64 4))) none h26) (zC 5 (xO [(.tmp 22),(.const (.int .i64 6))] [9,3] (uD.ok x25 6) h28) zB)))) ?_
  refine wD (atI zPW 7827) (fun v34:Bool=>St.mk' [(3,rr 0 s21.1),(4,rr 1 x2),(5,iv s21.2),(6,iv x27.1),(35,bv v34)] [(0,rE 1 zG s21.1),(1,rE 1 eStr x2)]) (fun v34=>?_) (fun jv34=>?_)
  ·refine wD (aft zPW 1956) (fun v38:(List Int)=>St.mk' [(3,rr 3 v38),(4,rr 1 x2),(5,iv s21.2)] [(1,rE 1 eStr x2),(3,rE 1 zG v38)]) (fun v38=>?_) (fun jv38=>?_)
   ·refine J_g 979 [] [(3,rr 3 v38),(4,rr 1 x2),(5,iv (w64 (s21.2+1)))] [(1,rE 1 eStr x2),(3,rE 1 zG v38)] zB ?_
    refine zCo 3 0 (Nat.le_of_ble_eq_true rfl) (Nat.le_of_ble_eq_true rfl) ?_
    exact J_q (J_b (ih (v38,w64 (s21.2+1)))) rfl
   ·refine zD 35 (fun h35=>?_) (fun h35=>?_)
    ·refine zA (fun x36 h37=>?_)
     refine J_g 15654 [] [(3,rr 3 x36),(4,rr 1 x2),(5,iv s21.2)] [(1,rE 1 eStr x2),(3,rE 1 zG x36)] (zC 2 (zFd 39 2 1 2 zG [x27.1] [0] [(.tmp 37)] [iv x27.1]) (zC 3 (zIJ 39 39 2 2 1 8 3 0 2 zG (.tmp 36) (.tmp 38) h37) zB)) ?_
     exact xB (J_j (jv38 x36)) rfl
    ·refine zCo 0 3 (Nat.le_of_ble_eq_true rfl) (Nat.le_of_ble_eq_true rfl) ?_
     exact xB (J_j (jv38 s21.1)) rfl
  ·refine wN (fun h29=>?_) (fun h29=>?_)
   ·refine zA (fun x30 h31=>?_)
    refine zA (fun x32 h33=>?_)
    refine J_g 7826 [] [(3,rr 0 s21.1),(4,rr 1 x2),(5,iv s21.2),(6,iv x27.1),(35,bv (seq x30 x32))] [(0,rE 1 zG s21.1),(1,rE 1 eStr x2)] (wF 1 [(26,bv x27.2)] [] h29 (zAR 3 1 27 true (xO [(.tmp 28)] [2] (tN.ok x27.1) h31) (zAR 6 1 27 true (kM (kk:=.i64) 86 9 1 1 eStr (.tmp 30) (.tmp 31) h33) (zAR 7 1 27 true (zED (d:=sv x32) 9 1 1 0 eStr (.tmp 32) h33 (by kernel_rfl)) zB)))) ?_
    exact xB (J_j (jv34 (seq x30 x32))) rfl
   ·refine J_g 7826 [] [(3,rr 0 s21.1),(4,rr 1 x2),(5,iv s21.2),(6,iv x27.1),(35,bv false)] [(0,rE 1 zG s21.1),(1,rE 1 eStr x2)] (wF 1 [(26,bv x27.2)] [] h29 zB) ?_
    exact xB (J_j (jv34 false)) rfl
 ·exact xB (hk s21.1) rfl
theorem zBC.ok (a1:zF):Ok Tryz.prog 114 [.pb [sl 2 (File.enc false) a1.Files,iv a1.Budget,iv a1.Writes,iv a1.Stop,bv a1.Down]] [] ((zBC a1).map fun r=>(so 1 zG r,[])):=by
 refine zH zPW Tryz.f114 0 41 (fun q=>?_)
 unfold zBC
 refine J_g 2 [] [(0,.pb [sl 2 (File.enc false) a1.Files,iv a1.Budget,iv a1.Writes,iv a1.Stop,bv a1.Down])] [] zB ?_
 refine J_g 6 [] [(0,.pb [sl 2 (File.enc false) a1.Files,iv a1.Budget,iv a1.Writes,iv a1.Stop,bv a1.Down]),(3,rr 0 ([]:List Int))] [(0,rE 1 zG ([]:List Int))] (zC 0 (zFd 39 2 1 0 zG ([]:List Int) [] [] []) zB) ?_
 refine zA (fun x2 h3=>?_)
 refine J_g 14 [] [(3,rr 0 ([]:List Int)),(4,rr 1 x2)] [(0,rE 1 zG ([]:List Int)),(1,rE 1 eStr x2)] (zC 1 (uH («as»:=[.pb [sl 2 (File.enc false) a1.Files,iv a1.Budget,iv a1.Writes,iv a1.Stop,bv a1.Down],sv (bs [103,101,110,47])]) [(.tmp 9),(.const (.string (bs [103,101,110,47])))] [72,9] false [] [] (.cons (.pb (.cons (.same rfl) (.cons (.same rfl) (.cons (.same rfl) (.cons (.same rfl) (.cons (.same rfl) (.nil))))))) (.cons (.same rfl) (.nil))) (zA0.ok a1 (bs [103,101,110,47])) h3 (.own 1)) zB) ?_
 refine J_g 60 [] [(3,rr 0 ([]:List Int)),(4,rr 1 x2),(5,iv 0)] [(0,rE 1 zG ([]:List Int)),(1,rE 1 eStr x2)] zB ?_
 refine zFl (zDy.ok a1 x2 q _ (fun v39=>J_j ?_) (([]:List Int),0))
 refine J_g 62 [] [(2,rr 0 v39)] [(0,rE 1 zG v39)] zB ?_
 exact zD5 (ds:=[rr 0 v39]) (ds':=[so 1 zG v39]) (.cons (.cell (.move (.head _) (List.length_map _) (by decide) (.nil))) (.nil) (by decide)) rfl
noncomputable def zQT:Code:=(Tryz.f115.body).getD .skip
theorem zE1.ok (a1:(List Int)) (a2:Int) (q:Wd) (kn:Unit→Option (D×List Ent)) (hk:∀v:Unit,J (q.g Tryz.prog 115 0 18) zQT (atI zQT 7) (St.mk' [] []) (some v) kn):
  ∀s7:Int,J (q.g Tryz.prog 115 0 18) zQT (atI zQT 52) (St.mk' [(0,sl 1 zG a1),(1,iv a2),(5,iv s7)] []) (zE1 a1 a2 s7) (Fl.go (fun r:Bool=>some (bv r,[])) kn):=by
 refine jJ (fun g ih s7=>?_)
 unfold zD2
 refine J_g 208 [] [(0,sl 1 zG a1),(1,iv a2),(5,iv s7),(9,bv (decide (s7< (a1.length:Int))))] [] zB ?_
 refine zD 9 (fun h8=>?_) (fun h8=>?_)
 ·refine zA (fun x9 h10=>?_)
  refine J_g 840 [] [(0,sl 1 zG a1),(1,iv a2),(5,iv s7),(17,bv (x9==a2))] [] (zC 2 (uN (kk:=.i64) 39 2 1 zG (.tmp 12) (.tmp 13) h10) zB) ?_
  refine zD 17 (fun h11=>?_) (fun h11=>?_)
  ·refine J_g 3364 [] [(4,bv true)] [] zB ?_
   exact zR rfl
  ·refine J_g 211 [] [(0,sl 1 zG a1),(1,iv a2),(5,iv (w64 (s7+1)))] [] zB ?_
   exact J_q (J_b (ih (w64 (s7+1)))) rfl
 ·exact xB (hk ()) rfl
theorem zBl.ok (a1:(List Int)) (a2:Int):Ok Tryz.prog 115 [sl 1 zG a1,iv a2] [] ((zBl a1 a2).map fun r=>(bv r,[])):=by
 refine zH zQT Tryz.f115 0 18 (fun q=>?_)
 unfold zBl
 refine J_g 2 [] [(0,sl 1 zG a1),(1,iv a2)] [] zB ?_
 refine J_g 12 [] [(0,sl 1 zG a1),(1,iv a2),(5,iv 0)] [] zB ?_
 refine vY (K0:=(fun r:Bool=>some (bv r,[]))) (fun _=>rfl) (zE1.ok a1 a2 q _ (fun v12=>J_j ?_) 0)
 refine J_g 14 [] [(4,bv false)] [] zB ?_
 exact zR rfl
noncomputable def c92:Code:=(Tryz.f92.body).getD .skip
theorem zBa.ok (a1:zF):Ok Tryz.prog 92 [.pb [sl 2 (File.enc false) a1.Files,iv a1.Budget,iv a1.Writes,iv a1.Stop,bv a1.Down]] [] ((zBa a1).map fun r=>(iv r,[])):=by
 refine zH c92 Tryz.f92 0 33 (fun q=>?_)
 unfold zBa
 refine J_g 2 [] [(0,.pb [sl 2 (File.enc false) a1.Files,iv a1.Budget,iv a1.Writes,iv a1.Stop,bv a1.Down])] [] zB ?_
 refine zA (fun x2 h3=>?_)
 refine J_g 6 [] [(0,.pb [sl 2 (File.enc false) a1.Files,iv a1.Budget,iv a1.Writes,iv a1.Stop,bv a1.Down]),(3,iv x2)] [] (zC 1 (uH («as»:=[.pb [sl 2 (File.enc false) a1.Files,iv a1.Budget,iv a1.Writes,iv a1.Stop,bv a1.Down],sv (bs [99,117,114])]) [(.tmp 6),(.const (.string (bs [99,117,114])))] [72,9] false [] [] (.cons (.pb (.cons (.same rfl) (.cons (.same rfl) (.cons (.same rfl) (.cons (.same rfl) (.cons (.same rfl) (.nil))))))) (.cons (.same rfl) (.nil))) (wH.ok a1 (bs [99,117,114])) h3 (.same rfl rfl)) zB) ?_
 refine J_g 28 [] [(0,.pb [sl 2 (File.enc false) a1.Files,iv a1.Budget,iv a1.Writes,iv a1.Stop,bv a1.Down]),(3,iv x2),(9,bv (decide (x2<0)))] [] zB ?_
 refine zD 9 (fun h4=>?_) (fun h4=>?_)
 ·refine J_g 116 [] [(2,iv 0)] [] zB ?_
  exact zR rfl
 ·refine zA (fun x5 h6=>?_)
  refine zA (fun x7 h8=>?_)
  refine J_g 30 [] [(0,.pb [sl 2 (File.enc false) a1.Files,iv a1.Budget,iv a1.Writes,iv a1.Stop,bv a1.Down]),(4,iv x7.1),(5,bv x7.2)] [] (zC 1 (zFC (.tmp 11) [sl 2 (File.enc false) a1.Files,iv a1.Budget,iv a1.Writes,iv a1.Stop,bv a1.Down]) (zC 2 (zEi 33 (.tmp 12) 0 0 1 [sl 2 (File.enc false) a1.Files,iv a1.Budget,iv a1.Writes,iv a1.Stop,bv a1.Down]) (zC 3 (zE3 (d:=sl 2 (File.enc false) a1.Files) 31 (.tmp 13) [sl 2 (File.enc false) a1.Files]) (zC 5 (uN (kk:=.i64) 31 138 2 (File.enc false) (.tmp 14) (.tmp 15) h6) (zC 8 (zKx (xs:=x5.Data) 121 9 5 (.tmp 18)) (zC 9 (xO [(.tmp 19),(.const (.int .i64 6))] [9,3] (uD.ok (b2s x5.Data) 6) h8) zB)))))) ?_
  refine wD (atI c92 125) (fun v14:Bool=>St.mk' [(4,iv x7.1),(31,bv v14)] []) (fun v14=>?_) (fun jv14=>?_)
  ·refine zD 31 (fun h15=>?_) (fun h15=>?_)
   ·refine J_g 500 [] [(2,iv 0)] [] zB ?_
    exact zR rfl
   ·refine J_g 126 [] [(2,iv x7.1)] [] zB ?_
    exact zR rfl
  ·refine wN (fun h9=>?_) (fun h9=>?_)
   ·refine J_g 124 [] [(4,iv x7.1),(31,bv true)] [] (wF 2 [(24,bv (!x7.2))] [] h9 zB) ?_
    exact xB (J_j (jv14 true)) rfl
   ·refine zA (fun x10 h11=>?_)
    refine zA (fun x12 h13=>?_)
    refine J_g 124 [] [(4,iv x7.1),(31,bv (!x12))] [] (wF 2 [(24,bv (!x7.2))] [] h9 (zAR 4 2 25 false (uH («as»:=[.pb [sl 2 (File.enc false) a1.Files,iv a1.Budget,iv a1.Writes,iv a1.Stop,bv a1.Down]]) [(.tmp 26)] [72] false [] [] (.cons (.pb (.cons (.same rfl) (.cons (.same rfl) (.cons (.same rfl) (.cons (.same rfl) (.cons (.same rfl) (.nil))))))) (.nil)) (zBC.ok a1) h11 (.own 0)) (zAR 6 2 25 false (uH («as»:=[rr 0 x10,iv x7.1]) [(.tmp 27),(.tmp 28)] [39,2] true [(0,rE 1 zG x10)] [] (.cons (zF1 (.head _) (fun _=>rfl) rfl) (.cons (.same rfl) (.nil))) (zBl.ok x10 x7.1) h13 (.same rfl rfl) (hbor:=fun _=>⟨fhN,yB⟩)) zB))) ?_
    exact xB (J_j (jv14 (!x12))) rfl
noncomputable def zQt:Code:=(Tryz.f235.body).getD .skip
theorem zCT.ok (a1:ByteArray) (a2:Int) (q:Wd) (kn:(List ByteArray)→Option (D×List Ent)) (hk:∀v:(List ByteArray),J (q.g Tryz.prog 235 0 36) zQt (atI zQt 31) (St.mk' [(5,rr 0 v)] [(0,rE 1 eStr v)]) (some v) kn):
  ∀s14:((List ByteArray)×Int×Int),J (q.g Tryz.prog 235 0 36) zQt (atI zQt 244) (St.mk' [(0,sv a1),(1,uv a2),(5,rr 0 s14.1),(6,iv s14.2.1),(7,iv s14.2.2)] [(0,rE 1 eStr s14.1)]) (zCT a1 a2 s14) kn:=by
 refine jJ (fun g ih s14=>?_)
 unfold zBN
 refine J_g 976 [] [(0,sv a1),(1,uv a2),(5,rr 0 s14.1),(6,iv s14.2.1),(7,iv s14.2.2),(12,bv (decide (s14.2.2≤(a1.size:Int))))] [(0,rE 1 eStr s14.1)] zB ?_
 refine zD 12 (fun h15=>?_) (fun h15=>?_)
 ·refine wD (atI zQt 3913) (fun v19:Bool=>St.mk' [(0,sv a1),(1,uv a2),(5,rr 0 s14.1),(6,iv s14.2.1),(7,iv s14.2.2),(25,bv v19)] [(0,rE 1 eStr s14.1)]) (fun v19=>?_) (fun jv19=>?_)
  ·refine wD (aft zQt 1956) (fun v25:((List ByteArray)×Int)=>St.mk' [(0,sv a1),(1,uv a2),(5,rr 2 v25.1),(6,iv v25.2),(7,iv s14.2.2)] [(2,rE 1 eStr v25.1)]) (fun v25=>?_) (fun jv25=>?_)
   ·refine J_g 979 [] [(0,sv a1),(1,uv a2),(5,rr 2 v25.1),(6,iv v25.2),(7,iv (w64 (s14.2.2+1)))] [(2,rE 1 eStr v25.1)] zB ?_
    refine zCo 2 0 (Nat.le_of_ble_eq_true rfl) (Nat.le_of_ble_eq_true rfl) ?_
    exact J_q (J_b (ih (v25.1,v25.2,w64 (s14.2.2+1)))) rfl
   ·refine zD 25 (fun h20=>?_) (fun h20=>?_)
    ·refine zA (fun x21 h22=>?_)
     refine zA (fun x23 h24=>?_)
     refine J_g 15652 [] [(0,sv a1),(1,uv a2),(5,rr 2 x23),(7,iv s14.2.2)] [(2,rE 1 eStr x23)] (zC 4 (zKW 9 (.tmp 27) (some (.tmp 28)) (some (.tmp 29)) h22) (zC 5 (zFd 86 9 1 1 eStr [x21] [0] [(.tmp 30)] [sv x21]) (zC 6 (zIJ 86 86 9 9 1 16 2 0 1 eStr (.tmp 26) (.tmp 31) h24) zB))) ?_
     refine J_g 15653 [] [(0,sv a1),(1,uv a2),(5,rr 2 x23),(6,iv (w64 (s14.2.2+1))),(7,iv s14.2.2)] [(2,rE 1 eStr x23)] zB ?_
     exact xB (J_j (jv25 (x23,w64 (s14.2.2+1)))) rfl
    ·refine zCo 0 2 (Nat.le_of_ble_eq_true rfl) (Nat.le_of_ble_eq_true rfl) ?_
     exact xB (J_j (jv25 (s14.1,s14.2.1))) rfl
  ·refine wN (fun h16=>?_) (fun h16=>?_)
   ·refine J_g 3912 [] [(0,sv a1),(1,uv a2),(5,rr 0 s14.1),(6,iv s14.2.1),(7,iv s14.2.2),(25,bv true)] [(0,rE 1 eStr s14.1)] (wF 4 [(18,bv (s14.2.2==(a1.size:Int)))] [] h16 zB) ?_
    exact xB (J_j (jv19 true)) rfl
   ·refine zA (fun x17 h18=>?_)
    refine J_g 3912 [] [(0,sv a1),(1,uv a2),(5,rr 0 s14.1),(6,iv s14.2.1),(7,iv s14.2.2),(25,bv (x17==a2))] [(0,rE 1 eStr s14.1)] (wF 4 [(18,bv (s14.2.2==(a1.size:Int)))] [] h16 (zAR 7 4 19 false (zJr (kk:=.i64) 9 (.tmp 20) (.tmp 21) h18) zB)) ?_
    exact xB (J_j (jv19 (x17==a2))) rfl
 ·exact xB (hk s14.1) rfl
theorem tZ.ok (a1:ByteArray) (a2:Int):Ok Tryz.prog 235 [sv a1,uv a2] [] ((tZ a1 a2).map fun r=>(so 1 eStr r,[])):=by
 refine zH zQt Tryz.f235 0 36 (fun q=>?_)
 unfold tZ
 refine J_g 2 [] [(0,sv a1),(1,uv a2)] [] zB ?_
 refine J_g 6 [] [(0,sv a1),(1,uv a2),(5,rr 0 ([]:List ByteArray))] [(0,rE 1 eStr ([]:List ByteArray))] (zC 0 (zFd 86 9 1 0 eStr ([]:List ByteArray) [] [] []) zB) ?_
 refine J_g 14 [] [(0,sv a1),(1,uv a2),(5,rr 0 ([]:List ByteArray)),(6,iv 0)] [(0,rE 1 eStr ([]:List ByteArray))] zB ?_
 refine J_g 60 [] [(0,sv a1),(1,uv a2),(5,rr 0 ([]:List ByteArray)),(6,iv 0),(7,iv 0)] [(0,rE 1 eStr ([]:List ByteArray))] zB ?_
 refine zFl (zCT.ok a1 a2 q _ (fun v26=>J_j ?_) (([]:List ByteArray),0,0))
 refine J_g 62 [] [(4,rr 0 v26)] [(0,rE 1 eStr v26)] zB ?_
 exact zD5 (ds:=[rr 0 v26]) (ds':=[so 1 eStr v26]) (.cons (.cell (.move (.head _) (List.length_map _) (by decide) (.nil))) (.nil) (by decide)) rfl
noncomputable def zSz:Code:=(Tryz.f170.body).getD .skip
theorem zAG.ok (a1:ByteArray):Ok Tryz.prog 170 [sv a1] [] ((zAG a1).map fun r=>(so 1 eStr r,[])):=by
 refine zH zSz Tryz.f170 0 19 (fun q=>?_)
 unfold zAG
 refine J_g 2 [] [(0,sv a1)] [] zB ?_
 refine zA (fun x2 h3=>?_)
 refine J_g 6 [] [(3,rr 0 x2)] [(0,rE 1 eStr x2)] (zC 1 (uH («as»:=[sv a1,uv 10]) [(.tmp 4),(.const (.int .u8 10))] [9,5] false [] [] (.cons (.same rfl) (.cons (.same rfl) (.nil))) (tZ.ok a1 10) h3 (.own 0)) zB) ?_
 refine zA (fun x4 h5=>?_)
 refine J_g 28 [] [(3,rr 0 x2),(12,bv (seq x4 (bs [])))] [(0,rE 1 eStr x2)] (zC 4 (kM (kk:=.i64) 86 9 1 0 eStr (.tmp 6) (.tmp 9) h5) (zC 5 (zED (d:=sv x4) 9 1 0 0 eStr (.tmp 10) h5 (by kernel_rfl)) zB)) ?_
 refine wD (atI zSz 15) (fun v9:(List ByteArray)=>St.mk' [(3,rr 1 v9)] [(1,rE 1 eStr v9)]) (fun v9=>?_) (fun jv9=>?_)
 ·refine J_g 30 [] [(2,rr 1 v9)] [(1,rE 1 eStr v9)] zB ?_
  exact zD5 (ds:=[rr 1 v9]) (ds':=[so 1 eStr v9]) (.cons (.cell (.move (.head _) (List.length_map _) (by decide) (.nil))) (.nil) (by decide)) rfl
 ·refine zD 12 (fun h6=>?_) (fun h6=>?_)
  ·refine zA (fun x7 h8=>?_)
   refine J_g 58 [] [(3,rr 1 x7)] [(1,rE 1 eStr x7)] (zC 4 (zPs 86 9 1 0 1 eStr (.tmp 13) none (some (.tmp 16)) h8) zB) ?_
   exact xB (J_j (jv9 x7)) rfl
  ·refine zCo 0 1 (Nat.le_of_ble_eq_true rfl) (Nat.le_of_ble_eq_true rfl) ?_
   exact xB (J_j (jv9 x2)) rfl
noncomputable def zQN:Code:=(Tryz.f216.body).getD .skip
theorem zCV.ok (x2:(List ByteArray)) (q:Wd) (kn:(List ByteArray)→Option (D×List Ent)) (hk:∀v:(List ByteArray),J (q.g Tryz.prog 216 0 28) zQN (atI zQN 31) (St.mk' [(3,rr 0 v)] [(0,rE 1 eStr v)]) (some v) kn):
  ∀s13:((List ByteArray)×Int),J (q.g Tryz.prog 216 0 28) zQN (atI zQN 244) (St.mk' [(3,rr 0 s13.1),(4,rr 1 x2),(5,iv s13.2)] [(0,rE 1 eStr s13.1),(1,rE 1 eStr x2)]) (zCV x2 s13) kn:=by
 refine jJ (fun g ih s13=>?_)
 unfold zBJ
 refine J_g 976 [] [(3,rr 0 s13.1),(4,rr 1 x2),(5,iv s13.2),(12,bv (decide (s13.2< (x2.length:Int))))] [(0,rE 1 eStr s13.1),(1,rE 1 eStr x2)] zB ?_
 refine zD 12 (fun h14=>?_) (fun h14=>?_)
 ·refine zA (fun x15 h16=>?_)
  refine J_g 3912 [] [(3,rr 0 s13.1),(4,rr 1 x2),(5,iv s13.2),(19,bv (!(seq x15 (bs []))))] [(0,rE 1 eStr s13.1),(1,rE 1 eStr x2)] (zC 2 (kM (kk:=.i64) 86 9 1 1 eStr (.tmp 15) (.tmp 16) h16) (zC 3 (zED (d:=sv x15) 9 1 1 0 eStr (.tmp 17) h16 (by kernel_rfl)) zB)) ?_
  refine wD (aft zQN 1956) (fun v22:(List ByteArray)=>St.mk' [(3,rr 3 v22),(4,rr 1 x2),(5,iv s13.2)] [(1,rE 1 eStr x2),(3,rE 1 eStr v22)]) (fun v22=>?_) (fun jv22=>?_)
  ·refine J_g 979 [] [(3,rr 3 v22),(4,rr 1 x2),(5,iv (w64 (s13.2+1)))] [(1,rE 1 eStr x2),(3,rE 1 eStr v22)] zB ?_
   refine zCo 3 0 (Nat.le_of_ble_eq_true rfl) (Nat.le_of_ble_eq_true rfl) ?_
   exact J_q (J_b (ih (v22,w64 (s13.2+1)))) rfl
  ·refine zD 19 (fun h17=>?_) (fun h17=>?_)
   ·refine zA (fun x18 h19=>?_)
    refine zA (fun x20 h21=>?_)
    refine J_g 7826 [] [(3,rr 3 x20),(4,rr 1 x2),(5,iv s13.2)] [(1,rE 1 eStr x2),(3,rE 1 eStr x20)] (zC 3 (kM (kk:=.i64) 86 9 1 1 eStr (.tmp 21) (.tmp 22) h19) (zC 4 (zED (d:=sv x18) 9 1 1 0 eStr (.tmp 23) h19 (by kernel_rfl)) (zC 5 (zFd 86 9 1 2 eStr [x18] [0] [(.tmp 24)] [sv x18]) (zC 6 (zIJ 86 86 9 9 1 16 3 0 2 eStr (.tmp 20) (.tmp 25) h21) zB)))) ?_
    exact xB (J_j (jv22 x20)) rfl
   ·refine zCo 0 3 (Nat.le_of_ble_eq_true rfl) (Nat.le_of_ble_eq_true rfl) ?_
    exact xB (J_j (jv22 s13.1)) rfl
 ·exact xB (hk s13.1) rfl
theorem zCQ.ok (a1:ByteArray):Ok Tryz.prog 216 [sv a1] [] ((zCQ a1).map fun r=>(so 1 eStr r,[])):=by
 refine zH zQN Tryz.f216 0 28 (fun q=>?_)
 unfold zCQ
 refine J_g 2 [] [(0,sv a1)] [] zB ?_
 refine J_g 6 [] [(0,sv a1),(3,rr 0 ([]:List ByteArray))] [(0,rE 1 eStr ([]:List ByteArray))] (zC 0 (zFd 86 9 1 0 eStr ([]:List ByteArray) [] [] []) zB) ?_
 refine zA (fun x2 h3=>?_)
 refine J_g 14 [] [(3,rr 0 ([]:List ByteArray)),(4,rr 1 x2)] [(0,rE 1 eStr ([]:List ByteArray)),(1,rE 1 eStr x2)] (zC 1 (uH («as»:=[sv a1,uv 32]) [(.tmp 7),(.const (.int .u8 32))] [9,5] false [] [] (.cons (.same rfl) (.cons (.same rfl) (.nil))) (tZ.ok a1 32) h3 (.own 1)) zB) ?_
 refine J_g 60 [] [(3,rr 0 ([]:List ByteArray)),(4,rr 1 x2),(5,iv 0)] [(0,rE 1 eStr ([]:List ByteArray)),(1,rE 1 eStr x2)] zB ?_
 refine zFl (zCV.ok x2 q _ (fun v23=>J_j ?_) (([]:List ByteArray),0))
 refine J_g 62 [] [(2,rr 0 v23)] [(0,rE 1 eStr v23)] zB ?_
 exact zD5 (ds:=[rr 0 v23]) (ds':=[so 1 eStr v23]) (.cons (.cell (.move (.head _) (List.length_map _) (by decide) (.nil))) (.nil) (by decide)) rfl
noncomputable def zRI:Code:=(Tryz.f217.body).getD .skip
theorem jN.ok (x2:(List ByteArray)) (q:Wd) (kn:(List Int)→Option (D×List Ent)) (hk:∀v:(List Int),J (q.g Tryz.prog 217 0 47) zRI (atI zRI 63) (St.mk' [(2,pp 0),(4,rr 2 v)] [(0,.box [iv 0,iv 0,iv 0,iv 0]),(2,rE 1 zG v)]) (some v) kn):
  ∀s13:((List Int)×Int),J (q.g Tryz.prog 217 0 47) zRI (atI zRI 500) (St.mk' [(2,pp 0),(3,rr 1 x2),(4,rr 2 s13.1),(5,iv s13.2)] [(0,.box [iv 0,iv 0,iv 0,iv 0]),(1,rE 1 eStr x2),(2,rE 1 zG s13.1)]) (jN x2 s13) (Fl.go (fun r:zL=>some (.ag (zL.enc r),[])) kn):=by
 refine jJ (fun g ih s13=>?_)
 unfold tY
 refine J_g 2000 [] [(2,pp 0),(3,rr 1 x2),(4,rr 2 s13.1),(5,iv s13.2),(18,bv (decide (s13.2< (x2.length:Int))))] [(0,.box [iv 0,iv 0,iv 0,iv 0]),(1,rE 1 eStr x2),(2,rE 1 zG s13.1)] zB ?_
 refine zD 18 (fun h14=>?_) (fun h14=>?_)
 ·refine zA (fun x15 h16=>?_)
  refine zA (fun x17 h18=>?_)
  refine J_g 8008 [] [(2,pp 0),(3,rr 1 x2),(4,rr 2 s13.1),(5,iv s13.2),(6,iv x17.1),(7,bv x17.2)] [(0,.box [iv 0,iv 0,iv 0,iv 0]),(1,rE 1 eStr x2),(2,rE 1 zG s13.1)] (zC 2 (kM (kk:=.i64) 86 9 1 1 eStr (.tmp 22) (.tmp 23) h16) (zC 3 (zED (d:=sv x15) 9 1 1 0 eStr (.tmp 24) h16 (by kernel_rfl)) (zC 4 (xO [(.tmp 25),(.const (.int .i64 3))] [9,3] (uD.ok x15 3) h18) zB))) ?_
  refine J_g 32036 [] [(2,pp 0),(3,rr 1 x2),(4,rr 2 s13.1),(5,iv s13.2),(6,iv x17.1),(30,bv (!x17.2))] [(0,.box [iv 0,iv 0,iv 0,iv 0]),(1,rE 1 eStr x2),(2,rE 1 zG s13.1)] zB ?_
  refine zD 30 (fun h19=>?_) (fun h19=>?_)
  ·refine J_g 128148 [] [(2,pp 0)] [(0,.box [iv 5,iv 0,iv 0,iv 0])] zB ?_
   exact zR rfl
  ·refine zA (fun x20 h21=>?_)
   refine J_g 16019 [] [(2,pp 0),(3,rr 1 x2),(4,rr 2 s13.1),(5,iv s13.2)] [(0,.box [iv 0,iv 0,iv 0,iv 0]),(1,rE 1 eStr x2),(2,rE 1 zG (s13.1.set s13.2.toNat x17.1))] (zC 3 (kM (kk:=.i64) 39 2 1 2 zG (.tmp 32) (.tmp 33) h21) (zGY 4 (zIc (b:=x17.1) 2 1 2 0 zG (iv x17.1) (.tmp 35) (.tmp 34) h21 rfl) zB)) ?_
   refine zFJ (σ':=St.mk' [(2,pp 0),(3,rr 1 x2),(4,rr 2 (s13.1.set s13.2.toNat x17.1)),(5,iv s13.2)] [(0,.box [iv 0,iv 0,iv 0,iv 0]),(1,rE 1 eStr x2),(2,rE 1 zG (s13.1.set s13.2.toNat x17.1))]) (by simp only [rr,List.length_set]) ?_
   refine J_g 2003 [] [(2,pp 0),(3,rr 1 x2),(4,rr 2 (s13.1.set s13.2.toNat x17.1)),(5,iv (w64 (s13.2+1)))] [(0,.box [iv 0,iv 0,iv 0,iv 0]),(1,rE 1 eStr x2),(2,rE 1 zG (s13.1.set s13.2.toNat x17.1))] zB ?_
   exact J_q (J_b (ih (s13.1.set s13.2.toNat x17.1,w64 (s13.2+1)))) rfl
 ·exact xB (hk s13.1) rfl
theorem xU.ok (a1:ByteArray):Ok Tryz.prog 217 [sv a1] [] ((xU a1).map fun r=>(.ag (zL.enc r),[])):=by
 refine zH zRI Tryz.f217 0 47 (fun q=>?_)
 unfold xU
 refine J_g 2 [(0,0)] [(0,sv a1),(2,pp 0)] [(0,.box [iv 0,iv 0,iv 0,iv 0])] zB ?_
 refine zA (fun x2 h3=>?_)
 refine J_g 6 [] [(2,pp 0),(3,rr 1 x2)] [(0,.box [iv 0,iv 0,iv 0,iv 0]),(1,rE 1 eStr x2)] (zC 1 (uH («as»:=[sv a1,uv 46]) [(.tmp 8),(.const (.int .u8 46))] [9,5] false [] [] (.cons (.same rfl) (.cons (.same rfl) (.nil))) (tZ.ok a1 46) h3 (.own 1)) zB) ?_
 refine J_g 28 [] [(2,pp 0),(3,rr 1 x2),(12,bv (decide ((x2.length:Int)>3)))] [(0,.box [iv 0,iv 0,iv 0,iv 0]),(1,rE 1 eStr x2)] zB ?_
 refine zD 12 (fun h4=>?_) (fun h4=>?_)
 ·refine J_g 116 [] [(2,pp 0)] [(0,.box [iv 5,iv 0,iv 0,iv 0])] zB ?_
  exact zR rfl
 ·refine J_g 30 [] [(2,pp 0),(3,rr 1 x2),(4,rr 2 [0,0,0])] [(0,.box [iv 0,iv 0,iv 0,iv 0]),(1,rE 1 eStr x2),(2,rE 1 zG [0,0,0])] (zC 0 (zFd 39 2 1 2 zG [0,0,0] [0,1,2] [(.const (.int .i64 0)),(.const (.int .i64 0)),(.const (.int .i64 0))] [iv 0,iv 0,iv 0]) zB) ?_
  refine J_g 124 [] [(2,pp 0),(3,rr 1 x2),(4,rr 2 [0,0,0]),(5,iv 0)] [(0,.box [iv 0,iv 0,iv 0,iv 0]),(1,rE 1 eStr x2),(2,rE 1 zG [0,0,0])] zB ?_
  refine vY (K0:=(fun r:zL=>some (.ag (zL.enc r),[]))) (fun _=>rfl) (jN.ok x2 q _ (fun v22=>J_j ?_) ([0,0,0],0))
  refine zA (fun x23 h24=>?_)
  refine zA (fun x25 h26=>?_)
  refine zA (fun x27 h28=>?_)
  refine J_g 126 [] [(2,pp 0)] [(0,.box [iv 0,iv x23,iv x25,iv x27])] (zC 1 (kM (kk:=.i64) 39 2 1 2 zG (.tmp 36) (.const (.int .i64 0)) h24) (zC 2 (zED (d:=iv x23) 2 1 2 0 zG (.tmp 37) h24 (by kernel_rfl)) (zC 4 (kM (kk:=.i64) 39 2 1 2 zG (.tmp 39) (.const (.int .i64 1)) h26) (zC 5 (zED (d:=iv x25) 2 1 2 0 zG (.tmp 40) h26 (by kernel_rfl)) (zC 7 (kM (kk:=.i64) 39 2 1 2 zG (.tmp 42) (.const (.int .i64 2)) h28) (zC 8 (zED (d:=iv x27) 2 1 2 0 zG (.tmp 43) h28 (by kernel_rfl)) zB)))))) ?_
  exact zR rfl
noncomputable def c116:Code:=(Tryz.f116.body).getD .skip
theorem zEr.ok (a1:(List Int)) (a2:Int) (q:Wd) (kn:((List Int)×Bool)→Option (D×List Ent)) (hk:∀v:((List Int)×Bool),J (q.g Tryz.prog 116 0 43) c116 (atI c116 31) (St.mk' [(1,iv a2),(5,rr 0 v.1),(6,bv v.2)] [(0,rE 1 zG v.1)]) (some v) kn):
  ∀s16:((List Int)×Bool×Int),J (q.g Tryz.prog 116 0 43) c116 (atI c116 244) (St.mk' [(0,sl 1 zG a1),(1,iv a2),(5,rr 0 s16.1),(6,bv s16.2.1),(7,iv s16.2.2)] [(0,rE 1 zG s16.1)]) (zEr a1 a2 s16) kn:=by
 refine jJ (fun g ih s16=>?_)
 unfold zD3
 refine J_g 976 [] [(0,sl 1 zG a1),(1,iv a2),(5,rr 0 s16.1),(6,bv s16.2.1),(7,iv s16.2.2),(12,bv (decide (s16.2.2< (a1.length:Int))))] [(0,rE 1 zG s16.1)] zB ?_
 refine zD 12 (fun h17=>?_) (fun h17=>?_)
 ·refine zA (fun x18 h19=>?_)
  refine wD (atI c116 7825) (fun v21:Bool=>St.mk' [(0,sl 1 zG a1),(1,iv a2),(5,rr 0 s16.1),(6,bv s16.2.1),(7,iv s16.2.2),(24,bv v21)] [(0,rE 1 zG s16.1)]) (fun v21=>?_) (fun jv21=>?_)
  ·refine wD (atI c116 3913) (fun v25:((List Int)×Bool)=>St.mk' [(0,sl 1 zG a1),(1,iv a2),(5,rr 2 v25.1),(6,bv v25.2),(7,iv s16.2.2)] [(2,rE 1 zG v25.1)]) (fun v25=>?_) (fun jv25=>?_)
   ·refine zA (fun x26 h27=>?_)
    refine zA (fun x28 h29=>?_)
    refine J_g 3913 [] [(0,sl 1 zG a1),(1,iv a2),(5,rr 4 x28),(6,bv v25.2),(7,iv s16.2.2)] [(4,rE 1 zG x28)] (zC 3 (uN (kk:=.i64) 39 2 1 zG (.tmp 30) (.tmp 31) h27) (zC 5 (zFd 39 2 1 3 zG [x26] [0] [(.tmp 33)] [iv x26]) (zC 6 (zIJ 39 39 2 2 1 8 4 2 3 zG (.tmp 29) (.tmp 34) h29) zB))) ?_
    refine J_g 979 [] [(0,sl 1 zG a1),(1,iv a2),(5,rr 4 x28),(6,bv v25.2),(7,iv (w64 (s16.2.2+1)))] [(4,rE 1 zG x28)] zB ?_
    refine zCo 4 0 (Nat.le_of_ble_eq_true rfl) (Nat.le_of_ble_eq_true rfl) ?_
    exact J_q (J_b (ih (x28,v25.2,w64 (s16.2.2+1)))) rfl
   ·refine zD 24 (fun h22=>?_) (fun h22=>?_)
    ·refine zA (fun x23 h24=>?_)
     refine J_g 31300 [] [(0,sl 1 zG a1),(1,iv a2),(5,rr 2 x23),(7,iv s16.2.2)] [(2,rE 1 zG x23)] (zC 2 (zFd 39 2 1 1 zG [a2] [0] [(.tmp 26)] [iv a2]) (zC 3 (zIJ 39 39 2 2 1 8 2 0 1 zG (.tmp 25) (.tmp 27) h24) zB)) ?_
     refine J_g 31301 [] [(0,sl 1 zG a1),(1,iv a2),(5,rr 2 x23),(6,bv true),(7,iv s16.2.2)] [(2,rE 1 zG x23)] zB ?_
     exact xB (J_j (jv25 (x23,true))) rfl
    ·refine zCo 0 2 (Nat.le_of_ble_eq_true rfl) (Nat.le_of_ble_eq_true rfl) ?_
     exact xB (J_j (jv25 (s16.1,s16.2.1))) rfl
  ·refine wN (fun h20=>?_) (fun h20=>?_)
   ·refine J_g 7824 [] [(0,sl 1 zG a1),(1,iv a2),(5,rr 0 s16.1),(6,bv s16.2.1),(7,iv s16.2.2),(24,bv (!s16.2.1))] [(0,rE 1 zG s16.1)] (zC 2 (uN (kk:=.i64) 39 2 1 zG (.tmp 15) (.tmp 16) h19) (wF 6 [(20,bv (decide (x18>a2)))] [] h20 zB)) ?_
    exact xB (J_j (jv21 (!s16.2.1))) rfl
   ·refine J_g 7824 [] [(0,sl 1 zG a1),(1,iv a2),(5,rr 0 s16.1),(6,bv s16.2.1),(7,iv s16.2.2),(24,bv false)] [(0,rE 1 zG s16.1)] (zC 2 (uN (kk:=.i64) 39 2 1 zG (.tmp 15) (.tmp 16) h19) (wF 6 [(20,bv (decide (x18>a2)))] [] h20 zB)) ?_
    exact xB (J_j (jv21 false)) rfl
 ·exact xB (hk (s16.1,s16.2.1)) rfl
theorem zEl.ok (a1:(List Int)) (a2:Int):Ok Tryz.prog 116 [sl 1 zG a1,iv a2] [] ((zEl a1 a2).map fun r=>(so 1 zG r,[])):=by
 refine zH c116 Tryz.f116 0 43 (fun q=>?_)
 unfold zEl
 refine J_g 2 [] [(0,sl 1 zG a1),(1,iv a2)] [] zB ?_
 refine J_g 6 [] [(0,sl 1 zG a1),(1,iv a2),(5,rr 0 ([]:List Int))] [(0,rE 1 zG ([]:List Int))] (zC 0 (zFd 39 2 1 0 zG ([]:List Int) [] [] []) zB) ?_
 refine J_g 14 [] [(0,sl 1 zG a1),(1,iv a2),(5,rr 0 ([]:List Int)),(6,bv false)] [(0,rE 1 zG ([]:List Int))] zB ?_
 refine J_g 60 [] [(0,sl 1 zG a1),(1,iv a2),(5,rr 0 ([]:List Int)),(6,bv false),(7,iv 0)] [(0,rE 1 zG ([]:List Int))] zB ?_
 refine zFl (zEr.ok a1 a2 q _ (fun v30=>J_j ?_) (([]:List Int),false,0))
 refine J_g 124 [] [(1,iv a2),(5,rr 0 v30.1),(37,bv (!v30.2))] [(0,rE 1 zG v30.1)] zB ?_
 refine wD (atI c116 63) (fun v34:(List Int)=>St.mk' [(5,rr 2 v34)] [(2,rE 1 zG v34)]) (fun v34=>?_) (fun jv34=>?_)
 ·refine J_g 126 [] [(4,rr 2 v34)] [(2,rE 1 zG v34)] zB ?_
  exact zD5 (ds:=[rr 2 v34]) (ds':=[so 1 zG v34]) (.cons (.cell (.move (.head _) (List.length_map _) (by decide) (.nil))) (.nil) (by decide)) rfl
 ·refine zD 37 (fun h31=>?_) (fun h31=>?_)
  ·refine zA (fun x32 h33=>?_)
   refine J_g 250 [] [(5,rr 2 x32)] [(2,rE 1 zG x32)] (zC 2 (zFd 39 2 1 1 zG [a2] [0] [(.tmp 39)] [iv a2]) (zC 3 (zIJ 39 39 2 2 1 8 2 0 1 zG (.tmp 38) (.tmp 40) h33) zB)) ?_
   exact xB (J_j (jv34 x32)) rfl
  ·refine zCo 0 2 (Nat.le_of_ble_eq_true rfl) (Nat.le_of_ble_eq_true rfl) ?_
   exact xB (J_j (jv34 v30.1)) rfl
noncomputable def zPX:Code:=(Tryz.f149.body).getD .skip
theorem zCM.ok (a1:(List Pack)) (x4:(List ByteArray)) (q:Wd) (kn:(List Int)→Option (D×List Ent)) (hk:∀v:(List Int),J (q.g Tryz.prog 149 0 60) zPX (atI zPX 63) (St.mk' [(4,pp 0),(6,rr 2 v)] [(0,.box [iv 0,iv 0,nv]),(2,rE 1 zG v)]) (some v) kn):
  ∀s29:((List Int)×Int),J (q.g Tryz.prog 149 0 60) zPX (atI zPX 500) (St.mk' [(0,sl 8 (Pack.enc false) a1),(4,pp 0),(5,rr 1 x4),(6,rr 2 s29.1),(7,iv s29.2)] [(0,.box [iv 0,iv 0,nv]),(1,rE 1 eStr x4),(2,rE 1 zG s29.1)]) (zCM a1 x4 s29) (Fl.go (fun r:zI=>some (.ag [iv r.Code,iv r.At,so 1 zG r.Set],[])) kn):=by
 refine jJ (fun g ih s29=>?_)
 unfold zAx
 refine J_g 2000 [] [(0,sl 8 (Pack.enc false) a1),(4,pp 0),(5,rr 1 x4),(6,rr 2 s29.1),(7,iv s29.2),(21,bv (decide (s29.2< (x4.length:Int))))] [(0,.box [iv 0,iv 0,nv]),(1,rE 1 eStr x4),(2,rE 1 zG s29.1)] zB ?_
 refine zD 21 (fun h30=>?_) (fun h30=>?_)
 ·refine zA (fun x31 h32=>?_)
  refine zA (fun x33 h34=>?_)
  refine J_g 8008 [] [(0,sl 8 (Pack.enc false) a1),(4,pp 0),(5,rr 1 x4),(6,rr 2 s29.1),(7,iv s29.2),(8,rr 3 x33)] [(0,.box [iv 0,iv 0,nv]),(1,rE 1 eStr x4),(2,rE 1 zG s29.1),(3,rE 1 eStr x33)] (zC 2 (kM (kk:=.i64) 86 9 1 1 eStr (.tmp 24) (.tmp 25) h32) (zC 3 (zED (d:=sv x31) 9 1 1 0 eStr (.tmp 26) h32 (by kernel_rfl)) (zC 4 (uH («as»:=[sv x31]) [(.tmp 27)] [9] false [] [] (.cons (.same rfl) (.nil)) (zCQ.ok x31) h34 (.own 3)) zB))) ?_
  refine J_g 16018 [] [(0,sl 8 (Pack.enc false) a1),(4,pp 0),(5,rr 1 x4),(6,rr 2 s29.1),(7,iv s29.2),(8,rr 3 x33),(9,iv (-1))] [(0,.box [iv 0,iv 0,nv]),(1,rE 1 eStr x4),(2,rE 1 zG s29.1),(3,rE 1 eStr x33)] zB ?_
  refine J_g 64076 [] [(0,sl 8 (Pack.enc false) a1),(4,pp 0),(5,rr 1 x4),(6,rr 2 s29.1),(7,iv s29.2),(8,rr 3 x33),(9,iv (-1)),(31,bv ((x33.length:Int)==2))] [(0,.box [iv 0,iv 0,nv]),(1,rE 1 eStr x4),(2,rE 1 zG s29.1),(3,rE 1 eStr x33)] zB ?_
  refine wD (atI zPX 32039) (fun v45:Int=>St.mk' [(0,sl 8 (Pack.enc false) a1),(4,pp 0),(5,rr 1 x4),(6,rr 2 s29.1),(7,iv s29.2),(9,iv v45)] [(0,.box [iv 0,iv 0,nv]),(1,rE 1 eStr x4),(2,rE 1 zG s29.1)]) (fun v45=>?_) (fun jv45=>?_)
  ·refine wD (atI zPX 128157) (fun v49:Bool=>St.mk' [(0,sl 8 (Pack.enc false) a1),(4,pp 0),(5,rr 1 x4),(6,rr 2 s29.1),(7,iv s29.2),(9,iv v45),(52,bv v49)] [(0,.box [iv 0,iv 0,nv]),(1,rE 1 eStr x4),(2,rE 1 zG s29.1)]) (fun v49=>?_) (fun jv49=>?_)
   ·refine zD 52 (fun h50=>?_) (fun h50=>?_)
    ·refine J_g 512628 [] [(4,pp 0)] [(0,.box [iv 5,iv s29.2,nv])] zB ?_
     exact zD5 (ds:=[.ag [iv 5,iv s29.2,nv]]) (ds':=[.ag [iv 5,iv s29.2,so 1 zG ([]:List Int)]]) (.cons (.ag (.keep rfl (.keep rfl (.nilsl true 1 (.nil))))) (.nil) (by decide)) rfl
    ·refine zA (fun x51 h52=>?_)
     refine J_g 64079 [] [(0,sl 8 (Pack.enc false) a1),(4,pp 0),(5,rr 1 x4),(6,rr 3 x51),(7,iv s29.2)] [(0,.box [iv 0,iv 0,nv]),(1,rE 1 eStr x4),(3,rE 1 zG x51)] (zC 2 (uH («as»:=[rr 2 s29.1,iv v45]) [(.tmp 55),(.tmp 56)] [39,2] true [(2,rE 1 zG s29.1)] [] (.cons (zF1 (.head _) (fun _=>rfl) rfl) (.cons (.same rfl) (.nil))) (zEl.ok s29.1 v45) h52 (.own 3) (hbor:=fun _=>⟨fhN,(zFS (zH8 (fun _=>(flatK yB zGl)) _))⟩)) zB) ?_
     refine J_g 2003 [] [(0,sl 8 (Pack.enc false) a1),(4,pp 0),(5,rr 1 x4),(6,rr 3 x51),(7,iv (w64 (s29.2+1)))] [(0,.box [iv 0,iv 0,nv]),(1,rE 1 eStr x4),(3,rE 1 zG x51)] zB ?_
     refine zCo 3 2 (Nat.le_of_ble_eq_true rfl) (Nat.le_of_ble_eq_true rfl) ?_
     exact J_q (J_b (ih (x51,w64 (s29.2+1)))) rfl
   ·refine wN (fun h46=>?_) (fun h46=>?_)
    ·refine J_g 128156 [] [(0,sl 8 (Pack.enc false) a1),(4,pp 0),(5,rr 1 x4),(6,rr 2 s29.1),(7,iv s29.2),(9,iv v45),(52,bv true)] [(0,.box [iv 0,iv 0,nv]),(1,rE 1 eStr x4),(2,rE 1 zG s29.1)] (wF 2 [(47,bv (decide (v45<0)))] [] h46 zB) ?_
     exact xB (J_j (jv49 true)) rfl
    ·refine zA (fun x47 h48=>?_)
     refine J_g 128156 [] [(0,sl 8 (Pack.enc false) a1),(4,pp 0),(5,rr 1 x4),(6,rr 2 s29.1),(7,iv s29.2),(9,iv v45),(52,bv x47)] [(0,.box [iv 0,iv 0,nv]),(1,rE 1 eStr x4),(2,rE 1 zG s29.1)] (wF 2 [(47,bv (decide (v45<0)))] [] h46 (zAR 5 2 48 false (uH («as»:=[rr 2 s29.1,iv v45]) [(.tmp 49),(.tmp 50)] [39,2] true [(2,rE 1 zG s29.1)] [] (.cons (zF1 (.head _) (fun _=>rfl) rfl) (.cons (.same rfl) (.nil))) (zBl.ok s29.1 v45) h48 (.same rfl rfl) (hbor:=fun _=>⟨fhN,yB⟩)) zB)) ?_
     exact xB (J_j (jv49 x47)) rfl
  ·refine zD 31 (fun h35=>?_) (fun h35=>?_)
   ·refine zA (fun x36 h37=>?_)
    refine zA (fun x38 h39=>?_)
    refine J_g 256308 [(4,4)] [(0,sl 8 (Pack.enc false) a1),(4,pp 0),(5,rr 1 x4),(6,rr 2 s29.1),(7,iv s29.2),(8,rr 3 x33),(9,iv (-1)),(10,pp 4)] [(0,.box [iv 0,iv 0,nv]),(1,rE 1 eStr x4),(2,rE 1 zG s29.1),(3,rE 1 eStr x33),(4,.box (zL.enc x38))] (zC 1 (kM (kk:=.i64) 86 9 1 3 eStr (.tmp 32) (.const (.int .i64 1)) h37) (zC 2 (zED (d:=sv x36) 9 1 3 0 eStr (.tmp 33) h37 (by kernel_rfl)) (zC 3 (xO [(.tmp 34)] [9] (xU.ok x36) h39) zB))) ?_
    refine J_g 512618 [] [(0,sl 8 (Pack.enc false) a1),(4,pp 0),(5,rr 1 x4),(6,rr 2 s29.1),(7,iv s29.2),(8,rr 3 x33),(9,iv (-1)),(10,pp 4),(38,bv (x38.Code==0))] [(0,.box [iv 0,iv 0,nv]),(1,rE 1 eStr x4),(2,rE 1 zG s29.1),(3,rE 1 eStr x33),(4,.box (zL.enc x38))] zB ?_
    refine zD 38 (fun h40=>?_) (fun h40=>?_)
    ·refine zA (fun x41 h42=>?_)
     refine zA (fun x43 h44=>?_)
     refine J_g 1025238 [] [(0,sl 8 (Pack.enc false) a1),(4,pp 0),(5,rr 1 x4),(6,rr 2 s29.1),(7,iv s29.2),(9,iv x43)] [(0,.box [iv 0,iv 0,nv]),(1,rE 1 eStr x4),(2,rE 1 zG s29.1)] (zC 2 (kM (kk:=.i64) 86 9 1 3 eStr (.tmp 40) (.const (.int .i64 0)) h42) (zC 3 (zED (d:=sv x41) 9 1 3 0 eStr (.tmp 41) h42 (by kernel_rfl)) (zC 6 (xO [(.tmp 39),(.tmp 42),(.tmp 44)] [30,9,99] (kY.ok a1 x41 x38.Version) h44) zB))) ?_
     exact xB (J_j (jv45 x43)) rfl
    ·exact xB (J_j (jv45 (-1))) rfl
   ·exact xB (J_j (jv45 (-1))) rfl
 ·exact xB (hk s29.1) rfl
theorem zCt.ok (a1:(List Pack)) (a2:ByteArray):Ok Tryz.prog 149 [sl 8 (Pack.enc false) a1,sv a2] [] ((zCt a1 a2).map fun r=>(.ag [iv r.Code,iv r.At,so 1 zG r.Set],[])):=by
 refine zH zPX Tryz.f149 0 60 (fun q=>?_)
 unfold zCt
 refine J_g 2 [(0,0)] [(0,sl 8 (Pack.enc false) a1),(1,sv a2),(4,pp 0)] [(0,.box [iv 0,iv 0,nv])] zB ?_
 refine J_g 12 [] [(0,sl 8 (Pack.enc false) a1),(1,sv a2),(4,pp 0),(13,bv (decide ((a2.size:Int)>4000)))] [(0,.box [iv 0,iv 0,nv])] zB ?_
 refine zD 13 (fun h3=>?_) (fun h3=>?_)
 ·refine J_g 52 [] [(4,pp 0)] [(0,.box [iv 2,iv 0,nv])] zB ?_
  exact zD5 (ds:=[.ag [iv 2,iv 0,nv]]) (ds':=[.ag [iv 2,iv 0,so 1 zG ([]:List Int)]]) (.cons (.ag (.keep rfl (.keep rfl (.nilsl true 1 (.nil))))) (.nil) (by decide)) rfl
 ·refine zA (fun x4 h5=>?_)
  refine J_g 14 [] [(0,sl 8 (Pack.enc false) a1),(4,pp 0),(5,rr 1 x4)] [(0,.box [iv 0,iv 0,nv]),(1,rE 1 eStr x4)] (zC 1 (uH («as»:=[sv a2]) [(.tmp 15)] [9] false [] [] (.cons (.same rfl) (.nil)) (zAG.ok a2) h5 (.own 1)) zB) ?_
  refine J_g 30 [] [(0,sl 8 (Pack.enc false) a1),(4,pp 0),(5,rr 1 x4),(6,rr 2 ([]:List Int))] [(0,.box [iv 0,iv 0,nv]),(1,rE 1 eStr x4),(2,rE 1 zG ([]:List Int))] (zC 0 (zFd 39 2 1 2 zG ([]:List Int) [] [] []) zB) ?_
  refine J_g 124 [] [(0,sl 8 (Pack.enc false) a1),(4,pp 0),(5,rr 1 x4),(6,rr 2 ([]:List Int)),(7,iv 0)] [(0,.box [iv 0,iv 0,nv]),(1,rE 1 eStr x4),(2,rE 1 zG ([]:List Int))] zB ?_
  refine vY (K0:=(fun r:zI=>some (.ag [iv r.Code,iv r.At,so 1 zG r.Set],[]))) (fun _=>rfl) (zCM.ok a1 x4 q _ (fun v53=>J_j ?_) (([]:List Int),0))
  refine J_g 126 [] [(4,pp 0)] [(0,.box [iv 0,iv 0,rr 2 v53]),(2,rE 1 zG v53)] zB ?_
  exact zD5 (ds:=[.ag [iv 0,iv 0,rr 2 v53]]) (ds':=[.ag [iv 0,iv 0,so 1 zG v53]]) (.cons (.ag (.keep rfl (.keep rfl (.move (.tail _ (.head _)) (List.length_map _) (by decide) (.nil))))) (.nil) (by decide)) rfl
noncomputable def c77:Code:=(Tryz.f77.body).getD .skip
theorem zE7.ok (a1:(List Pack)) (a2:zF) (a3:Int):Ok Tryz.prog 77 [sl 8 (Pack.enc false) a1,.pb [sl 2 (File.enc false) a2.Files,iv a2.Budget,iv a2.Writes,iv a2.Stop,bv a2.Down],iv a3] [] ((zE7 a1 a2 a3).map fun r=>(.ag [iv r.Code,iv r.At,so 1 zG r.Set],[])):=by
 refine zH c77 Tryz.f77 0 35 (fun q=>?_)
 unfold zE7
 refine J_g 2 [(0,0)] [(0,sl 8 (Pack.enc false) a1),(1,.pb [sl 2 (File.enc false) a2.Files,iv a2.Budget,iv a2.Writes,iv a2.Stop,bv a2.Down]),(2,iv a3),(6,pp 0)] [(0,.box [iv 0,iv 0,nv])] zB ?_
 refine zA (fun x4 h5=>?_)
 refine zA (fun x6 h7=>?_)
 refine J_g 12 [] [(0,sl 8 (Pack.enc false) a1),(1,.pb [sl 2 (File.enc false) a2.Files,iv a2.Budget,iv a2.Writes,iv a2.Stop,bv a2.Down]),(2,iv a3),(6,pp 0),(12,bv (!x6))] [(0,.box [iv 0,iv 0,nv])] (zC 1 (uH («as»:=[.pb [sl 2 (File.enc false) a2.Files,iv a2.Budget,iv a2.Writes,iv a2.Stop,bv a2.Down]]) [(.tmp 8)] [72] false [] [] (.cons (.pb (.cons (.same rfl) (.cons (.same rfl) (.cons (.same rfl) (.cons (.same rfl) (.cons (.same rfl) (.nil))))))) (.nil)) (zBC.ok a2) h5 (.own 1)) (zC 3 (uH («as»:=[rr 1 x4,iv a3]) [(.tmp 9),(.tmp 10)] [39,2] true [(1,rE 1 zG x4)] [] (.cons (zF1 (.head _) (fun _=>rfl) rfl) (.cons (.same rfl) (.nil))) (zBl.ok x4 a3) h7 (.same rfl rfl) (hbor:=fun _=>⟨fhN,yB⟩)) zB)) ?_
 refine zD 12 (fun h8=>?_) (fun h8=>?_)
 ·refine J_g 52 [] [(6,pp 0)] [(0,.box [iv 4,iv 0,nv])] zB ?_
  exact zD5 (ds:=[.ag [iv 4,iv 0,nv]]) (ds':=[.ag [iv 4,iv 0,so 1 zG ([]:List Int)]]) (.cons (.ag (.keep rfl (.keep rfl (.nilsl true 1 (.nil))))) (.nil) (by decide)) rfl
 ·refine zA (fun x9 h10=>?_)
  refine zA (fun x11 h12=>?_)
  refine zA (fun x13 h14=>?_)
  refine zA (fun x15 h16=>?_)
  refine J_g 14 [(14,2)] [(6,pp 0),(7,pp 2)] [(0,.box [iv 0,iv 0,nv]),(1,rE 1 zG x15.Set),(2,.box [iv x15.Code,iv x15.At,rr 1 x15.Set])] (zC 2 (zFC (.tmp 15) [sl 2 (File.enc false) a2.Files,iv a2.Budget,iv a2.Writes,iv a2.Stop,bv a2.Down]) (zC 3 (zEi 33 (.tmp 16) 0 0 1 [sl 2 (File.enc false) a2.Files,iv a2.Budget,iv a2.Writes,iv a2.Stop,bv a2.Down]) (zC 4 (zE3 (d:=sl 2 (File.enc false) a2.Files) 31 (.tmp 17) [sl 2 (File.enc false) a2.Files]) (zC 7 (xO [(.tmp 20)] [2] (tN.ok a3) h10) (zC 8 (uH («as»:=[.pb [sl 2 (File.enc false) a2.Files,iv a2.Budget,iv a2.Writes,iv a2.Stop,bv a2.Down],sv x9]) [(.tmp 19),(.tmp 21)] [72,9] false [] [] (.cons (.pb (.cons (.same rfl) (.cons (.same rfl) (.cons (.same rfl) (.cons (.same rfl) (.cons (.same rfl) (.nil))))))) (.cons (.same rfl) (.nil))) (wH.ok a2 x9) h12 (.same rfl rfl)) (zC 9 (uN (kk:=.i64) 31 138 2 (File.enc false) (.tmp 18) (.tmp 22) h14) (zC 12 (zKx (xs:=x13.Data) 121 9 5 (.tmp 25)) (zC 13 (uH («as»:=[sl 8 (Pack.enc false) a1,sv (b2s x13.Data)]) [(.tmp 14),(.tmp 26)] [30,9] false [] [] (.cons (.same rfl) (.cons (.same rfl) (.nil))) (zCt.ok a1 (b2s x13.Data)) h16 (.ag (.cons (.same rfl rfl) (.cons (.same rfl rfl) (.cons (.own 1) (.nil)))))) zB)))))))) ?_
  refine J_g 60 [] [(6,pp 0),(7,pp 2),(30,bv (x15.Code !=0))] [(0,.box [iv 0,iv 0,nv]),(1,rE 1 zG x15.Set),(2,.box [iv x15.Code,iv x15.At,rr 1 x15.Set])] zB ?_
  refine zD 30 (fun h17=>?_) (fun h17=>?_)
  ·refine J_g 244 [] [(6,pp 0)] [(0,.box [iv x15.Code,iv 0,nv])] zB ?_
   exact zD5 (ds:=[.ag [iv x15.Code,iv 0,nv]]) (ds':=[.ag [iv x15.Code,iv 0,so 1 zG ([]:List Int)]]) (.cons (.ag (.keep rfl (.keep rfl (.nilsl true 1 (.nil))))) (.nil) (by decide)) rfl
  ·refine J_g 62 [] [(6,pp 0)] [(0,.box [iv x15.Code,iv x15.At,rr 1 x15.Set]),(1,rE 1 zG x15.Set)] zB ?_
   exact zD5 (ds:=[.ag [iv x15.Code,iv x15.At,rr 1 x15.Set]]) (ds':=[.ag [iv x15.Code,iv x15.At,so 1 zG x15.Set]]) (.cons (.ag (.keep rfl (.keep rfl (.move (.tail _ (.head _)) (List.length_map _) (by decide) (.nil))))) (.nil) (by decide)) rfl
noncomputable def c43:Code:=(Tryz.f43.body).getD .skip
theorem zAB.ok (a1:(List Pack)) (a2:zF):Ok Tryz.prog 43 [sl 8 (Pack.enc false) a1,.pb [sl 2 (File.enc false) a2.Files,iv a2.Budget,iv a2.Writes,iv a2.Stop,bv a2.Down]] [] ((zAB a1 a2).map fun r=>(.ag [iv r.Code,iv r.At,so 1 zG r.Set],[])):=by
 refine zH c43 Tryz.f43 0 10 (fun q=>?_)
 unfold zAB
 refine J_g 2 [(0,0)] [(0,sl 8 (Pack.enc false) a1),(1,.pb [sl 2 (File.enc false) a2.Files,iv a2.Budget,iv a2.Writes,iv a2.Stop,bv a2.Down]),(4,pp 0)] [(0,.box [iv 0,iv 0,nv])] zB ?_
 refine zA (fun x3 h4=>?_)
 refine zA (fun x5 h6=>?_)
 refine J_g 6 [] [(4,pp 0)] [(0,.box [iv x5.Code,iv x5.At,rr 1 x5.Set]),(1,rE 1 zG x5.Set)] (zC 3 (uH («as»:=[.pb [sl 2 (File.enc false) a2.Files,iv a2.Budget,iv a2.Writes,iv a2.Stop,bv a2.Down]]) [(.tmp 7)] [72] false [] [] (.cons (.pb (.cons (.same rfl) (.cons (.same rfl) (.cons (.same rfl) (.cons (.same rfl) (.cons (.same rfl) (.nil))))))) (.nil)) (zBa.ok a2) h4 (.same rfl rfl)) (zC 4 (uH («as»:=[sl 8 (Pack.enc false) a1,.pb [sl 2 (File.enc false) a2.Files,iv a2.Budget,iv a2.Writes,iv a2.Stop,bv a2.Down],iv x3]) [(.tmp 5),(.tmp 6),(.tmp 8)] [30,72,2] false [] [] (.cons (.same rfl) (.cons (.pb (.cons (.same rfl) (.cons (.same rfl) (.cons (.same rfl) (.cons (.same rfl) (.cons (.same rfl) (.nil))))))) (.cons (.same rfl) (.nil)))) (zE7.ok a1 a2 x3) h6 (.ag (.cons (.same rfl rfl) (.cons (.same rfl rfl) (.cons (.own 1) (.nil)))))) zB)) ?_
 exact zD5 (ds:=[.ag [iv x5.Code,iv x5.At,rr 1 x5.Set]]) (ds':=[.ag [iv x5.Code,iv x5.At,so 1 zG x5.Set]]) (.cons (.ag (.keep rfl (.keep rfl (.move (.tail _ (.head _)) (List.length_map _) (by decide) (.nil))))) (.nil) (by decide)) rfl
noncomputable def zTf:Code:=(Tryz.f291.body).getD .skip
theorem jR.ok (a1:Term) (a2:ByteArray) (a3:Version):Ok Tryz.prog 291 [.ag (Term.enc a1),sv a2,.ag (Version.enc a3)] [] ((jR a1 a2 a3).map fun r=>(bv r,[])):=by
 refine zH zTf Tryz.f291 0 25 (fun q=>?_)
 unfold jR
 refine J_g 2 [(0,0),(1,1)] [(1,sv a2),(3,pp 0),(5,pp 1)] [(0,.box (Term.enc a1)),(1,.box (Version.enc a3))] zB ?_
 refine wN (fun h4=>?_) (fun h4=>?_)
 ·refine zA (fun x5 h6=>?_)
  refine wN (fun h7=>?_) (fun h7=>?_)
  ·refine zA (fun x8 h9=>?_)
   refine J_g 6 [] [(6,bv (decide (x8<0)))] [] (wF 4 [(10,bv (seq a1.Name a2))] [] h4 (zAR 8 4 11 true (xO [(.tmp 12),(.tmp 14)] [99,99] (yF.ok a3 a1.Low) h6) (wF 11 [(17,bv (decide (x5≥0)))] [] h7 (zAR 15 11 18 true (xO [(.tmp 19),(.tmp 21)] [99,99] (yF.ok a3 a1.High) h9) zB)))) ?_
   exact zR rfl
  ·refine J_g 6 [] [(6,bv false)] [] (wF 4 [(10,bv (seq a1.Name a2))] [] h4 (zAR 8 4 11 true (xO [(.tmp 12),(.tmp 14)] [99,99] (yF.ok a3 a1.Low) h6) (wF 11 [(17,bv (decide (x5≥0)))] [] h7 zB))) ?_
   exact zR rfl
 ·refine J_g 6 [] [(6,bv false)] [] (wF 4 [(10,bv (seq a1.Name a2))] [] h4 zB) ?_
  exact zR rfl
noncomputable def c234:Code:=(Tryz.f234.body).getD .skip
theorem zDf.ok (a1:Pack) (a2:Term):Ok Tryz.prog 234 [.ag (Pack.enc false a1),.ag (Term.enc a2)] [] ((zDf a1 a2).map fun r=>(bv r,[])):=by
 refine zH c234 Tryz.f234 0 25 (fun q=>?_)
 unfold zDf
 refine J_g 2 [(0,0),(1,1)] [(2,pp 0),(3,pp 1)] [(0,.box (Pack.enc false a1)),(1,.box (Term.enc a2))] zB ?_
 refine wN (fun h3=>?_) (fun h3=>?_)
 ·refine zA (fun x4 h5=>?_)
  refine J_g 6 [] [(4,bv x4)] [] (wF 5 [(9,bv (seq a2.Name a1.Name))] [] h3 (zAR 18 12 17 true (xO [(.tmp 18),(.tmp 20),(.tmp 22)] [149,9,99] (jR.ok a2 a2.Name a1.Version) h5) zB)) ?_
  exact zR rfl
 ·refine zA (fun x6 h7=>?_)
  refine wN (fun h8=>?_) (fun h8=>?_)
  ·refine zA (fun x9 h10=>?_)
   refine J_g 6 [] [(4,bv x9)] [] (wF 5 [(9,bv (seq a2.Name a1.Name))] [] h3 (zAR 10 5 10 false (xO [(.tmp 12),(.tmp 14)] [86,9] (jV.ok a1.Provides a2.Name) h7) (wF 12 [(16,bv x6)] [] h8 (zAR 18 12 17 true (xO [(.tmp 18),(.tmp 20),(.tmp 22)] [149,9,99] (jR.ok a2 a2.Name a1.Version) h10) zB)))) ?_
   exact zR rfl
  ·refine J_g 6 [] [(4,bv false)] [] (wF 5 [(9,bv (seq a2.Name a1.Name))] [] h3 (zAR 10 5 10 false (xO [(.tmp 12),(.tmp 14)] [86,9] (jV.ok a1.Provides a2.Name) h7) (wF 12 [(16,bv x6)] [] h8 zB))) ?_
   exact zR rfl
noncomputable def c168:Code:=(Tryz.f168.body).getD .skip
theorem zCL.ok (a1:(List Pack)) (a2:(List Int)) (a3:Term) (a4:Int) (q:Wd) (kn:Unit→Option (D×List Ent)) (hk:∀v:Unit,J (q.g Tryz.prog 168 0 33) c168 (atI c168 7) (St.mk' [] []) (some v) kn):
  ∀s17:Int,J (q.g Tryz.prog 168 0 33) c168 (atI c168 52) (St.mk' [(0,sl 8 (Pack.enc false) a1),(1,sl 1 zG a2),(3,iv a4),(6,pp 0),(9,iv s17)] [(0,.box (Term.enc a3))]) (zCL a1 a2 a3 a4 s17) (Fl.go (fun r:Bool=>some (bv r,[])) kn):=by
 refine jJ (fun g ih s17=>?_)
 unfold zBG
 refine J_g 208 [] [(0,sl 8 (Pack.enc false) a1),(1,sl 1 zG a2),(3,iv a4),(6,pp 0),(9,iv s17),(13,bv (decide (s17< (a2.length:Int))))] [(0,.box (Term.enc a3))] zB ?_
 refine zD 13 (fun h18=>?_) (fun h18=>?_)
 ·refine zA (fun x19 h20=>?_)
  refine wD (atI c168 841) (fun v28:Bool=>St.mk' [(0,sl 8 (Pack.enc false) a1),(1,sl 1 zG a2),(3,iv a4),(6,pp 0),(9,iv s17),(32,bv v28)] [(0,.box (Term.enc a3))]) (fun v28=>?_) (fun jv28=>?_)
  ·refine zD 32 (fun h29=>?_) (fun h29=>?_)
   ·refine J_g 3364 [] [(8,bv true)] [] zB ?_
    exact zR rfl
   ·refine J_g 211 [] [(0,sl 8 (Pack.enc false) a1),(1,sl 1 zG a2),(3,iv a4),(6,pp 0),(9,iv (w64 (s17+1)))] [(0,.box (Term.enc a3))] zB ?_
    exact J_q (J_b (ih (w64 (s17+1)))) rfl
  ·refine wN (fun h21=>?_) (fun h21=>?_)
   ·refine zA (fun x22 h23=>?_)
    refine zA (fun x24 h25=>?_)
    refine zA (fun x26 h27=>?_)
    refine J_g 840 [] [(0,sl 8 (Pack.enc false) a1),(1,sl 1 zG a2),(3,iv a4),(6,pp 0),(9,iv s17),(32,bv x26)] [(0,.box (Term.enc a3))] (zC 2 (uN (kk:=.i64) 39 2 1 zG (.tmp 16) (.tmp 17) h20) (wF 6 [(21,bv (x19 !=a4))] [] h21 (zAR 10 6 22 true (uN (kk:=.i64) 39 2 1 zG (.tmp 24) (.tmp 25) h23) (zAR 12 6 22 true (uN (kk:=.i64) 30 102 8 (Pack.enc false) (.tmp 23) (.tmp 27) h25) (zAR 15 6 22 true (xO [(.tmp 29),(.tmp 30)] [102,149] (zDf.ok x24 a3) h27) zB))))) ?_
    exact xB (J_j (jv28 x26)) rfl
   ·refine J_g 840 [] [(0,sl 8 (Pack.enc false) a1),(1,sl 1 zG a2),(3,iv a4),(6,pp 0),(9,iv s17),(32,bv false)] [(0,.box (Term.enc a3))] (zC 2 (uN (kk:=.i64) 39 2 1 zG (.tmp 16) (.tmp 17) h20) (wF 6 [(21,bv (x19 !=a4))] [] h21 zB)) ?_
    exact xB (J_j (jv28 false)) rfl
 ·exact xB (hk ()) rfl
theorem zAK.ok (a1:(List Pack)) (a2:(List Int)) (a3:Term) (a4:Int):Ok Tryz.prog 168 [sl 8 (Pack.enc false) a1,sl 1 zG a2,.ag (Term.enc a3),iv a4] [] ((zAK a1 a2 a3 a4).map fun r=>(bv r,[])):=by
 refine zH c168 Tryz.f168 0 33 (fun q=>?_)
 unfold zAK
 refine J_g 2 [(0,0)] [(0,sl 8 (Pack.enc false) a1),(1,sl 1 zG a2),(3,iv a4),(6,pp 0)] [(0,.box (Term.enc a3))] zB ?_
 refine J_g 12 [] [(0,sl 8 (Pack.enc false) a1),(1,sl 1 zG a2),(3,iv a4),(6,pp 0),(9,iv 0)] [(0,.box (Term.enc a3))] zB ?_
 refine vY (K0:=(fun r:Bool=>some (bv r,[]))) (fun _=>rfl) (zCL.ok a1 a2 a3 a4 q _ (fun v30=>J_j ?_) 0)
 refine J_g 14 [] [(8,bv false)] [] zB ?_
 exact zR rfl
noncomputable def c167:Code:=(Tryz.f167.body).getD .skip
theorem zEs.ok (a1:(List Pack)) (a2:(List Int)) (a3:(List Term)) (q:Wd) (kn:Unit→Option (D×List Ent)) (hk:∀v:Unit,J (q.g Tryz.prog 167 0 21) c167 (atI c167 7) (St.mk' [] []) (some v) kn):
  ∀s10:Int,J (q.g Tryz.prog 167 0 21) c167 (atI c167 52) (St.mk' [(0,sl 8 (Pack.enc false) a1),(1,sl 1 zG a2),(2,sl 7 Term.enc a3),(7,iv s10)] []) (zEs a1 a2 a3 s10) (Fl.go (fun r:Bool=>some (bv r,[])) kn):=by
 refine jJ (fun g ih s10=>?_)
 unfold zD9
 refine J_g 208 [] [(0,sl 8 (Pack.enc false) a1),(1,sl 1 zG a2),(2,sl 7 Term.enc a3),(7,iv s10),(11,bv (decide (s10< (a3.length:Int))))] [] zB ?_
 refine zD 11 (fun h11=>?_) (fun h11=>?_)
 ·refine zA (fun x12 h13=>?_)
  refine zA (fun x14 h15=>?_)
  refine J_g 840 [] [(0,sl 8 (Pack.enc false) a1),(1,sl 1 zG a2),(2,sl 7 Term.enc a3),(7,iv s10),(20,bv x14)] [] (zC 4 (uN (kk:=.i64) 75 149 7 Term.enc (.tmp 16) (.tmp 17) h13) (zC 6 (xO [(.tmp 14),(.tmp 15),(.tmp 19),(.const (.int .i64 (-1)))] [30,39,149,2] (zAK.ok a1 a2 x12 (-1)) h15) zB)) ?_
  refine zD 20 (fun h16=>?_) (fun h16=>?_)
  ·refine J_g 3364 [] [(6,bv true)] [] zB ?_
   exact zR rfl
  ·refine J_g 211 [] [(0,sl 8 (Pack.enc false) a1),(1,sl 1 zG a2),(2,sl 7 Term.enc a3),(7,iv (w64 (s10+1)))] [] zB ?_
   exact J_q (J_b (ih (w64 (s10+1)))) rfl
 ·exact xB (hk ()) rfl
theorem zE4.ok (a1:(List Pack)) (a2:(List Int)) (a3:(List Term)):Ok Tryz.prog 167 [sl 8 (Pack.enc false) a1,sl 1 zG a2,sl 7 Term.enc a3] [] ((zE4 a1 a2 a3).map fun r=>(bv r,[])):=by
 refine zH c167 Tryz.f167 0 21 (fun q=>?_)
 unfold zE4
 refine J_g 2 [] [(0,sl 8 (Pack.enc false) a1),(1,sl 1 zG a2),(2,sl 7 Term.enc a3)] [] zB ?_
 refine J_g 12 [] [(0,sl 8 (Pack.enc false) a1),(1,sl 1 zG a2),(2,sl 7 Term.enc a3),(7,iv 0)] [] zB ?_
 refine vY (K0:=(fun r:Bool=>some (bv r,[]))) (fun _=>rfl) (zEs.ok a1 a2 a3 q _ (fun v17=>J_j ?_) 0)
 refine J_g 14 [] [(6,bv false)] [] zB ?_
 exact zR rfl
noncomputable def c93:Code:=(Tryz.f93.body).getD .skip
theorem zBW.ok (a1:(List Pack)) (a2:(List Int)) (s82:((List zM)×Int)) (x86:Pack) (q:Wd) (kn:(List zM)→Option (D×List Ent)) (hk:∀v:(List zM),J (q.g Tryz.prog 93 0 103) c93 (aft c93 932) (St.mk' [(0,sl 8 (Pack.enc false) a1),(1,sl 1 zG a2),(5,rr 0 v),(6,iv s82.2)] [(0,rE 3 zM.enc v)]) (some v) kn):
  ∀s147:((List zM)×Int),J (q.g Tryz.prog 93 0 103) c93 (atI c93 59708) (St.mk' [(0,sl 8 (Pack.enc false) a1),(1,sl 1 zG a2),(5,rr 0 s147.1),(6,iv s82.2),(7,pp 1),(10,iv s147.2)] [(0,rE 3 zM.enc s147.1),(1,.box (Pack.enc false x86))]) (zBW a1 a2 s82 x86 s147) kn:=by
 refine jJ (fun g ih s147=>?_)
 unfold zBy
 refine J_g 238832 [] [(0,sl 8 (Pack.enc false) a1),(1,sl 1 zG a2),(5,rr 0 s147.1),(6,iv s82.2),(7,pp 1),(10,iv s147.2),(78,bv (decide (s147.2< (x86.Bars.length:Int))))] [(0,rE 3 zM.enc s147.1),(1,.box (Pack.enc false x86))] zB ?_
 refine zD 78 (fun h148=>?_) (fun h148=>?_)
 ·refine zA (fun x149 h150=>?_)
  refine zA (fun x151 h152=>?_)
  refine zA (fun x153 h154=>?_)
  refine J_g 955336 [] [(0,sl 8 (Pack.enc false) a1),(1,sl 1 zG a2),(5,rr 0 s147.1),(6,iv s82.2),(7,pp 1),(10,iv s147.2),(92,bv x153)] [(0,rE 3 zM.enc s147.1),(1,.box (Pack.enc false x86))] (zC 5 (uN (kk:=.i64) 75 149 7 Term.enc (.tmp 84) (.tmp 85) h150) (zC 9 (uN (kk:=.i64) 39 2 1 zG (.tmp 88) (.tmp 89) h152) (zC 11 (xO [(.tmp 81),(.tmp 82),(.tmp 87),(.tmp 91)] [30,39,149,2] (zAK.ok a1 a2 x149 x151) h154) zB))) ?_
  refine wD (aft c93 477668) (fun v160:(List zM)=>St.mk' [(0,sl 8 (Pack.enc false) a1),(1,sl 1 zG a2),(5,rr 3 v160),(6,iv s82.2),(7,pp 1),(10,iv s147.2)] [(1,.box (Pack.enc false x86)),(3,rE 3 zM.enc v160)]) (fun v160=>?_) (fun jv160=>?_)
  ·refine J_g 238835 [] [(0,sl 8 (Pack.enc false) a1),(1,sl 1 zG a2),(5,rr 3 v160),(6,iv s82.2),(7,pp 1),(10,iv (w64 (s147.2+1)))] [(1,.box (Pack.enc false x86)),(3,rE 3 zM.enc v160)] zB ?_
   refine zCo 3 0 (Nat.le_of_ble_eq_true rfl) (Nat.le_of_ble_eq_true rfl) ?_
   exact J_q (J_b (ih (v160,w64 (s147.2+1)))) rfl
  ·refine zD 92 (fun h155=>?_) (fun h155=>?_)
   ·refine zA (fun x156 h157=>?_)
    refine zA (fun x158 h159=>?_)
    refine J_g 1910674 [] [(0,sl 8 (Pack.enc false) a1),(1,sl 1 zG a2),(5,rr 3 x158),(6,iv s82.2),(7,pp 1),(10,iv s147.2)] [(1,.box (Pack.enc false x86)),(3,rE 3 zM.enc x158)] (zC 3 (uN (kk:=.i64) 39 2 1 zG (.tmp 94) (.tmp 95) h157) (zC 7 (zFd 133 199 3 2 zM.enc [({Kind:=3,Pack:=x156,At:=s147.2}:zM)] [0] [(.tmp 99)] [.ag [iv 3,iv x156,iv s147.2]]) (zC 8 (zIJ 133 133 199 199 3 24 3 0 2 zM.enc (.tmp 93) (.tmp 100) h159) zB))) ?_
    exact xB (J_j (jv160 x158)) rfl
   ·refine zCo 0 3 (Nat.le_of_ble_eq_true rfl) (Nat.le_of_ble_eq_true rfl) ?_
    exact xB (J_j (jv160 s147.1)) rfl
 ·exact xB (hk s147.1) rfl
theorem zBU.ok (a1:(List Pack)) (a2:(List Int)) (s82:((List zM)×Int)) (x86:Pack) (q:Wd) (kn:(List zM)→Option (D×List Ent)) (hk:∀v:(List zM),J (q.g Tryz.prog 93 0 103) c93 (atI c93 7463) (St.mk' [(0,sl 8 (Pack.enc false) a1),(1,sl 1 zG a2),(5,rr 0 v),(6,iv s82.2),(7,pp 1)] [(0,rE 3 zM.enc v),(1,.box (Pack.enc false x86))]) (some v) kn):
  ∀s121:((List zM)×Int),J (q.g Tryz.prog 93 0 103) c93 (atI c93 59700) (St.mk' [(0,sl 8 (Pack.enc false) a1),(1,sl 1 zG a2),(5,rr 0 s121.1),(6,iv s82.2),(7,pp 1),(9,iv s121.2)] [(0,rE 3 zM.enc s121.1),(1,.box (Pack.enc false x86))]) (zBU a1 a2 s82 x86 s121) kn:=by
 refine jJ (fun g ih s121=>?_)
 unfold zBq
 refine J_g 238800 [] [(0,sl 8 (Pack.enc false) a1),(1,sl 1 zG a2),(5,rr 0 s121.1),(6,iv s82.2),(7,pp 1),(9,iv s121.2),(53,bv (decide (s121.2< (x86.Needs.length:Int))))] [(0,rE 3 zM.enc s121.1),(1,.box (Pack.enc false x86))] zB ?_
 refine zD 53 (fun h122=>?_) (fun h122=>?_)
 ·refine zA (fun x123 h124=>?_)
  refine zA (fun x125 h126=>?_)
  refine J_g 955208 [] [(0,sl 8 (Pack.enc false) a1),(1,sl 1 zG a2),(5,rr 0 s121.1),(6,iv s82.2),(7,pp 1),(9,iv s121.2),(64,bv (!x125))] [(0,rE 3 zM.enc s121.1),(1,.box (Pack.enc false x86))] (zC 5 (uN (kk:=.i64) 100 75 1 (eSl false 7 Term.enc) (.tmp 59) (.tmp 60) h124) (zC 7 (xO [(.tmp 56),(.tmp 57),(.tmp 62)] [30,39,75] (zE4.ok a1 a2 x123) h126) zB)) ?_
  refine wD (aft c93 477604) (fun v132:(List zM)=>St.mk' [(0,sl 8 (Pack.enc false) a1),(1,sl 1 zG a2),(5,rr 3 v132),(6,iv s82.2),(7,pp 1),(9,iv s121.2)] [(1,.box (Pack.enc false x86)),(3,rE 3 zM.enc v132)]) (fun v132=>?_) (fun jv132=>?_)
  ·refine J_g 238803 [] [(0,sl 8 (Pack.enc false) a1),(1,sl 1 zG a2),(5,rr 3 v132),(6,iv s82.2),(7,pp 1),(9,iv (w64 (s121.2+1)))] [(1,.box (Pack.enc false x86)),(3,rE 3 zM.enc v132)] zB ?_
   refine zCo 3 0 (Nat.le_of_ble_eq_true rfl) (Nat.le_of_ble_eq_true rfl) ?_
   exact J_q (J_b (ih (v132,w64 (s121.2+1)))) rfl
  ·refine zD 64 (fun h127=>?_) (fun h127=>?_)
   ·refine zA (fun x128 h129=>?_)
    refine zA (fun x130 h131=>?_)
    refine J_g 1910418 [] [(0,sl 8 (Pack.enc false) a1),(1,sl 1 zG a2),(5,rr 3 x130),(6,iv s82.2),(7,pp 1),(9,iv s121.2)] [(1,.box (Pack.enc false x86)),(3,rE 3 zM.enc x130)] (zC 3 (uN (kk:=.i64) 39 2 1 zG (.tmp 66) (.tmp 67) h129) (zC 7 (zFd 133 199 3 2 zM.enc [({Kind:=2,Pack:=x128,At:=s121.2}:zM)] [0] [(.tmp 71)] [.ag [iv 2,iv x128,iv s121.2]]) (zC 8 (zIJ 133 133 199 199 3 24 3 0 2 zM.enc (.tmp 65) (.tmp 72) h131) zB))) ?_
    exact xB (J_j (jv132 x130)) rfl
   ·refine zCo 0 3 (Nat.le_of_ble_eq_true rfl) (Nat.le_of_ble_eq_true rfl) ?_
    exact xB (J_j (jv132 s121.1)) rfl
 ·exact xB (hk s121.1) rfl
theorem zAy.ok (a1:(List Pack)) (a2:(List Int)) (s82:((List zM)×Int)) (x86:Pack) (q:Wd) (kn:(List zM)→Option (D×List Ent)) (hk:∀v:(List zM),J (q.g Tryz.prog 93 0 103) c93 (atI c93 3731) (St.mk' [(0,sl 8 (Pack.enc false) a1),(1,sl 1 zG a2),(5,rr 0 v),(6,iv s82.2),(7,pp 1)] [(0,rE 3 zM.enc v),(1,.box (Pack.enc false x86))]) (some v) kn):
  ∀s98:Int,J (q.g Tryz.prog 93 0 103) c93 (atI c93 29844) (St.mk' [(0,sl 8 (Pack.enc false) a1),(1,sl 1 zG a2),(5,rr 0 s82.1),(6,iv s82.2),(7,pp 1),(8,iv s98)] [(0,rE 3 zM.enc s82.1),(1,.box (Pack.enc false x86))]) (zAy a1 a2 s82 x86 s98) kn:=by
 refine jJ (fun g ih s98=>?_)
 unfold zBz
 refine J_g 119376 [] [(0,sl 8 (Pack.enc false) a1),(1,sl 1 zG a2),(5,rr 0 s82.1),(6,iv s82.2),(7,pp 1),(8,iv s98),(27,bv (decide (s98<s82.2)))] [(0,rE 3 zM.enc s82.1),(1,.box (Pack.enc false x86))] zB ?_
 refine zD 27 (fun h99=>?_) (fun h99=>?_)
 ·refine zA (fun x100 h101=>?_)
  refine zA (fun x102 h103=>?_)
  refine J_g 477512 [] [(0,sl 8 (Pack.enc false) a1),(1,sl 1 zG a2),(5,rr 0 s82.1),(6,iv s82.2),(7,pp 1),(8,iv s98),(40,bv (seq x102.Name x86.Name))] [(0,rE 3 zM.enc s82.1),(1,.box (Pack.enc false x86))] (zC 3 (uN (kk:=.i64) 39 2 1 zG (.tmp 31) (.tmp 32) h101) (zC 5 (uN (kk:=.i64) 30 102 8 (Pack.enc false) (.tmp 30) (.tmp 34) h103) zB)) ?_
  refine zD 40 (fun h104=>?_) (fun h104=>?_)
  ·refine zA (fun x105 h106=>?_)
   refine zA (fun x107 h108=>?_)
   refine J_g 1910052 [] [(0,sl 8 (Pack.enc false) a1),(1,sl 1 zG a2),(5,rr 3 x107),(6,iv s82.2),(7,pp 1)] [(1,.box (Pack.enc false x86)),(3,rE 3 zM.enc x107)] (zC 3 (uN (kk:=.i64) 39 2 1 zG (.tmp 42) (.tmp 43) h106) (zC 6 (zFd 133 199 3 2 zM.enc [({Kind:=1,Pack:=x105,At:=0}:zM)] [0] [(.tmp 46)] [.ag [iv 1,iv x105,iv 0]]) (zC 7 (zIJ 133 133 199 199 3 24 3 0 2 zM.enc (.tmp 41) (.tmp 47) h108) zB))) ?_
   refine zCo 3 0 (Nat.le_of_ble_eq_true rfl) (Nat.le_of_ble_eq_true rfl) ?_
   exact xB (hk x107) rfl
  ·refine J_g 119379 [] [(0,sl 8 (Pack.enc false) a1),(1,sl 1 zG a2),(5,rr 0 s82.1),(6,iv s82.2),(7,pp 1),(8,iv (w64 (s98+1)))] [(0,rE 3 zM.enc s82.1),(1,.box (Pack.enc false x86))] zB ?_
   exact J_q (J_b (ih (w64 (s98+1)))) rfl
 ·exact xB (hk s82.1) rfl
theorem zBS.ok (a1:(List Pack)) (a2:(List Int)) (q:Wd) (kn:(List zM)→Option (D×List Ent)) (hk:∀v:(List zM),J (q.g Tryz.prog 93 0 103) c93 (atI c93 15) (St.mk' [(5,rr 0 v)] [(0,rE 3 zM.enc v)]) (some v) kn):
  ∀s82:((List zM)×Int),J (q.g Tryz.prog 93 0 103) c93 (atI c93 116) (St.mk' [(0,sl 8 (Pack.enc false) a1),(1,sl 1 zG a2),(5,rr 0 s82.1),(6,iv s82.2)] [(0,rE 3 zM.enc s82.1)]) (zBS a1 a2 s82) kn:=by
 refine jJ (fun g ih s82=>?_)
 unfold zBx
 refine J_g 464 [] [(0,sl 8 (Pack.enc false) a1),(1,sl 1 zG a2),(5,rr 0 s82.1),(6,iv s82.2),(15,bv (decide (s82.2< (a2.length:Int))))] [(0,rE 3 zM.enc s82.1)] zB ?_
 refine zD 15 (fun h83=>?_) (fun h83=>?_)
 ·refine zA (fun x84 h85=>?_)
  refine zA (fun x86 h87=>?_)
  refine J_g 1864 [(7,1)] [(0,sl 8 (Pack.enc false) a1),(1,sl 1 zG a2),(5,rr 0 s82.1),(6,iv s82.2),(7,pp 1)] [(0,rE 3 zM.enc s82.1),(1,.box (Pack.enc false x86))] (zC 3 (uN (kk:=.i64) 39 2 1 zG (.tmp 19) (.tmp 20) h85) (zC 5 (uN (kk:=.i64) 30 102 8 (Pack.enc false) (.tmp 18) (.tmp 22) h87) zB)) ?_
  refine J_g 7460 [] [(0,sl 8 (Pack.enc false) a1),(1,sl 1 zG a2),(5,rr 0 s82.1),(6,iv s82.2),(7,pp 1),(8,iv 0)] [(0,rE 3 zM.enc s82.1),(1,.box (Pack.enc false x86))] zB ?_
  refine zFl (zAy.ok a1 a2 s82 x86 q _ (fun v109=>J_j ?_) 0)
  refine J_g 14924 [] [(0,sl 8 (Pack.enc false) a1),(1,sl 1 zG a2),(5,rr 0 v109),(6,iv s82.2),(7,pp 1),(9,iv 0)] [(0,rE 3 zM.enc v109),(1,.box (Pack.enc false x86))] zB ?_
  refine zFl (zBU.ok a1 a2 s82 x86 q _ (fun v133=>J_j ?_) (v109,0))
  refine J_g 14926 [] [(0,sl 8 (Pack.enc false) a1),(1,sl 1 zG a2),(5,rr 0 v133),(6,iv s82.2),(7,pp 1),(10,iv 0)] [(0,rE 3 zM.enc v133),(1,.box (Pack.enc false x86))] zB ?_
  refine zFl (zBW.ok a1 a2 s82 x86 q _ (fun v161=>J_j ?_) (v133,0))
  refine J_g 467 [] [(0,sl 8 (Pack.enc false) a1),(1,sl 1 zG a2),(5,rr 0 v161),(6,iv (w64 (s82.2+1)))] [(0,rE 3 zM.enc v161)] zB ?_
  exact J_q (J_b (ih (v161,w64 (s82.2+1)))) rfl
 ·exact xB (hk s82.1) rfl
theorem zB2.ok (a1:(List Pack)) (a2:(List Int)):Ok Tryz.prog 93 [sl 8 (Pack.enc false) a1,sl 1 zG a2] [] ((zB2 a1 a2).map fun r=>(so 3 zM.enc r,[])):=by
 refine zH c93 Tryz.f93 0 103 (fun q=>?_)
 unfold zB2
 refine J_g 2 [] [(0,sl 8 (Pack.enc false) a1),(1,sl 1 zG a2)] [] zB ?_
 refine J_g 6 [] [(0,sl 8 (Pack.enc false) a1),(1,sl 1 zG a2),(5,rr 0 ([]:List zM))] [(0,rE 3 zM.enc ([]:List zM))] (zC 0 (zFd 133 199 3 0 zM.enc ([]:List zM) [] [] []) zB) ?_
 refine J_g 28 [] [(0,sl 8 (Pack.enc false) a1),(1,sl 1 zG a2),(5,rr 0 ([]:List zM)),(6,iv 0)] [(0,rE 3 zM.enc ([]:List zM))] zB ?_
 refine zFl (zBS.ok a1 a2 q _ (fun v162=>J_j ?_) (([]:List zM),0))
 refine J_g 30 [] [(4,rr 0 v162)] [(0,rE 3 zM.enc v162)] zB ?_
 exact zD5 (ds:=[rr 0 v162]) (ds':=[so 3 zM.enc v162]) (.cons (.cell (.move (.head _) (List.length_map _) (by decide) (.nil))) (.nil) (by decide)) rfl
noncomputable def c44:Code:=(Tryz.f44.body).getD .skip
theorem zCN.ok (a1:(List Pack)) (a2:(List Int)):Ok Tryz.prog 44 [sl 8 (Pack.enc false) a1,sl 1 zG a2] [] ((zCN a1 a2).map fun r=>(bv r,[])):=by
 refine zH c44 Tryz.f44 0 10 (fun q=>?_)
 unfold zCN
 refine J_g 2 [] [(0,sl 8 (Pack.enc false) a1),(1,sl 1 zG a2)] [] zB ?_
 refine zA (fun x3 h4=>?_)
 refine J_g 6 [] [(4,bv ((x3.length:Int)==0))] [] (zC 2 (uH («as»:=[sl 8 (Pack.enc false) a1,sl 1 zG a2]) [(.tmp 5),(.tmp 6)] [30,39] false [] [] (.cons (.same rfl) (.cons (.same rfl) (.nil))) (zB2.ok a1 a2) h4 (.own 0)) zB) ?_
 exact zR rfl
noncomputable def zSS:Code:=(Tryz.f169.body).getD .skip
theorem xS.ok (a1:Version):Ok Tryz.prog 169 [.ag (Version.enc a1)] [] ((xS a1).map fun r=>(sv r,[])):=by
 refine zH zSS Tryz.f169 0 19 (fun q=>?_)
 unfold xS
 refine J_g 2 [(0,0)] [(1,pp 0)] [(0,.box (Version.enc a1))] zB ?_
 refine zA (fun x2 h3=>?_)
 refine J_g 12 [] [(1,pp 0),(5,bv (x2 !=0))] [(0,.box (Version.enc a1))] (zC 1 (xO [(.tmp 3)] [99] (wB.ok a1) h3) zB) ?_
 refine zD 5 (fun h4=>?_) (fun h4=>?_)
 ·refine J_g 52 [] [(2,sv (bs []))] [] zB ?_
  exact zR rfl
 ·refine zA (fun x5 h6=>?_)
  refine zA (fun x7 h8=>?_)
  refine zA (fun x9 h10=>?_)
  refine zA (fun x11 h12=>?_)
  refine zA (fun x13 h14=>?_)
  refine zA (fun x15 h16=>?_)
  refine zA (fun x17 h18=>?_)
  refine J_g 14 [] [(2,sv x17)] [] (zC 2 (xO [(.tmp 7)] [2] (wU.ok a1.A) h6) (zC 3 (zD8 9 9 (.tmp 8) (.const (.string (bs [46]))) h8) (zC 6 (xO [(.tmp 11)] [2] (wU.ok a1.B) h10) (zC 7 (zD8 9 9 (.tmp 9) (.tmp 12) h12) (zC 8 (zD8 9 9 (.tmp 13) (.const (.string (bs [46]))) h14) (zC 11 (xO [(.tmp 16)] [2] (wU.ok a1.C) h16) (zC 12 (zD8 9 9 (.tmp 14) (.tmp 17) h18) zB))))))) ?_
  exact zR rfl
noncomputable def c94:Code:=(Tryz.f94.body).getD .skip
theorem zDZ.ok (a1:Pack):Ok Tryz.prog 94 [.ag (Pack.enc false a1)] [] ((zDZ a1).map fun r=>(sv r,[])):=by
 refine zH c94 Tryz.f94 0 11 (fun q=>?_)
 unfold zDZ
 refine J_g 2 [(0,0)] [(1,pp 0)] [(0,.box (Pack.enc false a1))] zB ?_
 refine zA (fun x2 h3=>?_)
 refine zA (fun x4 h5=>?_)
 refine zA (fun x6 h7=>?_)
 refine zA (fun x8 h9=>?_)
 refine J_g 6 [] [(2,sv x8)] [] (zC 2 (zD8 9 9 (.const (.string (bs [112,107,103,47]))) (.tmp 4) h3) (zC 3 (zD8 9 9 (.tmp 5) (.const (.string (bs [45]))) h5) (zC 6 (xO [(.tmp 8)] [99] (xS.ok a1.Version) h7) (zC 7 (zD8 9 9 (.tmp 6) (.tmp 9) h9) zB)))) ?_
 exact zR rfl
noncomputable def c96:Code:=(Tryz.f96.body).getD .skip
theorem zCx.ok (a1:Pack) (q:Wd) (kn:(List Int)→Option (D×List Ent)) (hk:∀v:(List Int),J (q.g Tryz.prog 96 0 50) c96 (atI c96 63) (St.mk' [(5,rr 1 v)] [(1,rE 1 eU8 v)]) (some v) kn):
  ∀s13:(Int×(List Int)×Int),J (q.g Tryz.prog 96 0 50) c96 (atI c96 500) (St.mk' [(1,pp 0),(3,iv s13.1),(5,rr 1 s13.2.1),(6,iv s13.2.2)] [(0,.box (Pack.enc false a1)),(1,rE 1 eU8 s13.2.1)]) (zCx a1 s13) kn:=by
 refine jJ (fun g ih s13=>?_)
 unfold zBL
 refine J_g 2000 [] [(1,pp 0),(3,iv s13.1),(5,rr 1 s13.2.1),(6,iv s13.2.2),(36,bv (decide (s13.2.2<a1.Size)))] [(0,.box (Pack.enc false a1)),(1,rE 1 eU8 s13.2.1)] zB ?_
 refine zD 36 (fun h14=>?_) (fun h14=>?_)
 ·refine J_g 8008 [] [(1,pp 0),(3,iv (s13.1.tmod 256)),(5,rr 1 s13.2.1),(6,iv s13.2.2)] [(0,.box (Pack.enc false a1)),(1,rE 1 eU8 s13.2.1)] zB ?_
  refine zA (fun x15 h16=>?_)
  refine J_g 16018 [] [(1,pp 0),(3,iv (s13.1.tmod 256)),(5,rr 3 x15),(6,iv s13.2.2)] [(0,.box (Pack.enc false a1)),(3,rE 1 eU8 x15)] (zC 3 (zFd 121 5 1 2 eU8 [IntKind.u8.wrap (s13.1.tmod 256)] [0] [(.tmp 43)] [uv (IntKind.u8.wrap (s13.1.tmod 256))]) (zC 4 (zIJ 121 121 5 5 1 1 3 1 2 eU8 (.tmp 41) (.tmp 44) h16) zB)) ?_
  refine J_g 16019 [] [(1,pp 0),(3,iv (w64 ((w64 (31*(s13.1.tmod 256)))+7))),(5,rr 3 x15),(6,iv s13.2.2)] [(0,.box (Pack.enc false a1)),(3,rE 1 eU8 x15)] zB ?_
  refine J_g 2003 [] [(1,pp 0),(3,iv (w64 ((w64 (31*(s13.1.tmod 256)))+7))),(5,rr 3 x15),(6,iv (w64 (s13.2.2+1)))] [(0,.box (Pack.enc false a1)),(3,rE 1 eU8 x15)] zB ?_
  refine zCo 3 1 (Nat.le_of_ble_eq_true rfl) (Nat.le_of_ble_eq_true rfl) ?_
  exact J_q (J_b (ih (w64 ((w64 (31*(s13.1.tmod 256)))+7),x15,w64 (s13.2.2+1)))) rfl
 ·exact xB (hk s13.2.1) rfl
theorem zDc.ok (a1:Pack) (q:Wd) (kn:Int→Option (D×List Ent)) (hk:∀v:Int,J (q.g Tryz.prog 96 0 50) c96 (atI c96 15) (St.mk' [(1,pp 0),(3,iv v)] [(0,.box (Pack.enc false a1))]) (some v) kn):
  ∀s5:(Int×Int),J (q.g Tryz.prog 96 0 50) c96 (atI c96 116) (St.mk' [(1,pp 0),(3,iv s5.1),(4,iv s5.2)] [(0,.box (Pack.enc false a1))]) (zDc a1 s5) kn:=by
 refine jJ (fun g ih s5=>?_)
 unfold zBZ
 refine J_g 464 [] [(1,pp 0),(3,iv s5.1),(4,iv s5.2),(22,bv (decide (s5.2< (a1.Name.size:Int))))] [(0,.box (Pack.enc false a1))] zB ?_
 refine zD 22 (fun h6=>?_) (fun h6=>?_)
 ·refine zA (fun x7 h8=>?_)
  refine J_g 932 [] [(1,pp 0),(3,iv (w64 (s5.1+(w64 (x7))))),(4,iv s5.2)] [(0,.box (Pack.enc false a1))] (zC 4 (zJr (kk:=.i64) 9 (.tmp 27) (.tmp 28) h8) zB) ?_
  refine J_g 467 [] [(1,pp 0),(3,iv (w64 (s5.1+(w64 (x7))))),(4,iv (w64 (s5.2+1)))] [(0,.box (Pack.enc false a1))] zB ?_
  exact J_q (J_b (ih (w64 (s5.1+(w64 (x7))),w64 (s5.2+1)))) rfl
 ·exact xB (hk s5.1) rfl
theorem zCz.ok (a1:Pack):Ok Tryz.prog 96 [.ag (Pack.enc false a1)] [] ((zCz a1).map fun r=>(so 1 eU8 r,[])):=by
 refine zH c96 Tryz.f96 0 50 (fun q=>?_)
 unfold zCz
 refine J_g 2 [(0,0)] [(1,pp 0)] [(0,.box (Pack.enc false a1))] zB ?_
 refine J_g 6 [] [(1,pp 0),(3,iv (w64 ((w64 (a1.Version.A+a1.Version.B))+a1.Version.C)))] [(0,.box (Pack.enc false a1))] zB ?_
 refine J_g 28 [] [(1,pp 0),(3,iv (w64 ((w64 (a1.Version.A+a1.Version.B))+a1.Version.C))),(4,iv 0)] [(0,.box (Pack.enc false a1))] zB ?_
 refine zFl (zDc.ok a1 q _ (fun v9=>J_j ?_) (w64 ((w64 (a1.Version.A+a1.Version.B))+a1.Version.C),0))
 refine J_g 30 [] [(1,pp 0),(3,iv v9),(5,rr 1 ([]:List Int))] [(0,.box (Pack.enc false a1)),(1,rE 1 eU8 ([]:List Int))] (zC 0 (zFd 121 5 1 1 eU8 ([]:List Int) [] [] []) zB) ?_
 refine J_g 124 [] [(1,pp 0),(3,iv v9),(5,rr 1 ([]:List Int)),(6,iv 0)] [(0,.box (Pack.enc false a1)),(1,rE 1 eU8 ([]:List Int))] zB ?_
 refine zFl (zCx.ok a1 q _ (fun v17=>J_j ?_) (v9,([]:List Int),0))
 refine J_g 126 [] [(2,rr 1 v17)] [(1,rE 1 eU8 v17)] zB ?_
 exact zD5 (ds:=[rr 1 v17]) (ds':=[so 1 eU8 v17]) (.cons (.cell (.move (.head _) (List.length_map _) (by decide) (.nil))) (.nil) (by decide)) rfl
noncomputable def c95:Code:=(Tryz.f95.body).getD .skip
theorem zE8.ok (a1:(List Int)) (a2:(List Int)):Ok Tryz.prog 95 [sl 1 eU8 a1,sl 1 eU8 a2] [] ((zE8 a1 a2).map fun r=>(bv r,[])):=by
 refine zH c95 Tryz.f95 0 10 (fun q=>?_)
 unfold zE8
 refine J_g 2 [] [(0,sl 1 eU8 a1),(1,sl 1 eU8 a2)] [] zB ?_
 refine J_g 6 [] [(4,bv (seq (b2s a1) (b2s a2)))] [] (zC 1 (zKx (xs:=a1) 121 9 5 (.tmp 5)) (zC 3 (zKx (xs:=a2) 121 9 5 (.tmp 7)) zB)) ?_
 exact zR rfl
noncomputable def c45:Code:=(Tryz.f45.body).getD .skip
theorem zBn.ok (a1:(List Pack)) (a2:zF) (a3:(List Int)) (q:Wd) (kn:(List Int)→Option (D×List Ent)) (hk:∀v:(List Int),J (q.g Tryz.prog 45 0 57) c45 (atI c45 15) (St.mk' [(7,rr 0 v)] [(0,rE 1 zG v)]) (some v) kn):
  ∀s31:((List Int)×Int),J (q.g Tryz.prog 45 0 57) c45 (atI c45 116) (St.mk' [(0,sl 8 (Pack.enc false) a1),(1,.pb [sl 2 (File.enc false) a2.Files,iv a2.Budget,iv a2.Writes,iv a2.Stop,bv a2.Down]),(2,sl 1 zG a3),(7,rr 0 s31.1),(8,iv s31.2)] [(0,rE 1 zG s31.1)]) (zBn a1 a2 a3 s31) kn:=by
 refine jJ (fun g ih s31=>?_)
 unfold zA2
 refine J_g 464 [] [(0,sl 8 (Pack.enc false) a1),(1,.pb [sl 2 (File.enc false) a2.Files,iv a2.Budget,iv a2.Writes,iv a2.Stop,bv a2.Down]),(2,sl 1 zG a3),(7,rr 0 s31.1),(8,iv s31.2),(14,bv (decide (s31.2< (a3.length:Int))))] [(0,rE 1 zG s31.1)] zB ?_
 refine zD 14 (fun h32=>?_) (fun h32=>?_)
 ·refine zA (fun x33 h34=>?_)
  refine zA (fun x35 h36=>?_)
  refine zA (fun x37 h38=>?_)
  refine zA (fun x39 h40=>?_)
  refine J_g 1864 [] [(0,sl 8 (Pack.enc false) a1),(1,.pb [sl 2 (File.enc false) a2.Files,iv a2.Budget,iv a2.Writes,iv a2.Stop,bv a2.Down]),(2,sl 1 zG a3),(7,rr 0 s31.1),(8,iv s31.2),(9,iv x39)] [(0,rE 1 zG s31.1)] (zC 4 (uN (kk:=.i64) 39 2 1 zG (.tmp 19) (.tmp 20) h34) (zC 6 (uN (kk:=.i64) 30 102 8 (Pack.enc false) (.tmp 18) (.tmp 22) h36) (zC 8 (xO [(.tmp 24)] [102] (zDZ.ok x35) h38) (zC 9 (uH («as»:=[.pb [sl 2 (File.enc false) a2.Files,iv a2.Budget,iv a2.Writes,iv a2.Stop,bv a2.Down],sv x37]) [(.tmp 17),(.tmp 25)] [72,9] false [] [] (.cons (.pb (.cons (.same rfl) (.cons (.same rfl) (.cons (.same rfl) (.cons (.same rfl) (.cons (.same rfl) (.nil))))))) (.cons (.same rfl) (.nil))) (wH.ok a2 x37) h40 (.same rfl rfl)) zB)))) ?_
  refine wD (atI c45 3731) (fun v52:Bool=>St.mk' [(0,sl 8 (Pack.enc false) a1),(1,.pb [sl 2 (File.enc false) a2.Files,iv a2.Budget,iv a2.Writes,iv a2.Stop,bv a2.Down]),(2,sl 1 zG a3),(7,rr 0 s31.1),(8,iv s31.2),(48,bv v52)] [(0,rE 1 zG s31.1)]) (fun v52=>?_) (fun jv52=>?_)
  ·refine wD (aft c45 932) (fun v58:(List Int)=>St.mk' [(0,sl 8 (Pack.enc false) a1),(1,.pb [sl 2 (File.enc false) a2.Files,iv a2.Budget,iv a2.Writes,iv a2.Stop,bv a2.Down]),(2,sl 1 zG a3),(7,rr 2 v58),(8,iv s31.2)] [(2,rE 1 zG v58)]) (fun v58=>?_) (fun jv58=>?_)
   ·refine J_g 467 [] [(0,sl 8 (Pack.enc false) a1),(1,.pb [sl 2 (File.enc false) a2.Files,iv a2.Budget,iv a2.Writes,iv a2.Stop,bv a2.Down]),(2,sl 1 zG a3),(7,rr 2 v58),(8,iv (w64 (s31.2+1)))] [(2,rE 1 zG v58)] zB ?_
    refine zCo 2 0 (Nat.le_of_ble_eq_true rfl) (Nat.le_of_ble_eq_true rfl) ?_
    exact J_q (J_b (ih (v58,w64 (s31.2+1)))) rfl
   ·refine zD 48 (fun h53=>?_) (fun h53=>?_)
    ·refine zA (fun x54 h55=>?_)
     refine zA (fun x56 h57=>?_)
     refine J_g 7462 [] [(0,sl 8 (Pack.enc false) a1),(1,.pb [sl 2 (File.enc false) a2.Files,iv a2.Budget,iv a2.Writes,iv a2.Stop,bv a2.Down]),(2,sl 1 zG a3),(7,rr 2 x56),(8,iv s31.2)] [(2,rE 1 zG x56)] (zC 3 (uN (kk:=.i64) 39 2 1 zG (.tmp 50) (.tmp 51) h55) (zC 5 (zFd 39 2 1 1 zG [x54] [0] [(.tmp 53)] [iv x54]) (zC 6 (zIJ 39 39 2 2 1 8 2 0 1 zG (.tmp 49) (.tmp 54) h57) zB))) ?_
     exact xB (J_j (jv58 x56)) rfl
    ·refine zCo 0 2 (Nat.le_of_ble_eq_true rfl) (Nat.le_of_ble_eq_true rfl) ?_
     exact xB (J_j (jv58 s31.1)) rfl
  ·refine wN (fun h41=>?_) (fun h41=>?_)
   ·refine J_g 3730 [] [(0,sl 8 (Pack.enc false) a1),(1,.pb [sl 2 (File.enc false) a2.Files,iv a2.Budget,iv a2.Writes,iv a2.Stop,bv a2.Down]),(2,sl 1 zG a3),(7,rr 0 s31.1),(8,iv s31.2),(48,bv true)] [(0,rE 1 zG s31.1)] (wF 2 [(28,bv (decide (x39<0)))] [] h41 zB) ?_
    exact xB (J_j (jv52 true)) rfl
   ·refine zA (fun x42 h43=>?_)
    refine zA (fun x44 h45=>?_)
    refine zA (fun x46 h47=>?_)
    refine zA (fun x48 h49=>?_)
    refine zA (fun x50 h51=>?_)
    refine J_g 3730 [] [(0,sl 8 (Pack.enc false) a1),(1,.pb [sl 2 (File.enc false) a2.Files,iv a2.Budget,iv a2.Writes,iv a2.Stop,bv a2.Down]),(2,sl 1 zG a3),(7,rr 0 s31.1),(8,iv s31.2),(48,bv (!x50))] [(0,rE 1 zG s31.1)] (wF 2 [(28,bv (decide (x39<0)))] [] h41 (zAR 4 2 29 false (zFC (.tmp 30) [sl 2 (File.enc false) a2.Files,iv a2.Budget,iv a2.Writes,iv a2.Stop,bv a2.Down]) (zAR 5 2 29 false (zEi 33 (.tmp 31) 0 0 1 [sl 2 (File.enc false) a2.Files,iv a2.Budget,iv a2.Writes,iv a2.Stop,bv a2.Down]) (zAR 6 2 29 false (zE3 (d:=sl 2 (File.enc false) a2.Files) 31 (.tmp 32) [sl 2 (File.enc false) a2.Files]) (zAR 8 2 29 false (uN (kk:=.i64) 31 138 2 (File.enc false) (.tmp 33) (.tmp 34) h43) (zAR 14 2 29 false (uN (kk:=.i64) 39 2 1 zG (.tmp 39) (.tmp 40) h45) (zAR 16 2 29 false (uN (kk:=.i64) 30 102 8 (Pack.enc false) (.tmp 38) (.tmp 42) h47) (zAR 18 2 29 false (uH («as»:=[.ag (Pack.enc false x46)]) [(.tmp 44)] [102] false [] [] (.cons (.same rfl) (.nil)) (zCz.ok x46) h49 (.own 1)) (zAR 19 2 29 false (uH («as»:=[sl 1 eU8 x42.Data,rr 1 x48]) [(.tmp 37),(.tmp 45)] [121,121] true [(1,rE 1 eU8 x48)] [] (.cons (.same rfl) (.cons (zF1 (.head _) (fun _=>rfl) rfl) (.nil))) (zE8.ok x42.Data x48) h51 (.same rfl rfl) (hbor:=fun _=>⟨fhN,yB⟩)) zB))))))))) ?_
    exact xB (J_j (jv52 (!x50))) rfl
 ·exact xB (hk s31.1) rfl
theorem zAW.ok (a1:(List Pack)) (a2:zF) (a3:(List Int)):Ok Tryz.prog 45 [sl 8 (Pack.enc false) a1,.pb [sl 2 (File.enc false) a2.Files,iv a2.Budget,iv a2.Writes,iv a2.Stop,bv a2.Down],sl 1 zG a3] [] ((zAW a1 a2 a3).map fun r=>(so 1 zG r,[])):=by
 refine zH c45 Tryz.f45 0 57 (fun q=>?_)
 unfold zAW
 refine J_g 2 [] [(0,sl 8 (Pack.enc false) a1),(1,.pb [sl 2 (File.enc false) a2.Files,iv a2.Budget,iv a2.Writes,iv a2.Stop,bv a2.Down]),(2,sl 1 zG a3)] [] zB ?_
 refine J_g 6 [] [(0,sl 8 (Pack.enc false) a1),(1,.pb [sl 2 (File.enc false) a2.Files,iv a2.Budget,iv a2.Writes,iv a2.Stop,bv a2.Down]),(2,sl 1 zG a3),(7,rr 0 ([]:List Int))] [(0,rE 1 zG ([]:List Int))] (zC 0 (zFd 39 2 1 0 zG ([]:List Int) [] [] []) zB) ?_
 refine J_g 28 [] [(0,sl 8 (Pack.enc false) a1),(1,.pb [sl 2 (File.enc false) a2.Files,iv a2.Budget,iv a2.Writes,iv a2.Stop,bv a2.Down]),(2,sl 1 zG a3),(7,rr 0 ([]:List Int)),(8,iv 0)] [(0,rE 1 zG ([]:List Int))] zB ?_
 refine zFl (zBn.ok a1 a2 a3 q _ (fun v59=>J_j ?_) (([]:List Int),0))
 refine J_g 30 [] [(6,rr 0 v59)] [(0,rE 1 zG v59)] zB ?_
 exact zD5 (ds:=[rr 0 v59]) (ds':=[so 1 zG v59]) (.cons (.cell (.move (.head _) (List.length_map _) (by decide) (.nil))) (.nil) (by decide)) rfl
noncomputable def zTb:Code:=(Tryz.f237.body).getD .skip
theorem zEo.ok (a1:ByteArray):Ok Tryz.prog 237 [sv a1] [] ((zEo a1).map fun r=>(.ag (Term.enc r),[])):=by
 refine zH zTb Tryz.f237 0 6 (fun q=>?_)
 unfold zEo
 refine J_g 2 [(0,0)] [(0,sv a1),(2,pp 0)] [(0,.box [sv ByteArray.empty,iv 0,iv 0,iv 0,iv 0,iv 0,iv 0])] zB ?_
 refine zA (fun x2 h3=>?_)
 refine J_g 6 [] [(2,pp 0)] [(0,.box [sv a1,iv 0,iv 0,iv 0,iv x2.A,iv x2.B,iv x2.C])] (zC 1 (xO [] [] (kP.ok) h3) zB) ?_
 exact zR rfl
noncomputable def c171:Code:=(Tryz.f171.body).getD .skip
theorem kT.ok (x20:Term) (x25:ByteArray) (q:Wd) (kn:Int→Option (D×List Ent)) (hk:∀v:Int,J (q.g Tryz.prog 171 0 97) c171 (atI c171 1023) (St.mk' [(2,pp 0),(4,pp 1),(5,sv x25),(7,iv v)] [(0,.box [iv 0,sv ByteArray.empty,iv 0,iv 0,iv 0,iv 0,iv 0,iv 0]),(1,.box (Term.enc x20))]) (some v) kn):
  ∀s32:Int,J (q.g Tryz.prog 171 0 97) c171 (atI c171 4088) (St.mk' [(2,pp 0),(4,pp 1),(5,sv x25),(7,iv s32)] [(0,.box [iv 0,sv ByteArray.empty,iv 0,iv 0,iv 0,iv 0,iv 0,iv 0]),(1,.box (Term.enc x20))]) (kT x20 x25 s32) kn:=by
 refine jJ (fun g ih s32=>?_)
 unfold zCj
 refine wD (atI c171 16353) (fun v36:Bool=>St.mk' [(2,pp 0),(4,pp 1),(5,sv x25),(7,iv s32),(45,bv v36)] [(0,.box [iv 0,sv ByteArray.empty,iv 0,iv 0,iv 0,iv 0,iv 0,iv 0]),(1,.box (Term.enc x20))]) (fun v36=>?_) (fun jv36=>?_)
 ·refine zD 45 (fun h37=>?_) (fun h37=>?_)
  ·refine J_g 16354 [] [(2,pp 0),(4,pp 1),(5,sv x25),(7,iv (w64 (s32+1)))] [(0,.box [iv 0,sv ByteArray.empty,iv 0,iv 0,iv 0,iv 0,iv 0,iv 0]),(1,.box (Term.enc x20))] zB ?_
   exact J_q (J_b (ih (w64 (s32+1)))) rfl
  ·exact xB (hk s32) rfl
 ·refine wN (fun h33=>?_) (fun h33=>?_)
  ·refine zA (fun x34 h35=>?_)
   refine J_g 16352 [] [(2,pp 0),(4,pp 1),(5,sv x25),(7,iv s32),(45,bv (x34 !=60))] [(0,.box [iv 0,sv ByteArray.empty,iv 0,iv 0,iv 0,iv 0,iv 0,iv 0]),(1,.box (Term.enc x20))] (wF 4 [(39,bv (decide (s32< (x25.size:Int))))] [] h33 (zAR 7 4 40 true (zJr (kk:=.i64) 9 (.tmp 41) (.tmp 42) h35) zB)) ?_
   exact xB (J_j (jv36 (x34 !=60))) rfl
  ·refine J_g 16352 [] [(2,pp 0),(4,pp 1),(5,sv x25),(7,iv s32),(45,bv false)] [(0,.box [iv 0,sv ByteArray.empty,iv 0,iv 0,iv 0,iv 0,iv 0,iv 0]),(1,.box (Term.enc x20))] (wF 4 [(39,bv (decide (s32< (x25.size:Int))))] [] h33 zB) ?_
   exact xB (J_j (jv36 false)) rfl
theorem kG.ok (a1:ByteArray) (q:Wd) (kn:Int→Option (D×List Ent)) (hk:∀v:Int,J (q.g Tryz.prog 171 0 97) c171 (atI c171 15) (St.mk' [(0,sv a1),(2,pp 0),(3,iv v)] [(0,.box [iv 0,sv ByteArray.empty,iv 0,iv 0,iv 0,iv 0,iv 0,iv 0])]) (some v) kn):
  ∀s9:Int,J (q.g Tryz.prog 171 0 97) c171 (atI c171 56) (St.mk' [(0,sv a1),(2,pp 0),(3,iv s9)] [(0,.box [iv 0,sv ByteArray.empty,iv 0,iv 0,iv 0,iv 0,iv 0,iv 0])]) (kG a1 s9) kn:=by
 refine jJ (fun g ih s9=>?_)
 unfold zCh
 refine wD (atI c171 225) (fun v15:Bool=>St.mk' [(0,sv a1),(2,pp 0),(3,iv s9),(21,bv v15)] [(0,.box [iv 0,sv ByteArray.empty,iv 0,iv 0,iv 0,iv 0,iv 0,iv 0])]) (fun v15=>?_) (fun jv15=>?_)
 ·refine zD 21 (fun h16=>?_) (fun h16=>?_)
  ·refine J_g 226 [] [(0,sv a1),(2,pp 0),(3,iv (w64 (s9+1)))] [(0,.box [iv 0,sv ByteArray.empty,iv 0,iv 0,iv 0,iv 0,iv 0,iv 0])] zB ?_
   exact J_q (J_b (ih (w64 (s9+1)))) rfl
  ·exact xB (hk s9) rfl
 ·refine wN (fun h10=>?_) (fun h10=>?_)
  ·refine zA (fun x11 h12=>?_)
   refine zA (fun x13 h14=>?_)
   refine J_g 224 [] [(0,sv a1),(2,pp 0),(3,iv s9),(21,bv x13)] [(0,.box [iv 0,sv ByteArray.empty,iv 0,iv 0,iv 0,iv 0,iv 0,iv 0])] (wF 4 [(15,bv (decide (s9< (a1.size:Int))))] [] h10 (zAR 7 4 16 true (zJr (kk:=.i64) 9 (.tmp 17) (.tmp 18) h12) (zAR 8 4 16 true (xO [(.tmp 19)] [5] (vG.ok x11) h14) zB))) ?_
   exact xB (J_j (jv15 x13)) rfl
  ·refine J_g 224 [] [(0,sv a1),(2,pp 0),(3,iv s9),(21,bv false)] [(0,.box [iv 0,sv ByteArray.empty,iv 0,iv 0,iv 0,iv 0,iv 0,iv 0])] (wF 4 [(15,bv (decide (s9< (a1.size:Int))))] [] h10 zB) ?_
   exact xB (J_j (jv15 false)) rfl
theorem zBe.ok (a1:ByteArray):Ok Tryz.prog 171 [sv a1] [] ((zBe a1).map fun r=>(.ag (yK.enc r),[])):=by
 refine zH c171 Tryz.f171 0 97 (fun q=>?_)
 unfold zBe
 refine J_g 2 [(0,0)] [(0,sv a1),(2,pp 0)] [(0,.box [iv 0,sv ByteArray.empty,iv 0,iv 0,iv 0,iv 0,iv 0,iv 0])] zB ?_
 refine J_g 6 [] [(0,sv a1),(2,pp 0),(3,iv 0)] [(0,.box [iv 0,sv ByteArray.empty,iv 0,iv 0,iv 0,iv 0,iv 0,iv 0])] zB ?_
 refine zFl (kG.ok a1 q _ (fun v17=>J_j ?_) 0)
 refine zA (fun x18 h19=>?_)
 refine zA (fun x20 h21=>?_)
 refine J_g 30 [(4,1)] [(0,sv a1),(2,pp 0),(3,iv v17),(4,pp 1)] [(0,.box [iv 0,sv ByteArray.empty,iv 0,iv 0,iv 0,iv 0,iv 0,iv 0]),(1,.box (Term.enc x20))] (zC 2 (zKW 9 (.tmp 24) none (some (.tmp 25)) h19) (zC 3 (xO [(.tmp 26)] [9] (zEo.ok x18) h21) zB)) ?_
 refine zA (fun x22 h23=>?_)
 refine J_g 124 [] [(0,sv a1),(2,pp 0),(3,iv v17),(4,pp 1),(31,bv (x22 !=0))] [(0,.box [iv 0,sv ByteArray.empty,iv 0,iv 0,iv 0,iv 0,iv 0,iv 0]),(1,.box (Term.enc x20))] (zC 2 (xO [(.tmp 29)] [9] (wX.ok x20.Name) h23) zB) ?_
 refine zD 31 (fun h24=>?_) (fun h24=>?_)
 ·refine J_g 500 [] [(2,pp 0)] [(0,.box [iv 5,sv ByteArray.empty,iv 0,iv 0,iv 0,iv 0,iv 0,iv 0])] zB ?_
  exact zR rfl
 ·refine zA (fun x25 h26=>?_)
  refine J_g 126 [] [(2,pp 0),(4,pp 1),(5,sv x25)] [(0,.box [iv 0,sv ByteArray.empty,iv 0,iv 0,iv 0,iv 0,iv 0,iv 0]),(1,.box (Term.enc x20))] (zC 2 (zKW 9 (.tmp 33) (some (.tmp 34)) none h26) zB) ?_
  refine J_g 254 [] [(2,pp 0),(4,pp 1),(5,sv x25)] [(0,.box [iv 0,sv ByteArray.empty,iv 0,iv 0,iv 0,iv 0,iv 0,iv 0]),(1,.box (Term.enc x20))] zB ?_
  refine J_g 510 [] [(2,pp 0),(4,pp 1),(5,sv x25),(7,iv 0)] [(0,.box [iv 0,sv ByteArray.empty,iv 0,iv 0,iv 0,iv 0,iv 0,iv 0]),(1,.box (Term.enc x20))] zB ?_
  refine zFl (kT.ok x20 x25 q _ (fun v38=>J_j ?_) 0)
  refine J_g 4092 [] [(2,pp 0),(4,pp 1),(5,sv x25),(7,iv v38),(51,bv (decide (v38< (x25.size:Int))))] [(0,.box [iv 0,sv ByteArray.empty,iv 0,iv 0,iv 0,iv 0,iv 0,iv 0]),(1,.box (Term.enc x20))] zB ?_
  refine zJI (atI c171 2047) (fun v45:(Int×Int×Int)=>St.mk' [(2,pp 0),(4,pp 1),(5,sv x25),(7,iv v38)] [(0,.box [iv 0,sv ByteArray.empty,iv 0,iv 0,iv 0,iv 0,iv 0,iv 0]),(1,.box [sv x20.Name,iv x20.Low.A,iv x20.Low.B,iv x20.Low.C,iv v45.1,iv v45.2.1,iv v45.2.2])]) (fun v45=>?_) (fun jv45=>?_)
  ·refine zA (fun x46 h47=>?_)
   refine J_g 4094 [] [(2,pp 0),(4,pp 1),(9,sv x46)] [(0,.box [iv 0,sv ByteArray.empty,iv 0,iv 0,iv 0,iv 0,iv 0,iv 0]),(1,.box [sv x20.Name,iv x20.Low.A,iv x20.Low.B,iv x20.Low.C,iv v45.1,iv v45.2.1,iv v45.2.2])] (zC 2 (zKW 9 (.tmp 65) none (some (.tmp 66)) h47) zB) ?_
   refine J_g 16380 [] [(2,pp 0),(4,pp 1),(9,sv x46),(69,bv (!(seq x46 (bs []))))] [(0,.box [iv 0,sv ByteArray.empty,iv 0,iv 0,iv 0,iv 0,iv 0,iv 0]),(1,.box [sv x20.Name,iv x20.Low.A,iv x20.Low.B,iv x20.Low.C,iv v45.1,iv v45.2.1,iv v45.2.2])] zB ?_
   refine zJI (atI c171 8191) (fun v59:(Int×Int×Int)=>St.mk' [(2,pp 0),(4,pp 1)] [(0,.box [iv 0,sv ByteArray.empty,iv 0,iv 0,iv 0,iv 0,iv 0,iv 0]),(1,.box [sv x20.Name,iv v59.1,iv v59.2.1,iv v59.2.2,iv v45.1,iv v45.2.1,iv v45.2.2])]) (fun v59=>?_) (fun jv59=>?_)
   ·refine zA (fun x60 h61=>?_)
    refine J_g 32764 [] [(2,pp 0),(4,pp 1),(11,iv x60)] [(0,.box [iv 0,sv ByteArray.empty,iv 0,iv 0,iv 0,iv 0,iv 0,iv 0]),(1,.box [sv x20.Name,iv v59.1,iv v59.2.1,iv v59.2.2,iv v45.1,iv v45.2.1,iv v45.2.2])] (zC 1 (xO [(.tmp 89)] [149] (vM.ok ({Name:=x20.Name,Low:=({A:=v59.1,B:=v59.2.1,C:=v59.2.2}:Version),High:=({A:=v45.1,B:=v45.2.1,C:=v45.2.2}:Version)}:Term)) h61) zB) ?_
    refine J_g 65530 [] [(2,pp 0),(4,pp 1),(11,iv x60),(92,bv (x60 !=0))] [(0,.box [iv 0,sv ByteArray.empty,iv 0,iv 0,iv 0,iv 0,iv 0,iv 0]),(1,.box [sv x20.Name,iv v59.1,iv v59.2.1,iv v59.2.2,iv v45.1,iv v45.2.1,iv v45.2.2])] zB ?_
    refine zD 92 (fun h62=>?_) (fun h62=>?_)
    ·refine J_g 262124 [] [(2,pp 0)] [(0,.box [iv x60,sv ByteArray.empty,iv 0,iv 0,iv 0,iv 0,iv 0,iv 0])] zB ?_
     exact zR rfl
    ·refine J_g 32766 [] [(2,pp 0)] [(0,.box [iv 0,sv x20.Name,iv v59.1,iv v59.2.1,iv v59.2.2,iv v45.1,iv v45.2.1,iv v45.2.2])] zB ?_
     exact zR rfl
   ·refine zD 69 (fun h48=>?_) (fun h48=>?_)
    ·refine wD (atI c171 131049) (fun v52:Bool=>St.mk' [(2,pp 0),(4,pp 1),(9,sv x46),(77,bv v52)] [(0,.box [iv 0,sv ByteArray.empty,iv 0,iv 0,iv 0,iv 0,iv 0,iv 0]),(1,.box [sv x20.Name,iv x20.Low.A,iv x20.Low.B,iv x20.Low.C,iv v45.1,iv v45.2.1,iv v45.2.2])]) (fun v52=>?_) (fun jv52=>?_)
     ·refine zD 77 (fun h53=>?_) (fun h53=>?_)
      ·refine J_g 524196 [] [(2,pp 0)] [(0,.box [iv 5,sv ByteArray.empty,iv 0,iv 0,iv 0,iv 0,iv 0,iv 0])] zB ?_
       exact zR rfl
      ·refine zA (fun x54 h55=>?_)
       refine zA (fun x56 h57=>?_)
       refine J_g 131050 [(3,2)] [(2,pp 0),(4,pp 1),(10,pp 2)] [(0,.box [iv 0,sv ByteArray.empty,iv 0,iv 0,iv 0,iv 0,iv 0,iv 0]),(1,.box [sv x20.Name,iv x20.Low.A,iv x20.Low.B,iv x20.Low.C,iv v45.1,iv v45.2.1,iv v45.2.2]),(2,.box (zL.enc x56))] (zC 1 (zKW 9 (.tmp 79) (some (.const (.int .i64 2))) none h55) (zC 2 (xO [(.tmp 80)] [9] (xU.ok x54) h57) zB)) ?_
       refine J_g 524204 [] [(2,pp 0),(4,pp 1),(10,pp 2),(84,bv (x56.Code !=0))] [(0,.box [iv 0,sv ByteArray.empty,iv 0,iv 0,iv 0,iv 0,iv 0,iv 0]),(1,.box [sv x20.Name,iv x20.Low.A,iv x20.Low.B,iv x20.Low.C,iv v45.1,iv v45.2.1,iv v45.2.2]),(2,.box (zL.enc x56))] zB ?_
       refine zD 84 (fun h58=>?_) (fun h58=>?_)
       ·refine J_g 2096820 [] [(2,pp 0)] [(0,.box [iv 5,sv ByteArray.empty,iv 0,iv 0,iv 0,iv 0,iv 0,iv 0])] zB ?_
        exact zR rfl
       ·refine J_g 262103 [] [(2,pp 0),(4,pp 1)] [(0,.box [iv 0,sv ByteArray.empty,iv 0,iv 0,iv 0,iv 0,iv 0,iv 0]),(1,.box [sv x20.Name,iv x56.Version.A,iv x56.Version.B,iv x56.Version.C,iv v45.1,iv v45.2.1,iv v45.2.2])] zB ?_
        exact xB (J_j (jv59 (x56.Version.A,x56.Version.B,x56.Version.C))) rfl
     ·refine wN (fun h49=>?_) (fun h49=>?_)
      ·refine J_g 131048 [] [(2,pp 0),(4,pp 1),(9,sv x46),(77,bv true)] [(0,.box [iv 0,sv ByteArray.empty,iv 0,iv 0,iv 0,iv 0,iv 0,iv 0]),(1,.box [sv x20.Name,iv x20.Low.A,iv x20.Low.B,iv x20.Low.C,iv v45.1,iv v45.2.1,iv v45.2.2])] (wF 3 [(72,bv (decide ((x46.size:Int)<2)))] [] h49 zB) ?_
       exact xB (J_j (jv52 true)) rfl
      ·refine zA (fun x50 h51=>?_)
       refine J_g 131048 [] [(2,pp 0),(4,pp 1),(9,sv x46),(77,bv (!(seq x50 (bs [62,61]))))] [(0,.box [iv 0,sv ByteArray.empty,iv 0,iv 0,iv 0,iv 0,iv 0,iv 0]),(1,.box [sv x20.Name,iv x20.Low.A,iv x20.Low.B,iv x20.Low.C,iv v45.1,iv v45.2.1,iv v45.2.2])] (wF 3 [(72,bv (decide ((x46.size:Int)<2)))] [] h49 (zAR 5 3 73 false (zKW 9 (.tmp 74) none (some (.const (.int .i64 2))) h51) zB)) ?_
       exact xB (J_j (jv52 (!(seq x50 (bs [62,61]))))) rfl
    ·exact xB (J_j (jv59 (x20.Low.A,x20.Low.B,x20.Low.C))) rfl
  ·refine zD 51 (fun h39=>?_) (fun h39=>?_)
   ·refine zA (fun x40 h41=>?_)
    refine J_g 16372 [] [(2,pp 0),(4,pp 1),(5,sv x25),(6,sv x40),(7,iv v38)] [(0,.box [iv 0,sv ByteArray.empty,iv 0,iv 0,iv 0,iv 0,iv 0,iv 0]),(1,.box (Term.enc x20))] (zC 3 (zKW 9 (.tmp 52) (some (.tmp 54)) none h41) zB) ?_
    refine zA (fun x42 h43=>?_)
    refine J_g 32746 [(2,2)] [(2,pp 0),(4,pp 1),(5,sv x25),(7,iv v38),(8,pp 2)] [(0,.box [iv 0,sv ByteArray.empty,iv 0,iv 0,iv 0,iv 0,iv 0,iv 0]),(1,.box (Term.enc x20)),(2,.box (zL.enc x42))] (zC 1 (xO [(.tmp 56)] [9] (xU.ok x40) h43) zB) ?_
    refine J_g 130988 [] [(2,pp 0),(4,pp 1),(5,sv x25),(7,iv v38),(8,pp 2),(60,bv (x42.Code !=0))] [(0,.box [iv 0,sv ByteArray.empty,iv 0,iv 0,iv 0,iv 0,iv 0,iv 0]),(1,.box (Term.enc x20)),(2,.box (zL.enc x42))] zB ?_
    refine zD 60 (fun h44=>?_) (fun h44=>?_)
    ·refine J_g 523956 [] [(2,pp 0)] [(0,.box [iv 5,sv ByteArray.empty,iv 0,iv 0,iv 0,iv 0,iv 0,iv 0])] zB ?_
     exact zR rfl
    ·refine J_g 65495 [] [(2,pp 0),(4,pp 1),(5,sv x25),(7,iv v38)] [(0,.box [iv 0,sv ByteArray.empty,iv 0,iv 0,iv 0,iv 0,iv 0,iv 0]),(1,.box [sv x20.Name,iv x20.Low.A,iv x20.Low.B,iv x20.Low.C,iv x42.Version.A,iv x42.Version.B,iv x42.Version.C])] zB ?_
     exact xB (J_j (jv45 (x42.Version.A,x42.Version.B,x42.Version.C))) rfl
   ·exact xB (J_j (jv45 (x20.High.A,x20.High.B,x20.High.C))) rfl
noncomputable def zSh:Code:=(Tryz.f239.body).getD .skip
theorem zAe.ok (a1:Term):Ok Tryz.prog 239 [.ag (Term.enc a1)] [] ((zAe a1).map fun r=>(sv r,[])):=by
 refine zH zSh Tryz.f239 0 31 (fun q=>?_)
 unfold zAe
 refine J_g 2 [(0,0)] [(1,pp 0)] [(0,.box (Term.enc a1))] zB ?_
 refine zA (fun x2 h3=>?_)
 refine J_g 12 [] [(1,pp 0),(6,bv (x2 !=0))] [(0,.box (Term.enc a1))] (zC 1 (xO [(.tmp 4)] [149] (vM.ok a1) h3) zB) ?_
 refine zD 6 (fun h4=>?_) (fun h4=>?_)
 ·refine J_g 52 [] [(2,sv (bs []))] [] zB ?_
  exact zR rfl
 ·refine J_g 14 [] [(1,pp 0),(3,sv a1.Name)] [(0,.box (Term.enc a1))] zB ?_
  refine zA (fun x5 h6=>?_)
  refine J_g 60 [] [(1,pp 0),(3,sv a1.Name),(13,bv (x5 !=0))] [(0,.box (Term.enc a1))] (zC 3 (xO [(.tmp 10),(.tmp 11)] [99,99] (yF.ok a1.Low ({A:=0,B:=0,C:=0}:Version)) h6) zB) ?_
  refine wD (atI zSh 31) (fun v14:ByteArray=>St.mk' [(1,pp 0),(3,sv v14)] [(0,.box (Term.enc a1))]) (fun v14=>?_) (fun jv14=>?_)
  ·refine zA (fun x15 h16=>?_)
   refine J_g 124 [] [(1,pp 0),(3,sv v14),(23,bv (!(a1.High.A==x15.A&&(a1.High.B==x15.B&&(a1.High.C==x15.C&&true)))))] [(0,.box (Term.enc a1))] (zC 2 (xO [] [] (kP.ok) h16) (zC 3 (zKo (b:=.neq) (r:=(a1.High.A==x15.A&&(a1.High.B==x15.B&&(a1.High.C==x15.C&&true)))) 99 99 (.tmp 21) (.tmp 22) [.int .i64 a1.High.A,.int .i64 a1.High.B,.int .i64 a1.High.C] [.int .i64 x15.A,.int .i64 x15.B,.int .i64 x15.C] (.inr ⟨rfl,rfl⟩)) zB)) ?_
   refine wD (atI zSh 63) (fun v24:ByteArray=>St.mk' [(3,sv v24)] []) (fun v24=>?_) (fun jv24=>?_)
   ·refine J_g 126 [] [(2,sv v24)] [] zB ?_
    exact zR rfl
   ·refine zD 23 (fun h17=>?_) (fun h17=>?_)
    ·refine zA (fun x18 h19=>?_)
     refine zA (fun x20 h21=>?_)
     refine zA (fun x22 h23=>?_)
     refine J_g 250 [] [(3,sv x22)] [] (zC 1 (zD8 9 9 (.tmp 24) (.const (.string (bs [60]))) h19) (zC 4 (xO [(.tmp 27)] [99] (xS.ok a1.High) h21) (zC 5 (zD8 9 9 (.tmp 25) (.tmp 28) h23) zB))) ?_
     exact xB (J_j (jv24 x22)) rfl
    ·exact xB (J_j (jv24 v14)) rfl
  ·refine zD 13 (fun h7=>?_) (fun h7=>?_)
   ·refine zA (fun x8 h9=>?_)
    refine zA (fun x10 h11=>?_)
    refine zA (fun x12 h13=>?_)
    refine J_g 122 [] [(1,pp 0),(3,sv x12)] [(0,.box (Term.enc a1))] (zC 1 (zD8 9 9 (.tmp 14) (.const (.string (bs [62,61]))) h9) (zC 4 (xO [(.tmp 17)] [99] (xS.ok a1.Low) h11) (zC 5 (zD8 9 9 (.tmp 15) (.tmp 18) h13) zB))) ?_
    exact xB (J_j (jv14 x12)) rfl
   ·exact xB (J_j (jv14 a1.Name)) rfl
noncomputable def zQS:Code:=(Tryz.f172.body).getD .skip
theorem zDD.ok (a1:(List Term)) (q:Wd) (kn:ByteArray→Option (D×List Ent)) (hk:∀v:ByteArray,J (q.g Tryz.prog 172 0 20) zQS (atI zQS 15) (St.mk' [(3,sv v)] []) (some v) kn):
  ∀s11:(ByteArray×Int),J (q.g Tryz.prog 172 0 20) zQS (atI zQS 116) (St.mk' [(0,sl 7 Term.enc a1),(3,sv s11.1),(4,iv s11.2)] []) (zDD a1 s11) kn:=by
 refine jJ (fun g ih s11=>?_)
 unfold zDd
 refine J_g 464 [] [(0,sl 7 Term.enc a1),(3,sv s11.1),(4,iv s11.2),(8,bv (decide (s11.2< (a1.length:Int))))] [] zB ?_
 refine zD 8 (fun h12=>?_) (fun h12=>?_)
 ·refine zA (fun x13 h14=>?_)
  refine zA (fun x15 h16=>?_)
  refine zA (fun x17 h18=>?_)
  refine zA (fun x19 h20=>?_)
  refine J_g 932 [] [(0,sl 7 Term.enc a1),(3,sv x19),(4,iv s11.2)] [] (zC 3 (uN (kk:=.i64) 75 149 7 Term.enc (.tmp 12) (.tmp 13) h14) (zC 5 (xO [(.tmp 15)] [149] (zAe.ok x13) h16) (zC 6 (zD8 9 9 (.tmp 11) (.tmp 16) h18) (zC 7 (zD8 9 9 (.tmp 17) (.const (.string (bs [10]))) h20) zB)))) ?_
  refine J_g 467 [] [(0,sl 7 Term.enc a1),(3,sv x19),(4,iv (w64 (s11.2+1)))] [] zB ?_
  exact J_q (J_b (ih (x19,w64 (s11.2+1)))) rfl
 ·exact xB (hk s11.1) rfl
theorem zDY.ok (a1:(List Term)):Ok Tryz.prog 172 [sl 7 Term.enc a1] [] ((zDY a1).map fun r=>(sv r,[])):=by
 refine zH zQS Tryz.f172 0 20 (fun q=>?_)
 unfold zDY
 refine J_g 2 [] [(0,sl 7 Term.enc a1)] [] zB ?_
 refine J_g 6 [] [(0,sl 7 Term.enc a1),(3,sv (bs []))] [] zB ?_
 refine J_g 28 [] [(0,sl 7 Term.enc a1),(3,sv (bs [])),(4,iv 0)] [] zB ?_
 refine zFl (zDD.ok a1 q _ (fun v21=>J_j ?_) (bs [],0))
 refine J_g 30 [] [(2,sv v21)] [] zB ?_
 exact zR rfl
noncomputable def c97:Code:=(Tryz.f97.body).getD .skip
theorem zCE.ok (a1:ByteArray) (x2:(List ByteArray)) (s22:((List Term)×Int)) (x26:yK) (q:Wd) (kn:Unit→Option (D×List Ent)) (hk:∀v:Unit,J (q.g Tryz.prog 97 0 58) c97 (atI c97 15655) (St.mk' [(0,sv a1),(4,rr 0 x2),(5,rr 1 s22.1),(6,iv s22.2),(7,pp 2)] [(0,rE 1 eStr x2),(1,rE 7 Term.enc s22.1),(2,.box (yK.enc x26))]) (some v) kn):
  ∀s33:Int,J (q.g Tryz.prog 97 0 58) c97 (atI c97 125236) (St.mk' [(0,sv a1),(4,rr 0 x2),(5,rr 1 s22.1),(6,iv s22.2),(7,pp 2),(8,iv s33)] [(0,rE 1 eStr x2),(1,rE 7 Term.enc s22.1),(2,.box (yK.enc x26))]) (zCE a1 x2 s22 x26 s33) (Fl.go (fun r:((List Term)×Bool)=>some (.tu [so 7 Term.enc r.1,bv r.2],[])) kn):=by
 refine jJ (fun g ih s33=>?_)
 unfold zBR
 refine J_g 500944 [] [(0,sv a1),(4,rr 0 x2),(5,rr 1 s22.1),(6,iv s22.2),(7,pp 2),(8,iv s33),(30,bv (decide (s33< (s22.1.length:Int))))] [(0,rE 1 eStr x2),(1,rE 7 Term.enc s22.1),(2,.box (yK.enc x26))] zB ?_
 refine zD 30 (fun h34=>?_) (fun h34=>?_)
 ·refine zA (fun x35 h36=>?_)
  refine J_g 2003784 [] [(0,sv a1),(4,rr 0 x2),(5,rr 1 s22.1),(6,iv s22.2),(7,pp 2),(8,iv s33),(41,bv (seq x35.Name x26.Term.Name))] [(0,rE 1 eStr x2),(1,rE 7 Term.enc s22.1),(2,.box (yK.enc x26))] (zC 2 (kM (kk:=.i64) 75 149 7 1 Term.enc (.tmp 33) (.tmp 34) h36) (zC 4 (zED (d:=sv x35.Name) 9 7 1 0 Term.enc (.tmp 36) h36 (by kernel_rfl)) zB)) ?_
  refine zD 41 (fun h37=>?_) (fun h37=>?_)
  ·refine J_g 8015140 [] [(2,rr 1 s22.1),(3,bv false)] [(1,rE 7 Term.enc s22.1)] zB ?_
   exact zD5 (ds:=[rr 1 s22.1,bv false]) (ds':=[so 7 Term.enc s22.1,bv false]) (.cons (.cell (.move (.head _) (List.length_map _) (by decide) (.nil))) (.cons (.cell (.keep rfl (.nil))) (.nil) (by decide)) (by decide)) rfl
  ·refine J_g 500947 [] [(0,sv a1),(4,rr 0 x2),(5,rr 1 s22.1),(6,iv s22.2),(7,pp 2),(8,iv (w64 (s33+1)))] [(0,rE 1 eStr x2),(1,rE 7 Term.enc s22.1),(2,.box (yK.enc x26))] zB ?_
   exact J_q (J_b (ih (w64 (s33+1)))) rfl
 ·exact xB (hk ()) rfl
theorem zC0.ok (a1:ByteArray) (x2:(List ByteArray)) (q:Wd) (kn:(List Term)→Option (D×List Ent)) (hk:∀v:(List Term),J (q.g Tryz.prog 97 0 58) c97 (atI c97 31) (St.mk' [(0,sv a1),(5,rr 1 v)] [(1,rE 7 Term.enc v)]) (some v) kn):
  ∀s22:((List Term)×Int),J (q.g Tryz.prog 97 0 58) c97 (atI c97 244) (St.mk' [(0,sv a1),(4,rr 0 x2),(5,rr 1 s22.1),(6,iv s22.2)] [(0,rE 1 eStr x2),(1,rE 7 Term.enc s22.1)]) (zC0 a1 x2 s22) (Fl.go (fun r:((List Term)×Bool)=>some (.tu [so 7 Term.enc r.1,bv r.2],[])) kn):=by
 refine jJ (fun g ih s22=>?_)
 unfold zBD
 refine J_g 976 [] [(0,sv a1),(4,rr 0 x2),(5,rr 1 s22.1),(6,iv s22.2),(15,bv (decide (s22.2< (x2.length:Int))))] [(0,rE 1 eStr x2),(1,rE 7 Term.enc s22.1)] zB ?_
 refine zD 15 (fun h23=>?_) (fun h23=>?_)
 ·refine zA (fun x24 h25=>?_)
  refine zA (fun x26 h27=>?_)
  refine J_g 3912 [(5,2)] [(0,sv a1),(4,rr 0 x2),(5,rr 1 s22.1),(6,iv s22.2),(7,pp 2)] [(0,rE 1 eStr x2),(1,rE 7 Term.enc s22.1),(2,.box (yK.enc x26))] (zC 2 (kM (kk:=.i64) 86 9 1 0 eStr (.tmp 18) (.tmp 19) h25) (zC 3 (zED (d:=sv x24) 9 1 0 0 eStr (.tmp 20) h25 (by kernel_rfl)) (zC 4 (xO [(.tmp 21)] [9] (zBe.ok x24) h27) zB))) ?_
  refine J_g 15652 [] [(0,sv a1),(4,rr 0 x2),(5,rr 1 s22.1),(6,iv s22.2),(7,pp 2),(25,bv (x26.Code !=0))] [(0,rE 1 eStr x2),(1,rE 7 Term.enc s22.1),(2,.box (yK.enc x26))] zB ?_
  refine zD 25 (fun h28=>?_) (fun h28=>?_)
  ·refine J_g 62612 [] [(2,rr 1 s22.1),(3,bv false)] [(1,rE 7 Term.enc s22.1)] zB ?_
   exact zD5 (ds:=[rr 1 s22.1,bv false]) (ds':=[so 7 Term.enc s22.1,bv false]) (.cons (.cell (.move (.head _) (List.length_map _) (by decide) (.nil))) (.cons (.cell (.keep rfl (.nil))) (.nil) (by decide)) (by decide)) rfl
  ·refine J_g 31308 [] [(0,sv a1),(4,rr 0 x2),(5,rr 1 s22.1),(6,iv s22.2),(7,pp 2),(8,iv 0)] [(0,rE 1 eStr x2),(1,rE 7 Term.enc s22.1),(2,.box (yK.enc x26))] zB ?_
   refine vY (K0:=(fun r:((List Term)×Bool)=>some (.tu [so 7 Term.enc r.1,bv r.2],[]))) (fun _=>rfl) (zCE.ok a1 x2 s22 x26 q _ (fun v38=>J_j ?_) 0)
   refine zA (fun x39 h40=>?_)
   refine J_g 15655 [] [(0,sv a1),(4,rr 0 x2),(5,rr 4 x39),(6,iv s22.2)] [(0,rE 1 eStr x2),(4,rE 7 Term.enc x39)] (zC 3 (zFd 75 149 7 3 Term.enc [x26.Term] [0] [(.tmp 45)] [.ag (Term.enc x26.Term)]) (zC 4 (zIJ 75 75 149 149 7 64 4 1 3 Term.enc (.tmp 43) (.tmp 46) h40) zB)) ?_
   refine J_g 979 [] [(0,sv a1),(4,rr 0 x2),(5,rr 4 x39),(6,iv (w64 (s22.2+1)))] [(0,rE 1 eStr x2),(4,rE 7 Term.enc x39)] zB ?_
   refine zCo 4 1 (Nat.le_of_ble_eq_true rfl) (Nat.le_of_ble_eq_true rfl) ?_
   exact J_q (J_b (ih (x39,w64 (s22.2+1)))) rfl
 ·exact xB (hk s22.1) rfl
theorem zCG.ok (a1:ByteArray):Ok Tryz.prog 97 [sv a1] [] ((zCG a1).map fun r=>(.tu [so 7 Term.enc r.1,bv r.2],[])):=by
 refine zH c97 Tryz.f97 0 58 (fun q=>?_)
 unfold zCG
 refine J_g 2 [] [(0,sv a1)] [] zB ?_
 refine zA (fun x2 h3=>?_)
 refine J_g 6 [] [(0,sv a1),(4,rr 0 x2)] [(0,rE 1 eStr x2)] (zC 1 (uH («as»:=[sv a1]) [(.tmp 9)] [9] false [] [] (.cons (.same rfl) (.nil)) (zAG.ok a1) h3 (.own 0)) zB) ?_
 refine J_g 14 [] [(0,sv a1),(4,rr 0 x2),(5,rr 1 ([]:List Term))] [(0,rE 1 eStr x2),(1,rE 7 Term.enc ([]:List Term))] (zC 0 (zFd 75 149 7 1 Term.enc ([]:List Term) [] [] []) zB) ?_
 refine J_g 60 [] [(0,sv a1),(4,rr 0 x2),(5,rr 1 ([]:List Term)),(6,iv 0)] [(0,rE 1 eStr x2),(1,rE 7 Term.enc ([]:List Term))] zB ?_
 refine vY (K0:=(fun r:((List Term)×Bool)=>some (.tu [so 7 Term.enc r.1,bv r.2],[]))) (fun _=>rfl) (zC0.ok a1 x2 q _ (fun v41=>J_j ?_) (([]:List Term),0))
 refine wN (fun h42=>?_) (fun h42=>?_)
 ·refine zA (fun x43 h44=>?_)
  refine J_g 62 [] [(2,rr 1 v41),(3,bv (seq x43 a1))] [(1,rE 7 Term.enc v41)] (wF 4 [(51,bv (decide ((v41.length:Int)≤8)))] [] h42 (zAR 6 4 52 true (uH («as»:=[rr 1 v41]) [(.tmp 53)] [75] true [(1,rE 7 Term.enc v41)] [] (.cons (zF1 (.head _) (fun _=>rfl) rfl) (.nil)) (zDY.ok v41) h44 (.same rfl rfl) (hbor:=fun _=>⟨fhN,yB⟩)) zB)) ?_
  exact zD5 (ds:=[rr 1 v41,bv (seq x43 a1)]) (ds':=[so 7 Term.enc v41,bv (seq x43 a1)]) (.cons (.cell (.move (.head _) (List.length_map _) (by decide) (.nil))) (.cons (.cell (.keep rfl (.nil))) (.nil) (by decide)) (by decide)) rfl
 ·refine J_g 62 [] [(2,rr 1 v41),(3,bv false)] [(1,rE 7 Term.enc v41)] (wF 4 [(51,bv (decide ((v41.length:Int)≤8)))] [] h42 zB) ?_
  exact zD5 (ds:=[rr 1 v41,bv false]) (ds':=[so 7 Term.enc v41,bv false]) (.cons (.cell (.move (.head _) (List.length_map _) (by decide) (.nil))) (.cons (.cell (.keep rfl (.nil))) (.nil) (by decide)) (by decide)) rfl
noncomputable def c46:Code:=(Tryz.f46.body).getD .skip
theorem zDU.ok (a1:zF):Ok Tryz.prog 46 [.pb [sl 2 (File.enc false) a1.Files,iv a1.Budget,iv a1.Writes,iv a1.Stop,bv a1.Down]] [] ((zDU a1).map fun r=>(.tu [so 7 Term.enc r.1,bv r.2],[])):=by
 refine zH c46 Tryz.f46 0 21 (fun q=>?_)
 unfold zDU
 refine J_g 2 [] [(0,.pb [sl 2 (File.enc false) a1.Files,iv a1.Budget,iv a1.Writes,iv a1.Stop,bv a1.Down])] [] zB ?_
 refine zA (fun x2 h3=>?_)
 refine J_g 6 [] [(0,.pb [sl 2 (File.enc false) a1.Files,iv a1.Budget,iv a1.Writes,iv a1.Stop,bv a1.Down]),(4,iv x2)] [] (zC 1 (uH («as»:=[.pb [sl 2 (File.enc false) a1.Files,iv a1.Budget,iv a1.Writes,iv a1.Stop,bv a1.Down],sv (bs [114,111,111,116,115])]) [(.tmp 5),(.const (.string (bs [114,111,111,116,115])))] [72,9] false [] [] (.cons (.pb (.cons (.same rfl) (.cons (.same rfl) (.cons (.same rfl) (.cons (.same rfl) (.cons (.same rfl) (.nil))))))) (.cons (.same rfl) (.nil))) (wH.ok a1 (bs [114,111,111,116,115])) h3 (.same rfl rfl)) zB) ?_
 refine J_g 28 [] [(0,.pb [sl 2 (File.enc false) a1.Files,iv a1.Budget,iv a1.Writes,iv a1.Stop,bv a1.Down]),(4,iv x2),(8,bv (decide (x2<0)))] [] zB ?_
 refine zD 8 (fun h4=>?_) (fun h4=>?_)
 ·refine J_g 116 [] [(2,nv),(3,bv true)] [] zB ?_
  exact zD5 (ds:=[nv,bv true]) (ds':=[so 7 Term.enc ([]:List Term),bv true]) (.cons (.cell (.nilsl true 7 (.nil))) (.cons (.cell (.keep rfl (.nil))) (.nil) (by decide)) (by decide)) rfl
 ·refine zA (fun x5 h6=>?_)
  refine zA (fun x7 h8=>?_)
  refine J_g 30 [] [(2,rr 0 x7.1),(3,bv x7.2)] [(0,rE 7 Term.enc x7.1)] (zC 1 (zFC (.tmp 9) [sl 2 (File.enc false) a1.Files,iv a1.Budget,iv a1.Writes,iv a1.Stop,bv a1.Down]) (zC 2 (zEi 33 (.tmp 10) 0 0 1 [sl 2 (File.enc false) a1.Files,iv a1.Budget,iv a1.Writes,iv a1.Stop,bv a1.Down]) (zC 3 (zE3 (d:=sl 2 (File.enc false) a1.Files) 31 (.tmp 11) [sl 2 (File.enc false) a1.Files]) (zC 5 (uN (kk:=.i64) 31 138 2 (File.enc false) (.tmp 12) (.tmp 13) h6) (zC 8 (zKx (xs:=x5.Data) 121 9 5 (.tmp 16)) (zC 9 (uH («as»:=[sv (b2s x5.Data)]) [(.tmp 17)] [9] false [] [] (.cons (.same rfl) (.nil)) (zCG.ok (b2s x5.Data)) h8 (.tu (.cons (.own 0) (.cons (.same rfl rfl) (.nil))))) zB)))))) ?_
  exact zD5 (ds:=[rr 0 x7.1,bv x7.2]) (ds':=[so 7 Term.enc x7.1,bv x7.2]) (.cons (.cell (.move (.head _) (List.length_map _) (by decide) (.nil))) (.cons (.cell (.keep rfl (.nil))) (.nil) (by decide)) (by decide)) rfl
noncomputable def c9:Code:=(Tryz.f9.body).getD .skip
theorem uP.ok (a1:System):Ok Tryz.prog 9 [.ag (System.enc false a1)] [] ((uP a1).map fun r=>(iv r,[])):=by
 refine zH c9 Tryz.f9 0 47 (fun q=>?_)
 unfold uP
 refine J_g 2 [] [(1,.pb [sl 8 (Pack.enc false) a1.Catalog,sl 2 (File.enc false) a1.zF.Files,iv a1.zF.Budget,iv a1.zF.Writes,iv a1.zF.Stop,bv a1.zF.Down])] [] (zC 0 (zMi 35 (.tmp 0) (.ag (System.enc false a1))) zB) ?_
 refine zA (fun x2 h3=>?_)
 refine J_g 12 [] [(1,.pb [sl 8 (Pack.enc false) a1.Catalog,sl 2 (File.enc false) a1.zF.Files,iv a1.zF.Budget,iv a1.zF.Writes,iv a1.zF.Stop,bv a1.zF.Down]),(3,iv x2)] [] (zC 0 (zEi 35 (.tmp 1) 0 0 1 [sl 8 (Pack.enc false) a1.Catalog,sl 2 (File.enc false) a1.zF.Files,iv a1.zF.Budget,iv a1.zF.Writes,iv a1.zF.Stop,bv a1.zF.Down]) (zC 1 (zE3 (d:=sl 8 (Pack.enc false) a1.Catalog) 30 (.tmp 7) [sl 8 (Pack.enc false) a1.Catalog]) (zC 2 (zEi 35 (.tmp 1) 1 1 5 [sl 8 (Pack.enc false) a1.Catalog,sl 2 (File.enc false) a1.zF.Files,iv a1.zF.Budget,iv a1.zF.Writes,iv a1.zF.Stop,bv a1.zF.Down]) (zC 3 (zE3 (d:=.ag (zF.enc false a1.zF)) 33 (.tmp 9) [sl 2 (File.enc false) a1.zF.Files,iv a1.zF.Budget,iv a1.zF.Writes,iv a1.zF.Stop,bv a1.zF.Down]) (zC 4 (xO [(.tmp 8),(.tmp 10)] [30,33] (zAz.ok a1.Catalog a1.zF) h3) zB))))) ?_
 refine J_g 26 [] [(1,.pb [sl 8 (Pack.enc false) a1.Catalog,sl 2 (File.enc false) a1.zF.Files,iv a1.zF.Budget,iv a1.zF.Writes,iv a1.zF.Stop,bv a1.zF.Down]),(3,iv x2),(13,bv (x2 !=0))] [] zB ?_
 refine zD 13 (fun h4=>?_) (fun h4=>?_)
 ·refine J_g 108 [] [(2,iv x2)] [] zB ?_
  exact zR rfl
 ·refine zA (fun x5 h6=>?_)
  refine J_g 14 [(4,1)] [(1,.pb [sl 8 (Pack.enc false) a1.Catalog,sl 2 (File.enc false) a1.zF.Files,iv a1.zF.Budget,iv a1.zF.Writes,iv a1.zF.Stop,bv a1.zF.Down]),(4,pp 1)] [(0,rE 1 zG x5.Set),(1,.box [iv x5.Code,iv x5.At,rr 0 x5.Set])] (zC 0 (zEi 35 (.tmp 1) 0 0 1 [sl 8 (Pack.enc false) a1.Catalog,sl 2 (File.enc false) a1.zF.Files,iv a1.zF.Budget,iv a1.zF.Writes,iv a1.zF.Stop,bv a1.zF.Down]) (zC 1 (zE3 (d:=sl 8 (Pack.enc false) a1.Catalog) 30 (.tmp 15) [sl 8 (Pack.enc false) a1.Catalog]) (zC 2 (zEi 35 (.tmp 1) 1 1 5 [sl 8 (Pack.enc false) a1.Catalog,sl 2 (File.enc false) a1.zF.Files,iv a1.zF.Budget,iv a1.zF.Writes,iv a1.zF.Stop,bv a1.zF.Down]) (zC 3 (uH («as»:=[sl 8 (Pack.enc false) a1.Catalog,.pb [sl 2 (File.enc false) a1.zF.Files,iv a1.zF.Budget,iv a1.zF.Writes,iv a1.zF.Stop,bv a1.zF.Down]]) [(.tmp 16),(.tmp 17)] [30,72] false [] [] (.cons (.same rfl) (.cons (.pb (.cons (.same rfl) (.cons (.same rfl) (.cons (.same rfl) (.cons (.same rfl) (.cons (.same rfl) (.nil))))))) (.nil))) (zAB.ok a1.Catalog a1.zF) h6 (.ag (.cons (.same rfl rfl) (.cons (.same rfl rfl) (.cons (.own 0) (.nil)))))) zB)))) ?_
  refine J_g 60 [] [(1,.pb [sl 8 (Pack.enc false) a1.Catalog,sl 2 (File.enc false) a1.zF.Files,iv a1.zF.Budget,iv a1.zF.Writes,iv a1.zF.Stop,bv a1.zF.Down]),(4,pp 1),(21,bv (x5.Code !=0))] [(0,rE 1 zG x5.Set),(1,.box [iv x5.Code,iv x5.At,rr 0 x5.Set])] zB ?_
  refine zD 21 (fun h7=>?_) (fun h7=>?_)
  ·refine J_g 244 [] [(2,iv x5.Code)] [] zB ?_
   exact zR rfl
  ·refine zA (fun x8 h9=>?_)
   refine wD (atI c9 125) (fun v13:Bool=>St.mk' [(1,.pb [sl 8 (Pack.enc false) a1.Catalog,sl 2 (File.enc false) a1.zF.Files,iv a1.zF.Budget,iv a1.zF.Writes,iv a1.zF.Stop,bv a1.zF.Down]),(39,bv v13)] []) (fun v13=>?_) (fun jv13=>?_)
   ·refine zD 39 (fun h14=>?_) (fun h14=>?_)
    ·refine J_g 500 [] [(2,iv 1)] [] zB ?_
     exact zR rfl
    ·refine zA (fun x15 h16=>?_)
     refine J_g 252 [] [(6,bv x15.2)] [] (zC 0 (zEi 35 (.tmp 1) 1 1 5 [sl 8 (Pack.enc false) a1.Catalog,sl 2 (File.enc false) a1.zF.Files,iv a1.zF.Budget,iv a1.zF.Writes,iv a1.zF.Stop,bv a1.zF.Down]) (zC 1 (uH («as»:=[.pb [sl 2 (File.enc false) a1.zF.Files,iv a1.zF.Budget,iv a1.zF.Writes,iv a1.zF.Stop,bv a1.zF.Down]]) [(.tmp 41)] [72] false [] [] (.cons (.pb (.cons (.same rfl) (.cons (.same rfl) (.cons (.same rfl) (.cons (.same rfl) (.cons (.same rfl) (.nil))))))) (.nil)) (zDU.ok a1.zF) h16 (.tu (.cons (.own 0) (.cons (.same rfl rfl) (.nil))))) zB)) ?_
     refine J_g 506 [] [(46,bv (!x15.2))] [] zB ?_
     refine zD 46 (fun h17=>?_) (fun h17=>?_)
     ·refine J_g 2028 [] [(2,iv 5)] [] zB ?_
      exact zR rfl
     ·refine J_g 254 [] [(2,iv 0)] [] zB ?_
      exact zR rfl
   ·refine wN (fun h10=>?_) (fun h10=>?_)
    ·refine J_g 124 [] [(1,.pb [sl 8 (Pack.enc false) a1.Catalog,sl 2 (File.enc false) a1.zF.Files,iv a1.zF.Budget,iv a1.zF.Writes,iv a1.zF.Stop,bv a1.zF.Down]),(39,bv true)] [] (zC 0 (zEi 35 (.tmp 1) 0 0 1 [sl 8 (Pack.enc false) a1.Catalog,sl 2 (File.enc false) a1.zF.Files,iv a1.zF.Budget,iv a1.zF.Writes,iv a1.zF.Stop,bv a1.zF.Down]) (zC 1 (zE3 (d:=sl 8 (Pack.enc false) a1.Catalog) 30 (.tmp 24) [sl 8 (Pack.enc false) a1.Catalog]) (zC 4 (uH («as»:=[sl 8 (Pack.enc false) a1.Catalog,rr 0 x5.Set]) [(.tmp 25),(.tmp 27)] [30,39] true [(0,rE 1 zG x5.Set)] [] (.cons (.same rfl) (.cons (zF1 (.head _) (fun _=>rfl) rfl) (.nil))) (zCN.ok a1.Catalog x5.Set) h9 (.same rfl rfl) (hbor:=fun _=>⟨fhN,yB⟩)) (wF 6 [(29,bv (!x8))] [] h10 zB)))) ?_
     exact xB (J_j (jv13 true)) rfl
    ·refine zA (fun x11 h12=>?_)
     refine J_g 124 [] [(1,.pb [sl 8 (Pack.enc false) a1.Catalog,sl 2 (File.enc false) a1.zF.Files,iv a1.zF.Budget,iv a1.zF.Writes,iv a1.zF.Stop,bv a1.zF.Down]),(39,bv (decide ((x11.length:Int)>0)))] [] (zC 0 (zEi 35 (.tmp 1) 0 0 1 [sl 8 (Pack.enc false) a1.Catalog,sl 2 (File.enc false) a1.zF.Files,iv a1.zF.Budget,iv a1.zF.Writes,iv a1.zF.Stop,bv a1.zF.Down]) (zC 1 (zE3 (d:=sl 8 (Pack.enc false) a1.Catalog) 30 (.tmp 24) [sl 8 (Pack.enc false) a1.Catalog]) (zC 4 (uH («as»:=[sl 8 (Pack.enc false) a1.Catalog,rr 0 x5.Set]) [(.tmp 25),(.tmp 27)] [30,39] true [(0,rE 1 zG x5.Set)] [] (.cons (.same rfl) (.cons (zF1 (.head _) (fun _=>rfl) rfl) (.nil))) (zCN.ok a1.Catalog x5.Set) h9 (.same rfl rfl) (hbor:=fun _=>⟨fhN,yB⟩)) (wF 6 [(29,bv (!x8))] [] h10 (zAR 7 6 30 false (zEi 35 (.tmp 1) 0 0 1 [sl 8 (Pack.enc false) a1.Catalog,sl 2 (File.enc false) a1.zF.Files,iv a1.zF.Budget,iv a1.zF.Writes,iv a1.zF.Stop,bv a1.zF.Down]) (zAR 8 6 30 false (zE3 (d:=sl 8 (Pack.enc false) a1.Catalog) 30 (.tmp 31) [sl 8 (Pack.enc false) a1.Catalog]) (zAR 9 6 30 false (zEi 35 (.tmp 1) 1 1 5 [sl 8 (Pack.enc false) a1.Catalog,sl 2 (File.enc false) a1.zF.Files,iv a1.zF.Budget,iv a1.zF.Writes,iv a1.zF.Stop,bv a1.zF.Down]) (zAR 12 6 30 false (uH («as»:=[sl 8 (Pack.enc false) a1.Catalog,.pb [sl 2 (File.enc false) a1.zF.Files,iv a1.zF.Budget,iv a1.zF.Writes,iv a1.zF.Stop,bv a1.zF.Down],rr 0 x5.Set]) [(.tmp 32),(.tmp 33),(.tmp 35)] [30,72,39] true [(0,rE 1 zG x5.Set)] [] (.cons (.same rfl) (.cons (.pb (.cons (.same rfl) (.cons (.same rfl) (.cons (.same rfl) (.cons (.same rfl) (.cons (.same rfl) (.nil))))))) (.cons (zF1 (.head _) (fun _=>rfl) rfl) (.nil)))) (zAW.ok a1.Catalog a1.zF x5.Set) h12 (.own 2) (hbor:=fun _=>⟨fhN,(zFS (zH8 (fun _=>(flatK yB zGl)) _))⟩)) zB)))))))) ?_
     exact xB (J_j (jv13 (decide ((x11.length:Int)>0)))) rfl
noncomputable def c31:Code:=(Tryz.f31.body).getD .skip
theorem zB1.ok (a1:System):Ok Tryz.prog 31 [.ag (System.enc false a1)] [] ((zB1 a1).map fun r=>(.ag [iv r.Code,iv r.At,so 1 zG r.Set],[])):=by
 refine zH c31 Tryz.f31 0 14 (fun q=>?_)
 unfold zB1
 refine J_g 2 [(1,0)] [(1,.pb [sl 8 (Pack.enc false) a1.Catalog,sl 2 (File.enc false) a1.zF.Files,iv a1.zF.Budget,iv a1.zF.Writes,iv a1.zF.Stop,bv a1.zF.Down]),(2,pp 0)] [(0,.box [iv 0,iv 0,nv])] (zC 0 (zMi 35 (.tmp 0) (.ag (System.enc false a1))) zB) ?_
 refine zA (fun x2 h3=>?_)
 refine J_g 12 [] [(1,.pb [sl 8 (Pack.enc false) a1.Catalog,sl 2 (File.enc false) a1.zF.Files,iv a1.zF.Budget,iv a1.zF.Writes,iv a1.zF.Stop,bv a1.zF.Down]),(2,pp 0),(3,iv x2)] [(0,.box [iv 0,iv 0,nv])] (zC 0 (zE3 (d:=.ag (System.enc false a1)) 35 (.tmp 1) [sl 8 (Pack.enc false) a1.Catalog,sl 2 (File.enc false) a1.zF.Files,iv a1.zF.Budget,iv a1.zF.Writes,iv a1.zF.Stop,bv a1.zF.Down]) (zC 1 (xO [(.tmp 4)] [35] (uP.ok a1) h3) zB)) ?_
 refine J_g 26 [] [(1,.pb [sl 8 (Pack.enc false) a1.Catalog,sl 2 (File.enc false) a1.zF.Files,iv a1.zF.Budget,iv a1.zF.Writes,iv a1.zF.Stop,bv a1.zF.Down]),(2,pp 0),(3,iv x2),(7,bv (x2 !=0))] [(0,.box [iv 0,iv 0,nv])] zB ?_
 refine zD 7 (fun h4=>?_) (fun h4=>?_)
 ·refine J_g 108 [] [(2,pp 0)] [(0,.box [iv x2,iv 0,nv])] zB ?_
  exact zD5 (ds:=[.ag [iv x2,iv 0,nv]]) (ds':=[.ag [iv x2,iv 0,so 1 zG ([]:List Int)]]) (.cons (.ag (.keep rfl (.keep rfl (.nilsl true 1 (.nil))))) (.nil) (by decide)) rfl
 ·refine zA (fun x5 h6=>?_)
  refine J_g 14 [] [(2,pp 0)] [(0,.box [iv x5.Code,iv x5.At,rr 1 x5.Set]),(1,rE 1 zG x5.Set)] (zC 0 (zEi 35 (.tmp 1) 0 0 1 [sl 8 (Pack.enc false) a1.Catalog,sl 2 (File.enc false) a1.zF.Files,iv a1.zF.Budget,iv a1.zF.Writes,iv a1.zF.Stop,bv a1.zF.Down]) (zC 1 (zE3 (d:=sl 8 (Pack.enc false) a1.Catalog) 30 (.tmp 10) [sl 8 (Pack.enc false) a1.Catalog]) (zC 2 (zEi 35 (.tmp 1) 1 1 5 [sl 8 (Pack.enc false) a1.Catalog,sl 2 (File.enc false) a1.zF.Files,iv a1.zF.Budget,iv a1.zF.Writes,iv a1.zF.Stop,bv a1.zF.Down]) (zC 3 (uH («as»:=[sl 8 (Pack.enc false) a1.Catalog,.pb [sl 2 (File.enc false) a1.zF.Files,iv a1.zF.Budget,iv a1.zF.Writes,iv a1.zF.Stop,bv a1.zF.Down]]) [(.tmp 11),(.tmp 12)] [30,72] false [] [] (.cons (.same rfl) (.cons (.pb (.cons (.same rfl) (.cons (.same rfl) (.cons (.same rfl) (.cons (.same rfl) (.cons (.same rfl) (.nil))))))) (.nil))) (zAB.ok a1.Catalog a1.zF) h6 (.ag (.cons (.same rfl rfl) (.cons (.same rfl rfl) (.cons (.own 1) (.nil)))))) zB)))) ?_
  exact zD5 (ds:=[.ag [iv x5.Code,iv x5.At,rr 1 x5.Set]]) (ds':=[.ag [iv x5.Code,iv x5.At,so 1 zG x5.Set]]) (.cons (.ag (.keep rfl (.keep rfl (.move (.tail _ (.head _)) (List.length_map _) (by decide) (.nil))))) (.nil) (by decide)) rfl
noncomputable def zSK:Code:=(Tryz.f184.body).getD .skip
theorem xY.ok (a1:Int):Ok Tryz.prog 184 [uv a1] [] ((xY a1).map fun r=>(bv r,[])):=by
 refine zH zSK Tryz.f184 0 21 (fun q=>?_)
 unfold xY
 refine J_g 2 [] [(0,uv a1)] [] zB ?_
 refine wN (fun h2=>?_) (fun h2=>?_)
 ·refine wN (fun h3=>?_) (fun h3=>?_)
  ·refine J_g 6 [] [(2,bv true)] [] (wF 2 [(4,bv (decide (a1≥97)))] [] h2 (wF 6 [(8,bv (decide (a1≤122)))] [] h3 (zRX 9 (zSq (i:=9) (g:=6) (t:=9) (b:=false) (v:=(.bool true)) (.inl rfl) (by kernel_rfl) (by kernel_rfl)) (zRX 10 (zSq (i:=10) (g:=9) (t:=12) (b:=true) (v:=undef) (.inr rfl) (by kernel_rfl) (by kernel_rfl)) (zRX 11 (zSq (i:=11) (g:=9) (t:=12) (b:=true) (v:=undef) (.inr rfl) (by kernel_rfl) (by kernel_rfl)) zB))))) ?_
   exact zR rfl
  ·refine wN (fun h4=>?_) (fun h4=>?_)
   ·refine wN (fun h5=>?_) (fun h5=>?_)
    ·refine J_g 6 [] [(2,bv true)] [] (wF 2 [(4,bv (decide (a1≥97)))] [] h2 (wF 6 [(8,bv (decide (a1≤122)))] [] h3 (zMM 9 6 9 false [(11,bv (decide (a1≥48)))] [] h4 (wF 14 [(16,bv (decide (a1≤57)))] [] h5 zB)))) ?_
     exact zR rfl
    ·refine J_g 6 [] [(2,bv (a1==95))] [] (wF 2 [(4,bv (decide (a1≥97)))] [] h2 (wF 6 [(8,bv (decide (a1≤122)))] [] h3 (zMM 9 6 9 false [(11,bv (decide (a1≥48)))] [] h4 (wF 14 [(16,bv (decide (a1≤57)))] [] h5 zB)))) ?_
     exact zR rfl
   ·refine J_g 6 [] [(2,bv (a1==95))] [] (wF 2 [(4,bv (decide (a1≥97)))] [] h2 (wF 6 [(8,bv (decide (a1≤122)))] [] h3 (zMM 9 6 9 false [(11,bv (decide (a1≥48)))] [] h4 zB))) ?_
    exact zR rfl
 ·refine wN (fun h6=>?_) (fun h6=>?_)
  ·refine wN (fun h7=>?_) (fun h7=>?_)
   ·refine J_g 6 [] [(2,bv true)] [] (wF 2 [(4,bv (decide (a1≥97)))] [] h2 (zMM 9 6 9 false [(11,bv (decide (a1≥48)))] [] h6 (wF 14 [(16,bv (decide (a1≤57)))] [] h7 zB))) ?_
    exact zR rfl
   ·refine J_g 6 [] [(2,bv (a1==95))] [] (wF 2 [(4,bv (decide (a1≥97)))] [] h2 (zMM 9 6 9 false [(11,bv (decide (a1≥48)))] [] h6 (wF 14 [(16,bv (decide (a1≤57)))] [] h7 zB))) ?_
    exact zR rfl
  ·refine J_g 6 [] [(2,bv (a1==95))] [] (wF 2 [(4,bv (decide (a1≥97)))] [] h2 (zMM 9 6 9 false [(11,bv (decide (a1≥48)))] [] h6 zB)) ?_
   exact zR rfl
noncomputable def zQJ:Code:=(Tryz.f186.body).getD .skip
theorem kI.ok (a1:ByteArray) (q:Wd) (kn:Unit→Option (D×List Ent)) (hk:∀v:Unit,J (q.g Tryz.prog 186 0 33) zQJ (atI zQJ 15) (St.mk' [] []) (some v) kn):
  ∀s17:Int,J (q.g Tryz.prog 186 0 33) zQJ (atI zQJ 116) (St.mk' [(0,sv a1),(23,iv (a1.size:Int)),(24,iv s17)] []) (kI a1 s17) (Fl.go (fun r:Int=>some (iv r,[])) kn):=by
 refine jJ (fun g ih s17=>?_)
 unfold zCd
 refine J_g 232 [] [(0,sv a1),(23,iv (a1.size:Int)),(24,iv s17),(25,bv (decide (s17< (a1.size:Int))))] [] zB ?_
 refine zD 25 (fun h18=>?_) (fun h18=>?_)
 ·refine J_g 3736 [] [(0,sv a1),(3,iv s17),(23,iv (a1.size:Int)),(24,iv s17)] [] zB ?_
  refine zA (fun x19 h20=>?_)
  refine zA (fun x21 h22=>?_)
  refine J_g 7474 [] [(0,sv a1),(23,iv (a1.size:Int)),(24,iv s17),(31,bv (!x21))] [] (zC 2 (zJr (kk:=.i64) 9 (.tmp 27) (.tmp 28) h20) (zC 3 (xO [(.tmp 29)] [5] (xY.ok x19) h22) zB)) ?_
  refine zD 31 (fun h23=>?_) (fun h23=>?_)
  ·refine J_g 29900 [] [(2,iv 5)] [] zB ?_
   exact zR rfl
  ·refine J_g 935 [] [(0,sv a1),(23,iv (a1.size:Int)),(24,iv (w64 (s17+1)))] [] zB ?_
   exact J_q (J_b (ih (w64 (s17+1)))) rfl
 ·exact xB (hk ()) rfl
theorem wW.ok (a1:ByteArray):Ok Tryz.prog 186 [sv a1] [] ((wW a1).map fun r=>(iv r,[])):=by
 refine zH zQJ Tryz.f186 0 33 (fun q=>?_)
 unfold wW
 refine J_g 2 [] [(0,sv a1)] [] zB ?_
 refine wD (atI zQJ 13) (fun v9:Bool=>St.mk' [(0,sv a1),(21,bv v9)] []) (fun v9=>?_) (fun jv9=>?_)
 ·refine zD 21 (fun h10=>?_) (fun h10=>?_)
  ·refine J_g 52 [] [(2,iv 5)] [] zB ?_
   exact zR rfl
  ·refine J_g 28 [] [(0,sv a1),(23,iv (a1.size:Int)),(24,iv 0)] [] zB ?_
   refine vY (K0:=(fun r:Int=>some (iv r,[]))) (fun _=>rfl) (kI.ok a1 q _ (fun v24=>J_j ?_) 0)
   refine J_g 30 [] [(2,iv 0)] [] zB ?_
   exact zR rfl
 ·refine wN (fun h2=>?_) (fun h2=>?_)
  ·refine J_g 12 [] [(0,sv a1),(21,bv true)] [] (wF 3 [(6,bv (decide ((a1.size:Int)<1)))] [] h2 zB) ?_
   exact xB (J_j (jv9 true)) rfl
  ·refine wN (fun h3=>?_) (fun h3=>?_)
   ·refine J_g 12 [] [(0,sv a1),(21,bv true)] [] (wF 3 [(6,bv (decide ((a1.size:Int)<1)))] [] h2 (wF 8 [(11,bv (decide ((a1.size:Int)>12)))] [] h3 zB)) ?_
    exact xB (J_j (jv9 true)) rfl
   ·refine zA (fun x4 h5=>?_)
    refine wN (fun h6=>?_) (fun h6=>?_)
    ·refine J_g 12 [] [(0,sv a1),(21,bv true)] [] (wF 3 [(6,bv (decide ((a1.size:Int)<1)))] [] h2 (wF 8 [(11,bv (decide ((a1.size:Int)>12)))] [] h3 (zAR 10 8 12 false (zJr (kk:=.i64) 9 (.tmp 13) (.const (.int .i64 0)) h5) (wF 13 [(16,bv (decide (x4<97)))] [] h6 zB)))) ?_
     exact xB (J_j (jv9 true)) rfl
    ·refine zA (fun x7 h8=>?_)
     refine J_g 12 [] [(0,sv a1),(21,bv (decide (x7>122)))] [] (wF 3 [(6,bv (decide ((a1.size:Int)<1)))] [] h2 (wF 8 [(11,bv (decide ((a1.size:Int)>12)))] [] h3 (zAR 10 8 12 false (zJr (kk:=.i64) 9 (.tmp 13) (.const (.int .i64 0)) h5) (wF 13 [(16,bv (decide (x4<97)))] [] h6 (zAR 15 13 17 false (zJr (kk:=.i64) 9 (.tmp 18) (.const (.int .i64 0)) h8) zB))))) ?_
     exact xB (J_j (jv9 (decide (x7>122)))) rfl
noncomputable def c175:Code:=(Tryz.f175.body).getD .skip
theorem xW.ok (a1:Int) (a2:Int) (a3:Int):Ok Tryz.prog 175 [iv a1,iv a2,iv a3] [] ((xW a1 a2 a3).map fun r=>(bv r,[])):=by
 refine zH c175 Tryz.f175 0 15 (fun q=>?_)
 unfold xW
 refine J_g 2 [] [(0,iv a1),(1,iv a2),(2,iv a3)] [] zB ?_
 refine wN (fun h4=>?_) (fun h4=>?_)
 ·refine J_g 6 [] [(6,bv (decide (a1≤a3)))] [] (wF 3 [(9,bv (decide (a2≤a1)))] [] h4 zB) ?_
  exact zR rfl
 ·refine J_g 6 [] [(6,bv false)] [] (wF 3 [(9,bv (decide (a2≤a1)))] [] h4 zB) ?_
  exact zR rfl
noncomputable def zSt:Code:=(Tryz.f240.body).getD .skip
theorem wM.ok (a1:Version):Ok Tryz.prog 240 [.ag (Version.enc a1)] [] ((wM a1).map fun r=>(iv r,[])):=by
 refine zH zSt Tryz.f240 0 19 (fun q=>?_)
 unfold wM
 refine J_g 2 [(0,0)] [(1,pp 0)] [(0,.box (Version.enc a1))] zB ?_
 refine zA (fun x2 h3=>?_)
 refine wD (atI zSt 13) (fun v10:Bool=>St.mk' [(18,bv v10)] []) (fun v10=>?_) (fun jv10=>?_)
 ·refine zD 18 (fun h11=>?_) (fun h11=>?_)
  ·refine J_g 52 [] [(2,iv 3)] [] zB ?_
   exact zR rfl
  ·refine J_g 14 [] [(2,iv 0)] [] zB ?_
   exact zR rfl
 ·refine wN (fun h4=>?_) (fun h4=>?_)
  ·refine J_g 12 [] [(18,bv true)] [] (zC 2 (xO [(.tmp 4),(.const (.int .i64 0)),(.const (.int .i64 999))] [2,2,2] (xW.ok a1.A 0 999) h3) (wF 4 [(6,bv (!x2))] [] h4 zB)) ?_
   exact xB (J_j (jv10 true)) rfl
  ·refine zA (fun x5 h6=>?_)
   refine wN (fun h7=>?_) (fun h7=>?_)
   ·refine J_g 12 [] [(18,bv true)] [] (zC 2 (xO [(.tmp 4),(.const (.int .i64 0)),(.const (.int .i64 999))] [2,2,2] (xW.ok a1.A 0 999) h3) (wF 4 [(6,bv (!x2))] [] h4 (zAR 7 4 7 false (xO [(.tmp 9),(.const (.int .i64 0)),(.const (.int .i64 999))] [2,2,2] (xW.ok a1.B 0 999) h6) (wF 10 [(12,bv (!x5))] [] h7 zB)))) ?_
    exact xB (J_j (jv10 true)) rfl
   ·refine zA (fun x8 h9=>?_)
    refine J_g 12 [] [(18,bv (!x8))] [] (zC 2 (xO [(.tmp 4),(.const (.int .i64 0)),(.const (.int .i64 999))] [2,2,2] (xW.ok a1.A 0 999) h3) (wF 4 [(6,bv (!x2))] [] h4 (zAR 7 4 7 false (xO [(.tmp 9),(.const (.int .i64 0)),(.const (.int .i64 999))] [2,2,2] (xW.ok a1.B 0 999) h6) (wF 10 [(12,bv (!x5))] [] h7 (zAR 13 10 13 false (xO [(.tmp 15),(.const (.int .i64 0)),(.const (.int .i64 999))] [2,2,2] (xW.ok a1.C 0 999) h9) zB))))) ?_
    exact xB (J_j (jv10 (!x8))) rfl
noncomputable def c98:Code:=(Tryz.f98.body).getD .skip
theorem kF.ok (a1:(List Int)) (q:Wd) (kn:Unit→Option (D×List Ent)) (hk:∀v:Unit,J (q.g Tryz.prog 98 0 15) c98 (atI c98 7) (St.mk' [] []) (some v) kn):
  ∀s6:Int,J (q.g Tryz.prog 98 0 15) c98 (atI c98 52) (St.mk' [(5,sl 1 zG a1),(6,iv (a1.length:Int)),(7,iv s6)] []) (kF a1 s6) (Fl.go (fun r:Int=>some (iv r,[])) kn):=by
 refine jJ (fun g ih s6=>?_)
 unfold zAC
 refine J_g 104 [] [(5,sl 1 zG a1),(6,iv (a1.length:Int)),(7,iv s6),(8,bv (decide (s6< (a1.length:Int))))] [] zB ?_
 refine zD 8 (fun h7=>?_) (fun h7=>?_)
 ·refine zA (fun x8 h9=>?_)
  refine J_g 1688 [] [(4,iv x8),(5,sl 1 zG a1),(6,iv (a1.length:Int)),(7,iv s6)] [] (zC 0 (uN (kk:=.i64) 39 2 1 zG (.tmp 5) (.tmp 7) h9) zB) ?_
  refine J_g 3378 [] [(4,iv x8),(5,sl 1 zG a1),(6,iv (a1.length:Int)),(7,iv s6),(12,bv (x8 !=0))] [] zB ?_
  refine zD 12 (fun h10=>?_) (fun h10=>?_)
  ·refine J_g 13516 [] [(2,iv x8)] [] zB ?_
   exact zR rfl
  ·refine J_g 423 [] [(5,sl 1 zG a1),(6,iv (a1.length:Int)),(7,iv (w64 (s6+1)))] [] zB ?_
   exact J_q (J_b (ih (w64 (s6+1)))) rfl
 ·exact xB (hk ()) rfl
theorem vL.ok (a1:(List Int)):Ok Tryz.prog 98 [sl 1 zG a1] [] ((vL a1).map fun r=>(iv r,[])):=by
 refine zH c98 Tryz.f98 0 15 (fun q=>?_)
 unfold vL
 refine J_g 2 [] [(0,sl 1 zG a1)] [] zB ?_
 refine J_g 12 [] [(5,sl 1 zG a1),(6,iv (a1.length:Int)),(7,iv 0)] [] zB ?_
 refine vY (K0:=(fun r:Int=>some (iv r,[]))) (fun _=>rfl) (kF.ok a1 q _ (fun v11=>J_j ?_) 0)
 refine J_g 14 [] [(2,iv 0)] [] zB ?_
 exact zR rfl
end Go.Told

import Derived.Test.YtobkkecdnlecgaaGreatDoorToldCollectGens
import Derived.Test.YtobkkecdnlecgaaGreatDoorShelfCollectGens
import Derived.Test.YtobkkecdnlecgaaGreatDoorProg
import Derived.Deep.LoopGhost
import Derived.Deep.RegionLaw
import Derived.Laws.Externs
import Derived.Laws.IdiomCopy
import Derived.Laws.NewBlocks
import Derived.Lib.AppendZeros
import Derived.Lib.AppendZerosOnto
import Derived.Lib.JoinLaws
import Derived.Lib.Overlaps
import Derived.Lib.SliceRun
import Derived.Lib.SlicesDelete
import Derived.Lib.Walk
import Derived.Shelf.Lays2
import Derived.Shelf.RegionOpenPlain
import Derived.Shelf.Spec.SlicesInsert
import Derived.Sort.WalkB12
import Derived.WalkKit
set_option linter.unusedVariables false
set_option maxRecDepth 4000
namespace Go.Told
open Go Go.Im Go.Proofs
noncomputable def c109:Code:=(Tryz.f109.body).getD .skip
theorem zBh.ok (a1:(List ByteArray)) (q:Wd) (kn:Int→Option (D×List Ent)) (hk:∀v:Int,J (q.g Tryz.prog 109 0 28) c109 (atI c109 31) (St.mk' [(1,iv v)] []) (some v) kn):
  ∀s8:(Int×Int),J (q.g Tryz.prog 109 0 28) c109 (atI c109 244) (St.mk' [(0,sl 1 eStr a1),(1,iv s8.1),(5,iv s8.2)] []) (zBh a1 s8) (Fl.go (fun r:Int=>some (iv r,[])) kn):=by
 refine kP (fun g ih s8=>?_)
 unfold zA8
 refine J_d 976 [] [15] [(15,bv (decide (s8.2< (a1.length:Int))))] [] [] zB ?_
 refine zF 15 (fun h9=>?_) (fun h9=>?_)
 ·refine zA (fun x10 h11=>?_)
  refine J_g 3912 [] [(0,sl 1 eStr a1),(1,iv (w64 (s8.1-(x10.size:Int)))),(5,iv s8.2)] [] (zD 3 (zAg (kk:=.i64) 86 9 1 eStr (.tmp 19) (.tmp 20) h11) zB) ?_
  refine J_d 7826 [] [26] [(26,bv (decide ((w64 (s8.1-(x10.size:Int)))<0)))] [] [] zB ?_
  refine zF 26 (fun h12=>?_) (fun h12=>?_)
  ·refine J_g 31308 [] [(4,iv (-1))] [] zB ?_
   exact zR rfl
  ·refine J_d 979 [] [5,26] [(5,iv (w64 (s8.2+1)))] [] [] zB ?_
   exact J_q (J_b (ih (w64 (s8.1-(x10.size:Int)),w64 (s8.2+1)))) rfl
 ·exact yF (hk s8.1) rfl
theorem zAZ.ok (a1:(List ByteArray)) (a2:Int):Ok Tryz.prog 109 [sl 1 eStr a1,iv a2] [] ((zAZ a1 a2).map fun r=>(iv r,[])):=by
 refine zH c109 Tryz.f109 0 28 (fun q=>?_)
 unfold zAZ
 refine J_g 2 [] [(0,sl 1 eStr a1),(1,iv a2)] [] zB ?_
 refine J_g 6 [] [(0,sl 1 eStr a1),(1,iv (w64 (a2-(a1.length:Int))))] [] zB ?_
 refine J_d 28 [] [11] [(11,bv (decide ((w64 (a2-(a1.length:Int)))<0)))] [] [] zB ?_
 refine zF 11 (fun h3=>?_) (fun h3=>?_)
 ·refine J_g 116 [] [(4,iv (-1))] [] zB ?_
  exact zR rfl
 ·refine J_d 60 [] [5,11] [(5,iv 0)] [] [] zB ?_
  refine vU (K0:=(fun r:Int=>some (iv r,[]))) (fun _=>rfl) (zBh.ok a1 q _ (fun v13=>J_j ?_) (w64 (a2-(a1.length:Int)),0))
  refine J_g 62 [] [(4,iv v13)] [] zB ?_
  exact zR rfl
noncomputable def zRx:Code:=(Tryz.f195.body).getD .skip
theorem zDt.ok (a1:Term) (a2:Int):Ok Tryz.prog 195 [.ag (Term.enc a1),iv a2] [] ((zDt a1 a2).map fun r=>(iv r,[])):=by
 refine zH zRx Tryz.f195 0 13 (fun q=>?_)
 unfold zDt
 refine J_g 2 [(0,0)] [(1,iv a2),(2,pp 0)] [(0,.box (Term.enc a1))] zB ?_
 refine J_g 6 [] [(1,iv (w64 (a2-(a1.Name.size:Int))))] [] zB ?_
 refine J_d 28 [] [11] [(11,bv (decide ((w64 (a2-(a1.Name.size:Int)))<0)))] [] [] zB ?_
 refine zF 11 (fun h3=>?_) (fun h3=>?_)
 ·refine J_g 116 [] [(4,iv (-1))] [] zB ?_
  exact zR rfl
 ·refine J_g 30 [] [(4,iv (w64 (a2-(a1.Name.size:Int))))] [] zB ?_
  exact zR rfl
noncomputable def zPF:Code:=(Tryz.f111.body).getD .skip
theorem zCy.ok (a1:(List Term)) (q:Wd) (kn:Int→Option (D×List Ent)) (hk:∀v:Int,J (q.g Tryz.prog 111 0 27) zPF (atI zPF 31) (St.mk' [(1,iv v)] []) (some v) kn):
  ∀s10:(Int×Int),J (q.g Tryz.prog 111 0 27) zPF (atI zPF 244) (St.mk' [(0,sl 7 Term.enc a1),(1,iv s10.1),(5,iv s10.2)] []) (zCy a1 s10) (Fl.go (fun r:Int=>some (iv r,[])) kn):=by
 refine kP (fun g ih s10=>?_)
 unfold zBI
 refine J_d 976 [] [15] [(15,bv (decide (s10.2< (a1.length:Int))))] [] [] zB ?_
 refine zF 15 (fun h11=>?_) (fun h11=>?_)
 ·refine zA (fun x12 h13=>?_)
  refine zA (fun x14 h15=>?_)
  refine J_g 3912 [] [(0,sl 7 Term.enc a1),(1,iv x14),(5,iv s10.2)] [] (zD 2 (zAg (kk:=.i64) 88 224 7 Term.enc (.tmp 18) (.tmp 19) h13) (zD 5 (xL [(.tmp 21),(.tmp 22)] [224,3] (zDt.ok x12 s10.1) h15) zB)) ?_
  refine J_d 7826 [] [25] [(25,bv (decide (x14<0)))] [] [] zB ?_
  refine zF 25 (fun h16=>?_) (fun h16=>?_)
  ·refine J_g 31308 [] [(4,iv (-1))] [] zB ?_
   exact zR rfl
  ·refine J_d 979 [] [5,25] [(5,iv (w64 (s10.2+1)))] [] [] zB ?_
   exact J_q (J_b (ih (x14,w64 (s10.2+1)))) rfl
 ·exact yF (hk s10.1) rfl
theorem zA5.ok (a1:(List Term)) (a2:Int):Ok Tryz.prog 111 [sl 7 Term.enc a1,iv a2] [] ((zA5 a1 a2).map fun r=>(iv r,[])):=by
 refine zH zPF Tryz.f111 0 27 (fun q=>?_)
 unfold zA5
 refine J_g 2 [] [(0,sl 7 Term.enc a1),(1,iv a2)] [] zB ?_
 refine J_g 6 [] [(0,sl 7 Term.enc a1),(1,iv (w64 (a2-(a1.length:Int))))] [] zB ?_
 refine J_d 28 [] [11] [(11,bv (decide ((w64 (a2-(a1.length:Int)))<0)))] [] [] zB ?_
 refine zF 11 (fun h3=>?_) (fun h3=>?_)
 ·refine J_g 116 [] [(4,iv (-1))] [] zB ?_
  exact zR rfl
 ·refine J_d 60 [] [5,11] [(5,iv 0)] [] [] zB ?_
  refine vU (K0:=(fun r:Int=>some (iv r,[]))) (fun _=>rfl) (zCy.ok a1 q _ (fun v17=>J_j ?_) (w64 (a2-(a1.length:Int)),0))
  refine J_g 62 [] [(4,iv v17)] [] zB ?_
  exact zR rfl
noncomputable def zPV:Code:=(Tryz.f110.body).getD .skip
theorem zBD.ok (a1:(List (List Term))) (q:Wd) (kn:Int→Option (D×List Ent)) (hk:∀v:Int,J (q.g Tryz.prog 110 0 27) zPV (atI zPV 31) (St.mk' [(1,iv v)] []) (some v) kn):
  ∀s10:(Int×Int),J (q.g Tryz.prog 110 0 27) zPV (atI zPV 244) (St.mk' [(0,sl 1 (eSl false 7 Term.enc) a1),(1,iv s10.1),(5,iv s10.2)] []) (zBD a1 s10) (Fl.go (fun r:Int=>some (iv r,[])) kn):=by
 refine kP (fun g ih s10=>?_)
 unfold zBt
 refine J_d 976 [] [15] [(15,bv (decide (s10.2< (a1.length:Int))))] [] [] zB ?_
 refine zF 15 (fun h11=>?_) (fun h11=>?_)
 ·refine zA (fun x12 h13=>?_)
  refine zA (fun x14 h15=>?_)
  refine J_g 3912 [] [(0,sl 1 (eSl false 7 Term.enc) a1),(1,iv x14),(5,iv s10.2)] [] (zD 2 (zAg (kk:=.i64) 87 88 1 (eSl false 7 Term.enc) (.tmp 18) (.tmp 19) h13) (zD 5 (xL [(.tmp 21),(.tmp 22)] [88,3] (zA5.ok x12 s10.1) h15) zB)) ?_
  refine J_d 7826 [] [25] [(25,bv (decide (x14<0)))] [] [] zB ?_
  refine zF 25 (fun h16=>?_) (fun h16=>?_)
  ·refine J_g 31308 [] [(4,iv (-1))] [] zB ?_
   exact zR rfl
  ·refine J_d 979 [] [5,25] [(5,iv (w64 (s10.2+1)))] [] [] zB ?_
   exact J_q (J_b (ih (x14,w64 (s10.2+1)))) rfl
 ·exact yF (hk s10.1) rfl
theorem zB1.ok (a1:(List (List Term))) (a2:Int):Ok Tryz.prog 110 [sl 1 (eSl false 7 Term.enc) a1,iv a2] [] ((zB1 a1 a2).map fun r=>(iv r,[])):=by
 refine zH zPV Tryz.f110 0 27 (fun q=>?_)
 unfold zB1
 refine J_g 2 [] [(0,sl 1 (eSl false 7 Term.enc) a1),(1,iv a2)] [] zB ?_
 refine J_g 6 [] [(0,sl 1 (eSl false 7 Term.enc) a1),(1,iv (w64 (a2-(a1.length:Int))))] [] zB ?_
 refine J_d 28 [] [11] [(11,bv (decide ((w64 (a2-(a1.length:Int)))<0)))] [] [] zB ?_
 refine zF 11 (fun h3=>?_) (fun h3=>?_)
 ·refine J_g 116 [] [(4,iv (-1))] [] zB ?_
  exact zR rfl
 ·refine J_d 60 [] [5,11] [(5,iv 0)] [] [] zB ?_
  refine vU (K0:=(fun r:Int=>some (iv r,[]))) (fun _=>rfl) (zBD.ok a1 q _ (fun v17=>J_j ?_) (w64 (a2-(a1.length:Int)),0))
  refine J_g 62 [] [(4,iv v17)] [] zB ?_
  exact zR rfl
noncomputable def c51:Code:=(Tryz.f51.body).getD .skip
theorem zDn.ok (a1:Pack) (a2:Int):Ok Tryz.prog 51 [.ag (Pack.enc false a1),iv a2] [] ((zDn a1 a2).map fun r=>(iv r,[])):=by
 refine zH c51 Tryz.f51 0 31 (fun q=>?_)
 unfold zDn
 refine J_g 2 [(0,0)] [(1,iv a2),(2,pp 0)] [(0,.box (Pack.enc false a1))] zB ?_
 refine J_g 6 [] [(1,iv (w64 (a2-(a1.Name.size:Int)))),(2,pp 0)] [(0,.box (Pack.enc false a1))] zB ?_
 refine J_d 28 [] [11] [(11,bv (decide ((w64 (a2-(a1.Name.size:Int)))<0)))] [] [] zB ?_
 refine zF 11 (fun h3=>?_) (fun h3=>?_)
 ·refine J_g 116 [] [(4,iv (-1))] [] zB ?_
  exact zR rfl
 ·refine zA (fun x4 h5=>?_)
  refine J_g 30 [] [(1,iv x4),(2,pp 0)] [(0,.box (Pack.enc false a1))] (zD 3 (xL [(.tmp 13),(.tmp 14)] [86,3] (zAZ.ok a1.Provides (w64 (a2-(a1.Name.size:Int)))) h5) zB) ?_
  refine J_d 124 [] [17] [(17,bv (decide (x4<0)))] [] [] zB ?_
  refine zF 17 (fun h6=>?_) (fun h6=>?_)
  ·refine J_g 500 [] [(4,iv (-1))] [] zB ?_
   exact zR rfl
  ·refine zA (fun x7 h8=>?_)
   refine J_g 126 [] [(1,iv x7),(2,pp 0)] [(0,.box (Pack.enc false a1))] (zD 3 (xL [(.tmp 19),(.tmp 20)] [87,3] (zB1.ok a1.Needs x4) h8) zB) ?_
   refine J_d 508 [] [23] [(23,bv (decide (x7<0)))] [] [] zB ?_
   refine zF 23 (fun h9=>?_) (fun h9=>?_)
   ·refine J_g 2036 [] [(4,iv (-1))] [] zB ?_
    exact zR rfl
   ·refine zA (fun x10 h11=>?_)
    refine J_g 510 [] [(1,iv x10)] [] (zD 3 (xL [(.tmp 25),(.tmp 26)] [88,3] (zA5.ok a1.Bars x7) h11) zB) ?_
    refine J_g 2044 [] [(1,iv x10),(29,bv (decide (x10<0)))] [] zB ?_
    refine zF 29 (fun h12=>?_) (fun h12=>?_)
    ·refine J_g 8180 [] [(4,iv (-1))] [] zB ?_
     exact zR rfl
    ·refine J_g 2046 [] [(4,iv x10)] [] zB ?_
     exact zR rfl
noncomputable def c13:Code:=(Tryz.f13.body).getD .skip
theorem zCC.ok (a1:(List Pack)) (q:Wd) (kn:Int→Option (D×List Ent)) (hk:∀v:Int,J (q.g Tryz.prog 13 0 27) c13 (atI c13 31) (St.mk' [(1,iv v)] []) (some v) kn):
  ∀s10:(Int×Int),J (q.g Tryz.prog 13 0 27) c13 (atI c13 244) (St.mk' [(0,sl 8 (Pack.enc false) a1),(1,iv s10.1),(5,iv s10.2)] []) (zCC a1 s10) (Fl.go (fun r:Int=>some (iv r,[])) kn):=by
 refine kP (fun g ih s10=>?_)
 unfold zBF
 refine J_d 976 [] [15] [(15,bv (decide (s10.2< (a1.length:Int))))] [] [] zB ?_
 refine zF 15 (fun h11=>?_) (fun h11=>?_)
 ·refine zA (fun x12 h13=>?_)
  refine zA (fun x14 h15=>?_)
  refine J_g 3912 [] [(0,sl 8 (Pack.enc false) a1),(1,iv x14),(5,iv s10.2)] [] (zD 2 (zAg (kk:=.i64) 22 90 8 (Pack.enc false) (.tmp 18) (.tmp 19) h13) (zD 5 (xL [(.tmp 21),(.tmp 22)] [90,3] (zDn.ok x12 s10.1) h15) zB)) ?_
  refine J_d 7826 [] [25] [(25,bv (decide (x14<0)))] [] [] zB ?_
  refine zF 25 (fun h16=>?_) (fun h16=>?_)
  ·refine J_g 31308 [] [(4,iv (-1))] [] zB ?_
   exact zR rfl
  ·refine J_d 979 [] [5,25] [(5,iv (w64 (s10.2+1)))] [] [] zB ?_
   exact J_q (J_b (ih (x14,w64 (s10.2+1)))) rfl
 ·exact yF (hk s10.1) rfl
theorem zCd.ok (a1:(List Pack)) (a2:Int):Ok Tryz.prog 13 [sl 8 (Pack.enc false) a1,iv a2] [] ((zCd a1 a2).map fun r=>(iv r,[])):=by
 refine zH c13 Tryz.f13 0 27 (fun q=>?_)
 unfold zCd
 refine J_g 2 [] [(0,sl 8 (Pack.enc false) a1),(1,iv a2)] [] zB ?_
 refine J_g 6 [] [(0,sl 8 (Pack.enc false) a1),(1,iv (w64 (a2-(a1.length:Int))))] [] zB ?_
 refine J_d 28 [] [11] [(11,bv (decide ((w64 (a2-(a1.length:Int)))<0)))] [] [] zB ?_
 refine zF 11 (fun h3=>?_) (fun h3=>?_)
 ·refine J_g 116 [] [(4,iv (-1))] [] zB ?_
  exact zR rfl
 ·refine J_d 60 [] [5,11] [(5,iv 0)] [] [] zB ?_
  refine vU (K0:=(fun r:Int=>some (iv r,[]))) (fun _=>rfl) (zCC.ok a1 q _ (fun v17=>J_j ?_) (w64 (a2-(a1.length:Int)),0))
  refine J_g 62 [] [(4,iv v17)] [] zB ?_
  exact zR rfl
noncomputable def c196:Code:=(Tryz.f196.body).getD .skip
theorem zCs.ok (a1:(List Int)) (a2:Int):Ok Tryz.prog 196 [sl 1 eU8 a1,iv a2] [] ((zCs a1 a2).map fun r=>(iv r,[])):=by
 refine zH c196 Tryz.f196 0 12 (fun q=>?_)
 unfold zCs
 refine J_g 2 [] [(0,sl 1 eU8 a1),(1,iv a2)] [] zB ?_
 refine J_g 6 [] [(1,iv (w64 (a2-(a1.length:Int))))] [] zB ?_
 refine J_d 28 [] [10] [(10,bv (decide ((w64 (a2-(a1.length:Int)))<0)))] [] [] zB ?_
 refine zF 10 (fun h3=>?_) (fun h3=>?_)
 ·refine J_g 116 [] [(4,iv (-1))] [] zB ?_
  exact zR rfl
 ·refine J_g 30 [] [(4,iv (w64 (a2-(a1.length:Int))))] [] zB ?_
  exact zR rfl
noncomputable def zRq:Code:=(Tryz.f112.body).getD .skip
theorem zDl.ok (a1:File) (a2:Int):Ok Tryz.prog 112 [.ag (File.enc false a1),iv a2] [] ((zDl a1 a2).map fun r=>(iv r,[])):=by
 refine zH zRq Tryz.f112 0 19 (fun q=>?_)
 unfold zDl
 refine J_g 2 [(0,0)] [(1,iv a2),(2,pp 0)] [(0,.box (File.enc false a1))] zB ?_
 refine J_g 6 [] [(1,iv (w64 (a2-(a1.Path.size:Int)))),(2,pp 0)] [(0,.box (File.enc false a1))] zB ?_
 refine J_d 28 [] [11] [(11,bv (decide ((w64 (a2-(a1.Path.size:Int)))<0)))] [] [] zB ?_
 refine zF 11 (fun h3=>?_) (fun h3=>?_)
 ·refine J_g 116 [] [(4,iv (-1))] [] zB ?_
  exact zR rfl
 ·refine zA (fun x4 h5=>?_)
  refine J_g 30 [] [(1,iv x4)] [] (zD 3 (xL [(.tmp 13),(.tmp 14)] [121,3] (zCs.ok a1.Data (w64 (a2-(a1.Path.size:Int)))) h5) zB) ?_
  refine J_g 124 [] [(1,iv x4),(17,bv (decide (x4<0)))] [] zB ?_
  refine zF 17 (fun h6=>?_) (fun h6=>?_)
  ·refine J_g 500 [] [(4,iv (-1))] [] zB ?_
   exact zR rfl
  ·refine J_g 126 [] [(4,iv x4)] [] zB ?_
   exact zR rfl
noncomputable def c52:Code:=(Tryz.f52.body).getD .skip
theorem zCv.ok (a1:(List File)) (q:Wd) (kn:Int→Option (D×List Ent)) (hk:∀v:Int,J (q.g Tryz.prog 52 0 27) c52 (atI c52 31) (St.mk' [(1,iv v)] []) (some v) kn):
  ∀s10:(Int×Int),J (q.g Tryz.prog 52 0 27) c52 (atI c52 244) (St.mk' [(0,sl 2 (File.enc false) a1),(1,iv s10.1),(5,iv s10.2)] []) (zCv a1 s10) (Fl.go (fun r:Int=>some (iv r,[])) kn):=by
 refine kP (fun g ih s10=>?_)
 unfold zBM
 refine J_d 976 [] [15] [(15,bv (decide (s10.2< (a1.length:Int))))] [] [] zB ?_
 refine zF 15 (fun h11=>?_) (fun h11=>?_)
 ·refine zA (fun x12 h13=>?_)
  refine zA (fun x14 h15=>?_)
  refine J_g 3912 [] [(0,sl 2 (File.enc false) a1),(1,iv x14),(5,iv s10.2)] [] (zD 2 (zAg (kk:=.i64) 23 158 2 (File.enc false) (.tmp 18) (.tmp 19) h13) (zD 5 (xL [(.tmp 21),(.tmp 22)] [158,3] (zDl.ok x12 s10.1) h15) zB)) ?_
  refine J_d 7826 [] [25] [(25,bv (decide (x14<0)))] [] [] zB ?_
  refine zF 25 (fun h16=>?_) (fun h16=>?_)
  ·refine J_g 31308 [] [(4,iv (-1))] [] zB ?_
   exact zR rfl
  ·refine J_d 979 [] [5,25] [(5,iv (w64 (s10.2+1)))] [] [] zB ?_
   exact J_q (J_b (ih (x14,w64 (s10.2+1)))) rfl
 ·exact yF (hk s10.1) rfl
theorem zCl.ok (a1:(List File)) (a2:Int):Ok Tryz.prog 52 [sl 2 (File.enc false) a1,iv a2] [] ((zCl a1 a2).map fun r=>(iv r,[])):=by
 refine zH c52 Tryz.f52 0 27 (fun q=>?_)
 unfold zCl
 refine J_g 2 [] [(0,sl 2 (File.enc false) a1),(1,iv a2)] [] zB ?_
 refine J_g 6 [] [(0,sl 2 (File.enc false) a1),(1,iv (w64 (a2-(a1.length:Int))))] [] zB ?_
 refine J_d 28 [] [11] [(11,bv (decide ((w64 (a2-(a1.length:Int)))<0)))] [] [] zB ?_
 refine zF 11 (fun h3=>?_) (fun h3=>?_)
 ·refine J_g 116 [] [(4,iv (-1))] [] zB ?_
  exact zR rfl
 ·refine J_d 60 [] [5,11] [(5,iv 0)] [] [] zB ?_
  refine vU (K0:=(fun r:Int=>some (iv r,[]))) (fun _=>rfl) (zCv.ok a1 q _ (fun v17=>J_j ?_) (w64 (a2-(a1.length:Int)),0))
  refine J_g 62 [] [(4,iv v17)] [] zB ?_
  exact zR rfl
noncomputable def c14:Code:=(Tryz.f14.body).getD .skip
theorem zDo.ok (a1:zC) (a2:Int):Ok Tryz.prog 14 [.ag (zC.enc false a1),iv a2] [] ((zDo a1 a2).map fun r=>(iv r,[])):=by
 refine zH c14 Tryz.f14 0 12 (fun q=>?_)
 unfold zDo
 refine J_g 2 [(0,0)] [(1,iv a2),(2,pp 0)] [(0,.box (zC.enc false a1))] zB ?_
 refine zA (fun x3 h4=>?_)
 refine J_g 6 [] [(1,iv x3)] [] (zD 3 (xL [(.tmp 6),(.tmp 7)] [23,3] (zCl.ok a1.Files a2) h4) zB) ?_
 refine J_g 28 [] [(1,iv x3),(10,bv (decide (x3<0)))] [] zB ?_
 refine zF 10 (fun h5=>?_) (fun h5=>?_)
 ·refine J_g 116 [] [(4,iv (-1))] [] zB ?_
  exact zR rfl
 ·refine J_g 30 [] [(4,iv x3)] [] zB ?_
  exact zR rfl
noncomputable def zRv:Code:=(Tryz.f121.body).getD .skip
theorem vF.ok (a1:Version):Ok Tryz.prog 121 [.ag (Version.enc a1)] [] ((vF a1).map fun r=>(.ag (Version.enc r),[])):=by
 refine zH zRv Tryz.f121 0 14 (fun q=>?_)
 unfold vF
 refine J_g 2 [(0,0),(1,1)] [(1,pp 0),(2,pp 1)] [(0,.box (Version.enc a1)),(1,.box [iv 0,iv 0,iv 0])] zB ?_
 refine J_g 6 [(0,2)] [(1,pp 0),(2,pp 1),(3,pp 2)] [(0,.box (Version.enc a1)),(1,.box [iv 0,iv 0,iv 0]),(2,.box [iv 0,iv 0,iv 0])] zB ?_
 refine J_g 14 [] [(1,pp 0),(2,pp 1),(3,pp 2)] [(0,.box (Version.enc a1)),(1,.box [iv 0,iv 0,iv 0]),(2,.box [iv a1.A,iv 0,iv 0])] zB ?_
 refine J_g 30 [] [(1,pp 0),(2,pp 1),(3,pp 2)] [(0,.box (Version.enc a1)),(1,.box [iv 0,iv 0,iv 0]),(2,.box [iv a1.A,iv a1.B,iv 0])] zB ?_
 refine J_g 62 [] [(2,pp 1),(3,pp 2)] [(1,.box [iv 0,iv 0,iv 0]),(2,.box (Version.enc a1))] zB ?_
 refine J_g 126 [] [(2,pp 1)] [(1,.box (Version.enc a1))] zB ?_
 exact zR rfl
noncomputable def zPY:Code:=(Tryz.f122.body).getD .skip
theorem zBr.ok (a1:(List ByteArray)) (q:Wd) (kn:(List ByteArray)→Option (D×List Ent)) (hk:∀v:(List ByteArray),J (q.g Tryz.prog 122 0 22) zPY (atI zPY 15) (St.mk' [(3,rr 0 v)] [(0,rE 1 eStr v)]) (some v) kn):
  ∀s9:((List ByteArray)×Int),J (q.g Tryz.prog 122 0 22) zPY (atI zPY 116) (St.mk' [(0,sl 1 eStr a1),(3,rr 0 s9.1),(4,iv s9.2)] [(0,rE 1 eStr s9.1)]) (zBr a1 s9) kn:=by
 refine kP (fun g ih s9=>?_)
 unfold zBU
 refine J_d 464 [] [11] [(11,bv (decide (s9.2< (a1.length:Int))))] [] [] zB ?_
 refine zF 11 (fun h10=>?_) (fun h10=>?_)
 ·refine zA (fun x11 h12=>?_)
  refine zA (fun x13 h14=>?_)
  refine J_g 932 [] [(0,sl 1 eStr a1),(3,rr 0 s9.1),(4,iv s9.2)] [(0,rE 1 eStr (s9.1.set s9.2.toNat x11))] (zD 4 (zAg (kk:=.i64) 86 9 1 eStr (.tmp 16) (.tmp 17) h12) (zD 6 (wM (kk:=.i64) 86 9 1 0 eStr (.tmp 14) (.tmp 15) h14) (zF1 7 (zGE (b:=x11) 9 1 0 0 eStr (sv x11) (.tmp 20) (.tmp 19) h14 rfl) zB))) ?_
  refine zE5 (σ':=St.mk' [(0,sl 1 eStr a1),(3,rr 0 (s9.1.set s9.2.toNat x11)),(4,iv s9.2)] [(0,rE 1 eStr (s9.1.set s9.2.toNat x11))]) (by simp only [rr,List.length_set]) ?_
  refine J_d 467 [] [4] [(4,iv (w64 (s9.2+1)))] [] [] zB ?_
  exact J_q (J_b (ih (s9.1.set s9.2.toNat x11,w64 (s9.2+1)))) rfl
 ·exact yF (hk s9.1) rfl
theorem zBc.ok (a1:(List ByteArray)):Ok Tryz.prog 122 [sl 1 eStr a1] [] ((zBc a1).map fun r=>(so 1 eStr r,[])):=by
 refine zH zPY Tryz.f122 0 22 (fun q=>?_)
 unfold zBc
 refine J_d 2 [] [] [] [] [] zB ?_
 refine zA (fun x2 h3=>?_)
 refine J_g 6 [] [(0,sl 1 eStr a1),(3,rr 0 x2)] [(0,rE 1 eStr x2)] (zD 2 (zPd 86 9 1 16 0 eStr ByteArray.empty (.tmp 6) h3 (.keep rfl (.nil))) zB) ?_
 refine J_d 28 [] [4] [(4,iv 0)] [] [] zB ?_
 refine zEM (zBr.ok a1 q _ (fun v15=>J_j ?_) (x2,0))
 refine J_g 30 [] [(2,rr 0 v15)] [(0,rE 1 eStr v15)] zB ?_
 exact zAM (ds:=[rr 0 v15]) (ds':=[so 1 eStr v15]) (.cons (.cell (.move (.head _) (List.length_map _) (by decide) (.nil))) (.nil) (by decide)) rfl
noncomputable def c198:Code:=(Tryz.f198.body).getD .skip
theorem zDk.ok (a1:Term):Ok Tryz.prog 198 [.ag (Term.enc a1)] [] ((zDk a1).map fun r=>(.ag (Term.enc r),[])):=by
 refine zH c198 Tryz.f198 0 16 (fun q=>?_)
 unfold zDk
 refine J_g 2 [(0,0),(1,1)] [(1,pp 0),(2,pp 1)] [(0,.box (Term.enc a1)),(1,.box [sv ByteArray.empty,iv 0,iv 0,iv 0,iv 0,iv 0,iv 0])] zB ?_
 refine J_g 6 [(0,2)] [(1,pp 0),(2,pp 1),(3,pp 2)] [(0,.box (Term.enc a1)),(1,.box [sv ByteArray.empty,iv 0,iv 0,iv 0,iv 0,iv 0,iv 0]),(2,.box [sv ByteArray.empty,iv 0,iv 0,iv 0,iv 0,iv 0,iv 0])] zB ?_
 refine J_d 14 [] [] [] [2] [(2,.box [sv a1.Name,iv 0,iv 0,iv 0,iv 0,iv 0,iv 0])] zB ?_
 refine zA (fun x2 h3=>?_)
 refine J_d 30 [] [] [] [2] [(2,.box [sv a1.Name,iv x2.A,iv x2.B,iv x2.C,iv 0,iv 0,iv 0])] (zD 2 (xL [(.tmp 8)] [85] (vF.ok a1.Low) h3) zB) ?_
 refine zA (fun x4 h5=>?_)
 refine J_g 62 [] [(2,pp 1),(3,pp 2)] [(1,.box [sv ByteArray.empty,iv 0,iv 0,iv 0,iv 0,iv 0,iv 0]),(2,.box [sv a1.Name,iv x2.A,iv x2.B,iv x2.C,iv x4.A,iv x4.B,iv x4.C])] (zD 2 (xL [(.tmp 12)] [85] (vF.ok a1.High) h5) zB) ?_
 refine J_g 126 [] [(2,pp 1)] [(1,.box [sv a1.Name,iv x2.A,iv x2.B,iv x2.C,iv x4.A,iv x4.B,iv x4.C])] zB ?_
 exact zR rfl
noncomputable def c124:Code:=(Tryz.f124.body).getD .skip
theorem zCw.ok (a1:(List Term)) (q:Wd) (kn:(List Term)→Option (D×List Ent)) (hk:∀v:(List Term),J (q.g Tryz.prog 124 0 23) c124 (atI c124 15) (St.mk' [(3,rr 0 v)] [(0,rE 7 Term.enc v)]) (some v) kn):
  ∀s11:((List Term)×Int),J (q.g Tryz.prog 124 0 23) c124 (atI c124 116) (St.mk' [(0,sl 7 Term.enc a1),(3,rr 0 s11.1),(4,iv s11.2)] [(0,rE 7 Term.enc s11.1)]) (zCw a1 s11) kn:=by
 refine kP (fun g ih s11=>?_)
 unfold zDb
 refine J_d 464 [] [11] [(11,bv (decide (s11.2< (a1.length:Int))))] [] [] zB ?_
 refine zF 11 (fun h12=>?_) (fun h12=>?_)
 ·refine zA (fun x13 h14=>?_)
  refine zA (fun x15 h16=>?_)
  refine zA (fun x17 h18=>?_)
  refine J_g 932 [] [(0,sl 7 Term.enc a1),(3,rr 0 s11.1),(4,iv s11.2)] [(0,rE 7 Term.enc (s11.1.set s11.2.toNat x15))] (zD 4 (zAg (kk:=.i64) 88 224 7 Term.enc (.tmp 16) (.tmp 17) h14) (zD 6 (xL [(.tmp 19)] [224] (zDk.ok x13) h16) (zD 7 (wM (kk:=.i64) 75 149 7 0 Term.enc (.tmp 14) (.tmp 15) h18) (zF1 8 (zGE (b:=x15) 149 7 0 0 Term.enc (.ag (Term.enc x15)) (.tmp 21) (.tmp 20) h18 rfl) zB)))) ?_
  refine zE5 (σ':=St.mk' [(0,sl 7 Term.enc a1),(3,rr 0 (s11.1.set s11.2.toNat x15)),(4,iv s11.2)] [(0,rE 7 Term.enc (s11.1.set s11.2.toNat x15))]) (by simp only [rr,List.length_set]) ?_
  refine J_d 467 [] [4] [(4,iv (w64 (s11.2+1)))] [] [] zB ?_
  exact J_q (J_b (ih (s11.1.set s11.2.toNat x15,w64 (s11.2+1)))) rfl
 ·exact yF (hk s11.1) rfl
theorem zA7.ok (a1:(List Term)):Ok Tryz.prog 124 [sl 7 Term.enc a1] [] ((zA7 a1).map fun r=>(so 7 Term.enc r,[])):=by
 refine zH c124 Tryz.f124 0 23 (fun q=>?_)
 unfold zA7
 refine J_d 2 [] [] [] [] [] zB ?_
 refine zA (fun x2 h3=>?_)
 refine J_g 6 [] [(0,sl 7 Term.enc a1),(3,rr 0 x2)] [(0,rE 7 Term.enc x2)] (zD 2 (zPd 75 149 7 64 0 Term.enc ({Name:=ByteArray.empty,Low:=({A:=0,B:=0,C:=0}:Version),High:=({A:=0,B:=0,C:=0}:Version)}:Term) (.tmp 6) h3 (.keep rfl (.keep rfl (.keep rfl (.keep rfl (.keep rfl (.keep rfl (.keep rfl (.nil))))))))) zB) ?_
 refine J_d 28 [] [4] [(4,iv 0)] [] [] zB ?_
 refine zEM (zCw.ok a1 q _ (fun v19=>J_j ?_) (x2,0))
 refine J_g 30 [] [(2,rr 0 v19)] [(0,rE 7 Term.enc v19)] zB ?_
 exact zAM (ds:=[rr 0 v19]) (ds':=[so 7 Term.enc v19]) (.cons (.cell (.move (.head _) (List.length_map _) (by decide) (.nil))) (.nil) (by decide)) rfl
noncomputable def zPJ:Code:=(Tryz.f123.body).getD .skip
theorem zBQ.ok (a1:(List (List Term))) (q:Wd) (kn:(List (List Term))→Option (D×List Ent)) (hk:∀v:(List (List Term)),J (q.g Tryz.prog 123 0 23) zPJ (atI zPJ 15) (St.mk' [(3,rr 0 v)] [(0,rE 1 (eSl true 7 Term.enc) v)]) (some v) kn):
  ∀s11:((List (List Term))×Int),J (q.g Tryz.prog 123 0 23) zPJ (atI zPJ 116) (St.mk' [(0,sl 1 (eSl false 7 Term.enc) a1),(3,rr 0 s11.1),(4,iv s11.2)] [(0,rE 1 (eSl true 7 Term.enc) s11.1)]) (zBQ a1 s11) kn:=by
 refine kP (fun g ih s11=>?_)
 unfold zCJ
 refine J_d 464 [] [11] [(11,bv (decide (s11.2< (a1.length:Int))))] [] [] zB ?_
 refine zF 11 (fun h12=>?_) (fun h12=>?_)
 ·refine zA (fun x13 h14=>?_)
  refine zA (fun x15 h16=>?_)
  refine zA (fun x17 h18=>?_)
  refine J_g 932 [] [(0,sl 1 (eSl false 7 Term.enc) a1),(3,rr 0 s11.1),(4,iv s11.2)] [(0,rE 1 (eSl true 7 Term.enc) (s11.1.set s11.2.toNat x15))] (zD 4 (zAg (kk:=.i64) 87 88 1 (eSl false 7 Term.enc) (.tmp 16) (.tmp 17) h14) (zD 6 (wG («as»:=[sl 7 Term.enc x13]) [(.tmp 19)] [88] false [] [] (.cons (.same rfl) (.nil)) (zA7.ok x13) h16 (.own 1)) (zD 7 (wM (kk:=.i64) 100 75 1 0 (eSl true 7 Term.enc) (.tmp 14) (.tmp 15) h18) (zF1 8 (zOQ (b:=x15) (es':=[so 7 Term.enc x15]) (ts:=[1]) 75 1 0 0 (eSl true 7 Term.enc) (rr 1 x15) (.tmp 21) (.tmp 20) [(1,rE 7 Term.enc x15)] h18 (.move (.head _) (List.length_map _) (by decide) (.nil)) rfl) zB)))) ?_
  refine zE5 (σ':=St.mk' [(0,sl 1 (eSl false 7 Term.enc) a1),(3,rr 0 (s11.1.set s11.2.toNat x15)),(4,iv s11.2)] [(0,rE 1 (eSl true 7 Term.enc) (s11.1.set s11.2.toNat x15))]) (by simp only [rr,List.length_set]) ?_
  refine J_d 467 [] [4] [(4,iv (w64 (s11.2+1)))] [] [] zB ?_
  exact J_q (J_b (ih (s11.1.set s11.2.toNat x15,w64 (s11.2+1)))) rfl
 ·exact yF (hk s11.1) rfl
theorem zB0.ok (a1:(List (List Term))):Ok Tryz.prog 123 [sl 1 (eSl false 7 Term.enc) a1] [] ((zB0 a1).map fun r=>(so 1 (eSl true 7 Term.enc) r,[])):=by
 refine zH zPJ Tryz.f123 0 23 (fun q=>?_)
 unfold zB0
 refine J_d 2 [] [] [] [] [] zB ?_
 refine zA (fun x2 h3=>?_)
 refine J_g 6 [] [(0,sl 1 (eSl false 7 Term.enc) a1),(3,rr 0 x2)] [(0,rE 1 (eSl true 7 Term.enc) x2)] (zD 2 (zPd 100 75 1 24 0 (eSl true 7 Term.enc) ([]:List Term) (.tmp 6) h3 (.nilsl true 7 (.nil))) zB) ?_
 refine J_d 28 [] [4] [(4,iv 0)] [] [] zB ?_
 refine zEM (zBQ.ok a1 q _ (fun v19=>J_j ?_) (x2,0))
 refine J_g 30 [] [(2,rr 0 v19)] [(0,rE 1 (eSl true 7 Term.enc) v19)] zB ?_
 exact zAM (ds:=[rr 0 v19]) (ds':=[so 1 (eSl true 7 Term.enc) v19]) (.cons (.cell (.move (.head _) (List.length_map _) (by decide) (.nil))) (.nil) (by decide)) rfl
noncomputable def c60:Code:=(Tryz.f60.body).getD .skip
theorem zDq.ok (a1:Pack):Ok Tryz.prog 60 [.ag (Pack.enc false a1)] [] ((zDq a1).map fun r=>(.ag [sv r.Name,iv r.Version.A,iv r.Version.B,iv r.Version.C,iv r.Size,so 1 eStr r.Provides,so 1 (eSl true 7 Term.enc) r.Needs,so 7 Term.enc r.Bars],[])):=by
 refine zH c60 Tryz.f60 0 27 (fun q=>?_)
 unfold zDq
 refine J_g 2 [(0,0),(1,1)] [(1,pp 0),(2,pp 1)] [(0,.box (Pack.enc false a1)),(1,.box [sv ByteArray.empty,iv 0,iv 0,iv 0,iv 0,nv,nv,nv])] zB ?_
 refine J_g 6 [(0,2)] [(1,pp 0),(2,pp 1),(3,pp 2)] [(0,.box (Pack.enc false a1)),(1,.box [sv ByteArray.empty,iv 0,iv 0,iv 0,iv 0,nv,nv,nv]),(2,.box [sv ByteArray.empty,iv 0,iv 0,iv 0,iv 0,nv,nv,nv])] zB ?_
 refine J_d 14 [] [] [] [2] [(2,.box [sv a1.Name,iv 0,iv 0,iv 0,iv 0,nv,nv,nv])] zB ?_
 refine zA (fun x2 h3=>?_)
 refine J_g 30 [] [(1,pp 0),(2,pp 1),(3,pp 2)] [(0,.box (Pack.enc false a1)),(1,.box [sv ByteArray.empty,iv 0,iv 0,iv 0,iv 0,nv,nv,nv]),(2,.box [sv a1.Name,iv x2.A,iv x2.B,iv x2.C,iv 0,nv,nv,nv])] (zD 2 (xL [(.tmp 8)] [85] (vF.ok a1.Version) h3) zB) ?_
 refine J_d 62 [] [] [] [2] [(2,.box [sv a1.Name,iv x2.A,iv x2.B,iv x2.C,iv a1.Size,nv,nv,nv])] zB ?_
 refine zA (fun x4 h5=>?_)
 refine J_d 126 [] [] [] [2,3] [(2,.box [sv a1.Name,iv x2.A,iv x2.B,iv x2.C,iv a1.Size,rr 3 x4,nv,nv]),(3,rE 1 eStr x4)] (zD 2 (wG («as»:=[sl 1 eStr a1.Provides]) [(.tmp 15)] [86] false [] [] (.cons (.same rfl) (.nil)) (zBc.ok a1.Provides) h5 (.own 3)) zB) ?_
 refine zA (fun x6 h7=>?_)
 refine J_d 254 [] [] [] [2,4] [(2,.box [sv a1.Name,iv x2.A,iv x2.B,iv x2.C,iv a1.Size,rr 3 x4,rr 4 x6,nv]),(4,rE 1 (eSl true 7 Term.enc) x6)] (zD 2 (wG («as»:=[sl 1 (eSl false 7 Term.enc) a1.Needs]) [(.tmp 19)] [87] false [] [] (.cons (.same rfl) (.nil)) (zB0.ok a1.Needs) h7 (.own 4)) zB) ?_
 refine zA (fun x8 h9=>?_)
 refine J_g 510 [] [(2,pp 1),(3,pp 2)] [(1,.box [sv ByteArray.empty,iv 0,iv 0,iv 0,iv 0,nv,nv,nv]),(2,.box [sv a1.Name,iv x2.A,iv x2.B,iv x2.C,iv a1.Size,rr 3 x4,rr 4 x6,rr 5 x8]),(3,rE 1 eStr x4),(4,rE 1 (eSl true 7 Term.enc) x6),(5,rE 7 Term.enc x8)] (zD 2 (wG («as»:=[sl 7 Term.enc a1.Bars]) [(.tmp 23)] [88] false [] [] (.cons (.same rfl) (.nil)) (zA7.ok a1.Bars) h9 (.own 5)) zB) ?_
 refine J_g 1022 [] [(2,pp 1)] [(1,.box [sv a1.Name,iv x2.A,iv x2.B,iv x2.C,iv a1.Size,rr 3 x4,rr 4 x6,rr 5 x8]),(3,rE 1 eStr x4),(4,rE 1 (eSl true 7 Term.enc) x6),(5,rE 7 Term.enc x8)] zB ?_
 exact zAM (ds:=[.ag [sv a1.Name,iv x2.A,iv x2.B,iv x2.C,iv a1.Size,rr 3 x4,rr 4 x6,rr 5 x8]]) (ds':=[.ag [sv a1.Name,iv x2.A,iv x2.B,iv x2.C,iv a1.Size,so 1 eStr x4,so 1 (eSl true 7 Term.enc) x6,so 7 Term.enc x8]]) (.cons (.ag (.keep rfl (.keep rfl (.keep rfl (.keep rfl (.keep rfl (.move (.tail _ (.head _)) (List.length_map _) (by decide) (.move (.tail _ (.tail _ (.head _))) (List.length_map _) (by decide) (.move (.tail _ (.tail _ (.tail _ (.head _)))) (List.length_map _) (by decide) (.nil)))))))))) (.nil) (by decide)) rfl
noncomputable def c16:Code:=(Tryz.f16.body).getD .skip
theorem zC8.ok (a1:(List Pack)) (q:Wd) (kn:(List Pack)→Option (D×List Ent)) (hk:∀v:(List Pack),J (q.g Tryz.prog 16 0 23) c16 (atI c16 15) (St.mk' [(3,rr 0 v)] [(0,rE 8 (Pack.enc true) v)]) (some v) kn):
  ∀s11:((List Pack)×Int),J (q.g Tryz.prog 16 0 23) c16 (atI c16 116) (St.mk' [(0,sl 8 (Pack.enc false) a1),(3,rr 0 s11.1),(4,iv s11.2)] [(0,rE 8 (Pack.enc true) s11.1)]) (zC8 a1 s11) kn:=by
 refine kP (fun g ih s11=>?_)
 unfold zDc
 refine J_d 464 [] [11] [(11,bv (decide (s11.2< (a1.length:Int))))] [] [] zB ?_
 refine zF 11 (fun h12=>?_) (fun h12=>?_)
 ·refine zA (fun x13 h14=>?_)
  refine zA (fun x15 h16=>?_)
  refine zA (fun x17 h18=>?_)
  refine J_g 932 [] [(0,sl 8 (Pack.enc false) a1),(3,rr 0 s11.1),(4,iv s11.2)] [(0,rE 8 (Pack.enc true) (s11.1.set s11.2.toNat x15))] (zD 4 (zAg (kk:=.i64) 22 90 8 (Pack.enc false) (.tmp 16) (.tmp 17) h14) (zD 6 (wG («as»:=[.ag (Pack.enc false x13)]) [(.tmp 19)] [90] false [] [] (.cons (.same rfl) (.nil)) (zDq.ok x13) h16 (.ag (.cons (.same rfl rfl) (.cons (.same rfl rfl) (.cons (.same rfl rfl) (.cons (.same rfl rfl) (.cons (.same rfl rfl) (.cons (.own 1) (.cons (.own 2) (.cons (.own 3) (.nil))))))))))) (zD 7 (wM (kk:=.i64) 30 102 8 0 (Pack.enc true) (.tmp 14) (.tmp 15) h18) (zF1 8 (zOQ (b:=x15) (es':=[sv x15.Name,iv x15.Version.A,iv x15.Version.B,iv x15.Version.C,iv x15.Size,so 1 eStr x15.Provides,so 1 (eSl true 7 Term.enc) x15.Needs,so 7 Term.enc x15.Bars]) (ts:=[1,2,3]) 102 8 0 0 (Pack.enc true) (.ag [sv x15.Name,iv x15.Version.A,iv x15.Version.B,iv x15.Version.C,iv x15.Size,rr 1 x15.Provides,rr 2 x15.Needs,rr 3 x15.Bars]) (.tmp 21) (.tmp 20) [(1,rE 1 eStr x15.Provides),(2,rE 1 (eSl true 7 Term.enc) x15.Needs),(3,rE 7 Term.enc x15.Bars)] h18 (.keep rfl (.keep rfl (.keep rfl (.keep rfl (.keep rfl (.move (.head _) (List.length_map _) (by decide) (.move (.tail _ (.head _)) (List.length_map _) (by decide) (.move (.tail _ (.tail _ (.head _))) (List.length_map _) (by decide) (.nil))))))))) rfl) zB)))) ?_
  refine zE5 (σ':=St.mk' [(0,sl 8 (Pack.enc false) a1),(3,rr 0 (s11.1.set s11.2.toNat x15)),(4,iv s11.2)] [(0,rE 8 (Pack.enc true) (s11.1.set s11.2.toNat x15))]) (by simp only [rr,List.length_set]) ?_
  refine J_d 467 [] [4] [(4,iv (w64 (s11.2+1)))] [] [] zB ?_
  exact J_q (J_b (ih (s11.1.set s11.2.toNat x15,w64 (s11.2+1)))) rfl
 ·exact yF (hk s11.1) rfl
theorem vO.ok (a1:(List Pack)):Ok Tryz.prog 16 [sl 8 (Pack.enc false) a1] [] ((vO a1).map fun r=>(so 8 (Pack.enc true) r,[])):=by
 refine zH c16 Tryz.f16 0 23 (fun q=>?_)
 unfold vO
 refine J_d 2 [] [] [] [] [] zB ?_
 refine zA (fun x2 h3=>?_)
 refine J_g 6 [] [(0,sl 8 (Pack.enc false) a1),(3,rr 0 x2)] [(0,rE 8 (Pack.enc true) x2)] (zD 2 (zPd 30 102 8 120 0 (Pack.enc true) ({Name:=ByteArray.empty,Version:=({A:=0,B:=0,C:=0}:Version),Size:=0,Provides:=([]:List ByteArray),Needs:=([]:List (List Term)),Bars:=([]:List Term)}:Pack) (.tmp 6) h3 (.keep rfl (.keep rfl (.keep rfl (.keep rfl (.keep rfl (.nilsl true 1 (.nilsl true 1 (.nilsl true 7 (.nil)))))))))) zB) ?_
 refine J_d 28 [] [4] [(4,iv 0)] [] [] zB ?_
 refine zEM (zC8.ok a1 q _ (fun v19=>J_j ?_) (x2,0))
 refine J_g 30 [] [(2,rr 0 v19)] [(0,rE 8 (Pack.enc true) v19)] zB ?_
 exact zAM (ds:=[rr 0 v19]) (ds':=[so 8 (Pack.enc true) v19]) (.cons (.cell (.move (.head _) (List.length_map _) (by decide) (.nil))) (.nil) (by decide)) rfl
noncomputable def zPI:Code:=(Tryz.f199.body).getD .skip
theorem zCn.ok (a1:(List Int)) (q:Wd) (kn:(List Int)→Option (D×List Ent)) (hk:∀v:(List Int),J (q.g Tryz.prog 199 0 22) zPI (atI zPI 15) (St.mk' [(3,rr 0 v)] [(0,rE 1 eU8 v)]) (some v) kn):
  ∀s9:((List Int)×Int),J (q.g Tryz.prog 199 0 22) zPI (atI zPI 116) (St.mk' [(0,sl 1 eU8 a1),(3,rr 0 s9.1),(4,iv s9.2)] [(0,rE 1 eU8 s9.1)]) (zCn a1 s9) kn:=by
 refine kP (fun g ih s9=>?_)
 unfold zDd
 refine J_d 464 [] [11] [(11,bv (decide (s9.2< (a1.length:Int))))] [] [] zB ?_
 refine zF 11 (fun h10=>?_) (fun h10=>?_)
 ·refine zA (fun x11 h12=>?_)
  refine zA (fun x13 h14=>?_)
  refine J_g 932 [] [(0,sl 1 eU8 a1),(3,rr 0 s9.1),(4,iv s9.2)] [(0,rE 1 eU8 (s9.1.set s9.2.toNat x11))] (zD 4 (zAg (kk:=.i64) 121 5 1 eU8 (.tmp 16) (.tmp 17) h12) (zD 6 (wM (kk:=.i64) 121 5 1 0 eU8 (.tmp 14) (.tmp 15) h14) (zF1 7 (zGE (b:=x11) 5 1 0 0 eU8 (uv x11) (.tmp 20) (.tmp 19) h14 rfl) zB))) ?_
  refine zE5 (σ':=St.mk' [(0,sl 1 eU8 a1),(3,rr 0 (s9.1.set s9.2.toNat x11)),(4,iv s9.2)] [(0,rE 1 eU8 (s9.1.set s9.2.toNat x11))]) (by simp only [rr,List.length_set]) ?_
  refine J_d 467 [] [4] [(4,iv (w64 (s9.2+1)))] [] [] zB ?_
  exact J_q (J_b (ih (s9.1.set s9.2.toNat x11,w64 (s9.2+1)))) rfl
 ·exact yF (hk s9.1) rfl
theorem zC0.ok (a1:(List Int)):Ok Tryz.prog 199 [sl 1 eU8 a1] [] ((zC0 a1).map fun r=>(so 1 eU8 r,[])):=by
 refine zH zPI Tryz.f199 0 22 (fun q=>?_)
 unfold zC0
 refine J_g 2 [] [(0,sl 1 eU8 a1)] [] zB ?_
 refine zA (fun x2 h3=>?_)
 refine J_g 6 [] [(0,sl 1 eU8 a1),(3,rr 0 x2)] [(0,rE 1 eU8 x2)] (zD 2 (zPd 121 5 1 1 0 eU8 0 (.tmp 6) h3 (.keep rfl (.nil))) zB) ?_
 refine J_d 28 [] [4] [(4,iv 0)] [] [] zB ?_
 refine zEM (zCn.ok a1 q _ (fun v15=>J_j ?_) (x2,0))
 refine J_g 30 [] [(2,rr 0 v15)] [(0,rE 1 eU8 v15)] zB ?_
 exact zAM (ds:=[rr 0 v15]) (ds':=[so 1 eU8 v15]) (.cons (.cell (.move (.head _) (List.length_map _) (by decide) (.nil))) (.nil) (by decide)) rfl
noncomputable def zRh:Code:=(Tryz.f125.body).getD .skip
theorem zDr.ok (a1:File):Ok Tryz.prog 125 [.ag (File.enc false a1)] [] ((zDr a1).map fun r=>(.ag [sv r.Path,so 1 eU8 r.Data],[])):=by
 refine zH zRh Tryz.f125 0 12 (fun q=>?_)
 unfold zDr
 refine J_g 2 [(0,0),(1,1)] [(1,pp 0),(2,pp 1)] [(0,.box (File.enc false a1)),(1,.box [sv ByteArray.empty,nv])] zB ?_
 refine J_g 6 [(0,2)] [(1,pp 0),(2,pp 1),(3,pp 2)] [(0,.box (File.enc false a1)),(1,.box [sv ByteArray.empty,nv]),(2,.box [sv ByteArray.empty,nv])] zB ?_
 refine J_d 14 [] [] [] [2] [(2,.box [sv a1.Path,nv])] zB ?_
 refine zA (fun x2 h3=>?_)
 refine J_g 30 [] [(2,pp 1),(3,pp 2)] [(1,.box [sv ByteArray.empty,nv]),(2,.box [sv a1.Path,rr 3 x2]),(3,rE 1 eU8 x2)] (zD 2 (wG («as»:=[sl 1 eU8 a1.Data]) [(.tmp 8)] [121] false [] [] (.cons (.same rfl) (.nil)) (zC0.ok a1.Data) h3 (.own 3)) zB) ?_
 refine J_g 62 [] [(2,pp 1)] [(1,.box [sv a1.Path,rr 3 x2]),(3,rE 1 eU8 x2)] zB ?_
 exact zAM (ds:=[.ag [sv a1.Path,rr 3 x2]]) (ds':=[.ag [sv a1.Path,so 1 eU8 x2]]) (.cons (.ag (.keep rfl (.move (.tail _ (.head _)) (List.length_map _) (by decide) (.nil)))) (.nil) (by decide)) rfl
noncomputable def c61:Code:=(Tryz.f61.body).getD .skip
theorem zC2.ok (a1:(List File)) (q:Wd) (kn:(List File)→Option (D×List Ent)) (hk:∀v:(List File),J (q.g Tryz.prog 61 0 23) c61 (atI c61 15) (St.mk' [(3,rr 0 v)] [(0,rE 2 (File.enc true) v)]) (some v) kn):
  ∀s11:((List File)×Int),J (q.g Tryz.prog 61 0 23) c61 (atI c61 116) (St.mk' [(0,sl 2 (File.enc false) a1),(3,rr 0 s11.1),(4,iv s11.2)] [(0,rE 2 (File.enc true) s11.1)]) (zC2 a1 s11) kn:=by
 refine kP (fun g ih s11=>?_)
 unfold zDe
 refine J_d 464 [] [11] [(11,bv (decide (s11.2< (a1.length:Int))))] [] [] zB ?_
 refine zF 11 (fun h12=>?_) (fun h12=>?_)
 ·refine zA (fun x13 h14=>?_)
  refine zA (fun x15 h16=>?_)
  refine zA (fun x17 h18=>?_)
  refine J_g 932 [] [(0,sl 2 (File.enc false) a1),(3,rr 0 s11.1),(4,iv s11.2)] [(0,rE 2 (File.enc true) (s11.1.set s11.2.toNat x15))] (zD 4 (zAg (kk:=.i64) 23 158 2 (File.enc false) (.tmp 16) (.tmp 17) h14) (zD 6 (wG («as»:=[.ag (File.enc false x13)]) [(.tmp 19)] [158] false [] [] (.cons (.same rfl) (.nil)) (zDr.ok x13) h16 (.ag (.cons (.same rfl rfl) (.cons (.own 1) (.nil))))) (zD 7 (wM (kk:=.i64) 31 138 2 0 (File.enc true) (.tmp 14) (.tmp 15) h18) (zF1 8 (zOQ (b:=x15) (es':=[sv x15.Path,so 1 eU8 x15.Data]) (ts:=[1]) 138 2 0 0 (File.enc true) (.ag [sv x15.Path,rr 1 x15.Data]) (.tmp 21) (.tmp 20) [(1,rE 1 eU8 x15.Data)] h18 (.keep rfl (.move (.head _) (List.length_map _) (by decide) (.nil))) rfl) zB)))) ?_
  refine zE5 (σ':=St.mk' [(0,sl 2 (File.enc false) a1),(3,rr 0 (s11.1.set s11.2.toNat x15)),(4,iv s11.2)] [(0,rE 2 (File.enc true) (s11.1.set s11.2.toNat x15))]) (by simp only [rr,List.length_set]) ?_
  refine J_d 467 [] [4] [(4,iv (w64 (s11.2+1)))] [] [] zB ?_
  exact J_q (J_b (ih (s11.1.set s11.2.toNat x15,w64 (s11.2+1)))) rfl
 ·exact yF (hk s11.1) rfl
theorem zCx.ok (a1:(List File)):Ok Tryz.prog 61 [sl 2 (File.enc false) a1] [] ((zCx a1).map fun r=>(so 2 (File.enc true) r,[])):=by
 refine zH c61 Tryz.f61 0 23 (fun q=>?_)
 unfold zCx
 refine J_d 2 [] [] [] [] [] zB ?_
 refine zA (fun x2 h3=>?_)
 refine J_g 6 [] [(0,sl 2 (File.enc false) a1),(3,rr 0 x2)] [(0,rE 2 (File.enc true) x2)] (zD 2 (zPd 31 138 2 40 0 (File.enc true) ({Path:=ByteArray.empty,Data:=([]:List Int)}:File) (.tmp 6) h3 (.keep rfl (.nilsl true 1 (.nil)))) zB) ?_
 refine J_d 28 [] [4] [(4,iv 0)] [] [] zB ?_
 refine zEM (zC2.ok a1 q _ (fun v19=>J_j ?_) (x2,0))
 refine J_g 30 [] [(2,rr 0 v19)] [(0,rE 2 (File.enc true) v19)] zB ?_
 exact zAM (ds:=[rr 0 v19]) (ds':=[so 2 (File.enc true) v19]) (.cons (.cell (.move (.head _) (List.length_map _) (by decide) (.nil))) (.nil) (by decide)) rfl
noncomputable def c17:Code:=(Tryz.f17.body).getD .skip
theorem tO.ok (a1:zC):Ok Tryz.prog 17 [.ag (zC.enc false a1)] [] ((tO a1).map fun r=>(.ag (zC.enc true r),[])):=by
 refine zH c17 Tryz.f17 0 21 (fun q=>?_)
 unfold tO
 refine J_g 2 [(0,0),(1,1)] [(1,pp 0),(2,pp 1)] [(0,.box (zC.enc false a1)),(1,.box [nv,iv 0,iv 0,iv 0,bv false])] zB ?_
 refine J_d 6 [(0,2)] [3] [(3,pp 2)] [2] [(2,.box [nv,iv 0,iv 0,iv 0,bv false])] zB ?_
 refine zA (fun x2 h3=>?_)
 refine J_g 14 [] [(1,pp 0),(2,pp 1),(3,pp 2)] [(0,.box (zC.enc false a1)),(1,.box [nv,iv 0,iv 0,iv 0,bv false]),(2,.box [rr 3 x2,iv 0,iv 0,iv 0,bv false]),(3,rE 2 (File.enc true) x2)] (zD 2 (wG («as»:=[sl 2 (File.enc false) a1.Files]) [(.tmp 5)] [23] false [] [] (.cons (.same rfl) (.nil)) (zCx.ok a1.Files) h3 (.own 3)) zB) ?_
 refine J_g 30 [] [(1,pp 0),(2,pp 1),(3,pp 2)] [(0,.box (zC.enc false a1)),(1,.box [nv,iv 0,iv 0,iv 0,bv false]),(2,.box [rr 3 x2,iv a1.Budget,iv 0,iv 0,bv false]),(3,rE 2 (File.enc true) x2)] zB ?_
 refine J_g 62 [] [(1,pp 0),(2,pp 1),(3,pp 2)] [(0,.box (zC.enc false a1)),(1,.box [nv,iv 0,iv 0,iv 0,bv false]),(2,.box [rr 3 x2,iv a1.Budget,iv a1.Writes,iv 0,bv false]),(3,rE 2 (File.enc true) x2)] zB ?_
 refine J_g 126 [] [(1,pp 0),(2,pp 1),(3,pp 2)] [(0,.box (zC.enc false a1)),(1,.box [nv,iv 0,iv 0,iv 0,bv false]),(2,.box [rr 3 x2,iv a1.Budget,iv a1.Writes,iv a1.Stop,bv false]),(3,rE 2 (File.enc true) x2)] zB ?_
 refine J_g 254 [] [(2,pp 1),(3,pp 2)] [(1,.box [nv,iv 0,iv 0,iv 0,bv false]),(2,.box [rr 3 x2,iv a1.Budget,iv a1.Writes,iv a1.Stop,bv a1.Down]),(3,rE 2 (File.enc true) x2)] zB ?_
 refine J_g 510 [] [(2,pp 1)] [(1,.box [rr 3 x2,iv a1.Budget,iv a1.Writes,iv a1.Stop,bv a1.Down]),(3,rE 2 (File.enc true) x2)] zB ?_
 exact zAM (ds:=[.ag [rr 3 x2,iv a1.Budget,iv a1.Writes,iv a1.Stop,bv a1.Down]]) (ds':=[.ag [so 2 (File.enc true) x2,iv a1.Budget,iv a1.Writes,iv a1.Stop,bv a1.Down]]) (.cons (.ag (.move (.tail _ (.head _)) (List.length_map _) (by decide) (.keep rfl (.keep rfl (.keep rfl (.keep rfl (.nil))))))) (.nil) (by decide)) rfl
noncomputable def c18:Code:=(Tryz.f18.body).getD .skip
theorem zBB.ok (a1:(List Int)) (q:Wd) (kn:(List Int)→Option (D×List Ent)) (hk:∀v:(List Int),J (q.g Tryz.prog 18 0 22) c18 (atI c18 15) (St.mk' [(3,rr 0 v)] [(0,rE 1 zG v)]) (some v) kn):
  ∀s9:((List Int)×Int),J (q.g Tryz.prog 18 0 22) c18 (atI c18 116) (St.mk' [(0,sl 1 zG a1),(3,rr 0 s9.1),(4,iv s9.2)] [(0,rE 1 zG s9.1)]) (zBB a1 s9) kn:=by
 refine kP (fun g ih s9=>?_)
 unfold zCI
 refine J_d 464 [] [11] [(11,bv (decide (s9.2< (a1.length:Int))))] [] [] zB ?_
 refine zF 11 (fun h10=>?_) (fun h10=>?_)
 ·refine zA (fun x11 h12=>?_)
  refine zA (fun x13 h14=>?_)
  refine J_g 932 [] [(0,sl 1 zG a1),(3,rr 0 s9.1),(4,iv s9.2)] [(0,rE 1 zG (s9.1.set s9.2.toNat x11))] (zD 4 (zAg (kk:=.i64) 39 2 1 zG (.tmp 16) (.tmp 17) h12) (zD 6 (wM (kk:=.i64) 39 2 1 0 zG (.tmp 14) (.tmp 15) h14) (zF1 7 (zGE (b:=x11) 2 1 0 0 zG (iv x11) (.tmp 20) (.tmp 19) h14 rfl) zB))) ?_
  refine zE5 (σ':=St.mk' [(0,sl 1 zG a1),(3,rr 0 (s9.1.set s9.2.toNat x11)),(4,iv s9.2)] [(0,rE 1 zG (s9.1.set s9.2.toNat x11))]) (by simp only [rr,List.length_set]) ?_
  refine J_d 467 [] [4] [(4,iv (w64 (s9.2+1)))] [] [] zB ?_
  exact J_q (J_b (ih (s9.1.set s9.2.toNat x11,w64 (s9.2+1)))) rfl
 ·exact yF (hk s9.1) rfl
theorem wN.ok (a1:(List Int)):Ok Tryz.prog 18 [sl 1 zG a1] [] ((wN a1).map fun r=>(so 1 zG r,[])):=by
 refine zH c18 Tryz.f18 0 22 (fun q=>?_)
 unfold wN
 refine J_d 2 [] [] [] [] [] zB ?_
 refine zA (fun x2 h3=>?_)
 refine J_g 6 [] [(0,sl 1 zG a1),(3,rr 0 x2)] [(0,rE 1 zG x2)] (zD 2 (zPd 39 2 1 8 0 zG 0 (.tmp 6) h3 (.keep rfl (.nil))) zB) ?_
 refine J_d 28 [] [4] [(4,iv 0)] [] [] zB ?_
 refine zEM (zBB.ok a1 q _ (fun v15=>J_j ?_) (x2,0))
 refine J_g 30 [] [(2,rr 0 v15)] [(0,rE 1 zG v15)] zB ?_
 exact zAM (ds:=[rr 0 v15]) (ds':=[so 1 zG v15]) (.cons (.cell (.move (.head _) (List.length_map _) (by decide) (.nil))) (.nil) (by decide)) rfl
noncomputable def zR3:Code:=(Tryz.f289.body).getD .skip
theorem vI.ok (a1:Int):Ok Tryz.prog 289 [uv a1] [] ((vI a1).map fun r=>(bv r,[])):=by
 refine zH zR3 Tryz.f289 0 9 (fun q=>?_)
 unfold vI
 refine J_g 2 [] [(0,uv a1)] [] zB ?_
 refine wJ (fun h2=>?_) (fun h2=>?_)
 ·refine J_g 6 [] [(2,bv (decide (a1≤122)))] [] (xU 2 [(4,bv (decide (a1≥97)))] [] h2 zB) ?_
  exact zR rfl
 ·refine J_g 6 [] [(2,bv false)] [] (xU 2 [(4,bv (decide (a1≥97)))] [] h2 zB) ?_
  exact zR rfl
noncomputable def c233:Code:=(Tryz.f233.body).getD .skip
theorem vN.ok (a1:Int):Ok Tryz.prog 233 [uv a1] [] ((vN a1).map fun r=>(bv r,[])):=by
 refine zH c233 Tryz.f233 0 9 (fun q=>?_)
 unfold vN
 refine J_g 2 [] [(0,uv a1)] [] zB ?_
 refine wJ (fun h2=>?_) (fun h2=>?_)
 ·refine J_g 6 [] [(2,bv (decide (a1≤57)))] [] (xU 2 [(4,bv (decide (a1≥48)))] [] h2 zB) ?_
  exact zR rfl
 ·refine J_g 6 [] [(2,bv false)] [] (xU 2 [(4,bv (decide (a1≥48)))] [] h2 zB) ?_
  exact zR rfl
noncomputable def c236:Code:=(Tryz.f236.body).getD .skip
theorem uE.ok (a1:Int):Ok Tryz.prog 236 [uv a1] [] ((uE a1).map fun r=>(bv r,[])):=by
 refine zH c236 Tryz.f236 0 13 (fun q=>?_)
 unfold uE
 refine J_g 2 [] [(0,uv a1)] [] zB ?_
 refine zA (fun x2 h3=>?_)
 refine wJ (fun h4=>?_) (fun h4=>?_)
 ·refine J_g 6 [] [(2,bv true)] [] (zD 1 (xL [(.tmp 3)] [5] (vI.ok a1) h3) (xU 2 [(4,bv x2)] [] h4 zB)) ?_
  exact zR rfl
 ·refine zA (fun x5 h6=>?_)
  refine wJ (fun h7=>?_) (fun h7=>?_)
  ·refine J_g 6 [] [(2,bv true)] [] (zD 1 (xL [(.tmp 3)] [5] (vI.ok a1) h3) (xU 2 [(4,bv x2)] [] h4 (zDL 4 2 5 false (xL [(.tmp 6)] [5] (vN.ok a1) h6) (xU 6 [(8,bv x5)] [] h7 zB)))) ?_
   exact zR rfl
  ·refine J_g 6 [] [(2,bv (a1==95))] [] (zD 1 (xL [(.tmp 3)] [5] (vI.ok a1) h3) (xU 2 [(4,bv x2)] [] h4 (zDL 4 2 5 false (xL [(.tmp 6)] [5] (vN.ok a1) h6) (xU 6 [(8,bv x5)] [] h7 zB)))) ?_
   exact zR rfl
noncomputable def c228:Code:=(Tryz.f228.body).getD .skip
theorem kW.ok (a1:ByteArray) (q:Wd) (kn:Unit→Option (D×List Ent)) (hk:∀v:Unit,J (q.g Tryz.prog 228 0 29) c228 (atI c228 15) (St.mk' [] []) (some v) kn):
  ∀s16:Int,J (q.g Tryz.prog 228 0 29) c228 (atI c228 116) (St.mk' [(0,sv a1),(3,iv s16)] []) (kW a1 s16) (Fl.go (fun r:Int=>some (iv r,[])) kn):=by
 refine kP (fun g ih s16=>?_)
 unfold zBX
 refine J_d 464 [] [21] [(21,bv (decide (s16< (a1.size:Int))))] [] [] zB ?_
 refine zF 21 (fun h17=>?_) (fun h17=>?_)
 ·refine zA (fun x18 h19=>?_)
  refine zA (fun x20 h21=>?_)
  refine J_d 1864 [] [21,28] [(28,bv (!x20))] [] [] (zD 2 (zKr (kk:=.i64) 9 (.tmp 24) (.tmp 25) h19) (zD 3 (xL [(.tmp 26)] [5] (uE.ok x18) h21) zB)) ?_
  refine zF 28 (fun h22=>?_) (fun h22=>?_)
  ·refine J_g 7460 [] [(2,iv 5)] [] zB ?_
   exact zR rfl
  ·refine J_g 467 [] [(0,sv a1),(3,iv (w64 (s16+1)))] [] zB ?_
   exact J_q (J_b (ih (w64 (s16+1)))) rfl
 ·exact yF (hk ()) rfl
theorem vG.ok (a1:ByteArray):Ok Tryz.prog 228 [sv a1] [] ((vG a1).map fun r=>(iv r,[])):=by
 refine zH c228 Tryz.f228 0 29 (fun q=>?_)
 unfold vG
 refine J_g 2 [] [(0,sv a1)] [] zB ?_
 refine yQ (atI c228 13) (fun v8:Bool=>St.mk' [(0,sv a1),(17,bv v8)] []) (fun v8=>?_) (fun jv8=>?_)
 ·refine zF 17 (fun h9=>?_) (fun h9=>?_)
  ·refine J_g 52 [] [(2,iv 5)] [] zB ?_
   exact zR rfl
  ·refine J_g 28 [] [(0,sv a1),(3,iv 0)] [] zB ?_
   refine vU (K0:=(fun r:Int=>some (iv r,[]))) (fun _=>rfl) (kW.ok a1 q _ (fun v23=>J_j ?_) 0)
   refine J_g 30 [] [(2,iv 0)] [] zB ?_
   exact zR rfl
 ·refine wJ (fun h2=>?_) (fun h2=>?_)
  ·refine J_g 12 [] [(0,sv a1),(17,bv true)] [] (xU 3 [(6,bv (decide ((a1.size:Int)<1)))] [] h2 zB) ?_
   exact yF (J_j (jv8 true)) rfl
  ·refine wJ (fun h3=>?_) (fun h3=>?_)
   ·refine J_g 12 [] [(0,sv a1),(17,bv true)] [] (xU 3 [(6,bv (decide ((a1.size:Int)<1)))] [] h2 (xU 8 [(11,bv (decide ((a1.size:Int)>12)))] [] h3 zB)) ?_
    exact yF (J_j (jv8 true)) rfl
   ·refine zA (fun x4 h5=>?_)
    refine zA (fun x6 h7=>?_)
    refine J_g 12 [] [(0,sv a1),(17,bv (!x6))] [] (xU 3 [(6,bv (decide ((a1.size:Int)<1)))] [] h2 (xU 8 [(11,bv (decide ((a1.size:Int)>12)))] [] h3 (zDL 10 8 12 false (zKr (kk:=.i64) 9 (.tmp 13) (.const (.int .i64 0)) h5) (zDL 11 8 12 false (xL [(.tmp 14)] [5] (vI.ok x4) h7) zB)))) ?_
    exact yF (J_j (jv8 (!x6))) rfl
noncomputable def c164:Code:=(Tryz.f164.body).getD .skip
theorem xI.ok (a1:Int) (a2:Int) (a3:Int):Ok Tryz.prog 164 [iv a1,iv a2,iv a3] [] ((xI a1 a2 a3).map fun r=>(bv r,[])):=by
 refine zH c164 Tryz.f164 0 15 (fun q=>?_)
 unfold xI
 refine J_d 2 [] [] [] [] [] zB ?_
 refine wJ (fun h4=>?_) (fun h4=>?_)
 ·refine J_g 6 [] [(6,bv (decide (a1≤a3)))] [] (xU 3 [(9,bv (decide (a1≥a2)))] [] h4 zB) ?_
  exact zR rfl
 ·refine J_g 6 [] [(6,bv false)] [] (xU 3 [(9,bv (decide (a1≥a2)))] [] h4 zB) ?_
  exact zR rfl
noncomputable def c229:Code:=(Tryz.f229.body).getD .skip
theorem yY.ok (a1:Version):Ok Tryz.prog 229 [.ag (Version.enc a1)] [] ((yY a1).map fun r=>(iv r,[])):=by
 refine zH c229 Tryz.f229 0 19 (fun q=>?_)
 unfold yY
 refine J_g 2 [(0,0)] [(1,pp 0)] [(0,.box (Version.enc a1))] zB ?_
 refine zA (fun x2 h3=>?_)
 refine yQ (atI c229 13) (fun v10:Bool=>St.mk' [(18,bv v10)] []) (fun v10=>?_) (fun jv10=>?_)
 ·refine zF 18 (fun h11=>?_) (fun h11=>?_)
  ·refine J_g 52 [] [(2,iv 3)] [] zB ?_
   exact zR rfl
  ·refine J_g 14 [] [(2,iv 0)] [] zB ?_
   exact zR rfl
 ·refine wJ (fun h4=>?_) (fun h4=>?_)
  ·refine J_g 12 [] [(18,bv true)] [] (zD 2 (xL [(.tmp 4),(.const (.int .i64 0)),(.const (.int .i64 999))] [2,2,2] (xI.ok a1.A 0 999) h3) (xU 4 [(6,bv (!x2))] [] h4 zB)) ?_
   exact yF (J_j (jv10 true)) rfl
  ·refine zA (fun x5 h6=>?_)
   refine wJ (fun h7=>?_) (fun h7=>?_)
   ·refine J_g 12 [] [(18,bv true)] [] (zD 2 (xL [(.tmp 4),(.const (.int .i64 0)),(.const (.int .i64 999))] [2,2,2] (xI.ok a1.A 0 999) h3) (xU 4 [(6,bv (!x2))] [] h4 (zDL 7 4 7 false (xL [(.tmp 9),(.const (.int .i64 0)),(.const (.int .i64 999))] [2,2,2] (xI.ok a1.B 0 999) h6) (xU 10 [(12,bv (!x5))] [] h7 zB)))) ?_
    exact yF (J_j (jv10 true)) rfl
   ·refine zA (fun x8 h9=>?_)
    refine J_g 12 [] [(18,bv (!x8))] [] (zD 2 (xL [(.tmp 4),(.const (.int .i64 0)),(.const (.int .i64 999))] [2,2,2] (xI.ok a1.A 0 999) h3) (xU 4 [(6,bv (!x2))] [] h4 (zDL 7 4 7 false (xL [(.tmp 9),(.const (.int .i64 0)),(.const (.int .i64 999))] [2,2,2] (xI.ok a1.B 0 999) h6) (xU 10 [(12,bv (!x5))] [] h7 (zDL 13 10 13 false (xL [(.tmp 15),(.const (.int .i64 0)),(.const (.int .i64 999))] [2,2,2] (xI.ok a1.C 0 999) h9) zB))))) ?_
    exact yF (J_j (jv10 (!x8))) rfl
noncomputable def c119:Code:=(Tryz.f119.body).getD .skip
theorem zCe.ok (a1:(List ByteArray)) (a2:ByteArray) (q:Wd) (kn:Unit→Option (D×List Ent)) (hk:∀v:Unit,J (q.g Tryz.prog 119 0 18) c119 (atI c119 7) (St.mk' [] []) (some v) kn):
  ∀s7:Int,J (q.g Tryz.prog 119 0 18) c119 (atI c119 52) (St.mk' [(0,sl 1 eStr a1),(1,sv a2),(5,iv s7)] []) (zCe a1 a2 s7) (Fl.go (fun r:Bool=>some (bv r,[])) kn):=by
 refine kP (fun g ih s7=>?_)
 unfold zBC
 refine J_d 208 [] [9] [(9,bv (decide (s7< (a1.length:Int))))] [] [] zB ?_
 refine zF 9 (fun h8=>?_) (fun h8=>?_)
 ·refine zA (fun x9 h10=>?_)
  refine J_d 840 [] [9,17] [(17,bv (seq x9 a2))] [] [] (zD 2 (zAg (kk:=.i64) 86 9 1 eStr (.tmp 12) (.tmp 13) h10) zB) ?_
  refine zF 17 (fun h11=>?_) (fun h11=>?_)
  ·refine J_g 3364 [] [(4,bv true)] [] zB ?_
   exact zR rfl
  ·refine J_d 211 [] [5,17] [(5,iv (w64 (s7+1)))] [] [] zB ?_
   exact J_q (J_b (ih (w64 (s7+1)))) rfl
 ·exact yF (hk ()) rfl
theorem zA6.ok (a1:(List ByteArray)) (a2:ByteArray):Ok Tryz.prog 119 [sl 1 eStr a1,sv a2] [] ((zA6 a1 a2).map fun r=>(bv r,[])):=by
 refine zH c119 Tryz.f119 0 18 (fun q=>?_)
 unfold zA6
 refine J_g 2 [] [(0,sl 1 eStr a1),(1,sv a2)] [] zB ?_
 refine J_d 12 [] [5] [(5,iv 0)] [] [] zB ?_
 refine vU (K0:=(fun r:Bool=>some (bv r,[]))) (fun _=>rfl) (zCe.ok a1 a2 q _ (fun v12=>J_j ?_) 0)
 refine J_g 14 [] [(4,bv false)] [] zB ?_
 exact zR rfl
noncomputable def zRt:Code:=(Tryz.f292.body).getD .skip
theorem zDE.ok:Ok Tryz.prog 292 [] [] ((zDE).map fun r=>(.ag (Version.enc r),[])):=by
 refine zH zRt Tryz.f292 0 2 (fun q=>?_)
 unfold zDE
 refine J_g 2 [(0,0)] [(0,pp 0)] [(0,.box [iv 0,iv 0,iv 0])] zB ?_
 refine J_g 6 [] [(0,pp 0)] [(0,.box [iv 1000,iv 0,iv 0])] zB ?_
 exact zR rfl
noncomputable def zRe:Code:=(Tryz.f290.body).getD .skip
theorem zAe.ok (a1:Int) (a2:Int):Ok Tryz.prog 290 [iv a1,iv a2] [] ((zAe a1 a2).map fun r=>(iv r,[])):=by
 refine zH zRe Tryz.f290 0 11 (fun q=>?_)
 unfold zAe
 refine J_g 2 [] [(0,iv a1),(1,iv a2)] [] zB ?_
 refine J_d 12 [] [7] [(7,bv (decide (a1<a2)))] [] [] zB ?_
 refine zF 7 (fun h3=>?_) (fun h3=>?_)
 ·refine J_g 52 [] [(4,iv (-1))] [] zB ?_
  exact zR rfl
 ·refine J_g 28 [] [(10,bv (decide (a1>a2)))] [] zB ?_
  refine zF 10 (fun h4=>?_) (fun h4=>?_)
  ·refine J_g 116 [] [(4,iv 1)] [] zB ?_
   exact zR rfl
  ·refine J_g 30 [] [(4,iv 0)] [] zB ?_
   exact zR rfl
noncomputable def zRw:Code:=(Tryz.f231.body).getD .skip
theorem xO.ok (a1:Version) (a2:Version):Ok Tryz.prog 231 [.ag (Version.enc a1),.ag (Version.enc a2)] [] ((xO a1 a2).map fun r=>(iv r,[])):=by
 refine zH zRw Tryz.f231 0 28 (fun q=>?_)
 unfold xO
 refine J_g 2 [(0,0),(1,1)] [(2,pp 0),(3,pp 1)] [(0,.box (Version.enc a1)),(1,.box (Version.enc a2))] zB ?_
 refine zA (fun x3 h4=>?_)
 refine J_g 12 [] [(2,pp 0),(3,pp 1),(5,iv x3)] [(0,.box (Version.enc a1)),(1,.box (Version.enc a2))] (zD 4 (xL [(.tmp 8),(.tmp 10)] [2,2] (zAe.ok a1.A a2.A) h4) zB) ?_
 refine J_d 26 [] [13] [(13,bv (x3 !=0))] [] [] zB ?_
 refine zF 13 (fun h5=>?_) (fun h5=>?_)
 ·refine J_g 108 [] [(4,iv x3)] [] zB ?_
  exact zR rfl
 ·refine zA (fun x6 h7=>?_)
  refine J_g 28 [] [(2,pp 0),(3,pp 1),(6,iv x6)] [(0,.box (Version.enc a1)),(1,.box (Version.enc a2))] (zD 4 (xL [(.tmp 16),(.tmp 18)] [2,2] (zAe.ok a1.B a2.B) h7) zB) ?_
  refine J_d 58 [] [21] [(21,bv (x6 !=0))] [] [] zB ?_
  refine zF 21 (fun h8=>?_) (fun h8=>?_)
  ·refine J_g 236 [] [(4,iv x6)] [] zB ?_
   exact zR rfl
  ·refine zA (fun x9 h10=>?_)
   refine J_g 30 [] [(4,iv x9)] [] (zD 4 (xL [(.tmp 24),(.tmp 26)] [2,2] (zAe.ok a1.C a2.C) h10) zB) ?_
   exact zR rfl
noncomputable def zQV:Code:=(Tryz.f238.body).getD .skip
theorem zAU.ok (a1:Term):Ok Tryz.prog 238 [.ag (Term.enc a1)] [] ((zAU a1).map fun r=>(iv r,[])):=by
 refine zH zQV Tryz.f238 0 33 (fun q=>?_)
 unfold zAU
 refine J_g 2 [(0,0)] [(1,pp 0)] [(0,.box (Term.enc a1))] zB ?_
 refine zA (fun x2 h3=>?_)
 refine J_g 12 [] [(1,pp 0),(3,iv x2)] [(0,.box (Term.enc a1))] (zD 2 (xL [(.tmp 6)] [9] (vG.ok a1.Name) h3) zB) ?_
 refine J_d 26 [] [9] [(9,bv (x2 !=0))] [] [] zB ?_
 refine zF 9 (fun h4=>?_) (fun h4=>?_)
 ·refine J_g 108 [] [(2,iv x2)] [] zB ?_
  exact zR rfl
 ·refine zA (fun x5 h6=>?_)
  refine J_g 28 [] [(1,pp 0),(4,iv x5)] [(0,.box (Term.enc a1))] (zD 2 (xL [(.tmp 12)] [99] (yY.ok a1.Low) h6) zB) ?_
  refine J_d 58 [] [15] [(15,bv (x5 !=0))] [] [] zB ?_
  refine zF 15 (fun h7=>?_) (fun h7=>?_)
  ·refine J_g 236 [] [(2,iv x5)] [] zB ?_
   exact zR rfl
  ·refine zA (fun x8 h9=>?_)
   refine yQ (atI zQV 61) (fun v13:Bool=>St.mk' [(1,pp 0),(26,bv v13)] [(0,.box (Term.enc a1))]) (fun v13=>?_) (fun jv13=>?_)
   ·refine zF 26 (fun h14=>?_) (fun h14=>?_)
    ·refine J_g 244 [] [(2,iv 3)] [] zB ?_
     exact zR rfl
    ·refine zA (fun x15 h16=>?_)
     refine J_g 124 [] [(32,bv (decide (x15≥0)))] [] (zD 4 (xL [(.tmp 28),(.tmp 30)] [99,99] (xO.ok a1.Low a1.High) h16) zB) ?_
     refine zF 32 (fun h17=>?_) (fun h17=>?_)
     ·refine J_g 500 [] [(2,iv 1)] [] zB ?_
      exact zR rfl
     ·refine J_g 126 [] [(2,iv 0)] [] zB ?_
      exact zR rfl
   ·refine wJ (fun h10=>?_) (fun h10=>?_)
    ·refine zA (fun x11 h12=>?_)
     refine J_d 60 [] [4,15,26] [(26,bv (x11 !=0))] [] [] (zD 2 (xL [] [] (zDE.ok) h9) (zD 3 (zNs (b:=.neq) (r:=(a1.High.A==x8.A&&(a1.High.B==x8.B&&(a1.High.C==x8.C&&true)))) 99 99 (.tmp 18) (.tmp 19) [.int .i64 a1.High.A,.int .i64 a1.High.B,.int .i64 a1.High.C] [.int .i64 x8.A,.int .i64 x8.B,.int .i64 x8.C] (.inr ⟨rfl,rfl⟩)) (xU 4 [(20,bv (!(a1.High.A==x8.A&&(a1.High.B==x8.B&&(a1.High.C==x8.C&&true)))))] [] h10 (zDL 7 4 21 true (xL [(.tmp 23)] [99] (yY.ok a1.High) h12) zB)))) ?_
     exact yF (J_j (jv13 (x11 !=0))) rfl
    ·refine J_d 60 [] [4,15,26] [(26,bv false)] [] [] (zD 2 (xL [] [] (zDE.ok) h9) (zD 3 (zNs (b:=.neq) (r:=(a1.High.A==x8.A&&(a1.High.B==x8.B&&(a1.High.C==x8.C&&true)))) 99 99 (.tmp 18) (.tmp 19) [.int .i64 a1.High.A,.int .i64 a1.High.B,.int .i64 a1.High.C] [.int .i64 x8.A,.int .i64 x8.B,.int .i64 x8.C] (.inr ⟨rfl,rfl⟩)) (xU 4 [(20,bv (!(a1.High.A==x8.A&&(a1.High.B==x8.B&&(a1.High.C==x8.C&&true)))))] [] h10 zB))) ?_
     exact yF (J_j (jv13 false)) rfl
noncomputable def zQk:Code:=(Tryz.f230.body).getD .skip
theorem zCF.ok (a1:(List Term)) (q:Wd) (kn:Unit→Option (D×List Ent)) (hk:∀v:Unit,J (q.g Tryz.prog 230 0 19) zQk (atI zQk 7) (St.mk' [] []) (some v) kn):
  ∀s8:Int,J (q.g Tryz.prog 230 0 19) zQk (atI zQk 52) (St.mk' [(0,sl 7 Term.enc a1),(3,iv s8)] []) (zCF a1 s8) (Fl.go (fun r:Int=>some (iv r,[])) kn):=by
 refine kP (fun g ih s8=>?_)
 unfold zBG
 refine J_d 208 [] [8] [(8,bv (decide (s8< (a1.length:Int))))] [] [] zB ?_
 refine zF 8 (fun h9=>?_) (fun h9=>?_)
 ·refine zA (fun x10 h11=>?_)
  refine zA (fun x12 h13=>?_)
  refine J_g 840 [] [(0,sl 7 Term.enc a1),(3,iv s8),(4,iv x12)] [] (zD 2 (zAg (kk:=.i64) 75 149 7 Term.enc (.tmp 11) (.tmp 12) h11) (zD 4 (xL [(.tmp 14)] [149] (zAU.ok x10) h13) zB)) ?_
  refine J_d 1682 [] [17] [(17,bv (x12 !=0))] [] [] zB ?_
  refine zF 17 (fun h14=>?_) (fun h14=>?_)
  ·refine J_g 6732 [] [(2,iv x12)] [] zB ?_
   exact zR rfl
  ·refine J_g 211 [] [(0,sl 7 Term.enc a1),(3,iv (w64 (s8+1)))] [] zB ?_
   exact J_q (J_b (ih (w64 (s8+1)))) rfl
 ·exact yF (hk ()) rfl
theorem kH.ok (a1:(List Term)):Ok Tryz.prog 230 [sl 7 Term.enc a1] [] ((kH a1).map fun r=>(iv r,[])):=by
 refine zH zQk Tryz.f230 0 19 (fun q=>?_)
 unfold kH
 refine J_g 2 [] [(0,sl 7 Term.enc a1)] [] zB ?_
 refine J_d 12 [] [3] [(3,iv 0)] [] [] zB ?_
 refine vU (K0:=(fun r:Int=>some (iv r,[]))) (fun _=>rfl) (zCF.ok a1 q _ (fun v15=>J_j ?_) 0)
 refine J_g 14 [] [(2,iv 0)] [] zB ?_
 exact zR rfl
noncomputable def c162:Code:=(Tryz.f162.body).getD .skip
theorem kQ.ok (a1:Pack) (q:Wd) (kn:Unit→Option (D×List Ent)) (hk:∀v:Unit,J (q.g Tryz.prog 162 0 118) c162 (atI c162 511) (St.mk' [(1,pp 0)] [(0,.box (Pack.enc false a1))]) (some v) kn):
  ∀s70:Int,J (q.g Tryz.prog 162 0 118) c162 (atI c162 4084) (St.mk' [(1,pp 0),(8,iv s70)] [(0,.box (Pack.enc false a1))]) (kQ a1 s70) (Fl.go (fun r:Int=>some (iv r,[])) kn):=by
 refine kP (fun g ih s70=>?_)
 unfold zAA
 refine J_d 16336 [] [96] [(96,bv (decide (s70< (a1.Needs.length:Int))))] [] [] zB ?_
 refine zF 96 (fun h71=>?_) (fun h71=>?_)
 ·refine zA (fun x72 h73=>?_)
  refine J_d 130704 [] [96,105] [(105,bv ((x72.length:Int)==0))] [] [] (zD 3 (zAg (kk:=.i64) 100 75 1 (eSl false 7 Term.enc) (.tmp 100) (.tmp 101) h73) zB) ?_
  refine zF 105 (fun h74=>?_) (fun h74=>?_)
  ·refine J_g 522820 [] [(2,iv 1)] [] zB ?_
   exact zR rfl
  ·refine zA (fun x75 h76=>?_)
   refine zA (fun x77 h78=>?_)
   refine J_g 130706 [] [(1,pp 0),(8,iv s70),(9,iv x77)] [(0,.box (Pack.enc false a1))] (zD 3 (zAg (kk:=.i64) 100 75 1 (eSl false 7 Term.enc) (.tmp 107) (.tmp 108) h76) (zD 5 (xL [(.tmp 110)] [75] (kH.ok x75) h78) zB)) ?_
   refine J_d 261414 [] [113] [(113,bv (x77 !=0))] [] [] zB ?_
   refine zF 113 (fun h79=>?_) (fun h79=>?_)
   ·refine J_g 1045660 [] [(2,iv x77)] [] zB ?_
    exact zR rfl
   ·refine J_d 16339 [] [8,9,113] [(8,iv (w64 (s70+1)))] [] [] zB ?_
    exact J_q (J_b (ih (w64 (s70+1)))) rfl
 ·exact yF (hk ()) rfl
theorem kT.ok (a1:Pack) (q:Wd) (kn:Unit→Option (D×List Ent)) (hk:∀v:Unit,J (q.g Tryz.prog 162 0 118) c162 (atI c162 255) (St.mk' [(1,pp 0)] [(0,.box (Pack.enc false a1))]) (some v) kn):
  ∀s42:Int,J (q.g Tryz.prog 162 0 118) c162 (atI c162 2036) (St.mk' [(1,pp 0),(6,iv s42)] [(0,.box (Pack.enc false a1))]) (kT a1 s42) (Fl.go (fun r:Int=>some (iv r,[])) kn):=by
 refine kP (fun g ih s42=>?_)
 unfold zAG
 refine J_d 8144 [] [60] [(60,bv (decide (s42< (a1.Provides.length:Int))))] [] [] zB ?_
 refine zF 60 (fun h43=>?_) (fun h43=>?_)
 ·refine zA (fun x44 h45=>?_)
  refine zA (fun x46 h47=>?_)
  refine J_g 65168 [] [(1,pp 0),(6,iv s42),(7,iv x46)] [(0,.box (Pack.enc false a1))] (zD 3 (zAg (kk:=.i64) 86 9 1 eStr (.tmp 64) (.tmp 65) h45) (zD 5 (xL [(.tmp 67)] [9] (vG.ok x44) h47) zB)) ?_
  refine J_d 130338 [] [70] [(70,bv (x46 !=0))] [] [] zB ?_
  refine zF 70 (fun h48=>?_) (fun h48=>?_)
  ·refine J_g 521356 [] [(2,iv x46)] [] zB ?_
   exact zR rfl
  ·refine zA (fun x49 h50=>?_)
   refine yQ (atI c162 65171) (fun v58:Bool=>St.mk' [(1,pp 0),(6,iv s42),(91,bv v58)] [(0,.box (Pack.enc false a1))]) (fun v58=>?_) (fun jv58=>?_)
   ·refine zF 91 (fun h59=>?_) (fun h59=>?_)
    ·refine J_g 260684 [] [(2,iv 6)] [] zB ?_
     exact zR rfl
    ·refine J_d 8147 [] [6,91] [(6,iv (w64 (s42+1)))] [] [] zB ?_
     exact J_q (J_b (ih (w64 (s42+1)))) rfl
   ·refine wJ (fun h51=>?_) (fun h51=>?_)
    ·refine J_d 65170 [] [7,70,91] [(91,bv true)] [] [] (zD 3 (zAg (kk:=.i64) 86 9 1 eStr (.tmp 73) (.tmp 74) h50) (xU 8 [(79,bv (seq x49 a1.Name))] [] h51 zB)) ?_
     exact yF (J_j (jv58 true)) rfl
    ·refine zA (fun x52 h53=>?_)
     refine zA (fun x54 h55=>?_)
     refine zA (fun x56 h57=>?_)
     refine J_d 65170 [] [7,70,91] [(91,bv x56)] [] [] (zD 3 (zAg (kk:=.i64) 86 9 1 eStr (.tmp 73) (.tmp 74) h50) (xU 8 [(79,bv (seq x49 a1.Name))] [] h51 (zDL 12 8 80 false (zQu 86 9 1 eStr (.tmp 82) none (some (.tmp 83)) h53) (zDL 16 8 80 false (zAg (kk:=.i64) 86 9 1 eStr (.tmp 86) (.tmp 87) h55) (zDL 18 8 80 false (xL [(.tmp 84),(.tmp 89)] [86,9] (zA6.ok x52 x54) h57) zB))))) ?_
     exact yF (J_j (jv58 x56)) rfl
 ·exact yF (hk ()) rfl
theorem zBq.ok (a1:Pack) (q:Wd) (kn:Unit→Option (D×List Ent)) (hk:∀v:Unit,J (q.g Tryz.prog 162 0 118) c162 (atI c162 127) (St.mk' [(1,pp 0)] [(0,.box (Pack.enc false a1))]) (some v) kn):
  ∀s19:Int,J (q.g Tryz.prog 162 0 118) c162 (atI c162 1012) (St.mk' [(1,pp 0),(5,iv s19)] [(0,.box (Pack.enc false a1))]) (zBq a1 s19) (Fl.go (fun r:Int=>some (iv r,[])) kn):=by
 refine kP (fun g ih s19=>?_)
 unfold zAH
 refine J_d 4048 [] [46] [(46,bv (decide (s19< (a1.Needs.length:Int))))] [] [] zB ?_
 refine zF 46 (fun h20=>?_) (fun h20=>?_)
 ·refine zA (fun x21 h22=>?_)
  refine J_d 16200 [] [46,55] [(55,bv (decide ((x21.length:Int)>4)))] [] [] (zD 3 (zAg (kk:=.i64) 100 75 1 (eSl false 7 Term.enc) (.tmp 50) (.tmp 51) h22) zB) ?_
  refine zF 55 (fun h23=>?_) (fun h23=>?_)
  ·refine J_g 64804 [] [(2,iv 2)] [] zB ?_
   exact zR rfl
  ·refine J_d 4051 [] [5,55] [(5,iv (w64 (s19+1)))] [] [] zB ?_
   exact J_q (J_b (ih (w64 (s19+1)))) rfl
 ·exact yF (hk ()) rfl
theorem zAS.ok (a1:Pack):Ok Tryz.prog 162 [.ag (Pack.enc false a1)] [] ((zAS a1).map fun r=>(iv r,[])):=by
 refine zH c162 Tryz.f162 0 118 (fun q=>?_)
 unfold zAS
 refine J_g 2 [(0,0)] [(1,pp 0)] [(0,.box (Pack.enc false a1))] zB ?_
 refine zA (fun x2 h3=>?_)
 refine J_g 12 [] [(1,pp 0),(3,iv x2)] [(0,.box (Pack.enc false a1))] (zD 2 (xL [(.tmp 11)] [9] (vG.ok a1.Name) h3) zB) ?_
 refine J_d 26 [] [14] [(14,bv (x2 !=0))] [] [] zB ?_
 refine zF 14 (fun h4=>?_) (fun h4=>?_)
 ·refine J_g 108 [] [(2,iv x2)] [] zB ?_
  exact zR rfl
 ·refine zA (fun x5 h6=>?_)
  refine J_g 28 [] [(1,pp 0),(4,iv x5)] [(0,.box (Pack.enc false a1))] (zD 2 (xL [(.tmp 17)] [99] (yY.ok a1.Version) h6) zB) ?_
  refine J_d 58 [] [20] [(20,bv (x5 !=0))] [] [] zB ?_
  refine zF 20 (fun h7=>?_) (fun h7=>?_)
  ·refine J_g 236 [] [(2,iv x5)] [] zB ?_
   exact zR rfl
  ·refine zA (fun x8 h9=>?_)
   refine J_d 60 [] [4,20,25] [(25,bv (!x8))] [] [] (zD 2 (xL [(.tmp 23),(.const (.int .i64 1)),(.const (.int .i64 200))] [2,2,2] (xI.ok a1.Size 1 200) h9) zB) ?_
   refine zF 25 (fun h10=>?_) (fun h10=>?_)
   ·refine J_g 244 [] [(2,iv 3)] [] zB ?_
    exact zR rfl
   ·refine yQ (atI c162 125) (fun v13:Bool=>St.mk' [(1,pp 0),(41,bv v13)] [(0,.box (Pack.enc false a1))]) (fun v13=>?_) (fun jv13=>?_)
    ·refine zF 41 (fun h14=>?_) (fun h14=>?_)
     ·refine J_g 500 [] [(2,iv 2)] [] zB ?_
      exact zR rfl
     ·refine J_d 252 [] [5,41] [(5,iv 0)] [] [] zB ?_
      refine vU (K0:=(fun r:Int=>some (iv r,[]))) (fun _=>rfl) (zBq.ok a1 q _ (fun v24=>J_j ?_) 0)
      refine J_d 508 [] [6] [(6,iv 0)] [] [] zB ?_
      refine vU (K0:=(fun r:Int=>some (iv r,[]))) (fun _=>rfl) (kT.ok a1 q _ (fun v60=>J_j ?_) 0)
      refine J_d 1020 [] [8] [(8,iv 0)] [] [] zB ?_
      refine vU (K0:=(fun r:Int=>some (iv r,[]))) (fun _=>rfl) (kQ.ok a1 q _ (fun v80=>J_j ?_) 0)
      refine zA (fun x81 h82=>?_)
      refine J_g 1022 [] [(2,iv x81)] [] (zD 2 (xL [(.tmp 116)] [75] (kH.ok a1.Bars) h82) zB) ?_
      exact zR rfl
    ·refine wJ (fun h11=>?_) (fun h11=>?_)
     ·refine J_d 124 [] [25,41] [(41,bv true)] [] [] (xU 4 [(29,bv (decide ((a1.Provides.length:Int)>4)))] [] h11 zB) ?_
      exact yF (J_j (jv13 true)) rfl
     ·refine wJ (fun h12=>?_) (fun h12=>?_)
      ·refine J_d 124 [] [25,41] [(41,bv true)] [] [] (xU 4 [(29,bv (decide ((a1.Provides.length:Int)>4)))] [] h11 (xU 10 [(35,bv (decide ((a1.Needs.length:Int)>4)))] [] h12 zB)) ?_
       exact yF (J_j (jv13 true)) rfl
      ·refine J_d 124 [] [25,41] [(41,bv (decide ((a1.Bars.length:Int)>4)))] [] [] (xU 4 [(29,bv (decide ((a1.Provides.length:Int)>4)))] [] h11 (xU 10 [(35,bv (decide ((a1.Needs.length:Int)>4)))] [] h12 zB)) ?_
       exact yF (J_j (jv13 (decide ((a1.Bars.length:Int)>4)))) rfl
noncomputable def zPs:Code:=(Tryz.f163.body).getD .skip
theorem zCP.ok (a1:(List Pack)) (a2:ByteArray) (a3:Version) (q:Wd) (kn:Unit→Option (D×List Ent)) (hk:∀v:Unit,J (q.g Tryz.prog 163 0 32) zPs (atI zPs 7) (St.mk' [] []) (some v) kn):
  ∀s14:Int,J (q.g Tryz.prog 163 0 32) zPs (atI zPs 52) (St.mk' [(0,sl 8 (Pack.enc false) a1),(1,sv a2),(5,pp 0),(7,iv s14)] [(0,.box (Version.enc a3))]) (zCP a1 a2 a3 s14) (Fl.go (fun r:Int=>some (iv r,[])) kn):=by
 refine kP (fun g ih s14=>?_)
 unfold zC7
 refine J_d 208 [] [11] [(11,bv (decide (s14< (a1.length:Int))))] [] [] zB ?_
 refine zF 11 (fun h15=>?_) (fun h15=>?_)
 ·refine zA (fun x16 h17=>?_)
  refine yQ (atI zPs 841) (fun v23:Bool=>St.mk' [(0,sl 8 (Pack.enc false) a1),(1,sv a2),(5,pp 0),(7,iv s14),(30,bv v23)] [(0,.box (Version.enc a3))]) (fun v23=>?_) (fun jv23=>?_)
  ·refine zF 30 (fun h24=>?_) (fun h24=>?_)
   ·refine J_g 3364 [] [(6,iv s14)] [] zB ?_
    exact zR rfl
   ·refine J_d 211 [] [7,30] [(7,iv (w64 (s14+1)))] [] [] zB ?_
    exact J_q (J_b (ih (w64 (s14+1)))) rfl
  ·refine wJ (fun h18=>?_) (fun h18=>?_)
   ·refine zA (fun x19 h20=>?_)
    refine zA (fun x21 h22=>?_)
    refine J_d 840 [] [11,30] [(30,bv (x21==0))] [] [] (zD 2 (zAg (kk:=.i64) 30 102 8 (Pack.enc false) (.tmp 14) (.tmp 15) h17) (xU 7 [(20,bv (seq x16.Name a2))] [] h18 (zDL 10 7 21 true (zAg (kk:=.i64) 30 102 8 (Pack.enc false) (.tmp 22) (.tmp 23) h20) (zDL 14 7 21 true (xL [(.tmp 26),(.tmp 27)] [99,99] (xO.ok x19.Version a3) h22) zB)))) ?_
    exact yF (J_j (jv23 (x21==0))) rfl
   ·refine J_d 840 [] [11,30] [(30,bv false)] [] [] (zD 2 (zAg (kk:=.i64) 30 102 8 (Pack.enc false) (.tmp 14) (.tmp 15) h17) (xU 7 [(20,bv (seq x16.Name a2))] [] h18 zB)) ?_
    exact yF (J_j (jv23 false)) rfl
 ·exact yF (hk ()) rfl
theorem zAm.ok (a1:(List Pack)) (a2:ByteArray) (a3:Version):Ok Tryz.prog 163 [sl 8 (Pack.enc false) a1,sv a2,.ag (Version.enc a3)] [] ((zAm a1 a2 a3).map fun r=>(iv r,[])):=by
 refine zH zPs Tryz.f163 0 32 (fun q=>?_)
 unfold zAm
 refine J_g 2 [(0,0)] [(0,sl 8 (Pack.enc false) a1),(1,sv a2),(5,pp 0)] [(0,.box (Version.enc a3))] zB ?_
 refine J_d 12 [] [7] [(7,iv 0)] [] [] zB ?_
 refine vU (K0:=(fun r:Int=>some (iv r,[]))) (fun _=>rfl) (zCP.ok a1 a2 a3 q _ (fun v25=>J_j ?_) 0)
 refine J_g 14 [] [(6,iv (-1))] [] zB ?_
 exact zR rfl
noncomputable def c90:Code:=(Tryz.f90.body).getD .skip
theorem jX.ok (a1:(List Pack)) (q:Wd) (kn:Unit→Option (D×List Ent)) (hk:∀v:Unit,J (q.g Tryz.prog 90 0 37) c90 (atI c90 15) (St.mk' [] []) (some v) kn):
  ∀s18:Int,J (q.g Tryz.prog 90 0 37) c90 (atI c90 116) (St.mk' [(0,sl 8 (Pack.enc false) a1),(3,iv s18)] []) (jX a1 s18) (Fl.go (fun r:Int=>some (iv r,[])) kn):=by
 refine kP (fun g ih s18=>?_)
 unfold jE
 refine J_d 464 [] [11] [(11,bv (decide (s18< (a1.length:Int))))] [] [] zB ?_
 refine zF 11 (fun h19=>?_) (fun h19=>?_)
 ·refine zA (fun x20 h21=>?_)
  refine zA (fun x22 h23=>?_)
  refine J_g 3728 [] [(0,sl 8 (Pack.enc false) a1),(3,iv s18),(4,iv x22)] [] (zD 2 (zAg (kk:=.i64) 30 102 8 (Pack.enc false) (.tmp 14) (.tmp 15) h21) (zD 4 (xL [(.tmp 17)] [102] (zAS.ok x20) h23) zB)) ?_
  refine J_d 7458 [] [20] [(20,bv (x22 !=0))] [] [] zB ?_
  refine zF 20 (fun h24=>?_) (fun h24=>?_)
  ·refine J_g 29836 [] [(2,iv x22)] [] zB ?_
   exact zR rfl
  ·refine zA (fun x25 h26=>?_)
   refine zA (fun x27 h28=>?_)
   refine zA (fun x29 h30=>?_)
   refine zA (fun x31 h32=>?_)
   refine J_d 3730 [] [4,20,36] [(36,bv (decide (x31≥0)))] [] [] (zD 2 (zQu 30 102 8 (Pack.enc false) (.tmp 22) none (some (.tmp 23)) h26) (zD 5 (zAg (kk:=.i64) 30 102 8 (Pack.enc false) (.tmp 25) (.tmp 26) h28) (zD 10 (zAg (kk:=.i64) 30 102 8 (Pack.enc false) (.tmp 30) (.tmp 31) h30) (zD 13 (xL [(.tmp 24),(.tmp 29),(.tmp 34)] [30,9,99] (zAm.ok x25 x27.Name x29.Version) h32) zB)))) ?_
   refine zF 36 (fun h33=>?_) (fun h33=>?_)
   ·refine J_g 14924 [] [(2,iv 6)] [] zB ?_
    exact zR rfl
   ·refine J_d 467 [] [3,36] [(3,iv (w64 (s18+1)))] [] [] zB ?_
    exact J_q (J_b (ih (w64 (s18+1)))) rfl
 ·exact yF (hk ()) rfl
theorem tQ.ok (a1:(List Pack)):Ok Tryz.prog 90 [sl 8 (Pack.enc false) a1] [] ((tQ a1).map fun r=>(iv r,[])):=by
 refine zH c90 Tryz.f90 0 37 (fun q=>?_)
 unfold tQ
 refine J_g 2 [] [(0,sl 8 (Pack.enc false) a1)] [] zB ?_
 refine J_d 12 [] [7] [(7,bv (decide ((a1.length:Int)>24)))] [] [] zB ?_
 refine zF 7 (fun h2=>?_) (fun h2=>?_)
 ·refine J_g 52 [] [(2,iv 2)] [] zB ?_
  exact zR rfl
 ·refine J_d 28 [] [3,7] [(3,iv 0)] [] [] zB ?_
  refine vU (K0:=(fun r:Int=>some (iv r,[]))) (fun _=>rfl) (jX.ok a1 q _ (fun v34=>J_j ?_) 0)
  refine J_g 30 [] [(2,iv 0)] [] zB ?_
  exact zR rfl
noncomputable def c232:Code:=(Tryz.f232.body).getD .skip
theorem zDh.ok (a1:Int):Ok Tryz.prog 232 [uv a1] [] ((zDh a1).map fun r=>(bv r,[])):=by
 refine zH c232 Tryz.f232 0 17 (fun q=>?_)
 unfold zDh
 refine J_g 2 [] [(0,uv a1)] [] zB ?_
 refine zA (fun x2 h3=>?_)
 refine wJ (fun h4=>?_) (fun h4=>?_)
 ·refine J_g 6 [] [(2,bv true)] [] (zD 1 (xL [(.tmp 3)] [5] (uE.ok a1) h3) (xU 2 [(4,bv x2)] [] h4 zB)) ?_
  exact zR rfl
 ·refine wJ (fun h5=>?_) (fun h5=>?_)
  ·refine J_g 6 [] [(2,bv true)] [] (zD 1 (xL [(.tmp 3)] [5] (uE.ok a1) h3) (xU 2 [(4,bv x2)] [] h4 (xU 6 [(8,bv (a1==46))] [] h5 zB))) ?_
   exact zR rfl
  ·refine wJ (fun h6=>?_) (fun h6=>?_)
   ·refine J_g 6 [] [(2,bv true)] [] (zD 1 (xL [(.tmp 3)] [5] (uE.ok a1) h3) (xU 2 [(4,bv x2)] [] h4 (xU 6 [(8,bv (a1==46))] [] h5 (xU 10 [(12,bv (a1==45))] [] h6 zB)))) ?_
    exact zR rfl
   ·refine J_g 6 [] [(2,bv (a1==47))] [] (zD 1 (xL [(.tmp 3)] [5] (uE.ok a1) h3) (xU 2 [(4,bv x2)] [] h4 (xU 6 [(8,bv (a1==46))] [] h5 (xU 10 [(12,bv (a1==45))] [] h6 zB)))) ?_
    exact zR rfl
noncomputable def zPu:Code:=(Tryz.f165.body).getD .skip
theorem uS.ok (a1:ByteArray) (q:Wd) (kn:Unit→Option (D×List Ent)) (hk:∀v:Unit,J (q.g Tryz.prog 165 0 23) zPu (atI zPu 15) (St.mk' [] []) (some v) kn):
  ∀s11:Int,J (q.g Tryz.prog 165 0 23) zPu (atI zPu 116) (St.mk' [(0,sv a1),(3,iv s11)] []) (uS a1 s11) (Fl.go (fun r:Int=>some (iv r,[])) kn):=by
 refine kP (fun g ih s11=>?_)
 unfold jJ
 refine J_d 464 [] [15] [(15,bv (decide (s11< (a1.size:Int))))] [] [] zB ?_
 refine zF 15 (fun h12=>?_) (fun h12=>?_)
 ·refine zA (fun x13 h14=>?_)
  refine zA (fun x15 h16=>?_)
  refine J_d 1864 [] [15,22] [(22,bv (!x15))] [] [] (zD 2 (zKr (kk:=.i64) 9 (.tmp 18) (.tmp 19) h14) (zD 3 (xL [(.tmp 20)] [5] (zDh.ok x13) h16) zB)) ?_
  refine zF 22 (fun h17=>?_) (fun h17=>?_)
  ·refine J_g 7460 [] [(2,iv 5)] [] zB ?_
   exact zR rfl
  ·refine J_g 467 [] [(0,sv a1),(3,iv (w64 (s11+1)))] [] zB ?_
   exact J_q (J_b (ih (w64 (s11+1)))) rfl
 ·exact yF (hk ()) rfl
theorem vC.ok (a1:ByteArray):Ok Tryz.prog 165 [sv a1] [] ((vC a1).map fun r=>(iv r,[])):=by
 refine zH zPu Tryz.f165 0 23 (fun q=>?_)
 unfold vC
 refine J_g 2 [] [(0,sv a1)] [] zB ?_
 refine yQ (atI zPu 13) (fun v3:Bool=>St.mk' [(0,sv a1),(11,bv v3)] []) (fun v3=>?_) (fun jv3=>?_)
 ·refine zF 11 (fun h4=>?_) (fun h4=>?_)
  ·refine J_g 52 [] [(2,iv 5)] [] zB ?_
   exact zR rfl
  ·refine J_g 28 [] [(0,sv a1),(3,iv 0)] [] zB ?_
   refine vU (K0:=(fun r:Int=>some (iv r,[]))) (fun _=>rfl) (uS.ok a1 q _ (fun v18=>J_j ?_) 0)
   refine J_g 30 [] [(2,iv 0)] [] zB ?_
   exact zR rfl
 ·refine wJ (fun h2=>?_) (fun h2=>?_)
  ·refine J_g 12 [] [(0,sv a1),(11,bv true)] [] (xU 3 [(6,bv (decide ((a1.size:Int)<1)))] [] h2 zB) ?_
   exact yF (J_j (jv3 true)) rfl
  ·refine J_g 12 [] [(0,sv a1),(11,bv (decide ((a1.size:Int)>40)))] [] (xU 3 [(6,bv (decide ((a1.size:Int)<1)))] [] h2 zB) ?_
   exact yF (J_j (jv3 (decide ((a1.size:Int)>40)))) rfl
noncomputable def zPS:Code:=(Tryz.f150.body).getD .skip
theorem zCp.ok (a1:zC) (q:Wd) (kn:Int→Option (D×List Ent)) (hk:∀v:Int,J (q.g Tryz.prog 150 1 26) zPS (atI zPS 15) (St.mk' [(3,iv v)] [(0,.box (zC.enc false a1))]) (some v) kn):
  ∀s5:(Int×Int),J (q.g Tryz.prog 150 1 26) zPS (atI zPS 116) (St.mk' [(0,pp 0),(3,iv s5.1),(4,iv s5.2)] [(0,.box (zC.enc false a1))]) (zCp a1 s5) kn:=by
 refine kP (fun g ih s5=>?_)
 unfold zBA
 refine J_d 464 [] [11] [(11,bv (decide (s5.2< (a1.Files.length:Int))))] [] [] zB ?_
 refine zF 11 (fun h6=>?_) (fun h6=>?_)
 ·refine zA (fun x7 h8=>?_)
  refine J_g 932 [] [(0,pp 0),(3,iv (w64 (s5.1+(x7.Data.length:Int)))),(4,iv s5.2)] [(0,.box (zC.enc false a1))] (zD 6 (zAg (kk:=.i64) 31 138 2 (File.enc false) (.tmp 18) (.tmp 19) h8) zB) ?_
  refine J_d 467 [] [4] [(4,iv (w64 (s5.2+1)))] [] [] zB ?_
  exact J_q (J_b (ih (w64 (s5.1+(x7.Data.length:Int)),w64 (s5.2+1)))) rfl
 ·exact yF (hk s5.1) rfl
theorem zC6.ok (a1:zC):Ok Tryz.prog 150 [pp 0] [.box (zC.enc false a1)] ((zC6 a1).map fun r=>(iv r,[.box (zC.enc false a1)])):=by
 refine zH zPS Tryz.f150 1 26 (fun q=>?_)
 unfold zC6
 refine J_g 2 [] [(0,pp 0)] [(0,.box (zC.enc false a1))] zB ?_
 refine J_g 6 [] [(0,pp 0),(3,iv 0)] [(0,.box (zC.enc false a1))] zB ?_
 refine J_d 28 [] [4] [(4,iv 0)] [] [] zB ?_
 refine zEM (zCp.ok a1 q _ (fun v9=>J_j ?_) (0,0))
 refine J_d 30 [] [2,3] [(2,iv v9)] [] [] zB ?_
 exact zR rfl
noncomputable def c91:Code:=(Tryz.f91.body).getD .skip
theorem uU.ok (a1:zC) (q:Wd) (kn:Unit→Option (D×List Ent)) (hk:∀v:Unit,J (q.g Tryz.prog 91 0 72) c91 (atI c91 31) (St.mk' [(1,pp 0)] [(0,.box (zC.enc false a1))]) (some v) kn):
  ∀s29:Int,J (q.g Tryz.prog 91 0 72) c91 (atI c91 244) (St.mk' [(1,pp 0),(3,iv s29)] [(0,.box (zC.enc false a1))]) (uU a1 s29) (Fl.go (fun r:Int=>some (iv r,[])) kn):=by
 refine kP (fun g ih s29=>?_)
 unfold jN
 refine J_d 976 [] [29] [(29,bv (decide (s29< (a1.Files.length:Int))))] [] [] zB ?_
 refine zF 29 (fun h30=>?_) (fun h30=>?_)
 ·refine zA (fun x31 h32=>?_)
  refine zA (fun x33 h34=>?_)
  refine J_g 7824 [] [(1,pp 0),(3,iv s29),(4,iv x33)] [(0,.box (zC.enc false a1))] (zD 3 (zAg (kk:=.i64) 31 138 2 (File.enc false) (.tmp 33) (.tmp 34) h32) (zD 6 (xL [(.tmp 37)] [9] (vC.ok x31.Path) h34) zB)) ?_
  refine J_d 15650 [] [40] [(40,bv (x33 !=0))] [] [] zB ?_
  refine zF 40 (fun h35=>?_) (fun h35=>?_)
  ·refine J_g 62604 [] [(2,iv x33)] [] zB ?_
   exact zR rfl
  ·refine yQ (atI c91 15653) (fun v41:Bool=>St.mk' [(1,pp 0),(3,iv s29),(59,bv v41)] [(0,.box (zC.enc false a1))]) (fun v41=>?_) (fun jv41=>?_)
   ·refine zF 59 (fun h42=>?_) (fun h42=>?_)
    ·refine J_g 62612 [] [(2,iv 1)] [] zB ?_
     exact zR rfl
    ·refine zA (fun x43 h44=>?_)
     refine J_d 15654 [] [59,67] [(67,bv (decide ((x43.Data.length:Int)>4000)))] [] [] (zD 3 (zAg (kk:=.i64) 31 138 2 (File.enc false) (.tmp 61) (.tmp 62) h44) zB) ?_
     refine zF 67 (fun h45=>?_) (fun h45=>?_)
     ·refine J_g 62620 [] [(2,iv 2)] [] zB ?_
      exact zR rfl
     ·refine J_d 979 [] [3,67] [(3,iv (w64 (s29+1)))] [] [] zB ?_
      exact J_q (J_b (ih (w64 (s29+1)))) rfl
   ·refine wJ (fun h36=>?_) (fun h36=>?_)
    ·refine zA (fun x37 h38=>?_)
     refine zA (fun x39 h40=>?_)
     refine J_d 15652 [] [4,40,59] [(59,bv (slt x37.Path x39.Path||seq x37.Path x39.Path))] [] [] (xU 2 [(43,bv (decide (s29>0)))] [] h36 (zDL 6 2 44 true (zAg (kk:=.i64) 31 138 2 (File.enc false) (.tmp 46) (.tmp 47) h38) (zDL 13 2 44 true (zAg (kk:=.i64) 31 138 2 (File.enc false) (.tmp 52) (.tmp 54) h40) zB))) ?_
     exact yF (J_j (jv41 (slt x37.Path x39.Path||seq x37.Path x39.Path))) rfl
    ·refine J_d 15652 [] [4,40,59] [(59,bv false)] [] [] (xU 2 [(43,bv (decide (s29>0)))] [] h36 zB) ?_
     exact yF (J_j (jv41 false)) rfl
 ·exact yF (hk ()) rfl
theorem vB.ok (a1:zC):Ok Tryz.prog 91 [.ag (zC.enc false a1)] [] ((vB a1).map fun r=>(iv r,[])):=by
 refine zH c91 Tryz.f91 0 72 (fun q=>?_)
 unfold vB
 refine J_g 2 [(0,0)] [(1,pp 0)] [(0,.box (zC.enc false a1))] zB ?_
 refine zA (fun x2 h3=>?_)
 refine yQ (atI c91 13) (fun v10:Bool=>St.mk' [(1,pp 0),(20,bv v10)] [(0,.box (zC.enc false a1))]) (fun v10=>?_) (fun jv10=>?_)
 ·refine zF 20 (fun h11=>?_) (fun h11=>?_)
  ·refine J_g 52 [] [(2,iv 3)] [] zB ?_
   exact zR rfl
  ·refine J_d 28 [] [20,24] [(24,bv (decide ((a1.Files.length:Int)>120)))] [] [] zB ?_
   refine zF 24 (fun h12=>?_) (fun h12=>?_)
   ·refine J_g 116 [] [(2,iv 2)] [] zB ?_
    exact zR rfl
   ·refine J_d 60 [] [3,24] [(3,iv 0)] [] [] zB ?_
    refine vU (K0:=(fun r:Int=>some (iv r,[]))) (fun _=>rfl) (uU.ok a1 q _ (fun v46=>J_j ?_) 0)
    refine zA (fun x47 h48=>?_)
    refine J_g 124 [] [(71,bv (decide (x47>a1.Budget)))] [] (zD 0 (zFL [(0,.box (zC.enc false a1))] [] (wG («as»:=[pp 0]) [(.tmp 1)] [72] false [(0,.box (zC.enc false a1))] [0] (.cons (.pt rfl) (.nil)) (zC6.ok a1) h48 (.same rfl rfl))) zB) ?_
    refine zF 71 (fun h49=>?_) (fun h49=>?_)
    ·refine J_g 500 [] [(2,iv 8)] [] zB ?_
     exact zR rfl
    ·refine J_g 126 [] [(2,iv 0)] [] zB ?_
     exact zR rfl
 ·refine wJ (fun h4=>?_) (fun h4=>?_)
  ·refine J_d 12 [] [20] [(20,bv true)] [] [] (zD 2 (xL [(.tmp 6),(.const (.int .i64 0)),(.const (.int .i64 20000))] [2,2,2] (xI.ok a1.Budget 0 20000) h3) (xU 4 [(8,bv (!x2))] [] h4 zB)) ?_
   exact yF (J_j (jv10 true)) rfl
  ·refine zA (fun x5 h6=>?_)
   refine wJ (fun h7=>?_) (fun h7=>?_)
   ·refine J_d 12 [] [20] [(20,bv true)] [] [] (zD 2 (xL [(.tmp 6),(.const (.int .i64 0)),(.const (.int .i64 20000))] [2,2,2] (xI.ok a1.Budget 0 20000) h3) (xU 4 [(8,bv (!x2))] [] h4 (zDL 7 4 9 false (xL [(.tmp 11),(.const (.int .i64 0)),(.const (.int .i64 1000000000))] [2,2,2] (xI.ok a1.Writes 0 1000000000) h6) (xU 10 [(14,bv (!x5))] [] h7 zB)))) ?_
    exact yF (J_j (jv10 true)) rfl
   ·refine zA (fun x8 h9=>?_)
    refine J_d 12 [] [20] [(20,bv (!x8))] [] [] (zD 2 (xL [(.tmp 6),(.const (.int .i64 0)),(.const (.int .i64 20000))] [2,2,2] (xI.ok a1.Budget 0 20000) h3) (xU 4 [(8,bv (!x2))] [] h4 (zDL 7 4 9 false (xL [(.tmp 11),(.const (.int .i64 0)),(.const (.int .i64 1000000000))] [2,2,2] (xI.ok a1.Writes 0 1000000000) h6) (xU 10 [(14,bv (!x5))] [] h7 (zDL 13 10 15 false (xL [(.tmp 17),(.const (.int .i64 (-1))),(.const (.int .i64 1000000000))] [2,2,2] (xI.ok a1.Stop (-1) 1000000000) h9) zB))))) ?_
    exact yF (J_j (jv10 (!x8))) rfl
noncomputable def c42:Code:=(Tryz.f42.body).getD .skip
theorem zCi.ok (a1:(List Pack)) (a2:zC):Ok Tryz.prog 42 [sl 8 (Pack.enc false) a1,.ag (zC.enc false a2)] [] ((zCi a1 a2).map fun r=>(iv r,[])):=by
 refine zH c42 Tryz.f42 0 13 (fun q=>?_)
 unfold zCi
 refine J_d 2 [(0,0)] [1,3] [(3,pp 0)] [0] [(0,.box (zC.enc false a2))] zB ?_
 refine zA (fun x3 h4=>?_)
 refine J_g 12 [] [(3,pp 0),(5,iv x3)] [(0,.box (zC.enc false a2))] (zD 1 (xL [(.tmp 6)] [30] (tQ.ok a1) h4) zB) ?_
 refine J_d 26 [] [9] [(9,bv (x3 !=0))] [] [] zB ?_
 refine zF 9 (fun h5=>?_) (fun h5=>?_)
 ·refine J_g 108 [] [(4,iv x3)] [] zB ?_
  exact zR rfl
 ·refine zA (fun x6 h7=>?_)
  refine J_g 14 [] [(4,iv x6)] [] (zD 1 (xL [(.tmp 11)] [33] (vB.ok a2) h7) zB) ?_
  exact zR rfl
noncomputable def c53:Code:=(Tryz.f53.body).getD .skip
theorem zCg.ok (a1:(List Pack)) (a2:zC):Ok Tryz.prog 53 [sl 8 (Pack.enc false) a1,.ag (zC.enc false a2)] [] ((zCg a1 a2).map fun r=>(iv r,[])):=by
 refine zH c53 Tryz.f53 0 14 (fun q=>?_)
 unfold zCg
 refine J_d 2 [(0,0)] [1,3] [(3,pp 0)] [0] [(0,.box (zC.enc false a2))] zB ?_
 refine zA (fun x3 h4=>?_)
 refine J_g 12 [] [(3,pp 0),(5,iv x3)] [(0,.box (zC.enc false a2))] (zD 2 (xL [(.tmp 6),(.tmp 7)] [30,33] (zCi.ok a1 a2) h4) zB) ?_
 refine J_d 26 [] [10] [(10,bv (x3 !=0))] [] [] zB ?_
 refine zF 10 (fun h5=>?_) (fun h5=>?_)
 ·refine J_g 108 [] [(4,iv x3)] [] zB ?_
  exact zR rfl
 ·refine J_g 28 [] [(13,bv a2.Down)] [] zB ?_
  refine zF 13 (fun h6=>?_) (fun h6=>?_)
  ·refine J_g 116 [] [(4,iv 9)] [] zB ?_
   exact zR rfl
  ·refine J_g 30 [] [(4,iv 0)] [] zB ?_
   exact zR rfl
noncomputable def c54:Code:=(Tryz.f54.body).getD .skip
theorem zAW.ok (a1:zC) (a2:ByteArray) (q:Wd) (kn:Unit→Option (D×List Ent)) (hk:∀v:Unit,J (q.g Tryz.prog 54 1 26) c54 (atI c54 7) (St.mk' [] [(0,.box (zC.enc false a1))]) (some v) kn):
  ∀s7:Int,J (q.g Tryz.prog 54 1 26) c54 (atI c54 52) (St.mk' [(0,pp 0),(1,sv a2),(5,iv s7)] [(0,.box (zC.enc false a1))]) (zAW a1 a2 s7) (Fl.go (fun r:Int=>some (iv r,[.box (zC.enc false a1)])) kn):=by
 refine kP (fun g ih s7=>?_)
 unfold zAj
 refine J_d 208 [] [12] [(12,bv (decide (s7< (a1.Files.length:Int))))] [] [] zB ?_
 refine zF 12 (fun h8=>?_) (fun h8=>?_)
 ·refine zA (fun x9 h10=>?_)
  refine J_d 840 [] [12,24] [(24,bv (seq x9.Path a2))] [] [] (zD 5 (zAg (kk:=.i64) 31 138 2 (File.enc false) (.tmp 18) (.tmp 19) h10) zB) ?_
  refine zF 24 (fun h11=>?_) (fun h11=>?_)
  ·refine J_g 3364 [] [(4,iv s7)] [(0,.box (zC.enc false a1))] zB ?_
   exact zR rfl
  ·refine J_d 211 [] [5,24] [(5,iv (w64 (s7+1)))] [] [] zB ?_
   exact J_q (J_b (ih (w64 (s7+1)))) rfl
 ·exact yF (hk ()) rfl
theorem yK.ok (a1:zC) (a2:ByteArray):Ok Tryz.prog 54 [pp 0,sv a2] [.box (zC.enc false a1)] ((yK a1 a2).map fun r=>(iv r,[.box (zC.enc false a1)])):=by
 refine zH c54 Tryz.f54 1 26 (fun q=>?_)
 unfold yK
 refine J_g 2 [] [(0,pp 0),(1,sv a2)] [(0,.box (zC.enc false a1))] zB ?_
 refine J_d 12 [] [5] [(5,iv 0)] [] [] zB ?_
 refine vU (K0:=(fun r:Int=>some (iv r,[.box (zC.enc false a1)]))) (fun _=>rfl) (zAW.ok a1 a2 q _ (fun v12=>J_j ?_) 0)
 refine J_d 14 [] [4] [(4,iv (-1))] [] [] zB ?_
 exact zR rfl
noncomputable def zR9:Code:=(Tryz.f197.body).getD .skip
theorem tY.ok (a1:ByteArray) (a2:ByteArray):Ok Tryz.prog 197 [sv a1,sv a2] [] ((tY a1 a2).map fun r=>(bv r,[])):=by
 refine zH zR9 Tryz.f197 0 18 (fun q=>?_)
 unfold tY
 refine J_d 2 [] [] [] [] [] zB ?_
 refine wJ (fun h3=>?_) (fun h3=>?_)
 ·refine zA (fun x4 h5=>?_)
  refine J_g 6 [] [(4,bv (seq x4 a2))] [] (xU 5 [(9,bv (decide ((a1.size:Int)≥(a2.size:Int))))] [] h3 (zDL 9 5 10 true (zPj 9 (.tmp 11) none (some (.tmp 13)) h5) zB)) ?_
  exact zR rfl
 ·refine J_g 6 [] [(4,bv false)] [] (xU 5 [(9,bv (decide ((a1.size:Int)≥(a2.size:Int))))] [] h3 zB) ?_
  exact zR rfl
noncomputable def zMn:Code:=(Tryz.f118.body).getD .skip
theorem jD.ok (a1:zC) (a2:ByteArray) (q:Wd) (kn:(List ByteArray)→Option (D×List Ent)) (hk:∀v:(List ByteArray),J (q.g Tryz.prog 118 1 39) zMn (atI zMn 15) (St.mk' [(5,rr 1 v)] [(0,.box (zC.enc false a1)),(1,rE 1 eStr v)]) (some v) kn):
  ∀s14:((List ByteArray)×Int),J (q.g Tryz.prog 118 1 39) zMn (atI zMn 116) (St.mk' [(0,pp 0),(1,sv a2),(5,rr 1 s14.1),(6,iv s14.2)] [(0,.box (zC.enc false a1)),(1,rE 1 eStr s14.1)]) (jD a1 a2 s14) kn:=by
 refine kP (fun g ih s14=>?_)
 unfold jP
 refine J_d 464 [] [14] [(14,bv (decide (s14.2< (a1.Files.length:Int))))] [] [] zB ?_
 refine zF 14 (fun h15=>?_) (fun h15=>?_)
 ·refine zA (fun x16 h17=>?_)
  refine zA (fun x18 h19=>?_)
  refine J_d 1864 [] [14,26] [(26,bv x18)] [] [] (zD 5 (zAg (kk:=.i64) 31 138 2 (File.enc false) (.tmp 20) (.tmp 21) h17) (zD 9 (xL [(.tmp 24),(.tmp 25)] [9,9] (tY.ok x16.Path a2) h19) zB)) ?_
  refine yQ (aft zMn 932) (fun v25:(List ByteArray)=>St.mk' [(0,pp 0),(1,sv a2),(5,rr 3 v25),(6,iv s14.2)] [(0,.box (zC.enc false a1)),(3,rE 1 eStr v25)]) (fun v25=>?_) (fun jv25=>?_)
  ·refine J_d 467 [] [6] [(6,iv (w64 (s14.2+1)))] [] [] zB ?_
   refine kR 3 1 (Nat.le_of_ble_eq_true rfl) (Nat.le_of_ble_eq_true rfl) ?_
   exact J_q (J_b (ih (v25,w64 (s14.2+1)))) rfl
  ·refine zF 26 (fun h20=>?_) (fun h20=>?_)
   ·refine zA (fun x21 h22=>?_)
    refine zA (fun x23 h24=>?_)
    refine J_d 3730 [] [5,26] [(5,rr 3 x23)] [1,3] [(3,rE 1 eStr x23)] (zD 6 (zAg (kk:=.i64) 31 138 2 (File.enc false) (.tmp 31) (.tmp 32) h22) (zD 9 (zDM 86 9 1 2 eStr [x21.Path] [0] [(.tmp 35)] [sv x21.Path]) (zD 10 (zG4 86 86 9 9 1 16 3 1 2 eStr (.tmp 27) (.tmp 36) h24) zB))) ?_
    exact yF (J_j (jv25 x23)) rfl
   ·refine kR 1 3 (Nat.le_of_ble_eq_true rfl) (Nat.le_of_ble_eq_true rfl) ?_
    exact yF (J_j (jv25 s14.1)) rfl
 ·exact yF (hk s14.1) rfl
theorem uO.ok (a1:zC) (a2:ByteArray):Ok Tryz.prog 118 [pp 0,sv a2] [.box (zC.enc false a1)] ((uO a1 a2).map fun r=>(so 1 eStr r,[.box (zC.enc false a1)])):=by
 refine zH zMn Tryz.f118 1 39 (fun q=>?_)
 unfold uO
 refine J_g 2 [] [(0,pp 0),(1,sv a2)] [(0,.box (zC.enc false a1))] zB ?_
 refine J_g 6 [] [(0,pp 0),(1,sv a2),(5,rr 1 ([]:List ByteArray))] [(0,.box (zC.enc false a1)),(1,rE 1 eStr ([]:List ByteArray))] (zD 0 (zDM 86 9 1 1 eStr ([]:List ByteArray) [] [] []) zB) ?_
 refine J_d 28 [] [6] [(6,iv 0)] [] [] zB ?_
 refine zEM (jD.ok a1 a2 q _ (fun v26=>J_j ?_) (([]:List ByteArray),0))
 refine J_g 30 [] [(4,rr 1 v26)] [(0,.box (zC.enc false a1)),(1,rE 1 eStr v26)] zB ?_
 exact zAM (ds:=[rr 1 v26]) (ds':=[so 1 eStr v26]) (.cons (.cell (.move (.tail _ (.head _)) (List.length_map _) (by decide) (.nil))) (.nil) (by decide)) rfl
noncomputable def zPx:Code:=(Tryz.f166.body).getD .skip
theorem zBE.ok (a1:ByteArray) (q:Wd) (kn:Int→Option (D×List Ent)) (hk:∀v:Int,J (q.g Tryz.prog 166 0 37) zPx (atI zPx 31) (St.mk' [(6,iv v)] []) (some v) kn):
  ∀s14:(Int×Int),J (q.g Tryz.prog 166 0 37) zPx (atI zPx 244) (St.mk' [(0,sv a1),(6,iv s14.1),(7,iv s14.2)] []) (zBE a1 s14) (Fl.go (fun r:(Int×Bool)=>some (.tu [iv r.1,bv r.2],[])) kn):=by
 refine kP (fun g ih s14=>?_)
 unfold zBf
 refine J_d 976 [] [20] [(20,bv (decide (s14.2< (a1.size:Int))))] [] [] zB ?_
 refine zF 20 (fun h15=>?_) (fun h15=>?_)
 ·refine zA (fun x16 h17=>?_)
  refine zA (fun x18 h19=>?_)
  refine J_d 7824 [] [20,27] [(27,bv (!x18))] [] [] (zD 2 (zKr (kk:=.i64) 9 (.tmp 23) (.tmp 24) h17) (zD 3 (xL [(.tmp 25)] [5] (vN.ok x16) h19) zB)) ?_
  refine zF 27 (fun h20=>?_) (fun h20=>?_)
  ·refine J_g 31300 [] [(4,iv 0),(5,bv false)] [] zB ?_
   exact zN1 rfl
  ·refine zA (fun x21 h22=>?_)
   refine J_g 3913 [] [(0,sv a1),(6,iv (w64 ((w64 (s14.1*10))+(w64 (IntKind.u8.wrap (x21-48)))))),(7,iv s14.2)] [] (zD 4 (zKr (kk:=.i64) 9 (.tmp 30) (.tmp 31) h22) zB) ?_
   refine J_d 979 [] [7] [(7,iv (w64 (s14.2+1)))] [] [] zB ?_
   exact J_q (J_b (ih (w64 ((w64 (s14.1*10))+(w64 (IntKind.u8.wrap (x21-48)))),w64 (s14.2+1)))) rfl
 ·exact yF (hk s14.1) rfl
theorem wF.ok (a1:ByteArray) (a2:Int):Ok Tryz.prog 166 [sv a1,iv a2] [] ((wF a1 a2).map fun r=>(.tu [iv r.1,bv r.2],[])):=by
 refine zH zPx Tryz.f166 0 37 (fun q=>?_)
 unfold wF
 refine J_d 2 [] [] [] [] [] zB ?_
 refine yQ (atI zPx 13) (fun v4:Bool=>St.mk' [(0,sv a1),(16,bv v4)] []) (fun v4=>?_) (fun jv4=>?_)
 ·refine zF 16 (fun h5=>?_) (fun h5=>?_)
  ·refine J_g 52 [] [(4,iv 0),(5,bv false)] [] zB ?_
   exact zN1 rfl
  ·refine J_g 14 [] [(0,sv a1),(6,iv 0)] [] zB ?_
   refine J_d 60 [] [7] [(7,iv 0)] [] [] zB ?_
   refine vU (K0:=(fun r:(Int×Bool)=>some (.tu [iv r.1,bv r.2],[]))) (fun _=>rfl) (zBE.ok a1 q _ (fun v23=>J_j ?_) (0,0))
   refine J_g 62 [] [(4,iv v23),(5,bv true)] [] zB ?_
   exact zN1 rfl
 ·refine wJ (fun h3=>?_) (fun h3=>?_)
  ·refine J_g 12 [] [(0,sv a1),(16,bv true)] [] (xU 3 [(10,bv (decide ((a1.size:Int)<1)))] [] h3 zB) ?_
   exact yF (J_j (jv4 true)) rfl
  ·refine J_g 12 [] [(0,sv a1),(16,bv (decide ((a1.size:Int)>a2)))] [] (xU 3 [(10,bv (decide ((a1.size:Int)<1)))] [] h3 zB) ?_
   exact yF (J_j (jv4 (decide ((a1.size:Int)>a2)))) rfl
noncomputable def c79:Code:=(Tryz.f79.body).getD .skip
theorem wB.ok (a1:Int):Ok Tryz.prog 79 [iv a1] [] ((wB a1).map fun r=>(sv r,[])):=by
 have key:∀(n:Nat) (a1:Int),Ok Tryz.prog 79 [iv a1] [] ((zPn uM n a1).map fun r=>(sv r,[])):=by
  intro n
  induction n with
  |zero=>intro a1; exact zOJ
  |succ n ih=>
   intro a1
   refine zH c79 Tryz.f79 0 20 (fun q=>?_)
   unfold zPn uM
   refine J_g 2 [] [(0,iv a1)] [] zB ?_
   refine J_g 12 [] [(0,iv a1),(4,bv (decide (a1<10)))] [] zB ?_
   refine zF 4 (fun h2=>?_) (fun h2=>?_)
   ·refine J_g 52 [] [(2,sv (b2s [IntKind.u8.wrap (w64 (48+a1))]))] [] (zD 3 (zDM 121 5 1 0 eU8 [IntKind.u8.wrap (w64 (48+a1))] [0] [(.tmp 7)] [uv (IntKind.u8.wrap (w64 (48+a1)))]) (zD 4 (zKV (xs:=[IntKind.u8.wrap (w64 (48+a1))]) 121 9 5 0 (.tmp 8)) zB)) ?_
    exact zR rfl
   ·refine zA (fun x3 h4=>?_)
    refine zA (fun x5 h6=>?_)
    refine J_g 14 [] [(2,sv x5)] [] (zD 2 (xL [(.tmp 11)] [2] (ih (w64 (a1.tdiv 10))) h4) (zD 7 (zDM 121 5 1 0 eU8 [IntKind.u8.wrap (w64 (48+(a1.tmod 10)))] [0] [(.tmp 16)] [uv (IntKind.u8.wrap (w64 (48+(a1.tmod 10))))]) (zD 8 (zKV (xs:=[IntKind.u8.wrap (w64 (48+(a1.tmod 10)))]) 121 9 5 0 (.tmp 17)) (zD 9 (zE3 9 9 (.tmp 12) (.tmp 18) h6) zB)))) ?_
    exact zR rfl
 exact key 64 a1
noncomputable def c117:Code:=(Tryz.f117.body).getD .skip
theorem wH.ok (a1:Int):Ok Tryz.prog 117 [iv a1] [] ((wH a1).map fun r=>(sv r,[])):=by
 refine zH c117 Tryz.f117 0 11 (fun q=>?_)
 unfold wH
 refine J_g 2 [] [(0,iv a1)] [] zB ?_
 refine zA (fun x2 h3=>?_)
 refine J_g 12 [] [(0,iv a1),(5,bv (!x2))] [] (zD 1 (xL [(.tmp 3),(.const (.int .i64 1)),(.const (.int .i64 999999))] [2,2,2] (xI.ok a1 1 999999) h3) zB) ?_
 refine zF 5 (fun h4=>?_) (fun h4=>?_)
 ·refine J_g 52 [] [(2,sv (bs []))] [] zB ?_
  exact zR rfl
 ·refine zA (fun x5 h6=>?_)
  refine zA (fun x7 h8=>?_)
  refine zA (fun x9 h10=>?_)
  refine J_g 14 [] [(2,sv x9)] [] (zD 2 (xL [(.tmp 7)] [2] (wB.ok (w64 (1000000+a1))) h6) (zD 3 (zPj 9 (.tmp 8) (some (.const (.int .i64 1))) none h8) (zD 4 (zE3 9 9 (.const (.string (bs [103,101,110,47]))) (.tmp 9) h10) zB))) ?_
  exact zR rfl
noncomputable def zLe:Code:=(Tryz.f114.body).getD .skip
theorem zBS.ok (a1:zC) (x2:(List ByteArray)) (q:Wd) (kn:(List Int)→Option (D×List Ent)) (hk:∀v:(List Int),J (q.g Tryz.prog 114 1 41) zLe (atI zLe 31) (St.mk' [(3,rr 1 v)] [(0,.box (zC.enc false a1)),(1,rE 1 zG v)]) (some v) kn):
  ∀s21:((List Int)×Int),J (q.g Tryz.prog 114 1 41) zLe (atI zLe 244) (St.mk' [(3,rr 1 s21.1),(4,rr 2 x2),(5,iv s21.2)] [(0,.box (zC.enc false a1)),(1,rE 1 zG s21.1),(2,rE 1 eStr x2)]) (zBS a1 x2 s21) kn:=by
 refine kP (fun g ih s21=>?_)
 unfold zBi
 refine J_d 976 [] [14] [(14,bv (decide (s21.2< (x2.length:Int))))] [] [] zB ?_
 refine zF 14 (fun h22=>?_) (fun h22=>?_)
 ·refine zA (fun x23 h24=>?_)
  refine zA (fun x25 h26=>?_)
  refine zA (fun x27 h28=>?_)
  refine J_d 3912 [] [6,7,14] [(6,iv x27.1),(7,bv x27.2)] [] [] (zD 2 (wM (kk:=.i64) 86 9 1 2 eStr (.tmp 18) (.tmp 19) h24) (zD 3 (jH (d:=sv x23) 9 1 2 0 eStr (.tmp 20) h24 (by kernel_rfl)) (zD 4 (zPj 9 (.tmp 21) (some (.const (.int .i64 4))) none h26) (zD 5 (xL [(.tmp 22),(.const (.int .i64 6))] [9,3] (wF.ok x25 6) h28) zB)))) ?_
  refine yQ (atI zLe 7827) (fun v34:Bool=>St.mk' [(3,rr 1 s21.1),(4,rr 2 x2),(5,iv s21.2),(6,iv x27.1),(35,bv v34)] [(0,.box (zC.enc false a1)),(1,rE 1 zG s21.1),(2,rE 1 eStr x2)]) (fun v34=>?_) (fun jv34=>?_)
  ·refine yQ (aft zLe 1956) (fun v38:(List Int)=>St.mk' [(3,rr 4 v38),(4,rr 2 x2),(5,iv s21.2)] [(0,.box (zC.enc false a1)),(2,rE 1 eStr x2),(4,rE 1 zG v38)]) (fun v38=>?_) (fun jv38=>?_)
   ·refine J_d 979 [] [5] [(5,iv (w64 (s21.2+1)))] [] [] zB ?_
    refine kR 4 1 (Nat.le_of_ble_eq_true rfl) (Nat.le_of_ble_eq_true rfl) ?_
    exact J_q (J_b (ih (v38,w64 (s21.2+1)))) rfl
   ·refine zF 35 (fun h35=>?_) (fun h35=>?_)
    ·refine zA (fun x36 h37=>?_)
     refine J_d 15654 [] [3,6,35] [(3,rr 4 x36)] [1,4] [(4,rE 1 zG x36)] (zD 2 (zDM 39 2 1 3 zG [x27.1] [0] [(.tmp 37)] [iv x27.1]) (zD 3 (zG4 39 39 2 2 1 8 4 1 3 zG (.tmp 36) (.tmp 38) h37) zB)) ?_
     exact yF (J_j (jv38 x36)) rfl
    ·refine kR 1 4 (Nat.le_of_ble_eq_true rfl) (Nat.le_of_ble_eq_true rfl) ?_
     exact yF (J_j (jv38 s21.1)) rfl
  ·refine wJ (fun h29=>?_) (fun h29=>?_)
   ·refine zA (fun x30 h31=>?_)
    refine zA (fun x32 h33=>?_)
    refine J_d 7826 [] [7,35] [(35,bv (seq x30 x32))] [] [] (xU 1 [(26,bv x27.2)] [] h29 (zDL 3 1 27 true (xL [(.tmp 28)] [2] (wH.ok x27.1) h31) (zDL 6 1 27 true (wM (kk:=.i64) 86 9 1 2 eStr (.tmp 30) (.tmp 31) h33) (zDL 7 1 27 true (jH (d:=sv x32) 9 1 2 0 eStr (.tmp 32) h33 (by kernel_rfl)) zB)))) ?_
    exact yF (J_j (jv34 (seq x30 x32))) rfl
   ·refine J_d 7826 [] [7,35] [(35,bv false)] [] [] (xU 1 [(26,bv x27.2)] [] h29 zB) ?_
    exact yF (J_j (jv34 false)) rfl
 ·exact yF (hk s21.1) rfl
theorem wT.ok (a1:zC):Ok Tryz.prog 114 [pp 0] [.box (zC.enc false a1)] ((wT a1).map fun r=>(so 1 zG r,[.box (zC.enc false a1)])):=by
 refine zH zLe Tryz.f114 1 41 (fun q=>?_)
 unfold wT
 refine J_g 2 [] [(0,pp 0)] [(0,.box (zC.enc false a1))] zB ?_
 refine J_d 6 [] [3] [(3,rr 1 ([]:List Int))] [1] [(1,rE 1 zG ([]:List Int))] (zD 0 (zDM 39 2 1 1 zG ([]:List Int) [] [] []) zB) ?_
 refine zA (fun x2 h3=>?_)
 refine J_g 14 [] [(3,rr 1 ([]:List Int)),(4,rr 2 x2)] [(0,.box (zC.enc false a1)),(1,rE 1 zG ([]:List Int)),(2,rE 1 eStr x2)] (zD 1 (zFL [(0,.box (zC.enc false a1))] [(2,rE 1 eStr x2)] (wG («as»:=[pp 0,sv (bs [103,101,110,47])]) [(.tmp 9),(.const (.string (bs [103,101,110,47])))] [72,9] false [(0,.box (zC.enc false a1))] [0] (.cons (.pt rfl) (.cons (.same rfl) (.nil))) (uO.ok a1 (bs [103,101,110,47])) h3 (.own 2))) zB) ?_
 refine J_d 60 [] [5] [(5,iv 0)] [] [] zB ?_
 refine zEM (zBS.ok a1 x2 q _ (fun v39=>J_j ?_) (([]:List Int),0))
 refine J_g 62 [] [(2,rr 1 v39)] [(0,.box (zC.enc false a1)),(1,rE 1 zG v39)] zB ?_
 exact zAM (ds:=[rr 1 v39]) (ds':=[so 1 zG v39]) (.cons (.cell (.move (.tail _ (.head _)) (List.length_map _) (by decide) (.nil))) (.nil) (by decide)) rfl
noncomputable def zPD:Code:=(Tryz.f115.body).getD .skip
theorem zD2.ok (a1:(List Int)) (a2:Int) (q:Wd) (kn:Unit→Option (D×List Ent)) (hk:∀v:Unit,J (q.g Tryz.prog 115 0 18) zPD (atI zPD 7) (St.mk' [] []) (some v) kn):
  ∀s7:Int,J (q.g Tryz.prog 115 0 18) zPD (atI zPD 52) (St.mk' [(0,sl 1 zG a1),(1,iv a2),(5,iv s7)] []) (zD2 a1 a2 s7) (Fl.go (fun r:Bool=>some (bv r,[])) kn):=by
 refine kP (fun g ih s7=>?_)
 unfold zCV
 refine J_d 208 [] [9] [(9,bv (decide (s7< (a1.length:Int))))] [] [] zB ?_
 refine zF 9 (fun h8=>?_) (fun h8=>?_)
 ·refine zA (fun x9 h10=>?_)
  refine J_d 840 [] [9,17] [(17,bv (x9==a2))] [] [] (zD 2 (zAg (kk:=.i64) 39 2 1 zG (.tmp 12) (.tmp 13) h10) zB) ?_
  refine zF 17 (fun h11=>?_) (fun h11=>?_)
  ·refine J_g 3364 [] [(4,bv true)] [] zB ?_
   exact zR rfl
  ·refine J_d 211 [] [5,17] [(5,iv (w64 (s7+1)))] [] [] zB ?_
   exact J_q (J_b (ih (w64 (s7+1)))) rfl
 ·exact yF (hk ()) rfl
theorem yX.ok (a1:(List Int)) (a2:Int):Ok Tryz.prog 115 [sl 1 zG a1,iv a2] [] ((yX a1 a2).map fun r=>(bv r,[])):=by
 refine zH zPD Tryz.f115 0 18 (fun q=>?_)
 unfold yX
 refine J_g 2 [] [(0,sl 1 zG a1),(1,iv a2)] [] zB ?_
 refine J_d 12 [] [5] [(5,iv 0)] [] [] zB ?_
 refine vU (K0:=(fun r:Bool=>some (bv r,[]))) (fun _=>rfl) (zD2.ok a1 a2 q _ (fun v12=>J_j ?_) 0)
 refine J_g 14 [] [(4,bv false)] [] zB ?_
 exact zR rfl
noncomputable def c116:Code:=(Tryz.f116.body).getD .skip
theorem zD3.ok (a1:(List Int)) (a2:Int) (q:Wd) (kn:((List Int)×Bool)→Option (D×List Ent)) (hk:∀v:((List Int)×Bool),J (q.g Tryz.prog 116 0 43) c116 (atI c116 31) (St.mk' [(1,iv a2),(5,rr 0 v.1),(6,bv v.2)] [(0,rE 1 zG v.1)]) (some v) kn):
  ∀s16:((List Int)×Bool×Int),J (q.g Tryz.prog 116 0 43) c116 (atI c116 244) (St.mk' [(0,sl 1 zG a1),(1,iv a2),(5,rr 0 s16.1),(6,bv s16.2.1),(7,iv s16.2.2)] [(0,rE 1 zG s16.1)]) (zD3 a1 a2 s16) kn:=by
 refine kP (fun g ih s16=>?_)
 unfold zCQ
 refine J_d 976 [] [12] [(12,bv (decide (s16.2.2< (a1.length:Int))))] [] [] zB ?_
 refine zF 12 (fun h17=>?_) (fun h17=>?_)
 ·refine zA (fun x18 h19=>?_)
  refine yQ (atI c116 7825) (fun v21:Bool=>St.mk' [(0,sl 1 zG a1),(1,iv a2),(5,rr 0 s16.1),(6,bv s16.2.1),(7,iv s16.2.2),(24,bv v21)] [(0,rE 1 zG s16.1)]) (fun v21=>?_) (fun jv21=>?_)
  ·refine yQ (atI c116 3913) (fun v25:((List Int)×Bool)=>St.mk' [(0,sl 1 zG a1),(1,iv a2),(5,rr 2 v25.1),(6,bv v25.2),(7,iv s16.2.2)] [(2,rE 1 zG v25.1)]) (fun v25=>?_) (fun jv25=>?_)
   ·refine zA (fun x26 h27=>?_)
    refine zA (fun x28 h29=>?_)
    refine J_g 3913 [] [(0,sl 1 zG a1),(1,iv a2),(5,rr 4 x28),(6,bv v25.2),(7,iv s16.2.2)] [(4,rE 1 zG x28)] (zD 3 (zAg (kk:=.i64) 39 2 1 zG (.tmp 30) (.tmp 31) h27) (zD 5 (zDM 39 2 1 3 zG [x26] [0] [(.tmp 33)] [iv x26]) (zD 6 (zG4 39 39 2 2 1 8 4 2 3 zG (.tmp 29) (.tmp 34) h29) zB))) ?_
    refine J_d 979 [] [7] [(7,iv (w64 (s16.2.2+1)))] [] [] zB ?_
    refine kR 4 0 (Nat.le_of_ble_eq_true rfl) (Nat.le_of_ble_eq_true rfl) ?_
    exact J_q (J_b (ih (x28,v25.2,w64 (s16.2.2+1)))) rfl
   ·refine zF 24 (fun h22=>?_) (fun h22=>?_)
    ·refine zA (fun x23 h24=>?_)
     refine J_g 31300 [] [(0,sl 1 zG a1),(1,iv a2),(5,rr 2 x23),(7,iv s16.2.2)] [(2,rE 1 zG x23)] (zD 2 (zDM 39 2 1 1 zG [a2] [0] [(.tmp 26)] [iv a2]) (zD 3 (zG4 39 39 2 2 1 8 2 0 1 zG (.tmp 25) (.tmp 27) h24) zB)) ?_
     refine J_d 31301 [] [6] [(6,bv true)] [] [] zB ?_
     exact yF (J_j (jv25 (x23,true))) rfl
    ·refine kR 0 2 (Nat.le_of_ble_eq_true rfl) (Nat.le_of_ble_eq_true rfl) ?_
     exact yF (J_j (jv25 (s16.1,s16.2.1))) rfl
  ·refine wJ (fun h20=>?_) (fun h20=>?_)
   ·refine J_d 7824 [] [12,24] [(24,bv (!s16.2.1))] [] [] (zD 2 (zAg (kk:=.i64) 39 2 1 zG (.tmp 15) (.tmp 16) h19) (xU 6 [(20,bv (decide (x18>a2)))] [] h20 zB)) ?_
    exact yF (J_j (jv21 (!s16.2.1))) rfl
   ·refine J_d 7824 [] [12,24] [(24,bv false)] [] [] (zD 2 (zAg (kk:=.i64) 39 2 1 zG (.tmp 15) (.tmp 16) h19) (xU 6 [(20,bv (decide (x18>a2)))] [] h20 zB)) ?_
    exact yF (J_j (jv21 false)) rfl
 ·exact yF (hk (s16.1,s16.2.1)) rfl
theorem wX.ok (a1:(List Int)) (a2:Int):Ok Tryz.prog 116 [sl 1 zG a1,iv a2] [] ((wX a1 a2).map fun r=>(so 1 zG r,[])):=by
 refine zH c116 Tryz.f116 0 43 (fun q=>?_)
 unfold wX
 refine J_g 2 [] [(0,sl 1 zG a1),(1,iv a2)] [] zB ?_
 refine J_g 6 [] [(0,sl 1 zG a1),(1,iv a2),(5,rr 0 ([]:List Int))] [(0,rE 1 zG ([]:List Int))] (zD 0 (zDM 39 2 1 0 zG ([]:List Int) [] [] []) zB) ?_
 refine J_g 14 [] [(0,sl 1 zG a1),(1,iv a2),(5,rr 0 ([]:List Int)),(6,bv false)] [(0,rE 1 zG ([]:List Int))] zB ?_
 refine J_d 60 [] [7] [(7,iv 0)] [] [] zB ?_
 refine zEM (zD3.ok a1 a2 q _ (fun v30=>J_j ?_) (([]:List Int),false,0))
 refine J_d 124 [] [6,37] [(37,bv (!v30.2))] [] [] zB ?_
 refine yQ (atI c116 63) (fun v34:(List Int)=>St.mk' [(5,rr 2 v34)] [(2,rE 1 zG v34)]) (fun v34=>?_) (fun jv34=>?_)
 ·refine J_g 126 [] [(4,rr 2 v34)] [(2,rE 1 zG v34)] zB ?_
  exact zAM (ds:=[rr 2 v34]) (ds':=[so 1 zG v34]) (.cons (.cell (.move (.head _) (List.length_map _) (by decide) (.nil))) (.nil) (by decide)) rfl
 ·refine zF 37 (fun h31=>?_) (fun h31=>?_)
  ·refine zA (fun x32 h33=>?_)
   refine J_g 250 [] [(5,rr 2 x32)] [(2,rE 1 zG x32)] (zD 2 (zDM 39 2 1 1 zG [a2] [0] [(.tmp 39)] [iv a2]) (zD 3 (zG4 39 39 2 2 1 8 2 0 1 zG (.tmp 38) (.tmp 40) h33) zB)) ?_
   exact yF (J_j (jv34 x32)) rfl
  ·refine kR 0 2 (Nat.le_of_ble_eq_true rfl) (Nat.le_of_ble_eq_true rfl) ?_
   exact yF (J_j (jv34 v30.1)) rfl
noncomputable def c92:Code:=(Tryz.f92.body).getD .skip
theorem kK.ok (a1:zC):Ok Tryz.prog 92 [pp 0] [.box (zC.enc false a1)] ((kK a1).map fun r=>(iv r,[.box (zC.enc false a1)])):=by
 refine zH c92 Tryz.f92 1 33 (fun q=>?_)
 unfold kK
 refine J_d 2 [] [] [] [] [] zB ?_
 refine zA (fun x2 h3=>?_)
 refine J_g 6 [] [(0,pp 0),(3,iv x2)] [(0,.box (zC.enc false a1))] (zD 1 (zFL [(0,.box (zC.enc false a1))] [] (wG («as»:=[pp 0,sv (bs [99,117,114])]) [(.tmp 6),(.const (.string (bs [99,117,114])))] [72,9] false [(0,.box (zC.enc false a1))] [0] (.cons (.pt rfl) (.cons (.same rfl) (.nil))) (yK.ok a1 (bs [99,117,114])) h3 (.same rfl rfl))) zB) ?_
 refine J_d 28 [] [9] [(9,bv (decide (x2<0)))] [] [] zB ?_
 refine zF 9 (fun h4=>?_) (fun h4=>?_)
 ·refine J_d 116 [] [0,2,3,9] [(2,iv 0)] [] [] zB ?_
  exact zR rfl
 ·refine zA (fun x5 h6=>?_)
  refine zA (fun x7 h8=>?_)
  refine J_d 30 [] [3,4,5,9] [(4,iv x7.1),(5,bv x7.2)] [] [] (zD 5 (zAg (kk:=.i64) 31 138 2 (File.enc false) (.tmp 14) (.tmp 15) h6) (zD 8 (zNY (xs:=x5.Data) 121 9 5 (.tmp 18)) (zD 9 (xL [(.tmp 19),(.const (.int .i64 6))] [9,3] (wF.ok (b2s x5.Data) 6) h8) zB))) ?_
  refine yQ (atI c92 125) (fun v14:Bool=>St.mk' [(4,iv x7.1),(31,bv v14)] [(0,.box (zC.enc false a1))]) (fun v14=>?_) (fun jv14=>?_)
  ·refine zF 31 (fun h15=>?_) (fun h15=>?_)
   ·refine J_d 500 [] [2,4,31] [(2,iv 0)] [] [] zB ?_
    exact zR rfl
   ·refine J_d 126 [] [2,4,31] [(2,iv x7.1)] [] [] zB ?_
    exact zR rfl
  ·refine wJ (fun h9=>?_) (fun h9=>?_)
   ·refine J_d 124 [] [0,5,31] [(31,bv true)] [] [] (xU 2 [(24,bv (!x7.2))] [] h9 zB) ?_
    exact yF (J_j (jv14 true)) rfl
   ·refine zA (fun x10 h11=>?_)
    refine zA (fun x12 h13=>?_)
    refine J_d 124 [] [0,5,31] [(31,bv (!x12))] [] [] (xU 2 [(24,bv (!x7.2))] [] h9 (zDL 4 2 25 false (zFL [(0,.box (zC.enc false a1))] [(1,rE 1 zG x10)] (wG («as»:=[pp 0]) [(.tmp 26)] [72] false [(0,.box (zC.enc false a1))] [0] (.cons (.pt rfl) (.nil)) (wT.ok a1) h11 (.own 1))) (zDL 6 2 25 false (wG («as»:=[rr 1 x10,iv x7.1]) [(.tmp 27),(.tmp 28)] [39,2] true [(1,rE 1 zG x10)] [] (.cons (zDP (.head _) (fun _=>rfl) rfl) (.cons (.same rfl) (.nil))) (yX.ok x10 x7.1) h13 (.same rfl rfl) (hbor:=fun _=>⟨fhN,zT⟩)) zB))) ?_
    exact yF (J_j (jv14 (!x12))) rfl
noncomputable def c57:Code:=(Tryz.f57.body).getD .skip
theorem zBm.ok (a1:zC) (a2:(List Int)) (x4:(List Int)) (q:Wd) (kn:(List Int)→Option (D×List Ent)) (hk:∀v:(List Int),J (q.g Tryz.prog 57 1 54) c57 (atI c57 63) (St.mk' [(0,pp 0),(7,rr 2 v)] [(0,.box (zC.enc false a1)),(2,rE 1 zG v)]) (some v) kn):
  ∀s22:((List Int)×Int),J (q.g Tryz.prog 57 1 54) c57 (atI c57 500) (St.mk' [(0,pp 0),(1,sl 1 zG a2),(6,rr 1 x4),(7,rr 2 s22.1),(8,iv s22.2)] [(0,.box (zC.enc false a1)),(1,rE 1 zG x4),(2,rE 1 zG s22.1)]) (zBm a1 a2 x4 s22) (Fl.go (fun r:((List Int)×Int)=>some (.tu [so 1 zG r.1,iv r.2],[.box (zC.enc false a1)])) kn):=by
 refine kP (fun g ih s22=>?_)
 unfold zBL
 refine J_d 2000 [] [19] [(19,bv (decide (s22.2< (a2.length:Int))))] [] [] zB ?_
 refine zF 19 (fun h23=>?_) (fun h23=>?_)
 ·refine zA (fun x24 h25=>?_)
  refine zA (fun x26 h27=>?_)
  refine J_d 16016 [] [19,28] [(28,bv (!x26))] [] [] (zD 3 (zAg (kk:=.i64) 39 2 1 zG (.tmp 23) (.tmp 24) h25) (zD 5 (wG («as»:=[rr 1 x4,iv x24]) [(.tmp 22),(.tmp 26)] [39,2] true [(1,rE 1 zG x4)] [] (.cons (zDP (.head _) (fun _=>rfl) rfl) (.cons (.same rfl) (.nil))) (yX.ok x4 x24) h27 (.same rfl rfl) (hbor:=fun _=>⟨fhN,zT⟩)) zB)) ?_
  refine zF 28 (fun h28=>?_) (fun h28=>?_)
  ·refine J_g 64068 [] [(4,nv),(5,iv 4)] [(0,.box (zC.enc false a1))] zB ?_
   exact zAM (ds:=[nv,iv 4]) (ds':=[so 1 zG ([]:List Int),iv 4]) (.cons (.cell (.nilsl true 1 (.nil))) (.cons (.cell (.keep rfl (.nil))) (.nil) (by decide)) (by decide)) rfl
  ·refine zA (fun x29 h30=>?_)
   refine zA (fun x31 h32=>?_)
   refine J_d 16018 [] [28,35] [(35,bv (!x31))] [] [] (zD 3 (zAg (kk:=.i64) 39 2 1 zG (.tmp 30) (.tmp 31) h30) (zD 5 (wG («as»:=[rr 2 s22.1,iv x29]) [(.tmp 29),(.tmp 33)] [39,2] true [(2,rE 1 zG s22.1)] [] (.cons (zDP (.head _) (fun _=>rfl) rfl) (.cons (.same rfl) (.nil))) (yX.ok s22.1 x29) h32 (.same rfl rfl) (hbor:=fun _=>⟨fhN,zT⟩)) zB)) ?_
   refine yQ (aft c57 4004) (fun v38:(List Int)=>St.mk' [(0,pp 0),(1,sl 1 zG a2),(6,rr 1 x4),(7,rr 3 v38),(8,iv s22.2)] [(0,.box (zC.enc false a1)),(1,rE 1 zG x4),(3,rE 1 zG v38)]) (fun v38=>?_) (fun jv38=>?_)
   ·refine J_d 2003 [] [8] [(8,iv (w64 (s22.2+1)))] [] [] zB ?_
    refine kR 3 2 (Nat.le_of_ble_eq_true rfl) (Nat.le_of_ble_eq_true rfl) ?_
    exact J_q (J_b (ih (v38,w64 (s22.2+1)))) rfl
   ·refine zF 35 (fun h33=>?_) (fun h33=>?_)
    ·refine zA (fun x34 h35=>?_)
     refine zA (fun x36 h37=>?_)
     refine J_d 32038 [] [7,35] [(7,rr 3 x36)] [2,3] [(3,rE 1 zG x36)] (zD 3 (zAg (kk:=.i64) 39 2 1 zG (.tmp 37) (.tmp 38) h35) (zD 5 (wG («as»:=[rr 2 s22.1,iv x34]) [(.tmp 36),(.tmp 40)] [39,2] true [(2,rE 1 zG s22.1)] [] (.cons (zDP (.head _) (fun _=>rfl) rfl) (.cons (.same rfl) (.nil))) (wX.ok s22.1 x34) h37 (.own 3) (hbor:=fun _=>⟨fhN,(zDU (zEN (fun _=>(flatK zT zDQ)) _))⟩)) zB)) ?_
     exact yF (J_j (jv38 x36)) rfl
    ·refine kR 2 3 (Nat.le_of_ble_eq_true rfl) (Nat.le_of_ble_eq_true rfl) ?_
     exact yF (J_j (jv38 s22.1)) rfl
 ·exact yF (hk s22.1) rfl
theorem kJ.ok (a1:zC) (a2:(List Int)):Ok Tryz.prog 57 [pp 0,sl 1 zG a2] [.box (zC.enc false a1)] ((kJ a1 a2).map fun r=>(.tu [so 1 zG r.1,iv r.2],[.box (zC.enc false a1)])):=by
 refine zH c57 Tryz.f57 1 54 (fun q=>?_)
 unfold kJ
 refine J_g 2 [] [(0,pp 0),(1,sl 1 zG a2)] [(0,.box (zC.enc false a1))] zB ?_
 refine J_d 12 [] [12] [(12,bv (decide ((a2.length:Int)>40)))] [] [] zB ?_
 refine zF 12 (fun h3=>?_) (fun h3=>?_)
 ·refine J_g 52 [] [(4,nv),(5,iv 2)] [(0,.box (zC.enc false a1))] zB ?_
  exact zAM (ds:=[nv,iv 2]) (ds':=[so 1 zG ([]:List Int),iv 2]) (.cons (.cell (.nilsl true 1 (.nil))) (.cons (.cell (.keep rfl (.nil))) (.nil) (by decide)) (by decide)) rfl
 ·refine zA (fun x4 h5=>?_)
  refine J_g 14 [] [(0,pp 0),(1,sl 1 zG a2),(6,rr 1 x4)] [(0,.box (zC.enc false a1)),(1,rE 1 zG x4)] (zD 1 (zFL [(0,.box (zC.enc false a1))] [(1,rE 1 zG x4)] (wG («as»:=[pp 0]) [(.tmp 13)] [72] false [(0,.box (zC.enc false a1))] [0] (.cons (.pt rfl) (.nil)) (wT.ok a1) h5 (.own 1))) zB) ?_
  refine J_g 30 [] [(0,pp 0),(1,sl 1 zG a2),(6,rr 1 x4),(7,rr 2 ([]:List Int))] [(0,.box (zC.enc false a1)),(1,rE 1 zG x4),(2,rE 1 zG ([]:List Int))] (zD 0 (zDM 39 2 1 2 zG ([]:List Int) [] [] []) zB) ?_
  refine J_d 124 [] [8] [(8,iv 0)] [] [] zB ?_
  refine vU (K0:=(fun r:((List Int)×Int)=>some (.tu [so 1 zG r.1,iv r.2],[.box (zC.enc false a1)]))) (fun _=>rfl) (zBm.ok a1 a2 x4 q _ (fun v39=>J_j ?_) (([]:List Int),0))
  refine zA (fun x40 h41=>?_)
  refine J_g 126 [] [(7,rr 2 v39),(9,iv x40)] [(0,.box (zC.enc false a1)),(2,rE 1 zG v39)] (zD 1 (zFL [(0,.box (zC.enc false a1))] [] (wG («as»:=[pp 0]) [(.tmp 42)] [72] false [(0,.box (zC.enc false a1))] [0] (.cons (.pt rfl) (.nil)) (kK.ok a1) h41 (.same rfl rfl))) zB) ?_
  refine J_d 508 [] [45] [(45,bv (x40==0))] [] [] zB ?_
  refine zF 45 (fun h42=>?_) (fun h42=>?_)
  ·refine J_g 2036 [] [(4,nv),(5,iv 4)] [(0,.box (zC.enc false a1))] zB ?_
   exact zAM (ds:=[nv,iv 4]) (ds':=[so 1 zG ([]:List Int),iv 4]) (.cons (.cell (.nilsl true 1 (.nil))) (.cons (.cell (.keep rfl (.nil))) (.nil) (by decide)) (by decide)) rfl
  ·refine zA (fun x43 h44=>?_)
   refine J_d 1020 [] [45,49] [(49,bv (!x43))] [] [] (zD 2 (wG («as»:=[rr 2 v39,iv x40]) [(.tmp 46),(.tmp 47)] [39,2] true [(2,rE 1 zG v39)] [] (.cons (zDP (.head _) (fun _=>rfl) rfl) (.cons (.same rfl) (.nil))) (yX.ok v39 x40) h44 (.same rfl rfl) (hbor:=fun _=>⟨fhN,zT⟩)) zB) ?_
   refine yQ (atI c57 511) (fun v48:(List Int)=>St.mk' [(7,rr 3 v48)] [(0,.box (zC.enc false a1)),(3,rE 1 zG v48)]) (fun v48=>?_) (fun jv48=>?_)
   ·refine J_g 1022 [] [(4,rr 3 v48),(5,iv 0)] [(0,.box (zC.enc false a1)),(3,rE 1 zG v48)] zB ?_
    exact zAM (ds:=[rr 3 v48,iv 0]) (ds':=[so 1 zG v48,iv 0]) (.cons (.cell (.move (.tail _ (.head _)) (List.length_map _) (by decide) (.nil))) (.cons (.cell (.keep rfl (.nil))) (.nil) (by decide)) (by decide)) rfl
   ·refine zF 49 (fun h45=>?_) (fun h45=>?_)
    ·refine zA (fun x46 h47=>?_)
     refine J_d 2042 [] [7,9,49] [(7,rr 3 x46)] [2,3] [(3,rE 1 zG x46)] (zD 2 (wG («as»:=[rr 2 v39,iv x40]) [(.tmp 50),(.tmp 51)] [39,2] true [(2,rE 1 zG v39)] [] (.cons (zDP (.head _) (fun _=>rfl) rfl) (.cons (.same rfl) (.nil))) (wX.ok v39 x40) h47 (.own 3) (hbor:=fun _=>⟨fhN,(zDU (zEN (fun _=>(flatK zT zDQ)) _))⟩)) zB) ?_
     exact yF (J_j (jv48 x46)) rfl
    ·refine kR 2 3 (Nat.le_of_ble_eq_true rfl) (Nat.le_of_ble_eq_true rfl) ?_
     exact yF (J_j (jv48 v39)) rfl
noncomputable def zPb:Code:=(Tryz.f235.body).getD .skip
theorem zC9.ok (a1:ByteArray) (a2:Int) (q:Wd) (kn:(List ByteArray)→Option (D×List Ent)) (hk:∀v:(List ByteArray),J (q.g Tryz.prog 235 0 36) zPb (atI zPb 31) (St.mk' [(5,rr 0 v)] [(0,rE 1 eStr v)]) (some v) kn):
  ∀s14:((List ByteArray)×Int×Int),J (q.g Tryz.prog 235 0 36) zPb (atI zPb 244) (St.mk' [(0,sv a1),(1,uv a2),(5,rr 0 s14.1),(6,iv s14.2.1),(7,iv s14.2.2)] [(0,rE 1 eStr s14.1)]) (zC9 a1 a2 s14) kn:=by
 refine kP (fun g ih s14=>?_)
 unfold zBO
 refine J_d 976 [] [12] [(12,bv (decide (s14.2.2≤(a1.size:Int))))] [] [] zB ?_
 refine zF 12 (fun h15=>?_) (fun h15=>?_)
 ·refine yQ (atI zPb 3913) (fun v19:Bool=>St.mk' [(0,sv a1),(1,uv a2),(5,rr 0 s14.1),(6,iv s14.2.1),(7,iv s14.2.2),(25,bv v19)] [(0,rE 1 eStr s14.1)]) (fun v19=>?_) (fun jv19=>?_)
  ·refine yQ (aft zPb 1956) (fun v25:((List ByteArray)×Int)=>St.mk' [(0,sv a1),(1,uv a2),(5,rr 2 v25.1),(6,iv v25.2),(7,iv s14.2.2)] [(2,rE 1 eStr v25.1)]) (fun v25=>?_) (fun jv25=>?_)
   ·refine J_d 979 [] [7] [(7,iv (w64 (s14.2.2+1)))] [] [] zB ?_
    refine kR 2 0 (Nat.le_of_ble_eq_true rfl) (Nat.le_of_ble_eq_true rfl) ?_
    exact J_q (J_b (ih (v25.1,v25.2,w64 (s14.2.2+1)))) rfl
   ·refine zF 25 (fun h20=>?_) (fun h20=>?_)
    ·refine zA (fun x21 h22=>?_)
     refine zA (fun x23 h24=>?_)
     refine J_g 15652 [] [(0,sv a1),(1,uv a2),(5,rr 2 x23),(7,iv s14.2.2)] [(2,rE 1 eStr x23)] (zD 4 (zPj 9 (.tmp 27) (some (.tmp 28)) (some (.tmp 29)) h22) (zD 5 (zDM 86 9 1 1 eStr [x21] [0] [(.tmp 30)] [sv x21]) (zD 6 (zG4 86 86 9 9 1 16 2 0 1 eStr (.tmp 26) (.tmp 31) h24) zB))) ?_
     refine J_d 15653 [] [6] [(6,iv (w64 (s14.2.2+1)))] [] [] zB ?_
     exact yF (J_j (jv25 (x23,w64 (s14.2.2+1)))) rfl
    ·refine kR 0 2 (Nat.le_of_ble_eq_true rfl) (Nat.le_of_ble_eq_true rfl) ?_
     exact yF (J_j (jv25 (s14.1,s14.2.1))) rfl
  ·refine wJ (fun h16=>?_) (fun h16=>?_)
   ·refine J_d 3912 [] [12,25] [(25,bv true)] [] [] (xU 4 [(18,bv (s14.2.2==(a1.size:Int)))] [] h16 zB) ?_
    exact yF (J_j (jv19 true)) rfl
   ·refine zA (fun x17 h18=>?_)
    refine J_d 3912 [] [12,25] [(25,bv (x17==a2))] [] [] (xU 4 [(18,bv (s14.2.2==(a1.size:Int)))] [] h16 (zDL 7 4 19 false (zKr (kk:=.i64) 9 (.tmp 20) (.tmp 21) h18) zB)) ?_
    exact yF (J_j (jv19 (x17==a2))) rfl
 ·exact yF (hk s14.1) rfl
theorem jA.ok (a1:ByteArray) (a2:Int):Ok Tryz.prog 235 [sv a1,uv a2] [] ((jA a1 a2).map fun r=>(so 1 eStr r,[])):=by
 refine zH zPb Tryz.f235 0 36 (fun q=>?_)
 unfold jA
 refine J_g 2 [] [(0,sv a1),(1,uv a2)] [] zB ?_
 refine J_g 6 [] [(0,sv a1),(1,uv a2),(5,rr 0 ([]:List ByteArray))] [(0,rE 1 eStr ([]:List ByteArray))] (zD 0 (zDM 86 9 1 0 eStr ([]:List ByteArray) [] [] []) zB) ?_
 refine J_g 14 [] [(0,sv a1),(1,uv a2),(5,rr 0 ([]:List ByteArray)),(6,iv 0)] [(0,rE 1 eStr ([]:List ByteArray))] zB ?_
 refine J_d 60 [] [7] [(7,iv 0)] [] [] zB ?_
 refine zEM (zC9.ok a1 a2 q _ (fun v26=>J_j ?_) (([]:List ByteArray),0,0))
 refine J_g 62 [] [(4,rr 0 v26)] [(0,rE 1 eStr v26)] zB ?_
 exact zAM (ds:=[rr 0 v26]) (ds':=[so 1 eStr v26]) (.cons (.cell (.move (.head _) (List.length_map _) (by decide) (.nil))) (.nil) (by decide)) rfl
noncomputable def zQT:Code:=(Tryz.f170.body).getD .skip
theorem zCq.ok (a1:ByteArray):Ok Tryz.prog 170 [sv a1] [] ((zCq a1).map fun r=>(so 1 eStr r,[])):=by
 refine zH zQT Tryz.f170 0 19 (fun q=>?_)
 unfold zCq
 refine J_g 2 [] [(0,sv a1)] [] zB ?_
 refine zA (fun x2 h3=>?_)
 refine J_g 6 [] [(3,rr 0 x2)] [(0,rE 1 eStr x2)] (zD 1 (wG («as»:=[sv a1,uv 10]) [(.tmp 4),(.const (.int .u8 10))] [9,5] false [] [] (.cons (.same rfl) (.cons (.same rfl) (.nil))) (jA.ok a1 10) h3 (.own 0)) zB) ?_
 refine zA (fun x4 h5=>?_)
 refine J_d 28 [] [12] [(12,bv (seq x4 (bs [])))] [] [] (zD 4 (wM (kk:=.i64) 86 9 1 0 eStr (.tmp 6) (.tmp 9) h5) (zD 5 (jH (d:=sv x4) 9 1 0 0 eStr (.tmp 10) h5 (by kernel_rfl)) zB)) ?_
 refine yQ (atI zQT 15) (fun v9:(List ByteArray)=>St.mk' [(3,rr 1 v9)] [(1,rE 1 eStr v9)]) (fun v9=>?_) (fun jv9=>?_)
 ·refine J_g 30 [] [(2,rr 1 v9)] [(1,rE 1 eStr v9)] zB ?_
  exact zAM (ds:=[rr 1 v9]) (ds':=[so 1 eStr v9]) (.cons (.cell (.move (.head _) (List.length_map _) (by decide) (.nil))) (.nil) (by decide)) rfl
 ·refine zF 12 (fun h6=>?_) (fun h6=>?_)
  ·refine zA (fun x7 h8=>?_)
   refine J_g 58 [] [(3,rr 1 x7)] [(1,rE 1 eStr x7)] (zD 4 (zMp 86 9 1 0 1 eStr (.tmp 13) none (some (.tmp 16)) h8) zB) ?_
   exact yF (J_j (jv9 x7)) rfl
  ·refine kR 0 1 (Nat.le_of_ble_eq_true rfl) (Nat.le_of_ble_eq_true rfl) ?_
   exact yF (J_j (jv9 x2)) rfl
noncomputable def zPv:Code:=(Tryz.f216.body).getD .skip
theorem zC5.ok (x2:(List ByteArray)) (q:Wd) (kn:(List ByteArray)→Option (D×List Ent)) (hk:∀v:(List ByteArray),J (q.g Tryz.prog 216 0 28) zPv (atI zPv 31) (St.mk' [(3,rr 0 v)] [(0,rE 1 eStr v)]) (some v) kn):
  ∀s13:((List ByteArray)×Int),J (q.g Tryz.prog 216 0 28) zPv (atI zPv 244) (St.mk' [(3,rr 0 s13.1),(4,rr 1 x2),(5,iv s13.2)] [(0,rE 1 eStr s13.1),(1,rE 1 eStr x2)]) (zC5 x2 s13) kn:=by
 refine kP (fun g ih s13=>?_)
 unfold zBJ
 refine J_d 976 [] [12] [(12,bv (decide (s13.2< (x2.length:Int))))] [] [] zB ?_
 refine zF 12 (fun h14=>?_) (fun h14=>?_)
 ·refine zA (fun x15 h16=>?_)
  refine J_d 3912 [] [12,19] [(19,bv (!(seq x15 (bs []))))] [] [] (zD 2 (wM (kk:=.i64) 86 9 1 1 eStr (.tmp 15) (.tmp 16) h16) (zD 3 (jH (d:=sv x15) 9 1 1 0 eStr (.tmp 17) h16 (by kernel_rfl)) zB)) ?_
  refine yQ (aft zPv 1956) (fun v22:(List ByteArray)=>St.mk' [(3,rr 3 v22),(4,rr 1 x2),(5,iv s13.2)] [(1,rE 1 eStr x2),(3,rE 1 eStr v22)]) (fun v22=>?_) (fun jv22=>?_)
  ·refine J_d 979 [] [5] [(5,iv (w64 (s13.2+1)))] [] [] zB ?_
   refine kR 3 0 (Nat.le_of_ble_eq_true rfl) (Nat.le_of_ble_eq_true rfl) ?_
   exact J_q (J_b (ih (v22,w64 (s13.2+1)))) rfl
  ·refine zF 19 (fun h17=>?_) (fun h17=>?_)
   ·refine zA (fun x18 h19=>?_)
    refine zA (fun x20 h21=>?_)
    refine J_d 7826 [] [3,19] [(3,rr 3 x20)] [0,3] [(3,rE 1 eStr x20)] (zD 3 (wM (kk:=.i64) 86 9 1 1 eStr (.tmp 21) (.tmp 22) h19) (zD 4 (jH (d:=sv x18) 9 1 1 0 eStr (.tmp 23) h19 (by kernel_rfl)) (zD 5 (zDM 86 9 1 2 eStr [x18] [0] [(.tmp 24)] [sv x18]) (zD 6 (zG4 86 86 9 9 1 16 3 0 2 eStr (.tmp 20) (.tmp 25) h21) zB)))) ?_
    exact yF (J_j (jv22 x20)) rfl
   ·refine kR 0 3 (Nat.le_of_ble_eq_true rfl) (Nat.le_of_ble_eq_true rfl) ?_
    exact yF (J_j (jv22 s13.1)) rfl
 ·exact yF (hk s13.1) rfl
theorem zCE.ok (a1:ByteArray):Ok Tryz.prog 216 [sv a1] [] ((zCE a1).map fun r=>(so 1 eStr r,[])):=by
 refine zH zPv Tryz.f216 0 28 (fun q=>?_)
 unfold zCE
 refine J_g 2 [] [(0,sv a1)] [] zB ?_
 refine J_g 6 [] [(0,sv a1),(3,rr 0 ([]:List ByteArray))] [(0,rE 1 eStr ([]:List ByteArray))] (zD 0 (zDM 86 9 1 0 eStr ([]:List ByteArray) [] [] []) zB) ?_
 refine zA (fun x2 h3=>?_)
 refine J_g 14 [] [(3,rr 0 ([]:List ByteArray)),(4,rr 1 x2)] [(0,rE 1 eStr ([]:List ByteArray)),(1,rE 1 eStr x2)] (zD 1 (wG («as»:=[sv a1,uv 32]) [(.tmp 7),(.const (.int .u8 32))] [9,5] false [] [] (.cons (.same rfl) (.cons (.same rfl) (.nil))) (jA.ok a1 32) h3 (.own 1)) zB) ?_
 refine J_d 60 [] [5] [(5,iv 0)] [] [] zB ?_
 refine zEM (zC5.ok x2 q _ (fun v23=>J_j ?_) (([]:List ByteArray),0))
 refine J_g 62 [] [(2,rr 0 v23)] [(0,rE 1 eStr v23)] zB ?_
 exact zAM (ds:=[rr 0 v23]) (ds':=[so 1 eStr v23]) (.cons (.cell (.move (.head _) (List.length_map _) (by decide) (.nil))) (.nil) (by decide)) rfl
noncomputable def zP6:Code:=(Tryz.f217.body).getD .skip
theorem jW.ok (x2:(List ByteArray)) (q:Wd) (kn:(List Int)→Option (D×List Ent)) (hk:∀v:(List Int),J (q.g Tryz.prog 217 0 47) zP6 (atI zP6 63) (St.mk' [(2,pp 0),(4,rr 2 v)] [(0,.box [iv 0,iv 0,iv 0,iv 0]),(2,rE 1 zG v)]) (some v) kn):
  ∀s13:((List Int)×Int),J (q.g Tryz.prog 217 0 47) zP6 (atI zP6 500) (St.mk' [(2,pp 0),(3,rr 1 x2),(4,rr 2 s13.1),(5,iv s13.2)] [(0,.box [iv 0,iv 0,iv 0,iv 0]),(1,rE 1 eStr x2),(2,rE 1 zG s13.1)]) (jW x2 s13) (Fl.go (fun r:zP=>some (.ag (zP.enc r),[])) kn):=by
 refine kP (fun g ih s13=>?_)
 unfold jB
 refine J_d 2000 [] [18] [(18,bv (decide (s13.2< (x2.length:Int))))] [] [] zB ?_
 refine zF 18 (fun h14=>?_) (fun h14=>?_)
 ·refine zA (fun x15 h16=>?_)
  refine zA (fun x17 h18=>?_)
  refine J_g 8008 [] [(2,pp 0),(3,rr 1 x2),(4,rr 2 s13.1),(5,iv s13.2),(6,iv x17.1),(7,bv x17.2)] [(0,.box [iv 0,iv 0,iv 0,iv 0]),(1,rE 1 eStr x2),(2,rE 1 zG s13.1)] (zD 2 (wM (kk:=.i64) 86 9 1 1 eStr (.tmp 22) (.tmp 23) h16) (zD 3 (jH (d:=sv x15) 9 1 1 0 eStr (.tmp 24) h16 (by kernel_rfl)) (zD 4 (xL [(.tmp 25),(.const (.int .i64 3))] [9,3] (wF.ok x15 3) h18) zB))) ?_
  refine J_d 32036 [] [7,30] [(30,bv (!x17.2))] [] [] zB ?_
  refine zF 30 (fun h19=>?_) (fun h19=>?_)
  ·refine J_g 128148 [] [(2,pp 0)] [(0,.box [iv 5,iv 0,iv 0,iv 0])] zB ?_
   exact zR rfl
  ·refine zA (fun x20 h21=>?_)
   refine J_g 16019 [] [(2,pp 0),(3,rr 1 x2),(4,rr 2 s13.1),(5,iv s13.2)] [(0,.box [iv 0,iv 0,iv 0,iv 0]),(1,rE 1 eStr x2),(2,rE 1 zG (s13.1.set s13.2.toNat x17.1))] (zD 3 (wM (kk:=.i64) 39 2 1 2 zG (.tmp 32) (.tmp 33) h21) (zF1 4 (zGE (b:=x17.1) 2 1 2 0 zG (iv x17.1) (.tmp 35) (.tmp 34) h21 rfl) zB)) ?_
   refine zE5 (σ':=St.mk' [(2,pp 0),(3,rr 1 x2),(4,rr 2 (s13.1.set s13.2.toNat x17.1)),(5,iv s13.2)] [(0,.box [iv 0,iv 0,iv 0,iv 0]),(1,rE 1 eStr x2),(2,rE 1 zG (s13.1.set s13.2.toNat x17.1))]) (by simp only [rr,List.length_set]) ?_
   refine J_d 2003 [] [5] [(5,iv (w64 (s13.2+1)))] [] [] zB ?_
   exact J_q (J_b (ih (s13.1.set s13.2.toNat x17.1,w64 (s13.2+1)))) rfl
 ·exact yF (hk s13.1) rfl
theorem vQ.ok (a1:ByteArray):Ok Tryz.prog 217 [sv a1] [] ((vQ a1).map fun r=>(.ag (zP.enc r),[])):=by
 refine zH zP6 Tryz.f217 0 47 (fun q=>?_)
 unfold vQ
 refine J_g 2 [(0,0)] [(0,sv a1),(2,pp 0)] [(0,.box [iv 0,iv 0,iv 0,iv 0])] zB ?_
 refine zA (fun x2 h3=>?_)
 refine J_g 6 [] [(2,pp 0),(3,rr 1 x2)] [(0,.box [iv 0,iv 0,iv 0,iv 0]),(1,rE 1 eStr x2)] (zD 1 (wG («as»:=[sv a1,uv 46]) [(.tmp 8),(.const (.int .u8 46))] [9,5] false [] [] (.cons (.same rfl) (.cons (.same rfl) (.nil))) (jA.ok a1 46) h3 (.own 1)) zB) ?_
 refine J_d 28 [] [12] [(12,bv (decide ((x2.length:Int)>3)))] [] [] zB ?_
 refine zF 12 (fun h4=>?_) (fun h4=>?_)
 ·refine J_g 116 [] [(2,pp 0)] [(0,.box [iv 5,iv 0,iv 0,iv 0])] zB ?_
  exact zR rfl
 ·refine J_g 30 [] [(2,pp 0),(3,rr 1 x2),(4,rr 2 [0,0,0])] [(0,.box [iv 0,iv 0,iv 0,iv 0]),(1,rE 1 eStr x2),(2,rE 1 zG [0,0,0])] (zD 0 (zDM 39 2 1 2 zG [0,0,0] [0,1,2] [(.const (.int .i64 0)),(.const (.int .i64 0)),(.const (.int .i64 0))] [iv 0,iv 0,iv 0]) zB) ?_
  refine J_d 124 [] [5] [(5,iv 0)] [] [] zB ?_
  refine vU (K0:=(fun r:zP=>some (.ag (zP.enc r),[]))) (fun _=>rfl) (jW.ok x2 q _ (fun v22=>J_j ?_) ([0,0,0],0))
  refine zA (fun x23 h24=>?_)
  refine zA (fun x25 h26=>?_)
  refine zA (fun x27 h28=>?_)
  refine J_g 126 [] [(2,pp 0)] [(0,.box [iv 0,iv x23,iv x25,iv x27])] (zD 1 (wM (kk:=.i64) 39 2 1 2 zG (.tmp 36) (.const (.int .i64 0)) h24) (zD 2 (jH (d:=iv x23) 2 1 2 0 zG (.tmp 37) h24 (by kernel_rfl)) (zD 4 (wM (kk:=.i64) 39 2 1 2 zG (.tmp 39) (.const (.int .i64 1)) h26) (zD 5 (jH (d:=iv x25) 2 1 2 0 zG (.tmp 40) h26 (by kernel_rfl)) (zD 7 (wM (kk:=.i64) 39 2 1 2 zG (.tmp 42) (.const (.int .i64 2)) h28) (zD 8 (jH (d:=iv x27) 2 1 2 0 zG (.tmp 43) h28 (by kernel_rfl)) zB)))))) ?_
  exact zR rfl
noncomputable def zPg:Code:=(Tryz.f149.body).getD .skip
theorem zCh.ok (a1:(List Pack)) (x4:(List ByteArray)) (q:Wd) (kn:(List Int)→Option (D×List Ent)) (hk:∀v:(List Int),J (q.g Tryz.prog 149 0 60) zPg (atI zPg 63) (St.mk' [(4,pp 0),(6,rr 2 v)] [(0,.box [iv 0,iv 0,nv]),(2,rE 1 zG v)]) (some v) kn):
  ∀s29:((List Int)×Int),J (q.g Tryz.prog 149 0 60) zPg (atI zPg 500) (St.mk' [(0,sl 8 (Pack.enc false) a1),(4,pp 0),(5,rr 1 x4),(6,rr 2 s29.1),(7,iv s29.2)] [(0,.box [iv 0,iv 0,nv]),(1,rE 1 eStr x4),(2,rE 1 zG s29.1)]) (zCh a1 x4 s29) (Fl.go (fun r:yG=>some (.ag [iv r.Code,iv r.At,so 1 zG r.Set],[])) kn):=by
 refine kP (fun g ih s29=>?_)
 unfold zAy
 refine J_d 2000 [] [21] [(21,bv (decide (s29.2< (x4.length:Int))))] [] [] zB ?_
 refine zF 21 (fun h30=>?_) (fun h30=>?_)
 ·refine zA (fun x31 h32=>?_)
  refine zA (fun x33 h34=>?_)
  refine J_g 8008 [] [(0,sl 8 (Pack.enc false) a1),(4,pp 0),(5,rr 1 x4),(6,rr 2 s29.1),(7,iv s29.2),(8,rr 3 x33)] [(0,.box [iv 0,iv 0,nv]),(1,rE 1 eStr x4),(2,rE 1 zG s29.1),(3,rE 1 eStr x33)] (zD 2 (wM (kk:=.i64) 86 9 1 1 eStr (.tmp 24) (.tmp 25) h32) (zD 3 (jH (d:=sv x31) 9 1 1 0 eStr (.tmp 26) h32 (by kernel_rfl)) (zD 4 (wG («as»:=[sv x31]) [(.tmp 27)] [9] false [] [] (.cons (.same rfl) (.nil)) (zCE.ok x31) h34 (.own 3)) zB))) ?_
  refine J_g 16018 [] [(0,sl 8 (Pack.enc false) a1),(4,pp 0),(5,rr 1 x4),(6,rr 2 s29.1),(7,iv s29.2),(8,rr 3 x33),(9,iv (-1))] [(0,.box [iv 0,iv 0,nv]),(1,rE 1 eStr x4),(2,rE 1 zG s29.1),(3,rE 1 eStr x33)] zB ?_
  refine J_d 64076 [] [31] [(31,bv ((x33.length:Int)==2))] [] [] zB ?_
  refine yQ (atI zPg 32039) (fun v45:Int=>St.mk' [(0,sl 8 (Pack.enc false) a1),(4,pp 0),(5,rr 1 x4),(6,rr 2 s29.1),(7,iv s29.2),(9,iv v45)] [(0,.box [iv 0,iv 0,nv]),(1,rE 1 eStr x4),(2,rE 1 zG s29.1)]) (fun v45=>?_) (fun jv45=>?_)
  ·refine yQ (atI zPg 128157) (fun v49:Bool=>St.mk' [(0,sl 8 (Pack.enc false) a1),(4,pp 0),(5,rr 1 x4),(6,rr 2 s29.1),(7,iv s29.2),(9,iv v45),(52,bv v49)] [(0,.box [iv 0,iv 0,nv]),(1,rE 1 eStr x4),(2,rE 1 zG s29.1)]) (fun v49=>?_) (fun jv49=>?_)
   ·refine zF 52 (fun h50=>?_) (fun h50=>?_)
    ·refine J_g 512628 [] [(4,pp 0)] [(0,.box [iv 5,iv s29.2,nv])] zB ?_
     exact zAM (ds:=[.ag [iv 5,iv s29.2,nv]]) (ds':=[.ag [iv 5,iv s29.2,so 1 zG ([]:List Int)]]) (.cons (.ag (.keep rfl (.keep rfl (.nilsl true 1 (.nil))))) (.nil) (by decide)) rfl
    ·refine zA (fun x51 h52=>?_)
     refine J_g 64079 [] [(0,sl 8 (Pack.enc false) a1),(4,pp 0),(5,rr 1 x4),(6,rr 3 x51),(7,iv s29.2)] [(0,.box [iv 0,iv 0,nv]),(1,rE 1 eStr x4),(3,rE 1 zG x51)] (zD 2 (wG («as»:=[rr 2 s29.1,iv v45]) [(.tmp 55),(.tmp 56)] [39,2] true [(2,rE 1 zG s29.1)] [] (.cons (zDP (.head _) (fun _=>rfl) rfl) (.cons (.same rfl) (.nil))) (wX.ok s29.1 v45) h52 (.own 3) (hbor:=fun _=>⟨fhN,(zDU (zEN (fun _=>(flatK zT zDQ)) _))⟩)) zB) ?_
     refine J_d 2003 [] [7] [(7,iv (w64 (s29.2+1)))] [] [] zB ?_
     refine kR 3 2 (Nat.le_of_ble_eq_true rfl) (Nat.le_of_ble_eq_true rfl) ?_
     exact J_q (J_b (ih (x51,w64 (s29.2+1)))) rfl
   ·refine wJ (fun h46=>?_) (fun h46=>?_)
    ·refine J_d 128156 [] [52] [(52,bv true)] [] [] (xU 2 [(47,bv (decide (v45<0)))] [] h46 zB) ?_
     exact yF (J_j (jv49 true)) rfl
    ·refine zA (fun x47 h48=>?_)
     refine J_d 128156 [] [52] [(52,bv x47)] [] [] (xU 2 [(47,bv (decide (v45<0)))] [] h46 (zDL 5 2 48 false (wG («as»:=[rr 2 s29.1,iv v45]) [(.tmp 49),(.tmp 50)] [39,2] true [(2,rE 1 zG s29.1)] [] (.cons (zDP (.head _) (fun _=>rfl) rfl) (.cons (.same rfl) (.nil))) (yX.ok s29.1 v45) h48 (.same rfl rfl) (hbor:=fun _=>⟨fhN,zT⟩)) zB)) ?_
     exact yF (J_j (jv49 x47)) rfl
  ·refine zF 31 (fun h35=>?_) (fun h35=>?_)
   ·refine zA (fun x36 h37=>?_)
    refine zA (fun x38 h39=>?_)
    refine J_g 256308 [(4,4)] [(0,sl 8 (Pack.enc false) a1),(4,pp 0),(5,rr 1 x4),(6,rr 2 s29.1),(7,iv s29.2),(8,rr 3 x33),(9,iv (-1)),(10,pp 4)] [(0,.box [iv 0,iv 0,nv]),(1,rE 1 eStr x4),(2,rE 1 zG s29.1),(3,rE 1 eStr x33),(4,.box (zP.enc x38))] (zD 1 (wM (kk:=.i64) 86 9 1 3 eStr (.tmp 32) (.const (.int .i64 1)) h37) (zD 2 (jH (d:=sv x36) 9 1 3 0 eStr (.tmp 33) h37 (by kernel_rfl)) (zD 3 (xL [(.tmp 34)] [9] (vQ.ok x36) h39) zB))) ?_
    refine J_d 512618 [] [38] [(38,bv (x38.Code==0))] [] [] zB ?_
    refine zF 38 (fun h40=>?_) (fun h40=>?_)
    ·refine zA (fun x41 h42=>?_)
     refine zA (fun x43 h44=>?_)
     refine J_d 1025238 [] [8,9,10,38] [(9,iv x43)] [3,4] [] (zD 2 (wM (kk:=.i64) 86 9 1 3 eStr (.tmp 40) (.const (.int .i64 0)) h42) (zD 3 (jH (d:=sv x41) 9 1 3 0 eStr (.tmp 41) h42 (by kernel_rfl)) (zD 6 (xL [(.tmp 39),(.tmp 42),(.tmp 44)] [30,9,99] (zAm.ok a1 x41 x38.Version) h44) zB))) ?_
     exact yF (J_j (jv45 x43)) rfl
    ·exact yF (J_j (jv45 (-1))) rfl
   ·exact yF (J_j (jv45 (-1))) rfl
 ·exact yF (hk s29.1) rfl
theorem zCk.ok (a1:(List Pack)) (a2:ByteArray):Ok Tryz.prog 149 [sl 8 (Pack.enc false) a1,sv a2] [] ((zCk a1 a2).map fun r=>(.ag [iv r.Code,iv r.At,so 1 zG r.Set],[])):=by
 refine zH zPg Tryz.f149 0 60 (fun q=>?_)
 unfold zCk
 refine J_g 2 [(0,0)] [(0,sl 8 (Pack.enc false) a1),(1,sv a2),(4,pp 0)] [(0,.box [iv 0,iv 0,nv])] zB ?_
 refine J_d 12 [] [13] [(13,bv (decide ((a2.size:Int)>4000)))] [] [] zB ?_
 refine zF 13 (fun h3=>?_) (fun h3=>?_)
 ·refine J_g 52 [] [(4,pp 0)] [(0,.box [iv 2,iv 0,nv])] zB ?_
  exact zAM (ds:=[.ag [iv 2,iv 0,nv]]) (ds':=[.ag [iv 2,iv 0,so 1 zG ([]:List Int)]]) (.cons (.ag (.keep rfl (.keep rfl (.nilsl true 1 (.nil))))) (.nil) (by decide)) rfl
 ·refine zA (fun x4 h5=>?_)
  refine J_g 14 [] [(0,sl 8 (Pack.enc false) a1),(4,pp 0),(5,rr 1 x4)] [(0,.box [iv 0,iv 0,nv]),(1,rE 1 eStr x4)] (zD 1 (wG («as»:=[sv a2]) [(.tmp 15)] [9] false [] [] (.cons (.same rfl) (.nil)) (zCq.ok a2) h5 (.own 1)) zB) ?_
  refine J_g 30 [] [(0,sl 8 (Pack.enc false) a1),(4,pp 0),(5,rr 1 x4),(6,rr 2 ([]:List Int))] [(0,.box [iv 0,iv 0,nv]),(1,rE 1 eStr x4),(2,rE 1 zG ([]:List Int))] (zD 0 (zDM 39 2 1 2 zG ([]:List Int) [] [] []) zB) ?_
  refine J_d 124 [] [7] [(7,iv 0)] [] [] zB ?_
  refine vU (K0:=(fun r:yG=>some (.ag [iv r.Code,iv r.At,so 1 zG r.Set],[]))) (fun _=>rfl) (zCh.ok a1 x4 q _ (fun v53=>J_j ?_) (([]:List Int),0))
  refine J_g 126 [] [(4,pp 0)] [(0,.box [iv 0,iv 0,rr 2 v53]),(2,rE 1 zG v53)] zB ?_
  exact zAM (ds:=[.ag [iv 0,iv 0,rr 2 v53]]) (ds':=[.ag [iv 0,iv 0,so 1 zG v53]]) (.cons (.ag (.keep rfl (.keep rfl (.move (.tail _ (.head _)) (List.length_map _) (by decide) (.nil))))) (.nil) (by decide)) rfl
noncomputable def c77:Code:=(Tryz.f77.body).getD .skip
theorem zDC.ok (a1:(List Pack)) (a2:zC) (a3:Int):Ok Tryz.prog 77 [sl 8 (Pack.enc false) a1,pp 0,iv a3] [.box (zC.enc false a2)] ((zDC a1 a2 a3).map fun r=>(.ag [iv r.Code,iv r.At,so 1 zG r.Set],[.box (zC.enc false a2)])):=by
 refine zH c77 Tryz.f77 1 35 (fun q=>?_)
 unfold zDC
 refine J_d 2 [(0,1)] [6] [(6,pp 1)] [1] [(1,.box [iv 0,iv 0,nv])] zB ?_
 refine zA (fun x4 h5=>?_)
 refine zA (fun x6 h7=>?_)
 refine J_d 12 [] [12] [(12,bv (!x6))] [] [] (zD 1 (zFL [(0,.box (zC.enc false a2))] [(2,rE 1 zG x4)] (wG («as»:=[pp 0]) [(.tmp 8)] [72] false [(0,.box (zC.enc false a2))] [0] (.cons (.pt rfl) (.nil)) (wT.ok a2) h5 (.own 2))) (zD 3 (wG («as»:=[rr 2 x4,iv a3]) [(.tmp 9),(.tmp 10)] [39,2] true [(2,rE 1 zG x4)] [] (.cons (zDP (.head _) (fun _=>rfl) rfl) (.cons (.same rfl) (.nil))) (yX.ok x4 a3) h7 (.same rfl rfl) (hbor:=fun _=>⟨fhN,zT⟩)) zB)) ?_
 refine zF 12 (fun h8=>?_) (fun h8=>?_)
 ·refine J_g 52 [] [(6,pp 1)] [(0,.box (zC.enc false a2)),(1,.box [iv 4,iv 0,nv])] zB ?_
  exact zAM (ds:=[.ag [iv 4,iv 0,nv]]) (ds':=[.ag [iv 4,iv 0,so 1 zG ([]:List Int)]]) (.cons (.ag (.keep rfl (.keep rfl (.nilsl true 1 (.nil))))) (.nil) (by decide)) rfl
 ·refine zA (fun x9 h10=>?_)
  refine zA (fun x11 h12=>?_)
  refine zA (fun x13 h14=>?_)
  refine zA (fun x15 h16=>?_)
  refine J_g 14 [(14,3)] [(6,pp 1),(7,pp 3)] [(0,.box (zC.enc false a2)),(1,.box [iv 0,iv 0,nv]),(2,rE 1 zG x15.Set),(3,.box [iv x15.Code,iv x15.At,rr 2 x15.Set])] (zD 7 (xL [(.tmp 20)] [2] (wH.ok a3) h10) (zD 8 (zFL [(0,.box (zC.enc false a2))] [] (wG («as»:=[pp 0,sv x9]) [(.tmp 19),(.tmp 21)] [72,9] false [(0,.box (zC.enc false a2))] [0] (.cons (.pt rfl) (.cons (.same rfl) (.nil))) (yK.ok a2 x9) h12 (.same rfl rfl))) (zD 9 (zAg (kk:=.i64) 31 138 2 (File.enc false) (.tmp 18) (.tmp 22) h14) (zD 12 (zNY (xs:=x13.Data) 121 9 5 (.tmp 25)) (zD 13 (wG («as»:=[sl 8 (Pack.enc false) a1,sv (b2s x13.Data)]) [(.tmp 14),(.tmp 26)] [30,9] false [] [] (.cons (.same rfl) (.cons (.same rfl) (.nil))) (zCk.ok a1 (b2s x13.Data)) h16 (.ag (.cons (.same rfl rfl) (.cons (.same rfl rfl) (.cons (.own 2) (.nil)))))) zB))))) ?_
  refine J_d 60 [] [30] [(30,bv (x15.Code !=0))] [] [] zB ?_
  refine zF 30 (fun h17=>?_) (fun h17=>?_)
  ·refine J_g 244 [] [(6,pp 1)] [(0,.box (zC.enc false a2)),(1,.box [iv x15.Code,iv 0,nv])] zB ?_
   exact zAM (ds:=[.ag [iv x15.Code,iv 0,nv]]) (ds':=[.ag [iv x15.Code,iv 0,so 1 zG ([]:List Int)]]) (.cons (.ag (.keep rfl (.keep rfl (.nilsl true 1 (.nil))))) (.nil) (by decide)) rfl
  ·refine J_g 62 [] [(6,pp 1)] [(0,.box (zC.enc false a2)),(1,.box [iv x15.Code,iv x15.At,rr 2 x15.Set]),(2,rE 1 zG x15.Set)] zB ?_
   exact zAM (ds:=[.ag [iv x15.Code,iv x15.At,rr 2 x15.Set]]) (ds':=[.ag [iv x15.Code,iv x15.At,so 1 zG x15.Set]]) (.cons (.ag (.keep rfl (.keep rfl (.move (.tail _ (.tail _ (.head _))) (List.length_map _) (by decide) (.nil))))) (.nil) (by decide)) rfl
noncomputable def zR2:Code:=(Tryz.f169.body).getD .skip
theorem vZ.ok (a1:Version):Ok Tryz.prog 169 [.ag (Version.enc a1)] [] ((vZ a1).map fun r=>(sv r,[])):=by
 refine zH zR2 Tryz.f169 0 19 (fun q=>?_)
 unfold vZ
 refine J_g 2 [(0,0)] [(1,pp 0)] [(0,.box (Version.enc a1))] zB ?_
 refine zA (fun x2 h3=>?_)
 refine J_d 12 [] [5] [(5,bv (x2 !=0))] [] [] (zD 1 (xL [(.tmp 3)] [99] (yY.ok a1) h3) zB) ?_
 refine zF 5 (fun h4=>?_) (fun h4=>?_)
 ·refine J_g 52 [] [(2,sv (bs []))] [] zB ?_
  exact zR rfl
 ·refine zA (fun x5 h6=>?_)
  refine zA (fun x7 h8=>?_)
  refine zA (fun x9 h10=>?_)
  refine zA (fun x11 h12=>?_)
  refine zA (fun x13 h14=>?_)
  refine zA (fun x15 h16=>?_)
  refine zA (fun x17 h18=>?_)
  refine J_g 14 [] [(2,sv x17)] [] (zD 2 (xL [(.tmp 7)] [2] (wB.ok a1.A) h6) (zD 3 (zE3 9 9 (.tmp 8) (.const (.string (bs [46]))) h8) (zD 6 (xL [(.tmp 11)] [2] (wB.ok a1.B) h10) (zD 7 (zE3 9 9 (.tmp 9) (.tmp 12) h12) (zD 8 (zE3 9 9 (.tmp 13) (.const (.string (bs [46]))) h14) (zD 11 (xL [(.tmp 16)] [2] (wB.ok a1.C) h16) (zD 12 (zE3 9 9 (.tmp 14) (.tmp 17) h18) zB))))))) ?_
  exact zR rfl
noncomputable def c94:Code:=(Tryz.f94.body).getD .skip
theorem zDp.ok (a1:Pack):Ok Tryz.prog 94 [.ag (Pack.enc false a1)] [] ((zDp a1).map fun r=>(sv r,[])):=by
 refine zH c94 Tryz.f94 0 11 (fun q=>?_)
 unfold zDp
 refine J_g 2 [(0,0)] [(1,pp 0)] [(0,.box (Pack.enc false a1))] zB ?_
 refine zA (fun x2 h3=>?_)
 refine zA (fun x4 h5=>?_)
 refine zA (fun x6 h7=>?_)
 refine zA (fun x8 h9=>?_)
 refine J_g 6 [] [(2,sv x8)] [] (zD 2 (zE3 9 9 (.const (.string (bs [112,107,103,47]))) (.tmp 4) h3) (zD 3 (zE3 9 9 (.tmp 5) (.const (.string (bs [45]))) h5) (zD 6 (xL [(.tmp 8)] [99] (vZ.ok a1.Version) h7) (zD 7 (zE3 9 9 (.tmp 6) (.tmp 9) h9) zB)))) ?_
 exact zR rfl
noncomputable def zJZ:Code:=(Tryz.f113.body).getD .skip
theorem zEb.ok (a1:(List ByteArray)) (a2:ByteArray) (q:Wd) (kn:((List ByteArray)×Bool)→Option (D×List Ent)) (hk:∀v:((List ByteArray)×Bool),J (q.g Tryz.prog 113 0 50) zJZ (atI zJZ 31) (St.mk' [(1,sv a2),(5,rr 0 v.1),(6,bv v.2)] [(0,rE 1 eStr v.1)]) (some v) kn):
  ∀s19:((List ByteArray)×Bool×Int),J (q.g Tryz.prog 113 0 50) zJZ (atI zJZ 244) (St.mk' [(0,sl 1 eStr a1),(1,sv a2),(5,rr 0 s19.1),(6,bv s19.2.1),(7,iv s19.2.2)] [(0,rE 1 eStr s19.1)]) (zEb a1 a2 s19) (Fl.go (fun r:(List ByteArray)=>some (sl 1 eStr r,[])) kn):=by
 refine kP (fun g ih s19=>?_)
 unfold zFs
 refine J_d 976 [] [12] [(12,bv (decide (s19.2.2< (a1.length:Int))))] [] [] zB ?_
 refine zF 12 (fun h20=>?_) (fun h20=>?_)
 ·refine zA (fun x21 h22=>?_)
  refine J_d 7824 [] [12,20] [(20,bv (seq x21 a2))] [] [] (zD 2 (zAg (kk:=.i64) 86 9 1 eStr (.tmp 15) (.tmp 16) h22) zB) ?_
  refine zF 20 (fun h23=>?_) (fun h23=>?_)
  ·refine J_g 31300 [] [(4,sl 1 eStr a1)] [] zB ?_
   exact zR rfl
  ·refine zA (fun x24 h25=>?_)
   refine yQ (atI zJZ 15653) (fun v27:Bool=>St.mk' [(0,sl 1 eStr a1),(1,sv a2),(5,rr 0 s19.1),(6,bv s19.2.1),(7,iv s19.2.2),(31,bv v27)] [(0,rE 1 eStr s19.1)]) (fun v27=>?_) (fun jv27=>?_)
   ·refine yQ (atI zJZ 7827) (fun v31:((List ByteArray)×Bool)=>St.mk' [(0,sl 1 eStr a1),(1,sv a2),(5,rr 2 v31.1),(6,bv v31.2),(7,iv s19.2.2)] [(2,rE 1 eStr v31.1)]) (fun v31=>?_) (fun jv31=>?_)
    ·refine zA (fun x32 h33=>?_)
     refine zA (fun x34 h35=>?_)
     refine J_g 7827 [] [(0,sl 1 eStr a1),(1,sv a2),(5,rr 4 x34),(6,bv v31.2),(7,iv s19.2.2)] [(4,rE 1 eStr x34)] (zD 3 (zAg (kk:=.i64) 86 9 1 eStr (.tmp 37) (.tmp 38) h33) (zD 5 (zDM 86 9 1 3 eStr [x32] [0] [(.tmp 40)] [sv x32]) (zD 6 (zG4 86 86 9 9 1 16 4 2 3 eStr (.tmp 36) (.tmp 41) h35) zB))) ?_
     refine J_d 979 [] [7] [(7,iv (w64 (s19.2.2+1)))] [] [] zB ?_
     refine kR 4 0 (Nat.le_of_ble_eq_true rfl) (Nat.le_of_ble_eq_true rfl) ?_
     exact J_q (J_b (ih (x34,v31.2,w64 (s19.2.2+1)))) rfl
    ·refine zF 31 (fun h28=>?_) (fun h28=>?_)
     ·refine zA (fun x29 h30=>?_)
      refine J_g 62612 [] [(0,sl 1 eStr a1),(1,sv a2),(5,rr 2 x29),(7,iv s19.2.2)] [(2,rE 1 eStr x29)] (zD 2 (zDM 86 9 1 1 eStr [a2] [0] [(.tmp 33)] [sv a2]) (zD 3 (zG4 86 86 9 9 1 16 2 0 1 eStr (.tmp 32) (.tmp 34) h30) zB)) ?_
      refine J_d 62613 [] [6] [(6,bv true)] [] [] zB ?_
      exact yF (J_j (jv31 (x29,true))) rfl
     ·refine kR 0 2 (Nat.le_of_ble_eq_true rfl) (Nat.le_of_ble_eq_true rfl) ?_
      exact yF (J_j (jv31 (s19.1,s19.2.1))) rfl
   ·refine wJ (fun h26=>?_) (fun h26=>?_)
    ·refine J_d 15652 [] [20,31] [(31,bv (!s19.2.1))] [] [] (zD 2 (zAg (kk:=.i64) 86 9 1 eStr (.tmp 22) (.tmp 23) h25) (xU 6 [(27,bv (!(slt x24 a2||seq x24 a2)))] [] h26 zB)) ?_
     exact yF (J_j (jv27 (!s19.2.1))) rfl
    ·refine J_d 15652 [] [20,31] [(31,bv false)] [] [] (zD 2 (zAg (kk:=.i64) 86 9 1 eStr (.tmp 22) (.tmp 23) h25) (xU 6 [(27,bv (!(slt x24 a2||seq x24 a2)))] [] h26 zB)) ?_
     exact yF (J_j (jv27 false)) rfl
 ·exact yF (hk (s19.1,s19.2.1)) rfl
theorem zGm.ok (a1:(List ByteArray)) (a2:ByteArray):Ok Tryz.prog 113 [sl 1 eStr a1,sv a2] [] ((zGm a1 a2).map fun r=>(sl 1 eStr r,[])):=by
 refine zH zJZ Tryz.f113 0 50 (fun q=>?_)
 unfold zGm
 refine J_g 2 [] [(0,sl 1 eStr a1),(1,sv a2)] [] zB ?_
 refine J_g 6 [] [(0,sl 1 eStr a1),(1,sv a2),(5,rr 0 ([]:List ByteArray))] [(0,rE 1 eStr ([]:List ByteArray))] (zD 0 (zDM 86 9 1 0 eStr ([]:List ByteArray) [] [] []) zB) ?_
 refine J_g 14 [] [(0,sl 1 eStr a1),(1,sv a2),(5,rr 0 ([]:List ByteArray)),(6,bv false)] [(0,rE 1 eStr ([]:List ByteArray))] zB ?_
 refine J_d 60 [] [7] [(7,iv 0)] [] [] zB ?_
 refine vU (K0:=(fun r:(List ByteArray)=>some (sl 1 eStr r,[]))) (fun _=>rfl) (zEb.ok a1 a2 q _ (fun v36=>J_j ?_) (([]:List ByteArray),false,0))
 refine J_d 124 [] [6,44] [(44,bv (!v36.2))] [] [] zB ?_
 refine yQ (atI zJZ 63) (fun v40:(List ByteArray)=>St.mk' [(5,rr 2 v40)] [(2,rE 1 eStr v40)]) (fun v40=>?_) (fun jv40=>?_)
 ·refine J_g 126 [] [(4,rr 2 v40)] [(2,rE 1 eStr v40)] zB ?_
  refine vS [(4,rr 2 v40)] [(2,rE 1 eStr v40)] (by kernel_rfl) ?_
  refine zQF 2 (z:=1) (xs:=v40.map eStr) (tm2:=[(4,sl 1 eStr v40)]) (hp2:=[]) (.cons (.rf (by simp) (zJl (enc:=eStr) (enc':=eStr) (fun _=>rfl) v40 rfl rfl)) (.nil)) (.nil) rfl ?_
  exact zR rfl
 ·refine zF 44 (fun h37=>?_) (fun h37=>?_)
  ·refine zA (fun x38 h39=>?_)
   refine J_g 250 [] [(5,rr 2 x38)] [(2,rE 1 eStr x38)] (zD 2 (zDM 86 9 1 1 eStr [a2] [0] [(.tmp 46)] [sv a2]) (zD 3 (zG4 86 86 9 9 1 16 2 0 1 eStr (.tmp 45) (.tmp 47) h39) zB)) ?_
   exact yF (J_j (jv40 x38)) rfl
  ·refine kR 0 2 (Nat.le_of_ble_eq_true rfl) (Nat.le_of_ble_eq_true rfl) ?_
   exact yF (J_j (jv40 v36.1)) rfl
theorem zCX.ok (a1:(List ByteArray)) (a2:ByteArray) (q:Wd) (kn:((List ByteArray)×Bool)→Option (D×List Ent)) (hk:∀v:((List ByteArray)×Bool),J (q.g Tryz.prog 113 1 50) zJZ (atI zJZ 31) (St.mk' [(1,sv a2),(5,rr 1 v.1),(6,bv v.2)] [(0,rE 1 eStr a1),(1,rE 1 eStr v.1)]) (some v) kn):
  ∀s19:((List ByteArray)×Bool×Int),J (q.g Tryz.prog 113 1 50) zJZ (atI zJZ 244) (St.mk' [(0,rr 0 a1),(1,sv a2),(5,rr 1 s19.1),(6,bv s19.2.1),(7,iv s19.2.2)] [(0,rE 1 eStr a1),(1,rE 1 eStr s19.1)]) (zCX a1 a2 s19) (Fl.go (fun r:(List ByteArray)=>some (so 1 eStr r,[])) kn):=by
 refine kP (fun g ih s19=>?_)
 unfold zC3
 refine J_d 976 [] [12] [(12,bv (decide (s19.2.2< (a1.length:Int))))] [] [] zB ?_
 refine zF 12 (fun h20=>?_) (fun h20=>?_)
 ·refine zA (fun x21 h22=>?_)
  refine J_d 7824 [] [12,20] [(20,bv (seq x21 a2))] [] [] (zD 2 (wM (kk:=.i64) 86 9 1 0 eStr (.tmp 15) (.tmp 16) h22) (zD 3 (jH (d:=sv x21) 9 1 0 0 eStr (.tmp 17) h22 (by kernel_rfl)) zB)) ?_
  refine zF 20 (fun h23=>?_) (fun h23=>?_)
  ·refine J_g 31300 [] [(4,rr 0 a1)] [(0,rE 1 eStr a1)] zB ?_
   exact zAM (ds:=[rr 0 a1]) (ds':=[so 1 eStr a1]) (.cons (.cell (.move (.head _) (List.length_map _) (by decide) (.nil))) (.nil) (by decide)) rfl
  ·refine zA (fun x24 h25=>?_)
   refine yQ (atI zJZ 15653) (fun v27:Bool=>St.mk' [(0,rr 0 a1),(1,sv a2),(5,rr 1 s19.1),(6,bv s19.2.1),(7,iv s19.2.2),(31,bv v27)] [(0,rE 1 eStr a1),(1,rE 1 eStr s19.1)]) (fun v27=>?_) (fun jv27=>?_)
   ·refine yQ (atI zJZ 7827) (fun v31:((List ByteArray)×Bool)=>St.mk' [(0,rr 0 a1),(1,sv a2),(5,rr 3 v31.1),(6,bv v31.2),(7,iv s19.2.2)] [(0,rE 1 eStr a1),(3,rE 1 eStr v31.1)]) (fun v31=>?_) (fun jv31=>?_)
    ·refine zA (fun x32 h33=>?_)
     refine zA (fun x34 h35=>?_)
     refine J_g 7827 [] [(0,rr 0 a1),(1,sv a2),(5,rr 5 x34),(6,bv v31.2),(7,iv s19.2.2)] [(0,rE 1 eStr a1),(5,rE 1 eStr x34)] (zD 3 (wM (kk:=.i64) 86 9 1 0 eStr (.tmp 37) (.tmp 38) h33) (zD 4 (jH (d:=sv x32) 9 1 0 0 eStr (.tmp 39) h33 (by kernel_rfl)) (zD 5 (zDM 86 9 1 4 eStr [x32] [0] [(.tmp 40)] [sv x32]) (zD 6 (zG4 86 86 9 9 1 16 5 3 4 eStr (.tmp 36) (.tmp 41) h35) zB)))) ?_
     refine J_d 979 [] [7] [(7,iv (w64 (s19.2.2+1)))] [] [] zB ?_
     refine kR 5 1 (Nat.le_of_ble_eq_true rfl) (Nat.le_of_ble_eq_true rfl) ?_
     exact J_q (J_b (ih (x34,v31.2,w64 (s19.2.2+1)))) rfl
    ·refine zF 31 (fun h28=>?_) (fun h28=>?_)
     ·refine zA (fun x29 h30=>?_)
      refine J_g 62612 [] [(0,rr 0 a1),(1,sv a2),(5,rr 3 x29),(7,iv s19.2.2)] [(0,rE 1 eStr a1),(3,rE 1 eStr x29)] (zD 2 (zDM 86 9 1 2 eStr [a2] [0] [(.tmp 33)] [sv a2]) (zD 3 (zG4 86 86 9 9 1 16 3 1 2 eStr (.tmp 32) (.tmp 34) h30) zB)) ?_
      refine J_d 62613 [] [6] [(6,bv true)] [] [] zB ?_
      exact yF (J_j (jv31 (x29,true))) rfl
     ·refine kR 1 3 (Nat.le_of_ble_eq_true rfl) (Nat.le_of_ble_eq_true rfl) ?_
      exact yF (J_j (jv31 (s19.1,s19.2.1))) rfl
   ·refine wJ (fun h26=>?_) (fun h26=>?_)
    ·refine J_d 15652 [] [20,31] [(31,bv (!s19.2.1))] [] [] (zD 2 (wM (kk:=.i64) 86 9 1 0 eStr (.tmp 22) (.tmp 23) h25) (zD 3 (jH (d:=sv x24) 9 1 0 0 eStr (.tmp 24) h25 (by kernel_rfl)) (xU 6 [(27,bv (!(slt x24 a2||seq x24 a2)))] [] h26 zB))) ?_
     exact yF (J_j (jv27 (!s19.2.1))) rfl
    ·refine J_d 15652 [] [20,31] [(31,bv false)] [] [] (zD 2 (wM (kk:=.i64) 86 9 1 0 eStr (.tmp 22) (.tmp 23) h25) (zD 3 (jH (d:=sv x24) 9 1 0 0 eStr (.tmp 24) h25 (by kernel_rfl)) (xU 6 [(27,bv (!(slt x24 a2||seq x24 a2)))] [] h26 zB))) ?_
     exact yF (J_j (jv27 false)) rfl
 ·exact yF (hk (s19.1,s19.2.1)) rfl
theorem zDs.ok (a1:(List ByteArray)) (a2:ByteArray):Ok Tryz.prog 113 [rr 0 a1,sv a2] [rE 1 eStr a1] ((zDs a1 a2).map fun r=>(so 1 eStr r,[])):=by
 refine zH zJZ Tryz.f113 1 50 (fun q=>?_)
 unfold zDs
 refine J_g 2 [] [(0,rr 0 a1),(1,sv a2)] [(0,rE 1 eStr a1)] zB ?_
 refine J_g 6 [] [(0,rr 0 a1),(1,sv a2),(5,rr 1 ([]:List ByteArray))] [(0,rE 1 eStr a1),(1,rE 1 eStr ([]:List ByteArray))] (zD 0 (zDM 86 9 1 1 eStr ([]:List ByteArray) [] [] []) zB) ?_
 refine J_g 14 [] [(0,rr 0 a1),(1,sv a2),(5,rr 1 ([]:List ByteArray)),(6,bv false)] [(0,rE 1 eStr a1),(1,rE 1 eStr ([]:List ByteArray))] zB ?_
 refine J_d 60 [] [7] [(7,iv 0)] [] [] zB ?_
 refine vU (K0:=(fun r:(List ByteArray)=>some (so 1 eStr r,[]))) (fun _=>rfl) (zCX.ok a1 a2 q _ (fun v36=>J_j ?_) (([]:List ByteArray),false,0))
 refine J_d 124 [] [6,44] [(44,bv (!v36.2))] [] [] zB ?_
 refine yQ (atI zJZ 63) (fun v40:(List ByteArray)=>St.mk' [(5,rr 3 v40)] [(0,rE 1 eStr a1),(3,rE 1 eStr v40)]) (fun v40=>?_) (fun jv40=>?_)
 ·refine J_g 126 [] [(4,rr 3 v40)] [(0,rE 1 eStr a1),(3,rE 1 eStr v40)] zB ?_
  exact zAM (ds:=[rr 3 v40]) (ds':=[so 1 eStr v40]) (.cons (.cell (.move (.tail _ (.head _)) (List.length_map _) (by decide) (.nil))) (.nil) (by decide)) rfl
 ·refine zF 44 (fun h37=>?_) (fun h37=>?_)
  ·refine zA (fun x38 h39=>?_)
   refine J_g 250 [] [(5,rr 3 x38)] [(0,rE 1 eStr a1),(3,rE 1 eStr x38)] (zD 2 (zDM 86 9 1 2 eStr [a2] [0] [(.tmp 46)] [sv a2]) (zD 3 (zG4 86 86 9 9 1 16 3 1 2 eStr (.tmp 45) (.tmp 47) h39) zB)) ?_
   exact yF (J_j (jv40 x38)) rfl
  ·refine kR 1 3 (Nat.le_of_ble_eq_true rfl) (Nat.le_of_ble_eq_true rfl) ?_
   exact yF (J_j (jv40 v36.1)) rfl
noncomputable def c55:Code:=(Tryz.f55.body).getD .skip
theorem vV.ok (a1:(List Pack)) (a2:zC) (x4:((List Int)×Int)) (s33:((List ByteArray)×Int)) (x37:yG) (q:Wd) (kn:(List ByteArray)→Option (D×List Ent)) (hk:∀v:(List ByteArray),J (q.g Tryz.prog 55 1 61) c55 (aft c55 4004) (St.mk' [(0,sl 8 (Pack.enc false) a1),(1,pp 0),(8,rr 1 x4.1),(10,rr 2 v),(11,iv s33.2)] [(0,.box (zC.enc false a2)),(1,rE 1 zG x4.1),(2,rE 1 eStr v)]) (some v) kn):
  ∀s49:((List ByteArray)×Int),J (q.g Tryz.prog 55 1 61) c55 (atI c55 128156) (St.mk' [(0,sl 8 (Pack.enc false) a1),(1,pp 0),(8,rr 1 x4.1),(10,rr 2 s49.1),(11,iv s33.2),(12,pp 4),(13,iv s49.2)] [(0,.box (zC.enc false a2)),(1,rE 1 zG x4.1),(2,rE 1 eStr s49.1),(3,rE 1 zG x37.Set),(4,.box [iv x37.Code,iv x37.At,rr 3 x37.Set])]) (vV a1 a2 x4 s33 x37 s49) kn:=by
 refine kP (fun g ih s49=>?_)
 unfold zAd
 refine J_d 512624 [] [46] [(46,bv (decide (s49.2< (x37.Set.length:Int))))] [] [] zB ?_
 refine zF 46 (fun h50=>?_) (fun h50=>?_)
 ·refine zA (fun x51 h52=>?_)
  refine zA (fun x53 h54=>?_)
  refine zA (fun x55 h56=>?_)
  refine zA (fun x57 h58=>?_)
  refine J_g 1025252 [] [(0,sl 8 (Pack.enc false) a1),(1,pp 0),(8,rr 1 x4.1),(10,rr 5 x57),(11,iv s33.2),(12,pp 4),(13,iv s49.2)] [(0,.box (zC.enc false a2)),(1,rE 1 zG x4.1),(3,rE 1 zG x37.Set),(4,.box [iv x37.Code,iv x37.At,rr 3 x37.Set]),(5,rE 1 eStr x57)] (zD 5 (wM (kk:=.i64) 39 2 1 3 zG (.tmp 52) (.tmp 53) h52) (zD 6 (jH (d:=iv x51) 2 1 3 0 zG (.tmp 54) h52 (by kernel_rfl)) (zD 7 (zAg (kk:=.i64) 30 102 8 (Pack.enc false) (.tmp 50) (.tmp 55) h54) (zD 9 (xL [(.tmp 57)] [102] (zDp.ok x53) h56) (zD 10 (wG («as»:=[rr 2 s49.1,sv x55]) [(.tmp 49),(.tmp 58)] [86,9] false [(2,rE 1 eStr s49.1)] [2] (.cons (.rf rfl) (.cons (.same rfl) (.nil))) (zDs.ok s49.1 x55) h58 (.own 5)) zB))))) ?_
  refine J_d 512627 [] [13] [(13,iv (w64 (s49.2+1)))] [] [] zB ?_
  refine kR 5 2 (Nat.le_of_ble_eq_true rfl) (Nat.le_of_ble_eq_true rfl) ?_
  exact J_q (J_b (ih (x57,w64 (s49.2+1)))) rfl
 ·exact yF (hk s49.1) rfl
theorem zA2.ok (a1:(List Pack)) (a2:zC) (x4:((List Int)×Int)) (q:Wd) (kn:(List ByteArray)→Option (D×List Ent)) (hk:∀v:(List ByteArray),J (q.g Tryz.prog 55 1 61) c55 (atI c55 63) (St.mk' [(10,rr 2 v)] [(0,.box (zC.enc false a2)),(2,rE 1 eStr v)]) (some v) kn):
  ∀s33:((List ByteArray)×Int),J (q.g Tryz.prog 55 1 61) c55 (atI c55 500) (St.mk' [(0,sl 8 (Pack.enc false) a1),(1,pp 0),(8,rr 1 x4.1),(10,rr 2 s33.1),(11,iv s33.2)] [(0,.box (zC.enc false a2)),(1,rE 1 zG x4.1),(2,rE 1 eStr s33.1)]) (zA2 a1 a2 x4 s33) (Fl.go (fun r:((List ByteArray)×Int)=>some (.tu [so 1 eStr r.1,iv r.2],[.box (zC.enc false a2)])) kn):=by
 refine kP (fun g ih s33=>?_)
 unfold tH
 refine J_d 2000 [] [27] [(27,bv (decide (s33.2< (x4.1.length:Int))))] [] [] zB ?_
 refine zF 27 (fun h34=>?_) (fun h34=>?_)
 ·refine zA (fun x35 h36=>?_)
  refine zA (fun x37 h38=>?_)
  refine J_g 8008 [(7,4)] [(0,sl 8 (Pack.enc false) a1),(1,pp 0),(8,rr 1 x4.1),(10,rr 2 s33.1),(11,iv s33.2),(12,pp 4)] [(0,.box (zC.enc false a2)),(1,rE 1 zG x4.1),(2,rE 1 eStr s33.1),(3,rE 1 zG x37.Set),(4,.box [iv x37.Code,iv x37.At,rr 3 x37.Set])] (zD 4 (wM (kk:=.i64) 39 2 1 1 zG (.tmp 32) (.tmp 33) h36) (zD 5 (jH (d:=iv x35) 2 1 1 0 zG (.tmp 34) h36 (by kernel_rfl)) (zD 6 (zFL [(0,.box (zC.enc false a2))] [(3,rE 1 zG x37.Set)] (wG («as»:=[sl 8 (Pack.enc false) a1,pp 0,iv x35]) [(.tmp 30),(.tmp 31),(.tmp 35)] [30,72,2] false [(0,.box (zC.enc false a2))] [0] (.cons (.same rfl) (.cons (.pt rfl) (.cons (.same rfl) (.nil)))) (zDC.ok a1 a2 x35) h38 (.ag (.cons (.same rfl rfl) (.cons (.same rfl rfl) (.cons (.own 3) (.nil))))))) zB))) ?_
  refine J_d 32036 [] [39] [(39,bv (x37.Code !=0))] [] [] zB ?_
  refine zF 39 (fun h39=>?_) (fun h39=>?_)
  ·refine J_g 128148 [] [(6,nv),(7,iv x37.Code)] [(0,.box (zC.enc false a2))] zB ?_
   exact zAM (ds:=[nv,iv x37.Code]) (ds':=[so 1 eStr ([]:List ByteArray),iv x37.Code]) (.cons (.cell (.nilsl true 1 (.nil))) (.cons (.cell (.keep rfl (.nil))) (.nil) (by decide)) (by decide)) rfl
  ·refine J_d 32038 [] [13,39] [(13,iv 0)] [] [] zB ?_
   refine zEM (vV.ok a1 a2 x4 s33 x37 q _ (fun v59=>J_j ?_) (s33.1,0))
   refine J_d 2003 [] [11] [(11,iv (w64 (s33.2+1)))] [] [] zB ?_
   exact J_q (J_b (ih (v59,w64 (s33.2+1)))) rfl
 ·exact yF (hk s33.1) rfl
theorem zAp.ok (a1:(List Pack)) (a2:zC) (a3:(List Int)):Ok Tryz.prog 55 [sl 8 (Pack.enc false) a1,pp 0,sl 1 zG a3] [.box (zC.enc false a2)] ((zAp a1 a2 a3).map fun r=>(.tu [so 1 eStr r.1,iv r.2],[.box (zC.enc false a2)])):=by
 refine zH c55 Tryz.f55 1 61 (fun q=>?_)
 unfold zAp
 refine J_d 2 [] [] [] [] [] zB ?_
 refine zA (fun x4 h5=>?_)
 refine J_g 6 [] [(0,sl 8 (Pack.enc false) a1),(1,pp 0),(8,rr 1 x4.1),(9,iv x4.2)] [(0,.box (zC.enc false a2)),(1,rE 1 zG x4.1)] (zD 2 (zFL [(0,.box (zC.enc false a2))] [(1,rE 1 zG x4.1)] (wG («as»:=[pp 0,sl 1 zG a3]) [(.tmp 15),(.tmp 16)] [72,39] false [(0,.box (zC.enc false a2))] [0] (.cons (.pt rfl) (.cons (.same rfl) (.nil))) (kJ.ok a2 a3) h5 (.tu (.cons (.own 1) (.cons (.same rfl rfl) (.nil)))))) zB) ?_
 refine J_d 28 [] [21] [(21,bv (x4.2 !=0))] [] [] zB ?_
 refine zF 21 (fun h6=>?_) (fun h6=>?_)
 ·refine J_g 116 [] [(6,nv),(7,iv x4.2)] [(0,.box (zC.enc false a2))] zB ?_
  exact zAM (ds:=[nv,iv x4.2]) (ds':=[so 1 eStr ([]:List ByteArray),iv x4.2]) (.cons (.cell (.nilsl true 1 (.nil))) (.cons (.cell (.keep rfl (.nil))) (.nil) (by decide)) (by decide)) rfl
 ·refine J_g 30 [] [(0,sl 8 (Pack.enc false) a1),(1,pp 0),(8,rr 1 x4.1),(10,rr 2 ([]:List ByteArray))] [(0,.box (zC.enc false a2)),(1,rE 1 zG x4.1),(2,rE 1 eStr ([]:List ByteArray))] (zD 0 (zDM 86 9 1 2 eStr ([]:List ByteArray) [] [] []) zB) ?_
  refine J_d 124 [] [11] [(11,iv 0)] [] [] zB ?_
  refine vU (K0:=(fun r:((List ByteArray)×Int)=>some (.tu [so 1 eStr r.1,iv r.2],[.box (zC.enc false a2)]))) (fun _=>rfl) (zA2.ok a1 a2 x4 q _ (fun v60=>J_j ?_) (([]:List ByteArray),0))
  refine J_g 126 [] [(6,rr 2 v60),(7,iv 0)] [(0,.box (zC.enc false a2)),(2,rE 1 eStr v60)] zB ?_
  exact zAM (ds:=[rr 2 v60,iv 0]) (ds':=[so 1 eStr v60,iv 0]) (.cons (.cell (.move (.tail _ (.head _)) (List.length_map _) (by decide) (.nil))) (.cons (.cell (.keep rfl (.nil))) (.nil) (by decide)) (by decide)) rfl
noncomputable def c56:Code:=(Tryz.f56.body).getD .skip
theorem zAX.ok (a1:zC) (q:Wd) (kn:(List File)→Option (D×List Ent)) (hk:∀v:(List File),J (q.g Tryz.prog 56 0 35) c56 (atI c56 31) (St.mk' [(2,pp 1),(3,pp 2)] [(1,.box [nv,iv 0,iv 0,iv 0,bv false]),(2,.box [rr 3 v,iv a1.Budget,iv a1.Writes,iv a1.Stop,bv a1.Down]),(3,rE 2 (File.enc true) v)]) (some v) kn):
  ∀s20:((List File)×Int),J (q.g Tryz.prog 56 0 35) c56 (atI c56 244) (St.mk' [(1,pp 0),(2,pp 1),(3,pp 2),(4,iv s20.2)] [(0,.box (zC.enc false a1)),(1,.box [nv,iv 0,iv 0,iv 0,bv false]),(2,.box [rr 3 s20.1,iv a1.Budget,iv a1.Writes,iv a1.Stop,bv a1.Down]),(3,rE 2 (File.enc true) s20.1)]) (zAX a1 s20) kn:=by
 refine kP (fun g ih s20=>?_)
 unfold zBj
 refine J_d 976 [] [11] [(11,bv (decide (s20.2< (a1.Files.length:Int))))] [] [] zB ?_
 refine zF 11 (fun h21=>?_) (fun h21=>?_)
 ·refine zA (fun x22 h23=>?_)
  refine zA (fun x24 h25=>?_)
  refine zA (fun x26 h27=>?_)
  refine zA (fun x28 h29=>?_)
  refine J_g 1956 [] [(1,pp 0),(2,pp 1),(3,pp 2),(4,iv s20.2)] [(0,.box (zC.enc false a1)),(1,.box [nv,iv 0,iv 0,iv 0,bv false]),(2,.box [rr 7 x28,iv a1.Budget,iv a1.Writes,iv a1.Stop,bv a1.Down]),(7,rE 2 (File.enc true) x28)] (zD 5 (zAg (kk:=.i64) 31 138 2 (File.enc false) (.tmp 17) (.tmp 18) h23) (zD 8 (zDM 121 5 1 4 eU8 ([]:List Int) [] [] []) (zD 12 (zAg (kk:=.i64) 31 138 2 (File.enc false) (.tmp 24) (.tmp 25) h25) (zD 15 (zOL 121 121 5 5 1 1 5 4 eU8 (.tmp 22) (.tmp 28) h27) (zD 17 (zQz (ds:=[sv x22.Path,rr 5 x26]) (ts:=[5]) 31 138 2 6 (File.enc true) [({Path:=x22.Path,Data:=x26}:File)] [0] [(.tmp 30)] [.ag [sv x22.Path,rr 5 x26]] [(5,rE 1 eU8 x26)] (.keep rfl (.move (.head _) (List.length_map _) (by decide) (.nil)))) (zD 18 (zG4 31 31 138 138 2 40 7 3 6 (File.enc true) (.tmp 15) (.tmp 31) h29) zB)))))) ?_
  refine J_d 979 [] [4] [(4,iv (w64 (s20.2+1)))] [] [] zB ?_
  refine kR 7 3 (Nat.le_of_ble_eq_true rfl) (Nat.le_of_ble_eq_true rfl) ?_
  exact J_q (J_b (ih (x28,w64 (s20.2+1)))) rfl
 ·exact yF (hk s20.1) rfl
theorem zBx.ok (a1:zC):Ok Tryz.prog 56 [.ag (zC.enc false a1)] [] ((zBx a1).map fun r=>(.ag (zC.enc true r),[])):=by
 refine zH c56 Tryz.f56 0 35 (fun q=>?_)
 unfold zBx
 refine J_g 2 [(0,0),(1,1)] [(1,pp 0),(2,pp 1)] [(0,.box (zC.enc false a1)),(1,.box [nv,iv 0,iv 0,iv 0,bv false])] zB ?_
 refine J_g 6 [(1,2)] [(1,pp 0),(2,pp 1),(3,pp 2)] [(0,.box (zC.enc false a1)),(1,.box [nv,iv 0,iv 0,iv 0,bv false]),(2,.box (zC.enc false a1))] zB ?_
 refine J_g 14 [] [(1,pp 0),(2,pp 1),(3,pp 2)] [(0,.box (zC.enc false a1)),(1,.box [nv,iv 0,iv 0,iv 0,bv false]),(2,.box [nv,iv a1.Budget,iv a1.Writes,iv a1.Stop,bv a1.Down])] zB ?_
 refine J_d 60 [] [4] [(4,iv 0)] [] [] zB ?_
 refine zOw 2 0 3 2 rfl rfl (Nat.le_of_ble_eq_true rfl) (by kernel_rfl) ?_
 refine zEM (zAX.ok a1 q _ (fun v30=>J_j ?_) (([]:List File),0))
 refine J_g 62 [] [(2,pp 1)] [(1,.box [rr 3 v30,iv a1.Budget,iv a1.Writes,iv a1.Stop,bv a1.Down]),(3,rE 2 (File.enc true) v30)] zB ?_
 exact zAM (ds:=[.ag [rr 3 v30,iv a1.Budget,iv a1.Writes,iv a1.Stop,bv a1.Down]]) (ds':=[.ag [so 2 (File.enc true) v30,iv a1.Budget,iv a1.Writes,iv a1.Stop,bv a1.Down]]) (.cons (.ag (.move (.tail _ (.head _)) (List.length_map _) (by decide) (.keep rfl (.keep rfl (.keep rfl (.keep rfl (.nil))))))) (.nil) (by decide)) rfl
theorem zGF.ok (a1:zC) (a2:ByteArray) (q:Wd) (kn:(List ByteArray)→Option (D×List Ent)) (hk:∀v:(List ByteArray),J (q.g Tryz.prog 118 1 39) zMn (atI zMn 15) (St.mk' [(5,rr 2 v)] [(0,.box [rr 1 a1.Files,iv a1.Budget,iv a1.Writes,iv a1.Stop,bv a1.Down]),(1,rE 2 (File.enc true) a1.Files),(2,rE 1 eStr v)]) (some v) kn):
  ∀s14:((List ByteArray)×Int),J (q.g Tryz.prog 118 1 39) zMn (atI zMn 116) (St.mk' [(0,pp 0),(1,sv a2),(5,rr 2 s14.1),(6,iv s14.2)] [(0,.box [rr 1 a1.Files,iv a1.Budget,iv a1.Writes,iv a1.Stop,bv a1.Down]),(1,rE 2 (File.enc true) a1.Files),(2,rE 1 eStr s14.1)]) (jD a1 a2 s14) kn:=by
 refine kP (fun g ih s14=>?_)
 unfold jP
 refine J_d 464 [] [14] [(14,bv (decide (s14.2< (a1.Files.length:Int))))] [] [] zB ?_
 refine zF 14 (fun h15=>?_) (fun h15=>?_)
 ·refine zA (fun x16 h17=>?_)
  refine zA (fun x18 h19=>?_)
  refine J_d 1864 [] [14,26] [(26,bv x18)] [] [] (zD 5 (wM (kk:=.i64) 31 138 2 1 (File.enc true) (.tmp 20) (.tmp 21) h17) (zD 7 (jH (d:=sv x16.Path) 9 2 1 0 (File.enc true) (.tmp 23) h17 (by kernel_rfl)) (zD 9 (xL [(.tmp 24),(.tmp 25)] [9,9] (tY.ok x16.Path a2) h19) zB))) ?_
  refine yQ (aft zMn 932) (fun v25:(List ByteArray)=>St.mk' [(0,pp 0),(1,sv a2),(5,rr 4 v25),(6,iv s14.2)] [(0,.box [rr 1 a1.Files,iv a1.Budget,iv a1.Writes,iv a1.Stop,bv a1.Down]),(1,rE 2 (File.enc true) a1.Files),(4,rE 1 eStr v25)]) (fun v25=>?_) (fun jv25=>?_)
  ·refine J_d 467 [] [6] [(6,iv (w64 (s14.2+1)))] [] [] zB ?_
   refine kR 4 2 (Nat.le_of_ble_eq_true rfl) (Nat.le_of_ble_eq_true rfl) ?_
   exact J_q (J_b (ih (v25,w64 (s14.2+1)))) rfl
  ·refine zF 26 (fun h20=>?_) (fun h20=>?_)
   ·refine zA (fun x21 h22=>?_)
    refine zA (fun x23 h24=>?_)
    refine J_d 3730 [] [5,26] [(5,rr 4 x23)] [2,4] [(4,rE 1 eStr x23)] (zD 6 (wM (kk:=.i64) 31 138 2 1 (File.enc true) (.tmp 31) (.tmp 32) h22) (zD 8 (jH (d:=sv x21.Path) 9 2 1 0 (File.enc true) (.tmp 34) h22 (by kernel_rfl)) (zD 9 (zDM 86 9 1 3 eStr [x21.Path] [0] [(.tmp 35)] [sv x21.Path]) (zD 10 (zG4 86 86 9 9 1 16 4 2 3 eStr (.tmp 27) (.tmp 36) h24) zB)))) ?_
    exact yF (J_j (jv25 x23)) rfl
   ·refine kR 2 4 (Nat.le_of_ble_eq_true rfl) (Nat.le_of_ble_eq_true rfl) ?_
    exact yF (J_j (jv25 s14.1)) rfl
 ·exact yF (hk s14.1) rfl
theorem zFB.ok (a1:zC) (a2:ByteArray):Ok Tryz.prog 118 [pp 0,sv a2] [.box (zC.enc true a1)] ((uO a1 a2).map fun r=>(so 1 eStr r,[.box (zC.enc true a1)])):=by
 refine zH zMn Tryz.f118 1 39 (fun q=>?_)
 unfold uO
 refine yU 0 (cs':=[rr 1 a1.Files,iv a1.Budget,iv a1.Writes,iv a1.Stop,bv a1.Down]) (es:=[(1,rE 2 (File.enc true) a1.Files)]) rfl (.cons (.own 1) (.cons (.same rfl rfl) (.cons (.same rfl rfl) (.cons (.same rfl rfl) (.cons (.same rfl rfl) (.nil)))))) rfl (by kernel_rfl) (by kernel_rfl) ?_
 refine vS [(0,pp 0),(1,sv a2)] [(0,.box [rr 1 a1.Files,iv a1.Budget,iv a1.Writes,iv a1.Stop,bv a1.Down]),(1,rE 2 (File.enc true) a1.Files)] (by kernel_rfl) ?_
 refine J_g 2 [] [(0,pp 0),(1,sv a2)] [(0,.box [rr 1 a1.Files,iv a1.Budget,iv a1.Writes,iv a1.Stop,bv a1.Down]),(1,rE 2 (File.enc true) a1.Files)] zB ?_
 refine J_g 6 [] [(0,pp 0),(1,sv a2),(5,rr 2 ([]:List ByteArray))] [(0,.box [rr 1 a1.Files,iv a1.Budget,iv a1.Writes,iv a1.Stop,bv a1.Down]),(1,rE 2 (File.enc true) a1.Files),(2,rE 1 eStr ([]:List ByteArray))] (zD 0 (zDM 86 9 1 2 eStr ([]:List ByteArray) [] [] []) zB) ?_
 refine J_d 28 [] [6] [(6,iv 0)] [] [] zB ?_
 refine zEM (zGF.ok a1 a2 q _ (fun v26=>J_j ?_) (([]:List ByteArray),0))
 refine J_g 30 [] [(4,rr 2 v26)] [(0,.box [rr 1 a1.Files,iv a1.Budget,iv a1.Writes,iv a1.Stop,bv a1.Down]),(1,rE 2 (File.enc true) a1.Files),(2,rE 1 eStr v26)] zB ?_
 refine xG 0 (cs':=[so 2 (File.enc true) a1.Files,iv a1.Budget,iv a1.Writes,iv a1.Stop,bv a1.Down]) (ts:=[1]) rfl (.move (.head _) (List.length_map _) (by decide) (.keep rfl (.keep rfl (.keep rfl (.keep rfl (.nil)))))) ?_
 refine vS [(4,rr 2 v26)] [(0,.box (zC.enc true a1)),(2,rE 1 eStr v26)] (by kernel_rfl) ?_
 exact zAM (ds:=[rr 2 v26]) (ds':=[so 1 eStr v26]) (.cons (.cell (.move (.tail _ (.head _)) (List.length_map _) (by decide) (.nil))) (.nil) (by decide)) rfl
theorem zHf.ok (a1:zC) (x2:(List ByteArray)) (q:Wd) (kn:(List Int)→Option (D×List Ent)) (hk:∀v:(List Int),J (q.g Tryz.prog 114 1 41) zLe (atI zLe 31) (St.mk' [(3,rr 2 v)] [(0,.box [rr 4 a1.Files,iv a1.Budget,iv a1.Writes,iv a1.Stop,bv a1.Down]),(2,rE 1 zG v),(4,rE 2 (File.enc true) a1.Files)]) (some v) kn):
  ∀s21:((List Int)×Int),J (q.g Tryz.prog 114 1 41) zLe (atI zLe 244) (St.mk' [(3,rr 2 s21.1),(4,rr 3 x2),(5,iv s21.2)] [(0,.box [rr 4 a1.Files,iv a1.Budget,iv a1.Writes,iv a1.Stop,bv a1.Down]),(2,rE 1 zG s21.1),(3,rE 1 eStr x2),(4,rE 2 (File.enc true) a1.Files)]) (zBS a1 x2 s21) kn:=by
 refine kP (fun g ih s21=>?_)
 unfold zBi
 refine J_d 976 [] [14] [(14,bv (decide (s21.2< (x2.length:Int))))] [] [] zB ?_
 refine zF 14 (fun h22=>?_) (fun h22=>?_)
 ·refine zA (fun x23 h24=>?_)
  refine zA (fun x25 h26=>?_)
  refine zA (fun x27 h28=>?_)
  refine J_d 3912 [] [6,7,14] [(6,iv x27.1),(7,bv x27.2)] [] [] (zD 2 (wM (kk:=.i64) 86 9 1 3 eStr (.tmp 18) (.tmp 19) h24) (zD 3 (jH (d:=sv x23) 9 1 3 0 eStr (.tmp 20) h24 (by kernel_rfl)) (zD 4 (zPj 9 (.tmp 21) (some (.const (.int .i64 4))) none h26) (zD 5 (xL [(.tmp 22),(.const (.int .i64 6))] [9,3] (wF.ok x25 6) h28) zB)))) ?_
  refine yQ (atI zLe 7827) (fun v34:Bool=>St.mk' [(3,rr 2 s21.1),(4,rr 3 x2),(5,iv s21.2),(6,iv x27.1),(35,bv v34)] [(0,.box [rr 4 a1.Files,iv a1.Budget,iv a1.Writes,iv a1.Stop,bv a1.Down]),(2,rE 1 zG s21.1),(3,rE 1 eStr x2),(4,rE 2 (File.enc true) a1.Files)]) (fun v34=>?_) (fun jv34=>?_)
  ·refine yQ (aft zLe 1956) (fun v38:(List Int)=>St.mk' [(3,rr 6 v38),(4,rr 3 x2),(5,iv s21.2)] [(0,.box [rr 4 a1.Files,iv a1.Budget,iv a1.Writes,iv a1.Stop,bv a1.Down]),(3,rE 1 eStr x2),(4,rE 2 (File.enc true) a1.Files),(6,rE 1 zG v38)]) (fun v38=>?_) (fun jv38=>?_)
   ·refine J_d 979 [] [5] [(5,iv (w64 (s21.2+1)))] [] [] zB ?_
    refine kR 6 2 (Nat.le_of_ble_eq_true rfl) (Nat.le_of_ble_eq_true rfl) ?_
    exact J_q (J_b (ih (v38,w64 (s21.2+1)))) rfl
   ·refine zF 35 (fun h35=>?_) (fun h35=>?_)
    ·refine zA (fun x36 h37=>?_)
     refine J_d 15654 [] [3,6,35] [(3,rr 6 x36)] [2,6] [(6,rE 1 zG x36)] (zD 2 (zDM 39 2 1 5 zG [x27.1] [0] [(.tmp 37)] [iv x27.1]) (zD 3 (zG4 39 39 2 2 1 8 6 2 5 zG (.tmp 36) (.tmp 38) h37) zB)) ?_
     exact yF (J_j (jv38 x36)) rfl
    ·refine kR 2 6 (Nat.le_of_ble_eq_true rfl) (Nat.le_of_ble_eq_true rfl) ?_
     exact yF (J_j (jv38 s21.1)) rfl
  ·refine wJ (fun h29=>?_) (fun h29=>?_)
   ·refine zA (fun x30 h31=>?_)
    refine zA (fun x32 h33=>?_)
    refine J_d 7826 [] [7,35] [(35,bv (seq x30 x32))] [] [] (xU 1 [(26,bv x27.2)] [] h29 (zDL 3 1 27 true (xL [(.tmp 28)] [2] (wH.ok x27.1) h31) (zDL 6 1 27 true (wM (kk:=.i64) 86 9 1 3 eStr (.tmp 30) (.tmp 31) h33) (zDL 7 1 27 true (jH (d:=sv x32) 9 1 3 0 eStr (.tmp 32) h33 (by kernel_rfl)) zB)))) ?_
    exact yF (J_j (jv34 (seq x30 x32))) rfl
   ·refine J_d 7826 [] [7,35] [(35,bv false)] [] [] (xU 1 [(26,bv x27.2)] [] h29 zB) ?_
    exact yF (J_j (jv34 false)) rfl
 ·exact yF (hk s21.1) rfl
theorem zEU.ok (a1:zC):Ok Tryz.prog 114 [pp 0] [.box (zC.enc true a1)] ((wT a1).map fun r=>(so 1 zG r,[.box (zC.enc true a1)])):=by
 refine zH zLe Tryz.f114 1 41 (fun q=>?_)
 unfold wT
 refine yU 0 (cs':=[rr 1 a1.Files,iv a1.Budget,iv a1.Writes,iv a1.Stop,bv a1.Down]) (es:=[(1,rE 2 (File.enc true) a1.Files)]) rfl (.cons (.own 1) (.cons (.same rfl rfl) (.cons (.same rfl rfl) (.cons (.same rfl rfl) (.cons (.same rfl rfl) (.nil)))))) rfl (by kernel_rfl) (by kernel_rfl) ?_
 refine vS [(0,pp 0)] [(0,.box [rr 1 a1.Files,iv a1.Budget,iv a1.Writes,iv a1.Stop,bv a1.Down]),(1,rE 2 (File.enc true) a1.Files)] (by kernel_rfl) ?_
 refine J_g 2 [] [(0,pp 0)] [(0,.box [rr 1 a1.Files,iv a1.Budget,iv a1.Writes,iv a1.Stop,bv a1.Down]),(1,rE 2 (File.enc true) a1.Files)] zB ?_
 refine J_g 6 [] [(0,pp 0),(3,rr 2 ([]:List Int))] [(0,.box [rr 1 a1.Files,iv a1.Budget,iv a1.Writes,iv a1.Stop,bv a1.Down]),(1,rE 2 (File.enc true) a1.Files),(2,rE 1 zG ([]:List Int))] (zD 0 (zDM 39 2 1 2 zG ([]:List Int) [] [] []) zB) ?_
 refine xG 0 (cs':=[so 2 (File.enc true) a1.Files,iv a1.Budget,iv a1.Writes,iv a1.Stop,bv a1.Down]) (ts:=[1]) rfl (.move (.head _) (List.length_map _) (by decide) (.keep rfl (.keep rfl (.keep rfl (.keep rfl (.nil)))))) ?_
 refine vS [(0,pp 0),(3,rr 2 ([]:List Int))] [(0,.box (zC.enc true a1)),(2,rE 1 zG ([]:List Int))] (by kernel_rfl) ?_
 refine zA (fun x2 h3=>?_)
 refine J_g 14 [] [(3,rr 2 ([]:List Int)),(4,rr 3 x2)] [(0,.box (zC.enc true a1)),(2,rE 1 zG ([]:List Int)),(3,rE 1 eStr x2)] (zD 1 (zFL [(0,.box (zC.enc true a1))] [(3,rE 1 eStr x2)] (wG («as»:=[pp 0,sv (bs [103,101,110,47])]) [(.tmp 9),(.const (.string (bs [103,101,110,47])))] [72,9] false [(0,.box (zC.enc true a1))] [0] (.cons (.pt rfl) (.cons (.same rfl) (.nil))) (zFB.ok a1 (bs [103,101,110,47])) h3 (.own 3))) zB) ?_
 refine yU 0 (cs':=[rr 4 a1.Files,iv a1.Budget,iv a1.Writes,iv a1.Stop,bv a1.Down]) (es:=[(4,rE 2 (File.enc true) a1.Files)]) rfl (.cons (.own 4) (.cons (.same rfl rfl) (.cons (.same rfl rfl) (.cons (.same rfl rfl) (.cons (.same rfl rfl) (.nil)))))) rfl (by kernel_rfl) (by kernel_rfl) ?_
 refine vS [(3,rr 2 ([]:List Int)),(4,rr 3 x2)] [(0,.box [rr 4 a1.Files,iv a1.Budget,iv a1.Writes,iv a1.Stop,bv a1.Down]),(2,rE 1 zG ([]:List Int)),(3,rE 1 eStr x2),(4,rE 2 (File.enc true) a1.Files)] (by kernel_rfl) ?_
 refine J_d 60 [] [5] [(5,iv 0)] [] [] zB ?_
 refine zEM (zHf.ok a1 x2 q _ (fun v39=>J_j ?_) (([]:List Int),0))
 refine J_g 62 [] [(2,rr 2 v39)] [(0,.box [rr 4 a1.Files,iv a1.Budget,iv a1.Writes,iv a1.Stop,bv a1.Down]),(2,rE 1 zG v39),(4,rE 2 (File.enc true) a1.Files)] zB ?_
 refine xG 0 (cs':=[so 2 (File.enc true) a1.Files,iv a1.Budget,iv a1.Writes,iv a1.Stop,bv a1.Down]) (ts:=[4]) rfl (.move (.tail _ (.head _)) (List.length_map _) (by decide) (.keep rfl (.keep rfl (.keep rfl (.keep rfl (.nil)))))) ?_
 refine vS [(2,rr 2 v39)] [(0,.box (zC.enc true a1)),(2,rE 1 zG v39)] (by kernel_rfl) ?_
 exact zAM (ds:=[rr 2 v39]) (ds':=[so 1 zG v39]) (.cons (.cell (.move (.tail _ (.head _)) (List.length_map _) (by decide) (.nil))) (.nil) (by decide)) rfl
theorem zH1.ok (a1:zC) (a2:ByteArray) (q:Wd) (kn:Unit→Option (D×List Ent)) (hk:∀v:Unit,J (q.g Tryz.prog 54 1 26) c54 (atI c54 7) (St.mk' [] [(0,.box [rr 1 a1.Files,iv a1.Budget,iv a1.Writes,iv a1.Stop,bv a1.Down]),(1,rE 2 (File.enc true) a1.Files)]) (some v) kn):
  ∀s7:Int,J (q.g Tryz.prog 54 1 26) c54 (atI c54 52) (St.mk' [(0,pp 0),(1,sv a2),(5,iv s7)] [(0,.box [rr 1 a1.Files,iv a1.Budget,iv a1.Writes,iv a1.Stop,bv a1.Down]),(1,rE 2 (File.enc true) a1.Files)]) (zAW a1 a2 s7) (Fl.go (fun r:Int=>some (iv r,[.box (zC.enc true a1)])) kn):=by
 refine kP (fun g ih s7=>?_)
 unfold zAj
 refine J_d 208 [] [12] [(12,bv (decide (s7< (a1.Files.length:Int))))] [] [] zB ?_
 refine zF 12 (fun h8=>?_) (fun h8=>?_)
 ·refine zA (fun x9 h10=>?_)
  refine J_d 840 [] [12,24] [(24,bv (seq x9.Path a2))] [] [] (zD 5 (wM (kk:=.i64) 31 138 2 1 (File.enc true) (.tmp 18) (.tmp 19) h10) (zD 7 (jH (d:=sv x9.Path) 9 2 1 0 (File.enc true) (.tmp 21) h10 (by kernel_rfl)) zB)) ?_
  refine zF 24 (fun h11=>?_) (fun h11=>?_)
  ·refine J_g 3364 [] [(4,iv s7)] [(0,.box [rr 1 a1.Files,iv a1.Budget,iv a1.Writes,iv a1.Stop,bv a1.Down]),(1,rE 2 (File.enc true) a1.Files)] zB ?_
   refine xG 0 (cs':=[so 2 (File.enc true) a1.Files,iv a1.Budget,iv a1.Writes,iv a1.Stop,bv a1.Down]) (ts:=[1]) rfl (.move (.head _) (List.length_map _) (by decide) (.keep rfl (.keep rfl (.keep rfl (.keep rfl (.nil)))))) ?_
   refine vS [(4,iv s7)] [(0,.box (zC.enc true a1))] (by kernel_rfl) ?_
   exact zR rfl
  ·refine J_d 211 [] [5,24] [(5,iv (w64 (s7+1)))] [] [] zB ?_
   exact J_q (J_b (ih (w64 (s7+1)))) rfl
 ·exact yF (hk ()) rfl
theorem zG2.ok (a1:zC) (a2:ByteArray):Ok Tryz.prog 54 [pp 0,sv a2] [.box (zC.enc true a1)] ((yK a1 a2).map fun r=>(iv r,[.box (zC.enc true a1)])):=by
 refine zH c54 Tryz.f54 1 26 (fun q=>?_)
 unfold yK
 refine yU 0 (cs':=[rr 1 a1.Files,iv a1.Budget,iv a1.Writes,iv a1.Stop,bv a1.Down]) (es:=[(1,rE 2 (File.enc true) a1.Files)]) rfl (.cons (.own 1) (.cons (.same rfl rfl) (.cons (.same rfl rfl) (.cons (.same rfl rfl) (.cons (.same rfl rfl) (.nil)))))) rfl (by kernel_rfl) (by kernel_rfl) ?_
 refine vS [(0,pp 0),(1,sv a2)] [(0,.box [rr 1 a1.Files,iv a1.Budget,iv a1.Writes,iv a1.Stop,bv a1.Down]),(1,rE 2 (File.enc true) a1.Files)] (by kernel_rfl) ?_
 refine J_g 2 [] [(0,pp 0),(1,sv a2)] [(0,.box [rr 1 a1.Files,iv a1.Budget,iv a1.Writes,iv a1.Stop,bv a1.Down]),(1,rE 2 (File.enc true) a1.Files)] zB ?_
 refine J_d 12 [] [5] [(5,iv 0)] [] [] zB ?_
 refine vU (K0:=(fun r:Int=>some (iv r,[.box (zC.enc true a1)]))) (fun _=>rfl) (zH1.ok a1 a2 q _ (fun v12=>J_j ?_) 0)
 refine J_g 14 [] [(4,iv (-1))] [(0,.box [rr 1 a1.Files,iv a1.Budget,iv a1.Writes,iv a1.Stop,bv a1.Down]),(1,rE 2 (File.enc true) a1.Files)] zB ?_
 refine xG 0 (cs':=[so 2 (File.enc true) a1.Files,iv a1.Budget,iv a1.Writes,iv a1.Stop,bv a1.Down]) (ts:=[1]) rfl (.move (.head _) (List.length_map _) (by decide) (.keep rfl (.keep rfl (.keep rfl (.keep rfl (.nil)))))) ?_
 refine vS [(4,iv (-1))] [(0,.box (zC.enc true a1))] (by kernel_rfl) ?_
 exact zR rfl
theorem zAq.ok (a1:zC):Ok Tryz.prog 92 [pp 0] [.box (zC.enc true a1)] ((zAq a1).map fun r=>(iv r.1,[.box (zC.enc true r.2)])):=by
 refine zH c92 Tryz.f92 1 33 (fun q=>?_)
 unfold zAq
 refine yU 0 (cs':=[rr 1 a1.Files,iv a1.Budget,iv a1.Writes,iv a1.Stop,bv a1.Down]) (es:=[(1,rE 2 (File.enc true) a1.Files)]) rfl (.cons (.own 1) (.cons (.same rfl rfl) (.cons (.same rfl rfl) (.cons (.same rfl rfl) (.cons (.same rfl rfl) (.nil)))))) rfl (by kernel_rfl) (by kernel_rfl) ?_
 refine vS [(0,pp 0)] [(0,.box [rr 1 a1.Files,iv a1.Budget,iv a1.Writes,iv a1.Stop,bv a1.Down]),(1,rE 2 (File.enc true) a1.Files)] (by kernel_rfl) ?_
 refine J_g 2 [] [(0,pp 0)] [(0,.box [rr 1 a1.Files,iv a1.Budget,iv a1.Writes,iv a1.Stop,bv a1.Down]),(1,rE 2 (File.enc true) a1.Files)] zB ?_
 refine xG 0 (cs':=[so 2 (File.enc true) a1.Files,iv a1.Budget,iv a1.Writes,iv a1.Stop,bv a1.Down]) (ts:=[1]) rfl (.move (.head _) (List.length_map _) (by decide) (.keep rfl (.keep rfl (.keep rfl (.keep rfl (.nil)))))) ?_
 refine vS [(0,pp 0)] [(0,.box (zC.enc true a1))] (by kernel_rfl) ?_
 refine zA (fun x2 h3=>?_)
 refine J_g 6 [] [(0,pp 0),(3,iv x2)] [(0,.box (zC.enc true a1))] (zD 1 (zFL [(0,.box (zC.enc true a1))] [] (wG («as»:=[pp 0,sv (bs [99,117,114])]) [(.tmp 6),(.const (.string (bs [99,117,114])))] [72,9] false [(0,.box (zC.enc true a1))] [0] (.cons (.pt rfl) (.cons (.same rfl) (.nil))) (zG2.ok a1 (bs [99,117,114])) h3 (.same rfl rfl))) zB) ?_
 refine yU 0 (cs':=[rr 1 a1.Files,iv a1.Budget,iv a1.Writes,iv a1.Stop,bv a1.Down]) (es:=[(1,rE 2 (File.enc true) a1.Files)]) rfl (.cons (.own 1) (.cons (.same rfl rfl) (.cons (.same rfl rfl) (.cons (.same rfl rfl) (.cons (.same rfl rfl) (.nil)))))) rfl (by kernel_rfl) (by kernel_rfl) ?_
 refine vS [(0,pp 0),(3,iv x2)] [(0,.box [rr 1 a1.Files,iv a1.Budget,iv a1.Writes,iv a1.Stop,bv a1.Down]),(1,rE 2 (File.enc true) a1.Files)] (by kernel_rfl) ?_
 refine J_d 28 [] [9] [(9,bv (decide (x2<0)))] [] [] zB ?_
 refine zF 9 (fun h4=>?_) (fun h4=>?_)
 ·refine J_g 116 [] [(2,iv 0)] [(0,.box [rr 1 a1.Files,iv a1.Budget,iv a1.Writes,iv a1.Stop,bv a1.Down]),(1,rE 2 (File.enc true) a1.Files)] zB ?_
  refine xG 0 (cs':=[so 2 (File.enc true) a1.Files,iv a1.Budget,iv a1.Writes,iv a1.Stop,bv a1.Down]) (ts:=[1]) rfl (.move (.head _) (List.length_map _) (by decide) (.keep rfl (.keep rfl (.keep rfl (.keep rfl (.nil)))))) ?_
  refine vS [(2,iv 0)] [(0,.box (zC.enc true a1))] (by kernel_rfl) ?_
  exact zR rfl
 ·refine zA (fun x5 h6=>?_)
  refine zFY (ix:=x2) (enc:=(File.enc true)) 1 1 2 h6 rfl rfl (by kernel_rfl) ?_
  refine vS [(0,pp 0),(3,iv x2),(9,bv false)] [(0,.box [rr 1 a1.Files,iv a1.Budget,iv a1.Writes,iv a1.Stop,bv a1.Down]),(1,.lent 2 (a1.Files.map (File.enc true)) x2.toNat 1 2 x5.Data.length),(2,rE 1 eU8 x5.Data)] (by kernel_rfl) ?_
  refine zA (fun x7 h8=>?_)
  refine J_g 30 [] [(0,pp 0),(4,iv x7.1),(5,bv x7.2)] [(0,.box [rr 1 a1.Files,iv a1.Budget,iv a1.Writes,iv a1.Stop,bv a1.Down]),(1,.lent 2 (a1.Files.map (File.enc true)) x2.toNat 1 2 x5.Data.length),(2,rE 1 eU8 x5.Data)] (zD 5 (zL0 (kk:=.i64) 31 138 2 1 (File.enc true) (.tmp 14) (.tmp 15) x2.toNat 1 2 x5.Data.length h6) (zD 7 (zMc 121 1 (.tmp 17) 2 (File.enc true) a1.Files x2.toNat 1 2 x5.Data.length) (zD 8 (zKV (xs:=x5.Data) 121 9 5 2 (.tmp 18)) (zD 9 (xL [(.tmp 19),(.const (.int .i64 6))] [9,3] (wF.ok (b2s x5.Data) 6) h8) zB)))) ?_
  refine zGi (ix:=x2) (enc:=(File.enc true)) (b:=x5) 1 1 2 h6 rfl rfl rfl rfl rfl (Nat.le_of_ble_eq_true rfl) (List.length_map _) ?_
  refine vS [(0,pp 0),(4,iv x7.1),(5,bv x7.2)] [(0,.box [rr 1 a1.Files,iv a1.Budget,iv a1.Writes,iv a1.Stop,bv a1.Down]),(1,rE 2 (File.enc true) (a1.Files.set x2.toNat x5))] (by kernel_rfl) ?_
  refine zE5 (σ':=St.mk' [(0,pp 0),(4,iv x7.1),(5,bv x7.2)] [(0,.box [rr 1 (a1.Files.set x2.toNat x5),iv a1.Budget,iv a1.Writes,iv a1.Stop,bv a1.Down]),(1,rE 2 (File.enc true) (a1.Files.set x2.toNat x5))]) (by simp only [rr,List.length_set]) ?_
  refine yQ (atI c92 125) (fun v14:((List File)×Int×Int×Int×Bool×Bool)=>St.mk' [(4,iv x7.1),(31,bv v14.2.2.2.2.2)] [(0,.box [rr 1 v14.1,iv v14.2.1,iv v14.2.2.1,iv v14.2.2.2.1,bv v14.2.2.2.2.1]),(1,rE 2 (File.enc true) v14.1)]) (fun v14=>?_) (fun jv14=>?_)
  ·refine zF 31 (fun h15=>?_) (fun h15=>?_)
   ·refine J_g 500 [] [(2,iv 0)] [(0,.box [rr 1 v14.1,iv v14.2.1,iv v14.2.2.1,iv v14.2.2.2.1,bv v14.2.2.2.2.1]),(1,rE 2 (File.enc true) v14.1)] zB ?_
    refine xG 0 (cs':=[so 2 (File.enc true) v14.1,iv v14.2.1,iv v14.2.2.1,iv v14.2.2.2.1,bv v14.2.2.2.2.1]) (ts:=[1]) rfl (.move (.head _) (List.length_map _) (by decide) (.keep rfl (.keep rfl (.keep rfl (.keep rfl (.nil)))))) ?_
    refine vS [(2,iv 0)] [(0,.box [so 2 (File.enc true) v14.1,iv v14.2.1,iv v14.2.2.1,iv v14.2.2.2.1,bv v14.2.2.2.2.1])] (by kernel_rfl) ?_
    exact zR rfl
   ·refine J_g 126 [] [(2,iv x7.1)] [(0,.box [rr 1 v14.1,iv v14.2.1,iv v14.2.2.1,iv v14.2.2.2.1,bv v14.2.2.2.2.1]),(1,rE 2 (File.enc true) v14.1)] zB ?_
    refine xG 0 (cs':=[so 2 (File.enc true) v14.1,iv v14.2.1,iv v14.2.2.1,iv v14.2.2.2.1,bv v14.2.2.2.2.1]) (ts:=[1]) rfl (.move (.head _) (List.length_map _) (by decide) (.keep rfl (.keep rfl (.keep rfl (.keep rfl (.nil)))))) ?_
    refine vS [(2,iv x7.1)] [(0,.box [so 2 (File.enc true) v14.1,iv v14.2.1,iv v14.2.2.1,iv v14.2.2.2.1,bv v14.2.2.2.2.1])] (by kernel_rfl) ?_
    exact zR rfl
  ·refine wJ (fun h9=>?_) (fun h9=>?_)
   ·refine J_d 124 [] [0,5,31] [(31,bv true)] [] [] (xU 2 [(24,bv (!x7.2))] [] h9 zB) ?_
    exact yF (J_j (jv14 (a1.Files.set x2.toNat x5,a1.Budget,a1.Writes,a1.Stop,a1.Down,true))) rfl
   ·refine xG 0 (cs':=[so 2 (File.enc true) (a1.Files.set x2.toNat x5),iv a1.Budget,iv a1.Writes,iv a1.Stop,bv a1.Down]) (ts:=[1]) rfl (.move (.head _) (List.length_map _) (by decide) (.keep rfl (.keep rfl (.keep rfl (.keep rfl (.nil)))))) ?_
    refine vS [(0,pp 0),(4,iv x7.1),(5,bv x7.2)] [(0,.box [so 2 (File.enc true) (a1.Files.set x2.toNat x5),iv a1.Budget,iv a1.Writes,iv a1.Stop,bv a1.Down])] (by kernel_rfl) ?_
    refine zA (fun x10 h11=>?_)
    refine zA (fun x12 h13=>?_)
    refine J_g 124 [] [(4,iv x7.1),(31,bv (!x12))] [(0,.box [so 2 (File.enc true) (({Files:=a1.Files.set x2.toNat x5,Budget:=a1.Budget,Writes:=a1.Writes,Stop:=a1.Stop,Down:=a1.Down}:zC).Files),iv (({Files:=a1.Files.set x2.toNat x5,Budget:=a1.Budget,Writes:=a1.Writes,Stop:=a1.Stop,Down:=a1.Down}:zC).Budget),iv (({Files:=a1.Files.set x2.toNat x5,Budget:=a1.Budget,Writes:=a1.Writes,Stop:=a1.Stop,Down:=a1.Down}:zC).Writes),iv (({Files:=a1.Files.set x2.toNat x5,Budget:=a1.Budget,Writes:=a1.Writes,Stop:=a1.Stop,Down:=a1.Down}:zC).Stop),bv (({Files:=a1.Files.set x2.toNat x5,Budget:=a1.Budget,Writes:=a1.Writes,Stop:=a1.Stop,Down:=a1.Down}:zC).Down)])] (xU 2 [(24,bv (!x7.2))] [] h9 (zDL 4 2 25 false (zFL [(0,.box [so 2 (File.enc true) (a1.Files.set x2.toNat x5),iv a1.Budget,iv a1.Writes,iv a1.Stop,bv a1.Down])] [(1,rE 1 zG x10)] (wG («as»:=[pp 0]) [(.tmp 26)] [72] false [(0,.box [so 2 (File.enc true) (a1.Files.set x2.toNat x5),iv a1.Budget,iv a1.Writes,iv a1.Stop,bv a1.Down])] [0] (.cons (.pt rfl) (.nil)) (zEU.ok ({Files:=a1.Files.set x2.toNat x5,Budget:=a1.Budget,Writes:=a1.Writes,Stop:=a1.Stop,Down:=a1.Down}:zC)) h11 (.own 1))) (zDL 6 2 25 false (wG («as»:=[rr 1 x10,iv x7.1]) [(.tmp 27),(.tmp 28)] [39,2] true [(1,rE 1 zG x10)] [] (.cons (zDP (.head _) (fun _=>rfl) rfl) (.cons (.same rfl) (.nil))) (yX.ok x10 x7.1) h13 (.same rfl rfl) (hbor:=fun _=>⟨fhN,zT⟩)) zB))) ?_
    refine yU 0 (cs':=[rr 1 (({Files:=a1.Files.set x2.toNat x5,Budget:=a1.Budget,Writes:=a1.Writes,Stop:=a1.Stop,Down:=a1.Down}:zC).Files),iv (({Files:=a1.Files.set x2.toNat x5,Budget:=a1.Budget,Writes:=a1.Writes,Stop:=a1.Stop,Down:=a1.Down}:zC).Budget),iv (({Files:=a1.Files.set x2.toNat x5,Budget:=a1.Budget,Writes:=a1.Writes,Stop:=a1.Stop,Down:=a1.Down}:zC).Writes),iv (({Files:=a1.Files.set x2.toNat x5,Budget:=a1.Budget,Writes:=a1.Writes,Stop:=a1.Stop,Down:=a1.Down}:zC).Stop),bv (({Files:=a1.Files.set x2.toNat x5,Budget:=a1.Budget,Writes:=a1.Writes,Stop:=a1.Stop,Down:=a1.Down}:zC).Down)]) (es:=[(1,rE 2 (File.enc true) (({Files:=a1.Files.set x2.toNat x5,Budget:=a1.Budget,Writes:=a1.Writes,Stop:=a1.Stop,Down:=a1.Down}:zC).Files))]) rfl (.cons (.own 1) (.cons (.same rfl rfl) (.cons (.same rfl rfl) (.cons (.same rfl rfl) (.cons (.same rfl rfl) (.nil)))))) rfl (by kernel_rfl) (by kernel_rfl) ?_
    refine vS [(4,iv x7.1),(31,bv (!x12))] [(0,.box [rr 1 (({Files:=a1.Files.set x2.toNat x5,Budget:=a1.Budget,Writes:=a1.Writes,Stop:=a1.Stop,Down:=a1.Down}:zC).Files),iv (({Files:=a1.Files.set x2.toNat x5,Budget:=a1.Budget,Writes:=a1.Writes,Stop:=a1.Stop,Down:=a1.Down}:zC).Budget),iv (({Files:=a1.Files.set x2.toNat x5,Budget:=a1.Budget,Writes:=a1.Writes,Stop:=a1.Stop,Down:=a1.Down}:zC).Writes),iv (({Files:=a1.Files.set x2.toNat x5,Budget:=a1.Budget,Writes:=a1.Writes,Stop:=a1.Stop,Down:=a1.Down}:zC).Stop),bv (({Files:=a1.Files.set x2.toNat x5,Budget:=a1.Budget,Writes:=a1.Writes,Stop:=a1.Stop,Down:=a1.Down}:zC).Down)]),(1,rE 2 (File.enc true) (({Files:=a1.Files.set x2.toNat x5,Budget:=a1.Budget,Writes:=a1.Writes,Stop:=a1.Stop,Down:=a1.Down}:zC).Files))] (by kernel_rfl) ?_
    exact yF (J_j (jv14 (({Files:=a1.Files.set x2.toNat x5,Budget:=a1.Budget,Writes:=a1.Writes,Stop:=a1.Stop,Down:=a1.Down}:zC).Files,({Files:=a1.Files.set x2.toNat x5,Budget:=a1.Budget,Writes:=a1.Writes,Stop:=a1.Stop,Down:=a1.Down}:zC).Budget,({Files:=a1.Files.set x2.toNat x5,Budget:=a1.Budget,Writes:=a1.Writes,Stop:=a1.Stop,Down:=a1.Down}:zC).Writes,({Files:=a1.Files.set x2.toNat x5,Budget:=a1.Budget,Writes:=a1.Writes,Stop:=a1.Stop,Down:=a1.Down}:zC).Stop,({Files:=a1.Files.set x2.toNat x5,Budget:=a1.Budget,Writes:=a1.Writes,Stop:=a1.Stop,Down:=a1.Down}:zC).Down,!x12))) rfl
theorem zAz.ok (a1:zC) (a2:(List Int)) (x4:(List Int)) (q:Wd) (kn:(List Int)→Option (D×List Ent)) (hk:∀v:(List Int),J (q.g Tryz.prog 57 1 54) c57 (atI c57 63) (St.mk' [(0,pp 0),(7,rr 3 v)] [(0,.box [rr 2 a1.Files,iv a1.Budget,iv a1.Writes,iv a1.Stop,bv a1.Down]),(2,rE 2 (File.enc true) a1.Files),(3,rE 1 zG v)]) (some v) kn):
  ∀s22:((List Int)×Int),J (q.g Tryz.prog 57 1 54) c57 (atI c57 500) (St.mk' [(0,pp 0),(1,sl 1 zG a2),(6,rr 1 x4),(7,rr 3 s22.1),(8,iv s22.2)] [(0,.box [rr 2 a1.Files,iv a1.Budget,iv a1.Writes,iv a1.Stop,bv a1.Down]),(1,rE 1 zG x4),(2,rE 2 (File.enc true) a1.Files),(3,rE 1 zG s22.1)]) (zAz a1 a2 x4 s22) (Fl.go (fun r:((List Int)×Int×zC)=>some (.tu [so 1 zG r.1,iv r.2.1],[.box (zC.enc true r.2.2)])) kn):=by
 refine kP (fun g ih s22=>?_)
 unfold zBn
 refine J_d 2000 [] [19] [(19,bv (decide (s22.2< (a2.length:Int))))] [] [] zB ?_
 refine zF 19 (fun h23=>?_) (fun h23=>?_)
 ·refine zA (fun x24 h25=>?_)
  refine zA (fun x26 h27=>?_)
  refine J_d 16016 [] [19,28] [(28,bv (!x26))] [] [] (zD 3 (zAg (kk:=.i64) 39 2 1 zG (.tmp 23) (.tmp 24) h25) (zD 5 (wG («as»:=[rr 1 x4,iv x24]) [(.tmp 22),(.tmp 26)] [39,2] true [(1,rE 1 zG x4)] [] (.cons (zDP (.head _) (fun _=>rfl) rfl) (.cons (.same rfl) (.nil))) (yX.ok x4 x24) h27 (.same rfl rfl) (hbor:=fun _=>⟨fhN,zT⟩)) zB)) ?_
  refine zF 28 (fun h28=>?_) (fun h28=>?_)
  ·refine J_g 64068 [] [(4,nv),(5,iv 4)] [(0,.box [rr 2 a1.Files,iv a1.Budget,iv a1.Writes,iv a1.Stop,bv a1.Down]),(2,rE 2 (File.enc true) a1.Files)] zB ?_
   refine xG 0 (cs':=[so 2 (File.enc true) a1.Files,iv a1.Budget,iv a1.Writes,iv a1.Stop,bv a1.Down]) (ts:=[2]) rfl (.move (.head _) (List.length_map _) (by decide) (.keep rfl (.keep rfl (.keep rfl (.keep rfl (.nil)))))) ?_
   refine vS [(4,nv),(5,iv 4)] [(0,.box (zC.enc true a1))] (by kernel_rfl) ?_
   exact zAM (ds:=[nv,iv 4]) (ds':=[so 1 zG ([]:List Int),iv 4]) (.cons (.cell (.nilsl true 1 (.nil))) (.cons (.cell (.keep rfl (.nil))) (.nil) (by decide)) (by decide)) rfl
  ·refine zA (fun x29 h30=>?_)
   refine zA (fun x31 h32=>?_)
   refine J_d 16018 [] [28,35] [(35,bv (!x31))] [] [] (zD 3 (zAg (kk:=.i64) 39 2 1 zG (.tmp 30) (.tmp 31) h30) (zD 5 (wG («as»:=[rr 3 s22.1,iv x29]) [(.tmp 29),(.tmp 33)] [39,2] true [(3,rE 1 zG s22.1)] [] (.cons (zDP (.head _) (fun _=>rfl) rfl) (.cons (.same rfl) (.nil))) (yX.ok s22.1 x29) h32 (.same rfl rfl) (hbor:=fun _=>⟨fhN,zT⟩)) zB)) ?_
   refine yQ (aft c57 4004) (fun v38:(List Int)=>St.mk' [(0,pp 0),(1,sl 1 zG a2),(6,rr 1 x4),(7,rr 4 v38),(8,iv s22.2)] [(0,.box [rr 2 a1.Files,iv a1.Budget,iv a1.Writes,iv a1.Stop,bv a1.Down]),(1,rE 1 zG x4),(2,rE 2 (File.enc true) a1.Files),(4,rE 1 zG v38)]) (fun v38=>?_) (fun jv38=>?_)
   ·refine J_d 2003 [] [8] [(8,iv (w64 (s22.2+1)))] [] [] zB ?_
    refine kR 4 3 (Nat.le_of_ble_eq_true rfl) (Nat.le_of_ble_eq_true rfl) ?_
    exact J_q (J_b (ih (v38,w64 (s22.2+1)))) rfl
   ·refine zF 35 (fun h33=>?_) (fun h33=>?_)
    ·refine zA (fun x34 h35=>?_)
     refine zA (fun x36 h37=>?_)
     refine J_d 32038 [] [7,35] [(7,rr 4 x36)] [3,4] [(4,rE 1 zG x36)] (zD 3 (zAg (kk:=.i64) 39 2 1 zG (.tmp 37) (.tmp 38) h35) (zD 5 (wG («as»:=[rr 3 s22.1,iv x34]) [(.tmp 36),(.tmp 40)] [39,2] true [(3,rE 1 zG s22.1)] [] (.cons (zDP (.head _) (fun _=>rfl) rfl) (.cons (.same rfl) (.nil))) (wX.ok s22.1 x34) h37 (.own 4) (hbor:=fun _=>⟨fhN,(zDU (zEN (fun _=>(flatK zT zDQ)) _))⟩)) zB)) ?_
     exact yF (J_j (jv38 x36)) rfl
    ·refine kR 3 4 (Nat.le_of_ble_eq_true rfl) (Nat.le_of_ble_eq_true rfl) ?_
     exact yF (J_j (jv38 s22.1)) rfl
 ·exact yF (hk s22.1) rfl
theorem zB5.ok (a1:zC) (a2:(List Int)):Ok Tryz.prog 57 [pp 0,sl 1 zG a2] [.box (zC.enc true a1)] ((zB5 a1 a2).map fun r=>(.tu [so 1 zG r.1,iv r.2.1],[.box (zC.enc true r.2.2)])):=by
 refine zH c57 Tryz.f57 1 54 (fun q=>?_)
 unfold zB5
 refine yU 0 (cs':=[rr 1 a1.Files,iv a1.Budget,iv a1.Writes,iv a1.Stop,bv a1.Down]) (es:=[(1,rE 2 (File.enc true) a1.Files)]) rfl (.cons (.own 1) (.cons (.same rfl rfl) (.cons (.same rfl rfl) (.cons (.same rfl rfl) (.cons (.same rfl rfl) (.nil)))))) rfl (by kernel_rfl) (by kernel_rfl) ?_
 refine vS [(0,pp 0),(1,sl 1 zG a2)] [(0,.box [rr 1 a1.Files,iv a1.Budget,iv a1.Writes,iv a1.Stop,bv a1.Down]),(1,rE 2 (File.enc true) a1.Files)] (by kernel_rfl) ?_
 refine J_g 2 [] [(0,pp 0),(1,sl 1 zG a2)] [(0,.box [rr 1 a1.Files,iv a1.Budget,iv a1.Writes,iv a1.Stop,bv a1.Down]),(1,rE 2 (File.enc true) a1.Files)] zB ?_
 refine J_d 12 [] [12] [(12,bv (decide ((a2.length:Int)>40)))] [] [] zB ?_
 refine zF 12 (fun h3=>?_) (fun h3=>?_)
 ·refine J_g 52 [] [(4,nv),(5,iv 2)] [(0,.box [rr 1 a1.Files,iv a1.Budget,iv a1.Writes,iv a1.Stop,bv a1.Down]),(1,rE 2 (File.enc true) a1.Files)] zB ?_
  refine xG 0 (cs':=[so 2 (File.enc true) a1.Files,iv a1.Budget,iv a1.Writes,iv a1.Stop,bv a1.Down]) (ts:=[1]) rfl (.move (.head _) (List.length_map _) (by decide) (.keep rfl (.keep rfl (.keep rfl (.keep rfl (.nil)))))) ?_
  refine vS [(4,nv),(5,iv 2)] [(0,.box (zC.enc true a1))] (by kernel_rfl) ?_
  exact zAM (ds:=[nv,iv 2]) (ds':=[so 1 zG ([]:List Int),iv 2]) (.cons (.cell (.nilsl true 1 (.nil))) (.cons (.cell (.keep rfl (.nil))) (.nil) (by decide)) (by decide)) rfl
 ·refine xG 0 (cs':=[so 2 (File.enc true) a1.Files,iv a1.Budget,iv a1.Writes,iv a1.Stop,bv a1.Down]) (ts:=[1]) rfl (.move (.head _) (List.length_map _) (by decide) (.keep rfl (.keep rfl (.keep rfl (.keep rfl (.nil)))))) ?_
  refine vS [(0,pp 0),(1,sl 1 zG a2),(12,bv false)] [(0,.box (zC.enc true a1))] (by kernel_rfl) ?_
  refine zA (fun x4 h5=>?_)
  refine J_g 14 [] [(0,pp 0),(1,sl 1 zG a2),(6,rr 1 x4)] [(0,.box (zC.enc true a1)),(1,rE 1 zG x4)] (zD 1 (zFL [(0,.box (zC.enc true a1))] [(1,rE 1 zG x4)] (wG («as»:=[pp 0]) [(.tmp 13)] [72] false [(0,.box (zC.enc true a1))] [0] (.cons (.pt rfl) (.nil)) (zEU.ok a1) h5 (.own 1))) zB) ?_
  refine yU 0 (cs':=[rr 2 a1.Files,iv a1.Budget,iv a1.Writes,iv a1.Stop,bv a1.Down]) (es:=[(2,rE 2 (File.enc true) a1.Files)]) rfl (.cons (.own 2) (.cons (.same rfl rfl) (.cons (.same rfl rfl) (.cons (.same rfl rfl) (.cons (.same rfl rfl) (.nil)))))) rfl (by kernel_rfl) (by kernel_rfl) ?_
  refine vS [(0,pp 0),(1,sl 1 zG a2),(6,rr 1 x4)] [(0,.box [rr 2 a1.Files,iv a1.Budget,iv a1.Writes,iv a1.Stop,bv a1.Down]),(1,rE 1 zG x4),(2,rE 2 (File.enc true) a1.Files)] (by kernel_rfl) ?_
  refine J_g 30 [] [(0,pp 0),(1,sl 1 zG a2),(6,rr 1 x4),(7,rr 3 ([]:List Int))] [(0,.box [rr 2 a1.Files,iv a1.Budget,iv a1.Writes,iv a1.Stop,bv a1.Down]),(1,rE 1 zG x4),(2,rE 2 (File.enc true) a1.Files),(3,rE 1 zG ([]:List Int))] (zD 0 (zDM 39 2 1 3 zG ([]:List Int) [] [] []) zB) ?_
  refine J_d 124 [] [8] [(8,iv 0)] [] [] zB ?_
  refine vU (K0:=(fun r:((List Int)×Int×zC)=>some (.tu [so 1 zG r.1,iv r.2.1],[.box (zC.enc true r.2.2)]))) (fun _=>rfl) (zAz.ok a1 a2 x4 q _ (fun v39=>J_j ?_) (([]:List Int),0))
  refine xG 0 (cs':=[so 2 (File.enc true) a1.Files,iv a1.Budget,iv a1.Writes,iv a1.Stop,bv a1.Down]) (ts:=[2]) rfl (.move (.head _) (List.length_map _) (by decide) (.keep rfl (.keep rfl (.keep rfl (.keep rfl (.nil)))))) ?_
  refine vS [(0,pp 0),(7,rr 3 v39)] [(0,.box (zC.enc true a1)),(3,rE 1 zG v39)] (by kernel_rfl) ?_
  refine zA (fun x40 h41=>?_)
  refine J_g 126 [] [(7,rr 3 v39),(9,iv x40.1)] [(0,.box (zC.enc true x40.2)),(3,rE 1 zG v39)] (zD 1 (wG («as»:=[pp 0]) [(.tmp 42)] [72] false [(0,.box (zC.enc true a1))] [0] (.cons (.pt rfl) (.nil)) (zAq.ok a1) h41 (.same rfl rfl)) zB) ?_
  refine yU 0 (cs':=[rr 4 x40.2.Files,iv x40.2.Budget,iv x40.2.Writes,iv x40.2.Stop,bv x40.2.Down]) (es:=[(4,rE 2 (File.enc true) x40.2.Files)]) rfl (.cons (.own 4) (.cons (.same rfl rfl) (.cons (.same rfl rfl) (.cons (.same rfl rfl) (.cons (.same rfl rfl) (.nil)))))) rfl (by kernel_rfl) (by kernel_rfl) ?_
  refine vS [(7,rr 3 v39),(9,iv x40.1)] [(0,.box [rr 4 x40.2.Files,iv x40.2.Budget,iv x40.2.Writes,iv x40.2.Stop,bv x40.2.Down]),(3,rE 1 zG v39),(4,rE 2 (File.enc true) x40.2.Files)] (by kernel_rfl) ?_
  refine J_d 508 [] [45] [(45,bv (x40.1==0))] [] [] zB ?_
  refine zF 45 (fun h42=>?_) (fun h42=>?_)
  ·refine J_g 2036 [] [(4,nv),(5,iv 4)] [(0,.box [rr 4 x40.2.Files,iv x40.2.Budget,iv x40.2.Writes,iv x40.2.Stop,bv x40.2.Down]),(4,rE 2 (File.enc true) x40.2.Files)] zB ?_
   refine xG 0 (cs':=[so 2 (File.enc true) x40.2.Files,iv x40.2.Budget,iv x40.2.Writes,iv x40.2.Stop,bv x40.2.Down]) (ts:=[4]) rfl (.move (.head _) (List.length_map _) (by decide) (.keep rfl (.keep rfl (.keep rfl (.keep rfl (.nil)))))) ?_
   refine vS [(4,nv),(5,iv 4)] [(0,.box (zC.enc true x40.2))] (by kernel_rfl) ?_
   exact zAM (ds:=[nv,iv 4]) (ds':=[so 1 zG ([]:List Int),iv 4]) (.cons (.cell (.nilsl true 1 (.nil))) (.cons (.cell (.keep rfl (.nil))) (.nil) (by decide)) (by decide)) rfl
  ·refine zA (fun x43 h44=>?_)
   refine J_d 1020 [] [45,49] [(49,bv (!x43))] [] [] (zD 2 (wG («as»:=[rr 3 v39,iv x40.1]) [(.tmp 46),(.tmp 47)] [39,2] true [(3,rE 1 zG v39)] [] (.cons (zDP (.head _) (fun _=>rfl) rfl) (.cons (.same rfl) (.nil))) (yX.ok v39 x40.1) h44 (.same rfl rfl) (hbor:=fun _=>⟨fhN,zT⟩)) zB) ?_
   refine yQ (atI c57 511) (fun v48:(List Int)=>St.mk' [(7,rr 5 v48)] [(0,.box [rr 4 x40.2.Files,iv x40.2.Budget,iv x40.2.Writes,iv x40.2.Stop,bv x40.2.Down]),(4,rE 2 (File.enc true) x40.2.Files),(5,rE 1 zG v48)]) (fun v48=>?_) (fun jv48=>?_)
   ·refine J_g 1022 [] [(4,rr 5 v48),(5,iv 0)] [(0,.box [rr 4 x40.2.Files,iv x40.2.Budget,iv x40.2.Writes,iv x40.2.Stop,bv x40.2.Down]),(4,rE 2 (File.enc true) x40.2.Files),(5,rE 1 zG v48)] zB ?_
    refine xG 0 (cs':=[so 2 (File.enc true) x40.2.Files,iv x40.2.Budget,iv x40.2.Writes,iv x40.2.Stop,bv x40.2.Down]) (ts:=[4]) rfl (.move (.head _) (List.length_map _) (by decide) (.keep rfl (.keep rfl (.keep rfl (.keep rfl (.nil)))))) ?_
    refine vS [(4,rr 5 v48),(5,iv 0)] [(0,.box (zC.enc true x40.2)),(5,rE 1 zG v48)] (by kernel_rfl) ?_
    exact zAM (ds:=[rr 5 v48,iv 0]) (ds':=[so 1 zG v48,iv 0]) (.cons (.cell (.move (.tail _ (.head _)) (List.length_map _) (by decide) (.nil))) (.cons (.cell (.keep rfl (.nil))) (.nil) (by decide)) (by decide)) rfl
   ·refine zF 49 (fun h45=>?_) (fun h45=>?_)
    ·refine zA (fun x46 h47=>?_)
     refine J_d 2042 [] [7,9,49] [(7,rr 5 x46)] [3,5] [(5,rE 1 zG x46)] (zD 2 (wG («as»:=[rr 3 v39,iv x40.1]) [(.tmp 50),(.tmp 51)] [39,2] true [(3,rE 1 zG v39)] [] (.cons (zDP (.head _) (fun _=>rfl) rfl) (.cons (.same rfl) (.nil))) (wX.ok v39 x40.1) h47 (.own 5) (hbor:=fun _=>⟨fhN,(zDU (zEN (fun _=>(flatK zT zDQ)) _))⟩)) zB) ?_
     exact yF (J_j (jv48 x46)) rfl
    ·refine kR 3 5 (Nat.le_of_ble_eq_true rfl) (Nat.le_of_ble_eq_true rfl) ?_
     exact yF (J_j (jv48 v39)) rfl
noncomputable def c58:Code:=(Tryz.f58.body).getD .skip
theorem zAc.ok (a1:zC) (a2:(List Int)) (a3:(List ByteArray)) (x34:(List ByteArray)) (q:Wd) (kn:(List ByteArray)→Option (D×List Ent)) (hk:∀v:(List ByteArray),J (q.g Tryz.prog 58 3 59) c58 (atI c58 127) (St.mk' [(7,rr 4 v)] [(0,.box [rr 6 a1.Files,iv a1.Budget,iv a1.Writes,iv a1.Stop,bv a1.Down]),(1,rE 1 zG a2),(2,rE 1 eStr a3),(4,rE 1 eStr v),(6,rE 2 (File.enc true) a1.Files)]) (some v) kn):
  ∀s47:((List ByteArray)×Int),J (q.g Tryz.prog 58 3 59) c58 (atI c58 1012) (St.mk' [(2,rr 2 a3),(7,rr 4 s47.1),(10,rr 5 x34),(11,iv s47.2)] [(0,.box [rr 6 a1.Files,iv a1.Budget,iv a1.Writes,iv a1.Stop,bv a1.Down]),(1,rE 1 zG a2),(2,rE 1 eStr a3),(4,rE 1 eStr s47.1),(5,rE 1 eStr x34),(6,rE 2 (File.enc true) a1.Files)]) (zAc a1 a2 a3 x34 s47) kn:=by
 refine kP (fun g ih s47=>?_)
 unfold kC
 refine J_d 4048 [] [41] [(41,bv (decide (s47.2< (x34.length:Int))))] [] [] zB ?_
 refine zF 41 (fun h48=>?_) (fun h48=>?_)
 ·refine zA (fun x49 h50=>?_)
  refine zA (fun x51 h52=>?_)
  refine J_d 16200 [] [41,50] [(50,bv (!x51))] [] [] (zD 3 (wM (kk:=.i64) 86 9 1 5 eStr (.tmp 45) (.tmp 46) h50) (zD 4 (jH (d:=sv x49) 9 1 5 0 eStr (.tmp 47) h50 (by kernel_rfl)) (zD 5 (wG («as»:=[rr 2 a3,sv x49]) [(.tmp 44),(.tmp 48)] [86,9] true [(2,rE 1 eStr a3)] [] (.cons (zDP (.head _) (fun _=>rfl) rfl) (.cons (.same rfl) (.nil))) (zA6.ok a3 x49) h52 (.same rfl rfl) (hbor:=fun _=>⟨fhN,zT⟩)) zB))) ?_
  refine yQ (aft c58 8100) (fun v58:(List ByteArray)=>St.mk' [(2,rr 2 a3),(7,rr 8 v58),(10,rr 5 x34),(11,iv s47.2)] [(0,.box [rr 6 a1.Files,iv a1.Budget,iv a1.Writes,iv a1.Stop,bv a1.Down]),(1,rE 1 zG a2),(2,rE 1 eStr a3),(5,rE 1 eStr x34),(6,rE 2 (File.enc true) a1.Files),(8,rE 1 eStr v58)]) (fun v58=>?_) (fun jv58=>?_)
  ·refine J_d 4051 [] [11] [(11,iv (w64 (s47.2+1)))] [] [] zB ?_
   refine kR 8 4 (Nat.le_of_ble_eq_true rfl) (Nat.le_of_ble_eq_true rfl) ?_
   exact J_q (J_b (ih (v58,w64 (s47.2+1)))) rfl
  ·refine zF 50 (fun h53=>?_) (fun h53=>?_)
   ·refine zA (fun x54 h55=>?_)
    refine zA (fun x56 h57=>?_)
    refine J_d 32402 [] [7,50] [(7,rr 8 x56)] [4,8] [(8,rE 1 eStr x56)] (zD 3 (wM (kk:=.i64) 86 9 1 5 eStr (.tmp 52) (.tmp 53) h55) (zD 4 (jH (d:=sv x54) 9 1 5 0 eStr (.tmp 54) h55 (by kernel_rfl)) (zD 5 (zDM 86 9 1 7 eStr [x54] [0] [(.tmp 55)] [sv x54]) (zD 6 (zG4 86 86 9 9 1 16 8 4 7 eStr (.tmp 51) (.tmp 56) h57) zB)))) ?_
    exact yF (J_j (jv58 x56)) rfl
   ·refine kR 4 8 (Nat.le_of_ble_eq_true rfl) (Nat.le_of_ble_eq_true rfl) ?_
    exact yF (J_j (jv58 s47.1)) rfl
 ·exact yF (hk s47.1) rfl
theorem zAl.ok (a1:zC) (a2:(List Int)) (a3:(List ByteArray)) (x4:(List Int)) (q:Wd) (kn:(List ByteArray)→Option (D×List Ent)) (hk:∀v:(List ByteArray),J (q.g Tryz.prog 58 3 59) c58 (atI c58 31) (St.mk' [(0,pp 0),(2,rr 2 a3),(7,rr 4 v)] [(0,.box [rr 6 a1.Files,iv a1.Budget,iv a1.Writes,iv a1.Stop,bv a1.Down]),(1,rE 1 zG a2),(2,rE 1 eStr a3),(4,rE 1 eStr v),(6,rE 2 (File.enc true) a1.Files)]) (some v) kn):
  ∀s19:((List ByteArray)×Int),J (q.g Tryz.prog 58 3 59) c58 (atI c58 244) (St.mk' [(0,pp 0),(1,rr 1 a2),(2,rr 2 a3),(7,rr 4 s19.1),(8,rr 5 x4),(9,iv s19.2)] [(0,.box [rr 6 a1.Files,iv a1.Budget,iv a1.Writes,iv a1.Stop,bv a1.Down]),(1,rE 1 zG a2),(2,rE 1 eStr a3),(4,rE 1 eStr s19.1),(5,rE 1 zG x4),(6,rE 2 (File.enc true) a1.Files)]) (zAl a1 a2 a3 x4 s19) kn:=by
 refine kP (fun g ih s19=>?_)
 unfold kF
 refine J_d 976 [] [18] [(18,bv (decide (s19.2< (x4.length:Int))))] [] [] zB ?_
 refine zF 18 (fun h20=>?_) (fun h20=>?_)
 ·refine zA (fun x21 h22=>?_)
  refine zA (fun x23 h24=>?_)
  refine J_d 3912 [] [18,27] [(27,bv (!x23))] [] [] (zD 3 (wM (kk:=.i64) 39 2 1 5 zG (.tmp 22) (.tmp 23) h22) (zD 4 (jH (d:=iv x21) 2 1 5 0 zG (.tmp 24) h22 (by kernel_rfl)) (zD 5 (wG («as»:=[rr 1 a2,iv x21]) [(.tmp 21),(.tmp 25)] [39,2] true [(1,rE 1 zG a2)] [] (.cons (zDP (.head _) (fun _=>rfl) rfl) (.cons (.same rfl) (.nil))) (yX.ok a2 x21) h24 (.same rfl rfl) (hbor:=fun _=>⟨fhN,zT⟩)) zB))) ?_
  refine yQ (aft c58 1956) (fun v32:(List ByteArray)=>St.mk' [(0,pp 0),(1,rr 1 a2),(2,rr 2 a3),(7,rr 8 v32),(8,rr 5 x4),(9,iv s19.2)] [(0,.box [rr 6 a1.Files,iv a1.Budget,iv a1.Writes,iv a1.Stop,bv a1.Down]),(1,rE 1 zG a2),(2,rE 1 eStr a3),(5,rE 1 zG x4),(6,rE 2 (File.enc true) a1.Files),(8,rE 1 eStr v32)]) (fun v32=>?_) (fun jv32=>?_)
  ·refine J_d 979 [] [9] [(9,iv (w64 (s19.2+1)))] [] [] zB ?_
   refine kR 8 4 (Nat.le_of_ble_eq_true rfl) (Nat.le_of_ble_eq_true rfl) ?_
   exact J_q (J_b (ih (v32,w64 (s19.2+1)))) rfl
  ·refine zF 27 (fun h25=>?_) (fun h25=>?_)
   ·refine zA (fun x26 h27=>?_)
    refine zA (fun x28 h29=>?_)
    refine zA (fun x30 h31=>?_)
    refine J_d 7826 [] [7,27] [(7,rr 8 x30)] [4,8] [(8,rE 1 eStr x30)] (zD 3 (wM (kk:=.i64) 39 2 1 5 zG (.tmp 29) (.tmp 30) h27) (zD 4 (jH (d:=iv x26) 2 1 5 0 zG (.tmp 31) h27 (by kernel_rfl)) (zD 5 (xL [(.tmp 32)] [2] (wH.ok x26) h29) (zD 6 (zDM 86 9 1 7 eStr [x28] [0] [(.tmp 33)] [sv x28]) (zD 7 (zG4 86 86 9 9 1 16 8 4 7 eStr (.tmp 28) (.tmp 34) h31) zB))))) ?_
    exact yF (J_j (jv32 x30)) rfl
   ·refine kR 4 8 (Nat.le_of_ble_eq_true rfl) (Nat.le_of_ble_eq_true rfl) ?_
    exact yF (J_j (jv32 s19.1)) rfl
 ·exact yF (hk s19.1) rfl
theorem jS.ok (a1:zC) (a2:(List Int)) (a3:(List ByteArray)):Ok Tryz.prog 58 [pp 0,rr 1 a2,rr 2 a3] [.box (zC.enc true a1),rE 1 zG a2,rE 1 eStr a3] ((jS a1 a2 a3).map fun r=>(so 1 eStr r,[.box (zC.enc true a1),rE 1 zG a2,rE 1 eStr a3])):=by
 refine zH c58 Tryz.f58 3 59 (fun q=>?_)
 unfold jS
 refine yU 0 (cs':=[rr 3 a1.Files,iv a1.Budget,iv a1.Writes,iv a1.Stop,bv a1.Down]) (es:=[(3,rE 2 (File.enc true) a1.Files)]) rfl (.cons (.own 3) (.cons (.same rfl rfl) (.cons (.same rfl rfl) (.cons (.same rfl rfl) (.cons (.same rfl rfl) (.nil)))))) rfl (by kernel_rfl) (by kernel_rfl) ?_
 refine vS [(0,pp 0),(1,rr 1 a2),(2,rr 2 a3)] [(0,.box [rr 3 a1.Files,iv a1.Budget,iv a1.Writes,iv a1.Stop,bv a1.Down]),(1,rE 1 zG a2),(2,rE 1 eStr a3),(3,rE 2 (File.enc true) a1.Files)] (by kernel_rfl) ?_
 refine J_g 2 [] [(0,pp 0),(1,rr 1 a2),(2,rr 2 a3)] [(0,.box [rr 3 a1.Files,iv a1.Budget,iv a1.Writes,iv a1.Stop,bv a1.Down]),(1,rE 1 zG a2),(2,rE 1 eStr a3),(3,rE 2 (File.enc true) a1.Files)] zB ?_
 refine J_g 6 [] [(0,pp 0),(1,rr 1 a2),(2,rr 2 a3),(7,rr 4 ([]:List ByteArray))] [(0,.box [rr 3 a1.Files,iv a1.Budget,iv a1.Writes,iv a1.Stop,bv a1.Down]),(1,rE 1 zG a2),(2,rE 1 eStr a3),(3,rE 2 (File.enc true) a1.Files),(4,rE 1 eStr ([]:List ByteArray))] (zD 0 (zDM 86 9 1 4 eStr ([]:List ByteArray) [] [] []) zB) ?_
 refine xG 0 (cs':=[so 2 (File.enc true) a1.Files,iv a1.Budget,iv a1.Writes,iv a1.Stop,bv a1.Down]) (ts:=[3]) rfl (.move (.tail _ (.tail _ (.head _))) (List.length_map _) (by decide) (.keep rfl (.keep rfl (.keep rfl (.keep rfl (.nil)))))) ?_
 refine vS [(0,pp 0),(1,rr 1 a2),(2,rr 2 a3),(7,rr 4 ([]:List ByteArray))] [(0,.box (zC.enc true a1)),(1,rE 1 zG a2),(2,rE 1 eStr a3),(4,rE 1 eStr ([]:List ByteArray))] (by kernel_rfl) ?_
 refine zA (fun x4 h5=>?_)
 refine J_g 14 [] [(0,pp 0),(1,rr 1 a2),(2,rr 2 a3),(7,rr 4 ([]:List ByteArray)),(8,rr 5 x4)] [(0,.box (zC.enc true a1)),(1,rE 1 zG a2),(2,rE 1 eStr a3),(4,rE 1 eStr ([]:List ByteArray)),(5,rE 1 zG x4)] (zD 1 (zFL [(0,.box (zC.enc true a1))] [(5,rE 1 zG x4)] (wG («as»:=[pp 0]) [(.tmp 13)] [72] false [(0,.box (zC.enc true a1))] [0] (.cons (.pt rfl) (.nil)) (zEU.ok a1) h5 (.own 5))) zB) ?_
 refine yU 0 (cs':=[rr 6 a1.Files,iv a1.Budget,iv a1.Writes,iv a1.Stop,bv a1.Down]) (es:=[(6,rE 2 (File.enc true) a1.Files)]) rfl (.cons (.own 6) (.cons (.same rfl rfl) (.cons (.same rfl rfl) (.cons (.same rfl rfl) (.cons (.same rfl rfl) (.nil)))))) rfl (by kernel_rfl) (by kernel_rfl) ?_
 refine vS [(0,pp 0),(1,rr 1 a2),(2,rr 2 a3),(7,rr 4 ([]:List ByteArray)),(8,rr 5 x4)] [(0,.box [rr 6 a1.Files,iv a1.Budget,iv a1.Writes,iv a1.Stop,bv a1.Down]),(1,rE 1 zG a2),(2,rE 1 eStr a3),(4,rE 1 eStr ([]:List ByteArray)),(5,rE 1 zG x4),(6,rE 2 (File.enc true) a1.Files)] (by kernel_rfl) ?_
 refine J_d 60 [] [9] [(9,iv 0)] [] [] zB ?_
 refine zEM (zAl.ok a1 a2 a3 x4 q _ (fun v33=>J_j ?_) (([]:List ByteArray),0))
 refine xG 0 (cs':=[so 2 (File.enc true) a1.Files,iv a1.Budget,iv a1.Writes,iv a1.Stop,bv a1.Down]) (ts:=[6]) rfl (.move (.tail _ (.tail _ (.tail _ (.head _)))) (List.length_map _) (by decide) (.keep rfl (.keep rfl (.keep rfl (.keep rfl (.nil)))))) ?_
 refine vS [(0,pp 0),(2,rr 2 a3),(7,rr 4 v33)] [(0,.box (zC.enc true a1)),(1,rE 1 zG a2),(2,rE 1 eStr a3),(4,rE 1 eStr v33)] (by kernel_rfl) ?_
 refine zA (fun x34 h35=>?_)
 refine J_g 62 [] [(2,rr 2 a3),(7,rr 4 v33),(10,rr 5 x34)] [(0,.box (zC.enc true a1)),(1,rE 1 zG a2),(2,rE 1 eStr a3),(4,rE 1 eStr v33),(5,rE 1 eStr x34)] (zD 1 (zFL [(0,.box (zC.enc true a1))] [(5,rE 1 eStr x34)] (wG («as»:=[pp 0,sv (bs [112,107,103,47])]) [(.tmp 36),(.const (.string (bs [112,107,103,47])))] [72,9] false [(0,.box (zC.enc true a1))] [0] (.cons (.pt rfl) (.cons (.same rfl) (.nil))) (zFB.ok a1 (bs [112,107,103,47])) h35 (.own 5))) zB) ?_
 refine yU 0 (cs':=[rr 6 a1.Files,iv a1.Budget,iv a1.Writes,iv a1.Stop,bv a1.Down]) (es:=[(6,rE 2 (File.enc true) a1.Files)]) rfl (.cons (.own 6) (.cons (.same rfl rfl) (.cons (.same rfl rfl) (.cons (.same rfl rfl) (.cons (.same rfl rfl) (.nil)))))) rfl (by kernel_rfl) (by kernel_rfl) ?_
 refine vS [(2,rr 2 a3),(7,rr 4 v33),(10,rr 5 x34)] [(0,.box [rr 6 a1.Files,iv a1.Budget,iv a1.Writes,iv a1.Stop,bv a1.Down]),(1,rE 1 zG a2),(2,rE 1 eStr a3),(4,rE 1 eStr v33),(5,rE 1 eStr x34),(6,rE 2 (File.enc true) a1.Files)] (by kernel_rfl) ?_
 refine J_d 252 [] [11] [(11,iv 0)] [] [] zB ?_
 refine zEM (zAc.ok a1 a2 a3 x34 q _ (fun v59=>J_j ?_) (v33,0))
 refine J_g 254 [] [(6,rr 4 v59)] [(0,.box [rr 6 a1.Files,iv a1.Budget,iv a1.Writes,iv a1.Stop,bv a1.Down]),(1,rE 1 zG a2),(2,rE 1 eStr a3),(4,rE 1 eStr v59),(6,rE 2 (File.enc true) a1.Files)] zB ?_
 refine xG 0 (cs':=[so 2 (File.enc true) a1.Files,iv a1.Budget,iv a1.Writes,iv a1.Stop,bv a1.Down]) (ts:=[6]) rfl (.move (.tail _ (.tail _ (.tail _ (.head _)))) (List.length_map _) (by decide) (.keep rfl (.keep rfl (.keep rfl (.keep rfl (.nil)))))) ?_
 refine vS [(6,rr 4 v59)] [(0,.box (zC.enc true a1)),(1,rE 1 zG a2),(2,rE 1 eStr a3),(4,rE 1 eStr v59)] (by kernel_rfl) ?_
 exact zAM (ds:=[rr 4 v59]) (ds':=[so 1 eStr v59]) (.cons (.cell (.move (.tail _ (.tail _ (.tail _ (.head _)))) (List.length_map _) (by decide) (.nil))) (.nil) (by decide)) rfl
noncomputable def zQy:Code:=(Tryz.f120.body).getD .skip
theorem zB8.ok (a1:zC):Ok Tryz.prog 120 [pp 0] [.box (zC.enc true a1)] ((zB8 a1).map fun r=>(bv r.1,[.box (zC.enc true r.2)])):=by
 refine zH zQy Tryz.f120 1 34 (fun q=>?_)
 unfold zB8
 refine yU 0 (cs':=[rr 1 a1.Files,iv a1.Budget,iv a1.Writes,iv a1.Stop,bv a1.Down]) (es:=[(1,rE 2 (File.enc true) a1.Files)]) rfl (.cons (.own 1) (.cons (.same rfl rfl) (.cons (.same rfl rfl) (.cons (.same rfl rfl) (.cons (.same rfl rfl) (.nil)))))) rfl (by kernel_rfl) (by kernel_rfl) ?_
 refine vS [(0,pp 0)] [(0,.box [rr 1 a1.Files,iv a1.Budget,iv a1.Writes,iv a1.Stop,bv a1.Down]),(1,rE 2 (File.enc true) a1.Files)] (by kernel_rfl) ?_
 refine J_g 2 [] [(0,pp 0)] [(0,.box [rr 1 a1.Files,iv a1.Budget,iv a1.Writes,iv a1.Stop,bv a1.Down]),(1,rE 2 (File.enc true) a1.Files)] zB ?_
 refine J_d 12 [] [6] [(6,bv a1.Down)] [] [] zB ?_
 refine zF 6 (fun h2=>?_) (fun h2=>?_)
 ·refine J_g 52 [] [(2,bv false)] [(0,.box [rr 1 a1.Files,iv a1.Budget,iv a1.Writes,iv a1.Stop,bv a1.Down]),(1,rE 2 (File.enc true) a1.Files)] zB ?_
  refine xG 0 (cs':=[so 2 (File.enc true) a1.Files,iv a1.Budget,iv a1.Writes,iv a1.Stop,bv a1.Down]) (ts:=[1]) rfl (.move (.head _) (List.length_map _) (by decide) (.keep rfl (.keep rfl (.keep rfl (.keep rfl (.nil)))))) ?_
  refine vS [(2,bv false)] [(0,.box (zC.enc true a1))] (by kernel_rfl) ?_
  exact zR rfl
 ·refine yQ (atI zQy 29) (fun v4:Bool=>St.mk' [(0,pp 0),(22,bv v4)] [(0,.box [rr 1 a1.Files,iv a1.Budget,iv a1.Writes,iv a1.Stop,bv a1.Down]),(1,rE 2 (File.enc true) a1.Files)]) (fun v4=>?_) (fun jv4=>?_)
  ·refine zF 22 (fun h5=>?_) (fun h5=>?_)
   ·refine J_g 116 [] [] [(0,.box [rr 1 a1.Files,iv a1.Budget,iv a1.Writes,iv a1.Stop,bv true]),(1,rE 2 (File.enc true) a1.Files)] zB ?_
    refine J_g 234 [] [(2,bv false)] [(0,.box [rr 1 a1.Files,iv a1.Budget,iv a1.Writes,iv a1.Stop,bv true]),(1,rE 2 (File.enc true) a1.Files)] zB ?_
    refine xG 0 (cs':=[so 2 (File.enc true) a1.Files,iv a1.Budget,iv a1.Writes,iv a1.Stop,bv true]) (ts:=[1]) rfl (.move (.head _) (List.length_map _) (by decide) (.keep rfl (.keep rfl (.keep rfl (.keep rfl (.nil)))))) ?_
    refine vS [(2,bv false)] [(0,.box [so 2 (File.enc true) a1.Files,iv a1.Budget,iv a1.Writes,iv a1.Stop,bv true])] (by kernel_rfl) ?_
    exact zR rfl
   ·refine J_g 30 [] [] [(0,.box [rr 1 a1.Files,iv a1.Budget,iv (w64 (a1.Writes+1)),iv a1.Stop,bv a1.Down]),(1,rE 2 (File.enc true) a1.Files)] zB ?_
    refine J_g 62 [] [(2,bv true)] [(0,.box [rr 1 a1.Files,iv a1.Budget,iv (w64 (a1.Writes+1)),iv a1.Stop,bv a1.Down]),(1,rE 2 (File.enc true) a1.Files)] zB ?_
    refine xG 0 (cs':=[so 2 (File.enc true) a1.Files,iv a1.Budget,iv (w64 (a1.Writes+1)),iv a1.Stop,bv a1.Down]) (ts:=[1]) rfl (.move (.head _) (List.length_map _) (by decide) (.keep rfl (.keep rfl (.keep rfl (.keep rfl (.nil)))))) ?_
    refine vS [(2,bv true)] [(0,.box [so 2 (File.enc true) a1.Files,iv a1.Budget,iv (w64 (a1.Writes+1)),iv a1.Stop,bv a1.Down])] (by kernel_rfl) ?_
    exact zR rfl
  ·refine wJ (fun h3=>?_) (fun h3=>?_)
   ·refine J_d 28 [] [6,22] [(22,bv (decide (a1.Writes≥a1.Stop)))] [] [] (xU 5 [(11,bv (a1.Stop !=(-1)))] [] h3 zB) ?_
    exact yF (J_j (jv4 (decide (a1.Writes≥a1.Stop)))) rfl
   ·refine J_d 28 [] [6,22] [(22,bv false)] [] [] (xU 5 [(11,bv (a1.Stop !=(-1)))] [] h3 zB) ?_
    exact yF (J_j (jv4 false)) rfl
noncomputable def c59:Code:=(Tryz.f59.body).getD .skip
theorem zBv.ok (a1:zC) (a2:ByteArray):Ok Tryz.prog 59 [pp 0,sv a2] [.box (zC.enc true a1)] ((zBv a1 a2).map fun r=>(bv r.1,[.box [so 2 (File.enc false) r.2.Files,iv r.2.Budget,iv r.2.Writes,iv r.2.Stop,bv r.2.Down]])):=by
 refine zH c59 Tryz.f59 1 31 (fun q=>?_)
 unfold zBv
 refine yU 0 (cs':=[rr 1 a1.Files,iv a1.Budget,iv a1.Writes,iv a1.Stop,bv a1.Down]) (es:=[(1,rE 2 (File.enc true) a1.Files)]) rfl (.cons (.own 1) (.cons (.same rfl rfl) (.cons (.same rfl rfl) (.cons (.same rfl rfl) (.cons (.same rfl rfl) (.nil)))))) rfl (by kernel_rfl) (by kernel_rfl) ?_
 refine vS [(0,pp 0),(1,sv a2)] [(0,.box [rr 1 a1.Files,iv a1.Budget,iv a1.Writes,iv a1.Stop,bv a1.Down]),(1,rE 2 (File.enc true) a1.Files)] (by kernel_rfl) ?_
 refine J_g 2 [] [(0,pp 0),(1,sv a2)] [(0,.box [rr 1 a1.Files,iv a1.Budget,iv a1.Writes,iv a1.Stop,bv a1.Down]),(1,rE 2 (File.enc true) a1.Files)] zB ?_
 refine xG 0 (cs':=[so 2 (File.enc true) a1.Files,iv a1.Budget,iv a1.Writes,iv a1.Stop,bv a1.Down]) (ts:=[1]) rfl (.move (.head _) (List.length_map _) (by decide) (.keep rfl (.keep rfl (.keep rfl (.keep rfl (.nil)))))) ?_
 refine vS [(0,pp 0),(1,sv a2)] [(0,.box (zC.enc true a1))] (by kernel_rfl) ?_
 refine zA (fun x3 h4=>?_)
 refine J_g 12 [] [(0,pp 0),(1,sv a2),(8,bv (!x3.1))] [(0,.box (zC.enc true x3.2))] (zD 1 (wG («as»:=[pp 0]) [(.tmp 6)] [72] false [(0,.box (zC.enc true a1))] [0] (.cons (.pt rfl) (.nil)) (zB8.ok a1) h4 (.same rfl rfl)) zB) ?_
 refine yU 0 (cs':=[rr 1 x3.2.Files,iv x3.2.Budget,iv x3.2.Writes,iv x3.2.Stop,bv x3.2.Down]) (es:=[(1,rE 2 (File.enc true) x3.2.Files)]) rfl (.cons (.own 1) (.cons (.same rfl rfl) (.cons (.same rfl rfl) (.cons (.same rfl rfl) (.cons (.same rfl rfl) (.nil)))))) rfl (by kernel_rfl) (by kernel_rfl) ?_
 refine vS [(0,pp 0),(1,sv a2),(8,bv (!x3.1))] [(0,.box [rr 1 x3.2.Files,iv x3.2.Budget,iv x3.2.Writes,iv x3.2.Stop,bv x3.2.Down]),(1,rE 2 (File.enc true) x3.2.Files)] (by kernel_rfl) ?_
 refine zF 8 (fun h5=>?_) (fun h5=>?_)
 ·refine J_g 52 [] [(4,bv false)] [(0,.box [rr 1 x3.2.Files,iv x3.2.Budget,iv x3.2.Writes,iv x3.2.Stop,bv x3.2.Down]),(1,rE 2 (File.enc true) x3.2.Files)] zB ?_
  refine vS [(4,bv false)] [(1,rE 2 (File.enc true) x3.2.Files),(0,.box [rr 1 x3.2.Files,iv x3.2.Budget,iv x3.2.Writes,iv x3.2.Stop,bv x3.2.Down])] (by kernel_rfl) ?_
  refine zOO 1 (zEg (enc:=(File.enc true)) (enc':=(File.enc false)) (File.ro true) _) ?_
  refine vS [(4,bv false)] [(0,.box [rr 1 x3.2.Files,iv x3.2.Budget,iv x3.2.Writes,iv x3.2.Stop,bv x3.2.Down]),(1,rE 2 (File.enc false) x3.2.Files)] (by kernel_rfl) ?_
  refine xG 0 (cs':=[so 2 (File.enc false) x3.2.Files,iv x3.2.Budget,iv x3.2.Writes,iv x3.2.Stop,bv x3.2.Down]) (ts:=[1]) rfl (.move (.head _) (List.length_map _) (by decide) (.keep rfl (.keep rfl (.keep rfl (.keep rfl (.nil)))))) ?_
  refine vS [(4,bv false)] [(0,.box [so 2 (File.enc false) x3.2.Files,iv x3.2.Budget,iv x3.2.Writes,iv x3.2.Stop,bv x3.2.Down])] (by kernel_rfl) ?_
  exact zR rfl
 ·refine xG 0 (cs':=[so 2 (File.enc true) x3.2.Files,iv x3.2.Budget,iv x3.2.Writes,iv x3.2.Stop,bv x3.2.Down]) (ts:=[1]) rfl (.move (.head _) (List.length_map _) (by decide) (.keep rfl (.keep rfl (.keep rfl (.keep rfl (.nil)))))) ?_
  refine vS [(0,pp 0),(1,sv a2),(8,bv false)] [(0,.box (zC.enc true x3.2))] (by kernel_rfl) ?_
  refine zA (fun x6 h7=>?_)
  refine J_g 14 [] [(0,pp 0),(5,iv x6)] [(0,.box (zC.enc true x3.2))] (zD 2 (zFL [(0,.box (zC.enc true x3.2))] [] (wG («as»:=[pp 0,sv a2]) [(.tmp 9),(.tmp 10)] [72,9] false [(0,.box (zC.enc true x3.2))] [0] (.cons (.pt rfl) (.cons (.same rfl) (.nil))) (zG2.ok x3.2 a2) h7 (.same rfl rfl))) zB) ?_
  refine yU 0 (cs':=[rr 1 x3.2.Files,iv x3.2.Budget,iv x3.2.Writes,iv x3.2.Stop,bv x3.2.Down]) (es:=[(1,rE 2 (File.enc true) x3.2.Files)]) rfl (.cons (.own 1) (.cons (.same rfl rfl) (.cons (.same rfl rfl) (.cons (.same rfl rfl) (.cons (.same rfl rfl) (.nil)))))) rfl (by kernel_rfl) (by kernel_rfl) ?_
  refine vS [(0,pp 0),(5,iv x6)] [(0,.box [rr 1 x3.2.Files,iv x3.2.Budget,iv x3.2.Writes,iv x3.2.Stop,bv x3.2.Down]),(1,rE 2 (File.enc true) x3.2.Files)] (by kernel_rfl) ?_
  refine zA (fun x8 h9=>?_)
  refine vS [(0,pp 0),(5,iv x6)] [(1,rE 2 (File.enc true) x3.2.Files),(0,.box [rr 1 x3.2.Files,iv x3.2.Budget,iv x3.2.Writes,iv x3.2.Stop,bv x3.2.Down])] (by kernel_rfl) ?_
  refine zOO 1 (zEg (enc:=(File.enc true)) (enc':=(File.enc false)) (File.ro true) _) ?_
  refine vS [(0,pp 0),(5,iv x6)] [(0,.box [rr 1 x3.2.Files,iv x3.2.Budget,iv x3.2.Writes,iv x3.2.Stop,bv x3.2.Down]),(1,rE 2 (File.enc false) x3.2.Files)] (by kernel_rfl) ?_
  refine zA (fun x10 h11=>?_)
  refine zA (fun x12 h13=>?_)
  refine zA (fun x14 h15=>?_)
  refine J_g 30 [] [] [(0,.box [rr 4 x14,iv x3.2.Budget,iv x3.2.Writes,iv x3.2.Stop,bv x3.2.Down]),(4,rE 2 (File.enc false) x14)] (zD 1 (zDM 31 138 2 2 (File.enc false) ([]:List File) [] [] []) (zD 7 (zII 31 138 2 1 (File.enc false) (.tmp 17) none (some (.tmp 18)) h9) (zD 8 (zN7 (ys:=x3.2.Files) (l:=0) (hi:=x6) 31 31 138 138 2 40 3 2 1 (File.enc false) (.tmp 13) (.tmp 19) h9 h11) (zD 15 (zII 31 138 2 1 (File.enc false) (.tmp 24) (some (.tmp 26)) none h13) (zD 16 (zN7 (ys:=x3.2.Files) (l:=w64 (x6+1)) (hi:=(x3.2.Files.length:Int)) 31 31 138 138 2 40 4 3 1 (File.enc false) (.tmp 20) (.tmp 27) h13 h15) zB))))) ?_
  refine J_g 62 [] [(4,bv true)] [(0,.box [rr 4 x14,iv x3.2.Budget,iv x3.2.Writes,iv x3.2.Stop,bv x3.2.Down]),(4,rE 2 (File.enc false) x14)] zB ?_
  refine xG 0 (cs':=[so 2 (File.enc false) x14,iv x3.2.Budget,iv x3.2.Writes,iv x3.2.Stop,bv x3.2.Down]) (ts:=[4]) rfl (.move (.head _) (List.length_map _) (by decide) (.keep rfl (.keep rfl (.keep rfl (.keep rfl (.nil)))))) ?_
  refine vS [(4,bv true)] [(0,.box [so 2 (File.enc false) x14,iv x3.2.Budget,iv x3.2.Writes,iv x3.2.Stop,bv x3.2.Down])] (by kernel_rfl) ?_
  exact zR rfl
theorem zIC.ok (a1:zC):Ok Tryz.prog 120 [pp 0] [.box [so 2 (File.enc false) a1.Files,iv a1.Budget,iv a1.Writes,iv a1.Stop,bv a1.Down]] ((zB8 a1).map fun r=>(bv r.1,[.box [so 2 (File.enc false) r.2.Files,iv r.2.Budget,iv r.2.Writes,iv r.2.Stop,bv r.2.Down]])):=by
 refine zH zQy Tryz.f120 1 34 (fun q=>?_)
 unfold zB8
 refine yU 0 (cs':=[rr 1 a1.Files,iv a1.Budget,iv a1.Writes,iv a1.Stop,bv a1.Down]) (es:=[(1,rE 2 (File.enc false) a1.Files)]) rfl (.cons (.own 1) (.cons (.same rfl rfl) (.cons (.same rfl rfl) (.cons (.same rfl rfl) (.cons (.same rfl rfl) (.nil)))))) rfl (by kernel_rfl) (by kernel_rfl) ?_
 refine vS [(0,pp 0)] [(0,.box [rr 1 a1.Files,iv a1.Budget,iv a1.Writes,iv a1.Stop,bv a1.Down]),(1,rE 2 (File.enc false) a1.Files)] (by kernel_rfl) ?_
 refine J_g 2 [] [(0,pp 0)] [(0,.box [rr 1 a1.Files,iv a1.Budget,iv a1.Writes,iv a1.Stop,bv a1.Down]),(1,rE 2 (File.enc false) a1.Files)] zB ?_
 refine J_d 12 [] [6] [(6,bv a1.Down)] [] [] zB ?_
 refine zF 6 (fun h2=>?_) (fun h2=>?_)
 ·refine J_g 52 [] [(2,bv false)] [(0,.box [rr 1 a1.Files,iv a1.Budget,iv a1.Writes,iv a1.Stop,bv a1.Down]),(1,rE 2 (File.enc false) a1.Files)] zB ?_
  refine xG 0 (cs':=[so 2 (File.enc false) a1.Files,iv a1.Budget,iv a1.Writes,iv a1.Stop,bv a1.Down]) (ts:=[1]) rfl (.move (.head _) (List.length_map _) (by decide) (.keep rfl (.keep rfl (.keep rfl (.keep rfl (.nil)))))) ?_
  refine vS [(2,bv false)] [(0,.box [so 2 (File.enc false) a1.Files,iv a1.Budget,iv a1.Writes,iv a1.Stop,bv a1.Down])] (by kernel_rfl) ?_
  exact zR rfl
 ·refine yQ (atI zQy 29) (fun v4:Bool=>St.mk' [(0,pp 0),(22,bv v4)] [(0,.box [rr 1 a1.Files,iv a1.Budget,iv a1.Writes,iv a1.Stop,bv a1.Down]),(1,rE 2 (File.enc false) a1.Files)]) (fun v4=>?_) (fun jv4=>?_)
  ·refine zF 22 (fun h5=>?_) (fun h5=>?_)
   ·refine J_g 116 [] [] [(0,.box [rr 1 a1.Files,iv a1.Budget,iv a1.Writes,iv a1.Stop,bv true]),(1,rE 2 (File.enc false) a1.Files)] zB ?_
    refine J_g 234 [] [(2,bv false)] [(0,.box [rr 1 a1.Files,iv a1.Budget,iv a1.Writes,iv a1.Stop,bv true]),(1,rE 2 (File.enc false) a1.Files)] zB ?_
    refine xG 0 (cs':=[so 2 (File.enc false) a1.Files,iv a1.Budget,iv a1.Writes,iv a1.Stop,bv true]) (ts:=[1]) rfl (.move (.head _) (List.length_map _) (by decide) (.keep rfl (.keep rfl (.keep rfl (.keep rfl (.nil)))))) ?_
    refine vS [(2,bv false)] [(0,.box [so 2 (File.enc false) a1.Files,iv a1.Budget,iv a1.Writes,iv a1.Stop,bv true])] (by kernel_rfl) ?_
    exact zR rfl
   ·refine J_g 30 [] [] [(0,.box [rr 1 a1.Files,iv a1.Budget,iv (w64 (a1.Writes+1)),iv a1.Stop,bv a1.Down]),(1,rE 2 (File.enc false) a1.Files)] zB ?_
    refine J_g 62 [] [(2,bv true)] [(0,.box [rr 1 a1.Files,iv a1.Budget,iv (w64 (a1.Writes+1)),iv a1.Stop,bv a1.Down]),(1,rE 2 (File.enc false) a1.Files)] zB ?_
    refine xG 0 (cs':=[so 2 (File.enc false) a1.Files,iv a1.Budget,iv (w64 (a1.Writes+1)),iv a1.Stop,bv a1.Down]) (ts:=[1]) rfl (.move (.head _) (List.length_map _) (by decide) (.keep rfl (.keep rfl (.keep rfl (.keep rfl (.nil)))))) ?_
    refine vS [(2,bv true)] [(0,.box [so 2 (File.enc false) a1.Files,iv a1.Budget,iv (w64 (a1.Writes+1)),iv a1.Stop,bv a1.Down])] (by kernel_rfl) ?_
    exact zR rfl
  ·refine wJ (fun h3=>?_) (fun h3=>?_)
   ·refine J_d 28 [] [6,22] [(22,bv (decide (a1.Writes≥a1.Stop)))] [] [] (xU 5 [(11,bv (a1.Stop !=(-1)))] [] h3 zB) ?_
    exact yF (J_j (jv4 (decide (a1.Writes≥a1.Stop)))) rfl
   ·refine J_d 28 [] [6,22] [(22,bv false)] [] [] (xU 5 [(11,bv (a1.Stop !=(-1)))] [] h3 zB) ?_
    exact yF (J_j (jv4 false)) rfl
theorem zGl.ok (a1:zC) (a2:ByteArray) (q:Wd) (kn:Unit→Option (D×List Ent)) (hk:∀v:Unit,J (q.g Tryz.prog 54 1 26) c54 (atI c54 7) (St.mk' [] [(0,.box [rr 1 a1.Files,iv a1.Budget,iv a1.Writes,iv a1.Stop,bv a1.Down]),(1,rE 2 (File.enc false) a1.Files)]) (some v) kn):
  ∀s7:Int,J (q.g Tryz.prog 54 1 26) c54 (atI c54 52) (St.mk' [(0,pp 0),(1,sv a2),(5,iv s7)] [(0,.box [rr 1 a1.Files,iv a1.Budget,iv a1.Writes,iv a1.Stop,bv a1.Down]),(1,rE 2 (File.enc false) a1.Files)]) (zAW a1 a2 s7) (Fl.go (fun r:Int=>some (iv r,[.box [so 2 (File.enc false) a1.Files,iv a1.Budget,iv a1.Writes,iv a1.Stop,bv a1.Down]])) kn):=by
 refine kP (fun g ih s7=>?_)
 unfold zAj
 refine J_d 208 [] [12] [(12,bv (decide (s7< (a1.Files.length:Int))))] [] [] zB ?_
 refine zF 12 (fun h8=>?_) (fun h8=>?_)
 ·refine zA (fun x9 h10=>?_)
  refine J_d 840 [] [12,24] [(24,bv (seq x9.Path a2))] [] [] (zD 5 (wM (kk:=.i64) 31 138 2 1 (File.enc false) (.tmp 18) (.tmp 19) h10) (zD 7 (jH (d:=sv x9.Path) 9 2 1 0 (File.enc false) (.tmp 21) h10 (by kernel_rfl)) zB)) ?_
  refine zF 24 (fun h11=>?_) (fun h11=>?_)
  ·refine J_g 3364 [] [(4,iv s7)] [(0,.box [rr 1 a1.Files,iv a1.Budget,iv a1.Writes,iv a1.Stop,bv a1.Down]),(1,rE 2 (File.enc false) a1.Files)] zB ?_
   refine xG 0 (cs':=[so 2 (File.enc false) a1.Files,iv a1.Budget,iv a1.Writes,iv a1.Stop,bv a1.Down]) (ts:=[1]) rfl (.move (.head _) (List.length_map _) (by decide) (.keep rfl (.keep rfl (.keep rfl (.keep rfl (.nil)))))) ?_
   refine vS [(4,iv s7)] [(0,.box [so 2 (File.enc false) a1.Files,iv a1.Budget,iv a1.Writes,iv a1.Stop,bv a1.Down])] (by kernel_rfl) ?_
   exact zR rfl
  ·refine J_d 211 [] [5,24] [(5,iv (w64 (s7+1)))] [] [] zB ?_
   exact J_q (J_b (ih (w64 (s7+1)))) rfl
 ·exact yF (hk ()) rfl
theorem zH9.ok (a1:zC) (a2:ByteArray):Ok Tryz.prog 54 [pp 0,sv a2] [.box [so 2 (File.enc false) a1.Files,iv a1.Budget,iv a1.Writes,iv a1.Stop,bv a1.Down]] ((yK a1 a2).map fun r=>(iv r,[.box [so 2 (File.enc false) a1.Files,iv a1.Budget,iv a1.Writes,iv a1.Stop,bv a1.Down]])):=by
 refine zH c54 Tryz.f54 1 26 (fun q=>?_)
 unfold yK
 refine yU 0 (cs':=[rr 1 a1.Files,iv a1.Budget,iv a1.Writes,iv a1.Stop,bv a1.Down]) (es:=[(1,rE 2 (File.enc false) a1.Files)]) rfl (.cons (.own 1) (.cons (.same rfl rfl) (.cons (.same rfl rfl) (.cons (.same rfl rfl) (.cons (.same rfl rfl) (.nil)))))) rfl (by kernel_rfl) (by kernel_rfl) ?_
 refine vS [(0,pp 0),(1,sv a2)] [(0,.box [rr 1 a1.Files,iv a1.Budget,iv a1.Writes,iv a1.Stop,bv a1.Down]),(1,rE 2 (File.enc false) a1.Files)] (by kernel_rfl) ?_
 refine J_g 2 [] [(0,pp 0),(1,sv a2)] [(0,.box [rr 1 a1.Files,iv a1.Budget,iv a1.Writes,iv a1.Stop,bv a1.Down]),(1,rE 2 (File.enc false) a1.Files)] zB ?_
 refine J_d 12 [] [5] [(5,iv 0)] [] [] zB ?_
 refine vU (K0:=(fun r:Int=>some (iv r,[.box [so 2 (File.enc false) a1.Files,iv a1.Budget,iv a1.Writes,iv a1.Stop,bv a1.Down]]))) (fun _=>rfl) (zGl.ok a1 a2 q _ (fun v12=>J_j ?_) 0)
 refine J_g 14 [] [(4,iv (-1))] [(0,.box [rr 1 a1.Files,iv a1.Budget,iv a1.Writes,iv a1.Stop,bv a1.Down]),(1,rE 2 (File.enc false) a1.Files)] zB ?_
 refine xG 0 (cs':=[so 2 (File.enc false) a1.Files,iv a1.Budget,iv a1.Writes,iv a1.Stop,bv a1.Down]) (ts:=[1]) rfl (.move (.head _) (List.length_map _) (by decide) (.keep rfl (.keep rfl (.keep rfl (.keep rfl (.nil)))))) ?_
 refine vS [(4,iv (-1))] [(0,.box [so 2 (File.enc false) a1.Files,iv a1.Budget,iv a1.Writes,iv a1.Stop,bv a1.Down])] (by kernel_rfl) ?_
 exact zR rfl
end Go.Told

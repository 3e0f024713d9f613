import Derived.Test.YtobkkecdnlecgaaGreatDoorToldRollbackTo
import Derived.Test.YtobkkecdnlecgaaGreatDoorShelfRollbackTo
import Derived.Test.YtobkkecdnlecgaaGreatDoorProg
import Derived.Deep.LoopGhost
import Derived.Deep.RegionLaw
import Derived.Laws.Externs
import Derived.Laws.IdiomCopy
import Derived.Laws.NewBlocks
import Derived.Lib.AppendZeros
import Derived.Lib.AppendZerosOnto
import Derived.Lib.JoinLaws
import Derived.Lib.Overlaps
import Derived.Lib.SliceRun
import Derived.Lib.SlicesDelete
import Derived.Lib.Walk
import Derived.Shelf.Lays2
import Derived.Shelf.RegionOpenPlain
import Derived.Shelf.Spec.SlicesInsert
import Derived.Sort.WalkB12
import Derived.WalkKit
set_option linter.unusedVariables false
set_option maxRecDepth 4000
namespace Go.Told
open Go Go.Im Go.Proofs
noncomputable def c109:Code:=(Tryz.f109.body).getD .skip
theorem zBj.ok (a1:(List ByteArray)) (q:Wd) (kn:Int→Option (D×List Ent)) (hk:∀v:Int,J (q.g Tryz.prog 109 0 28) c109 (atI c109 31) (St.mk' [(1,iv v)] []) (some v) kn):
  ∀s8:(Int×Int),J (q.g Tryz.prog 109 0 28) c109 (atI c109 244) (St.mk' [(0,sl 1 eStr a1),(1,iv s8.1),(5,iv s8.2)] []) (zBj a1 s8) (Fl.go (fun r:Int=>some (iv r,[])) kn):=by
 refine kQ (fun g ih s8=>?_)
 unfold zA6
 refine J_d 976 [] [15] [(15,bv (decide (s8.2< (a1.length:Int))))] [] [] zB ?_
 refine zD 15 (fun h9=>?_) (fun h9=>?_)
 ·refine zA (fun x10 h11=>?_)
  refine J_g 3912 [] [(0,sl 1 eStr a1),(1,iv (w64 (s8.1-(x10.size:Int)))),(5,iv s8.2)] [] (zF 3 (tL (kk:=.i64) 86 9 1 eStr (.tmp 19) (.tmp 20) h11) zB) ?_
  refine J_d 7826 [] [26] [(26,bv (decide ((w64 (s8.1-(x10.size:Int)))<0)))] [] [] zB ?_
  refine zD 26 (fun h12=>?_) (fun h12=>?_)
  ·refine J_g 31308 [] [(4,iv (-1))] [] zB ?_
   exact zN rfl
  ·refine J_d 979 [] [5,26] [(5,iv (w64 (s8.2+1)))] [] [] zB ?_
   exact J_q (J_b (ih (w64 (s8.1-(x10.size:Int)),w64 (s8.2+1)))) rfl
 ·exact xA (hk s8.1) rfl
theorem zAS.ok (a1:(List ByteArray)) (a2:Int):Ok Tryz.prog 109 [sl 1 eStr a1,iv a2] [] ((zAS a1 a2).map fun r=>(iv r,[])):=by
 refine zG c109 Tryz.f109 0 28 (fun q=>?_)
 unfold zAS
 refine J_g 2 [] [(0,sl 1 eStr a1),(1,iv a2)] [] zB ?_
 refine J_g 6 [] [(0,sl 1 eStr a1),(1,iv (w64 (a2-(a1.length:Int))))] [] zB ?_
 refine J_d 28 [] [11] [(11,bv (decide ((w64 (a2-(a1.length:Int)))<0)))] [] [] zB ?_
 refine zD 11 (fun h3=>?_) (fun h3=>?_)
 ·refine J_g 116 [] [(4,iv (-1))] [] zB ?_
  exact zN rfl
 ·refine J_d 60 [] [5,11] [(5,iv 0)] [] [] zB ?_
  refine uR (K0:=(fun r:Int=>some (iv r,[]))) (fun _=>rfl) (zBj.ok a1 q _ (fun v13=>J_j ?_) (w64 (a2-(a1.length:Int)),0))
  refine J_g 62 [] [(4,iv v13)] [] zB ?_
  exact zN rfl
noncomputable def zRO:Code:=(Tryz.f195.body).getD .skip
theorem zDy.ok (a1:Term) (a2:Int):Ok Tryz.prog 195 [.ag (Term.enc a1),iv a2] [] ((zDy a1 a2).map fun r=>(iv r,[])):=by
 refine zG zRO Tryz.f195 0 13 (fun q=>?_)
 unfold zDy
 refine J_g 2 [(0,0)] [(1,iv a2),(2,pp 0)] [(0,.box (Term.enc a1))] zB ?_
 refine J_g 6 [] [(1,iv (w64 (a2-(a1.Name.size:Int))))] [] zB ?_
 refine J_d 28 [] [11] [(11,bv (decide ((w64 (a2-(a1.Name.size:Int)))<0)))] [] [] zB ?_
 refine zD 11 (fun h3=>?_) (fun h3=>?_)
 ·refine J_g 116 [] [(4,iv (-1))] [] zB ?_
  exact zN rfl
 ·refine J_g 30 [] [(4,iv (w64 (a2-(a1.Name.size:Int))))] [] zB ?_
  exact zN rfl
noncomputable def zQB:Code:=(Tryz.f111.body).getD .skip
theorem zCE.ok (a1:(List Term)) (q:Wd) (kn:Int→Option (D×List Ent)) (hk:∀v:Int,J (q.g Tryz.prog 111 0 27) zQB (atI zQB 31) (St.mk' [(1,iv v)] []) (some v) kn):
  ∀s10:(Int×Int),J (q.g Tryz.prog 111 0 27) zQB (atI zQB 244) (St.mk' [(0,sl 7 Term.enc a1),(1,iv s10.1),(5,iv s10.2)] []) (zCE a1 s10) (Fl.go (fun r:Int=>some (iv r,[])) kn):=by
 refine kQ (fun g ih s10=>?_)
 unfold zBG
 refine J_d 976 [] [15] [(15,bv (decide (s10.2< (a1.length:Int))))] [] [] zB ?_
 refine zD 15 (fun h11=>?_) (fun h11=>?_)
 ·refine zA (fun x12 h13=>?_)
  refine zA (fun x14 h15=>?_)
  refine J_g 3912 [] [(0,sl 7 Term.enc a1),(1,iv x14),(5,iv s10.2)] [] (zF 2 (tL (kk:=.i64) 88 224 7 Term.enc (.tmp 18) (.tmp 19) h13) (zF 5 (xU [(.tmp 21),(.tmp 22)] [224,3] (zDy.ok x12 s10.1) h15) zB)) ?_
  refine J_d 7826 [] [25] [(25,bv (decide (x14<0)))] [] [] zB ?_
  refine zD 25 (fun h16=>?_) (fun h16=>?_)
  ·refine J_g 31308 [] [(4,iv (-1))] [] zB ?_
   exact zN rfl
  ·refine J_d 979 [] [5,25] [(5,iv (w64 (s10.2+1)))] [] [] zB ?_
   exact J_q (J_b (ih (x14,w64 (s10.2+1)))) rfl
 ·exact xA (hk s10.1) rfl
theorem zAB.ok (a1:(List Term)) (a2:Int):Ok Tryz.prog 111 [sl 7 Term.enc a1,iv a2] [] ((zAB a1 a2).map fun r=>(iv r,[])):=by
 refine zG zQB Tryz.f111 0 27 (fun q=>?_)
 unfold zAB
 refine J_g 2 [] [(0,sl 7 Term.enc a1),(1,iv a2)] [] zB ?_
 refine J_g 6 [] [(0,sl 7 Term.enc a1),(1,iv (w64 (a2-(a1.length:Int))))] [] zB ?_
 refine J_d 28 [] [11] [(11,bv (decide ((w64 (a2-(a1.length:Int)))<0)))] [] [] zB ?_
 refine zD 11 (fun h3=>?_) (fun h3=>?_)
 ·refine J_g 116 [] [(4,iv (-1))] [] zB ?_
  exact zN rfl
 ·refine J_d 60 [] [5,11] [(5,iv 0)] [] [] zB ?_
  refine uR (K0:=(fun r:Int=>some (iv r,[]))) (fun _=>rfl) (zCE.ok a1 q _ (fun v17=>J_j ?_) (w64 (a2-(a1.length:Int)),0))
  refine J_g 62 [] [(4,iv v17)] [] zB ?_
  exact zN rfl
noncomputable def zPZ:Code:=(Tryz.f110.body).getD .skip
theorem zBJ.ok (a1:(List (List Term))) (q:Wd) (kn:Int→Option (D×List Ent)) (hk:∀v:Int,J (q.g Tryz.prog 110 0 27) zPZ (atI zPZ 31) (St.mk' [(1,iv v)] []) (some v) kn):
  ∀s10:(Int×Int),J (q.g Tryz.prog 110 0 27) zPZ (atI zPZ 244) (St.mk' [(0,sl 1 (eSl false 7 Term.enc) a1),(1,iv s10.1),(5,iv s10.2)] []) (zBJ a1 s10) (Fl.go (fun r:Int=>some (iv r,[])) kn):=by
 refine kQ (fun g ih s10=>?_)
 unfold zBb
 refine J_d 976 [] [15] [(15,bv (decide (s10.2< (a1.length:Int))))] [] [] zB ?_
 refine zD 15 (fun h11=>?_) (fun h11=>?_)
 ·refine zA (fun x12 h13=>?_)
  refine zA (fun x14 h15=>?_)
  refine J_g 3912 [] [(0,sl 1 (eSl false 7 Term.enc) a1),(1,iv x14),(5,iv s10.2)] [] (zF 2 (tL (kk:=.i64) 87 88 1 (eSl false 7 Term.enc) (.tmp 18) (.tmp 19) h13) (zF 5 (xU [(.tmp 21),(.tmp 22)] [88,3] (zAB.ok x12 s10.1) h15) zB)) ?_
  refine J_d 7826 [] [25] [(25,bv (decide (x14<0)))] [] [] zB ?_
  refine zD 25 (fun h16=>?_) (fun h16=>?_)
  ·refine J_g 31308 [] [(4,iv (-1))] [] zB ?_
   exact zN rfl
  ·refine J_d 979 [] [5,25] [(5,iv (w64 (s10.2+1)))] [] [] zB ?_
   exact J_q (J_b (ih (x14,w64 (s10.2+1)))) rfl
 ·exact xA (hk s10.1) rfl
theorem zB2.ok (a1:(List (List Term))) (a2:Int):Ok Tryz.prog 110 [sl 1 (eSl false 7 Term.enc) a1,iv a2] [] ((zB2 a1 a2).map fun r=>(iv r,[])):=by
 refine zG zPZ Tryz.f110 0 27 (fun q=>?_)
 unfold zB2
 refine J_g 2 [] [(0,sl 1 (eSl false 7 Term.enc) a1),(1,iv a2)] [] zB ?_
 refine J_g 6 [] [(0,sl 1 (eSl false 7 Term.enc) a1),(1,iv (w64 (a2-(a1.length:Int))))] [] zB ?_
 refine J_d 28 [] [11] [(11,bv (decide ((w64 (a2-(a1.length:Int)))<0)))] [] [] zB ?_
 refine zD 11 (fun h3=>?_) (fun h3=>?_)
 ·refine J_g 116 [] [(4,iv (-1))] [] zB ?_
  exact zN rfl
 ·refine J_d 60 [] [5,11] [(5,iv 0)] [] [] zB ?_
  refine uR (K0:=(fun r:Int=>some (iv r,[]))) (fun _=>rfl) (zBJ.ok a1 q _ (fun v17=>J_j ?_) (w64 (a2-(a1.length:Int)),0))
  refine J_g 62 [] [(4,iv v17)] [] zB ?_
  exact zN rfl
noncomputable def c51:Code:=(Tryz.f51.body).getD .skip
theorem zDA.ok (a1:Pack) (a2:Int):Ok Tryz.prog 51 [.ag (Pack.enc false a1),iv a2] [] ((zDA a1 a2).map fun r=>(iv r,[])):=by
 refine zG c51 Tryz.f51 0 31 (fun q=>?_)
 unfold zDA
 refine J_g 2 [(0,0)] [(1,iv a2),(2,pp 0)] [(0,.box (Pack.enc false a1))] zB ?_
 refine J_g 6 [] [(1,iv (w64 (a2-(a1.Name.size:Int)))),(2,pp 0)] [(0,.box (Pack.enc false a1))] zB ?_
 refine J_d 28 [] [11] [(11,bv (decide ((w64 (a2-(a1.Name.size:Int)))<0)))] [] [] zB ?_
 refine zD 11 (fun h3=>?_) (fun h3=>?_)
 ·refine J_g 116 [] [(4,iv (-1))] [] zB ?_
  exact zN rfl
 ·refine zA (fun x4 h5=>?_)
  refine J_g 30 [] [(1,iv x4),(2,pp 0)] [(0,.box (Pack.enc false a1))] (zF 3 (xU [(.tmp 13),(.tmp 14)] [86,3] (zAS.ok a1.Provides (w64 (a2-(a1.Name.size:Int)))) h5) zB) ?_
  refine J_d 124 [] [17] [(17,bv (decide (x4<0)))] [] [] zB ?_
  refine zD 17 (fun h6=>?_) (fun h6=>?_)
  ·refine J_g 500 [] [(4,iv (-1))] [] zB ?_
   exact zN rfl
  ·refine zA (fun x7 h8=>?_)
   refine J_g 126 [] [(1,iv x7),(2,pp 0)] [(0,.box (Pack.enc false a1))] (zF 3 (xU [(.tmp 19),(.tmp 20)] [87,3] (zB2.ok a1.Needs x4) h8) zB) ?_
   refine J_d 508 [] [23] [(23,bv (decide (x7<0)))] [] [] zB ?_
   refine zD 23 (fun h9=>?_) (fun h9=>?_)
   ·refine J_g 2036 [] [(4,iv (-1))] [] zB ?_
    exact zN rfl
   ·refine zA (fun x10 h11=>?_)
    refine J_g 510 [] [(1,iv x10)] [] (zF 3 (xU [(.tmp 25),(.tmp 26)] [88,3] (zAB.ok a1.Bars x7) h11) zB) ?_
    refine J_g 2044 [] [(1,iv x10),(29,bv (decide (x10<0)))] [] zB ?_
    refine zD 29 (fun h12=>?_) (fun h12=>?_)
    ·refine J_g 8180 [] [(4,iv (-1))] [] zB ?_
     exact zN rfl
    ·refine J_g 2046 [] [(4,iv x10)] [] zB ?_
     exact zN rfl
noncomputable def c13:Code:=(Tryz.f13.body).getD .skip
theorem zCx.ok (a1:(List Pack)) (q:Wd) (kn:Int→Option (D×List Ent)) (hk:∀v:Int,J (q.g Tryz.prog 13 0 27) c13 (atI c13 31) (St.mk' [(1,iv v)] []) (some v) kn):
  ∀s10:(Int×Int),J (q.g Tryz.prog 13 0 27) c13 (atI c13 244) (St.mk' [(0,sl 8 (Pack.enc false) a1),(1,iv s10.1),(5,iv s10.2)] []) (zCx a1 s10) (Fl.go (fun r:Int=>some (iv r,[])) kn):=by
 refine kQ (fun g ih s10=>?_)
 unfold zBL
 refine J_d 976 [] [15] [(15,bv (decide (s10.2< (a1.length:Int))))] [] [] zB ?_
 refine zD 15 (fun h11=>?_) (fun h11=>?_)
 ·refine zA (fun x12 h13=>?_)
  refine zA (fun x14 h15=>?_)
  refine J_g 3912 [] [(0,sl 8 (Pack.enc false) a1),(1,iv x14),(5,iv s10.2)] [] (zF 2 (tL (kk:=.i64) 22 90 8 (Pack.enc false) (.tmp 18) (.tmp 19) h13) (zF 5 (xU [(.tmp 21),(.tmp 22)] [90,3] (zDA.ok x12 s10.1) h15) zB)) ?_
  refine J_d 7826 [] [25] [(25,bv (decide (x14<0)))] [] [] zB ?_
  refine zD 25 (fun h16=>?_) (fun h16=>?_)
  ·refine J_g 31308 [] [(4,iv (-1))] [] zB ?_
   exact zN rfl
  ·refine J_d 979 [] [5,25] [(5,iv (w64 (s10.2+1)))] [] [] zB ?_
   exact J_q (J_b (ih (x14,w64 (s10.2+1)))) rfl
 ·exact xA (hk s10.1) rfl
theorem zCF.ok (a1:(List Pack)) (a2:Int):Ok Tryz.prog 13 [sl 8 (Pack.enc false) a1,iv a2] [] ((zCF a1 a2).map fun r=>(iv r,[])):=by
 refine zG c13 Tryz.f13 0 27 (fun q=>?_)
 unfold zCF
 refine J_g 2 [] [(0,sl 8 (Pack.enc false) a1),(1,iv a2)] [] zB ?_
 refine J_g 6 [] [(0,sl 8 (Pack.enc false) a1),(1,iv (w64 (a2-(a1.length:Int))))] [] zB ?_
 refine J_d 28 [] [11] [(11,bv (decide ((w64 (a2-(a1.length:Int)))<0)))] [] [] zB ?_
 refine zD 11 (fun h3=>?_) (fun h3=>?_)
 ·refine J_g 116 [] [(4,iv (-1))] [] zB ?_
  exact zN rfl
 ·refine J_d 60 [] [5,11] [(5,iv 0)] [] [] zB ?_
  refine uR (K0:=(fun r:Int=>some (iv r,[]))) (fun _=>rfl) (zCx.ok a1 q _ (fun v17=>J_j ?_) (w64 (a2-(a1.length:Int)),0))
  refine J_g 62 [] [(4,iv v17)] [] zB ?_
  exact zN rfl
noncomputable def c196:Code:=(Tryz.f196.body).getD .skip
theorem zC2.ok (a1:(List Int)) (a2:Int):Ok Tryz.prog 196 [sl 1 eU8 a1,iv a2] [] ((zC2 a1 a2).map fun r=>(iv r,[])):=by
 refine zG c196 Tryz.f196 0 12 (fun q=>?_)
 unfold zC2
 refine J_g 2 [] [(0,sl 1 eU8 a1),(1,iv a2)] [] zB ?_
 refine J_g 6 [] [(1,iv (w64 (a2-(a1.length:Int))))] [] zB ?_
 refine J_d 28 [] [10] [(10,bv (decide ((w64 (a2-(a1.length:Int)))<0)))] [] [] zB ?_
 refine zD 10 (fun h3=>?_) (fun h3=>?_)
 ·refine J_g 116 [] [(4,iv (-1))] [] zB ?_
  exact zN rfl
 ·refine J_g 30 [] [(4,iv (w64 (a2-(a1.length:Int))))] [] zB ?_
  exact zN rfl
noncomputable def zRN:Code:=(Tryz.f112.body).getD .skip
theorem zD0.ok (a1:File) (a2:Int):Ok Tryz.prog 112 [.ag (File.enc false a1),iv a2] [] ((zD0 a1 a2).map fun r=>(iv r,[])):=by
 refine zG zRN Tryz.f112 0 19 (fun q=>?_)
 unfold zD0
 refine J_g 2 [(0,0)] [(1,iv a2),(2,pp 0)] [(0,.box (File.enc false a1))] zB ?_
 refine J_g 6 [] [(1,iv (w64 (a2-(a1.Path.size:Int)))),(2,pp 0)] [(0,.box (File.enc false a1))] zB ?_
 refine J_d 28 [] [11] [(11,bv (decide ((w64 (a2-(a1.Path.size:Int)))<0)))] [] [] zB ?_
 refine zD 11 (fun h3=>?_) (fun h3=>?_)
 ·refine J_g 116 [] [(4,iv (-1))] [] zB ?_
  exact zN rfl
 ·refine zA (fun x4 h5=>?_)
  refine J_g 30 [] [(1,iv x4)] [] (zF 3 (xU [(.tmp 13),(.tmp 14)] [121,3] (zC2.ok a1.Data (w64 (a2-(a1.Path.size:Int)))) h5) zB) ?_
  refine J_g 124 [] [(1,iv x4),(17,bv (decide (x4<0)))] [] zB ?_
  refine zD 17 (fun h6=>?_) (fun h6=>?_)
  ·refine J_g 500 [] [(4,iv (-1))] [] zB ?_
   exact zN rfl
  ·refine J_g 126 [] [(4,iv x4)] [] zB ?_
   exact zN rfl
noncomputable def c52:Code:=(Tryz.f52.body).getD .skip
theorem zCG.ok (a1:(List File)) (q:Wd) (kn:Int→Option (D×List Ent)) (hk:∀v:Int,J (q.g Tryz.prog 52 0 27) c52 (atI c52 31) (St.mk' [(1,iv v)] []) (some v) kn):
  ∀s10:(Int×Int),J (q.g Tryz.prog 52 0 27) c52 (atI c52 244) (St.mk' [(0,sl 2 (File.enc false) a1),(1,iv s10.1),(5,iv s10.2)] []) (zCG a1 s10) (Fl.go (fun r:Int=>some (iv r,[])) kn):=by
 refine kQ (fun g ih s10=>?_)
 unfold zBK
 refine J_d 976 [] [15] [(15,bv (decide (s10.2< (a1.length:Int))))] [] [] zB ?_
 refine zD 15 (fun h11=>?_) (fun h11=>?_)
 ·refine zA (fun x12 h13=>?_)
  refine zA (fun x14 h15=>?_)
  refine J_g 3912 [] [(0,sl 2 (File.enc false) a1),(1,iv x14),(5,iv s10.2)] [] (zF 2 (tL (kk:=.i64) 23 158 2 (File.enc false) (.tmp 18) (.tmp 19) h13) (zF 5 (xU [(.tmp 21),(.tmp 22)] [158,3] (zD0.ok x12 s10.1) h15) zB)) ?_
  refine J_d 7826 [] [25] [(25,bv (decide (x14<0)))] [] [] zB ?_
  refine zD 25 (fun h16=>?_) (fun h16=>?_)
  ·refine J_g 31308 [] [(4,iv (-1))] [] zB ?_
   exact zN rfl
  ·refine J_d 979 [] [5,25] [(5,iv (w64 (s10.2+1)))] [] [] zB ?_
   exact J_q (J_b (ih (x14,w64 (s10.2+1)))) rfl
 ·exact xA (hk s10.1) rfl
theorem zCe.ok (a1:(List File)) (a2:Int):Ok Tryz.prog 52 [sl 2 (File.enc false) a1,iv a2] [] ((zCe a1 a2).map fun r=>(iv r,[])):=by
 refine zG c52 Tryz.f52 0 27 (fun q=>?_)
 unfold zCe
 refine J_g 2 [] [(0,sl 2 (File.enc false) a1),(1,iv a2)] [] zB ?_
 refine J_g 6 [] [(0,sl 2 (File.enc false) a1),(1,iv (w64 (a2-(a1.length:Int))))] [] zB ?_
 refine J_d 28 [] [11] [(11,bv (decide ((w64 (a2-(a1.length:Int)))<0)))] [] [] zB ?_
 refine zD 11 (fun h3=>?_) (fun h3=>?_)
 ·refine J_g 116 [] [(4,iv (-1))] [] zB ?_
  exact zN rfl
 ·refine J_d 60 [] [5,11] [(5,iv 0)] [] [] zB ?_
  refine uR (K0:=(fun r:Int=>some (iv r,[]))) (fun _=>rfl) (zCG.ok a1 q _ (fun v17=>J_j ?_) (w64 (a2-(a1.length:Int)),0))
  refine J_g 62 [] [(4,iv v17)] [] zB ?_
  exact zN rfl
noncomputable def c14:Code:=(Tryz.f14.body).getD .skip
theorem zDx.ok (a1:zC) (a2:Int):Ok Tryz.prog 14 [.ag (zC.enc false a1),iv a2] [] ((zDx a1 a2).map fun r=>(iv r,[])):=by
 refine zG c14 Tryz.f14 0 12 (fun q=>?_)
 unfold zDx
 refine J_g 2 [(0,0)] [(1,iv a2),(2,pp 0)] [(0,.box (zC.enc false a1))] zB ?_
 refine zA (fun x3 h4=>?_)
 refine J_g 6 [] [(1,iv x3)] [] (zF 3 (xU [(.tmp 6),(.tmp 7)] [23,3] (zCe.ok a1.Files a2) h4) zB) ?_
 refine J_g 28 [] [(1,iv x3),(10,bv (decide (x3<0)))] [] zB ?_
 refine zD 10 (fun h5=>?_) (fun h5=>?_)
 ·refine J_g 116 [] [(4,iv (-1))] [] zB ?_
  exact zN rfl
 ·refine J_g 30 [] [(4,iv x3)] [] zB ?_
  exact zN rfl
noncomputable def zS2:Code:=(Tryz.f121.body).getD .skip
theorem wZ.ok (a1:Version):Ok Tryz.prog 121 [.ag (Version.enc a1)] [] ((wZ a1).map fun r=>(.ag (Version.enc r),[])):=by
 refine zG zS2 Tryz.f121 0 14 (fun q=>?_)
 unfold wZ
 refine J_g 2 [(0,0),(1,1)] [(1,pp 0),(2,pp 1)] [(0,.box (Version.enc a1)),(1,.box [iv 0,iv 0,iv 0])] zB ?_
 refine J_g 6 [(0,2)] [(1,pp 0),(2,pp 1),(3,pp 2)] [(0,.box (Version.enc a1)),(1,.box [iv 0,iv 0,iv 0]),(2,.box [iv 0,iv 0,iv 0])] zB ?_
 refine J_g 14 [] [(1,pp 0),(2,pp 1),(3,pp 2)] [(0,.box (Version.enc a1)),(1,.box [iv 0,iv 0,iv 0]),(2,.box [iv a1.A,iv 0,iv 0])] zB ?_
 refine J_g 30 [] [(1,pp 0),(2,pp 1),(3,pp 2)] [(0,.box (Version.enc a1)),(1,.box [iv 0,iv 0,iv 0]),(2,.box [iv a1.A,iv a1.B,iv 0])] zB ?_
 refine J_g 62 [] [(2,pp 1),(3,pp 2)] [(1,.box [iv 0,iv 0,iv 0]),(2,.box (Version.enc a1))] zB ?_
 refine J_g 126 [] [(2,pp 1)] [(1,.box (Version.enc a1))] zB ?_
 exact zN rfl
noncomputable def zQb:Code:=(Tryz.f122.body).getD .skip
theorem zBf.ok (a1:(List ByteArray)) (q:Wd) (kn:(List ByteArray)→Option (D×List Ent)) (hk:∀v:(List ByteArray),J (q.g Tryz.prog 122 0 22) zQb (atI zQb 15) (St.mk' [(3,rr 0 v)] [(0,rE 1 eStr v)]) (some v) kn):
  ∀s9:((List ByteArray)×Int),J (q.g Tryz.prog 122 0 22) zQb (atI zQb 116) (St.mk' [(0,sl 1 eStr a1),(3,rr 0 s9.1),(4,iv s9.2)] [(0,rE 1 eStr s9.1)]) (zBf a1 s9) kn:=by
 refine kQ (fun g ih s9=>?_)
 unfold zBU
 refine J_d 464 [] [11] [(11,bv (decide (s9.2< (a1.length:Int))))] [] [] zB ?_
 refine zD 11 (fun h10=>?_) (fun h10=>?_)
 ·refine zA (fun x11 h12=>?_)
  refine zA (fun x13 h14=>?_)
  refine J_g 932 [] [(0,sl 1 eStr a1),(3,rr 0 s9.1),(4,iv s9.2)] [(0,rE 1 eStr (s9.1.set s9.2.toNat x11))] (zF 4 (tL (kk:=.i64) 86 9 1 eStr (.tmp 16) (.tmp 17) h12) (zF 6 (tY (kk:=.i64) 86 9 1 0 eStr (.tmp 14) (.tmp 15) h14) (zFR 7 (zHI (b:=x11) 9 1 0 0 eStr (sv x11) (.tmp 20) (.tmp 19) h14 rfl) zB))) ?_
  refine zFo (σ':=St.mk' [(0,sl 1 eStr a1),(3,rr 0 (s9.1.set s9.2.toNat x11)),(4,iv s9.2)] [(0,rE 1 eStr (s9.1.set s9.2.toNat x11))]) (by simp only [rr,List.length_set]) ?_
  refine J_d 467 [] [4] [(4,iv (w64 (s9.2+1)))] [] [] zB ?_
  exact J_q (J_b (ih (s9.1.set s9.2.toNat x11,w64 (s9.2+1)))) rfl
 ·exact xA (hk s9.1) rfl
theorem zAN.ok (a1:(List ByteArray)):Ok Tryz.prog 122 [sl 1 eStr a1] [] ((zAN a1).map fun r=>(so 1 eStr r,[])):=by
 refine zG zQb Tryz.f122 0 22 (fun q=>?_)
 unfold zAN
 refine J_d 2 [] [] [] [] [] zB ?_
 refine zA (fun x2 h3=>?_)
 refine J_g 6 [] [(0,sl 1 eStr a1),(3,rr 0 x2)] [(0,rE 1 eStr x2)] (zF 2 (zPK 86 9 1 16 0 eStr ByteArray.empty (.tmp 6) h3 (.keep rfl (.nil))) zB) ?_
 refine J_d 28 [] [4] [(4,iv 0)] [] [] zB ?_
 refine zEH (zBf.ok a1 q _ (fun v15=>J_j ?_) (x2,0))
 refine J_g 30 [] [(2,rr 0 v15)] [(0,rE 1 eStr v15)] zB ?_
 exact zCT (ds:=[rr 0 v15]) (ds':=[so 1 eStr v15]) (.cons (.cell (.move (.head _) (List.length_map _) (by decide) (.nil))) (.nil) (by decide)) rfl
noncomputable def c198:Code:=(Tryz.f198.body).getD .skip
theorem zD8.ok (a1:Term):Ok Tryz.prog 198 [.ag (Term.enc a1)] [] ((zD8 a1).map fun r=>(.ag (Term.enc r),[])):=by
 refine zG c198 Tryz.f198 0 16 (fun q=>?_)
 unfold zD8
 refine J_g 2 [(0,0),(1,1)] [(1,pp 0),(2,pp 1)] [(0,.box (Term.enc a1)),(1,.box [sv ByteArray.empty,iv 0,iv 0,iv 0,iv 0,iv 0,iv 0])] zB ?_
 refine J_g 6 [(0,2)] [(1,pp 0),(2,pp 1),(3,pp 2)] [(0,.box (Term.enc a1)),(1,.box [sv ByteArray.empty,iv 0,iv 0,iv 0,iv 0,iv 0,iv 0]),(2,.box [sv ByteArray.empty,iv 0,iv 0,iv 0,iv 0,iv 0,iv 0])] zB ?_
 refine J_d 14 [] [] [] [2] [(2,.box [sv a1.Name,iv 0,iv 0,iv 0,iv 0,iv 0,iv 0])] zB ?_
 refine zA (fun x2 h3=>?_)
 refine J_d 30 [] [] [] [2] [(2,.box [sv a1.Name,iv x2.A,iv x2.B,iv x2.C,iv 0,iv 0,iv 0])] (zF 2 (xU [(.tmp 8)] [85] (wZ.ok a1.Low) h3) zB) ?_
 refine zA (fun x4 h5=>?_)
 refine J_g 62 [] [(2,pp 1),(3,pp 2)] [(1,.box [sv ByteArray.empty,iv 0,iv 0,iv 0,iv 0,iv 0,iv 0]),(2,.box [sv a1.Name,iv x2.A,iv x2.B,iv x2.C,iv x4.A,iv x4.B,iv x4.C])] (zF 2 (xU [(.tmp 12)] [85] (wZ.ok a1.High) h5) zB) ?_
 refine J_g 126 [] [(2,pp 1)] [(1,.box [sv a1.Name,iv x2.A,iv x2.B,iv x2.C,iv x4.A,iv x4.B,iv x4.C])] zB ?_
 exact zN rfl
noncomputable def c124:Code:=(Tryz.f124.body).getD .skip
theorem zCy.ok (a1:(List Term)) (q:Wd) (kn:(List Term)→Option (D×List Ent)) (hk:∀v:(List Term),J (q.g Tryz.prog 124 0 23) c124 (atI c124 15) (St.mk' [(3,rr 0 v)] [(0,rE 7 Term.enc v)]) (some v) kn):
  ∀s11:((List Term)×Int),J (q.g Tryz.prog 124 0 23) c124 (atI c124 116) (St.mk' [(0,sl 7 Term.enc a1),(3,rr 0 s11.1),(4,iv s11.2)] [(0,rE 7 Term.enc s11.1)]) (zCy a1 s11) kn:=by
 refine kQ (fun g ih s11=>?_)
 unfold zDn
 refine J_d 464 [] [11] [(11,bv (decide (s11.2< (a1.length:Int))))] [] [] zB ?_
 refine zD 11 (fun h12=>?_) (fun h12=>?_)
 ·refine zA (fun x13 h14=>?_)
  refine zA (fun x15 h16=>?_)
  refine zA (fun x17 h18=>?_)
  refine J_g 932 [] [(0,sl 7 Term.enc a1),(3,rr 0 s11.1),(4,iv s11.2)] [(0,rE 7 Term.enc (s11.1.set s11.2.toNat x15))] (zF 4 (tL (kk:=.i64) 88 224 7 Term.enc (.tmp 16) (.tmp 17) h14) (zF 6 (xU [(.tmp 19)] [224] (zD8.ok x13) h16) (zF 7 (tY (kk:=.i64) 75 149 7 0 Term.enc (.tmp 14) (.tmp 15) h18) (zFR 8 (zHI (b:=x15) 149 7 0 0 Term.enc (.ag (Term.enc x15)) (.tmp 21) (.tmp 20) h18 rfl) zB)))) ?_
  refine zFo (σ':=St.mk' [(0,sl 7 Term.enc a1),(3,rr 0 (s11.1.set s11.2.toNat x15)),(4,iv s11.2)] [(0,rE 7 Term.enc (s11.1.set s11.2.toNat x15))]) (by simp only [rr,List.length_set]) ?_
  refine J_d 467 [] [4] [(4,iv (w64 (s11.2+1)))] [] [] zB ?_
  exact J_q (J_b (ih (s11.1.set s11.2.toNat x15,w64 (s11.2+1)))) rfl
 ·exact xA (hk s11.1) rfl
theorem zAA.ok (a1:(List Term)):Ok Tryz.prog 124 [sl 7 Term.enc a1] [] ((zAA a1).map fun r=>(so 7 Term.enc r,[])):=by
 refine zG c124 Tryz.f124 0 23 (fun q=>?_)
 unfold zAA
 refine J_d 2 [] [] [] [] [] zB ?_
 refine zA (fun x2 h3=>?_)
 refine J_g 6 [] [(0,sl 7 Term.enc a1),(3,rr 0 x2)] [(0,rE 7 Term.enc x2)] (zF 2 (zPK 75 149 7 64 0 Term.enc ({Name:=ByteArray.empty,Low:=({A:=0,B:=0,C:=0}:Version),High:=({A:=0,B:=0,C:=0}:Version)}:Term) (.tmp 6) h3 (.keep rfl (.keep rfl (.keep rfl (.keep rfl (.keep rfl (.keep rfl (.keep rfl (.nil))))))))) zB) ?_
 refine J_d 28 [] [4] [(4,iv 0)] [] [] zB ?_
 refine zEH (zCy.ok a1 q _ (fun v19=>J_j ?_) (x2,0))
 refine J_g 30 [] [(2,rr 0 v19)] [(0,rE 7 Term.enc v19)] zB ?_
 exact zCT (ds:=[rr 0 v19]) (ds':=[so 7 Term.enc v19]) (.cons (.cell (.move (.head _) (List.length_map _) (by decide) (.nil))) (.nil) (by decide)) rfl
noncomputable def zQo:Code:=(Tryz.f123.body).getD .skip
theorem zBN.ok (a1:(List (List Term))) (q:Wd) (kn:(List (List Term))→Option (D×List Ent)) (hk:∀v:(List (List Term)),J (q.g Tryz.prog 123 0 23) zQo (atI zQo 15) (St.mk' [(3,rr 0 v)] [(0,rE 1 (eSl true 7 Term.enc) v)]) (some v) kn):
  ∀s11:((List (List Term))×Int),J (q.g Tryz.prog 123 0 23) zQo (atI zQo 116) (St.mk' [(0,sl 1 (eSl false 7 Term.enc) a1),(3,rr 0 s11.1),(4,iv s11.2)] [(0,rE 1 (eSl true 7 Term.enc) s11.1)]) (zBN a1 s11) kn:=by
 refine kQ (fun g ih s11=>?_)
 unfold zCS
 refine J_d 464 [] [11] [(11,bv (decide (s11.2< (a1.length:Int))))] [] [] zB ?_
 refine zD 11 (fun h12=>?_) (fun h12=>?_)
 ·refine zA (fun x13 h14=>?_)
  refine zA (fun x15 h16=>?_)
  refine zA (fun x17 h18=>?_)
  refine J_g 932 [] [(0,sl 1 (eSl false 7 Term.enc) a1),(3,rr 0 s11.1),(4,iv s11.2)] [(0,rE 1 (eSl true 7 Term.enc) (s11.1.set s11.2.toNat x15))] (zF 4 (tL (kk:=.i64) 87 88 1 (eSl false 7 Term.enc) (.tmp 16) (.tmp 17) h14) (zF 6 (uJ («as»:=[sl 7 Term.enc x13]) [(.tmp 19)] [88] false [] [] (.cons (.same rfl) (.nil)) (zAA.ok x13) h16 (.own 1)) (zF 7 (tY (kk:=.i64) 100 75 1 0 (eSl true 7 Term.enc) (.tmp 14) (.tmp 15) h18) (zFR 8 (zM1 (b:=x15) (es':=[so 7 Term.enc x15]) (ts:=[1]) 75 1 0 0 (eSl true 7 Term.enc) (rr 1 x15) (.tmp 21) (.tmp 20) [(1,rE 7 Term.enc x15)] h18 (.move (.head _) (List.length_map _) (by decide) (.nil)) rfl) zB)))) ?_
  refine zFo (σ':=St.mk' [(0,sl 1 (eSl false 7 Term.enc) a1),(3,rr 0 (s11.1.set s11.2.toNat x15)),(4,iv s11.2)] [(0,rE 1 (eSl true 7 Term.enc) (s11.1.set s11.2.toNat x15))]) (by simp only [rr,List.length_set]) ?_
  refine J_d 467 [] [4] [(4,iv (w64 (s11.2+1)))] [] [] zB ?_
  exact J_q (J_b (ih (s11.1.set s11.2.toNat x15,w64 (s11.2+1)))) rfl
 ·exact xA (hk s11.1) rfl
theorem zBw.ok (a1:(List (List Term))):Ok Tryz.prog 123 [sl 1 (eSl false 7 Term.enc) a1] [] ((zBw a1).map fun r=>(so 1 (eSl true 7 Term.enc) r,[])):=by
 refine zG zQo Tryz.f123 0 23 (fun q=>?_)
 unfold zBw
 refine J_d 2 [] [] [] [] [] zB ?_
 refine zA (fun x2 h3=>?_)
 refine J_g 6 [] [(0,sl 1 (eSl false 7 Term.enc) a1),(3,rr 0 x2)] [(0,rE 1 (eSl true 7 Term.enc) x2)] (zF 2 (zPK 100 75 1 24 0 (eSl true 7 Term.enc) ([]:List Term) (.tmp 6) h3 (.nilsl true 7 (.nil))) zB) ?_
 refine J_d 28 [] [4] [(4,iv 0)] [] [] zB ?_
 refine zEH (zBN.ok a1 q _ (fun v19=>J_j ?_) (x2,0))
 refine J_g 30 [] [(2,rr 0 v19)] [(0,rE 1 (eSl true 7 Term.enc) v19)] zB ?_
 exact zCT (ds:=[rr 0 v19]) (ds':=[so 1 (eSl true 7 Term.enc) v19]) (.cons (.cell (.move (.head _) (List.length_map _) (by decide) (.nil))) (.nil) (by decide)) rfl
noncomputable def c60:Code:=(Tryz.f60.body).getD .skip
theorem zD4.ok (a1:Pack):Ok Tryz.prog 60 [.ag (Pack.enc false a1)] [] ((zD4 a1).map fun r=>(.ag [sv r.Name,iv r.Version.A,iv r.Version.B,iv r.Version.C,iv r.Size,so 1 eStr r.Provides,so 1 (eSl true 7 Term.enc) r.Needs,so 7 Term.enc r.Bars],[])):=by
 refine zG c60 Tryz.f60 0 27 (fun q=>?_)
 unfold zD4
 refine J_g 2 [(0,0),(1,1)] [(1,pp 0),(2,pp 1)] [(0,.box (Pack.enc false a1)),(1,.box [sv ByteArray.empty,iv 0,iv 0,iv 0,iv 0,nv,nv,nv])] zB ?_
 refine J_g 6 [(0,2)] [(1,pp 0),(2,pp 1),(3,pp 2)] [(0,.box (Pack.enc false a1)),(1,.box [sv ByteArray.empty,iv 0,iv 0,iv 0,iv 0,nv,nv,nv]),(2,.box [sv ByteArray.empty,iv 0,iv 0,iv 0,iv 0,nv,nv,nv])] zB ?_
 refine J_d 14 [] [] [] [2] [(2,.box [sv a1.Name,iv 0,iv 0,iv 0,iv 0,nv,nv,nv])] zB ?_
 refine zA (fun x2 h3=>?_)
 refine J_g 30 [] [(1,pp 0),(2,pp 1),(3,pp 2)] [(0,.box (Pack.enc false a1)),(1,.box [sv ByteArray.empty,iv 0,iv 0,iv 0,iv 0,nv,nv,nv]),(2,.box [sv a1.Name,iv x2.A,iv x2.B,iv x2.C,iv 0,nv,nv,nv])] (zF 2 (xU [(.tmp 8)] [85] (wZ.ok a1.Version) h3) zB) ?_
 refine J_d 62 [] [] [] [2] [(2,.box [sv a1.Name,iv x2.A,iv x2.B,iv x2.C,iv a1.Size,nv,nv,nv])] zB ?_
 refine zA (fun x4 h5=>?_)
 refine J_d 126 [] [] [] [2,3] [(2,.box [sv a1.Name,iv x2.A,iv x2.B,iv x2.C,iv a1.Size,rr 3 x4,nv,nv]),(3,rE 1 eStr x4)] (zF 2 (uJ («as»:=[sl 1 eStr a1.Provides]) [(.tmp 15)] [86] false [] [] (.cons (.same rfl) (.nil)) (zAN.ok a1.Provides) h5 (.own 3)) zB) ?_
 refine zA (fun x6 h7=>?_)
 refine J_d 254 [] [] [] [2,4] [(2,.box [sv a1.Name,iv x2.A,iv x2.B,iv x2.C,iv a1.Size,rr 3 x4,rr 4 x6,nv]),(4,rE 1 (eSl true 7 Term.enc) x6)] (zF 2 (uJ («as»:=[sl 1 (eSl false 7 Term.enc) a1.Needs]) [(.tmp 19)] [87] false [] [] (.cons (.same rfl) (.nil)) (zBw.ok a1.Needs) h7 (.own 4)) zB) ?_
 refine zA (fun x8 h9=>?_)
 refine J_g 510 [] [(2,pp 1),(3,pp 2)] [(1,.box [sv ByteArray.empty,iv 0,iv 0,iv 0,iv 0,nv,nv,nv]),(2,.box [sv a1.Name,iv x2.A,iv x2.B,iv x2.C,iv a1.Size,rr 3 x4,rr 4 x6,rr 5 x8]),(3,rE 1 eStr x4),(4,rE 1 (eSl true 7 Term.enc) x6),(5,rE 7 Term.enc x8)] (zF 2 (uJ («as»:=[sl 7 Term.enc a1.Bars]) [(.tmp 23)] [88] false [] [] (.cons (.same rfl) (.nil)) (zAA.ok a1.Bars) h9 (.own 5)) zB) ?_
 refine J_g 1022 [] [(2,pp 1)] [(1,.box [sv a1.Name,iv x2.A,iv x2.B,iv x2.C,iv a1.Size,rr 3 x4,rr 4 x6,rr 5 x8]),(3,rE 1 eStr x4),(4,rE 1 (eSl true 7 Term.enc) x6),(5,rE 7 Term.enc x8)] zB ?_
 exact zCT (ds:=[.ag [sv a1.Name,iv x2.A,iv x2.B,iv x2.C,iv a1.Size,rr 3 x4,rr 4 x6,rr 5 x8]]) (ds':=[.ag [sv a1.Name,iv x2.A,iv x2.B,iv x2.C,iv a1.Size,so 1 eStr x4,so 1 (eSl true 7 Term.enc) x6,so 7 Term.enc x8]]) (.cons (.ag (.keep rfl (.keep rfl (.keep rfl (.keep rfl (.keep rfl (.move (.tail _ (.head _)) (List.length_map _) (by decide) (.move (.tail _ (.tail _ (.head _))) (List.length_map _) (by decide) (.move (.tail _ (.tail _ (.tail _ (.head _)))) (List.length_map _) (by decide) (.nil)))))))))) (.nil) (by decide)) rfl
noncomputable def c16:Code:=(Tryz.f16.body).getD .skip
theorem zCg.ok (a1:(List Pack)) (q:Wd) (kn:(List Pack)→Option (D×List Ent)) (hk:∀v:(List Pack),J (q.g Tryz.prog 16 0 23) c16 (atI c16 15) (St.mk' [(3,rr 0 v)] [(0,rE 8 (Pack.enc true) v)]) (some v) kn):
  ∀s11:((List Pack)×Int),J (q.g Tryz.prog 16 0 23) c16 (atI c16 116) (St.mk' [(0,sl 8 (Pack.enc false) a1),(3,rr 0 s11.1),(4,iv s11.2)] [(0,rE 8 (Pack.enc true) s11.1)]) (zCg a1 s11) kn:=by
 refine kQ (fun g ih s11=>?_)
 unfold zDp
 refine J_d 464 [] [11] [(11,bv (decide (s11.2< (a1.length:Int))))] [] [] zB ?_
 refine zD 11 (fun h12=>?_) (fun h12=>?_)
 ·refine zA (fun x13 h14=>?_)
  refine zA (fun x15 h16=>?_)
  refine zA (fun x17 h18=>?_)
  refine J_g 932 [] [(0,sl 8 (Pack.enc false) a1),(3,rr 0 s11.1),(4,iv s11.2)] [(0,rE 8 (Pack.enc true) (s11.1.set s11.2.toNat x15))] (zF 4 (tL (kk:=.i64) 22 90 8 (Pack.enc false) (.tmp 16) (.tmp 17) h14) (zF 6 (uJ («as»:=[.ag (Pack.enc false x13)]) [(.tmp 19)] [90] false [] [] (.cons (.same rfl) (.nil)) (zD4.ok x13) h16 (.ag (.cons (.same rfl rfl) (.cons (.same rfl rfl) (.cons (.same rfl rfl) (.cons (.same rfl rfl) (.cons (.same rfl rfl) (.cons (.own 1) (.cons (.own 2) (.cons (.own 3) (.nil))))))))))) (zF 7 (tY (kk:=.i64) 30 102 8 0 (Pack.enc true) (.tmp 14) (.tmp 15) h18) (zFR 8 (zM1 (b:=x15) (es':=[sv x15.Name,iv x15.Version.A,iv x15.Version.B,iv x15.Version.C,iv x15.Size,so 1 eStr x15.Provides,so 1 (eSl true 7 Term.enc) x15.Needs,so 7 Term.enc x15.Bars]) (ts:=[1,2,3]) 102 8 0 0 (Pack.enc true) (.ag [sv x15.Name,iv x15.Version.A,iv x15.Version.B,iv x15.Version.C,iv x15.Size,rr 1 x15.Provides,rr 2 x15.Needs,rr 3 x15.Bars]) (.tmp 21) (.tmp 20) [(1,rE 1 eStr x15.Provides),(2,rE 1 (eSl true 7 Term.enc) x15.Needs),(3,rE 7 Term.enc x15.Bars)] h18 (.keep rfl (.keep rfl (.keep rfl (.keep rfl (.keep rfl (.move (.head _) (List.length_map _) (by decide) (.move (.tail _ (.head _)) (List.length_map _) (by decide) (.move (.tail _ (.tail _ (.head _))) (List.length_map _) (by decide) (.nil))))))))) rfl) zB)))) ?_
  refine zFo (σ':=St.mk' [(0,sl 8 (Pack.enc false) a1),(3,rr 0 (s11.1.set s11.2.toNat x15)),(4,iv s11.2)] [(0,rE 8 (Pack.enc true) (s11.1.set s11.2.toNat x15))]) (by simp only [rr,List.length_set]) ?_
  refine J_d 467 [] [4] [(4,iv (w64 (s11.2+1)))] [] [] zB ?_
  exact J_q (J_b (ih (s11.1.set s11.2.toNat x15,w64 (s11.2+1)))) rfl
 ·exact xA (hk s11.1) rfl
theorem vR.ok (a1:(List Pack)):Ok Tryz.prog 16 [sl 8 (Pack.enc false) a1] [] ((vR a1).map fun r=>(so 8 (Pack.enc true) r,[])):=by
 refine zG c16 Tryz.f16 0 23 (fun q=>?_)
 unfold vR
 refine J_d 2 [] [] [] [] [] zB ?_
 refine zA (fun x2 h3=>?_)
 refine J_g 6 [] [(0,sl 8 (Pack.enc false) a1),(3,rr 0 x2)] [(0,rE 8 (Pack.enc true) x2)] (zF 2 (zPK 30 102 8 120 0 (Pack.enc true) ({Name:=ByteArray.empty,Version:=({A:=0,B:=0,C:=0}:Version),Size:=0,Provides:=([]:List ByteArray),Needs:=([]:List (List Term)),Bars:=([]:List Term)}:Pack) (.tmp 6) h3 (.keep rfl (.keep rfl (.keep rfl (.keep rfl (.keep rfl (.nilsl true 1 (.nilsl true 1 (.nilsl true 7 (.nil)))))))))) zB) ?_
 refine J_d 28 [] [4] [(4,iv 0)] [] [] zB ?_
 refine zEH (zCg.ok a1 q _ (fun v19=>J_j ?_) (x2,0))
 refine J_g 30 [] [(2,rr 0 v19)] [(0,rE 8 (Pack.enc true) v19)] zB ?_
 exact zCT (ds:=[rr 0 v19]) (ds':=[so 8 (Pack.enc true) v19]) (.cons (.cell (.move (.head _) (List.length_map _) (by decide) (.nil))) (.nil) (by decide)) rfl
noncomputable def zQs:Code:=(Tryz.f199.body).getD .skip
theorem zCl.ok (a1:(List Int)) (q:Wd) (kn:(List Int)→Option (D×List Ent)) (hk:∀v:(List Int),J (q.g Tryz.prog 199 0 22) zQs (atI zQs 15) (St.mk' [(3,rr 0 v)] [(0,rE 1 eU8 v)]) (some v) kn):
  ∀s9:((List Int)×Int),J (q.g Tryz.prog 199 0 22) zQs (atI zQs 116) (St.mk' [(0,sl 1 eU8 a1),(3,rr 0 s9.1),(4,iv s9.2)] [(0,rE 1 eU8 s9.1)]) (zCl a1 s9) kn:=by
 refine kQ (fun g ih s9=>?_)
 unfold zDq
 refine J_d 464 [] [11] [(11,bv (decide (s9.2< (a1.length:Int))))] [] [] zB ?_
 refine zD 11 (fun h10=>?_) (fun h10=>?_)
 ·refine zA (fun x11 h12=>?_)
  refine zA (fun x13 h14=>?_)
  refine J_g 932 [] [(0,sl 1 eU8 a1),(3,rr 0 s9.1),(4,iv s9.2)] [(0,rE 1 eU8 (s9.1.set s9.2.toNat x11))] (zF 4 (tL (kk:=.i64) 121 5 1 eU8 (.tmp 16) (.tmp 17) h12) (zF 6 (tY (kk:=.i64) 121 5 1 0 eU8 (.tmp 14) (.tmp 15) h14) (zFR 7 (zHI (b:=x11) 5 1 0 0 eU8 (uv x11) (.tmp 20) (.tmp 19) h14 rfl) zB))) ?_
  refine zFo (σ':=St.mk' [(0,sl 1 eU8 a1),(3,rr 0 (s9.1.set s9.2.toNat x11)),(4,iv s9.2)] [(0,rE 1 eU8 (s9.1.set s9.2.toNat x11))]) (by simp only [rr,List.length_set]) ?_
  refine J_d 467 [] [4] [(4,iv (w64 (s9.2+1)))] [] [] zB ?_
  exact J_q (J_b (ih (s9.1.set s9.2.toNat x11,w64 (s9.2+1)))) rfl
 ·exact xA (hk s9.1) rfl
theorem zC0.ok (a1:(List Int)):Ok Tryz.prog 199 [sl 1 eU8 a1] [] ((zC0 a1).map fun r=>(so 1 eU8 r,[])):=by
 refine zG zQs Tryz.f199 0 22 (fun q=>?_)
 unfold zC0
 refine J_g 2 [] [(0,sl 1 eU8 a1)] [] zB ?_
 refine zA (fun x2 h3=>?_)
 refine J_g 6 [] [(0,sl 1 eU8 a1),(3,rr 0 x2)] [(0,rE 1 eU8 x2)] (zF 2 (zPK 121 5 1 1 0 eU8 0 (.tmp 6) h3 (.keep rfl (.nil))) zB) ?_
 refine J_d 28 [] [4] [(4,iv 0)] [] [] zB ?_
 refine zEH (zCl.ok a1 q _ (fun v15=>J_j ?_) (x2,0))
 refine J_g 30 [] [(2,rr 0 v15)] [(0,rE 1 eU8 v15)] zB ?_
 exact zCT (ds:=[rr 0 v15]) (ds':=[so 1 eU8 v15]) (.cons (.cell (.move (.head _) (List.length_map _) (by decide) (.nil))) (.nil) (by decide)) rfl
noncomputable def zRX:Code:=(Tryz.f125.body).getD .skip
theorem zDv.ok (a1:File):Ok Tryz.prog 125 [.ag (File.enc false a1)] [] ((zDv a1).map fun r=>(.ag [sv r.Path,so 1 eU8 r.Data],[])):=by
 refine zG zRX Tryz.f125 0 12 (fun q=>?_)
 unfold zDv
 refine J_g 2 [(0,0),(1,1)] [(1,pp 0),(2,pp 1)] [(0,.box (File.enc false a1)),(1,.box [sv ByteArray.empty,nv])] zB ?_
 refine J_g 6 [(0,2)] [(1,pp 0),(2,pp 1),(3,pp 2)] [(0,.box (File.enc false a1)),(1,.box [sv ByteArray.empty,nv]),(2,.box [sv ByteArray.empty,nv])] zB ?_
 refine J_d 14 [] [] [] [2] [(2,.box [sv a1.Path,nv])] zB ?_
 refine zA (fun x2 h3=>?_)
 refine J_g 30 [] [(2,pp 1),(3,pp 2)] [(1,.box [sv ByteArray.empty,nv]),(2,.box [sv a1.Path,rr 3 x2]),(3,rE 1 eU8 x2)] (zF 2 (uJ («as»:=[sl 1 eU8 a1.Data]) [(.tmp 8)] [121] false [] [] (.cons (.same rfl) (.nil)) (zC0.ok a1.Data) h3 (.own 3)) zB) ?_
 refine J_g 62 [] [(2,pp 1)] [(1,.box [sv a1.Path,rr 3 x2]),(3,rE 1 eU8 x2)] zB ?_
 exact zCT (ds:=[.ag [sv a1.Path,rr 3 x2]]) (ds':=[.ag [sv a1.Path,so 1 eU8 x2]]) (.cons (.ag (.keep rfl (.move (.tail _ (.head _)) (List.length_map _) (by decide) (.nil)))) (.nil) (by decide)) rfl
noncomputable def c61:Code:=(Tryz.f61.body).getD .skip
theorem zCJ.ok (a1:(List File)) (q:Wd) (kn:(List File)→Option (D×List Ent)) (hk:∀v:(List File),J (q.g Tryz.prog 61 0 23) c61 (atI c61 15) (St.mk' [(3,rr 0 v)] [(0,rE 2 (File.enc true) v)]) (some v) kn):
  ∀s11:((List File)×Int),J (q.g Tryz.prog 61 0 23) c61 (atI c61 116) (St.mk' [(0,sl 2 (File.enc false) a1),(3,rr 0 s11.1),(4,iv s11.2)] [(0,rE 2 (File.enc true) s11.1)]) (zCJ a1 s11) kn:=by
 refine kQ (fun g ih s11=>?_)
 unfold zDl
 refine J_d 464 [] [11] [(11,bv (decide (s11.2< (a1.length:Int))))] [] [] zB ?_
 refine zD 11 (fun h12=>?_) (fun h12=>?_)
 ·refine zA (fun x13 h14=>?_)
  refine zA (fun x15 h16=>?_)
  refine zA (fun x17 h18=>?_)
  refine J_g 932 [] [(0,sl 2 (File.enc false) a1),(3,rr 0 s11.1),(4,iv s11.2)] [(0,rE 2 (File.enc true) (s11.1.set s11.2.toNat x15))] (zF 4 (tL (kk:=.i64) 23 158 2 (File.enc false) (.tmp 16) (.tmp 17) h14) (zF 6 (uJ («as»:=[.ag (File.enc false x13)]) [(.tmp 19)] [158] false [] [] (.cons (.same rfl) (.nil)) (zDv.ok x13) h16 (.ag (.cons (.same rfl rfl) (.cons (.own 1) (.nil))))) (zF 7 (tY (kk:=.i64) 31 138 2 0 (File.enc true) (.tmp 14) (.tmp 15) h18) (zFR 8 (zM1 (b:=x15) (es':=[sv x15.Path,so 1 eU8 x15.Data]) (ts:=[1]) 138 2 0 0 (File.enc true) (.ag [sv x15.Path,rr 1 x15.Data]) (.tmp 21) (.tmp 20) [(1,rE 1 eU8 x15.Data)] h18 (.keep rfl (.move (.head _) (List.length_map _) (by decide) (.nil))) rfl) zB)))) ?_
  refine zFo (σ':=St.mk' [(0,sl 2 (File.enc false) a1),(3,rr 0 (s11.1.set s11.2.toNat x15)),(4,iv s11.2)] [(0,rE 2 (File.enc true) (s11.1.set s11.2.toNat x15))]) (by simp only [rr,List.length_set]) ?_
  refine J_d 467 [] [4] [(4,iv (w64 (s11.2+1)))] [] [] zB ?_
  exact J_q (J_b (ih (s11.1.set s11.2.toNat x15,w64 (s11.2+1)))) rfl
 ·exact xA (hk s11.1) rfl
theorem zCc.ok (a1:(List File)):Ok Tryz.prog 61 [sl 2 (File.enc false) a1] [] ((zCc a1).map fun r=>(so 2 (File.enc true) r,[])):=by
 refine zG c61 Tryz.f61 0 23 (fun q=>?_)
 unfold zCc
 refine J_d 2 [] [] [] [] [] zB ?_
 refine zA (fun x2 h3=>?_)
 refine J_g 6 [] [(0,sl 2 (File.enc false) a1),(3,rr 0 x2)] [(0,rE 2 (File.enc true) x2)] (zF 2 (zPK 31 138 2 40 0 (File.enc true) ({Path:=ByteArray.empty,Data:=([]:List Int)}:File) (.tmp 6) h3 (.keep rfl (.nilsl true 1 (.nil)))) zB) ?_
 refine J_d 28 [] [4] [(4,iv 0)] [] [] zB ?_
 refine zEH (zCJ.ok a1 q _ (fun v19=>J_j ?_) (x2,0))
 refine J_g 30 [] [(2,rr 0 v19)] [(0,rE 2 (File.enc true) v19)] zB ?_
 exact zCT (ds:=[rr 0 v19]) (ds':=[so 2 (File.enc true) v19]) (.cons (.cell (.move (.head _) (List.length_map _) (by decide) (.nil))) (.nil) (by decide)) rfl
noncomputable def c17:Code:=(Tryz.f17.body).getD .skip
theorem tH.ok (a1:zC):Ok Tryz.prog 17 [.ag (zC.enc false a1)] [] ((tH a1).map fun r=>(.ag (zC.enc true r),[])):=by
 refine zG c17 Tryz.f17 0 21 (fun q=>?_)
 unfold tH
 refine J_g 2 [(0,0),(1,1)] [(1,pp 0),(2,pp 1)] [(0,.box (zC.enc false a1)),(1,.box [nv,iv 0,iv 0,iv 0,bv false])] zB ?_
 refine J_d 6 [(0,2)] [3] [(3,pp 2)] [2] [(2,.box [nv,iv 0,iv 0,iv 0,bv false])] zB ?_
 refine zA (fun x2 h3=>?_)
 refine J_g 14 [] [(1,pp 0),(2,pp 1),(3,pp 2)] [(0,.box (zC.enc false a1)),(1,.box [nv,iv 0,iv 0,iv 0,bv false]),(2,.box [rr 3 x2,iv 0,iv 0,iv 0,bv false]),(3,rE 2 (File.enc true) x2)] (zF 2 (uJ («as»:=[sl 2 (File.enc false) a1.Files]) [(.tmp 5)] [23] false [] [] (.cons (.same rfl) (.nil)) (zCc.ok a1.Files) h3 (.own 3)) zB) ?_
 refine J_g 30 [] [(1,pp 0),(2,pp 1),(3,pp 2)] [(0,.box (zC.enc false a1)),(1,.box [nv,iv 0,iv 0,iv 0,bv false]),(2,.box [rr 3 x2,iv a1.Budget,iv 0,iv 0,bv false]),(3,rE 2 (File.enc true) x2)] zB ?_
 refine J_g 62 [] [(1,pp 0),(2,pp 1),(3,pp 2)] [(0,.box (zC.enc false a1)),(1,.box [nv,iv 0,iv 0,iv 0,bv false]),(2,.box [rr 3 x2,iv a1.Budget,iv a1.Writes,iv 0,bv false]),(3,rE 2 (File.enc true) x2)] zB ?_
 refine J_g 126 [] [(1,pp 0),(2,pp 1),(3,pp 2)] [(0,.box (zC.enc false a1)),(1,.box [nv,iv 0,iv 0,iv 0,bv false]),(2,.box [rr 3 x2,iv a1.Budget,iv a1.Writes,iv a1.Stop,bv false]),(3,rE 2 (File.enc true) x2)] zB ?_
 refine J_g 254 [] [(2,pp 1),(3,pp 2)] [(1,.box [nv,iv 0,iv 0,iv 0,bv false]),(2,.box [rr 3 x2,iv a1.Budget,iv a1.Writes,iv a1.Stop,bv a1.Down]),(3,rE 2 (File.enc true) x2)] zB ?_
 refine J_g 510 [] [(2,pp 1)] [(1,.box [rr 3 x2,iv a1.Budget,iv a1.Writes,iv a1.Stop,bv a1.Down]),(3,rE 2 (File.enc true) x2)] zB ?_
 exact zCT (ds:=[.ag [rr 3 x2,iv a1.Budget,iv a1.Writes,iv a1.Stop,bv a1.Down]]) (ds':=[.ag [so 2 (File.enc true) x2,iv a1.Budget,iv a1.Writes,iv a1.Stop,bv a1.Down]]) (.cons (.ag (.move (.tail _ (.head _)) (List.length_map _) (by decide) (.keep rfl (.keep rfl (.keep rfl (.keep rfl (.nil))))))) (.nil) (by decide)) rfl
noncomputable def zSm:Code:=(Tryz.f289.body).getD .skip
theorem vI.ok (a1:Int):Ok Tryz.prog 289 [uv a1] [] ((vI a1).map fun r=>(bv r,[])):=by
 refine zG zSm Tryz.f289 0 9 (fun q=>?_)
 unfold vI
 refine J_g 2 [] [(0,uv a1)] [] zB ?_
 refine wH (fun h2=>?_) (fun h2=>?_)
 ·refine J_g 6 [] [(2,bv (decide (a1≤122)))] [] (xW 2 [(4,bv (decide (a1≥97)))] [] h2 zB) ?_
  exact zN rfl
 ·refine J_g 6 [] [(2,bv false)] [] (xW 2 [(4,bv (decide (a1≥97)))] [] h2 zB) ?_
  exact zN rfl
noncomputable def c233:Code:=(Tryz.f233.body).getD .skip
theorem vQ.ok (a1:Int):Ok Tryz.prog 233 [uv a1] [] ((vQ a1).map fun r=>(bv r,[])):=by
 refine zG c233 Tryz.f233 0 9 (fun q=>?_)
 unfold vQ
 refine J_g 2 [] [(0,uv a1)] [] zB ?_
 refine wH (fun h2=>?_) (fun h2=>?_)
 ·refine J_g 6 [] [(2,bv (decide (a1≤57)))] [] (xW 2 [(4,bv (decide (a1≥48)))] [] h2 zB) ?_
  exact zN rfl
 ·refine J_g 6 [] [(2,bv false)] [] (xW 2 [(4,bv (decide (a1≥48)))] [] h2 zB) ?_
  exact zN rfl
noncomputable def c236:Code:=(Tryz.f236.body).getD .skip
theorem vW.ok (a1:Int):Ok Tryz.prog 236 [uv a1] [] ((vW a1).map fun r=>(bv r,[])):=by
 refine zG c236 Tryz.f236 0 13 (fun q=>?_)
 unfold vW
 refine J_g 2 [] [(0,uv a1)] [] zB ?_
 refine zA (fun x2 h3=>?_)
 refine wH (fun h4=>?_) (fun h4=>?_)
 ·refine J_g 6 [] [(2,bv true)] [] (zF 1 (xU [(.tmp 3)] [5] (vI.ok a1) h3) (xW 2 [(4,bv x2)] [] h4 zB)) ?_
  exact zN rfl
 ·refine zA (fun x5 h6=>?_)
  refine wH (fun h7=>?_) (fun h7=>?_)
  ·refine J_g 6 [] [(2,bv true)] [] (zF 1 (xU [(.tmp 3)] [5] (vI.ok a1) h3) (xW 2 [(4,bv x2)] [] h4 (zBS 4 2 5 false (xU [(.tmp 6)] [5] (vQ.ok a1) h6) (xW 6 [(8,bv x5)] [] h7 zB)))) ?_
   exact zN rfl
  ·refine J_g 6 [] [(2,bv (a1==95))] [] (zF 1 (xU [(.tmp 3)] [5] (vI.ok a1) h3) (xW 2 [(4,bv x2)] [] h4 (zBS 4 2 5 false (xU [(.tmp 6)] [5] (vQ.ok a1) h6) (xW 6 [(8,bv x5)] [] h7 zB)))) ?_
   exact zN rfl
noncomputable def c228:Code:=(Tryz.f228.body).getD .skip
theorem kK.ok (a1:ByteArray) (q:Wd) (kn:Unit→Option (D×List Ent)) (hk:∀v:Unit,J (q.g Tryz.prog 228 0 29) c228 (atI c228 15) (St.mk' [] []) (some v) kn):
  ∀s16:Int,J (q.g Tryz.prog 228 0 29) c228 (atI c228 116) (St.mk' [(0,sv a1),(3,iv s16)] []) (kK a1 s16) (Fl.go (fun r:Int=>some (iv r,[])) kn):=by
 refine kQ (fun g ih s16=>?_)
 unfold zBT
 refine J_d 464 [] [21] [(21,bv (decide (s16< (a1.size:Int))))] [] [] zB ?_
 refine zD 21 (fun h17=>?_) (fun h17=>?_)
 ·refine zA (fun x18 h19=>?_)
  refine zA (fun x20 h21=>?_)
  refine J_d 1864 [] [21,28] [(28,bv (!x20))] [] [] (zF 2 (zJZ (kk:=.i64) 9 (.tmp 24) (.tmp 25) h19) (zF 3 (xU [(.tmp 26)] [5] (vW.ok x18) h21) zB)) ?_
  refine zD 28 (fun h22=>?_) (fun h22=>?_)
  ·refine J_g 7460 [] [(2,iv 5)] [] zB ?_
   exact zN rfl
  ·refine J_g 467 [] [(0,sv a1),(3,iv (w64 (s16+1)))] [] zB ?_
   exact J_q (J_b (ih (w64 (s16+1)))) rfl
 ·exact xA (hk ()) rfl
theorem vE.ok (a1:ByteArray):Ok Tryz.prog 228 [sv a1] [] ((vE a1).map fun r=>(iv r,[])):=by
 refine zG c228 Tryz.f228 0 29 (fun q=>?_)
 unfold vE
 refine J_g 2 [] [(0,sv a1)] [] zB ?_
 refine xS (atI c228 13) (fun v8:Bool=>St.mk' [(0,sv a1),(17,bv v8)] []) (fun v8=>?_) (fun jv8=>?_)
 ·refine zD 17 (fun h9=>?_) (fun h9=>?_)
  ·refine J_g 52 [] [(2,iv 5)] [] zB ?_
   exact zN rfl
  ·refine J_g 28 [] [(0,sv a1),(3,iv 0)] [] zB ?_
   refine uR (K0:=(fun r:Int=>some (iv r,[]))) (fun _=>rfl) (kK.ok a1 q _ (fun v23=>J_j ?_) 0)
   refine J_g 30 [] [(2,iv 0)] [] zB ?_
   exact zN rfl
 ·refine wH (fun h2=>?_) (fun h2=>?_)
  ·refine J_g 12 [] [(0,sv a1),(17,bv true)] [] (xW 3 [(6,bv (decide ((a1.size:Int)<1)))] [] h2 zB) ?_
   exact xA (J_j (jv8 true)) rfl
  ·refine wH (fun h3=>?_) (fun h3=>?_)
   ·refine J_g 12 [] [(0,sv a1),(17,bv true)] [] (xW 3 [(6,bv (decide ((a1.size:Int)<1)))] [] h2 (xW 8 [(11,bv (decide ((a1.size:Int)>12)))] [] h3 zB)) ?_
    exact xA (J_j (jv8 true)) rfl
   ·refine zA (fun x4 h5=>?_)
    refine zA (fun x6 h7=>?_)
    refine J_g 12 [] [(0,sv a1),(17,bv (!x6))] [] (xW 3 [(6,bv (decide ((a1.size:Int)<1)))] [] h2 (xW 8 [(11,bv (decide ((a1.size:Int)>12)))] [] h3 (zBS 10 8 12 false (zJZ (kk:=.i64) 9 (.tmp 13) (.const (.int .i64 0)) h5) (zBS 11 8 12 false (xU [(.tmp 14)] [5] (vI.ok x4) h7) zB)))) ?_
    exact xA (J_j (jv8 (!x6))) rfl
noncomputable def c164:Code:=(Tryz.f164.body).getD .skip
theorem wE.ok (a1:Int) (a2:Int) (a3:Int):Ok Tryz.prog 164 [iv a1,iv a2,iv a3] [] ((wE a1 a2 a3).map fun r=>(bv r,[])):=by
 refine zG c164 Tryz.f164 0 15 (fun q=>?_)
 unfold wE
 refine J_d 2 [] [] [] [] [] zB ?_
 refine wH (fun h4=>?_) (fun h4=>?_)
 ·refine J_g 6 [] [(6,bv (decide (a1≤a3)))] [] (xW 3 [(9,bv (decide (a1≥a2)))] [] h4 zB) ?_
  exact zN rfl
 ·refine J_g 6 [] [(6,bv false)] [] (xW 3 [(9,bv (decide (a1≥a2)))] [] h4 zB) ?_
  exact zN rfl
noncomputable def c229:Code:=(Tryz.f229.body).getD .skip
theorem xQ.ok (a1:Version):Ok Tryz.prog 229 [.ag (Version.enc a1)] [] ((xQ a1).map fun r=>(iv r,[])):=by
 refine zG c229 Tryz.f229 0 19 (fun q=>?_)
 unfold xQ
 refine J_g 2 [(0,0)] [(1,pp 0)] [(0,.box (Version.enc a1))] zB ?_
 refine zA (fun x2 h3=>?_)
 refine xS (atI c229 13) (fun v10:Bool=>St.mk' [(18,bv v10)] []) (fun v10=>?_) (fun jv10=>?_)
 ·refine zD 18 (fun h11=>?_) (fun h11=>?_)
  ·refine J_g 52 [] [(2,iv 3)] [] zB ?_
   exact zN rfl
  ·refine J_g 14 [] [(2,iv 0)] [] zB ?_
   exact zN rfl
 ·refine wH (fun h4=>?_) (fun h4=>?_)
  ·refine J_g 12 [] [(18,bv true)] [] (zF 2 (xU [(.tmp 4),(.const (.int .i64 0)),(.const (.int .i64 999))] [2,2,2] (wE.ok a1.A 0 999) h3) (xW 4 [(6,bv (!x2))] [] h4 zB)) ?_
   exact xA (J_j (jv10 true)) rfl
  ·refine zA (fun x5 h6=>?_)
   refine wH (fun h7=>?_) (fun h7=>?_)
   ·refine J_g 12 [] [(18,bv true)] [] (zF 2 (xU [(.tmp 4),(.const (.int .i64 0)),(.const (.int .i64 999))] [2,2,2] (wE.ok a1.A 0 999) h3) (xW 4 [(6,bv (!x2))] [] h4 (zBS 7 4 7 false (xU [(.tmp 9),(.const (.int .i64 0)),(.const (.int .i64 999))] [2,2,2] (wE.ok a1.B 0 999) h6) (xW 10 [(12,bv (!x5))] [] h7 zB)))) ?_
    exact xA (J_j (jv10 true)) rfl
   ·refine zA (fun x8 h9=>?_)
    refine J_g 12 [] [(18,bv (!x8))] [] (zF 2 (xU [(.tmp 4),(.const (.int .i64 0)),(.const (.int .i64 999))] [2,2,2] (wE.ok a1.A 0 999) h3) (xW 4 [(6,bv (!x2))] [] h4 (zBS 7 4 7 false (xU [(.tmp 9),(.const (.int .i64 0)),(.const (.int .i64 999))] [2,2,2] (wE.ok a1.B 0 999) h6) (xW 10 [(12,bv (!x5))] [] h7 (zBS 13 10 13 false (xU [(.tmp 15),(.const (.int .i64 0)),(.const (.int .i64 999))] [2,2,2] (wE.ok a1.C 0 999) h9) zB))))) ?_
    exact xA (J_j (jv10 (!x8))) rfl
noncomputable def c119:Code:=(Tryz.f119.body).getD .skip
theorem zCf.ok (a1:(List ByteArray)) (a2:ByteArray) (q:Wd) (kn:Unit→Option (D×List Ent)) (hk:∀v:Unit,J (q.g Tryz.prog 119 0 18) c119 (atI c119 7) (St.mk' [] []) (some v) kn):
  ∀s7:Int,J (q.g Tryz.prog 119 0 18) c119 (atI c119 52) (St.mk' [(0,sl 1 eStr a1),(1,sv a2),(5,iv s7)] []) (zCf a1 a2 s7) (Fl.go (fun r:Bool=>some (bv r,[])) kn):=by
 refine kQ (fun g ih s7=>?_)
 unfold zB6
 refine J_d 208 [] [9] [(9,bv (decide (s7< (a1.length:Int))))] [] [] zB ?_
 refine zD 9 (fun h8=>?_) (fun h8=>?_)
 ·refine zA (fun x9 h10=>?_)
  refine J_d 840 [] [9,17] [(17,bv (seq x9 a2))] [] [] (zF 2 (tL (kk:=.i64) 86 9 1 eStr (.tmp 12) (.tmp 13) h10) zB) ?_
  refine zD 17 (fun h11=>?_) (fun h11=>?_)
  ·refine J_g 3364 [] [(4,bv true)] [] zB ?_
   exact zN rfl
  ·refine J_d 211 [] [5,17] [(5,iv (w64 (s7+1)))] [] [] zB ?_
   exact J_q (J_b (ih (w64 (s7+1)))) rfl
 ·exact xA (hk ()) rfl
theorem jZ.ok (a1:(List ByteArray)) (a2:ByteArray):Ok Tryz.prog 119 [sl 1 eStr a1,sv a2] [] ((jZ a1 a2).map fun r=>(bv r,[])):=by
 refine zG c119 Tryz.f119 0 18 (fun q=>?_)
 unfold jZ
 refine J_g 2 [] [(0,sl 1 eStr a1),(1,sv a2)] [] zB ?_
 refine J_d 12 [] [5] [(5,iv 0)] [] [] zB ?_
 refine uR (K0:=(fun r:Bool=>some (bv r,[]))) (fun _=>rfl) (zCf.ok a1 a2 q _ (fun v12=>J_j ?_) 0)
 refine J_g 14 [] [(4,bv false)] [] zB ?_
 exact zN rfl
noncomputable def zSb:Code:=(Tryz.f292.body).getD .skip
theorem zEf.ok:Ok Tryz.prog 292 [] [] ((zEf).map fun r=>(.ag (Version.enc r),[])):=by
 refine zG zSb Tryz.f292 0 2 (fun q=>?_)
 unfold zEf
 refine J_g 2 [(0,0)] [(0,pp 0)] [(0,.box [iv 0,iv 0,iv 0])] zB ?_
 refine J_g 6 [] [(0,pp 0)] [(0,.box [iv 1000,iv 0,iv 0])] zB ?_
 exact zN rfl
noncomputable def zRY:Code:=(Tryz.f290.body).getD .skip
theorem zAg.ok (a1:Int) (a2:Int):Ok Tryz.prog 290 [iv a1,iv a2] [] ((zAg a1 a2).map fun r=>(iv r,[])):=by
 refine zG zRY Tryz.f290 0 11 (fun q=>?_)
 unfold zAg
 refine J_g 2 [] [(0,iv a1),(1,iv a2)] [] zB ?_
 refine J_d 12 [] [7] [(7,bv (decide (a1<a2)))] [] [] zB ?_
 refine zD 7 (fun h3=>?_) (fun h3=>?_)
 ·refine J_g 52 [] [(4,iv (-1))] [] zB ?_
  exact zN rfl
 ·refine J_g 28 [] [(10,bv (decide (a1>a2)))] [] zB ?_
  refine zD 10 (fun h4=>?_) (fun h4=>?_)
  ·refine J_g 116 [] [(4,iv 1)] [] zB ?_
   exact zN rfl
  ·refine J_g 30 [] [(4,iv 0)] [] zB ?_
   exact zN rfl
noncomputable def zSg:Code:=(Tryz.f231.body).getD .skip
theorem yS.ok (a1:Version) (a2:Version):Ok Tryz.prog 231 [.ag (Version.enc a1),.ag (Version.enc a2)] [] ((yS a1 a2).map fun r=>(iv r,[])):=by
 refine zG zSg Tryz.f231 0 28 (fun q=>?_)
 unfold yS
 refine J_g 2 [(0,0),(1,1)] [(2,pp 0),(3,pp 1)] [(0,.box (Version.enc a1)),(1,.box (Version.enc a2))] zB ?_
 refine zA (fun x3 h4=>?_)
 refine J_g 12 [] [(2,pp 0),(3,pp 1),(5,iv x3)] [(0,.box (Version.enc a1)),(1,.box (Version.enc a2))] (zF 4 (xU [(.tmp 8),(.tmp 10)] [2,2] (zAg.ok a1.A a2.A) h4) zB) ?_
 refine J_d 26 [] [13] [(13,bv (x3 !=0))] [] [] zB ?_
 refine zD 13 (fun h5=>?_) (fun h5=>?_)
 ·refine J_g 108 [] [(4,iv x3)] [] zB ?_
  exact zN rfl
 ·refine zA (fun x6 h7=>?_)
  refine J_g 28 [] [(2,pp 0),(3,pp 1),(6,iv x6)] [(0,.box (Version.enc a1)),(1,.box (Version.enc a2))] (zF 4 (xU [(.tmp 16),(.tmp 18)] [2,2] (zAg.ok a1.B a2.B) h7) zB) ?_
  refine J_d 58 [] [21] [(21,bv (x6 !=0))] [] [] zB ?_
  refine zD 21 (fun h8=>?_) (fun h8=>?_)
  ·refine J_g 236 [] [(4,iv x6)] [] zB ?_
   exact zN rfl
  ·refine zA (fun x9 h10=>?_)
   refine J_g 30 [] [(4,iv x9)] [] (zF 4 (xU [(.tmp 24),(.tmp 26)] [2,2] (zAg.ok a1.C a2.C) h10) zB) ?_
   exact zN rfl
noncomputable def zRA:Code:=(Tryz.f238.body).getD .skip
theorem zAQ.ok (a1:Term):Ok Tryz.prog 238 [.ag (Term.enc a1)] [] ((zAQ a1).map fun r=>(iv r,[])):=by
 refine zG zRA Tryz.f238 0 33 (fun q=>?_)
 unfold zAQ
 refine J_g 2 [(0,0)] [(1,pp 0)] [(0,.box (Term.enc a1))] zB ?_
 refine zA (fun x2 h3=>?_)
 refine J_g 12 [] [(1,pp 0),(3,iv x2)] [(0,.box (Term.enc a1))] (zF 2 (xU [(.tmp 6)] [9] (vE.ok a1.Name) h3) zB) ?_
 refine J_d 26 [] [9] [(9,bv (x2 !=0))] [] [] zB ?_
 refine zD 9 (fun h4=>?_) (fun h4=>?_)
 ·refine J_g 108 [] [(2,iv x2)] [] zB ?_
  exact zN rfl
 ·refine zA (fun x5 h6=>?_)
  refine J_g 28 [] [(1,pp 0),(4,iv x5)] [(0,.box (Term.enc a1))] (zF 2 (xU [(.tmp 12)] [99] (xQ.ok a1.Low) h6) zB) ?_
  refine J_d 58 [] [15] [(15,bv (x5 !=0))] [] [] zB ?_
  refine zD 15 (fun h7=>?_) (fun h7=>?_)
  ·refine J_g 236 [] [(2,iv x5)] [] zB ?_
   exact zN rfl
  ·refine zA (fun x8 h9=>?_)
   refine xS (atI zRA 61) (fun v13:Bool=>St.mk' [(1,pp 0),(26,bv v13)] [(0,.box (Term.enc a1))]) (fun v13=>?_) (fun jv13=>?_)
   ·refine zD 26 (fun h14=>?_) (fun h14=>?_)
    ·refine J_g 244 [] [(2,iv 3)] [] zB ?_
     exact zN rfl
    ·refine zA (fun x15 h16=>?_)
     refine J_g 124 [] [(32,bv (decide (x15≥0)))] [] (zF 4 (xU [(.tmp 28),(.tmp 30)] [99,99] (yS.ok a1.Low a1.High) h16) zB) ?_
     refine zD 32 (fun h17=>?_) (fun h17=>?_)
     ·refine J_g 500 [] [(2,iv 1)] [] zB ?_
      exact zN rfl
     ·refine J_g 126 [] [(2,iv 0)] [] zB ?_
      exact zN rfl
   ·refine wH (fun h10=>?_) (fun h10=>?_)
    ·refine zA (fun x11 h12=>?_)
     refine J_d 60 [] [4,15,26] [(26,bv (x11 !=0))] [] [] (zF 2 (xU [] [] (zEf.ok) h9) (zF 3 (zN1 (b:=.neq) (r:=(a1.High.A==x8.A&&(a1.High.B==x8.B&&(a1.High.C==x8.C&&true)))) 99 99 (.tmp 18) (.tmp 19) [.int .i64 a1.High.A,.int .i64 a1.High.B,.int .i64 a1.High.C] [.int .i64 x8.A,.int .i64 x8.B,.int .i64 x8.C] (.inr ⟨rfl,rfl⟩)) (xW 4 [(20,bv (!(a1.High.A==x8.A&&(a1.High.B==x8.B&&(a1.High.C==x8.C&&true)))))] [] h10 (zBS 7 4 21 true (xU [(.tmp 23)] [99] (xQ.ok a1.High) h12) zB)))) ?_
     exact xA (J_j (jv13 (x11 !=0))) rfl
    ·refine J_d 60 [] [4,15,26] [(26,bv false)] [] [] (zF 2 (xU [] [] (zEf.ok) h9) (zF 3 (zN1 (b:=.neq) (r:=(a1.High.A==x8.A&&(a1.High.B==x8.B&&(a1.High.C==x8.C&&true)))) 99 99 (.tmp 18) (.tmp 19) [.int .i64 a1.High.A,.int .i64 a1.High.B,.int .i64 a1.High.C] [.int .i64 x8.A,.int .i64 x8.B,.int .i64 x8.C] (.inr ⟨rfl,rfl⟩)) (xW 4 [(20,bv (!(a1.High.A==x8.A&&(a1.High.B==x8.B&&(a1.High.C==x8.C&&true)))))] [] h10 zB))) ?_
     exact xA (J_j (jv13 false)) rfl
noncomputable def zQM:Code:=(Tryz.f230.body).getD .skip
theorem zCm.ok (a1:(List Term)) (q:Wd) (kn:Unit→Option (D×List Ent)) (hk:∀v:Unit,J (q.g Tryz.prog 230 0 19) zQM (atI zQM 7) (St.mk' [] []) (some v) kn):
  ∀s8:Int,J (q.g Tryz.prog 230 0 19) zQM (atI zQM 52) (St.mk' [(0,sl 7 Term.enc a1),(3,iv s8)] []) (zCm a1 s8) (Fl.go (fun r:Int=>some (iv r,[])) kn):=by
 refine kQ (fun g ih s8=>?_)
 unfold zBA
 refine J_d 208 [] [8] [(8,bv (decide (s8< (a1.length:Int))))] [] [] zB ?_
 refine zD 8 (fun h9=>?_) (fun h9=>?_)
 ·refine zA (fun x10 h11=>?_)
  refine zA (fun x12 h13=>?_)
  refine J_g 840 [] [(0,sl 7 Term.enc a1),(3,iv s8),(4,iv x12)] [] (zF 2 (tL (kk:=.i64) 75 149 7 Term.enc (.tmp 11) (.tmp 12) h11) (zF 4 (xU [(.tmp 14)] [149] (zAQ.ok x10) h13) zB)) ?_
  refine J_d 1682 [] [17] [(17,bv (x12 !=0))] [] [] zB ?_
  refine zD 17 (fun h14=>?_) (fun h14=>?_)
  ·refine J_g 6732 [] [(2,iv x12)] [] zB ?_
   exact zN rfl
  ·refine J_g 211 [] [(0,sl 7 Term.enc a1),(3,iv (w64 (s8+1)))] [] zB ?_
   exact J_q (J_b (ih (w64 (s8+1)))) rfl
 ·exact xA (hk ()) rfl
theorem kC.ok (a1:(List Term)):Ok Tryz.prog 230 [sl 7 Term.enc a1] [] ((kC a1).map fun r=>(iv r,[])):=by
 refine zG zQM Tryz.f230 0 19 (fun q=>?_)
 unfold kC
 refine J_g 2 [] [(0,sl 7 Term.enc a1)] [] zB ?_
 refine J_d 12 [] [3] [(3,iv 0)] [] [] zB ?_
 refine uR (K0:=(fun r:Int=>some (iv r,[]))) (fun _=>rfl) (zCm.ok a1 q _ (fun v15=>J_j ?_) 0)
 refine J_g 14 [] [(2,iv 0)] [] zB ?_
 exact zN rfl
noncomputable def c162:Code:=(Tryz.f162.body).getD .skip
theorem kH.ok (a1:Pack) (q:Wd) (kn:Unit→Option (D×List Ent)) (hk:∀v:Unit,J (q.g Tryz.prog 162 0 118) c162 (atI c162 511) (St.mk' [(1,pp 0)] [(0,.box (Pack.enc false a1))]) (some v) kn):
  ∀s70:Int,J (q.g Tryz.prog 162 0 118) c162 (atI c162 4084) (St.mk' [(1,pp 0),(8,iv s70)] [(0,.box (Pack.enc false a1))]) (kH a1 s70) (Fl.go (fun r:Int=>some (iv r,[])) kn):=by
 refine kQ (fun g ih s70=>?_)
 unfold zA9
 refine J_d 16336 [] [96] [(96,bv (decide (s70< (a1.Needs.length:Int))))] [] [] zB ?_
 refine zD 96 (fun h71=>?_) (fun h71=>?_)
 ·refine zA (fun x72 h73=>?_)
  refine J_d 130704 [] [96,105] [(105,bv ((x72.length:Int)==0))] [] [] (zF 3 (tL (kk:=.i64) 100 75 1 (eSl false 7 Term.enc) (.tmp 100) (.tmp 101) h73) zB) ?_
  refine zD 105 (fun h74=>?_) (fun h74=>?_)
  ·refine J_g 522820 [] [(2,iv 1)] [] zB ?_
   exact zN rfl
  ·refine zA (fun x75 h76=>?_)
   refine zA (fun x77 h78=>?_)
   refine J_g 130706 [] [(1,pp 0),(8,iv s70),(9,iv x77)] [(0,.box (Pack.enc false a1))] (zF 3 (tL (kk:=.i64) 100 75 1 (eSl false 7 Term.enc) (.tmp 107) (.tmp 108) h76) (zF 5 (xU [(.tmp 110)] [75] (kC.ok x75) h78) zB)) ?_
   refine J_d 261414 [] [113] [(113,bv (x77 !=0))] [] [] zB ?_
   refine zD 113 (fun h79=>?_) (fun h79=>?_)
   ·refine J_g 1045660 [] [(2,iv x77)] [] zB ?_
    exact zN rfl
   ·refine J_d 16339 [] [8,9,113] [(8,iv (w64 (s70+1)))] [] [] zB ?_
    exact J_q (J_b (ih (w64 (s70+1)))) rfl
 ·exact xA (hk ()) rfl
theorem kL.ok (a1:Pack) (q:Wd) (kn:Unit→Option (D×List Ent)) (hk:∀v:Unit,J (q.g Tryz.prog 162 0 118) c162 (atI c162 255) (St.mk' [(1,pp 0)] [(0,.box (Pack.enc false a1))]) (some v) kn):
  ∀s42:Int,J (q.g Tryz.prog 162 0 118) c162 (atI c162 2036) (St.mk' [(1,pp 0),(6,iv s42)] [(0,.box (Pack.enc false a1))]) (kL a1 s42) (Fl.go (fun r:Int=>some (iv r,[])) kn):=by
 refine kQ (fun g ih s42=>?_)
 unfold zAu
 refine J_d 8144 [] [60] [(60,bv (decide (s42< (a1.Provides.length:Int))))] [] [] zB ?_
 refine zD 60 (fun h43=>?_) (fun h43=>?_)
 ·refine zA (fun x44 h45=>?_)
  refine zA (fun x46 h47=>?_)
  refine J_g 65168 [] [(1,pp 0),(6,iv s42),(7,iv x46)] [(0,.box (Pack.enc false a1))] (zF 3 (tL (kk:=.i64) 86 9 1 eStr (.tmp 64) (.tmp 65) h45) (zF 5 (xU [(.tmp 67)] [9] (vE.ok x44) h47) zB)) ?_
  refine J_d 130338 [] [70] [(70,bv (x46 !=0))] [] [] zB ?_
  refine zD 70 (fun h48=>?_) (fun h48=>?_)
  ·refine J_g 521356 [] [(2,iv x46)] [] zB ?_
   exact zN rfl
  ·refine zA (fun x49 h50=>?_)
   refine xS (atI c162 65171) (fun v58:Bool=>St.mk' [(1,pp 0),(6,iv s42),(91,bv v58)] [(0,.box (Pack.enc false a1))]) (fun v58=>?_) (fun jv58=>?_)
   ·refine zD 91 (fun h59=>?_) (fun h59=>?_)
    ·refine J_g 260684 [] [(2,iv 6)] [] zB ?_
     exact zN rfl
    ·refine J_d 8147 [] [6,91] [(6,iv (w64 (s42+1)))] [] [] zB ?_
     exact J_q (J_b (ih (w64 (s42+1)))) rfl
   ·refine wH (fun h51=>?_) (fun h51=>?_)
    ·refine J_d 65170 [] [7,70,91] [(91,bv true)] [] [] (zF 3 (tL (kk:=.i64) 86 9 1 eStr (.tmp 73) (.tmp 74) h50) (xW 8 [(79,bv (seq x49 a1.Name))] [] h51 zB)) ?_
     exact xA (J_j (jv58 true)) rfl
    ·refine zA (fun x52 h53=>?_)
     refine zA (fun x54 h55=>?_)
     refine zA (fun x56 h57=>?_)
     refine J_d 65170 [] [7,70,91] [(91,bv x56)] [] [] (zF 3 (tL (kk:=.i64) 86 9 1 eStr (.tmp 73) (.tmp 74) h50) (xW 8 [(79,bv (seq x49 a1.Name))] [] h51 (zBS 12 8 80 false (zQJ 86 9 1 eStr (.tmp 82) none (some (.tmp 83)) h53) (zBS 16 8 80 false (tL (kk:=.i64) 86 9 1 eStr (.tmp 86) (.tmp 87) h55) (zBS 18 8 80 false (xU [(.tmp 84),(.tmp 89)] [86,9] (jZ.ok x52 x54) h57) zB))))) ?_
     exact xA (J_j (jv58 x56)) rfl
 ·exact xA (hk ()) rfl
theorem zAV.ok (a1:Pack) (q:Wd) (kn:Unit→Option (D×List Ent)) (hk:∀v:Unit,J (q.g Tryz.prog 162 0 118) c162 (atI c162 127) (St.mk' [(1,pp 0)] [(0,.box (Pack.enc false a1))]) (some v) kn):
  ∀s19:Int,J (q.g Tryz.prog 162 0 118) c162 (atI c162 1012) (St.mk' [(1,pp 0),(5,iv s19)] [(0,.box (Pack.enc false a1))]) (zAV a1 s19) (Fl.go (fun r:Int=>some (iv r,[])) kn):=by
 refine kQ (fun g ih s19=>?_)
 unfold zA1
 refine J_d 4048 [] [46] [(46,bv (decide (s19< (a1.Needs.length:Int))))] [] [] zB ?_
 refine zD 46 (fun h20=>?_) (fun h20=>?_)
 ·refine zA (fun x21 h22=>?_)
  refine J_d 16200 [] [46,55] [(55,bv (decide ((x21.length:Int)>4)))] [] [] (zF 3 (tL (kk:=.i64) 100 75 1 (eSl false 7 Term.enc) (.tmp 50) (.tmp 51) h22) zB) ?_
  refine zD 55 (fun h23=>?_) (fun h23=>?_)
  ·refine J_g 64804 [] [(2,iv 2)] [] zB ?_
   exact zN rfl
  ·refine J_d 4051 [] [5,55] [(5,iv (w64 (s19+1)))] [] [] zB ?_
   exact J_q (J_b (ih (w64 (s19+1)))) rfl
 ·exact xA (hk ()) rfl
theorem zAH.ok (a1:Pack):Ok Tryz.prog 162 [.ag (Pack.enc false a1)] [] ((zAH a1).map fun r=>(iv r,[])):=by
 refine zG c162 Tryz.f162 0 118 (fun q=>?_)
 unfold zAH
 refine J_g 2 [(0,0)] [(1,pp 0)] [(0,.box (Pack.enc false a1))] zB ?_
 refine zA (fun x2 h3=>?_)
 refine J_g 12 [] [(1,pp 0),(3,iv x2)] [(0,.box (Pack.enc false a1))] (zF 2 (xU [(.tmp 11)] [9] (vE.ok a1.Name) h3) zB) ?_
 refine J_d 26 [] [14] [(14,bv (x2 !=0))] [] [] zB ?_
 refine zD 14 (fun h4=>?_) (fun h4=>?_)
 ·refine J_g 108 [] [(2,iv x2)] [] zB ?_
  exact zN rfl
 ·refine zA (fun x5 h6=>?_)
  refine J_g 28 [] [(1,pp 0),(4,iv x5)] [(0,.box (Pack.enc false a1))] (zF 2 (xU [(.tmp 17)] [99] (xQ.ok a1.Version) h6) zB) ?_
  refine J_d 58 [] [20] [(20,bv (x5 !=0))] [] [] zB ?_
  refine zD 20 (fun h7=>?_) (fun h7=>?_)
  ·refine J_g 236 [] [(2,iv x5)] [] zB ?_
   exact zN rfl
  ·refine zA (fun x8 h9=>?_)
   refine J_d 60 [] [4,20,25] [(25,bv (!x8))] [] [] (zF 2 (xU [(.tmp 23),(.const (.int .i64 1)),(.const (.int .i64 200))] [2,2,2] (wE.ok a1.Size 1 200) h9) zB) ?_
   refine zD 25 (fun h10=>?_) (fun h10=>?_)
   ·refine J_g 244 [] [(2,iv 3)] [] zB ?_
    exact zN rfl
   ·refine xS (atI c162 125) (fun v13:Bool=>St.mk' [(1,pp 0),(41,bv v13)] [(0,.box (Pack.enc false a1))]) (fun v13=>?_) (fun jv13=>?_)
    ·refine zD 41 (fun h14=>?_) (fun h14=>?_)
     ·refine J_g 500 [] [(2,iv 2)] [] zB ?_
      exact zN rfl
     ·refine J_d 252 [] [5,41] [(5,iv 0)] [] [] zB ?_
      refine uR (K0:=(fun r:Int=>some (iv r,[]))) (fun _=>rfl) (zAV.ok a1 q _ (fun v24=>J_j ?_) 0)
      refine J_d 508 [] [6] [(6,iv 0)] [] [] zB ?_
      refine uR (K0:=(fun r:Int=>some (iv r,[]))) (fun _=>rfl) (kL.ok a1 q _ (fun v60=>J_j ?_) 0)
      refine J_d 1020 [] [8] [(8,iv 0)] [] [] zB ?_
      refine uR (K0:=(fun r:Int=>some (iv r,[]))) (fun _=>rfl) (kH.ok a1 q _ (fun v80=>J_j ?_) 0)
      refine zA (fun x81 h82=>?_)
      refine J_g 1022 [] [(2,iv x81)] [] (zF 2 (xU [(.tmp 116)] [75] (kC.ok a1.Bars) h82) zB) ?_
      exact zN rfl
    ·refine wH (fun h11=>?_) (fun h11=>?_)
     ·refine J_d 124 [] [25,41] [(41,bv true)] [] [] (xW 4 [(29,bv (decide ((a1.Provides.length:Int)>4)))] [] h11 zB) ?_
      exact xA (J_j (jv13 true)) rfl
     ·refine wH (fun h12=>?_) (fun h12=>?_)
      ·refine J_d 124 [] [25,41] [(41,bv true)] [] [] (xW 4 [(29,bv (decide ((a1.Provides.length:Int)>4)))] [] h11 (xW 10 [(35,bv (decide ((a1.Needs.length:Int)>4)))] [] h12 zB)) ?_
       exact xA (J_j (jv13 true)) rfl
      ·refine J_d 124 [] [25,41] [(41,bv (decide ((a1.Bars.length:Int)>4)))] [] [] (xW 4 [(29,bv (decide ((a1.Provides.length:Int)>4)))] [] h11 (xW 10 [(35,bv (decide ((a1.Needs.length:Int)>4)))] [] h12 zB)) ?_
       exact xA (J_j (jv13 (decide ((a1.Bars.length:Int)>4)))) rfl
noncomputable def zPI:Code:=(Tryz.f163.body).getD .skip
theorem zCZ.ok (a1:(List Pack)) (a2:ByteArray) (a3:Version) (q:Wd) (kn:Unit→Option (D×List Ent)) (hk:∀v:Unit,J (q.g Tryz.prog 163 0 32) zPI (atI zPI 7) (St.mk' [] []) (some v) kn):
  ∀s14:Int,J (q.g Tryz.prog 163 0 32) zPI (atI zPI 52) (St.mk' [(0,sl 8 (Pack.enc false) a1),(1,sv a2),(5,pp 0),(7,iv s14)] [(0,.box (Version.enc a3))]) (zCZ a1 a2 a3 s14) (Fl.go (fun r:Int=>some (iv r,[])) kn):=by
 refine kQ (fun g ih s14=>?_)
 unfold zCr
 refine J_d 208 [] [11] [(11,bv (decide (s14< (a1.length:Int))))] [] [] zB ?_
 refine zD 11 (fun h15=>?_) (fun h15=>?_)
 ·refine zA (fun x16 h17=>?_)
  refine xS (atI zPI 841) (fun v23:Bool=>St.mk' [(0,sl 8 (Pack.enc false) a1),(1,sv a2),(5,pp 0),(7,iv s14),(30,bv v23)] [(0,.box (Version.enc a3))]) (fun v23=>?_) (fun jv23=>?_)
  ·refine zD 30 (fun h24=>?_) (fun h24=>?_)
   ·refine J_g 3364 [] [(6,iv s14)] [] zB ?_
    exact zN rfl
   ·refine J_d 211 [] [7,30] [(7,iv (w64 (s14+1)))] [] [] zB ?_
    exact J_q (J_b (ih (w64 (s14+1)))) rfl
  ·refine wH (fun h18=>?_) (fun h18=>?_)
   ·refine zA (fun x19 h20=>?_)
    refine zA (fun x21 h22=>?_)
    refine J_d 840 [] [11,30] [(30,bv (x21==0))] [] [] (zF 2 (tL (kk:=.i64) 30 102 8 (Pack.enc false) (.tmp 14) (.tmp 15) h17) (xW 7 [(20,bv (seq x16.Name a2))] [] h18 (zBS 10 7 21 true (tL (kk:=.i64) 30 102 8 (Pack.enc false) (.tmp 22) (.tmp 23) h20) (zBS 14 7 21 true (xU [(.tmp 26),(.tmp 27)] [99,99] (yS.ok x19.Version a3) h22) zB)))) ?_
    exact xA (J_j (jv23 (x21==0))) rfl
   ·refine J_d 840 [] [11,30] [(30,bv false)] [] [] (zF 2 (tL (kk:=.i64) 30 102 8 (Pack.enc false) (.tmp 14) (.tmp 15) h17) (xW 7 [(20,bv (seq x16.Name a2))] [] h18 zB)) ?_
    exact xA (J_j (jv23 false)) rfl
 ·exact xA (hk ()) rfl
theorem kU.ok (a1:(List Pack)) (a2:ByteArray) (a3:Version):Ok Tryz.prog 163 [sl 8 (Pack.enc false) a1,sv a2,.ag (Version.enc a3)] [] ((kU a1 a2 a3).map fun r=>(iv r,[])):=by
 refine zG zPI Tryz.f163 0 32 (fun q=>?_)
 unfold kU
 refine J_g 2 [(0,0)] [(0,sl 8 (Pack.enc false) a1),(1,sv a2),(5,pp 0)] [(0,.box (Version.enc a3))] zB ?_
 refine J_d 12 [] [7] [(7,iv 0)] [] [] zB ?_
 refine uR (K0:=(fun r:Int=>some (iv r,[]))) (fun _=>rfl) (zCZ.ok a1 a2 a3 q _ (fun v25=>J_j ?_) 0)
 refine J_g 14 [] [(6,iv (-1))] [] zB ?_
 exact zN rfl
noncomputable def c90:Code:=(Tryz.f90.body).getD .skip
theorem jP.ok (a1:(List Pack)) (q:Wd) (kn:Unit→Option (D×List Ent)) (hk:∀v:Unit,J (q.g Tryz.prog 90 0 37) c90 (atI c90 15) (St.mk' [] []) (some v) kn):
  ∀s18:Int,J (q.g Tryz.prog 90 0 37) c90 (atI c90 116) (St.mk' [(0,sl 8 (Pack.enc false) a1),(3,iv s18)] []) (jP a1 s18) (Fl.go (fun r:Int=>some (iv r,[])) kn):=by
 refine kQ (fun g ih s18=>?_)
 unfold tZ
 refine J_d 464 [] [11] [(11,bv (decide (s18< (a1.length:Int))))] [] [] zB ?_
 refine zD 11 (fun h19=>?_) (fun h19=>?_)
 ·refine zA (fun x20 h21=>?_)
  refine zA (fun x22 h23=>?_)
  refine J_g 3728 [] [(0,sl 8 (Pack.enc false) a1),(3,iv s18),(4,iv x22)] [] (zF 2 (tL (kk:=.i64) 30 102 8 (Pack.enc false) (.tmp 14) (.tmp 15) h21) (zF 4 (xU [(.tmp 17)] [102] (zAH.ok x20) h23) zB)) ?_
  refine J_d 7458 [] [20] [(20,bv (x22 !=0))] [] [] zB ?_
  refine zD 20 (fun h24=>?_) (fun h24=>?_)
  ·refine J_g 29836 [] [(2,iv x22)] [] zB ?_
   exact zN rfl
  ·refine zA (fun x25 h26=>?_)
   refine zA (fun x27 h28=>?_)
   refine zA (fun x29 h30=>?_)
   refine zA (fun x31 h32=>?_)
   refine J_d 3730 [] [4,20,36] [(36,bv (decide (x31≥0)))] [] [] (zF 2 (zQJ 30 102 8 (Pack.enc false) (.tmp 22) none (some (.tmp 23)) h26) (zF 5 (tL (kk:=.i64) 30 102 8 (Pack.enc false) (.tmp 25) (.tmp 26) h28) (zF 10 (tL (kk:=.i64) 30 102 8 (Pack.enc false) (.tmp 30) (.tmp 31) h30) (zF 13 (xU [(.tmp 24),(.tmp 29),(.tmp 34)] [30,9,99] (kU.ok x25 x27.Name x29.Version) h32) zB)))) ?_
   refine zD 36 (fun h33=>?_) (fun h33=>?_)
   ·refine J_g 14924 [] [(2,iv 6)] [] zB ?_
    exact zN rfl
   ·refine J_d 467 [] [3,36] [(3,iv (w64 (s18+1)))] [] [] zB ?_
    exact J_q (J_b (ih (w64 (s18+1)))) rfl
 ·exact xA (hk ()) rfl
theorem tF.ok (a1:(List Pack)):Ok Tryz.prog 90 [sl 8 (Pack.enc false) a1] [] ((tF a1).map fun r=>(iv r,[])):=by
 refine zG c90 Tryz.f90 0 37 (fun q=>?_)
 unfold tF
 refine J_g 2 [] [(0,sl 8 (Pack.enc false) a1)] [] zB ?_
 refine J_d 12 [] [7] [(7,bv (decide ((a1.length:Int)>24)))] [] [] zB ?_
 refine zD 7 (fun h2=>?_) (fun h2=>?_)
 ·refine J_g 52 [] [(2,iv 2)] [] zB ?_
  exact zN rfl
 ·refine J_d 28 [] [3,7] [(3,iv 0)] [] [] zB ?_
  refine uR (K0:=(fun r:Int=>some (iv r,[]))) (fun _=>rfl) (jP.ok a1 q _ (fun v34=>J_j ?_) 0)
  refine J_g 30 [] [(2,iv 0)] [] zB ?_
  exact zN rfl
noncomputable def c232:Code:=(Tryz.f232.body).getD .skip
theorem zD3.ok (a1:Int):Ok Tryz.prog 232 [uv a1] [] ((zD3 a1).map fun r=>(bv r,[])):=by
 refine zG c232 Tryz.f232 0 17 (fun q=>?_)
 unfold zD3
 refine J_g 2 [] [(0,uv a1)] [] zB ?_
 refine zA (fun x2 h3=>?_)
 refine wH (fun h4=>?_) (fun h4=>?_)
 ·refine J_g 6 [] [(2,bv true)] [] (zF 1 (xU [(.tmp 3)] [5] (vW.ok a1) h3) (xW 2 [(4,bv x2)] [] h4 zB)) ?_
  exact zN rfl
 ·refine wH (fun h5=>?_) (fun h5=>?_)
  ·refine J_g 6 [] [(2,bv true)] [] (zF 1 (xU [(.tmp 3)] [5] (vW.ok a1) h3) (xW 2 [(4,bv x2)] [] h4 (xW 6 [(8,bv (a1==46))] [] h5 zB))) ?_
   exact zN rfl
  ·refine wH (fun h6=>?_) (fun h6=>?_)
   ·refine J_g 6 [] [(2,bv true)] [] (zF 1 (xU [(.tmp 3)] [5] (vW.ok a1) h3) (xW 2 [(4,bv x2)] [] h4 (xW 6 [(8,bv (a1==46))] [] h5 (xW 10 [(12,bv (a1==45))] [] h6 zB)))) ?_
    exact zN rfl
   ·refine J_g 6 [] [(2,bv (a1==47))] [] (zF 1 (xU [(.tmp 3)] [5] (vW.ok a1) h3) (xW 2 [(4,bv x2)] [] h4 (xW 6 [(8,bv (a1==46))] [] h5 (xW 10 [(12,bv (a1==45))] [] h6 zB)))) ?_
    exact zN rfl
noncomputable def zPR:Code:=(Tryz.f165.body).getD .skip
theorem uU.ok (a1:ByteArray) (q:Wd) (kn:Unit→Option (D×List Ent)) (hk:∀v:Unit,J (q.g Tryz.prog 165 0 23) zPR (atI zPR 15) (St.mk' [] []) (some v) kn):
  ∀s11:Int,J (q.g Tryz.prog 165 0 23) zPR (atI zPR 116) (St.mk' [(0,sv a1),(3,iv s11)] []) (uU a1 s11) (Fl.go (fun r:Int=>some (iv r,[])) kn):=by
 refine kQ (fun g ih s11=>?_)
 unfold jI
 refine J_d 464 [] [15] [(15,bv (decide (s11< (a1.size:Int))))] [] [] zB ?_
 refine zD 15 (fun h12=>?_) (fun h12=>?_)
 ·refine zA (fun x13 h14=>?_)
  refine zA (fun x15 h16=>?_)
  refine J_d 1864 [] [15,22] [(22,bv (!x15))] [] [] (zF 2 (zJZ (kk:=.i64) 9 (.tmp 18) (.tmp 19) h14) (zF 3 (xU [(.tmp 20)] [5] (zD3.ok x13) h16) zB)) ?_
  refine zD 22 (fun h17=>?_) (fun h17=>?_)
  ·refine J_g 7460 [] [(2,iv 5)] [] zB ?_
   exact zN rfl
  ·refine J_g 467 [] [(0,sv a1),(3,iv (w64 (s11+1)))] [] zB ?_
   exact J_q (J_b (ih (w64 (s11+1)))) rfl
 ·exact xA (hk ()) rfl
theorem vG.ok (a1:ByteArray):Ok Tryz.prog 165 [sv a1] [] ((vG a1).map fun r=>(iv r,[])):=by
 refine zG zPR Tryz.f165 0 23 (fun q=>?_)
 unfold vG
 refine J_g 2 [] [(0,sv a1)] [] zB ?_
 refine xS (atI zPR 13) (fun v3:Bool=>St.mk' [(0,sv a1),(11,bv v3)] []) (fun v3=>?_) (fun jv3=>?_)
 ·refine zD 11 (fun h4=>?_) (fun h4=>?_)
  ·refine J_g 52 [] [(2,iv 5)] [] zB ?_
   exact zN rfl
  ·refine J_g 28 [] [(0,sv a1),(3,iv 0)] [] zB ?_
   refine uR (K0:=(fun r:Int=>some (iv r,[]))) (fun _=>rfl) (uU.ok a1 q _ (fun v18=>J_j ?_) 0)
   refine J_g 30 [] [(2,iv 0)] [] zB ?_
   exact zN rfl
 ·refine wH (fun h2=>?_) (fun h2=>?_)
  ·refine J_g 12 [] [(0,sv a1),(11,bv true)] [] (xW 3 [(6,bv (decide ((a1.size:Int)<1)))] [] h2 zB) ?_
   exact xA (J_j (jv3 true)) rfl
  ·refine J_g 12 [] [(0,sv a1),(11,bv (decide ((a1.size:Int)>40)))] [] (xW 3 [(6,bv (decide ((a1.size:Int)<1)))] [] h2 zB) ?_
   exact xA (J_j (jv3 (decide ((a1.size:Int)>40)))) rfl
noncomputable def zNO:Code:=(Tryz.f150.body).getD .skip
theorem zBi.ok (a1:zC) (q:Wd) (kn:Int→Option (D×List Ent)) (hk:∀v:Int,J (q.g Tryz.prog 150 1 26) zNO (atI zNO 15) (St.mk' [(3,iv v)] [(0,.box (zC.enc false a1))]) (some v) kn):
  ∀s5:(Int×Int),J (q.g Tryz.prog 150 1 26) zNO (atI zNO 116) (St.mk' [(0,pp 0),(3,iv s5.1),(4,iv s5.2)] [(0,.box (zC.enc false a1))]) (zBi a1 s5) kn:=by
 refine kQ (fun g ih s5=>?_)
 unfold zAl
 refine J_d 464 [] [11] [(11,bv (decide (s5.2< (a1.Files.length:Int))))] [] [] zB ?_
 refine zD 11 (fun h6=>?_) (fun h6=>?_)
 ·refine zA (fun x7 h8=>?_)
  refine J_g 932 [] [(0,pp 0),(3,iv (w64 (s5.1+(x7.Data.length:Int)))),(4,iv s5.2)] [(0,.box (zC.enc false a1))] (zF 6 (tL (kk:=.i64) 31 138 2 (File.enc false) (.tmp 18) (.tmp 19) h8) zB) ?_
  refine J_d 467 [] [4] [(4,iv (w64 (s5.2+1)))] [] [] zB ?_
  exact J_q (J_b (ih (w64 (s5.1+(x7.Data.length:Int)),w64 (s5.2+1)))) rfl
 ·exact xA (hk s5.1) rfl
theorem uL.ok (a1:zC):Ok Tryz.prog 150 [pp 0] [.box (zC.enc false a1)] ((uL a1).map fun r=>(iv r,[.box (zC.enc false a1)])):=by
 refine zG zNO Tryz.f150 1 26 (fun q=>?_)
 unfold uL
 refine J_g 2 [] [(0,pp 0)] [(0,.box (zC.enc false a1))] zB ?_
 refine J_g 6 [] [(0,pp 0),(3,iv 0)] [(0,.box (zC.enc false a1))] zB ?_
 refine J_d 28 [] [4] [(4,iv 0)] [] [] zB ?_
 refine zEH (zBi.ok a1 q _ (fun v9=>J_j ?_) (0,0))
 refine J_d 30 [] [2,3] [(2,iv v9)] [] [] zB ?_
 exact zN rfl
noncomputable def c91:Code:=(Tryz.f91.body).getD .skip
theorem uX.ok (a1:zC) (q:Wd) (kn:Unit→Option (D×List Ent)) (hk:∀v:Unit,J (q.g Tryz.prog 91 0 72) c91 (atI c91 31) (St.mk' [(1,pp 0)] [(0,.box (zC.enc false a1))]) (some v) kn):
  ∀s29:Int,J (q.g Tryz.prog 91 0 72) c91 (atI c91 244) (St.mk' [(1,pp 0),(3,iv s29)] [(0,.box (zC.enc false a1))]) (uX a1 s29) (Fl.go (fun r:Int=>some (iv r,[])) kn):=by
 refine kQ (fun g ih s29=>?_)
 unfold jH
 refine J_d 976 [] [29] [(29,bv (decide (s29< (a1.Files.length:Int))))] [] [] zB ?_
 refine zD 29 (fun h30=>?_) (fun h30=>?_)
 ·refine zA (fun x31 h32=>?_)
  refine zA (fun x33 h34=>?_)
  refine J_g 7824 [] [(1,pp 0),(3,iv s29),(4,iv x33)] [(0,.box (zC.enc false a1))] (zF 3 (tL (kk:=.i64) 31 138 2 (File.enc false) (.tmp 33) (.tmp 34) h32) (zF 6 (xU [(.tmp 37)] [9] (vG.ok x31.Path) h34) zB)) ?_
  refine J_d 15650 [] [40] [(40,bv (x33 !=0))] [] [] zB ?_
  refine zD 40 (fun h35=>?_) (fun h35=>?_)
  ·refine J_g 62604 [] [(2,iv x33)] [] zB ?_
   exact zN rfl
  ·refine xS (atI c91 15653) (fun v41:Bool=>St.mk' [(1,pp 0),(3,iv s29),(59,bv v41)] [(0,.box (zC.enc false a1))]) (fun v41=>?_) (fun jv41=>?_)
   ·refine zD 59 (fun h42=>?_) (fun h42=>?_)
    ·refine J_g 62612 [] [(2,iv 1)] [] zB ?_
     exact zN rfl
    ·refine zA (fun x43 h44=>?_)
     refine J_d 15654 [] [59,67] [(67,bv (decide ((x43.Data.length:Int)>4000)))] [] [] (zF 3 (tL (kk:=.i64) 31 138 2 (File.enc false) (.tmp 61) (.tmp 62) h44) zB) ?_
     refine zD 67 (fun h45=>?_) (fun h45=>?_)
     ·refine J_g 62620 [] [(2,iv 2)] [] zB ?_
      exact zN rfl
     ·refine J_d 979 [] [3,67] [(3,iv (w64 (s29+1)))] [] [] zB ?_
      exact J_q (J_b (ih (w64 (s29+1)))) rfl
   ·refine wH (fun h36=>?_) (fun h36=>?_)
    ·refine zA (fun x37 h38=>?_)
     refine zA (fun x39 h40=>?_)
     refine J_d 15652 [] [4,40,59] [(59,bv (slt x37.Path x39.Path||seq x37.Path x39.Path))] [] [] (xW 2 [(43,bv (decide (s29>0)))] [] h36 (zBS 6 2 44 true (tL (kk:=.i64) 31 138 2 (File.enc false) (.tmp 46) (.tmp 47) h38) (zBS 13 2 44 true (tL (kk:=.i64) 31 138 2 (File.enc false) (.tmp 52) (.tmp 54) h40) zB))) ?_
     exact xA (J_j (jv41 (slt x37.Path x39.Path||seq x37.Path x39.Path))) rfl
    ·refine J_d 15652 [] [4,40,59] [(59,bv false)] [] [] (xW 2 [(43,bv (decide (s29>0)))] [] h36 zB) ?_
     exact xA (J_j (jv41 false)) rfl
 ·exact xA (hk ()) rfl
theorem wY.ok (a1:zC):Ok Tryz.prog 91 [.ag (zC.enc false a1)] [] ((wY a1).map fun r=>(iv r,[])):=by
 refine zG c91 Tryz.f91 0 72 (fun q=>?_)
 unfold wY
 refine J_g 2 [(0,0)] [(1,pp 0)] [(0,.box (zC.enc false a1))] zB ?_
 refine zA (fun x2 h3=>?_)
 refine xS (atI c91 13) (fun v10:Bool=>St.mk' [(1,pp 0),(20,bv v10)] [(0,.box (zC.enc false a1))]) (fun v10=>?_) (fun jv10=>?_)
 ·refine zD 20 (fun h11=>?_) (fun h11=>?_)
  ·refine J_g 52 [] [(2,iv 3)] [] zB ?_
   exact zN rfl
  ·refine J_d 28 [] [20,24] [(24,bv (decide ((a1.Files.length:Int)>120)))] [] [] zB ?_
   refine zD 24 (fun h12=>?_) (fun h12=>?_)
   ·refine J_g 116 [] [(2,iv 2)] [] zB ?_
    exact zN rfl
   ·refine J_d 60 [] [3,24] [(3,iv 0)] [] [] zB ?_
    refine uR (K0:=(fun r:Int=>some (iv r,[]))) (fun _=>rfl) (uX.ok a1 q _ (fun v46=>J_j ?_) 0)
    refine zA (fun x47 h48=>?_)
    refine J_g 124 [] [(71,bv (decide (x47>a1.Budget)))] [] (zF 0 (zGj [(0,.box (zC.enc false a1))] [] (uJ («as»:=[pp 0]) [(.tmp 1)] [72] false [(0,.box (zC.enc false a1))] [0] (.cons (.pt rfl) (.nil)) (uL.ok a1) h48 (.same rfl rfl))) zB) ?_
    refine zD 71 (fun h49=>?_) (fun h49=>?_)
    ·refine J_g 500 [] [(2,iv 8)] [] zB ?_
     exact zN rfl
    ·refine J_g 126 [] [(2,iv 0)] [] zB ?_
     exact zN rfl
 ·refine wH (fun h4=>?_) (fun h4=>?_)
  ·refine J_d 12 [] [20] [(20,bv true)] [] [] (zF 2 (xU [(.tmp 6),(.const (.int .i64 0)),(.const (.int .i64 20000))] [2,2,2] (wE.ok a1.Budget 0 20000) h3) (xW 4 [(8,bv (!x2))] [] h4 zB)) ?_
   exact xA (J_j (jv10 true)) rfl
  ·refine zA (fun x5 h6=>?_)
   refine wH (fun h7=>?_) (fun h7=>?_)
   ·refine J_d 12 [] [20] [(20,bv true)] [] [] (zF 2 (xU [(.tmp 6),(.const (.int .i64 0)),(.const (.int .i64 20000))] [2,2,2] (wE.ok a1.Budget 0 20000) h3) (xW 4 [(8,bv (!x2))] [] h4 (zBS 7 4 9 false (xU [(.tmp 11),(.const (.int .i64 0)),(.const (.int .i64 1000000000))] [2,2,2] (wE.ok a1.Writes 0 1000000000) h6) (xW 10 [(14,bv (!x5))] [] h7 zB)))) ?_
    exact xA (J_j (jv10 true)) rfl
   ·refine zA (fun x8 h9=>?_)
    refine J_d 12 [] [20] [(20,bv (!x8))] [] [] (zF 2 (xU [(.tmp 6),(.const (.int .i64 0)),(.const (.int .i64 20000))] [2,2,2] (wE.ok a1.Budget 0 20000) h3) (xW 4 [(8,bv (!x2))] [] h4 (zBS 7 4 9 false (xU [(.tmp 11),(.const (.int .i64 0)),(.const (.int .i64 1000000000))] [2,2,2] (wE.ok a1.Writes 0 1000000000) h6) (xW 10 [(14,bv (!x5))] [] h7 (zBS 13 10 15 false (xU [(.tmp 17),(.const (.int .i64 (-1))),(.const (.int .i64 1000000000))] [2,2,2] (wE.ok a1.Stop (-1) 1000000000) h9) zB))))) ?_
    exact xA (J_j (jv10 (!x8))) rfl
noncomputable def c42:Code:=(Tryz.f42.body).getD .skip
theorem zC4.ok (a1:(List Pack)) (a2:zC):Ok Tryz.prog 42 [sl 8 (Pack.enc false) a1,.ag (zC.enc false a2)] [] ((zC4 a1 a2).map fun r=>(iv r,[])):=by
 refine zG c42 Tryz.f42 0 13 (fun q=>?_)
 unfold zC4
 refine J_d 2 [(0,0)] [1,3] [(3,pp 0)] [0] [(0,.box (zC.enc false a2))] zB ?_
 refine zA (fun x3 h4=>?_)
 refine J_g 12 [] [(3,pp 0),(5,iv x3)] [(0,.box (zC.enc false a2))] (zF 1 (xU [(.tmp 6)] [30] (tF.ok a1) h4) zB) ?_
 refine J_d 26 [] [9] [(9,bv (x3 !=0))] [] [] zB ?_
 refine zD 9 (fun h5=>?_) (fun h5=>?_)
 ·refine J_g 108 [] [(4,iv x3)] [] zB ?_
  exact zN rfl
 ·refine zA (fun x6 h7=>?_)
  refine J_g 14 [] [(4,iv x6)] [] (zF 1 (xU [(.tmp 11)] [33] (wY.ok a2) h7) zB) ?_
  exact zN rfl
noncomputable def c53:Code:=(Tryz.f53.body).getD .skip
theorem zCC.ok (a1:(List Pack)) (a2:zC):Ok Tryz.prog 53 [sl 8 (Pack.enc false) a1,.ag (zC.enc false a2)] [] ((zCC a1 a2).map fun r=>(iv r,[])):=by
 refine zG c53 Tryz.f53 0 14 (fun q=>?_)
 unfold zCC
 refine J_d 2 [(0,0)] [1,3] [(3,pp 0)] [0] [(0,.box (zC.enc false a2))] zB ?_
 refine zA (fun x3 h4=>?_)
 refine J_g 12 [] [(3,pp 0),(5,iv x3)] [(0,.box (zC.enc false a2))] (zF 2 (xU [(.tmp 6),(.tmp 7)] [30,33] (zC4.ok a1 a2) h4) zB) ?_
 refine J_d 26 [] [10] [(10,bv (x3 !=0))] [] [] zB ?_
 refine zD 10 (fun h5=>?_) (fun h5=>?_)
 ·refine J_g 108 [] [(4,iv x3)] [] zB ?_
  exact zN rfl
 ·refine J_g 28 [] [(13,bv a2.Down)] [] zB ?_
  refine zD 13 (fun h6=>?_) (fun h6=>?_)
  ·refine J_g 116 [] [(4,iv 9)] [] zB ?_
   exact zN rfl
  ·refine J_g 30 [] [(4,iv 0)] [] zB ?_
   exact zN rfl
noncomputable def c54:Code:=(Tryz.f54.body).getD .skip
theorem zBQ.ok (a1:zC) (a2:ByteArray) (q:Wd) (kn:Unit→Option (D×List Ent)) (hk:∀v:Unit,J (q.g Tryz.prog 54 1 26) c54 (atI c54 7) (St.mk' [] [(0,.box (zC.enc false a1))]) (some v) kn):
  ∀s7:Int,J (q.g Tryz.prog 54 1 26) c54 (atI c54 52) (St.mk' [(0,pp 0),(1,sv a2),(5,iv s7)] [(0,.box (zC.enc false a1))]) (zBQ a1 a2 s7) (Fl.go (fun r:Int=>some (iv r,[.box (zC.enc false a1)])) kn):=by
 refine kQ (fun g ih s7=>?_)
 unfold zAY
 refine J_d 208 [] [12] [(12,bv (decide (s7< (a1.Files.length:Int))))] [] [] zB ?_
 refine zD 12 (fun h8=>?_) (fun h8=>?_)
 ·refine zA (fun x9 h10=>?_)
  refine J_d 840 [] [12,24] [(24,bv (seq x9.Path a2))] [] [] (zF 5 (tL (kk:=.i64) 31 138 2 (File.enc false) (.tmp 18) (.tmp 19) h10) zB) ?_
  refine zD 24 (fun h11=>?_) (fun h11=>?_)
  ·refine J_g 3364 [] [(4,iv s7)] [(0,.box (zC.enc false a1))] zB ?_
   exact zN rfl
  ·refine J_d 211 [] [5,24] [(5,iv (w64 (s7+1)))] [] [] zB ?_
   exact J_q (J_b (ih (w64 (s7+1)))) rfl
 ·exact xA (hk ()) rfl
theorem xP.ok (a1:zC) (a2:ByteArray):Ok Tryz.prog 54 [pp 0,sv a2] [.box (zC.enc false a1)] ((xP a1 a2).map fun r=>(iv r,[.box (zC.enc false a1)])):=by
 refine zG c54 Tryz.f54 1 26 (fun q=>?_)
 unfold xP
 refine J_g 2 [] [(0,pp 0),(1,sv a2)] [(0,.box (zC.enc false a1))] zB ?_
 refine J_d 12 [] [5] [(5,iv 0)] [] [] zB ?_
 refine uR (K0:=(fun r:Int=>some (iv r,[.box (zC.enc false a1)]))) (fun _=>rfl) (zBQ.ok a1 a2 q _ (fun v12=>J_j ?_) 0)
 refine J_d 14 [] [4] [(4,iv (-1))] [] [] zB ?_
 exact zN rfl
noncomputable def zSo:Code:=(Tryz.f197.body).getD .skip
theorem jW.ok (a1:ByteArray) (a2:ByteArray):Ok Tryz.prog 197 [sv a1,sv a2] [] ((jW a1 a2).map fun r=>(bv r,[])):=by
 refine zG zSo Tryz.f197 0 18 (fun q=>?_)
 unfold jW
 refine J_d 2 [] [] [] [] [] zB ?_
 refine wH (fun h3=>?_) (fun h3=>?_)
 ·refine zA (fun x4 h5=>?_)
  refine J_g 6 [] [(4,bv (seq x4 a2))] [] (xW 5 [(9,bv (decide ((a1.size:Int)≥(a2.size:Int))))] [] h3 (zBS 9 5 10 true (zPT 9 (.tmp 11) none (some (.tmp 13)) h5) zB)) ?_
  exact zN rfl
 ·refine J_g 6 [] [(4,bv false)] [] (xW 5 [(9,bv (decide ((a1.size:Int)≥(a2.size:Int))))] [] h3 zB) ?_
  exact zN rfl
noncomputable def zPL:Code:=(Tryz.f118.body).getD .skip
theorem zAf.ok (a1:zC) (a2:ByteArray) (q:Wd) (kn:(List ByteArray)→Option (D×List Ent)) (hk:∀v:(List ByteArray),J (q.g Tryz.prog 118 1 39) zPL (atI zPL 15) (St.mk' [(5,rr 1 v)] [(0,.box (zC.enc false a1)),(1,rE 1 eStr v)]) (some v) kn):
  ∀s14:((List ByteArray)×Int),J (q.g Tryz.prog 118 1 39) zPL (atI zPL 116) (St.mk' [(0,pp 0),(1,sv a2),(5,rr 1 s14.1),(6,iv s14.2)] [(0,.box (zC.enc false a1)),(1,rE 1 eStr s14.1)]) (zAf a1 a2 s14) kn:=by
 refine kQ (fun g ih s14=>?_)
 unfold zAo
 refine J_d 464 [] [14] [(14,bv (decide (s14.2< (a1.Files.length:Int))))] [] [] zB ?_
 refine zD 14 (fun h15=>?_) (fun h15=>?_)
 ·refine zA (fun x16 h17=>?_)
  refine zA (fun x18 h19=>?_)
  refine J_d 1864 [] [14,26] [(26,bv x18)] [] [] (zF 5 (tL (kk:=.i64) 31 138 2 (File.enc false) (.tmp 20) (.tmp 21) h17) (zF 9 (xU [(.tmp 24),(.tmp 25)] [9,9] (jW.ok x16.Path a2) h19) zB)) ?_
  refine xS (aft zPL 932) (fun v25:(List ByteArray)=>St.mk' [(0,pp 0),(1,sv a2),(5,rr 3 v25),(6,iv s14.2)] [(0,.box (zC.enc false a1)),(3,rE 1 eStr v25)]) (fun v25=>?_) (fun jv25=>?_)
  ·refine J_d 467 [] [6] [(6,iv (w64 (s14.2+1)))] [] [] zB ?_
   refine zBR 3 1 (Nat.le_of_ble_eq_true rfl) (Nat.le_of_ble_eq_true rfl) ?_
   exact J_q (J_b (ih (v25,w64 (s14.2+1)))) rfl
  ·refine zD 26 (fun h20=>?_) (fun h20=>?_)
   ·refine zA (fun x21 h22=>?_)
    refine zA (fun x23 h24=>?_)
    refine J_d 3730 [] [5,26] [(5,rr 3 x23)] [1,3] [(3,rE 1 eStr x23)] (zF 6 (tL (kk:=.i64) 31 138 2 (File.enc false) (.tmp 31) (.tmp 32) h22) (zF 9 (zE6 86 9 1 2 eStr [x21.Path] [0] [(.tmp 35)] [sv x21.Path]) (zF 10 (zHJ 86 86 9 9 1 16 3 1 2 eStr (.tmp 27) (.tmp 36) h24) zB))) ?_
    exact xA (J_j (jv25 x23)) rfl
   ·refine zBR 1 3 (Nat.le_of_ble_eq_true rfl) (Nat.le_of_ble_eq_true rfl) ?_
    exact xA (J_j (jv25 s14.1)) rfl
 ·exact xA (hk s14.1) rfl
theorem zAy.ok (a1:zC) (a2:ByteArray):Ok Tryz.prog 118 [pp 0,sv a2] [.box (zC.enc false a1)] ((zAy a1 a2).map fun r=>(so 1 eStr r,[.box (zC.enc false a1)])):=by
 refine zG zPL Tryz.f118 1 39 (fun q=>?_)
 unfold zAy
 refine J_g 2 [] [(0,pp 0),(1,sv a2)] [(0,.box (zC.enc false a1))] zB ?_
 refine J_g 6 [] [(0,pp 0),(1,sv a2),(5,rr 1 ([]:List ByteArray))] [(0,.box (zC.enc false a1)),(1,rE 1 eStr ([]:List ByteArray))] (zF 0 (zE6 86 9 1 1 eStr ([]:List ByteArray) [] [] []) zB) ?_
 refine J_d 28 [] [6] [(6,iv 0)] [] [] zB ?_
 refine zEH (zAf.ok a1 a2 q _ (fun v26=>J_j ?_) (([]:List ByteArray),0))
 refine J_g 30 [] [(4,rr 1 v26)] [(0,.box (zC.enc false a1)),(1,rE 1 eStr v26)] zB ?_
 exact zCT (ds:=[rr 1 v26]) (ds':=[so 1 eStr v26]) (.cons (.cell (.move (.tail _ (.head _)) (List.length_map _) (by decide) (.nil))) (.nil) (by decide)) rfl
noncomputable def zPW:Code:=(Tryz.f166.body).getD .skip
theorem zB7.ok (a1:ByteArray) (q:Wd) (kn:Int→Option (D×List Ent)) (hk:∀v:Int,J (q.g Tryz.prog 166 0 37) zPW (atI zPW 31) (St.mk' [(6,iv v)] []) (some v) kn):
  ∀s14:(Int×Int),J (q.g Tryz.prog 166 0 37) zPW (atI zPW 244) (St.mk' [(0,sv a1),(6,iv s14.1),(7,iv s14.2)] []) (zB7 a1 s14) (Fl.go (fun r:(Int×Bool)=>some (.tu [iv r.1,bv r.2],[])) kn):=by
 refine kQ (fun g ih s14=>?_)
 unfold zBc
 refine J_d 976 [] [20] [(20,bv (decide (s14.2< (a1.size:Int))))] [] [] zB ?_
 refine zD 20 (fun h15=>?_) (fun h15=>?_)
 ·refine zA (fun x16 h17=>?_)
  refine zA (fun x18 h19=>?_)
  refine J_d 7824 [] [20,27] [(27,bv (!x18))] [] [] (zF 2 (zJZ (kk:=.i64) 9 (.tmp 23) (.tmp 24) h17) (zF 3 (xU [(.tmp 25)] [5] (vQ.ok x16) h19) zB)) ?_
  refine zD 27 (fun h20=>?_) (fun h20=>?_)
  ·refine J_g 31300 [] [(4,iv 0),(5,bv false)] [] zB ?_
   exact zOo rfl
  ·refine zA (fun x21 h22=>?_)
   refine J_g 3913 [] [(0,sv a1),(6,iv (w64 ((w64 (s14.1*10))+(w64 (IntKind.u8.wrap (x21-48)))))),(7,iv s14.2)] [] (zF 4 (zJZ (kk:=.i64) 9 (.tmp 30) (.tmp 31) h22) zB) ?_
   refine J_d 979 [] [7] [(7,iv (w64 (s14.2+1)))] [] [] zB ?_
   exact J_q (J_b (ih (w64 ((w64 (s14.1*10))+(w64 (IntKind.u8.wrap (x21-48)))),w64 (s14.2+1)))) rfl
 ·exact xA (hk s14.1) rfl
theorem jY.ok (a1:ByteArray) (a2:Int):Ok Tryz.prog 166 [sv a1,iv a2] [] ((jY a1 a2).map fun r=>(.tu [iv r.1,bv r.2],[])):=by
 refine zG zPW Tryz.f166 0 37 (fun q=>?_)
 unfold jY
 refine J_d 2 [] [] [] [] [] zB ?_
 refine xS (atI zPW 13) (fun v4:Bool=>St.mk' [(0,sv a1),(16,bv v4)] []) (fun v4=>?_) (fun jv4=>?_)
 ·refine zD 16 (fun h5=>?_) (fun h5=>?_)
  ·refine J_g 52 [] [(4,iv 0),(5,bv false)] [] zB ?_
   exact zOo rfl
  ·refine J_g 14 [] [(0,sv a1),(6,iv 0)] [] zB ?_
   refine J_d 60 [] [7] [(7,iv 0)] [] [] zB ?_
   refine uR (K0:=(fun r:(Int×Bool)=>some (.tu [iv r.1,bv r.2],[]))) (fun _=>rfl) (zB7.ok a1 q _ (fun v23=>J_j ?_) (0,0))
   refine J_g 62 [] [(4,iv v23),(5,bv true)] [] zB ?_
   exact zOo rfl
 ·refine wH (fun h3=>?_) (fun h3=>?_)
  ·refine J_g 12 [] [(0,sv a1),(16,bv true)] [] (xW 3 [(10,bv (decide ((a1.size:Int)<1)))] [] h3 zB) ?_
   exact xA (J_j (jv4 true)) rfl
  ·refine J_g 12 [] [(0,sv a1),(16,bv (decide ((a1.size:Int)>a2)))] [] (xW 3 [(10,bv (decide ((a1.size:Int)<1)))] [] h3 zB) ?_
   exact xA (J_j (jv4 (decide ((a1.size:Int)>a2)))) rfl
noncomputable def c79:Code:=(Tryz.f79.body).getD .skip
theorem xY.ok (a1:Int):Ok Tryz.prog 79 [iv a1] [] ((xY a1).map fun r=>(sv r,[])):=by
 have key:∀(n:Nat) (a1:Int),Ok Tryz.prog 79 [iv a1] [] ((zPt uM n a1).map fun r=>(sv r,[])):=by
  intro n
  induction n with
  |zero=>intro a1; exact zPB
  |succ n ih=>
   intro a1
   refine zG c79 Tryz.f79 0 20 (fun q=>?_)
   unfold zPt uM
   refine J_g 2 [] [(0,iv a1)] [] zB ?_
   refine J_g 12 [] [(0,iv a1),(4,bv (decide (a1<10)))] [] zB ?_
   refine zD 4 (fun h2=>?_) (fun h2=>?_)
   ·refine J_g 52 [] [(2,sv (b2s [IntKind.u8.wrap (w64 (48+a1))]))] [] (zF 3 (zE6 121 5 1 0 eU8 [IntKind.u8.wrap (w64 (48+a1))] [0] [(.tmp 7)] [uv (IntKind.u8.wrap (w64 (48+a1)))]) (zF 4 (zNa (xs:=[IntKind.u8.wrap (w64 (48+a1))]) 121 9 5 0 (.tmp 8)) zB)) ?_
    exact zN rfl
   ·refine zA (fun x3 h4=>?_)
    refine zA (fun x5 h6=>?_)
    refine J_g 14 [] [(2,sv x5)] [] (zF 2 (xU [(.tmp 11)] [2] (ih (w64 (a1.tdiv 10))) h4) (zF 7 (zE6 121 5 1 0 eU8 [IntKind.u8.wrap (w64 (48+(a1.tmod 10)))] [0] [(.tmp 16)] [uv (IntKind.u8.wrap (w64 (48+(a1.tmod 10))))]) (zF 8 (zNa (xs:=[IntKind.u8.wrap (w64 (48+(a1.tmod 10)))]) 121 9 5 0 (.tmp 17)) (zF 9 (zEE 9 9 (.tmp 12) (.tmp 18) h6) zB)))) ?_
    exact zN rfl
 exact key 64 a1
noncomputable def c117:Code:=(Tryz.f117.body).getD .skip
theorem jB.ok (a1:Int):Ok Tryz.prog 117 [iv a1] [] ((jB a1).map fun r=>(sv r,[])):=by
 refine zG c117 Tryz.f117 0 11 (fun q=>?_)
 unfold jB
 refine J_g 2 [] [(0,iv a1)] [] zB ?_
 refine zA (fun x2 h3=>?_)
 refine J_g 12 [] [(0,iv a1),(5,bv (!x2))] [] (zF 1 (xU [(.tmp 3),(.const (.int .i64 1)),(.const (.int .i64 999999))] [2,2,2] (wE.ok a1 1 999999) h3) zB) ?_
 refine zD 5 (fun h4=>?_) (fun h4=>?_)
 ·refine J_g 52 [] [(2,sv (bs []))] [] zB ?_
  exact zN rfl
 ·refine zA (fun x5 h6=>?_)
  refine zA (fun x7 h8=>?_)
  refine zA (fun x9 h10=>?_)
  refine J_g 14 [] [(2,sv x9)] [] (zF 2 (xU [(.tmp 7)] [2] (xY.ok (w64 (1000000+a1))) h6) (zF 3 (zPT 9 (.tmp 8) (some (.const (.int .i64 1))) none h8) (zF 4 (zEE 9 9 (.const (.string (bs [103,101,110,47]))) (.tmp 9) h10) zB))) ?_
  exact zN rfl
noncomputable def zP7:Code:=(Tryz.f114.body).getD .skip
theorem zDc.ok (a1:zC) (x2:(List ByteArray)) (q:Wd) (kn:(List Int)→Option (D×List Ent)) (hk:∀v:(List Int),J (q.g Tryz.prog 114 1 41) zP7 (atI zP7 31) (St.mk' [(3,rr 1 v)] [(0,.box (zC.enc false a1)),(1,rE 1 zS v)]) (some v) kn):
  ∀s21:((List Int)×Int),J (q.g Tryz.prog 114 1 41) zP7 (atI zP7 244) (St.mk' [(3,rr 1 s21.1),(4,rr 2 x2),(5,iv s21.2)] [(0,.box (zC.enc false a1)),(1,rE 1 zS s21.1),(2,rE 1 eStr x2)]) (zDc a1 x2 s21) kn:=by
 refine kQ (fun g ih s21=>?_)
 unfold zC5
 refine J_d 976 [] [14] [(14,bv (decide (s21.2< (x2.length:Int))))] [] [] zB ?_
 refine zD 14 (fun h22=>?_) (fun h22=>?_)
 ·refine zA (fun x23 h24=>?_)
  refine zA (fun x25 h26=>?_)
  refine zA (fun x27 h28=>?_)
  refine J_d 3912 [] [6,7,14] [(6,iv x27.1),(7,bv x27.2)] [] [] (zF 2 (tY (kk:=.i64) 86 9 1 2 eStr (.tmp 18) (.tmp 19) h24) (zF 3 (zDR (d:=sv x23) 9 1 2 0 eStr (.tmp 20) h24 (by kernel_rfl)) (zF 4 (zPT 9 (.tmp 21) (some (.const (.int .i64 4))) none h26) (zF 5 (xU [(.tmp 22),(.const (.int .i64 6))] [9,3] (jY.ok x25 6) h28) zB)))) ?_
  refine xS (atI zP7 7827) (fun v34:Bool=>St.mk' [(3,rr 1 s21.1),(4,rr 2 x2),(5,iv s21.2),(6,iv x27.1),(35,bv v34)] [(0,.box (zC.enc false a1)),(1,rE 1 zS s21.1),(2,rE 1 eStr x2)]) (fun v34=>?_) (fun jv34=>?_)
  ·refine xS (aft zP7 1956) (fun v38:(List Int)=>St.mk' [(3,rr 4 v38),(4,rr 2 x2),(5,iv s21.2)] [(0,.box (zC.enc false a1)),(2,rE 1 eStr x2),(4,rE 1 zS v38)]) (fun v38=>?_) (fun jv38=>?_)
   ·refine J_d 979 [] [5] [(5,iv (w64 (s21.2+1)))] [] [] zB ?_
    refine zBR 4 1 (Nat.le_of_ble_eq_true rfl) (Nat.le_of_ble_eq_true rfl) ?_
    exact J_q (J_b (ih (v38,w64 (s21.2+1)))) rfl
   ·refine zD 35 (fun h35=>?_) (fun h35=>?_)
    ·refine zA (fun x36 h37=>?_)
     refine J_d 15654 [] [3,6,35] [(3,rr 4 x36)] [1,4] [(4,rE 1 zS x36)] (zF 2 (zE6 39 2 1 3 zS [x27.1] [0] [(.tmp 37)] [iv x27.1]) (zF 3 (zHJ 39 39 2 2 1 8 4 1 3 zS (.tmp 36) (.tmp 38) h37) zB)) ?_
     exact xA (J_j (jv38 x36)) rfl
    ·refine zBR 1 4 (Nat.le_of_ble_eq_true rfl) (Nat.le_of_ble_eq_true rfl) ?_
     exact xA (J_j (jv38 s21.1)) rfl
  ·refine wH (fun h29=>?_) (fun h29=>?_)
   ·refine zA (fun x30 h31=>?_)
    refine zA (fun x32 h33=>?_)
    refine J_d 7826 [] [7,35] [(35,bv (seq x30 x32))] [] [] (xW 1 [(26,bv x27.2)] [] h29 (zBS 3 1 27 true (xU [(.tmp 28)] [2] (jB.ok x27.1) h31) (zBS 6 1 27 true (tY (kk:=.i64) 86 9 1 2 eStr (.tmp 30) (.tmp 31) h33) (zBS 7 1 27 true (zDR (d:=sv x32) 9 1 2 0 eStr (.tmp 32) h33 (by kernel_rfl)) zB)))) ?_
    exact xA (J_j (jv34 (seq x30 x32))) rfl
   ·refine J_d 7826 [] [7,35] [(35,bv false)] [] [] (xW 1 [(26,bv x27.2)] [] h29 zB) ?_
    exact xA (J_j (jv34 false)) rfl
 ·exact xA (hk s21.1) rfl
theorem zD5.ok (a1:zC):Ok Tryz.prog 114 [pp 0] [.box (zC.enc false a1)] ((zD5 a1).map fun r=>(so 1 zS r,[.box (zC.enc false a1)])):=by
 refine zG zP7 Tryz.f114 1 41 (fun q=>?_)
 unfold zD5
 refine J_g 2 [] [(0,pp 0)] [(0,.box (zC.enc false a1))] zB ?_
 refine J_d 6 [] [3] [(3,rr 1 ([]:List Int))] [1] [(1,rE 1 zS ([]:List Int))] (zF 0 (zE6 39 2 1 1 zS ([]:List Int) [] [] []) zB) ?_
 refine zA (fun x2 h3=>?_)
 refine J_g 14 [] [(3,rr 1 ([]:List Int)),(4,rr 2 x2)] [(0,.box (zC.enc false a1)),(1,rE 1 zS ([]:List Int)),(2,rE 1 eStr x2)] (zF 1 (zGj [(0,.box (zC.enc false a1))] [(2,rE 1 eStr x2)] (uJ («as»:=[pp 0,sv (bs [103,101,110,47])]) [(.tmp 9),(.const (.string (bs [103,101,110,47])))] [72,9] false [(0,.box (zC.enc false a1))] [0] (.cons (.pt rfl) (.cons (.same rfl) (.nil))) (zAy.ok a1 (bs [103,101,110,47])) h3 (.own 2))) zB) ?_
 refine J_d 60 [] [5] [(5,iv 0)] [] [] zB ?_
 refine zEH (zDc.ok a1 x2 q _ (fun v39=>J_j ?_) (([]:List Int),0))
 refine J_g 62 [] [(2,rr 1 v39)] [(0,.box (zC.enc false a1)),(1,rE 1 zS v39)] zB ?_
 exact zCT (ds:=[rr 1 v39]) (ds':=[so 1 zS v39]) (.cons (.cell (.move (.tail _ (.head _)) (List.length_map _) (by decide) (.nil))) (.nil) (by decide)) rfl
noncomputable def zQ5:Code:=(Tryz.f115.body).getD .skip
theorem zDP.ok (a1:(List Int)) (a2:Int) (q:Wd) (kn:Unit→Option (D×List Ent)) (hk:∀v:Unit,J (q.g Tryz.prog 115 0 18) zQ5 (atI zQ5 7) (St.mk' [] []) (some v) kn):
  ∀s7:Int,J (q.g Tryz.prog 115 0 18) zQ5 (atI zQ5 52) (St.mk' [(0,sl 1 zS a1),(1,iv a2),(5,iv s7)] []) (zDP a1 a2 s7) (Fl.go (fun r:Bool=>some (bv r,[])) kn):=by
 refine kQ (fun g ih s7=>?_)
 unfold zDh
 refine J_d 208 [] [9] [(9,bv (decide (s7< (a1.length:Int))))] [] [] zB ?_
 refine zD 9 (fun h8=>?_) (fun h8=>?_)
 ·refine zA (fun x9 h10=>?_)
  refine J_d 840 [] [9,17] [(17,bv (x9==a2))] [] [] (zF 2 (tL (kk:=.i64) 39 2 1 zS (.tmp 12) (.tmp 13) h10) zB) ?_
  refine zD 17 (fun h11=>?_) (fun h11=>?_)
  ·refine J_g 3364 [] [(4,bv true)] [] zB ?_
   exact zN rfl
  ·refine J_d 211 [] [5,17] [(5,iv (w64 (s7+1)))] [] [] zB ?_
   exact J_q (J_b (ih (w64 (s7+1)))) rfl
 ·exact xA (hk ()) rfl
theorem zCR.ok (a1:(List Int)) (a2:Int):Ok Tryz.prog 115 [sl 1 zS a1,iv a2] [] ((zCR a1 a2).map fun r=>(bv r,[])):=by
 refine zG zQ5 Tryz.f115 0 18 (fun q=>?_)
 unfold zCR
 refine J_g 2 [] [(0,sl 1 zS a1),(1,iv a2)] [] zB ?_
 refine J_d 12 [] [5] [(5,iv 0)] [] [] zB ?_
 refine uR (K0:=(fun r:Bool=>some (bv r,[]))) (fun _=>rfl) (zDP.ok a1 a2 q _ (fun v12=>J_j ?_) 0)
 refine J_g 14 [] [(4,bv false)] [] zB ?_
 exact zN rfl
noncomputable def zOY:Code:=(Tryz.f235.body).getD .skip
theorem zCD.ok (a1:ByteArray) (a2:Int) (q:Wd) (kn:(List ByteArray)→Option (D×List Ent)) (hk:∀v:(List ByteArray),J (q.g Tryz.prog 235 0 36) zOY (atI zOY 31) (St.mk' [(5,rr 0 v)] [(0,rE 1 eStr v)]) (some v) kn):
  ∀s14:((List ByteArray)×Int×Int),J (q.g Tryz.prog 235 0 36) zOY (atI zOY 244) (St.mk' [(0,sv a1),(1,uv a2),(5,rr 0 s14.1),(6,iv s14.2.1),(7,iv s14.2.2)] [(0,rE 1 eStr s14.1)]) (zCD a1 a2 s14) kn:=by
 refine kQ (fun g ih s14=>?_)
 unfold zBO
 refine J_d 976 [] [12] [(12,bv (decide (s14.2.2≤(a1.size:Int))))] [] [] zB ?_
 refine zD 12 (fun h15=>?_) (fun h15=>?_)
 ·refine xS (atI zOY 3913) (fun v19:Bool=>St.mk' [(0,sv a1),(1,uv a2),(5,rr 0 s14.1),(6,iv s14.2.1),(7,iv s14.2.2),(25,bv v19)] [(0,rE 1 eStr s14.1)]) (fun v19=>?_) (fun jv19=>?_)
  ·refine xS (aft zOY 1956) (fun v25:((List ByteArray)×Int)=>St.mk' [(0,sv a1),(1,uv a2),(5,rr 2 v25.1),(6,iv v25.2),(7,iv s14.2.2)] [(2,rE 1 eStr v25.1)]) (fun v25=>?_) (fun jv25=>?_)
   ·refine J_d 979 [] [7] [(7,iv (w64 (s14.2.2+1)))] [] [] zB ?_
    refine zBR 2 0 (Nat.le_of_ble_eq_true rfl) (Nat.le_of_ble_eq_true rfl) ?_
    exact J_q (J_b (ih (v25.1,v25.2,w64 (s14.2.2+1)))) rfl
   ·refine zD 25 (fun h20=>?_) (fun h20=>?_)
    ·refine zA (fun x21 h22=>?_)
     refine zA (fun x23 h24=>?_)
     refine J_g 15652 [] [(0,sv a1),(1,uv a2),(5,rr 2 x23),(7,iv s14.2.2)] [(2,rE 1 eStr x23)] (zF 4 (zPT 9 (.tmp 27) (some (.tmp 28)) (some (.tmp 29)) h22) (zF 5 (zE6 86 9 1 1 eStr [x21] [0] [(.tmp 30)] [sv x21]) (zF 6 (zHJ 86 86 9 9 1 16 2 0 1 eStr (.tmp 26) (.tmp 31) h24) zB))) ?_
     refine J_d 15653 [] [6] [(6,iv (w64 (s14.2.2+1)))] [] [] zB ?_
     exact xA (J_j (jv25 (x23,w64 (s14.2.2+1)))) rfl
    ·refine zBR 0 2 (Nat.le_of_ble_eq_true rfl) (Nat.le_of_ble_eq_true rfl) ?_
     exact xA (J_j (jv25 (s14.1,s14.2.1))) rfl
  ·refine wH (fun h16=>?_) (fun h16=>?_)
   ·refine J_d 3912 [] [12,25] [(25,bv true)] [] [] (xW 4 [(18,bv (s14.2.2==(a1.size:Int)))] [] h16 zB) ?_
    exact xA (J_j (jv19 true)) rfl
   ·refine zA (fun x17 h18=>?_)
    refine J_d 3912 [] [12,25] [(25,bv (x17==a2))] [] [] (xW 4 [(18,bv (s14.2.2==(a1.size:Int)))] [] h16 (zBS 7 4 19 false (zJZ (kk:=.i64) 9 (.tmp 20) (.tmp 21) h18) zB)) ?_
    exact xA (J_j (jv19 (x17==a2))) rfl
 ·exact xA (hk s14.1) rfl
theorem tT.ok (a1:ByteArray) (a2:Int):Ok Tryz.prog 235 [sv a1,uv a2] [] ((tT a1 a2).map fun r=>(so 1 eStr r,[])):=by
 refine zG zOY Tryz.f235 0 36 (fun q=>?_)
 unfold tT
 refine J_g 2 [] [(0,sv a1),(1,uv a2)] [] zB ?_
 refine J_g 6 [] [(0,sv a1),(1,uv a2),(5,rr 0 ([]:List ByteArray))] [(0,rE 1 eStr ([]:List ByteArray))] (zF 0 (zE6 86 9 1 0 eStr ([]:List ByteArray) [] [] []) zB) ?_
 refine J_g 14 [] [(0,sv a1),(1,uv a2),(5,rr 0 ([]:List ByteArray)),(6,iv 0)] [(0,rE 1 eStr ([]:List ByteArray))] zB ?_
 refine J_d 60 [] [7] [(7,iv 0)] [] [] zB ?_
 refine zEH (zCD.ok a1 a2 q _ (fun v26=>J_j ?_) (([]:List ByteArray),0,0))
 refine J_g 62 [] [(4,rr 0 v26)] [(0,rE 1 eStr v26)] zB ?_
 exact zCT (ds:=[rr 0 v26]) (ds':=[so 1 eStr v26]) (.cons (.cell (.move (.head _) (List.length_map _) (by decide) (.nil))) (.nil) (by decide)) rfl
noncomputable def zR7:Code:=(Tryz.f170.body).getD .skip
theorem zCp.ok (a1:ByteArray):Ok Tryz.prog 170 [sv a1] [] ((zCp a1).map fun r=>(so 1 eStr r,[])):=by
 refine zG zR7 Tryz.f170 0 19 (fun q=>?_)
 unfold zCp
 refine J_g 2 [] [(0,sv a1)] [] zB ?_
 refine zA (fun x2 h3=>?_)
 refine J_g 6 [] [(3,rr 0 x2)] [(0,rE 1 eStr x2)] (zF 1 (uJ («as»:=[sv a1,uv 10]) [(.tmp 4),(.const (.int .u8 10))] [9,5] false [] [] (.cons (.same rfl) (.cons (.same rfl) (.nil))) (tT.ok a1 10) h3 (.own 0)) zB) ?_
 refine zA (fun x4 h5=>?_)
 refine J_d 28 [] [12] [(12,bv (seq x4 (bs [])))] [] [] (zF 4 (tY (kk:=.i64) 86 9 1 0 eStr (.tmp 6) (.tmp 9) h5) (zF 5 (zDR (d:=sv x4) 9 1 0 0 eStr (.tmp 10) h5 (by kernel_rfl)) zB)) ?_
 refine xS (atI zR7 15) (fun v9:(List ByteArray)=>St.mk' [(3,rr 1 v9)] [(1,rE 1 eStr v9)]) (fun v9=>?_) (fun jv9=>?_)
 ·refine J_g 30 [] [(2,rr 1 v9)] [(1,rE 1 eStr v9)] zB ?_
  exact zCT (ds:=[rr 1 v9]) (ds':=[so 1 eStr v9]) (.cons (.cell (.move (.head _) (List.length_map _) (by decide) (.nil))) (.nil) (by decide)) rfl
 ·refine zD 12 (fun h6=>?_) (fun h6=>?_)
  ·refine zA (fun x7 h8=>?_)
   refine J_g 58 [] [(3,rr 1 x7)] [(1,rE 1 eStr x7)] (zF 4 (zOg 86 9 1 0 1 eStr (.tmp 13) none (some (.tmp 16)) h8) zB) ?_
   exact xA (J_j (jv9 x7)) rfl
  ·refine zBR 0 1 (Nat.le_of_ble_eq_true rfl) (Nat.le_of_ble_eq_true rfl) ?_
   exact xA (J_j (jv9 x2)) rfl
noncomputable def zPV:Code:=(Tryz.f216.body).getD .skip
theorem zCI.ok (x2:(List ByteArray)) (q:Wd) (kn:(List ByteArray)→Option (D×List Ent)) (hk:∀v:(List ByteArray),J (q.g Tryz.prog 216 0 28) zPV (atI zPV 31) (St.mk' [(3,rr 0 v)] [(0,rE 1 eStr v)]) (some v) kn):
  ∀s13:((List ByteArray)×Int),J (q.g Tryz.prog 216 0 28) zPV (atI zPV 244) (St.mk' [(3,rr 0 s13.1),(4,rr 1 x2),(5,iv s13.2)] [(0,rE 1 eStr s13.1),(1,rE 1 eStr x2)]) (zCI x2 s13) kn:=by
 refine kQ (fun g ih s13=>?_)
 unfold zB9
 refine J_d 976 [] [12] [(12,bv (decide (s13.2< (x2.length:Int))))] [] [] zB ?_
 refine zD 12 (fun h14=>?_) (fun h14=>?_)
 ·refine zA (fun x15 h16=>?_)
  refine J_d 3912 [] [12,19] [(19,bv (!(seq x15 (bs []))))] [] [] (zF 2 (tY (kk:=.i64) 86 9 1 1 eStr (.tmp 15) (.tmp 16) h16) (zF 3 (zDR (d:=sv x15) 9 1 1 0 eStr (.tmp 17) h16 (by kernel_rfl)) zB)) ?_
  refine xS (aft zPV 1956) (fun v22:(List ByteArray)=>St.mk' [(3,rr 3 v22),(4,rr 1 x2),(5,iv s13.2)] [(1,rE 1 eStr x2),(3,rE 1 eStr v22)]) (fun v22=>?_) (fun jv22=>?_)
  ·refine J_d 979 [] [5] [(5,iv (w64 (s13.2+1)))] [] [] zB ?_
   refine zBR 3 0 (Nat.le_of_ble_eq_true rfl) (Nat.le_of_ble_eq_true rfl) ?_
   exact J_q (J_b (ih (v22,w64 (s13.2+1)))) rfl
  ·refine zD 19 (fun h17=>?_) (fun h17=>?_)
   ·refine zA (fun x18 h19=>?_)
    refine zA (fun x20 h21=>?_)
    refine J_d 7826 [] [3,19] [(3,rr 3 x20)] [0,3] [(3,rE 1 eStr x20)] (zF 3 (tY (kk:=.i64) 86 9 1 1 eStr (.tmp 21) (.tmp 22) h19) (zF 4 (zDR (d:=sv x18) 9 1 1 0 eStr (.tmp 23) h19 (by kernel_rfl)) (zF 5 (zE6 86 9 1 2 eStr [x18] [0] [(.tmp 24)] [sv x18]) (zF 6 (zHJ 86 86 9 9 1 16 3 0 2 eStr (.tmp 20) (.tmp 25) h21) zB)))) ?_
    exact xA (J_j (jv22 x20)) rfl
   ·refine zBR 0 3 (Nat.le_of_ble_eq_true rfl) (Nat.le_of_ble_eq_true rfl) ?_
    exact xA (J_j (jv22 s13.1)) rfl
 ·exact xA (hk s13.1) rfl
theorem zCq.ok (a1:ByteArray):Ok Tryz.prog 216 [sv a1] [] ((zCq a1).map fun r=>(so 1 eStr r,[])):=by
 refine zG zPV Tryz.f216 0 28 (fun q=>?_)
 unfold zCq
 refine J_g 2 [] [(0,sv a1)] [] zB ?_
 refine J_g 6 [] [(0,sv a1),(3,rr 0 ([]:List ByteArray))] [(0,rE 1 eStr ([]:List ByteArray))] (zF 0 (zE6 86 9 1 0 eStr ([]:List ByteArray) [] [] []) zB) ?_
 refine zA (fun x2 h3=>?_)
 refine J_g 14 [] [(3,rr 0 ([]:List ByteArray)),(4,rr 1 x2)] [(0,rE 1 eStr ([]:List ByteArray)),(1,rE 1 eStr x2)] (zF 1 (uJ («as»:=[sv a1,uv 32]) [(.tmp 7),(.const (.int .u8 32))] [9,5] false [] [] (.cons (.same rfl) (.cons (.same rfl) (.nil))) (tT.ok a1 32) h3 (.own 1)) zB) ?_
 refine J_d 60 [] [5] [(5,iv 0)] [] [] zB ?_
 refine zEH (zCI.ok x2 q _ (fun v23=>J_j ?_) (([]:List ByteArray),0))
 refine J_g 62 [] [(2,rr 0 v23)] [(0,rE 1 eStr v23)] zB ?_
 exact zCT (ds:=[rr 0 v23]) (ds':=[so 1 eStr v23]) (.cons (.cell (.move (.head _) (List.length_map _) (by decide) (.nil))) (.nil) (by decide)) rfl
noncomputable def zQF:Code:=(Tryz.f217.body).getD .skip
theorem jU.ok (x2:(List ByteArray)) (q:Wd) (kn:(List Int)→Option (D×List Ent)) (hk:∀v:(List Int),J (q.g Tryz.prog 217 0 47) zQF (atI zQF 63) (St.mk' [(2,pp 0),(4,rr 2 v)] [(0,.box [iv 0,iv 0,iv 0,iv 0]),(2,rE 1 zS v)]) (some v) kn):
  ∀s13:((List Int)×Int),J (q.g Tryz.prog 217 0 47) zQF (atI zQF 500) (St.mk' [(2,pp 0),(3,rr 1 x2),(4,rr 2 s13.1),(5,iv s13.2)] [(0,.box [iv 0,iv 0,iv 0,iv 0]),(1,rE 1 eStr x2),(2,rE 1 zS s13.1)]) (jU x2 s13) (Fl.go (fun r:zQ=>some (.ag (zQ.enc r),[])) kn):=by
 refine kQ (fun g ih s13=>?_)
 unfold tV
 refine J_d 2000 [] [18] [(18,bv (decide (s13.2< (x2.length:Int))))] [] [] zB ?_
 refine zD 18 (fun h14=>?_) (fun h14=>?_)
 ·refine zA (fun x15 h16=>?_)
  refine zA (fun x17 h18=>?_)
  refine J_g 8008 [] [(2,pp 0),(3,rr 1 x2),(4,rr 2 s13.1),(5,iv s13.2),(6,iv x17.1),(7,bv x17.2)] [(0,.box [iv 0,iv 0,iv 0,iv 0]),(1,rE 1 eStr x2),(2,rE 1 zS s13.1)] (zF 2 (tY (kk:=.i64) 86 9 1 1 eStr (.tmp 22) (.tmp 23) h16) (zF 3 (zDR (d:=sv x15) 9 1 1 0 eStr (.tmp 24) h16 (by kernel_rfl)) (zF 4 (xU [(.tmp 25),(.const (.int .i64 3))] [9,3] (jY.ok x15 3) h18) zB))) ?_
  refine J_d 32036 [] [7,30] [(30,bv (!x17.2))] [] [] zB ?_
  refine zD 30 (fun h19=>?_) (fun h19=>?_)
  ·refine J_g 128148 [] [(2,pp 0)] [(0,.box [iv 5,iv 0,iv 0,iv 0])] zB ?_
   exact zN rfl
  ·refine zA (fun x20 h21=>?_)
   refine J_g 16019 [] [(2,pp 0),(3,rr 1 x2),(4,rr 2 s13.1),(5,iv s13.2)] [(0,.box [iv 0,iv 0,iv 0,iv 0]),(1,rE 1 eStr x2),(2,rE 1 zS (s13.1.set s13.2.toNat x17.1))] (zF 3 (tY (kk:=.i64) 39 2 1 2 zS (.tmp 32) (.tmp 33) h21) (zFR 4 (zHI (b:=x17.1) 2 1 2 0 zS (iv x17.1) (.tmp 35) (.tmp 34) h21 rfl) zB)) ?_
   refine zFo (σ':=St.mk' [(2,pp 0),(3,rr 1 x2),(4,rr 2 (s13.1.set s13.2.toNat x17.1)),(5,iv s13.2)] [(0,.box [iv 0,iv 0,iv 0,iv 0]),(1,rE 1 eStr x2),(2,rE 1 zS (s13.1.set s13.2.toNat x17.1))]) (by simp only [rr,List.length_set]) ?_
   refine J_d 2003 [] [5] [(5,iv (w64 (s13.2+1)))] [] [] zB ?_
   exact J_q (J_b (ih (s13.1.set s13.2.toNat x17.1,w64 (s13.2+1)))) rfl
 ·exact xA (hk s13.1) rfl
theorem vN.ok (a1:ByteArray):Ok Tryz.prog 217 [sv a1] [] ((vN a1).map fun r=>(.ag (zQ.enc r),[])):=by
 refine zG zQF Tryz.f217 0 47 (fun q=>?_)
 unfold vN
 refine J_g 2 [(0,0)] [(0,sv a1),(2,pp 0)] [(0,.box [iv 0,iv 0,iv 0,iv 0])] zB ?_
 refine zA (fun x2 h3=>?_)
 refine J_g 6 [] [(2,pp 0),(3,rr 1 x2)] [(0,.box [iv 0,iv 0,iv 0,iv 0]),(1,rE 1 eStr x2)] (zF 1 (uJ («as»:=[sv a1,uv 46]) [(.tmp 8),(.const (.int .u8 46))] [9,5] false [] [] (.cons (.same rfl) (.cons (.same rfl) (.nil))) (tT.ok a1 46) h3 (.own 1)) zB) ?_
 refine J_d 28 [] [12] [(12,bv (decide ((x2.length:Int)>3)))] [] [] zB ?_
 refine zD 12 (fun h4=>?_) (fun h4=>?_)
 ·refine J_g 116 [] [(2,pp 0)] [(0,.box [iv 5,iv 0,iv 0,iv 0])] zB ?_
  exact zN rfl
 ·refine J_g 30 [] [(2,pp 0),(3,rr 1 x2),(4,rr 2 [0,0,0])] [(0,.box [iv 0,iv 0,iv 0,iv 0]),(1,rE 1 eStr x2),(2,rE 1 zS [0,0,0])] (zF 0 (zE6 39 2 1 2 zS [0,0,0] [0,1,2] [(.const (.int .i64 0)),(.const (.int .i64 0)),(.const (.int .i64 0))] [iv 0,iv 0,iv 0]) zB) ?_
  refine J_d 124 [] [5] [(5,iv 0)] [] [] zB ?_
  refine uR (K0:=(fun r:zQ=>some (.ag (zQ.enc r),[]))) (fun _=>rfl) (jU.ok x2 q _ (fun v22=>J_j ?_) ([0,0,0],0))
  refine zA (fun x23 h24=>?_)
  refine zA (fun x25 h26=>?_)
  refine zA (fun x27 h28=>?_)
  refine J_g 126 [] [(2,pp 0)] [(0,.box [iv 0,iv x23,iv x25,iv x27])] (zF 1 (tY (kk:=.i64) 39 2 1 2 zS (.tmp 36) (.const (.int .i64 0)) h24) (zF 2 (zDR (d:=iv x23) 2 1 2 0 zS (.tmp 37) h24 (by kernel_rfl)) (zF 4 (tY (kk:=.i64) 39 2 1 2 zS (.tmp 39) (.const (.int .i64 1)) h26) (zF 5 (zDR (d:=iv x25) 2 1 2 0 zS (.tmp 40) h26 (by kernel_rfl)) (zF 7 (tY (kk:=.i64) 39 2 1 2 zS (.tmp 42) (.const (.int .i64 2)) h28) (zF 8 (zDR (d:=iv x27) 2 1 2 0 zS (.tmp 43) h28 (by kernel_rfl)) zB)))))) ?_
  exact zN rfl
noncomputable def c116:Code:=(Tryz.f116.body).getD .skip
theorem zDO.ok (a1:(List Int)) (a2:Int) (q:Wd) (kn:((List Int)×Bool)→Option (D×List Ent)) (hk:∀v:((List Int)×Bool),J (q.g Tryz.prog 116 0 43) c116 (atI c116 31) (St.mk' [(1,iv a2),(5,rr 0 v.1),(6,bv v.2)] [(0,rE 1 zS v.1)]) (some v) kn):
  ∀s16:((List Int)×Bool×Int),J (q.g Tryz.prog 116 0 43) c116 (atI c116 244) (St.mk' [(0,sl 1 zS a1),(1,iv a2),(5,rr 0 s16.1),(6,bv s16.2.1),(7,iv s16.2.2)] [(0,rE 1 zS s16.1)]) (zDO a1 a2 s16) kn:=by
 refine kQ (fun g ih s16=>?_)
 unfold zDb
 refine J_d 976 [] [12] [(12,bv (decide (s16.2.2< (a1.length:Int))))] [] [] zB ?_
 refine zD 12 (fun h17=>?_) (fun h17=>?_)
 ·refine zA (fun x18 h19=>?_)
  refine xS (atI c116 7825) (fun v21:Bool=>St.mk' [(0,sl 1 zS a1),(1,iv a2),(5,rr 0 s16.1),(6,bv s16.2.1),(7,iv s16.2.2),(24,bv v21)] [(0,rE 1 zS s16.1)]) (fun v21=>?_) (fun jv21=>?_)
  ·refine xS (atI c116 3913) (fun v25:((List Int)×Bool)=>St.mk' [(0,sl 1 zS a1),(1,iv a2),(5,rr 2 v25.1),(6,bv v25.2),(7,iv s16.2.2)] [(2,rE 1 zS v25.1)]) (fun v25=>?_) (fun jv25=>?_)
   ·refine zA (fun x26 h27=>?_)
    refine zA (fun x28 h29=>?_)
    refine J_g 3913 [] [(0,sl 1 zS a1),(1,iv a2),(5,rr 4 x28),(6,bv v25.2),(7,iv s16.2.2)] [(4,rE 1 zS x28)] (zF 3 (tL (kk:=.i64) 39 2 1 zS (.tmp 30) (.tmp 31) h27) (zF 5 (zE6 39 2 1 3 zS [x26] [0] [(.tmp 33)] [iv x26]) (zF 6 (zHJ 39 39 2 2 1 8 4 2 3 zS (.tmp 29) (.tmp 34) h29) zB))) ?_
    refine J_d 979 [] [7] [(7,iv (w64 (s16.2.2+1)))] [] [] zB ?_
    refine zBR 4 0 (Nat.le_of_ble_eq_true rfl) (Nat.le_of_ble_eq_true rfl) ?_
    exact J_q (J_b (ih (x28,v25.2,w64 (s16.2.2+1)))) rfl
   ·refine zD 24 (fun h22=>?_) (fun h22=>?_)
    ·refine zA (fun x23 h24=>?_)
     refine J_g 31300 [] [(0,sl 1 zS a1),(1,iv a2),(5,rr 2 x23),(7,iv s16.2.2)] [(2,rE 1 zS x23)] (zF 2 (zE6 39 2 1 1 zS [a2] [0] [(.tmp 26)] [iv a2]) (zF 3 (zHJ 39 39 2 2 1 8 2 0 1 zS (.tmp 25) (.tmp 27) h24) zB)) ?_
     refine J_d 31301 [] [6] [(6,bv true)] [] [] zB ?_
     exact xA (J_j (jv25 (x23,true))) rfl
    ·refine zBR 0 2 (Nat.le_of_ble_eq_true rfl) (Nat.le_of_ble_eq_true rfl) ?_
     exact xA (J_j (jv25 (s16.1,s16.2.1))) rfl
  ·refine wH (fun h20=>?_) (fun h20=>?_)
   ·refine J_d 7824 [] [12,24] [(24,bv (!s16.2.1))] [] [] (zF 2 (tL (kk:=.i64) 39 2 1 zS (.tmp 15) (.tmp 16) h19) (xW 6 [(20,bv (decide (x18>a2)))] [] h20 zB)) ?_
    exact xA (J_j (jv21 (!s16.2.1))) rfl
   ·refine J_d 7824 [] [12,24] [(24,bv false)] [] [] (zF 2 (tL (kk:=.i64) 39 2 1 zS (.tmp 15) (.tmp 16) h19) (xW 6 [(20,bv (decide (x18>a2)))] [] h20 zB)) ?_
    exact xA (J_j (jv21 false)) rfl
 ·exact xA (hk (s16.1,s16.2.1)) rfl
theorem zDC.ok (a1:(List Int)) (a2:Int):Ok Tryz.prog 116 [sl 1 zS a1,iv a2] [] ((zDC a1 a2).map fun r=>(so 1 zS r,[])):=by
 refine zG c116 Tryz.f116 0 43 (fun q=>?_)
 unfold zDC
 refine J_g 2 [] [(0,sl 1 zS a1),(1,iv a2)] [] zB ?_
 refine J_g 6 [] [(0,sl 1 zS a1),(1,iv a2),(5,rr 0 ([]:List Int))] [(0,rE 1 zS ([]:List Int))] (zF 0 (zE6 39 2 1 0 zS ([]:List Int) [] [] []) zB) ?_
 refine J_g 14 [] [(0,sl 1 zS a1),(1,iv a2),(5,rr 0 ([]:List Int)),(6,bv false)] [(0,rE 1 zS ([]:List Int))] zB ?_
 refine J_d 60 [] [7] [(7,iv 0)] [] [] zB ?_
 refine zEH (zDO.ok a1 a2 q _ (fun v30=>J_j ?_) (([]:List Int),false,0))
 refine J_d 124 [] [6,37] [(37,bv (!v30.2))] [] [] zB ?_
 refine xS (atI c116 63) (fun v34:(List Int)=>St.mk' [(5,rr 2 v34)] [(2,rE 1 zS v34)]) (fun v34=>?_) (fun jv34=>?_)
 ·refine J_g 126 [] [(4,rr 2 v34)] [(2,rE 1 zS v34)] zB ?_
  exact zCT (ds:=[rr 2 v34]) (ds':=[so 1 zS v34]) (.cons (.cell (.move (.head _) (List.length_map _) (by decide) (.nil))) (.nil) (by decide)) rfl
 ·refine zD 37 (fun h31=>?_) (fun h31=>?_)
  ·refine zA (fun x32 h33=>?_)
   refine J_g 250 [] [(5,rr 2 x32)] [(2,rE 1 zS x32)] (zF 2 (zE6 39 2 1 1 zS [a2] [0] [(.tmp 39)] [iv a2]) (zF 3 (zHJ 39 39 2 2 1 8 2 0 1 zS (.tmp 38) (.tmp 40) h33) zB)) ?_
   exact xA (J_j (jv34 x32)) rfl
  ·refine zBR 0 2 (Nat.le_of_ble_eq_true rfl) (Nat.le_of_ble_eq_true rfl) ?_
   exact xA (J_j (jv34 v30.1)) rfl
noncomputable def zPx:Code:=(Tryz.f149.body).getD .skip
theorem zCn.ok (a1:(List Pack)) (x4:(List ByteArray)) (q:Wd) (kn:(List Int)→Option (D×List Ent)) (hk:∀v:(List Int),J (q.g Tryz.prog 149 0 60) zPx (atI zPx 63) (St.mk' [(4,pp 0),(6,rr 2 v)] [(0,.box [iv 0,iv 0,nv]),(2,rE 1 zS v)]) (some v) kn):
  ∀s29:((List Int)×Int),J (q.g Tryz.prog 149 0 60) zPx (atI zPx 500) (St.mk' [(0,sl 8 (Pack.enc false) a1),(4,pp 0),(5,rr 1 x4),(6,rr 2 s29.1),(7,iv s29.2)] [(0,.box [iv 0,iv 0,nv]),(1,rE 1 eStr x4),(2,rE 1 zS s29.1)]) (zCn a1 x4 s29) (Fl.go (fun r:xI=>some (.ag [iv r.Code,iv r.At,so 1 zS r.Set],[])) kn):=by
 refine kQ (fun g ih s29=>?_)
 unfold zAp
 refine J_d 2000 [] [21] [(21,bv (decide (s29.2< (x4.length:Int))))] [] [] zB ?_
 refine zD 21 (fun h30=>?_) (fun h30=>?_)
 ·refine zA (fun x31 h32=>?_)
  refine zA (fun x33 h34=>?_)
  refine J_g 8008 [] [(0,sl 8 (Pack.enc false) a1),(4,pp 0),(5,rr 1 x4),(6,rr 2 s29.1),(7,iv s29.2),(8,rr 3 x33)] [(0,.box [iv 0,iv 0,nv]),(1,rE 1 eStr x4),(2,rE 1 zS s29.1),(3,rE 1 eStr x33)] (zF 2 (tY (kk:=.i64) 86 9 1 1 eStr (.tmp 24) (.tmp 25) h32) (zF 3 (zDR (d:=sv x31) 9 1 1 0 eStr (.tmp 26) h32 (by kernel_rfl)) (zF 4 (uJ («as»:=[sv x31]) [(.tmp 27)] [9] false [] [] (.cons (.same rfl) (.nil)) (zCq.ok x31) h34 (.own 3)) zB))) ?_
  refine J_g 16018 [] [(0,sl 8 (Pack.enc false) a1),(4,pp 0),(5,rr 1 x4),(6,rr 2 s29.1),(7,iv s29.2),(8,rr 3 x33),(9,iv (-1))] [(0,.box [iv 0,iv 0,nv]),(1,rE 1 eStr x4),(2,rE 1 zS s29.1),(3,rE 1 eStr x33)] zB ?_
  refine J_d 64076 [] [31] [(31,bv ((x33.length:Int)==2))] [] [] zB ?_
  refine xS (atI zPx 32039) (fun v45:Int=>St.mk' [(0,sl 8 (Pack.enc false) a1),(4,pp 0),(5,rr 1 x4),(6,rr 2 s29.1),(7,iv s29.2),(9,iv v45)] [(0,.box [iv 0,iv 0,nv]),(1,rE 1 eStr x4),(2,rE 1 zS s29.1)]) (fun v45=>?_) (fun jv45=>?_)
  ·refine xS (atI zPx 128157) (fun v49:Bool=>St.mk' [(0,sl 8 (Pack.enc false) a1),(4,pp 0),(5,rr 1 x4),(6,rr 2 s29.1),(7,iv s29.2),(9,iv v45),(52,bv v49)] [(0,.box [iv 0,iv 0,nv]),(1,rE 1 eStr x4),(2,rE 1 zS s29.1)]) (fun v49=>?_) (fun jv49=>?_)
   ·refine zD 52 (fun h50=>?_) (fun h50=>?_)
    ·refine J_g 512628 [] [(4,pp 0)] [(0,.box [iv 5,iv s29.2,nv])] zB ?_
     exact zCT (ds:=[.ag [iv 5,iv s29.2,nv]]) (ds':=[.ag [iv 5,iv s29.2,so 1 zS ([]:List Int)]]) (.cons (.ag (.keep rfl (.keep rfl (.nilsl true 1 (.nil))))) (.nil) (by decide)) rfl
    ·refine zA (fun x51 h52=>?_)
     refine J_g 64079 [] [(0,sl 8 (Pack.enc false) a1),(4,pp 0),(5,rr 1 x4),(6,rr 3 x51),(7,iv s29.2)] [(0,.box [iv 0,iv 0,nv]),(1,rE 1 eStr x4),(3,rE 1 zS x51)] (zF 2 (uJ («as»:=[rr 2 s29.1,iv v45]) [(.tmp 55),(.tmp 56)] [39,2] true [(2,rE 1 zS s29.1)] [] (.cons (zFe (.head _) (fun _=>rfl) rfl) (.cons (.same rfl) (.nil))) (zDC.ok s29.1 v45) h52 (.own 3) (hbor:=fun _=>⟨fhN,(zFE (zH5 (fun _=>(flatK yJ zEU)) _))⟩)) zB) ?_
     refine J_d 2003 [] [7] [(7,iv (w64 (s29.2+1)))] [] [] zB ?_
     refine zBR 3 2 (Nat.le_of_ble_eq_true rfl) (Nat.le_of_ble_eq_true rfl) ?_
     exact J_q (J_b (ih (x51,w64 (s29.2+1)))) rfl
   ·refine wH (fun h46=>?_) (fun h46=>?_)
    ·refine J_d 128156 [] [52] [(52,bv true)] [] [] (xW 2 [(47,bv (decide (v45<0)))] [] h46 zB) ?_
     exact xA (J_j (jv49 true)) rfl
    ·refine zA (fun x47 h48=>?_)
     refine J_d 128156 [] [52] [(52,bv x47)] [] [] (xW 2 [(47,bv (decide (v45<0)))] [] h46 (zBS 5 2 48 false (uJ («as»:=[rr 2 s29.1,iv v45]) [(.tmp 49),(.tmp 50)] [39,2] true [(2,rE 1 zS s29.1)] [] (.cons (zFe (.head _) (fun _=>rfl) rfl) (.cons (.same rfl) (.nil))) (zCR.ok s29.1 v45) h48 (.same rfl rfl) (hbor:=fun _=>⟨fhN,yJ⟩)) zB)) ?_
     exact xA (J_j (jv49 x47)) rfl
  ·refine zD 31 (fun h35=>?_) (fun h35=>?_)
   ·refine zA (fun x36 h37=>?_)
    refine zA (fun x38 h39=>?_)
    refine J_g 256308 [(4,4)] [(0,sl 8 (Pack.enc false) a1),(4,pp 0),(5,rr 1 x4),(6,rr 2 s29.1),(7,iv s29.2),(8,rr 3 x33),(9,iv (-1)),(10,pp 4)] [(0,.box [iv 0,iv 0,nv]),(1,rE 1 eStr x4),(2,rE 1 zS s29.1),(3,rE 1 eStr x33),(4,.box (zQ.enc x38))] (zF 1 (tY (kk:=.i64) 86 9 1 3 eStr (.tmp 32) (.const (.int .i64 1)) h37) (zF 2 (zDR (d:=sv x36) 9 1 3 0 eStr (.tmp 33) h37 (by kernel_rfl)) (zF 3 (xU [(.tmp 34)] [9] (vN.ok x36) h39) zB))) ?_
    refine J_d 512618 [] [38] [(38,bv (x38.Code==0))] [] [] zB ?_
    refine zD 38 (fun h40=>?_) (fun h40=>?_)
    ·refine zA (fun x41 h42=>?_)
     refine zA (fun x43 h44=>?_)
     refine J_d 1025238 [] [8,9,10,38] [(9,iv x43)] [3,4] [] (zF 2 (tY (kk:=.i64) 86 9 1 3 eStr (.tmp 40) (.const (.int .i64 0)) h42) (zF 3 (zDR (d:=sv x41) 9 1 3 0 eStr (.tmp 41) h42 (by kernel_rfl)) (zF 6 (xU [(.tmp 39),(.tmp 42),(.tmp 44)] [30,9,99] (kU.ok a1 x41 x38.Version) h44) zB))) ?_
     exact xA (J_j (jv45 x43)) rfl
    ·exact xA (J_j (jv45 (-1))) rfl
   ·exact xA (J_j (jv45 (-1))) rfl
 ·exact xA (hk s29.1) rfl
theorem zCs.ok (a1:(List Pack)) (a2:ByteArray):Ok Tryz.prog 149 [sl 8 (Pack.enc false) a1,sv a2] [] ((zCs a1 a2).map fun r=>(.ag [iv r.Code,iv r.At,so 1 zS r.Set],[])):=by
 refine zG zPx Tryz.f149 0 60 (fun q=>?_)
 unfold zCs
 refine J_g 2 [(0,0)] [(0,sl 8 (Pack.enc false) a1),(1,sv a2),(4,pp 0)] [(0,.box [iv 0,iv 0,nv])] zB ?_
 refine J_d 12 [] [13] [(13,bv (decide ((a2.size:Int)>4000)))] [] [] zB ?_
 refine zD 13 (fun h3=>?_) (fun h3=>?_)
 ·refine J_g 52 [] [(4,pp 0)] [(0,.box [iv 2,iv 0,nv])] zB ?_
  exact zCT (ds:=[.ag [iv 2,iv 0,nv]]) (ds':=[.ag [iv 2,iv 0,so 1 zS ([]:List Int)]]) (.cons (.ag (.keep rfl (.keep rfl (.nilsl true 1 (.nil))))) (.nil) (by decide)) rfl
 ·refine zA (fun x4 h5=>?_)
  refine J_g 14 [] [(0,sl 8 (Pack.enc false) a1),(4,pp 0),(5,rr 1 x4)] [(0,.box [iv 0,iv 0,nv]),(1,rE 1 eStr x4)] (zF 1 (uJ («as»:=[sv a2]) [(.tmp 15)] [9] false [] [] (.cons (.same rfl) (.nil)) (zCp.ok a2) h5 (.own 1)) zB) ?_
  refine J_g 30 [] [(0,sl 8 (Pack.enc false) a1),(4,pp 0),(5,rr 1 x4),(6,rr 2 ([]:List Int))] [(0,.box [iv 0,iv 0,nv]),(1,rE 1 eStr x4),(2,rE 1 zS ([]:List Int))] (zF 0 (zE6 39 2 1 2 zS ([]:List Int) [] [] []) zB) ?_
  refine J_d 124 [] [7] [(7,iv 0)] [] [] zB ?_
  refine uR (K0:=(fun r:xI=>some (.ag [iv r.Code,iv r.At,so 1 zS r.Set],[]))) (fun _=>rfl) (zCn.ok a1 x4 q _ (fun v53=>J_j ?_) (([]:List Int),0))
  refine J_g 126 [] [(4,pp 0)] [(0,.box [iv 0,iv 0,rr 2 v53]),(2,rE 1 zS v53)] zB ?_
  exact zCT (ds:=[.ag [iv 0,iv 0,rr 2 v53]]) (ds':=[.ag [iv 0,iv 0,so 1 zS v53]]) (.cons (.ag (.keep rfl (.keep rfl (.move (.tail _ (.head _)) (List.length_map _) (by decide) (.nil))))) (.nil) (by decide)) rfl
noncomputable def c77:Code:=(Tryz.f77.body).getD .skip
theorem zEg.ok (a1:(List Pack)) (a2:zC) (a3:Int):Ok Tryz.prog 77 [sl 8 (Pack.enc false) a1,pp 0,iv a3] [.box (zC.enc false a2)] ((zEg a1 a2 a3).map fun r=>(.ag [iv r.Code,iv r.At,so 1 zS r.Set],[.box (zC.enc false a2)])):=by
 refine zG c77 Tryz.f77 1 35 (fun q=>?_)
 unfold zEg
 refine J_d 2 [(0,1)] [6] [(6,pp 1)] [1] [(1,.box [iv 0,iv 0,nv])] zB ?_
 refine zA (fun x4 h5=>?_)
 refine zA (fun x6 h7=>?_)
 refine J_d 12 [] [12] [(12,bv (!x6))] [] [] (zF 1 (zGj [(0,.box (zC.enc false a2))] [(2,rE 1 zS x4)] (uJ («as»:=[pp 0]) [(.tmp 8)] [72] false [(0,.box (zC.enc false a2))] [0] (.cons (.pt rfl) (.nil)) (zD5.ok a2) h5 (.own 2))) (zF 3 (uJ («as»:=[rr 2 x4,iv a3]) [(.tmp 9),(.tmp 10)] [39,2] true [(2,rE 1 zS x4)] [] (.cons (zFe (.head _) (fun _=>rfl) rfl) (.cons (.same rfl) (.nil))) (zCR.ok x4 a3) h7 (.same rfl rfl) (hbor:=fun _=>⟨fhN,yJ⟩)) zB)) ?_
 refine zD 12 (fun h8=>?_) (fun h8=>?_)
 ·refine J_g 52 [] [(6,pp 1)] [(0,.box (zC.enc false a2)),(1,.box [iv 4,iv 0,nv])] zB ?_
  exact zCT (ds:=[.ag [iv 4,iv 0,nv]]) (ds':=[.ag [iv 4,iv 0,so 1 zS ([]:List Int)]]) (.cons (.ag (.keep rfl (.keep rfl (.nilsl true 1 (.nil))))) (.nil) (by decide)) rfl
 ·refine zA (fun x9 h10=>?_)
  refine zA (fun x11 h12=>?_)
  refine zA (fun x13 h14=>?_)
  refine zA (fun x15 h16=>?_)
  refine J_g 14 [(14,3)] [(6,pp 1),(7,pp 3)] [(0,.box (zC.enc false a2)),(1,.box [iv 0,iv 0,nv]),(2,rE 1 zS x15.Set),(3,.box [iv x15.Code,iv x15.At,rr 2 x15.Set])] (zF 7 (xU [(.tmp 20)] [2] (jB.ok a3) h10) (zF 8 (zGj [(0,.box (zC.enc false a2))] [] (uJ («as»:=[pp 0,sv x9]) [(.tmp 19),(.tmp 21)] [72,9] false [(0,.box (zC.enc false a2))] [0] (.cons (.pt rfl) (.cons (.same rfl) (.nil))) (xP.ok a2 x9) h12 (.same rfl rfl))) (zF 9 (tL (kk:=.i64) 31 138 2 (File.enc false) (.tmp 18) (.tmp 22) h14) (zF 12 (zOb (xs:=x13.Data) 121 9 5 (.tmp 25)) (zF 13 (uJ («as»:=[sl 8 (Pack.enc false) a1,sv (b2s x13.Data)]) [(.tmp 14),(.tmp 26)] [30,9] false [] [] (.cons (.same rfl) (.cons (.same rfl) (.nil))) (zCs.ok a1 (b2s x13.Data)) h16 (.ag (.cons (.same rfl rfl) (.cons (.same rfl rfl) (.cons (.own 2) (.nil)))))) zB))))) ?_
  refine J_d 60 [] [30] [(30,bv (x15.Code !=0))] [] [] zB ?_
  refine zD 30 (fun h17=>?_) (fun h17=>?_)
  ·refine J_g 244 [] [(6,pp 1)] [(0,.box (zC.enc false a2)),(1,.box [iv x15.Code,iv 0,nv])] zB ?_
   exact zCT (ds:=[.ag [iv x15.Code,iv 0,nv]]) (ds':=[.ag [iv x15.Code,iv 0,so 1 zS ([]:List Int)]]) (.cons (.ag (.keep rfl (.keep rfl (.nilsl true 1 (.nil))))) (.nil) (by decide)) rfl
  ·refine J_g 62 [] [(6,pp 1)] [(0,.box (zC.enc false a2)),(1,.box [iv x15.Code,iv x15.At,rr 2 x15.Set]),(2,rE 1 zS x15.Set)] zB ?_
   exact zCT (ds:=[.ag [iv x15.Code,iv x15.At,rr 2 x15.Set]]) (ds':=[.ag [iv x15.Code,iv x15.At,so 1 zS x15.Set]]) (.cons (.ag (.keep rfl (.keep rfl (.move (.tail _ (.tail _ (.head _))) (List.length_map _) (by decide) (.nil))))) (.nil) (by decide)) rfl
noncomputable def zRP:Code:=(Tryz.f291.body).getD .skip
theorem jX.ok (a1:Term) (a2:ByteArray) (a3:Version):Ok Tryz.prog 291 [.ag (Term.enc a1),sv a2,.ag (Version.enc a3)] [] ((jX a1 a2 a3).map fun r=>(bv r,[])):=by
 refine zG zRP Tryz.f291 0 25 (fun q=>?_)
 unfold jX
 refine J_g 2 [(0,0),(1,1)] [(1,sv a2),(3,pp 0),(5,pp 1)] [(0,.box (Term.enc a1)),(1,.box (Version.enc a3))] zB ?_
 refine wH (fun h4=>?_) (fun h4=>?_)
 ·refine zA (fun x5 h6=>?_)
  refine wH (fun h7=>?_) (fun h7=>?_)
  ·refine zA (fun x8 h9=>?_)
   refine J_g 6 [] [(6,bv (decide (x8<0)))] [] (xW 4 [(10,bv (seq a1.Name a2))] [] h4 (zBS 8 4 11 true (xU [(.tmp 12),(.tmp 14)] [99,99] (yS.ok a3 a1.Low) h6) (xW 11 [(17,bv (decide (x5≥0)))] [] h7 (zBS 15 11 18 true (xU [(.tmp 19),(.tmp 21)] [99,99] (yS.ok a3 a1.High) h9) zB)))) ?_
   exact zN rfl
  ·refine J_g 6 [] [(6,bv false)] [] (xW 4 [(10,bv (seq a1.Name a2))] [] h4 (zBS 8 4 11 true (xU [(.tmp 12),(.tmp 14)] [99,99] (yS.ok a3 a1.Low) h6) (xW 11 [(17,bv (decide (x5≥0)))] [] h7 zB))) ?_
   exact zN rfl
 ·refine J_g 6 [] [(6,bv false)] [] (xW 4 [(10,bv (seq a1.Name a2))] [] h4 zB) ?_
  exact zN rfl
noncomputable def c234:Code:=(Tryz.f234.body).getD .skip
theorem zCz.ok (a1:Pack) (a2:Term):Ok Tryz.prog 234 [.ag (Pack.enc false a1),.ag (Term.enc a2)] [] ((zCz a1 a2).map fun r=>(bv r,[])):=by
 refine zG c234 Tryz.f234 0 25 (fun q=>?_)
 unfold zCz
 refine J_g 2 [(0,0),(1,1)] [(2,pp 0),(3,pp 1)] [(0,.box (Pack.enc false a1)),(1,.box (Term.enc a2))] zB ?_
 refine wH (fun h3=>?_) (fun h3=>?_)
 ·refine zA (fun x4 h5=>?_)
  refine J_g 6 [] [(4,bv x4)] [] (xW 5 [(9,bv (seq a2.Name a1.Name))] [] h3 (zBS 18 12 17 true (xU [(.tmp 18),(.tmp 20),(.tmp 22)] [149,9,99] (jX.ok a2 a2.Name a1.Version) h5) zB)) ?_
  exact zN rfl
 ·refine zA (fun x6 h7=>?_)
  refine wH (fun h8=>?_) (fun h8=>?_)
  ·refine zA (fun x9 h10=>?_)
   refine J_g 6 [] [(4,bv x9)] [] (xW 5 [(9,bv (seq a2.Name a1.Name))] [] h3 (zBS 10 5 10 false (xU [(.tmp 12),(.tmp 14)] [86,9] (jZ.ok a1.Provides a2.Name) h7) (xW 12 [(16,bv x6)] [] h8 (zBS 18 12 17 true (xU [(.tmp 18),(.tmp 20),(.tmp 22)] [149,9,99] (jX.ok a2 a2.Name a1.Version) h10) zB)))) ?_
   exact zN rfl
  ·refine J_g 6 [] [(4,bv false)] [] (xW 5 [(9,bv (seq a2.Name a1.Name))] [] h3 (zBS 10 5 10 false (xU [(.tmp 12),(.tmp 14)] [86,9] (jZ.ok a1.Provides a2.Name) h7) (xW 12 [(16,bv x6)] [] h8 zB))) ?_
   exact zN rfl
noncomputable def c168:Code:=(Tryz.f168.body).getD .skip
theorem zCj.ok (a1:(List Pack)) (a2:(List Int)) (a3:Term) (a4:Int) (q:Wd) (kn:Unit→Option (D×List Ent)) (hk:∀v:Unit,J (q.g Tryz.prog 168 0 33) c168 (atI c168 7) (St.mk' [] []) (some v) kn):
  ∀s17:Int,J (q.g Tryz.prog 168 0 33) c168 (atI c168 52) (St.mk' [(0,sl 8 (Pack.enc false) a1),(1,sl 1 zS a2),(3,iv a4),(6,pp 0),(9,iv s17)] [(0,.box (Term.enc a3))]) (zCj a1 a2 a3 a4 s17) (Fl.go (fun r:Bool=>some (bv r,[])) kn):=by
 refine kQ (fun g ih s17=>?_)
 unfold zBD
 refine J_d 208 [] [13] [(13,bv (decide (s17< (a2.length:Int))))] [] [] zB ?_
 refine zD 13 (fun h18=>?_) (fun h18=>?_)
 ·refine zA (fun x19 h20=>?_)
  refine xS (atI c168 841) (fun v28:Bool=>St.mk' [(0,sl 8 (Pack.enc false) a1),(1,sl 1 zS a2),(3,iv a4),(6,pp 0),(9,iv s17),(32,bv v28)] [(0,.box (Term.enc a3))]) (fun v28=>?_) (fun jv28=>?_)
  ·refine zD 32 (fun h29=>?_) (fun h29=>?_)
   ·refine J_g 3364 [] [(8,bv true)] [] zB ?_
    exact zN rfl
   ·refine J_d 211 [] [9,32] [(9,iv (w64 (s17+1)))] [] [] zB ?_
    exact J_q (J_b (ih (w64 (s17+1)))) rfl
  ·refine wH (fun h21=>?_) (fun h21=>?_)
   ·refine zA (fun x22 h23=>?_)
    refine zA (fun x24 h25=>?_)
    refine zA (fun x26 h27=>?_)
    refine J_d 840 [] [13,32] [(32,bv x26)] [] [] (zF 2 (tL (kk:=.i64) 39 2 1 zS (.tmp 16) (.tmp 17) h20) (xW 6 [(21,bv (x19 !=a4))] [] h21 (zBS 10 6 22 true (tL (kk:=.i64) 39 2 1 zS (.tmp 24) (.tmp 25) h23) (zBS 12 6 22 true (tL (kk:=.i64) 30 102 8 (Pack.enc false) (.tmp 23) (.tmp 27) h25) (zBS 15 6 22 true (xU [(.tmp 29),(.tmp 30)] [102,149] (zCz.ok x24 a3) h27) zB))))) ?_
    exact xA (J_j (jv28 x26)) rfl
   ·refine J_d 840 [] [13,32] [(32,bv false)] [] [] (zF 2 (tL (kk:=.i64) 39 2 1 zS (.tmp 16) (.tmp 17) h20) (xW 6 [(21,bv (x19 !=a4))] [] h21 zB)) ?_
    exact xA (J_j (jv28 false)) rfl
 ·exact xA (hk ()) rfl
theorem zA0.ok (a1:(List Pack)) (a2:(List Int)) (a3:Term) (a4:Int):Ok Tryz.prog 168 [sl 8 (Pack.enc false) a1,sl 1 zS a2,.ag (Term.enc a3),iv a4] [] ((zA0 a1 a2 a3 a4).map fun r=>(bv r,[])):=by
 refine zG c168 Tryz.f168 0 33 (fun q=>?_)
 unfold zA0
 refine J_g 2 [(0,0)] [(0,sl 8 (Pack.enc false) a1),(1,sl 1 zS a2),(3,iv a4),(6,pp 0)] [(0,.box (Term.enc a3))] zB ?_
 refine J_d 12 [] [9] [(9,iv 0)] [] [] zB ?_
 refine uR (K0:=(fun r:Bool=>some (bv r,[]))) (fun _=>rfl) (zCj.ok a1 a2 a3 a4 q _ (fun v30=>J_j ?_) 0)
 refine J_g 14 [] [(8,bv false)] [] zB ?_
 exact zN rfl
noncomputable def c167:Code:=(Tryz.f167.body).getD .skip
theorem zDJ.ok (a1:(List Pack)) (a2:(List Int)) (a3:(List Term)) (q:Wd) (kn:Unit→Option (D×List Ent)) (hk:∀v:Unit,J (q.g Tryz.prog 167 0 21) c167 (atI c167 7) (St.mk' [] []) (some v) kn):
  ∀s10:Int,J (q.g Tryz.prog 167 0 21) c167 (atI c167 52) (St.mk' [(0,sl 8 (Pack.enc false) a1),(1,sl 1 zS a2),(2,sl 7 Term.enc a3),(7,iv s10)] []) (zDJ a1 a2 a3 s10) (Fl.go (fun r:Bool=>some (bv r,[])) kn):=by
 refine kQ (fun g ih s10=>?_)
 unfold zDg
 refine J_d 208 [] [11] [(11,bv (decide (s10< (a3.length:Int))))] [] [] zB ?_
 refine zD 11 (fun h11=>?_) (fun h11=>?_)
 ·refine zA (fun x12 h13=>?_)
  refine zA (fun x14 h15=>?_)
  refine J_d 840 [] [11,20] [(20,bv x14)] [] [] (zF 4 (tL (kk:=.i64) 75 149 7 Term.enc (.tmp 16) (.tmp 17) h13) (zF 6 (xU [(.tmp 14),(.tmp 15),(.tmp 19),(.const (.int .i64 (-1)))] [30,39,149,2] (zA0.ok a1 a2 x12 (-1)) h15) zB)) ?_
  refine zD 20 (fun h16=>?_) (fun h16=>?_)
  ·refine J_g 3364 [] [(6,bv true)] [] zB ?_
   exact zN rfl
  ·refine J_d 211 [] [7,20] [(7,iv (w64 (s10+1)))] [] [] zB ?_
   exact J_q (J_b (ih (w64 (s10+1)))) rfl
 ·exact xA (hk ()) rfl
theorem zDV.ok (a1:(List Pack)) (a2:(List Int)) (a3:(List Term)):Ok Tryz.prog 167 [sl 8 (Pack.enc false) a1,sl 1 zS a2,sl 7 Term.enc a3] [] ((zDV a1 a2 a3).map fun r=>(bv r,[])):=by
 refine zG c167 Tryz.f167 0 21 (fun q=>?_)
 unfold zDV
 refine J_g 2 [] [(0,sl 8 (Pack.enc false) a1),(1,sl 1 zS a2),(2,sl 7 Term.enc a3)] [] zB ?_
 refine J_d 12 [] [7] [(7,iv 0)] [] [] zB ?_
 refine uR (K0:=(fun r:Bool=>some (bv r,[]))) (fun _=>rfl) (zDJ.ok a1 a2 a3 q _ (fun v17=>J_j ?_) 0)
 refine J_g 14 [] [(6,bv false)] [] zB ?_
 exact zN rfl
noncomputable def c93:Code:=(Tryz.f93.body).getD .skip
theorem zBM.ok (a1:(List Pack)) (a2:(List Int)) (s82:((List zR)×Int)) (x86:Pack) (q:Wd) (kn:(List zR)→Option (D×List Ent)) (hk:∀v:(List zR),J (q.g Tryz.prog 93 0 103) c93 (aft c93 932) (St.mk' [(0,sl 8 (Pack.enc false) a1),(1,sl 1 zS a2),(5,rr 0 v),(6,iv s82.2)] [(0,rE 3 zR.enc v)]) (some v) kn):
  ∀s147:((List zR)×Int),J (q.g Tryz.prog 93 0 103) c93 (atI c93 59708) (St.mk' [(0,sl 8 (Pack.enc false) a1),(1,sl 1 zS a2),(5,rr 0 s147.1),(6,iv s82.2),(7,pp 1),(10,iv s147.2)] [(0,rE 3 zR.enc s147.1),(1,.box (Pack.enc false x86))]) (zBM a1 a2 s82 x86 s147) kn:=by
 refine kQ (fun g ih s147=>?_)
 unfold zBk
 refine J_d 238832 [] [78] [(78,bv (decide (s147.2< (x86.Bars.length:Int))))] [] [] zB ?_
 refine zD 78 (fun h148=>?_) (fun h148=>?_)
 ·refine zA (fun x149 h150=>?_)
  refine zA (fun x151 h152=>?_)
  refine zA (fun x153 h154=>?_)
  refine J_d 955336 [] [78,92] [(92,bv x153)] [] [] (zF 5 (tL (kk:=.i64) 75 149 7 Term.enc (.tmp 84) (.tmp 85) h150) (zF 9 (tL (kk:=.i64) 39 2 1 zS (.tmp 88) (.tmp 89) h152) (zF 11 (xU [(.tmp 81),(.tmp 82),(.tmp 87),(.tmp 91)] [30,39,149,2] (zA0.ok a1 a2 x149 x151) h154) zB))) ?_
  refine xS (aft c93 477668) (fun v160:(List zR)=>St.mk' [(0,sl 8 (Pack.enc false) a1),(1,sl 1 zS a2),(5,rr 3 v160),(6,iv s82.2),(7,pp 1),(10,iv s147.2)] [(1,.box (Pack.enc false x86)),(3,rE 3 zR.enc v160)]) (fun v160=>?_) (fun jv160=>?_)
  ·refine J_d 238835 [] [10] [(10,iv (w64 (s147.2+1)))] [] [] zB ?_
   refine zBR 3 0 (Nat.le_of_ble_eq_true rfl) (Nat.le_of_ble_eq_true rfl) ?_
   exact J_q (J_b (ih (v160,w64 (s147.2+1)))) rfl
  ·refine zD 92 (fun h155=>?_) (fun h155=>?_)
   ·refine zA (fun x156 h157=>?_)
    refine zA (fun x158 h159=>?_)
    refine J_d 1910674 [] [5,92] [(5,rr 3 x158)] [0,3] [(3,rE 3 zR.enc x158)] (zF 3 (tL (kk:=.i64) 39 2 1 zS (.tmp 94) (.tmp 95) h157) (zF 7 (zE6 133 199 3 2 zR.enc [({Kind:=3,Pack:=x156,At:=s147.2}:zR)] [0] [(.tmp 99)] [.ag [iv 3,iv x156,iv s147.2]]) (zF 8 (zHJ 133 133 199 199 3 24 3 0 2 zR.enc (.tmp 93) (.tmp 100) h159) zB))) ?_
    exact xA (J_j (jv160 x158)) rfl
   ·refine zBR 0 3 (Nat.le_of_ble_eq_true rfl) (Nat.le_of_ble_eq_true rfl) ?_
    exact xA (J_j (jv160 s147.1)) rfl
 ·exact xA (hk s147.1) rfl
theorem zBF.ok (a1:(List Pack)) (a2:(List Int)) (s82:((List zR)×Int)) (x86:Pack) (q:Wd) (kn:(List zR)→Option (D×List Ent)) (hk:∀v:(List zR),J (q.g Tryz.prog 93 0 103) c93 (atI c93 7463) (St.mk' [(0,sl 8 (Pack.enc false) a1),(1,sl 1 zS a2),(5,rr 0 v),(6,iv s82.2),(7,pp 1)] [(0,rE 3 zR.enc v),(1,.box (Pack.enc false x86))]) (some v) kn):
  ∀s121:((List zR)×Int),J (q.g Tryz.prog 93 0 103) c93 (atI c93 59700) (St.mk' [(0,sl 8 (Pack.enc false) a1),(1,sl 1 zS a2),(5,rr 0 s121.1),(6,iv s82.2),(7,pp 1),(9,iv s121.2)] [(0,rE 3 zR.enc s121.1),(1,.box (Pack.enc false x86))]) (zBF a1 a2 s82 x86 s121) kn:=by
 refine kQ (fun g ih s121=>?_)
 unfold zAX
 refine J_d 238800 [] [53] [(53,bv (decide (s121.2< (x86.Needs.length:Int))))] [] [] zB ?_
 refine zD 53 (fun h122=>?_) (fun h122=>?_)
 ·refine zA (fun x123 h124=>?_)
  refine zA (fun x125 h126=>?_)
  refine J_d 955208 [] [53,64] [(64,bv (!x125))] [] [] (zF 5 (tL (kk:=.i64) 100 75 1 (eSl false 7 Term.enc) (.tmp 59) (.tmp 60) h124) (zF 7 (xU [(.tmp 56),(.tmp 57),(.tmp 62)] [30,39,75] (zDV.ok a1 a2 x123) h126) zB)) ?_
  refine xS (aft c93 477604) (fun v132:(List zR)=>St.mk' [(0,sl 8 (Pack.enc false) a1),(1,sl 1 zS a2),(5,rr 3 v132),(6,iv s82.2),(7,pp 1),(9,iv s121.2)] [(1,.box (Pack.enc false x86)),(3,rE 3 zR.enc v132)]) (fun v132=>?_) (fun jv132=>?_)
  ·refine J_d 238803 [] [9] [(9,iv (w64 (s121.2+1)))] [] [] zB ?_
   refine zBR 3 0 (Nat.le_of_ble_eq_true rfl) (Nat.le_of_ble_eq_true rfl) ?_
   exact J_q (J_b (ih (v132,w64 (s121.2+1)))) rfl
  ·refine zD 64 (fun h127=>?_) (fun h127=>?_)
   ·refine zA (fun x128 h129=>?_)
    refine zA (fun x130 h131=>?_)
    refine J_d 1910418 [] [5,64] [(5,rr 3 x130)] [0,3] [(3,rE 3 zR.enc x130)] (zF 3 (tL (kk:=.i64) 39 2 1 zS (.tmp 66) (.tmp 67) h129) (zF 7 (zE6 133 199 3 2 zR.enc [({Kind:=2,Pack:=x128,At:=s121.2}:zR)] [0] [(.tmp 71)] [.ag [iv 2,iv x128,iv s121.2]]) (zF 8 (zHJ 133 133 199 199 3 24 3 0 2 zR.enc (.tmp 65) (.tmp 72) h131) zB))) ?_
    exact xA (J_j (jv132 x130)) rfl
   ·refine zBR 0 3 (Nat.le_of_ble_eq_true rfl) (Nat.le_of_ble_eq_true rfl) ?_
    exact xA (J_j (jv132 s121.1)) rfl
 ·exact xA (hk s121.1) rfl
theorem zAn.ok (a1:(List Pack)) (a2:(List Int)) (s82:((List zR)×Int)) (x86:Pack) (q:Wd) (kn:(List zR)→Option (D×List Ent)) (hk:∀v:(List zR),J (q.g Tryz.prog 93 0 103) c93 (atI c93 3731) (St.mk' [(0,sl 8 (Pack.enc false) a1),(1,sl 1 zS a2),(5,rr 0 v),(6,iv s82.2),(7,pp 1)] [(0,rE 3 zR.enc v),(1,.box (Pack.enc false x86))]) (some v) kn):
  ∀s98:Int,J (q.g Tryz.prog 93 0 103) c93 (atI c93 29844) (St.mk' [(0,sl 8 (Pack.enc false) a1),(1,sl 1 zS a2),(5,rr 0 s82.1),(6,iv s82.2),(7,pp 1),(8,iv s98)] [(0,rE 3 zR.enc s82.1),(1,.box (Pack.enc false x86))]) (zAn a1 a2 s82 x86 s98) kn:=by
 refine kQ (fun g ih s98=>?_)
 unfold zBg
 refine J_d 119376 [] [27] [(27,bv (decide (s98<s82.2)))] [] [] zB ?_
 refine zD 27 (fun h99=>?_) (fun h99=>?_)
 ·refine zA (fun x100 h101=>?_)
  refine zA (fun x102 h103=>?_)
  refine J_d 477512 [] [27,40] [(40,bv (seq x102.Name x86.Name))] [] [] (zF 3 (tL (kk:=.i64) 39 2 1 zS (.tmp 31) (.tmp 32) h101) (zF 5 (tL (kk:=.i64) 30 102 8 (Pack.enc false) (.tmp 30) (.tmp 34) h103) zB)) ?_
  refine zD 40 (fun h104=>?_) (fun h104=>?_)
  ·refine zA (fun x105 h106=>?_)
   refine zA (fun x107 h108=>?_)
   refine J_d 1910052 [] [5,8,40] [(5,rr 3 x107)] [0,3] [(3,rE 3 zR.enc x107)] (zF 3 (tL (kk:=.i64) 39 2 1 zS (.tmp 42) (.tmp 43) h106) (zF 6 (zE6 133 199 3 2 zR.enc [({Kind:=1,Pack:=x105,At:=0}:zR)] [0] [(.tmp 46)] [.ag [iv 1,iv x105,iv 0]]) (zF 7 (zHJ 133 133 199 199 3 24 3 0 2 zR.enc (.tmp 41) (.tmp 47) h108) zB))) ?_
   refine zBR 3 0 (Nat.le_of_ble_eq_true rfl) (Nat.le_of_ble_eq_true rfl) ?_
   exact xA (hk x107) rfl
  ·refine J_d 119379 [] [8,40] [(8,iv (w64 (s98+1)))] [] [] zB ?_
   exact J_q (J_b (ih (w64 (s98+1)))) rfl
 ·exact xA (hk s82.1) rfl
theorem zBC.ok (a1:(List Pack)) (a2:(List Int)) (q:Wd) (kn:(List zR)→Option (D×List Ent)) (hk:∀v:(List zR),J (q.g Tryz.prog 93 0 103) c93 (atI c93 15) (St.mk' [(5,rr 0 v)] [(0,rE 3 zR.enc v)]) (some v) kn):
  ∀s82:((List zR)×Int),J (q.g Tryz.prog 93 0 103) c93 (atI c93 116) (St.mk' [(0,sl 8 (Pack.enc false) a1),(1,sl 1 zS a2),(5,rr 0 s82.1),(6,iv s82.2)] [(0,rE 3 zR.enc s82.1)]) (zBC a1 a2 s82) kn:=by
 refine kQ (fun g ih s82=>?_)
 unfold zBm
 refine J_d 464 [] [15] [(15,bv (decide (s82.2< (a2.length:Int))))] [] [] zB ?_
 refine zD 15 (fun h83=>?_) (fun h83=>?_)
 ·refine zA (fun x84 h85=>?_)
  refine zA (fun x86 h87=>?_)
  refine J_g 1864 [(7,1)] [(0,sl 8 (Pack.enc false) a1),(1,sl 1 zS a2),(5,rr 0 s82.1),(6,iv s82.2),(7,pp 1)] [(0,rE 3 zR.enc s82.1),(1,.box (Pack.enc false x86))] (zF 3 (tL (kk:=.i64) 39 2 1 zS (.tmp 19) (.tmp 20) h85) (zF 5 (tL (kk:=.i64) 30 102 8 (Pack.enc false) (.tmp 18) (.tmp 22) h87) zB)) ?_
  refine J_d 7460 [] [8] [(8,iv 0)] [] [] zB ?_
  refine zEH (zAn.ok a1 a2 s82 x86 q _ (fun v109=>J_j ?_) 0)
  refine J_d 14924 [] [9] [(9,iv 0)] [] [] zB ?_
  refine zEH (zBF.ok a1 a2 s82 x86 q _ (fun v133=>J_j ?_) (v109,0))
  refine J_d 14926 [] [10] [(10,iv 0)] [] [] zB ?_
  refine zEH (zBM.ok a1 a2 s82 x86 q _ (fun v161=>J_j ?_) (v133,0))
  refine J_d 467 [] [6] [(6,iv (w64 (s82.2+1)))] [] [] zB ?_
  exact J_q (J_b (ih (v161,w64 (s82.2+1)))) rfl
 ·exact xA (hk s82.1) rfl
theorem zBr.ok (a1:(List Pack)) (a2:(List Int)):Ok Tryz.prog 93 [sl 8 (Pack.enc false) a1,sl 1 zS a2] [] ((zBr a1 a2).map fun r=>(so 3 zR.enc r,[])):=by
 refine zG c93 Tryz.f93 0 103 (fun q=>?_)
 unfold zBr
 refine J_g 2 [] [(0,sl 8 (Pack.enc false) a1),(1,sl 1 zS a2)] [] zB ?_
 refine J_g 6 [] [(0,sl 8 (Pack.enc false) a1),(1,sl 1 zS a2),(5,rr 0 ([]:List zR))] [(0,rE 3 zR.enc ([]:List zR))] (zF 0 (zE6 133 199 3 0 zR.enc ([]:List zR) [] [] []) zB) ?_
 refine J_d 28 [] [6] [(6,iv 0)] [] [] zB ?_
 refine zEH (zBC.ok a1 a2 q _ (fun v162=>J_j ?_) (([]:List zR),0))
 refine J_g 30 [] [(4,rr 0 v162)] [(0,rE 3 zR.enc v162)] zB ?_
 exact zCT (ds:=[rr 0 v162]) (ds':=[so 3 zR.enc v162]) (.cons (.cell (.move (.head _) (List.length_map _) (by decide) (.nil))) (.nil) (by decide)) rfl
noncomputable def c44:Code:=(Tryz.f44.body).getD .skip
theorem zC9.ok (a1:(List Pack)) (a2:(List Int)):Ok Tryz.prog 44 [sl 8 (Pack.enc false) a1,sl 1 zS a2] [] ((zC9 a1 a2).map fun r=>(bv r,[])):=by
 refine zG c44 Tryz.f44 0 10 (fun q=>?_)
 unfold zC9
 refine J_d 2 [] [] [] [] [] zB ?_
 refine zA (fun x3 h4=>?_)
 refine J_g 6 [] [(4,bv ((x3.length:Int)==0))] [] (zF 2 (uJ («as»:=[sl 8 (Pack.enc false) a1,sl 1 zS a2]) [(.tmp 5),(.tmp 6)] [30,39] false [] [] (.cons (.same rfl) (.cons (.same rfl) (.nil))) (zBr.ok a1 a2) h4 (.own 0)) zB) ?_
 exact zN rfl
noncomputable def zS5:Code:=(Tryz.f169.body).getD .skip
theorem uH.ok (a1:Version):Ok Tryz.prog 169 [.ag (Version.enc a1)] [] ((uH a1).map fun r=>(sv r,[])):=by
 refine zG zS5 Tryz.f169 0 19 (fun q=>?_)
 unfold uH
 refine J_g 2 [(0,0)] [(1,pp 0)] [(0,.box (Version.enc a1))] zB ?_
 refine zA (fun x2 h3=>?_)
 refine J_d 12 [] [5] [(5,bv (x2 !=0))] [] [] (zF 1 (xU [(.tmp 3)] [99] (xQ.ok a1) h3) zB) ?_
 refine zD 5 (fun h4=>?_) (fun h4=>?_)
 ·refine J_g 52 [] [(2,sv (bs []))] [] zB ?_
  exact zN rfl
 ·refine zA (fun x5 h6=>?_)
  refine zA (fun x7 h8=>?_)
  refine zA (fun x9 h10=>?_)
  refine zA (fun x11 h12=>?_)
  refine zA (fun x13 h14=>?_)
  refine zA (fun x15 h16=>?_)
  refine zA (fun x17 h18=>?_)
  refine J_g 14 [] [(2,sv x17)] [] (zF 2 (xU [(.tmp 7)] [2] (xY.ok a1.A) h6) (zF 3 (zEE 9 9 (.tmp 8) (.const (.string (bs [46]))) h8) (zF 6 (xU [(.tmp 11)] [2] (xY.ok a1.B) h10) (zF 7 (zEE 9 9 (.tmp 9) (.tmp 12) h12) (zF 8 (zEE 9 9 (.tmp 13) (.const (.string (bs [46]))) h14) (zF 11 (xU [(.tmp 16)] [2] (xY.ok a1.C) h16) (zF 12 (zEE 9 9 (.tmp 14) (.tmp 17) h18) zB))))))) ?_
  exact zN rfl
noncomputable def c94:Code:=(Tryz.f94.body).getD .skip
theorem zDz.ok (a1:Pack):Ok Tryz.prog 94 [.ag (Pack.enc false a1)] [] ((zDz a1).map fun r=>(sv r,[])):=by
 refine zG c94 Tryz.f94 0 11 (fun q=>?_)
 unfold zDz
 refine J_g 2 [(0,0)] [(1,pp 0)] [(0,.box (Pack.enc false a1))] zB ?_
 refine zA (fun x2 h3=>?_)
 refine zA (fun x4 h5=>?_)
 refine zA (fun x6 h7=>?_)
 refine zA (fun x8 h9=>?_)
 refine J_g 6 [] [(2,sv x8)] [] (zF 2 (zEE 9 9 (.const (.string (bs [112,107,103,47]))) (.tmp 4) h3) (zF 3 (zEE 9 9 (.tmp 5) (.const (.string (bs [45]))) h5) (zF 6 (xU [(.tmp 8)] [99] (uH.ok a1.Version) h7) (zF 7 (zEE 9 9 (.tmp 6) (.tmp 9) h9) zB)))) ?_
 exact zN rfl
noncomputable def c96:Code:=(Tryz.f96.body).getD .skip
theorem zC6.ok (a1:Pack) (q:Wd) (kn:(List Int)→Option (D×List Ent)) (hk:∀v:(List Int),J (q.g Tryz.prog 96 0 50) c96 (atI c96 63) (St.mk' [(5,rr 1 v)] [(1,rE 1 eU8 v)]) (some v) kn):
  ∀s13:(Int×(List Int)×Int),J (q.g Tryz.prog 96 0 50) c96 (atI c96 500) (St.mk' [(1,pp 0),(3,iv s13.1),(5,rr 1 s13.2.1),(6,iv s13.2.2)] [(0,.box (Pack.enc false a1)),(1,rE 1 eU8 s13.2.1)]) (zC6 a1 s13) kn:=by
 refine kQ (fun g ih s13=>?_)
 unfold zBE
 refine J_d 2000 [] [36] [(36,bv (decide (s13.2.2<a1.Size)))] [] [] zB ?_
 refine zD 36 (fun h14=>?_) (fun h14=>?_)
 ·refine J_d 8008 [] [3,36] [(3,iv (s13.1.tmod 256))] [] [] zB ?_
  refine zA (fun x15 h16=>?_)
  refine J_g 16018 [] [(1,pp 0),(3,iv (s13.1.tmod 256)),(5,rr 3 x15),(6,iv s13.2.2)] [(0,.box (Pack.enc false a1)),(3,rE 1 eU8 x15)] (zF 3 (zE6 121 5 1 2 eU8 [IntKind.u8.wrap (s13.1.tmod 256)] [0] [(.tmp 43)] [uv (IntKind.u8.wrap (s13.1.tmod 256))]) (zF 4 (zHJ 121 121 5 5 1 1 3 1 2 eU8 (.tmp 41) (.tmp 44) h16) zB)) ?_
  refine J_g 16019 [] [(1,pp 0),(3,iv (w64 ((w64 (31*(s13.1.tmod 256)))+7))),(5,rr 3 x15),(6,iv s13.2.2)] [(0,.box (Pack.enc false a1)),(3,rE 1 eU8 x15)] zB ?_
  refine J_d 2003 [] [6] [(6,iv (w64 (s13.2.2+1)))] [] [] zB ?_
  refine zBR 3 1 (Nat.le_of_ble_eq_true rfl) (Nat.le_of_ble_eq_true rfl) ?_
  exact J_q (J_b (ih (w64 ((w64 (31*(s13.1.tmod 256)))+7),x15,w64 (s13.2.2+1)))) rfl
 ·exact xA (hk s13.2.1) rfl
theorem zBZ.ok (a1:Pack) (q:Wd) (kn:Int→Option (D×List Ent)) (hk:∀v:Int,J (q.g Tryz.prog 96 0 50) c96 (atI c96 15) (St.mk' [(1,pp 0),(3,iv v)] [(0,.box (Pack.enc false a1))]) (some v) kn):
  ∀s5:(Int×Int),J (q.g Tryz.prog 96 0 50) c96 (atI c96 116) (St.mk' [(1,pp 0),(3,iv s5.1),(4,iv s5.2)] [(0,.box (Pack.enc false a1))]) (zBZ a1 s5) kn:=by
 refine kQ (fun g ih s5=>?_)
 unfold zBH
 refine J_d 464 [] [22] [(22,bv (decide (s5.2< (a1.Name.size:Int))))] [] [] zB ?_
 refine zD 22 (fun h6=>?_) (fun h6=>?_)
 ·refine zA (fun x7 h8=>?_)
  refine J_g 932 [] [(1,pp 0),(3,iv (w64 (s5.1+(w64 (x7))))),(4,iv s5.2)] [(0,.box (Pack.enc false a1))] (zF 4 (zJZ (kk:=.i64) 9 (.tmp 27) (.tmp 28) h8) zB) ?_
  refine J_d 467 [] [4] [(4,iv (w64 (s5.2+1)))] [] [] zB ?_
  exact J_q (J_b (ih (w64 (s5.1+(w64 (x7))),w64 (s5.2+1)))) rfl
 ·exact xA (hk s5.1) rfl
theorem zCw.ok (a1:Pack):Ok Tryz.prog 96 [.ag (Pack.enc false a1)] [] ((zCw a1).map fun r=>(so 1 eU8 r,[])):=by
 refine zG c96 Tryz.f96 0 50 (fun q=>?_)
 unfold zCw
 refine J_g 2 [(0,0)] [(1,pp 0)] [(0,.box (Pack.enc false a1))] zB ?_
 refine J_g 6 [] [(1,pp 0),(3,iv (w64 ((w64 (a1.Version.A+a1.Version.B))+a1.Version.C)))] [(0,.box (Pack.enc false a1))] zB ?_
 refine J_d 28 [] [4] [(4,iv 0)] [] [] zB ?_
 refine zEH (zBZ.ok a1 q _ (fun v9=>J_j ?_) (w64 ((w64 (a1.Version.A+a1.Version.B))+a1.Version.C),0))
 refine J_g 30 [] [(1,pp 0),(3,iv v9),(5,rr 1 ([]:List Int))] [(0,.box (Pack.enc false a1)),(1,rE 1 eU8 ([]:List Int))] (zF 0 (zE6 121 5 1 1 eU8 ([]:List Int) [] [] []) zB) ?_
 refine J_d 124 [] [6] [(6,iv 0)] [] [] zB ?_
 refine zEH (zC6.ok a1 q _ (fun v17=>J_j ?_) (v9,([]:List Int),0))
 refine J_g 126 [] [(2,rr 1 v17)] [(1,rE 1 eU8 v17)] zB ?_
 exact zCT (ds:=[rr 1 v17]) (ds':=[so 1 eU8 v17]) (.cons (.cell (.move (.head _) (List.length_map _) (by decide) (.nil))) (.nil) (by decide)) rfl
noncomputable def c95:Code:=(Tryz.f95.body).getD .skip
theorem zEa.ok (a1:(List Int)) (a2:(List Int)):Ok Tryz.prog 95 [sl 1 eU8 a1,sl 1 eU8 a2] [] ((zEa a1 a2).map fun r=>(bv r,[])):=by
 refine zG c95 Tryz.f95 0 10 (fun q=>?_)
 unfold zEa
 refine J_g 2 [] [(0,sl 1 eU8 a1),(1,sl 1 eU8 a2)] [] zB ?_
 refine J_g 6 [] [(4,bv (seq (b2s a1) (b2s a2)))] [] (zF 1 (zOb (xs:=a1) 121 9 5 (.tmp 5)) (zF 3 (zOb (xs:=a2) 121 9 5 (.tmp 7)) zB)) ?_
 exact zN rfl
noncomputable def c45:Code:=(Tryz.f45.body).getD .skip
theorem zFT.ok (a1:(List Pack)) (a2:zC) (a3:(List Int)) (q:Wd) (kn:(List Int)→Option (D×List Ent)) (hk:∀v:(List Int),J (q.g Tryz.prog 45 2 57) c45 (atI c45 15) (St.mk' [(7,rr 2 v)] [(0,.box (zC.enc false a2)),(1,rE 1 zS a3),(2,rE 1 zS v)]) (some v) kn):
  ∀s31:((List Int)×Int),J (q.g Tryz.prog 45 2 57) c45 (atI c45 116) (St.mk' [(0,sl 8 (Pack.enc false) a1),(1,pp 0),(2,rr 1 a3),(7,rr 2 s31.1),(8,iv s31.2)] [(0,.box (zC.enc false a2)),(1,rE 1 zS a3),(2,rE 1 zS s31.1)]) (zDY a1 a2 a3 s31) kn:=by
 refine kQ (fun g ih s31=>?_)
 unfold zAq
 refine J_d 464 [] [14] [(14,bv (decide (s31.2< (a3.length:Int))))] [] [] zB ?_
 refine zD 14 (fun h32=>?_) (fun h32=>?_)
 ·refine zA (fun x33 h34=>?_)
  refine zA (fun x35 h36=>?_)
  refine zA (fun x37 h38=>?_)
  refine zA (fun x39 h40=>?_)
  refine J_d 1864 [] [9,14] [(9,iv x39)] [] [] (zF 4 (tY (kk:=.i64) 39 2 1 1 zS (.tmp 19) (.tmp 20) h34) (zF 5 (zDR (d:=iv x33) 2 1 1 0 zS (.tmp 21) h34 (by kernel_rfl)) (zF 6 (tL (kk:=.i64) 30 102 8 (Pack.enc false) (.tmp 18) (.tmp 22) h36) (zF 8 (xU [(.tmp 24)] [102] (zDz.ok x35) h38) (zF 9 (zGj [(0,.box (zC.enc false a2))] [] (uJ («as»:=[pp 0,sv x37]) [(.tmp 17),(.tmp 25)] [72,9] false [(0,.box (zC.enc false a2))] [0] (.cons (.pt rfl) (.cons (.same rfl) (.nil))) (xP.ok a2 x37) h40 (.same rfl rfl))) zB))))) ?_
  refine xS (atI c45 3731) (fun v52:Bool=>St.mk' [(0,sl 8 (Pack.enc false) a1),(1,pp 0),(2,rr 1 a3),(7,rr 2 s31.1),(8,iv s31.2),(48,bv v52)] [(0,.box (zC.enc false a2)),(1,rE 1 zS a3),(2,rE 1 zS s31.1)]) (fun v52=>?_) (fun jv52=>?_)
  ·refine xS (aft c45 932) (fun v58:(List Int)=>St.mk' [(0,sl 8 (Pack.enc false) a1),(1,pp 0),(2,rr 1 a3),(7,rr 4 v58),(8,iv s31.2)] [(0,.box (zC.enc false a2)),(1,rE 1 zS a3),(4,rE 1 zS v58)]) (fun v58=>?_) (fun jv58=>?_)
   ·refine J_d 467 [] [8] [(8,iv (w64 (s31.2+1)))] [] [] zB ?_
    refine zBR 4 2 (Nat.le_of_ble_eq_true rfl) (Nat.le_of_ble_eq_true rfl) ?_
    exact J_q (J_b (ih (v58,w64 (s31.2+1)))) rfl
   ·refine zD 48 (fun h53=>?_) (fun h53=>?_)
    ·refine zA (fun x54 h55=>?_)
     refine zA (fun x56 h57=>?_)
     refine J_d 7462 [] [7,48] [(7,rr 4 x56)] [2,4] [(4,rE 1 zS x56)] (zF 3 (tY (kk:=.i64) 39 2 1 1 zS (.tmp 50) (.tmp 51) h55) (zF 4 (zDR (d:=iv x54) 2 1 1 0 zS (.tmp 52) h55 (by kernel_rfl)) (zF 5 (zE6 39 2 1 3 zS [x54] [0] [(.tmp 53)] [iv x54]) (zF 6 (zHJ 39 39 2 2 1 8 4 2 3 zS (.tmp 49) (.tmp 54) h57) zB)))) ?_
     exact xA (J_j (jv58 x56)) rfl
    ·refine zBR 2 4 (Nat.le_of_ble_eq_true rfl) (Nat.le_of_ble_eq_true rfl) ?_
     exact xA (J_j (jv58 s31.1)) rfl
  ·refine wH (fun h41=>?_) (fun h41=>?_)
   ·refine J_d 3730 [] [9,48] [(48,bv true)] [] [] (xW 2 [(28,bv (decide (x39<0)))] [] h41 zB) ?_
    exact xA (J_j (jv52 true)) rfl
   ·refine zA (fun x42 h43=>?_)
    refine zA (fun x44 h45=>?_)
    refine zA (fun x46 h47=>?_)
    refine zA (fun x48 h49=>?_)
    refine zA (fun x50 h51=>?_)
    refine J_d 3730 [] [9,48] [(48,bv (!x50))] [] [] (xW 2 [(28,bv (decide (x39<0)))] [] h41 (zBS 8 2 29 false (tL (kk:=.i64) 31 138 2 (File.enc false) (.tmp 33) (.tmp 34) h43) (zBS 14 2 29 false (tY (kk:=.i64) 39 2 1 1 zS (.tmp 39) (.tmp 40) h45) (zBS 15 2 29 false (zDR (d:=iv x44) 2 1 1 0 zS (.tmp 41) h45 (by kernel_rfl)) (zBS 16 2 29 false (tL (kk:=.i64) 30 102 8 (Pack.enc false) (.tmp 38) (.tmp 42) h47) (zBS 18 2 29 false (uJ («as»:=[.ag (Pack.enc false x46)]) [(.tmp 44)] [102] false [] [] (.cons (.same rfl) (.nil)) (zCw.ok x46) h49 (.own 3)) (zBS 19 2 29 false (uJ («as»:=[sl 1 eU8 x42.Data,rr 3 x48]) [(.tmp 37),(.tmp 45)] [121,121] true [(3,rE 1 eU8 x48)] [] (.cons (.same rfl) (.cons (zFe (.head _) (fun _=>rfl) rfl) (.nil))) (zEa.ok x42.Data x48) h51 (.same rfl rfl) (hbor:=fun _=>⟨fhN,yJ⟩)) zB))))))) ?_
    exact xA (J_j (jv52 (!x50))) rfl
 ·exact xA (hk s31.1) rfl
theorem zHy.ok (a1:(List Pack)) (a2:zC) (a3:(List Int)):Ok Tryz.prog 45 [sl 8 (Pack.enc false) a1,pp 0,rr 1 a3] [.box (zC.enc false a2),rE 1 zS a3] ((zDf a1 a2 a3).map fun r=>(so 1 zS r,[.box (zC.enc false a2),rE 1 zS a3])):=by
 refine zG c45 Tryz.f45 2 57 (fun q=>?_)
 unfold zDf
 refine J_g 2 [] [(0,sl 8 (Pack.enc false) a1),(1,pp 0),(2,rr 1 a3)] [(0,.box (zC.enc false a2)),(1,rE 1 zS a3)] zB ?_
 refine J_g 6 [] [(0,sl 8 (Pack.enc false) a1),(1,pp 0),(2,rr 1 a3),(7,rr 2 ([]:List Int))] [(0,.box (zC.enc false a2)),(1,rE 1 zS a3),(2,rE 1 zS ([]:List Int))] (zF 0 (zE6 39 2 1 2 zS ([]:List Int) [] [] []) zB) ?_
 refine J_d 28 [] [8] [(8,iv 0)] [] [] zB ?_
 refine zEH (zFT.ok a1 a2 a3 q _ (fun v59=>J_j ?_) (([]:List Int),0))
 refine J_g 30 [] [(6,rr 2 v59)] [(0,.box (zC.enc false a2)),(1,rE 1 zS a3),(2,rE 1 zS v59)] zB ?_
 exact zCT (ds:=[rr 2 v59]) (ds':=[so 1 zS v59]) (.cons (.cell (.move (.tail _ (.tail _ (.head _))) (List.length_map _) (by decide) (.nil))) (.nil) (by decide)) rfl
noncomputable def c56:Code:=(Tryz.f56.body).getD .skip
theorem zAR.ok (a1:zC) (q:Wd) (kn:(List File)→Option (D×List Ent)) (hk:∀v:(List File),J (q.g Tryz.prog 56 0 35) c56 (atI c56 31) (St.mk' [(2,pp 1),(3,pp 2)] [(1,.box [nv,iv 0,iv 0,iv 0,bv false]),(2,.box [rr 3 v,iv a1.Budget,iv a1.Writes,iv a1.Stop,bv a1.Down]),(3,rE 2 (File.enc true) v)]) (some v) kn):
  ∀s20:((List File)×Int),J (q.g Tryz.prog 56 0 35) c56 (atI c56 244) (St.mk' [(1,pp 0),(2,pp 1),(3,pp 2),(4,iv s20.2)] [(0,.box (zC.enc false a1)),(1,.box [nv,iv 0,iv 0,iv 0,bv false]),(2,.box [rr 3 s20.1,iv a1.Budget,iv a1.Writes,iv a1.Stop,bv a1.Down]),(3,rE 2 (File.enc true) s20.1)]) (zAR a1 s20) kn:=by
 refine kQ (fun g ih s20=>?_)
 unfold zBa
 refine J_d 976 [] [11] [(11,bv (decide (s20.2< (a1.Files.length:Int))))] [] [] zB ?_
 refine zD 11 (fun h21=>?_) (fun h21=>?_)
 ·refine zA (fun x22 h23=>?_)
  refine zA (fun x24 h25=>?_)
  refine zA (fun x26 h27=>?_)
  refine zA (fun x28 h29=>?_)
  refine J_g 1956 [] [(1,pp 0),(2,pp 1),(3,pp 2),(4,iv s20.2)] [(0,.box (zC.enc false a1)),(1,.box [nv,iv 0,iv 0,iv 0,bv false]),(2,.box [rr 7 x28,iv a1.Budget,iv a1.Writes,iv a1.Stop,bv a1.Down]),(7,rE 2 (File.enc true) x28)] (zF 5 (tL (kk:=.i64) 31 138 2 (File.enc false) (.tmp 17) (.tmp 18) h23) (zF 8 (zE6 121 5 1 4 eU8 ([]:List Int) [] [] []) (zF 12 (tL (kk:=.i64) 31 138 2 (File.enc false) (.tmp 24) (.tmp 25) h25) (zF 15 (zNx 121 121 5 5 1 1 5 4 eU8 (.tmp 22) (.tmp 28) h27) (zF 17 (zRe (ds:=[sv x22.Path,rr 5 x26]) (ts:=[5]) 31 138 2 6 (File.enc true) [({Path:=x22.Path,Data:=x26}:File)] [0] [(.tmp 30)] [.ag [sv x22.Path,rr 5 x26]] [(5,rE 1 eU8 x26)] (.keep rfl (.move (.head _) (List.length_map _) (by decide) (.nil)))) (zF 18 (zHJ 31 31 138 138 2 40 7 3 6 (File.enc true) (.tmp 15) (.tmp 31) h29) zB)))))) ?_
  refine J_d 979 [] [4] [(4,iv (w64 (s20.2+1)))] [] [] zB ?_
  refine zBR 7 3 (Nat.le_of_ble_eq_true rfl) (Nat.le_of_ble_eq_true rfl) ?_
  exact J_q (J_b (ih (x28,w64 (s20.2+1)))) rfl
 ·exact xA (hk s20.1) rfl
theorem zBu.ok (a1:zC):Ok Tryz.prog 56 [.ag (zC.enc false a1)] [] ((zBu a1).map fun r=>(.ag (zC.enc true r),[])):=by
 refine zG c56 Tryz.f56 0 35 (fun q=>?_)
 unfold zBu
 refine J_g 2 [(0,0),(1,1)] [(1,pp 0),(2,pp 1)] [(0,.box (zC.enc false a1)),(1,.box [nv,iv 0,iv 0,iv 0,bv false])] zB ?_
 refine J_g 6 [(1,2)] [(1,pp 0),(2,pp 1),(3,pp 2)] [(0,.box (zC.enc false a1)),(1,.box [nv,iv 0,iv 0,iv 0,bv false]),(2,.box (zC.enc false a1))] zB ?_
 refine J_g 14 [] [(1,pp 0),(2,pp 1),(3,pp 2)] [(0,.box (zC.enc false a1)),(1,.box [nv,iv 0,iv 0,iv 0,bv false]),(2,.box [nv,iv a1.Budget,iv a1.Writes,iv a1.Stop,bv a1.Down])] zB ?_
 refine J_d 60 [] [4] [(4,iv 0)] [] [] zB ?_
 refine zOQ 2 0 3 2 rfl rfl (Nat.le_of_ble_eq_true rfl) (by kernel_rfl) ?_
 refine zEH (zAR.ok a1 q _ (fun v30=>J_j ?_) (([]:List File),0))
 refine J_g 62 [] [(2,pp 1)] [(1,.box [rr 3 v30,iv a1.Budget,iv a1.Writes,iv a1.Stop,bv a1.Down]),(3,rE 2 (File.enc true) v30)] zB ?_
 exact zCT (ds:=[.ag [rr 3 v30,iv a1.Budget,iv a1.Writes,iv a1.Stop,bv a1.Down]]) (ds':=[.ag [so 2 (File.enc true) v30,iv a1.Budget,iv a1.Writes,iv a1.Stop,bv a1.Down]]) (.cons (.ag (.move (.tail _ (.head _)) (List.length_map _) (by decide) (.keep rfl (.keep rfl (.keep rfl (.keep rfl (.nil))))))) (.nil) (by decide)) rfl
theorem zH9.ok (a1:zC) (a2:ByteArray) (q:Wd) (kn:Unit→Option (D×List Ent)) (hk:∀v:Unit,J (q.g Tryz.prog 54 1 26) c54 (atI c54 7) (St.mk' [] [(0,.box [rr 1 a1.Files,iv a1.Budget,iv a1.Writes,iv a1.Stop,bv a1.Down]),(1,rE 2 (File.enc true) a1.Files)]) (some v) kn):
  ∀s7:Int,J (q.g Tryz.prog 54 1 26) c54 (atI c54 52) (St.mk' [(0,pp 0),(1,sv a2),(5,iv s7)] [(0,.box [rr 1 a1.Files,iv a1.Budget,iv a1.Writes,iv a1.Stop,bv a1.Down]),(1,rE 2 (File.enc true) a1.Files)]) (zBQ a1 a2 s7) (Fl.go (fun r:Int=>some (iv r,[.box (zC.enc true a1)])) kn):=by
 refine kQ (fun g ih s7=>?_)
 unfold zAY
 refine J_d 208 [] [12] [(12,bv (decide (s7< (a1.Files.length:Int))))] [] [] zB ?_
 refine zD 12 (fun h8=>?_) (fun h8=>?_)
 ·refine zA (fun x9 h10=>?_)
  refine J_d 840 [] [12,24] [(24,bv (seq x9.Path a2))] [] [] (zF 5 (tY (kk:=.i64) 31 138 2 1 (File.enc true) (.tmp 18) (.tmp 19) h10) (zF 7 (zDR (d:=sv x9.Path) 9 2 1 0 (File.enc true) (.tmp 21) h10 (by kernel_rfl)) zB)) ?_
  refine zD 24 (fun h11=>?_) (fun h11=>?_)
  ·refine J_g 3364 [] [(4,iv s7)] [(0,.box [rr 1 a1.Files,iv a1.Budget,iv a1.Writes,iv a1.Stop,bv a1.Down]),(1,rE 2 (File.enc true) a1.Files)] zB ?_
   refine jM 0 (cs':=[so 2 (File.enc true) a1.Files,iv a1.Budget,iv a1.Writes,iv a1.Stop,bv a1.Down]) (ts:=[1]) rfl (.move (.head _) (List.length_map _) (by decide) (.keep rfl (.keep rfl (.keep rfl (.keep rfl (.nil)))))) ?_
   refine zB4 [(4,iv s7)] [(0,.box (zC.enc true a1))] (by kernel_rfl) ?_
   exact zN rfl
  ·refine J_d 211 [] [5,24] [(5,iv (w64 (s7+1)))] [] [] zB ?_
   exact J_q (J_b (ih (w64 (s7+1)))) rfl
 ·exact xA (hk ()) rfl
theorem zJ4.ok (a1:zC) (a2:ByteArray):Ok Tryz.prog 54 [pp 0,sv a2] [.box (zC.enc true a1)] ((xP a1 a2).map fun r=>(iv r,[.box (zC.enc true a1)])):=by
 refine zG c54 Tryz.f54 1 26 (fun q=>?_)
 unfold xP
 refine jK 0 (cs':=[rr 1 a1.Files,iv a1.Budget,iv a1.Writes,iv a1.Stop,bv a1.Down]) (es:=[(1,rE 2 (File.enc true) a1.Files)]) rfl (.cons (.own 1) (.cons (.same rfl rfl) (.cons (.same rfl rfl) (.cons (.same rfl rfl) (.cons (.same rfl rfl) (.nil)))))) rfl (by kernel_rfl) (by kernel_rfl) ?_
 refine zB4 [(0,pp 0),(1,sv a2)] [(0,.box [rr 1 a1.Files,iv a1.Budget,iv a1.Writes,iv a1.Stop,bv a1.Down]),(1,rE 2 (File.enc true) a1.Files)] (by kernel_rfl) ?_
 refine J_g 2 [] [(0,pp 0),(1,sv a2)] [(0,.box [rr 1 a1.Files,iv a1.Budget,iv a1.Writes,iv a1.Stop,bv a1.Down]),(1,rE 2 (File.enc true) a1.Files)] zB ?_
 refine J_d 12 [] [5] [(5,iv 0)] [] [] zB ?_
 refine uR (K0:=(fun r:Int=>some (iv r,[.box (zC.enc true a1)]))) (fun _=>rfl) (zH9.ok a1 a2 q _ (fun v12=>J_j ?_) 0)
 refine J_g 14 [] [(4,iv (-1))] [(0,.box [rr 1 a1.Files,iv a1.Budget,iv a1.Writes,iv a1.Stop,bv a1.Down]),(1,rE 2 (File.enc true) a1.Files)] zB ?_
 refine jM 0 (cs':=[so 2 (File.enc true) a1.Files,iv a1.Budget,iv a1.Writes,iv a1.Stop,bv a1.Down]) (ts:=[1]) rfl (.move (.head _) (List.length_map _) (by decide) (.keep rfl (.keep rfl (.keep rfl (.keep rfl (.nil)))))) ?_
 refine zB4 [(4,iv (-1))] [(0,.box (zC.enc true a1))] (by kernel_rfl) ?_
 exact zN rfl
theorem zGL.ok (a1:zC) (q:Wd) (kn:Int→Option (D×List Ent)) (hk:∀v:Int,J (q.g Tryz.prog 150 1 26) zNO (atI zNO 15) (St.mk' [(3,iv v)] [(0,.box [rr 1 a1.Files,iv a1.Budget,iv a1.Writes,iv a1.Stop,bv a1.Down]),(1,rE 2 (File.enc true) a1.Files)]) (some v) kn):
  ∀s5:(Int×Int),J (q.g Tryz.prog 150 1 26) zNO (atI zNO 116) (St.mk' [(0,pp 0),(3,iv s5.1),(4,iv s5.2)] [(0,.box [rr 1 a1.Files,iv a1.Budget,iv a1.Writes,iv a1.Stop,bv a1.Down]),(1,rE 2 (File.enc true) a1.Files)]) (zBi a1 s5) kn:=by
 refine kQ (fun g ih s5=>?_)
 unfold zAl
 refine J_d 464 [] [11] [(11,bv (decide (s5.2< (a1.Files.length:Int))))] [] [] zB ?_
 refine zD 11 (fun h6=>?_) (fun h6=>?_)
 ·refine zA (fun x7 h8=>?_)
  refine J_g 932 [] [(0,pp 0),(3,iv (w64 (s5.1+(x7.Data.length:Int)))),(4,iv s5.2)] [(0,.box [rr 1 a1.Files,iv a1.Budget,iv a1.Writes,iv a1.Stop,bv a1.Down]),(1,rE 2 (File.enc true) a1.Files)] (zF 6 (tY (kk:=.i64) 31 138 2 1 (File.enc true) (.tmp 18) (.tmp 19) h8) (zF 8 (zQd (d:=.ln x7.Data.length) 121 2 1 1 (File.enc true) (.tmp 21) h8 (by kernel_rfl)) zB)) ?_
  refine J_d 467 [] [4] [(4,iv (w64 (s5.2+1)))] [] [] zB ?_
  exact J_q (J_b (ih (w64 (s5.1+(x7.Data.length:Int)),w64 (s5.2+1)))) rfl
 ·exact xA (hk s5.1) rfl
theorem zIM.ok (a1:zC):Ok Tryz.prog 150 [pp 0] [.box (zC.enc true a1)] ((uL a1).map fun r=>(iv r,[.box (zC.enc true a1)])):=by
 refine zG zNO Tryz.f150 1 26 (fun q=>?_)
 unfold uL
 refine jK 0 (cs':=[rr 1 a1.Files,iv a1.Budget,iv a1.Writes,iv a1.Stop,bv a1.Down]) (es:=[(1,rE 2 (File.enc true) a1.Files)]) rfl (.cons (.own 1) (.cons (.same rfl rfl) (.cons (.same rfl rfl) (.cons (.same rfl rfl) (.cons (.same rfl rfl) (.nil)))))) rfl (by kernel_rfl) (by kernel_rfl) ?_
 refine zB4 [(0,pp 0)] [(0,.box [rr 1 a1.Files,iv a1.Budget,iv a1.Writes,iv a1.Stop,bv a1.Down]),(1,rE 2 (File.enc true) a1.Files)] (by kernel_rfl) ?_
 refine J_g 2 [] [(0,pp 0)] [(0,.box [rr 1 a1.Files,iv a1.Budget,iv a1.Writes,iv a1.Stop,bv a1.Down]),(1,rE 2 (File.enc true) a1.Files)] zB ?_
 refine J_g 6 [] [(0,pp 0),(3,iv 0)] [(0,.box [rr 1 a1.Files,iv a1.Budget,iv a1.Writes,iv a1.Stop,bv a1.Down]),(1,rE 2 (File.enc true) a1.Files)] zB ?_
 refine J_d 28 [] [4] [(4,iv 0)] [] [] zB ?_
 refine zEH (zGL.ok a1 q _ (fun v9=>J_j ?_) (0,0))
 refine J_g 30 [] [(2,iv v9)] [(0,.box [rr 1 a1.Files,iv a1.Budget,iv a1.Writes,iv a1.Stop,bv a1.Down]),(1,rE 2 (File.enc true) a1.Files)] zB ?_
 refine jM 0 (cs':=[so 2 (File.enc true) a1.Files,iv a1.Budget,iv a1.Writes,iv a1.Stop,bv a1.Down]) (ts:=[1]) rfl (.move (.head _) (List.length_map _) (by decide) (.keep rfl (.keep rfl (.keep rfl (.keep rfl (.nil)))))) ?_
 refine zB4 [(2,iv v9)] [(0,.box (zC.enc true a1))] (by kernel_rfl) ?_
 exact zN rfl
noncomputable def zRE:Code:=(Tryz.f120.body).getD .skip
theorem zD7.ok (a1:zC):Ok Tryz.prog 120 [pp 0] [.box (zC.enc true a1)] ((zD7 a1).map fun r=>(bv r.1,[.box (zC.enc true r.2)])):=by
 refine zG zRE Tryz.f120 1 34 (fun q=>?_)
 unfold zD7
 refine jK 0 (cs':=[rr 1 a1.Files,iv a1.Budget,iv a1.Writes,iv a1.Stop,bv a1.Down]) (es:=[(1,rE 2 (File.enc true) a1.Files)]) rfl (.cons (.own 1) (.cons (.same rfl rfl) (.cons (.same rfl rfl) (.cons (.same rfl rfl) (.cons (.same rfl rfl) (.nil)))))) rfl (by kernel_rfl) (by kernel_rfl) ?_
 refine zB4 [(0,pp 0)] [(0,.box [rr 1 a1.Files,iv a1.Budget,iv a1.Writes,iv a1.Stop,bv a1.Down]),(1,rE 2 (File.enc true) a1.Files)] (by kernel_rfl) ?_
 refine J_g 2 [] [(0,pp 0)] [(0,.box [rr 1 a1.Files,iv a1.Budget,iv a1.Writes,iv a1.Stop,bv a1.Down]),(1,rE 2 (File.enc true) a1.Files)] zB ?_
 refine J_d 12 [] [6] [(6,bv a1.Down)] [] [] zB ?_
 refine zD 6 (fun h2=>?_) (fun h2=>?_)
 ·refine J_g 52 [] [(2,bv false)] [(0,.box [rr 1 a1.Files,iv a1.Budget,iv a1.Writes,iv a1.Stop,bv a1.Down]),(1,rE 2 (File.enc true) a1.Files)] zB ?_
  refine jM 0 (cs':=[so 2 (File.enc true) a1.Files,iv a1.Budget,iv a1.Writes,iv a1.Stop,bv a1.Down]) (ts:=[1]) rfl (.move (.head _) (List.length_map _) (by decide) (.keep rfl (.keep rfl (.keep rfl (.keep rfl (.nil)))))) ?_
  refine zB4 [(2,bv false)] [(0,.box (zC.enc true a1))] (by kernel_rfl) ?_
  exact zN rfl
 ·refine xS (atI zRE 29) (fun v4:Bool=>St.mk' [(0,pp 0),(22,bv v4)] [(0,.box [rr 1 a1.Files,iv a1.Budget,iv a1.Writes,iv a1.Stop,bv a1.Down]),(1,rE 2 (File.enc true) a1.Files)]) (fun v4=>?_) (fun jv4=>?_)
  ·refine zD 22 (fun h5=>?_) (fun h5=>?_)
   ·refine J_g 116 [] [] [(0,.box [rr 1 a1.Files,iv a1.Budget,iv a1.Writes,iv a1.Stop,bv true]),(1,rE 2 (File.enc true) a1.Files)] zB ?_
    refine J_g 234 [] [(2,bv false)] [(0,.box [rr 1 a1.Files,iv a1.Budget,iv a1.Writes,iv a1.Stop,bv true]),(1,rE 2 (File.enc true) a1.Files)] zB ?_
    refine jM 0 (cs':=[so 2 (File.enc true) a1.Files,iv a1.Budget,iv a1.Writes,iv a1.Stop,bv true]) (ts:=[1]) rfl (.move (.head _) (List.length_map _) (by decide) (.keep rfl (.keep rfl (.keep rfl (.keep rfl (.nil)))))) ?_
    refine zB4 [(2,bv false)] [(0,.box [so 2 (File.enc true) a1.Files,iv a1.Budget,iv a1.Writes,iv a1.Stop,bv true])] (by kernel_rfl) ?_
    exact zN rfl
   ·refine J_g 30 [] [] [(0,.box [rr 1 a1.Files,iv a1.Budget,iv (w64 (a1.Writes+1)),iv a1.Stop,bv a1.Down]),(1,rE 2 (File.enc true) a1.Files)] zB ?_
    refine J_g 62 [] [(2,bv true)] [(0,.box [rr 1 a1.Files,iv a1.Budget,iv (w64 (a1.Writes+1)),iv a1.Stop,bv a1.Down]),(1,rE 2 (File.enc true) a1.Files)] zB ?_
    refine jM 0 (cs':=[so 2 (File.enc true) a1.Files,iv a1.Budget,iv (w64 (a1.Writes+1)),iv a1.Stop,bv a1.Down]) (ts:=[1]) rfl (.move (.head _) (List.length_map _) (by decide) (.keep rfl (.keep rfl (.keep rfl (.keep rfl (.nil)))))) ?_
    refine zB4 [(2,bv true)] [(0,.box [so 2 (File.enc true) a1.Files,iv a1.Budget,iv (w64 (a1.Writes+1)),iv a1.Stop,bv a1.Down])] (by kernel_rfl) ?_
    exact zN rfl
  ·refine wH (fun h3=>?_) (fun h3=>?_)
   ·refine J_d 28 [] [6,22] [(22,bv (decide (a1.Writes≥a1.Stop)))] [] [] (xW 5 [(11,bv (a1.Stop !=(-1)))] [] h3 zB) ?_
    exact xA (J_j (jv4 (decide (a1.Writes≥a1.Stop)))) rfl
   ·refine J_d 28 [] [6,22] [(22,bv false)] [] [] (xW 5 [(11,bv (a1.Stop !=(-1)))] [] h3 zB) ?_
    exact xA (J_j (jv4 false)) rfl
noncomputable def c78:Code:=(Tryz.f78.body).getD .skip
theorem zBB.ok (a2:ByteArray) (x17:(Bool×zC)) (x20:(List Int)) (q:Wd) (kn:Int→Option (D×List Ent)) (hk:∀v:Int,J (q.g Tryz.prog 78 1 110) c78 (atI c78 4095) (St.mk' [(0,pp 0),(7,iv v),(9,pp 4)] [(0,.box [rr 1 x17.2.Files,iv x17.2.Budget,iv x17.2.Writes,iv x17.2.Stop,bv x17.2.Down]),(1,rE 2 (File.enc true) x17.2.Files),(3,rE 1 eU8 x20),(4,.box [sv a2,rr 3 x20])]) (some v) kn):
  ∀s30:Int,J (q.g Tryz.prog 78 1 110) c78 (atI c78 16376) (St.mk' [(0,pp 0),(1,sv a2),(7,iv s30),(9,pp 4)] [(0,.box [rr 1 x17.2.Files,iv x17.2.Budget,iv x17.2.Writes,iv x17.2.Stop,bv x17.2.Down]),(1,rE 2 (File.enc true) x17.2.Files),(3,rE 1 eU8 x20),(4,.box [sv a2,rr 3 x20])]) (zBB a2 x17 x20 s30) kn:=by
 refine kQ (fun g ih s30=>?_)
 unfold zBl
 refine xS (atI c78 65505) (fun v34:Bool=>St.mk' [(0,pp 0),(1,sv a2),(7,iv s30),(9,pp 4),(86,bv v34)] [(0,.box [rr 1 x17.2.Files,iv x17.2.Budget,iv x17.2.Writes,iv x17.2.Stop,bv x17.2.Down]),(1,rE 2 (File.enc true) x17.2.Files),(3,rE 1 eU8 x20),(4,.box [sv a2,rr 3 x20])]) (fun v34=>?_) (fun jv34=>?_)
 ·refine zD 86 (fun h35=>?_) (fun h35=>?_)
  ·refine J_d 65506 [] [7,86] [(7,iv (w64 (s30+1)))] [] [] zB ?_
   exact J_q (J_b (ih (w64 (s30+1)))) rfl
  ·exact xA (hk s30) rfl
 ·refine wH (fun h31=>?_) (fun h31=>?_)
  ·refine zA (fun x32 h33=>?_)
   refine J_d 65504 [] [86] [(86,bv (slt x32.Path a2))] [] [] (xW 7 [(74,bv (decide (s30< (x17.2.Files.length:Int))))] [] h31 (zBS 13 7 75 true (tY (kk:=.i64) 31 138 2 1 (File.enc true) (.tmp 79) (.tmp 80) h33) (zBS 15 7 75 true (zDR (d:=sv x32.Path) 9 2 1 0 (File.enc true) (.tmp 82) h33 (by kernel_rfl)) zB))) ?_
   exact xA (J_j (jv34 (slt x32.Path a2))) rfl
  ·refine J_d 65504 [] [86] [(86,bv false)] [] [] (xW 7 [(74,bv (decide (s30< (x17.2.Files.length:Int))))] [] h31 zB) ?_
   exact xA (J_j (jv34 false)) rfl
theorem zA7.ok (a1:zC) (a2:ByteArray) (a3:(List Int)):Ok Tryz.prog 78 [pp 0,sv a2,sl 1 eU8 a3] [.box (zC.enc true a1)] ((zA7 a1 a2 a3).map fun r=>(iv r.1,[.box [so 2 (File.enc false) r.2.Files,iv r.2.Budget,iv r.2.Writes,iv r.2.Stop,bv r.2.Down]])):=by
 refine zG c78 Tryz.f78 1 110 (fun q=>?_)
 unfold zA7
 refine jK 0 (cs':=[rr 1 a1.Files,iv a1.Budget,iv a1.Writes,iv a1.Stop,bv a1.Down]) (es:=[(1,rE 2 (File.enc true) a1.Files)]) rfl (.cons (.own 1) (.cons (.same rfl rfl) (.cons (.same rfl rfl) (.cons (.same rfl rfl) (.cons (.same rfl rfl) (.nil)))))) rfl (by kernel_rfl) (by kernel_rfl) ?_
 refine zB4 [(0,pp 0),(1,sv a2),(2,sl 1 eU8 a3)] [(0,.box [rr 1 a1.Files,iv a1.Budget,iv a1.Writes,iv a1.Stop,bv a1.Down]),(1,rE 2 (File.enc true) a1.Files)] (by kernel_rfl) ?_
 refine J_g 2 [] [(0,pp 0),(1,sv a2),(2,sl 1 eU8 a3)] [(0,.box [rr 1 a1.Files,iv a1.Budget,iv a1.Writes,iv a1.Stop,bv a1.Down]),(1,rE 2 (File.enc true) a1.Files)] zB ?_
 refine jM 0 (cs':=[so 2 (File.enc true) a1.Files,iv a1.Budget,iv a1.Writes,iv a1.Stop,bv a1.Down]) (ts:=[1]) rfl (.move (.head _) (List.length_map _) (by decide) (.keep rfl (.keep rfl (.keep rfl (.keep rfl (.nil)))))) ?_
 refine zB4 [(0,pp 0),(1,sv a2),(2,sl 1 eU8 a3)] [(0,.box (zC.enc true a1))] (by kernel_rfl) ?_
 refine zA (fun x4 h5=>?_)
 refine J_g 6 [] [(0,pp 0),(1,sv a2),(2,sl 1 eU8 a3),(7,iv x4)] [(0,.box (zC.enc true a1))] (zF 2 (zGj [(0,.box (zC.enc true a1))] [] (uJ («as»:=[pp 0,sv a2]) [(.tmp 10),(.tmp 11)] [72,9] false [(0,.box (zC.enc true a1))] [0] (.cons (.pt rfl) (.cons (.same rfl) (.nil))) (zJ4.ok a1 a2) h5 (.same rfl rfl))) zB) ?_
 refine jK 0 (cs':=[rr 1 a1.Files,iv a1.Budget,iv a1.Writes,iv a1.Stop,bv a1.Down]) (es:=[(1,rE 2 (File.enc true) a1.Files)]) rfl (.cons (.own 1) (.cons (.same rfl rfl) (.cons (.same rfl rfl) (.cons (.same rfl rfl) (.cons (.same rfl rfl) (.nil)))))) rfl (by kernel_rfl) (by kernel_rfl) ?_
 refine zB4 [(0,pp 0),(1,sv a2),(2,sl 1 eU8 a3),(7,iv x4)] [(0,.box [rr 1 a1.Files,iv a1.Budget,iv a1.Writes,iv a1.Stop,bv a1.Down]),(1,rE 2 (File.enc true) a1.Files)] (by kernel_rfl) ?_
 refine J_g 14 [] [(0,pp 0),(1,sv a2),(2,sl 1 eU8 a3),(7,iv x4),(8,iv 0)] [(0,.box [rr 1 a1.Files,iv a1.Budget,iv a1.Writes,iv a1.Stop,bv a1.Down]),(1,rE 2 (File.enc true) a1.Files)] zB ?_
 refine J_d 60 [] [14] [(14,bv (decide (x4≥0)))] [] [] zB ?_
 refine xS (atI c78 31) (fun v9:Int=>St.mk' [(0,pp 0),(1,sv a2),(2,sl 1 eU8 a3),(7,iv x4),(8,iv v9)] [(0,.box [rr 1 a1.Files,iv a1.Budget,iv a1.Writes,iv a1.Stop,bv a1.Down]),(1,rE 2 (File.enc true) a1.Files)]) (fun v9=>?_) (fun jv9=>?_)
 ·refine xS (atI c78 125) (fun v12:Bool=>St.mk' [(0,pp 0),(1,sv a2),(2,sl 1 eU8 a3),(7,iv x4),(8,iv v9),(38,bv v12)] [(0,.box [rr 1 a1.Files,iv a1.Budget,iv a1.Writes,iv a1.Stop,bv a1.Down]),(1,rE 2 (File.enc true) a1.Files)]) (fun v12=>?_) (fun jv12=>?_)
  ·refine zD 38 (fun h13=>?_) (fun h13=>?_)
   ·refine J_g 500 [] [(6,iv 2)] [(0,.box [rr 1 a1.Files,iv a1.Budget,iv a1.Writes,iv a1.Stop,bv a1.Down]),(1,rE 2 (File.enc true) a1.Files)] zB ?_
    refine zB4 [(6,iv 2)] [(1,rE 2 (File.enc true) a1.Files),(0,.box [rr 1 a1.Files,iv a1.Budget,iv a1.Writes,iv a1.Stop,bv a1.Down])] (by kernel_rfl) ?_
    refine zNr 1 (zDZ (enc:=(File.enc true)) (enc':=(File.enc false)) (File.ro true) _) ?_
    refine zB4 [(6,iv 2)] [(0,.box [rr 1 a1.Files,iv a1.Budget,iv a1.Writes,iv a1.Stop,bv a1.Down]),(1,rE 2 (File.enc false) a1.Files)] (by kernel_rfl) ?_
    refine jM 0 (cs':=[so 2 (File.enc false) a1.Files,iv a1.Budget,iv a1.Writes,iv a1.Stop,bv a1.Down]) (ts:=[1]) rfl (.move (.head _) (List.length_map _) (by decide) (.keep rfl (.keep rfl (.keep rfl (.keep rfl (.nil)))))) ?_
    refine zB4 [(6,iv 2)] [(0,.box [so 2 (File.enc false) a1.Files,iv a1.Budget,iv a1.Writes,iv a1.Stop,bv a1.Down])] (by kernel_rfl) ?_
    exact zN rfl
   ·refine jM 0 (cs':=[so 2 (File.enc true) a1.Files,iv a1.Budget,iv a1.Writes,iv a1.Stop,bv a1.Down]) (ts:=[1]) rfl (.move (.head _) (List.length_map _) (by decide) (.keep rfl (.keep rfl (.keep rfl (.keep rfl (.nil)))))) ?_
    refine zB4 [(0,pp 0),(1,sv a2),(2,sl 1 eU8 a3),(7,iv x4),(8,iv v9),(38,bv false)] [(0,.box (zC.enc true a1))] (by kernel_rfl) ?_
    refine zA (fun x14 h15=>?_)
    refine J_g 252 [] [(0,pp 0),(1,sv a2),(2,sl 1 eU8 a3),(7,iv x4),(50,bv (decide ((w64 ((w64 (x14-v9))+(a3.length:Int)))>a1.Budget)))] [(0,.box (zC.enc true a1))] (zF 1 (zGj [(0,.box (zC.enc true a1))] [] (uJ («as»:=[pp 0]) [(.tmp 39)] [72] false [(0,.box (zC.enc true a1))] [0] (.cons (.pt rfl) (.nil)) (zIM.ok a1) h15 (.same rfl rfl))) zB) ?_
    refine jK 0 (cs':=[rr 1 a1.Files,iv a1.Budget,iv a1.Writes,iv a1.Stop,bv a1.Down]) (es:=[(1,rE 2 (File.enc true) a1.Files)]) rfl (.cons (.own 1) (.cons (.same rfl rfl) (.cons (.same rfl rfl) (.cons (.same rfl rfl) (.cons (.same rfl rfl) (.nil)))))) rfl (by kernel_rfl) (by kernel_rfl) ?_
    refine zB4 [(0,pp 0),(1,sv a2),(2,sl 1 eU8 a3),(7,iv x4),(50,bv (decide ((w64 ((w64 (x14-v9))+(a3.length:Int)))>a1.Budget)))] [(0,.box [rr 1 a1.Files,iv a1.Budget,iv a1.Writes,iv a1.Stop,bv a1.Down]),(1,rE 2 (File.enc true) a1.Files)] (by kernel_rfl) ?_
    refine zD 50 (fun h16=>?_) (fun h16=>?_)
    ·refine J_g 1012 [] [(6,iv 8)] [(0,.box [rr 1 a1.Files,iv a1.Budget,iv a1.Writes,iv a1.Stop,bv a1.Down]),(1,rE 2 (File.enc true) a1.Files)] zB ?_
     refine zB4 [(6,iv 8)] [(1,rE 2 (File.enc true) a1.Files),(0,.box [rr 1 a1.Files,iv a1.Budget,iv a1.Writes,iv a1.Stop,bv a1.Down])] (by kernel_rfl) ?_
     refine zNr 1 (zDZ (enc:=(File.enc true)) (enc':=(File.enc false)) (File.ro true) _) ?_
     refine zB4 [(6,iv 8)] [(0,.box [rr 1 a1.Files,iv a1.Budget,iv a1.Writes,iv a1.Stop,bv a1.Down]),(1,rE 2 (File.enc false) a1.Files)] (by kernel_rfl) ?_
     refine jM 0 (cs':=[so 2 (File.enc false) a1.Files,iv a1.Budget,iv a1.Writes,iv a1.Stop,bv a1.Down]) (ts:=[1]) rfl (.move (.head _) (List.length_map _) (by decide) (.keep rfl (.keep rfl (.keep rfl (.keep rfl (.nil)))))) ?_
     refine zB4 [(6,iv 8)] [(0,.box [so 2 (File.enc false) a1.Files,iv a1.Budget,iv a1.Writes,iv a1.Stop,bv a1.Down])] (by kernel_rfl) ?_
     exact zN rfl
    ·refine jM 0 (cs':=[so 2 (File.enc true) a1.Files,iv a1.Budget,iv a1.Writes,iv a1.Stop,bv a1.Down]) (ts:=[1]) rfl (.move (.head _) (List.length_map _) (by decide) (.keep rfl (.keep rfl (.keep rfl (.keep rfl (.nil)))))) ?_
     refine zB4 [(0,pp 0),(1,sv a2),(2,sl 1 eU8 a3),(7,iv x4),(50,bv false)] [(0,.box (zC.enc true a1))] (by kernel_rfl) ?_
     refine zA (fun x17 h18=>?_)
     refine J_g 508 [] [(0,pp 0),(1,sv a2),(2,sl 1 eU8 a3),(7,iv x4),(53,bv (!x17.1))] [(0,.box (zC.enc true x17.2))] (zF 1 (uJ («as»:=[pp 0]) [(.tmp 51)] [72] false [(0,.box (zC.enc true a1))] [0] (.cons (.pt rfl) (.nil)) (zD7.ok a1) h18 (.same rfl rfl)) zB) ?_
     refine jK 0 (cs':=[rr 1 x17.2.Files,iv x17.2.Budget,iv x17.2.Writes,iv x17.2.Stop,bv x17.2.Down]) (es:=[(1,rE 2 (File.enc true) x17.2.Files)]) rfl (.cons (.own 1) (.cons (.same rfl rfl) (.cons (.same rfl rfl) (.cons (.same rfl rfl) (.cons (.same rfl rfl) (.nil)))))) rfl (by kernel_rfl) (by kernel_rfl) ?_
     refine zB4 [(0,pp 0),(1,sv a2),(2,sl 1 eU8 a3),(7,iv x4),(53,bv (!x17.1))] [(0,.box [rr 1 x17.2.Files,iv x17.2.Budget,iv x17.2.Writes,iv x17.2.Stop,bv x17.2.Down]),(1,rE 2 (File.enc true) x17.2.Files)] (by kernel_rfl) ?_
     refine zD 53 (fun h19=>?_) (fun h19=>?_)
     ·refine J_g 2036 [] [(6,iv 9)] [(0,.box [rr 1 x17.2.Files,iv x17.2.Budget,iv x17.2.Writes,iv x17.2.Stop,bv x17.2.Down]),(1,rE 2 (File.enc true) x17.2.Files)] zB ?_
      refine zB4 [(6,iv 9)] [(1,rE 2 (File.enc true) x17.2.Files),(0,.box [rr 1 x17.2.Files,iv x17.2.Budget,iv x17.2.Writes,iv x17.2.Stop,bv x17.2.Down])] (by kernel_rfl) ?_
      refine zNr 1 (zDZ (enc:=(File.enc true)) (enc':=(File.enc false)) (File.ro true) _) ?_
      refine zB4 [(6,iv 9)] [(0,.box [rr 1 x17.2.Files,iv x17.2.Budget,iv x17.2.Writes,iv x17.2.Stop,bv x17.2.Down]),(1,rE 2 (File.enc false) x17.2.Files)] (by kernel_rfl) ?_
      refine jM 0 (cs':=[so 2 (File.enc false) x17.2.Files,iv x17.2.Budget,iv x17.2.Writes,iv x17.2.Stop,bv x17.2.Down]) (ts:=[1]) rfl (.move (.head _) (List.length_map _) (by decide) (.keep rfl (.keep rfl (.keep rfl (.keep rfl (.nil)))))) ?_
      refine zB4 [(6,iv 9)] [(0,.box [so 2 (File.enc false) x17.2.Files,iv x17.2.Budget,iv x17.2.Writes,iv x17.2.Stop,bv x17.2.Down])] (by kernel_rfl) ?_
      exact zN rfl
     ·refine zA (fun x20 h21=>?_)
      refine J_g 510 [(5,4)] [(0,pp 0),(1,sv a2),(7,iv x4),(9,pp 4)] [(0,.box [rr 1 x17.2.Files,iv x17.2.Budget,iv x17.2.Writes,iv x17.2.Stop,bv x17.2.Down]),(1,rE 2 (File.enc true) x17.2.Files),(3,rE 1 eU8 x20),(4,.box [sv a2,rr 3 x20])] (zF 1 (zE6 121 5 1 2 eU8 ([]:List Int) [] [] []) (zF 3 (zNx 121 121 5 5 1 1 3 2 eU8 (.tmp 55) (.tmp 56) h21) zB)) ?_
      refine J_d 2044 [] [60] [(60,bv (decide (x4≥0)))] [] [] zB ?_
      refine zD 60 (fun h22=>?_) (fun h22=>?_)
      ·refine zA (fun x23 h24=>?_)
       refine J_g 8180 [] [] [(0,.box [rr 1 x17.2.Files,iv x17.2.Budget,iv x17.2.Writes,iv x17.2.Stop,bv x17.2.Down]),(1,rE 2 (File.enc true) (x17.2.Files.set x4.toNat ({Path:=a2,Data:=x20}:File)))] (zF 6 (tY (kk:=.i64) 31 138 2 1 (File.enc true) (.tmp 64) (.tmp 65) h24) (zFR 7 (zM1 (b:=({Path:=a2,Data:=x20}:File)) (es':=[sv a2,so 1 eU8 x20]) (ts:=[3]) 138 2 1 0 (File.enc true) (.ag [sv a2,rr 3 x20]) (.tmp 67) (.tmp 66) [(3,rE 1 eU8 x20)] h24 (.keep rfl (.move (.head _) (List.length_map _) (by decide) (.nil))) rfl) zB)) ?_
       refine zFo (σ':=St.mk' [] [(0,.box [rr 1 (x17.2.Files.set x4.toNat ({Path:=a2,Data:=x20}:File)),iv x17.2.Budget,iv x17.2.Writes,iv x17.2.Stop,bv x17.2.Down]),(1,rE 2 (File.enc true) (x17.2.Files.set x4.toNat ({Path:=a2,Data:=x20}:File)))]) (by simp only [rr,List.length_set]) ?_
       refine J_g 16362 [] [(6,iv 0)] [(0,.box [rr 1 (x17.2.Files.set x4.toNat ({Path:=a2,Data:=x20}:File)),iv x17.2.Budget,iv x17.2.Writes,iv x17.2.Stop,bv x17.2.Down]),(1,rE 2 (File.enc true) (x17.2.Files.set x4.toNat ({Path:=a2,Data:=x20}:File)))] zB ?_
       refine zB4 [(6,iv 0)] [(1,rE 2 (File.enc true) (x17.2.Files.set x4.toNat ({Path:=a2,Data:=x20}:File))),(0,.box [rr 1 (x17.2.Files.set x4.toNat ({Path:=a2,Data:=x20}:File)),iv x17.2.Budget,iv x17.2.Writes,iv x17.2.Stop,bv x17.2.Down])] (by kernel_rfl) ?_
       refine zNr 1 (zDZ (enc:=(File.enc true)) (enc':=(File.enc false)) (File.ro true) _) ?_
       refine zB4 [(6,iv 0)] [(0,.box [rr 1 (x17.2.Files.set x4.toNat ({Path:=a2,Data:=x20}:File)),iv x17.2.Budget,iv x17.2.Writes,iv x17.2.Stop,bv x17.2.Down]),(1,rE 2 (File.enc false) (x17.2.Files.set x4.toNat ({Path:=a2,Data:=x20}:File)))] (by kernel_rfl) ?_
       refine jM 0 (cs':=[so 2 (File.enc false) (x17.2.Files.set x4.toNat ({Path:=a2,Data:=x20}:File)),iv x17.2.Budget,iv x17.2.Writes,iv x17.2.Stop,bv x17.2.Down]) (ts:=[1]) rfl (.move (.head _) (List.length_map _) (by decide) (.keep rfl (.keep rfl (.keep rfl (.keep rfl (.nil)))))) ?_
       refine zB4 [(6,iv 0)] [(0,.box [so 2 (File.enc false) (x17.2.Files.set x4.toNat ({Path:=a2,Data:=x20}:File)),iv x17.2.Budget,iv x17.2.Writes,iv x17.2.Stop,bv x17.2.Down])] (by kernel_rfl) ?_
       exact zN rfl
      ·refine J_d 2046 [] [7,60] [(7,iv 0)] [] [] zB ?_
       refine zEH (zBB.ok a2 x17 x20 q _ (fun v36=>J_j ?_) 0)
       refine zA (fun x37 h38=>?_)
       refine zB4 [(0,pp 0),(7,iv v36),(9,pp 4)] [(1,rE 2 (File.enc true) x17.2.Files),(0,.box [rr 1 x17.2.Files,iv x17.2.Budget,iv x17.2.Writes,iv x17.2.Stop,bv x17.2.Down]),(3,rE 1 eU8 x20),(4,.box [sv a2,rr 3 x20])] (by kernel_rfl) ?_
       refine zNr 1 (zDZ (enc:=(File.enc true)) (enc':=(File.enc false)) (File.ro true) _) ?_
       refine zB4 [(0,pp 0),(7,iv v36),(9,pp 4)] [(0,.box [rr 1 x17.2.Files,iv x17.2.Budget,iv x17.2.Writes,iv x17.2.Stop,bv x17.2.Down]),(1,rE 2 (File.enc false) x17.2.Files),(3,rE 1 eU8 x20),(4,.box [sv a2,rr 3 x20])] (by kernel_rfl) ?_
       refine zA (fun x39 h40=>?_)
       refine zB4 [(0,pp 0),(7,iv v36),(9,pp 4)] [(3,rE 1 eU8 x20),(0,.box [rr 1 x17.2.Files,iv x17.2.Budget,iv x17.2.Writes,iv x17.2.Stop,bv x17.2.Down]),(1,rE 2 (File.enc false) x17.2.Files),(4,.box [sv a2,rr 3 x20])] (by kernel_rfl) ?_
       refine zRp 3 (z:=1) (xs:=x20.map eU8) (tm2:=[(0,pp 0),(7,iv v36),(9,pp 4)]) (hp2:=[(0,.box [rr 1 x17.2.Files,iv x17.2.Budget,iv x17.2.Writes,iv x17.2.Stop,bv x17.2.Down]),(1,rE 2 (File.enc false) x17.2.Files),(4,.box [sv a2,sl 1 eU8 x20])]) (.cons (.keep rfl) (.cons (.keep rfl) (.cons (.keep rfl) (.nil)))) (.keep rfl (.keep rfl (.box rfl (.cons (.keep rfl) (.cons (.rf (by simp) (zLw (enc:=eU8) (enc':=eU8) (fun _=>rfl) x20 rfl rfl)) (.nil))) (.nil)))) rfl ?_
       refine zA (fun x41 h42=>?_)
       refine zA (fun x43 h44=>?_)
       refine zA (fun x45 h46=>?_)
       refine J_g 8190 [] [] [(0,.box [rr 9 x45,iv x17.2.Budget,iv x17.2.Writes,iv x17.2.Stop,bv x17.2.Down]),(9,rE 2 (File.enc false) x45)] (zF 1 (zE6 31 138 2 5 (File.enc false) ([]:List File) [] [] []) (zF 7 (zOF 31 138 2 1 (File.enc false) (.tmp 94) none (some (.tmp 95)) h38) (zF 8 (zPX (ys:=x17.2.Files) (l:=0) (hi:=v36) 31 31 138 138 2 40 6 5 1 (File.enc false) (.tmp 90) (.tmp 96) h38 h40) (zF 10 (zE6 31 138 2 7 (File.enc false) [({Path:=a2,Data:=x20}:File)] [0] [(.tmp 98)] [.ag [sv a2,sl 1 eU8 x20]]) (zF 11 (zHJ 31 31 138 138 2 40 8 6 7 (File.enc false) (.tmp 97) (.tmp 99) h42) (zF 17 (zOF 31 138 2 1 (File.enc false) (.tmp 104) (some (.tmp 105)) none h44) (zF 18 (zPX (ys:=x17.2.Files) (l:=v36) (hi:=(x17.2.Files.length:Int)) 31 31 138 138 2 40 9 8 1 (File.enc false) (.tmp 100) (.tmp 106) h44 h46) zB))))))) ?_
       refine J_g 16382 [] [(6,iv 0)] [(0,.box [rr 9 x45,iv x17.2.Budget,iv x17.2.Writes,iv x17.2.Stop,bv x17.2.Down]),(9,rE 2 (File.enc false) x45)] zB ?_
       refine jM 0 (cs':=[so 2 (File.enc false) x45,iv x17.2.Budget,iv x17.2.Writes,iv x17.2.Stop,bv x17.2.Down]) (ts:=[9]) rfl (.move (.head _) (List.length_map _) (by decide) (.keep rfl (.keep rfl (.keep rfl (.keep rfl (.nil)))))) ?_
       refine zB4 [(6,iv 0)] [(0,.box [so 2 (File.enc false) x45,iv x17.2.Budget,iv x17.2.Writes,iv x17.2.Stop,bv x17.2.Down])] (by kernel_rfl) ?_
       exact zN rfl
  ·refine wH (fun h10=>?_) (fun h10=>?_)
   ·refine J_d 124 [] [38] [(38,bv true)] [] [] (xW 3 [(26,bv (decide ((a3.length:Int)>4000)))] [] h10 (zJF 6 (zJG (i:=6) (g:=3) (t:=27) (b:=false) (v:=(.bool true)) (.inl rfl) (by kernel_rfl) (by kernel_rfl)) (zJF 7 (zJG (i:=7) (g:=6) (t:=30) (b:=true) (v:=undef) (.inr rfl) (by kernel_rfl) (by kernel_rfl)) (zJF 8 (zJG (i:=8) (g:=6) (t:=30) (b:=true) (v:=undef) (.inr rfl) (by kernel_rfl) (by kernel_rfl)) (zJF 9 (zJG (i:=9) (g:=6) (t:=30) (b:=true) (v:=undef) (.inr rfl) (by kernel_rfl) (by kernel_rfl)) (zJF 10 (zJG (i:=10) (g:=6) (t:=30) (b:=true) (v:=undef) (.inr rfl) (by kernel_rfl) (by kernel_rfl)) (zJF 11 (zJG (i:=11) (g:=6) (t:=30) (b:=true) (v:=undef) (.inr rfl) (by kernel_rfl) (by kernel_rfl)) (zJF 12 (zJG (i:=12) (g:=6) (t:=30) (b:=true) (v:=undef) (.inr rfl) (by kernel_rfl) (by kernel_rfl)) zB)))))))) ?_
    exact xA (J_j (jv12 true)) rfl
   ·refine wH (fun h11=>?_) (fun h11=>?_)
    ·refine J_d 124 [] [38] [(38,bv (decide ((a1.Files.length:Int)≥120)))] [] [] (xW 3 [(26,bv (decide ((a3.length:Int)>4000)))] [] h10 (zHN 6 3 27 false [(29,bv (decide (x4<0)))] [] h11 zB)) ?_
     exact xA (J_j (jv12 (decide ((a1.Files.length:Int)≥120)))) rfl
    ·refine J_d 124 [] [38] [(38,bv false)] [] [] (xW 3 [(26,bv (decide ((a3.length:Int)>4000)))] [] h10 (zHN 6 3 27 false [(29,bv (decide (x4<0)))] [] h11 zB)) ?_
     exact xA (J_j (jv12 false)) rfl
 ·refine zD 14 (fun h6=>?_) (fun h6=>?_)
  ·refine zA (fun x7 h8=>?_)
   refine J_d 122 [] [8,14] [(8,iv (x7.Data.length:Int))] [] [] (zF 5 (tY (kk:=.i64) 31 138 2 1 (File.enc true) (.tmp 18) (.tmp 19) h8) (zF 7 (zQd (d:=.ln x7.Data.length) 121 2 1 1 (File.enc true) (.tmp 21) h8 (by kernel_rfl)) zB)) ?_
   exact xA (J_j (jv9 (x7.Data.length:Int))) rfl
  ·exact xA (J_j (jv9 0)) rfl
noncomputable def c80:Code:=(Tryz.f80.body).getD .skip
theorem zCb.ok (a1:zC) (a2:Int):Ok Tryz.prog 80 [.ag (zC.enc false a1),iv a2] [] ((zCb a1 a2).map fun r=>(.ag (zH.enc false r),[])):=by
 refine zG c80 Tryz.f80 0 16 (fun q=>?_)
 unfold zCb
 refine J_g 2 [(0,0),(1,1)] [(1,iv a2),(2,pp 0),(4,pp 1)] [(0,.box (zC.enc false a1)),(1,.box [iv 0,nv,iv 0,iv 0,iv 0,bv false])] zB ?_
 refine xS (atI c80 13) (fun v4:Bool=>St.mk' [(1,iv a2),(2,pp 0),(4,pp 1),(10,bv v4)] [(0,.box (zC.enc false a1)),(1,.box [iv 0,nv,iv 0,iv 0,iv 0,bv false])]) (fun v4=>?_) (fun jv4=>?_)
 ·refine zD 10 (fun h5=>?_) (fun h5=>?_)
  ·refine J_g 52 [] [(4,pp 1)] [(1,.box [iv a2,nv,iv 0,iv 0,iv 0,bv false])] zB ?_
   exact zCT (ds:=[.ag [iv a2,nv,iv 0,iv 0,iv 0,bv false]]) (ds':=[.ag [iv a2,sl 2 (File.enc false) ([]:List File),iv 0,iv 0,iv 0,bv false]]) (.cons (.ag (.keep rfl (.nilsl false 2 (.keep rfl (.keep rfl (.keep rfl (.keep rfl (.nil)))))))) (.nil) (by decide)) rfl
  ·refine J_g 14 [] [(4,pp 1)] [(1,.box [iv a2,sl 2 (File.enc false) a1.Files,iv a1.Budget,iv a1.Writes,iv a1.Stop,bv a1.Down])] zB ?_
   exact zN rfl
 ·refine wH (fun h3=>?_) (fun h3=>?_)
  ·refine J_d 12 [] [10] [(10,bv (a2 !=9))] [] [] (xW 2 [(6,bv (a2 !=0))] [] h3 zB) ?_
   exact xA (J_j (jv4 (a2 !=9))) rfl
  ·refine J_d 12 [] [10] [(10,bv false)] [] [] (xW 2 [(6,bv (a2 !=0))] [] h3 zB) ?_
   exact xA (J_j (jv4 false)) rfl
theorem zKq.ok (a1:zC) (a2:Int):Ok Tryz.prog 80 [.ag [rr 0 a1.Files,iv a1.Budget,iv a1.Writes,iv a1.Stop,bv a1.Down],iv a2] [rE 2 (File.enc false) a1.Files] ((zCb a1 a2).map fun r=>(.ag [iv r.Code,so 2 (File.enc false) r.zC.Files,iv r.zC.Budget,iv r.zC.Writes,iv r.zC.Stop,bv r.zC.Down],[])):=by
 refine zG c80 Tryz.f80 1 16 (fun q=>?_)
 unfold zCb
 refine J_d 2 [(0,1),(1,2)] [0,2,4] [(2,pp 1),(4,pp 2)] [1,2] [(1,.box [rr 0 a1.Files,iv a1.Budget,iv a1.Writes,iv a1.Stop,bv a1.Down]),(2,.box [iv 0,nv,iv 0,iv 0,iv 0,bv false])] zB ?_
 refine xS (atI c80 13) (fun v4:Bool=>St.mk' [(1,iv a2),(2,pp 1),(4,pp 2),(10,bv v4)] [(0,rE 2 (File.enc false) a1.Files),(1,.box [rr 0 a1.Files,iv a1.Budget,iv a1.Writes,iv a1.Stop,bv a1.Down]),(2,.box [iv 0,nv,iv 0,iv 0,iv 0,bv false])]) (fun v4=>?_) (fun jv4=>?_)
 ·refine zD 10 (fun h5=>?_) (fun h5=>?_)
  ·refine J_g 52 [] [(4,pp 2)] [(0,rE 2 (File.enc false) a1.Files),(2,.box [iv a2,nv,iv 0,iv 0,iv 0,bv false])] zB ?_
   exact zCT (ds:=[.ag [iv a2,nv,iv 0,iv 0,iv 0,bv false]]) (ds':=[.ag [iv a2,so 2 (File.enc false) ([]:List File),iv 0,iv 0,iv 0,bv false]]) (.cons (.ag (.keep rfl (.nilsl true 2 (.keep rfl (.keep rfl (.keep rfl (.keep rfl (.nil)))))))) (.nil) (by decide)) rfl
  ·refine J_g 14 [] [(4,pp 2)] [(0,rE 2 (File.enc false) a1.Files),(2,.box [iv a2,rr 0 a1.Files,iv a1.Budget,iv a1.Writes,iv a1.Stop,bv a1.Down])] zB ?_
   exact zCT (ds:=[.ag [iv a2,rr 0 a1.Files,iv a1.Budget,iv a1.Writes,iv a1.Stop,bv a1.Down]]) (ds':=[.ag [iv a2,so 2 (File.enc false) a1.Files,iv a1.Budget,iv a1.Writes,iv a1.Stop,bv a1.Down]]) (.cons (.ag (.keep rfl (.move (.head _) (List.length_map _) (by decide) (.keep rfl (.keep rfl (.keep rfl (.keep rfl (.nil)))))))) (.nil) (by decide)) rfl
 ·refine wH (fun h3=>?_) (fun h3=>?_)
  ·refine J_d 12 [] [10] [(10,bv (a2 !=9))] [] [] (xW 2 [(6,bv (a2 !=0))] [] h3 zB) ?_
   exact xA (J_j (jv4 (a2 !=9))) rfl
  ·refine J_d 12 [] [10] [(10,bv false)] [] [] (xW 2 [(6,bv (a2 !=0))] [] h3 zB) ?_
   exact xA (J_j (jv4 false)) rfl
noncomputable def c29:Code:=(Tryz.f29.body).getD .skip
theorem jD.ok (a1:(List Pack)) (a2:zC) (a3:Int):Ok Tryz.prog 29 [sl 8 (Pack.enc false) a1,.ag (zC.enc false a2),iv a3] [] ((jD a1 a2 a3).map fun r=>(.ag [iv r.Code,so 2 (File.enc false) r.zC.Files,iv r.zC.Budget,iv r.zC.Writes,iv r.zC.Stop,bv r.zC.Down],[])):=by
 refine zG c29 Tryz.f29 0 53 (fun q=>?_)
 unfold jD
 refine J_d 2 [(0,0),(1,1)] [1,4,6] [(4,pp 0),(6,pp 1)] [0,1] [(0,.box (zC.enc false a2)),(1,.box [iv 0,nv,iv 0,iv 0,iv 0,bv false])] zB ?_
 refine zA (fun x4 h5=>?_)
 refine J_g 12 [] [(0,sl 8 (Pack.enc false) a1),(2,iv a3),(4,pp 0),(6,pp 1),(7,iv x4)] [(0,.box (zC.enc false a2)),(1,.box [iv 0,nv,iv 0,iv 0,iv 0,bv false])] (zF 2 (xU [(.tmp 11),(.tmp 12)] [30,33] (zCC.ok a1 a2) h5) zB) ?_
 refine J_d 26 [] [15] [(15,bv (x4 !=0))] [] [] zB ?_
 refine zD 15 (fun h6=>?_) (fun h6=>?_)
 ·refine J_g 108 [] [(6,pp 1)] [(1,.box [iv x4,nv,iv 0,iv 0,iv 0,bv false])] zB ?_
  exact zCT (ds:=[.ag [iv x4,nv,iv 0,iv 0,iv 0,bv false]]) (ds':=[.ag [iv x4,so 2 (File.enc false) ([]:List File),iv 0,iv 0,iv 0,bv false]]) (.cons (.ag (.keep rfl (.nilsl true 2 (.keep rfl (.keep rfl (.keep rfl (.keep rfl (.nil)))))))) (.nil) (by decide)) rfl
 ·refine zA (fun x7 h8=>?_)
  refine J_d 28 [] [7,15,19] [(19,bv (decide (x7≥0)))] [] [] (zF 0 (zGj [(0,.box (zC.enc false a2))] [] (uJ («as»:=[pp 0,sv (bs [112,108,97,110])]) [(.tmp 4),(.const (.string (bs [112,108,97,110])))] [72,9] false [(0,.box (zC.enc false a2))] [0] (.cons (.pt rfl) (.cons (.same rfl) (.nil))) (xP.ok a2 (bs [112,108,97,110])) h8 (.same rfl rfl))) zB) ?_
  refine zD 19 (fun h9=>?_) (fun h9=>?_)
  ·refine J_g 116 [] [(6,pp 1)] [(1,.box [iv 6,nv,iv 0,iv 0,iv 0,bv false])] zB ?_
   exact zCT (ds:=[.ag [iv 6,nv,iv 0,iv 0,iv 0,bv false]]) (ds':=[.ag [iv 6,so 2 (File.enc false) ([]:List File),iv 0,iv 0,iv 0,bv false]]) (.cons (.ag (.keep rfl (.nilsl true 2 (.keep rfl (.keep rfl (.keep rfl (.keep rfl (.nil)))))))) (.nil) (by decide)) rfl
  ·refine zA (fun x10 h11=>?_)
   refine J_g 30 [(3,3)] [(0,sl 8 (Pack.enc false) a1),(2,iv a3),(4,pp 0),(6,pp 1),(8,pp 3)] [(0,.box (zC.enc false a2)),(1,.box [iv 0,nv,iv 0,iv 0,iv 0,bv false]),(2,rE 1 zS x10.Set),(3,.box [iv x10.Code,iv x10.At,rr 2 x10.Set])] (zF 2 (zGj [(0,.box (zC.enc false a2))] [(2,rE 1 zS x10.Set)] (uJ («as»:=[sl 8 (Pack.enc false) a1,pp 0,iv a3]) [(.tmp 21),(.tmp 4),(.tmp 22)] [30,72,2] false [(0,.box (zC.enc false a2))] [0] (.cons (.same rfl) (.cons (.pt rfl) (.cons (.same rfl) (.nil)))) (zEg.ok a1 a2 a3) h11 (.ag (.cons (.same rfl rfl) (.cons (.same rfl rfl) (.cons (.own 2) (.nil))))))) zB) ?_
   refine J_d 124 [] [26] [(26,bv (x10.Code !=0))] [] [] zB ?_
   refine zD 26 (fun h12=>?_) (fun h12=>?_)
   ·refine J_g 500 [] [(6,pp 1)] [(1,.box [iv x10.Code,nv,iv 0,iv 0,iv 0,bv false])] zB ?_
    exact zCT (ds:=[.ag [iv x10.Code,nv,iv 0,iv 0,iv 0,bv false]]) (ds':=[.ag [iv x10.Code,so 2 (File.enc false) ([]:List File),iv 0,iv 0,iv 0,bv false]]) (.cons (.ag (.keep rfl (.nilsl true 2 (.keep rfl (.keep rfl (.keep rfl (.keep rfl (.nil)))))))) (.nil) (by decide)) rfl
   ·refine zA (fun x13 h14=>?_)
    refine xS (atI c29 253) (fun v18:Bool=>St.mk' [(2,iv a3),(4,pp 0),(6,pp 1),(42,bv v18)] [(0,.box (zC.enc false a2)),(1,.box [iv 0,nv,iv 0,iv 0,iv 0,bv false])]) (fun v18=>?_) (fun jv18=>?_)
    ·refine zD 42 (fun h19=>?_) (fun h19=>?_)
     ·refine J_g 1012 [] [(6,pp 1)] [(1,.box [iv 1,nv,iv 0,iv 0,iv 0,bv false])] zB ?_
      exact zCT (ds:=[.ag [iv 1,nv,iv 0,iv 0,iv 0,bv false]]) (ds':=[.ag [iv 1,so 2 (File.enc false) ([]:List File),iv 0,iv 0,iv 0,bv false]]) (.cons (.ag (.keep rfl (.nilsl true 2 (.keep rfl (.keep rfl (.keep rfl (.keep rfl (.nil)))))))) (.nil) (by decide)) rfl
     ·refine zA (fun x20 h21=>?_)
      refine J_d 254 [(2,3)] [4,9,42] [(9,pp 3)] [0,2,3] [(2,rE 2 (File.enc true) x20.Files),(3,.box [rr 2 x20.Files,iv x20.Budget,iv x20.Writes,iv x20.Stop,bv x20.Down])] (zF 1 (uJ («as»:=[.ag (zC.enc false a2)]) [(.tmp 44)] [33] false [] [] (.cons (.same rfl) (.nil)) (zBu.ok a2) h21 (.ag (.cons (.own 2) (.cons (.same rfl rfl) (.cons (.same rfl rfl) (.cons (.same rfl rfl) (.cons (.same rfl rfl) (.nil)))))))) zB) ?_
      refine zA (fun x22 h23=>?_)
      refine jM 3 (cs':=[so 2 (File.enc true) x20.Files,iv x20.Budget,iv x20.Writes,iv x20.Stop,bv x20.Down]) (ts:=[2]) rfl (.move (.tail _ (.head _)) (List.length_map _) (by decide) (.keep rfl (.keep rfl (.keep rfl (.keep rfl (.nil)))))) ?_
      refine zB4 [(2,iv a3),(6,pp 1),(9,pp 3)] [(1,.box [iv 0,nv,iv 0,iv 0,iv 0,bv false]),(3,.box (zC.enc true x20))] (by kernel_rfl) ?_
      refine zA (fun x24 h25=>?_)
      refine J_g 510 [] [(6,pp 1),(9,pp 3),(10,iv x24.1)] [(1,.box [iv 0,nv,iv 0,iv 0,iv 0,bv false]),(3,.box [so 2 (File.enc false) x24.2.Files,iv x24.2.Budget,iv x24.2.Writes,iv x24.2.Stop,bv x24.2.Down])] (zF 1 (xU [(.tmp 46)] [2] (xY.ok a3) h23) (zF 2 (zQn (s:=x22) 9 121 5 (.tmp 47)) (zF 3 (uJ («as»:=[pp 3,sv (bs [99,117,114]),sl 1 eU8 (s2b x22)]) [(.tmp 9),(.const (.string (bs [99,117,114]))),(.tmp 48)] [72,9,121] false [(3,.box (zC.enc true x20))] [3] (.cons (.pt rfl) (.cons (.same rfl) (.cons (.same rfl) (.nil)))) (zA7.ok x20 (bs [99,117,114]) (s2b x22)) h25 (.same rfl rfl)) zB))) ?_
      refine jK 3 (cs':=[rr 4 x24.2.Files,iv x24.2.Budget,iv x24.2.Writes,iv x24.2.Stop,bv x24.2.Down]) (es:=[(4,rE 2 (File.enc false) x24.2.Files)]) rfl (.cons (.own 4) (.cons (.same rfl rfl) (.cons (.same rfl rfl) (.cons (.same rfl rfl) (.cons (.same rfl rfl) (.nil)))))) rfl (by kernel_rfl) (by kernel_rfl) ?_
      refine zB4 [(6,pp 1),(9,pp 3),(10,iv x24.1)] [(1,.box [iv 0,nv,iv 0,iv 0,iv 0,bv false]),(3,.box [rr 4 x24.2.Files,iv x24.2.Budget,iv x24.2.Writes,iv x24.2.Stop,bv x24.2.Down]),(4,rE 2 (File.enc false) x24.2.Files)] (by kernel_rfl) ?_
      refine zA (fun x26 h27=>?_)
      refine J_g 1022 [] [(6,pp 1)] [(1,.box [iv x26.Code,rr 5 x26.zC.Files,iv x26.zC.Budget,iv x26.zC.Writes,iv x26.zC.Stop,bv x26.zC.Down]),(5,rE 2 (File.enc false) x26.zC.Files)] (zF 2 (uJ («as»:=[.ag [rr 4 x24.2.Files,iv x24.2.Budget,iv x24.2.Writes,iv x24.2.Stop,bv x24.2.Down],iv x24.1]) [(.tmp 50),(.tmp 51)] [33,2] false [(4,rE 2 (File.enc false) x24.2.Files)] [4] (.cons (.ag (.cons (.rf rfl) (.cons (.same rfl) (.cons (.same rfl) (.cons (.same rfl) (.cons (.same rfl) (.nil))))))) (.cons (.same rfl) (.nil))) (zKq.ok x24.2 x24.1) h27 (.ag (.cons (.same rfl rfl) (.cons (.own 5) (.cons (.same rfl rfl) (.cons (.same rfl rfl) (.cons (.same rfl rfl) (.cons (.same rfl rfl) (.nil))))))))) zB) ?_
      exact zCT (ds:=[.ag [iv x26.Code,rr 5 x26.zC.Files,iv x26.zC.Budget,iv x26.zC.Writes,iv x26.zC.Stop,bv x26.zC.Down]]) (ds':=[.ag [iv x26.Code,so 2 (File.enc false) x26.zC.Files,iv x26.zC.Budget,iv x26.zC.Writes,iv x26.zC.Stop,bv x26.zC.Down]]) (.cons (.ag (.keep rfl (.move (.tail _ (.head _)) (List.length_map _) (by decide) (.keep rfl (.keep rfl (.keep rfl (.keep rfl (.nil)))))))) (.nil) (by decide)) rfl
    ·refine wH (fun h15=>?_) (fun h15=>?_)
     ·refine J_d 252 [] [0,8,26,42] [(42,bv true)] [2,3] [] (zF 3 (uJ («as»:=[sl 8 (Pack.enc false) a1,rr 2 x10.Set]) [(.tmp 30),(.tmp 32)] [30,39] true [(2,rE 1 zS x10.Set)] [] (.cons (.same rfl) (.cons (zFe (.head _) (fun _=>rfl) rfl) (.nil))) (zC9.ok a1 x10.Set) h14 (.same rfl rfl) (hbor:=fun _=>⟨fhN,yJ⟩)) (xW 5 [(34,bv (!x13))] [] h15 zB)) ?_
      exact xA (J_j (jv18 true)) rfl
     ·refine zA (fun x16 h17=>?_)
      refine J_d 252 [] [0,8,26,42] [(42,bv (decide ((x16.length:Int)>0)))] [2,3] [] (zF 3 (uJ («as»:=[sl 8 (Pack.enc false) a1,rr 2 x10.Set]) [(.tmp 30),(.tmp 32)] [30,39] true [(2,rE 1 zS x10.Set)] [] (.cons (.same rfl) (.cons (zFe (.head _) (fun _=>rfl) rfl) (.nil))) (zC9.ok a1 x10.Set) h14 (.same rfl rfl) (hbor:=fun _=>⟨fhN,yJ⟩)) (xW 5 [(34,bv (!x13))] [] h15 (zBS 9 5 35 false (zGj [(0,.box (zC.enc false a2)),(2,rE 1 zS x10.Set)] [(4,rE 1 zS x16)] (uJ («as»:=[sl 8 (Pack.enc false) a1,pp 0,rr 2 x10.Set]) [(.tmp 36),(.tmp 4),(.tmp 38)] [30,72,39] false [(0,.box (zC.enc false a2)),(2,rE 1 zS x10.Set)] [0,2] (.cons (.same rfl) (.cons (.pt rfl) (.cons (.rf rfl) (.nil)))) (zHy.ok a1 a2 x10.Set) h17 (.own 4))) zB))) ?_
      exact xA (J_j (jv18 (decide ((x16.length:Int)>0)))) rfl
noncomputable def zRM:Code:=(Tryz.f184.body).getD .skip
theorem wF.ok (a1:Int):Ok Tryz.prog 184 [uv a1] [] ((wF a1).map fun r=>(bv r,[])):=by
 refine zG zRM Tryz.f184 0 21 (fun q=>?_)
 unfold wF
 refine J_g 2 [] [(0,uv a1)] [] zB ?_
 refine wH (fun h2=>?_) (fun h2=>?_)
 ·refine wH (fun h3=>?_) (fun h3=>?_)
  ·refine J_g 6 [] [(2,bv true)] [] (xW 2 [(4,bv (decide (a1≥97)))] [] h2 (xW 6 [(8,bv (decide (a1≤122)))] [] h3 (zJF 9 (zJG (i:=9) (g:=6) (t:=9) (b:=false) (v:=(.bool true)) (.inl rfl) (by kernel_rfl) (by kernel_rfl)) (zJF 10 (zJG (i:=10) (g:=9) (t:=12) (b:=true) (v:=undef) (.inr rfl) (by kernel_rfl) (by kernel_rfl)) (zJF 11 (zJG (i:=11) (g:=9) (t:=12) (b:=true) (v:=undef) (.inr rfl) (by kernel_rfl) (by kernel_rfl)) zB))))) ?_
   exact zN rfl
  ·refine wH (fun h4=>?_) (fun h4=>?_)
   ·refine wH (fun h5=>?_) (fun h5=>?_)
    ·refine J_g 6 [] [(2,bv true)] [] (xW 2 [(4,bv (decide (a1≥97)))] [] h2 (xW 6 [(8,bv (decide (a1≤122)))] [] h3 (zHN 9 6 9 false [(11,bv (decide (a1≥48)))] [] h4 (xW 14 [(16,bv (decide (a1≤57)))] [] h5 zB)))) ?_
     exact zN rfl
    ·refine J_g 6 [] [(2,bv (a1==95))] [] (xW 2 [(4,bv (decide (a1≥97)))] [] h2 (xW 6 [(8,bv (decide (a1≤122)))] [] h3 (zHN 9 6 9 false [(11,bv (decide (a1≥48)))] [] h4 (xW 14 [(16,bv (decide (a1≤57)))] [] h5 zB)))) ?_
     exact zN rfl
   ·refine J_g 6 [] [(2,bv (a1==95))] [] (xW 2 [(4,bv (decide (a1≥97)))] [] h2 (xW 6 [(8,bv (decide (a1≤122)))] [] h3 (zHN 9 6 9 false [(11,bv (decide (a1≥48)))] [] h4 zB))) ?_
    exact zN rfl
 ·refine wH (fun h6=>?_) (fun h6=>?_)
  ·refine wH (fun h7=>?_) (fun h7=>?_)
   ·refine J_g 6 [] [(2,bv true)] [] (xW 2 [(4,bv (decide (a1≥97)))] [] h2 (zHN 9 6 9 false [(11,bv (decide (a1≥48)))] [] h6 (xW 14 [(16,bv (decide (a1≤57)))] [] h7 zB))) ?_
    exact zN rfl
   ·refine J_g 6 [] [(2,bv (a1==95))] [] (xW 2 [(4,bv (decide (a1≥97)))] [] h2 (zHN 9 6 9 false [(11,bv (decide (a1≥48)))] [] h6 (xW 14 [(16,bv (decide (a1≤57)))] [] h7 zB))) ?_
    exact zN rfl
  ·refine J_g 6 [] [(2,bv (a1==95))] [] (xW 2 [(4,bv (decide (a1≥97)))] [] h2 (zHN 9 6 9 false [(11,bv (decide (a1≥48)))] [] h6 zB)) ?_
   exact zN rfl
noncomputable def zPN:Code:=(Tryz.f186.body).getD .skip
theorem kG.ok (a1:ByteArray) (q:Wd) (kn:Unit→Option (D×List Ent)) (hk:∀v:Unit,J (q.g Tryz.prog 186 0 33) zPN (atI zPN 15) (St.mk' [] []) (some v) kn):
  ∀s17:Int,J (q.g Tryz.prog 186 0 33) zPN (atI zPN 116) (St.mk' [(0,sv a1),(23,iv (a1.size:Int)),(24,iv s17)] []) (kG a1 s17) (Fl.go (fun r:Int=>some (iv r,[])) kn):=by
 refine kQ (fun g ih s17=>?_)
 unfold zBW
 refine J_d 232 [] [25] [(25,bv (decide (s17< (a1.size:Int))))] [] [] zB ?_
 refine zD 25 (fun h18=>?_) (fun h18=>?_)
 ·refine J_d 3736 [] [3,25] [(3,iv s17)] [] [] zB ?_
  refine zA (fun x19 h20=>?_)
  refine zA (fun x21 h22=>?_)
  refine J_d 7474 [] [3,31] [(31,bv (!x21))] [] [] (zF 2 (zJZ (kk:=.i64) 9 (.tmp 27) (.tmp 28) h20) (zF 3 (xU [(.tmp 29)] [5] (wF.ok x19) h22) zB)) ?_
  refine zD 31 (fun h23=>?_) (fun h23=>?_)
  ·refine J_g 29900 [] [(2,iv 5)] [] zB ?_
   exact zN rfl
  ·refine J_d 935 [] [24,31] [(24,iv (w64 (s17+1)))] [] [] zB ?_
   exact J_q (J_b (ih (w64 (s17+1)))) rfl
 ·exact xA (hk ()) rfl
theorem vB.ok (a1:ByteArray):Ok Tryz.prog 186 [sv a1] [] ((vB a1).map fun r=>(iv r,[])):=by
 refine zG zPN Tryz.f186 0 33 (fun q=>?_)
 unfold vB
 refine J_g 2 [] [(0,sv a1)] [] zB ?_
 refine xS (atI zPN 13) (fun v9:Bool=>St.mk' [(0,sv a1),(21,bv v9)] []) (fun v9=>?_) (fun jv9=>?_)
 ·refine zD 21 (fun h10=>?_) (fun h10=>?_)
  ·refine J_g 52 [] [(2,iv 5)] [] zB ?_
   exact zN rfl
  ·refine J_g 28 [] [(0,sv a1),(23,iv (a1.size:Int)),(24,iv 0)] [] zB ?_
   refine uR (K0:=(fun r:Int=>some (iv r,[]))) (fun _=>rfl) (kG.ok a1 q _ (fun v24=>J_j ?_) 0)
   refine J_g 30 [] [(2,iv 0)] [] zB ?_
   exact zN rfl
 ·refine wH (fun h2=>?_) (fun h2=>?_)
  ·refine J_g 12 [] [(0,sv a1),(21,bv true)] [] (xW 3 [(6,bv (decide ((a1.size:Int)<1)))] [] h2 zB) ?_
   exact xA (J_j (jv9 true)) rfl
  ·refine wH (fun h3=>?_) (fun h3=>?_)
   ·refine J_g 12 [] [(0,sv a1),(21,bv true)] [] (xW 3 [(6,bv (decide ((a1.size:Int)<1)))] [] h2 (xW 8 [(11,bv (decide ((a1.size:Int)>12)))] [] h3 zB)) ?_
    exact xA (J_j (jv9 true)) rfl
   ·refine zA (fun x4 h5=>?_)
    refine wH (fun h6=>?_) (fun h6=>?_)
    ·refine J_g 12 [] [(0,sv a1),(21,bv true)] [] (xW 3 [(6,bv (decide ((a1.size:Int)<1)))] [] h2 (xW 8 [(11,bv (decide ((a1.size:Int)>12)))] [] h3 (zBS 10 8 12 false (zJZ (kk:=.i64) 9 (.tmp 13) (.const (.int .i64 0)) h5) (xW 13 [(16,bv (decide (x4<97)))] [] h6 zB)))) ?_
     exact xA (J_j (jv9 true)) rfl
    ·refine zA (fun x7 h8=>?_)
     refine J_g 12 [] [(0,sv a1),(21,bv (decide (x7>122)))] [] (xW 3 [(6,bv (decide ((a1.size:Int)<1)))] [] h2 (xW 8 [(11,bv (decide ((a1.size:Int)>12)))] [] h3 (zBS 10 8 12 false (zJZ (kk:=.i64) 9 (.tmp 13) (.const (.int .i64 0)) h5) (xW 13 [(16,bv (decide (x4<97)))] [] h6 (zBS 15 13 17 false (zJZ (kk:=.i64) 9 (.tmp 18) (.const (.int .i64 0)) h8) zB))))) ?_
     exact xA (J_j (jv9 (decide (x7>122)))) rfl
noncomputable def c175:Code:=(Tryz.f175.body).getD .skip
theorem xM.ok (a1:Int) (a2:Int) (a3:Int):Ok Tryz.prog 175 [iv a1,iv a2,iv a3] [] ((xM a1 a2 a3).map fun r=>(bv r,[])):=by
 refine zG c175 Tryz.f175 0 15 (fun q=>?_)
 unfold xM
 refine J_d 2 [] [] [] [] [] zB ?_
 refine wH (fun h4=>?_) (fun h4=>?_)
 ·refine J_g 6 [] [(6,bv (decide (a1≤a3)))] [] (xW 3 [(9,bv (decide (a2≤a1)))] [] h4 zB) ?_
  exact zN rfl
 ·refine J_g 6 [] [(6,bv false)] [] (xW 3 [(9,bv (decide (a2≤a1)))] [] h4 zB) ?_
  exact zN rfl
noncomputable def zRI:Code:=(Tryz.f240.body).getD .skip
theorem wI.ok (a1:Version):Ok Tryz.prog 240 [.ag (Version.enc a1)] [] ((wI a1).map fun r=>(iv r,[])):=by
 refine zG zRI Tryz.f240 0 19 (fun q=>?_)
 unfold wI
 refine J_g 2 [(0,0)] [(1,pp 0)] [(0,.box (Version.enc a1))] zB ?_
 refine zA (fun x2 h3=>?_)
 refine xS (atI zRI 13) (fun v10:Bool=>St.mk' [(18,bv v10)] []) (fun v10=>?_) (fun jv10=>?_)
 ·refine zD 18 (fun h11=>?_) (fun h11=>?_)
  ·refine J_g 52 [] [(2,iv 3)] [] zB ?_
   exact zN rfl
  ·refine J_g 14 [] [(2,iv 0)] [] zB ?_
   exact zN rfl
 ·refine wH (fun h4=>?_) (fun h4=>?_)
  ·refine J_g 12 [] [(18,bv true)] [] (zF 2 (xU [(.tmp 4),(.const (.int .i64 0)),(.const (.int .i64 999))] [2,2,2] (xM.ok a1.A 0 999) h3) (xW 4 [(6,bv (!x2))] [] h4 zB)) ?_
   exact xA (J_j (jv10 true)) rfl
  ·refine zA (fun x5 h6=>?_)
   refine wH (fun h7=>?_) (fun h7=>?_)
   ·refine J_g 12 [] [(18,bv true)] [] (zF 2 (xU [(.tmp 4),(.const (.int .i64 0)),(.const (.int .i64 999))] [2,2,2] (xM.ok a1.A 0 999) h3) (xW 4 [(6,bv (!x2))] [] h4 (zBS 7 4 7 false (xU [(.tmp 9),(.const (.int .i64 0)),(.const (.int .i64 999))] [2,2,2] (xM.ok a1.B 0 999) h6) (xW 10 [(12,bv (!x5))] [] h7 zB)))) ?_
    exact xA (J_j (jv10 true)) rfl
   ·refine zA (fun x8 h9=>?_)
    refine J_g 12 [] [(18,bv (!x8))] [] (zF 2 (xU [(.tmp 4),(.const (.int .i64 0)),(.const (.int .i64 999))] [2,2,2] (xM.ok a1.A 0 999) h3) (xW 4 [(6,bv (!x2))] [] h4 (zBS 7 4 7 false (xU [(.tmp 9),(.const (.int .i64 0)),(.const (.int .i64 999))] [2,2,2] (xM.ok a1.B 0 999) h6) (xW 10 [(12,bv (!x5))] [] h7 (zBS 13 10 13 false (xU [(.tmp 15),(.const (.int .i64 0)),(.const (.int .i64 999))] [2,2,2] (xM.ok a1.C 0 999) h9) zB))))) ?_
    exact xA (J_j (jv10 (!x8))) rfl
noncomputable def c98:Code:=(Tryz.f98.body).getD .skip
theorem zAW.ok (a1:(List Int)) (q:Wd) (kn:Unit→Option (D×List Ent)) (hk:∀v:Unit,J (q.g Tryz.prog 98 0 15) c98 (atI c98 7) (St.mk' [] []) (some v) kn):
  ∀s6:Int,J (q.g Tryz.prog 98 0 15) c98 (atI c98 52) (St.mk' [(5,sl 1 zS a1),(6,iv (a1.length:Int)),(7,iv s6)] []) (zAW a1 s6) (Fl.go (fun r:Int=>some (iv r,[])) kn):=by
 refine kQ (fun g ih s6=>?_)
 unfold zA2
 refine J_d 104 [] [8] [(8,bv (decide (s6< (a1.length:Int))))] [] [] zB ?_
 refine zD 8 (fun h7=>?_) (fun h7=>?_)
 ·refine zA (fun x8 h9=>?_)
  refine J_g 1688 [] [(4,iv x8),(5,sl 1 zS a1),(6,iv (a1.length:Int)),(7,iv s6)] [] (zF 0 (tL (kk:=.i64) 39 2 1 zS (.tmp 5) (.tmp 7) h9) zB) ?_
  refine J_d 3378 [] [12] [(12,bv (x8 !=0))] [] [] zB ?_
  refine zD 12 (fun h10=>?_) (fun h10=>?_)
  ·refine J_g 13516 [] [(2,iv x8)] [] zB ?_
   exact zN rfl
  ·refine J_d 423 [] [4,7,12] [(7,iv (w64 (s6+1)))] [] [] zB ?_
   exact J_q (J_b (ih (w64 (s6+1)))) rfl
 ·exact xA (hk ()) rfl
theorem zAE.ok (a1:(List Int)):Ok Tryz.prog 98 [sl 1 zS a1] [] ((zAE a1).map fun r=>(iv r,[])):=by
 refine zG c98 Tryz.f98 0 15 (fun q=>?_)
 unfold zAE
 refine J_g 2 [] [(0,sl 1 zS a1)] [] zB ?_
 refine J_g 12 [] [(5,sl 1 zS a1),(6,iv (a1.length:Int)),(7,iv 0)] [] zB ?_
 refine uR (K0:=(fun r:Int=>some (iv r,[]))) (fun _=>rfl) (zAW.ok a1 q _ (fun v11=>J_j ?_) 0)
 refine J_g 14 [] [(2,iv 0)] [] zB ?_
 exact zN rfl
noncomputable def zRL:Code:=(Tryz.f242.body).getD .skip
theorem zAm.ok (a1:(List Term)):Ok Tryz.prog 242 [sl 7 Term.enc a1] [] ((zAm a1).map fun r=>(bv r,[])):=by
 refine zG zRL Tryz.f242 0 6 (fun q=>?_)
 unfold zAm
 refine J_g 2 [] [(0,sl 7 Term.enc a1)] [] zB ?_
 refine J_g 6 [] [(2,bv (decide ((a1.length:Int)>4)))] [] zB ?_
 exact zN rfl
noncomputable def zQ2:Code:=(Tryz.f293.body).getD .skip
theorem yM.ok (a1:(List (List Term))) (q:Wd) (kn:Unit→Option (D×List Ent)) (hk:∀v:Unit,J (q.g Tryz.prog 293 0 19) zQ2 (atI zQ2 7) (St.mk' [] []) (some v) kn):
  ∀s8:Int,J (q.g Tryz.prog 293 0 19) zQ2 (atI zQ2 52) (St.mk' [(0,sl 1 (eSl false 7 Term.enc) a1),(1,.fn 242 []),(7,iv (a1.length:Int)),(8,iv s8)] []) (yM a1 s8) (Fl.go (fun r:Int=>some (iv r,[])) kn):=by
 refine kQ (fun g ih s8=>?_)
 unfold yF
 refine J_d 104 [] [9] [(9,bv (decide (s8< (a1.length:Int))))] [] [] zB ?_
 refine zD 9 (fun h9=>?_) (fun h9=>?_)
 ·refine J_d 1688 [] [5,9] [(5,iv s8)] [] [] zB ?_
  refine zA (fun x10 h11=>?_)
  refine zA (fun x12 h13=>?_)
  refine J_d 3378 [] [16] [(16,bv x12)] [] [] (zF 3 (tL (kk:=.i64) 100 75 1 (eSl false 7 Term.enc) (.tmp 12) (.tmp 13) h11) (zF 5 (zN0 («as»:=[sl 7 Term.enc x10]) (caps:=[]) 11 [(.tmp 15)] [75] (zAm.ok x10) h13) zB)) ?_
  refine zD 16 (fun h14=>?_) (fun h14=>?_)
  ·refine J_g 13516 [] [(4,iv s8)] [] zB ?_
   exact zN rfl
  ·refine J_d 423 [] [5,8,16] [(8,iv (w64 (s8+1)))] [] [] zB ?_
   exact J_q (J_b (ih (w64 (s8+1)))) rfl
 ·exact xA (hk ()) rfl
theorem yC.ok (a1:(List (List Term))):Ok Tryz.prog 293 [sl 1 (eSl false 7 Term.enc) a1,.fn 242 []] [] ((yC a1).map fun r=>(iv r,[])):=by
 refine zG zQ2 Tryz.f293 0 19 (fun q=>?_)
 unfold yC
 refine J_g 2 [] [(0,sl 1 (eSl false 7 Term.enc) a1),(1,.fn 242 [])] [] zB ?_
 refine J_d 12 [] [7,8] [(7,iv (a1.length:Int)),(8,iv 0)] [] [] zB ?_
 refine uR (K0:=(fun r:Int=>some (iv r,[]))) (fun _=>rfl) (yM.ok a1 q _ (fun v15=>J_j ?_) 0)
 refine J_g 14 [] [(4,iv (-1))] [] zB ?_
 exact zN rfl
noncomputable def zSi:Code:=(Tryz.f241.body).getD .skip
theorem zO.ok (a1:(List (List Term))):Ok Tryz.prog 241 [sl 1 (eSl false 7 Term.enc) a1,.fn 242 []] [] ((zO a1).map fun r=>(bv r,[])):=by
 refine zG zSi Tryz.f241 0 9 (fun q=>?_)
 unfold zO
 refine J_d 2 [] [] [] [] [] zB ?_
 refine zA (fun x2 h3=>?_)
 refine J_g 6 [] [(4,bv (decide (x2≥0)))] [] (zF 2 (uJ («as»:=[sl 1 (eSl false 7 Term.enc) a1,.fn 242 []]) [(.tmp 5),(.tmp 6)] [100,154] false [] [] (.cons (.same rfl) (.cons (.fn (.nil)) (.nil))) (yC.ok a1) h3 (.same rfl rfl)) zB) ?_
 exact zN rfl
noncomputable def zQi:Code:=(Tryz.f209.body).getD .skip
theorem vT.ok (a1:(List ByteArray)) (a2:ByteArray) (q:Wd) (kn:Unit→Option (D×List Ent)) (hk:∀v:Unit,J (q.g Tryz.prog 209 0 19) zQi (atI zQi 7) (St.mk' [] []) (some v) kn):
  ∀s7:Int,J (q.g Tryz.prog 209 0 19) zQi (atI zQi 52) (St.mk' [(0,sl 1 eStr a1),(1,sv a2),(7,iv (a1.length:Int)),(8,iv s7)] []) (vT a1 a2 s7) (Fl.go (fun r:Int=>some (iv r,[])) kn):=by
 refine kQ (fun g ih s7=>?_)
 unfold vO
 refine J_d 104 [] [9] [(9,bv (decide (s7< (a1.length:Int))))] [] [] zB ?_
 refine zD 9 (fun h8=>?_) (fun h8=>?_)
 ·refine J_d 1688 [] [5,9] [(5,iv s7)] [] [] zB ?_
  refine zA (fun x9 h10=>?_)
  refine J_d 3378 [] [16] [(16,bv (seq a2 x9))] [] [] (zF 3 (tL (kk:=.i64) 86 9 1 eStr (.tmp 12) (.tmp 13) h10) zB) ?_
  refine zD 16 (fun h11=>?_) (fun h11=>?_)
  ·refine J_g 13516 [] [(4,iv s7)] [] zB ?_
   exact zN rfl
  ·refine J_d 423 [] [5,8,16] [(8,iv (w64 (s7+1)))] [] [] zB ?_
   exact J_q (J_b (ih (w64 (s7+1)))) rfl
 ·exact xA (hk ()) rfl
theorem uI.ok (a1:(List ByteArray)) (a2:ByteArray):Ok Tryz.prog 209 [sl 1 eStr a1,sv a2] [] ((uI a1 a2).map fun r=>(iv r,[])):=by
 refine zG zQi Tryz.f209 0 19 (fun q=>?_)
 unfold uI
 refine J_g 2 [] [(0,sl 1 eStr a1),(1,sv a2)] [] zB ?_
 refine J_d 12 [] [7,8] [(7,iv (a1.length:Int)),(8,iv 0)] [] [] zB ?_
 refine uR (K0:=(fun r:Int=>some (iv r,[]))) (fun _=>rfl) (vT.ok a1 a2 q _ (fun v12=>J_j ?_) 0)
 refine J_g 14 [] [(4,iv (-1))] [] zB ?_
 exact zN rfl
noncomputable def zSs:Code:=(Tryz.f137.body).getD .skip
theorem wN.ok (a1:(List ByteArray)) (a2:ByteArray):Ok Tryz.prog 137 [sl 1 eStr a1,sv a2] [] ((wN a1 a2).map fun r=>(bv r,[])):=by
 refine zG zSs Tryz.f137 0 9 (fun q=>?_)
 unfold wN
 refine J_d 2 [] [] [] [] [] zB ?_
 refine zA (fun x3 h4=>?_)
 refine J_g 6 [] [(4,bv (decide (x3≥0)))] [] (zF 2 (xU [(.tmp 5),(.tmp 6)] [86,9] (uI.ok a1 a2) h4) zB) ?_
 exact zN rfl
noncomputable def zRS:Code:=(Tryz.f254.body).getD .skip
theorem zEZ.ok:Ok Tryz.prog 254 [] [] ((zEZ).map fun r=>(.ag (Version.enc r),[])):=by
 refine zG zRS Tryz.f254 0 2 (fun q=>?_)
 unfold zEZ
 refine J_g 2 [(0,0)] [(0,pp 0)] [(0,.box [iv 0,iv 0,iv 0])] zB ?_
 refine J_g 6 [] [(0,pp 0)] [(0,.box [iv 1000,iv 0,iv 0])] zB ?_
 exact zN rfl
noncomputable def zRR:Code:=(Tryz.f310.body).getD .skip
theorem jE.ok (a1:Int):Ok Tryz.prog 310 [iv a1] [] ((jE a1).map fun r=>(bv r,[])):=by
 refine zG zRR Tryz.f310 0 6 (fun q=>?_)
 unfold jE
 refine J_g 2 [] [(0,iv a1)] [] zB ?_
 refine J_g 6 [] [(2,bv (a1 !=a1))] [] zB ?_
 exact zN rfl
noncomputable def zRQ:Code:=(Tryz.f303.body).getD .skip
theorem wJ.ok (a1:Int) (a2:Int):Ok Tryz.prog 303 [iv a1,iv a2] [] ((wJ a1 a2).map fun r=>(iv r,[])):=by
 refine zG zRQ Tryz.f303 0 20 (fun q=>?_)
 unfold wJ
 refine J_d 2 [] [] [] [] [] zB ?_
 refine zA (fun x3 h4=>?_)
 refine J_d 6 [] [5] [(5,bv x3)] [] [] (zF 1 (xU [(.tmp 7)] [2] (jE.ok a1) h4) zB) ?_
 refine zA (fun x5 h6=>?_)
 refine J_g 14 [] [(0,iv a1),(1,iv a2),(5,bv x3),(6,bv x5)] [] (zF 1 (xU [(.tmp 9)] [2] (jE.ok a2) h6) zB) ?_
 refine J_d 60 [] [5,11] [(11,bv x3)] [] [] zB ?_
 refine zD 11 (fun h7=>?_) (fun h7=>?_)
 ·refine J_g 488 [] [(12,bv x5)] [] zB ?_
  refine zD 12 (fun h8=>?_) (fun h8=>?_)
  ·refine J_g 1956 [] [(4,iv 0)] [] zB ?_
   exact zN rfl
  ·refine J_g 490 [] [(4,iv (-1))] [] zB ?_
   exact zN rfl
 ·refine J_g 124 [] [(0,iv a1),(1,iv a2),(13,bv x5)] [] zB ?_
  refine zD 13 (fun h9=>?_) (fun h9=>?_)
  ·refine J_g 500 [] [(4,iv 1)] [] zB ?_
   exact zN rfl
  ·refine J_d 252 [] [13,16] [(16,bv (decide (a1<a2)))] [] [] zB ?_
   refine zD 16 (fun h10=>?_) (fun h10=>?_)
   ·refine J_g 1012 [] [(4,iv (-1))] [] zB ?_
    exact zN rfl
   ·refine J_g 508 [] [(19,bv (decide (a1>a2)))] [] zB ?_
    refine zD 19 (fun h11=>?_) (fun h11=>?_)
    ·refine J_g 2036 [] [(4,iv 1)] [] zB ?_
     exact zN rfl
    ·refine J_g 510 [] [(4,iv 0)] [] zB ?_
     exact zN rfl
noncomputable def zQm:Code:=(Tryz.f302.body).getD .skip
theorem zDH.ok (a1:(List Int)) (q:Wd) (kn:Unit→Option (D×List Ent)) (hk:∀v:Unit,J (q.g Tryz.prog 302 0 18) zQm (atI zQm 15) (St.mk' [(3,iv 0)] []) (some v) kn):
  ∀s6:Int,J (q.g Tryz.prog 302 0 18) zQm (atI zQm 116) (St.mk' [(3,iv 0),(6,sl 1 zS a1),(7,iv (a1.length:Int)),(8,iv s6)] []) (zDH a1 s6) (Fl.go (fun r:Int=>some (iv r,[])) kn):=by
 refine kQ (fun g ih s6=>?_)
 unfold zDj
 refine J_d 232 [] [9] [(9,bv (decide (s6< (a1.length:Int))))] [] [] zB ?_
 refine zD 9 (fun h7=>?_) (fun h7=>?_)
 ·refine zA (fun x8 h9=>?_)
  refine J_g 3736 [] [(3,iv 0),(5,iv x8),(6,sl 1 zS a1),(7,iv (a1.length:Int)),(8,iv s6)] [] (zF 0 (tL (kk:=.i64) 318 3 1 zS (.tmp 6) (.tmp 8) h9) zB) ?_
  refine J_d 7474 [] [14] [(14,bv (x8 !=0))] [] [] zB ?_
  refine zD 14 (fun h10=>?_) (fun h10=>?_)
  ·refine J_g 29900 [] [(2,iv x8)] [] zB ?_
   exact zN rfl
  ·refine J_d 935 [] [5,8,14] [(8,iv (w64 (s6+1)))] [] [] zB ?_
   exact J_q (J_b (ih (w64 (s6+1)))) rfl
 ·exact xA (hk ()) rfl
theorem zEy.ok (a1:(List Int)):Ok Tryz.prog 302 [sl 1 zS a1] [] ((zEy a1).map fun r=>(iv r,[])):=by
 refine zG zQm Tryz.f302 0 18 (fun q=>?_)
 unfold zEy
 refine J_g 2 [] [(0,sl 1 zS a1)] [] zB ?_
 refine J_g 6 [] [(0,sl 1 zS a1),(3,iv 0)] [] zB ?_
 refine J_g 28 [] [(3,iv 0),(6,sl 1 zS a1),(7,iv (a1.length:Int)),(8,iv 0)] [] zB ?_
 refine uR (K0:=(fun r:Int=>some (iv r,[]))) (fun _=>rfl) (zDH.ok a1 q _ (fun v11=>J_j ?_) 0)
 refine J_g 30 [] [(2,iv 0)] [] zB ?_
 exact zN rfl
noncomputable def zSv:Code:=(Tryz.f257.body).getD .skip
theorem uN.ok (a1:Version) (a2:Version):Ok Tryz.prog 257 [.ag (Version.enc a1),.ag (Version.enc a2)] [] ((uN a1 a2).map fun r=>(iv r,[])):=by
 refine zG zSv Tryz.f257 0 22 (fun q=>?_)
 unfold uN
 refine J_g 2 [(0,0),(1,1)] [(2,pp 0),(3,pp 1)] [(0,.box (Version.enc a1)),(1,.box (Version.enc a2))] zB ?_
 refine zA (fun x3 h4=>?_)
 refine zA (fun x5 h6=>?_)
 refine zA (fun x7 h8=>?_)
 refine zA (fun x9 h10=>?_)
 refine J_g 6 [] [(4,iv x9)] [] (zF 4 (xU [(.tmp 6),(.tmp 8)] [2,2] (wJ.ok a1.A a2.A) h4) (zF 9 (xU [(.tmp 11),(.tmp 13)] [2,2] (wJ.ok a1.B a2.B) h6) (zF 14 (xU [(.tmp 16),(.tmp 18)] [2,2] (wJ.ok a1.C a2.C) h8) (zF 15 (zE6 318 3 1 2 zS [x3,x5,x7] [0,1,2] [(.tmp 9),(.tmp 14),(.tmp 19)] [iv x3,iv x5,iv x7]) (zF 16 (uJ («as»:=[rr 2 [x3,x5,x7]]) [(.tmp 20)] [318] true [(2,rE 1 zS [x3,x5,x7])] [] (.cons (zFe (.head _) (fun _=>rfl) rfl) (.nil)) (zEy.ok [x3,x5,x7]) h10 (.same rfl rfl) (hbor:=fun _=>⟨fhN,yJ⟩)) zB))))) ?_
 exact zN rfl
noncomputable def zRH:Code:=(Tryz.f190.body).getD .skip
theorem zAO.ok (a1:Term):Ok Tryz.prog 190 [.ag (Term.enc a1)] [] ((zAO a1).map fun r=>(iv r,[])):=by
 refine zG zRH Tryz.f190 0 35 (fun q=>?_)
 unfold zAO
 refine J_g 2 [(0,0)] [(1,pp 0)] [(0,.box (Term.enc a1))] zB ?_
 refine zA (fun x2 h3=>?_)
 refine J_g 12 [] [(1,pp 0),(3,iv x2)] [(0,.box (Term.enc a1))] (zF 2 (xU [(.tmp 6)] [9] (vB.ok a1.Name) h3) zB) ?_
 refine J_d 26 [] [9] [(9,bv (x2 !=0))] [] [] zB ?_
 refine zD 9 (fun h4=>?_) (fun h4=>?_)
 ·refine J_g 108 [] [(2,iv x2)] [] zB ?_
  exact zN rfl
 ·refine zA (fun x5 h6=>?_)
  refine J_g 28 [] [(1,pp 0),(4,iv x5)] [(0,.box (Term.enc a1))] (zF 2 (xU [(.tmp 12)] [99] (wI.ok a1.Low) h6) zB) ?_
  refine J_d 58 [] [15] [(15,bv (x5 !=0))] [] [] zB ?_
  refine zD 15 (fun h7=>?_) (fun h7=>?_)
  ·refine J_g 236 [] [(2,iv x5)] [] zB ?_
   exact zN rfl
  ·refine zA (fun x8 h9=>?_)
   refine xS (atI zRH 121) (fun v13:Bool=>St.mk' [(1,pp 0),(17,bv v13)] [(0,.box (Term.enc a1))]) (fun v13=>?_) (fun jv13=>?_)
   ·refine zD 17 (fun h14=>?_) (fun h14=>?_)
    ·refine J_g 484 [] [(2,iv 3)] [] zB ?_
     exact zN rfl
    ·refine zA (fun x15 h16=>?_)
     refine J_g 486 [] [(28,bv (decide (x15≥0)))] [] (zF 4 (xU [(.tmp 30),(.tmp 32)] [99,99] (uN.ok a1.Low a1.High) h16) zB) ?_
     refine zD 28 (fun h17=>?_) (fun h17=>?_)
     ·refine J_g 1948 [] [(2,iv 1)] [] zB ?_
      exact zN rfl
     ·refine J_g 62 [] [(2,iv 0)] [] zB ?_
      exact zN rfl
   ·refine wH (fun h10=>?_) (fun h10=>?_)
    ·refine zA (fun x11 h12=>?_)
     refine J_d 120 [] [4,15,17] [(17,bv (x11 !=0))] [] [] (zF 2 (xU [] [] (zEZ.ok) h9) (zF 3 (zN1 (b:=.neq) (r:=(a1.High.A==x8.A&&(a1.High.B==x8.B&&(a1.High.C==x8.C&&true)))) 99 99 (.tmp 19) (.tmp 20) [.int .i64 a1.High.A,.int .i64 a1.High.B,.int .i64 a1.High.C] [.int .i64 x8.A,.int .i64 x8.B,.int .i64 x8.C] (.inr ⟨rfl,rfl⟩)) (xW 4 [(21,bv (!(a1.High.A==x8.A&&(a1.High.B==x8.B&&(a1.High.C==x8.C&&true)))))] [] h10 (zBS 7 4 22 true (xU [(.tmp 24)] [99] (wI.ok a1.High) h12) zB)))) ?_
     exact xA (J_j (jv13 (x11 !=0))) rfl
    ·refine J_d 120 [] [4,15,17] [(17,bv false)] [] [] (zF 2 (xU [] [] (zEZ.ok) h9) (zF 3 (zN1 (b:=.neq) (r:=(a1.High.A==x8.A&&(a1.High.B==x8.B&&(a1.High.C==x8.C&&true)))) 99 99 (.tmp 19) (.tmp 20) [.int .i64 a1.High.A,.int .i64 a1.High.B,.int .i64 a1.High.C] [.int .i64 x8.A,.int .i64 x8.B,.int .i64 x8.C] (.inr ⟨rfl,rfl⟩)) (xW 4 [(21,bv (!(a1.High.A==x8.A&&(a1.High.B==x8.B&&(a1.High.C==x8.C&&true)))))] [] h10 zB))) ?_
     exact xA (J_j (jv13 false)) rfl
noncomputable def zQH:Code:=(Tryz.f191.body).getD .skip
theorem zA4.ok (a1:(List Term)) (q:Wd) (kn:Unit→Option (D×List Ent)) (hk:∀v:Unit,J (q.g Tryz.prog 191 0 18) zQH (atI zQH 7) (St.mk' [] []) (some v) kn):
  ∀s8:Int,J (q.g Tryz.prog 191 0 18) zQH (atI zQH 52) (St.mk' [(6,sl 7 Term.enc a1),(7,iv (a1.length:Int)),(8,iv s8)] []) (zA4 a1 s8) (Fl.go (fun r:Int=>some (iv r,[])) kn):=by
 refine kQ (fun g ih s8=>?_)
 unfold zAe
 refine J_d 104 [] [9] [(9,bv (decide (s8< (a1.length:Int))))] [] [] zB ?_
 refine zD 9 (fun h9=>?_) (fun h9=>?_)
 ·refine zA (fun x10 h11=>?_)
  refine J_d 1688 [(2,0)] [4,9] [(4,pp 0)] [0] [(0,.box (Term.enc x10))] (zF 0 (tL (kk:=.i64) 75 149 7 Term.enc (.tmp 6) (.tmp 8) h11) zB) ?_
  refine zA (fun x12 h13=>?_)
  refine J_g 3378 [] [(5,iv x12),(6,sl 7 Term.enc a1),(7,iv (a1.length:Int)),(8,iv s8)] [] (zF 1 (xU [(.tmp 12)] [149] (zAO.ok x10) h13) zB) ?_
  refine J_d 6758 [] [15] [(15,bv (x12 !=0))] [] [] zB ?_
  refine zD 15 (fun h14=>?_) (fun h14=>?_)
  ·refine J_g 27036 [] [(2,iv x12)] [] zB ?_
   exact zN rfl
  ·refine J_d 423 [] [5,8,15] [(8,iv (w64 (s8+1)))] [] [] zB ?_
   exact J_q (J_b (ih (w64 (s8+1)))) rfl
 ·exact xA (hk ()) rfl
theorem vC.ok (a1:(List Term)):Ok Tryz.prog 191 [sl 7 Term.enc a1] [] ((vC a1).map fun r=>(iv r,[])):=by
 refine zG zQH Tryz.f191 0 18 (fun q=>?_)
 unfold vC
 refine J_g 2 [] [(0,sl 7 Term.enc a1)] [] zB ?_
 refine J_g 12 [] [(6,sl 7 Term.enc a1),(7,iv (a1.length:Int)),(8,iv 0)] [] zB ?_
 refine uR (K0:=(fun r:Int=>some (iv r,[]))) (fun _=>rfl) (zA4.ok a1 q _ (fun v15=>J_j ?_) 0)
 refine J_g 14 [] [(2,iv 0)] [] zB ?_
 exact zN rfl
end Go.Told

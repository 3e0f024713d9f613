import Derived.Test.YtghacmkpcjdpjaaGreatDoorToldRunBatch
import Derived.Test.YtghacmkpcjdpjaaGreatDoorShelfRunBatch
import Derived.Test.YtghacmkpcjdpjaaGreatDoorProg
import Derived.Deep.LoopGhost
import Derived.Deep.RegionLaw
import Derived.Laws.Externs
import Derived.Laws.IdiomCopy
import Derived.Laws.NewBlocks
import Derived.Lib.AppendZeros
import Derived.Lib.AppendZerosOnto
import Derived.Lib.JoinLaws
import Derived.Lib.Overlaps
import Derived.Lib.SliceRun
import Derived.Lib.SlicesDelete
import Derived.Lib.Walk
import Derived.Shelf.Lays2
import Derived.Shelf.RegionOpenPlain
import Derived.Shelf.Spec.SlicesInsert
import Derived.Sort.WalkB12
import Derived.WalkKit
set_option linter.unusedVariables false
set_option maxRecDepth 4000
namespace Go.Told
open Go Go.Im Go.Proofs
noncomputable def c96:Code:=(Tryz.f96.body).getD .skip
theorem zBh.ok (a1:(List ByteArray)) (q:Wd) (kn:Int→Option (D×List Ent)) (hk:∀v:Int,J (q.g Tryz.prog 96 0 28) c96 (atI c96 31) (St.mk' [(1,iv v)] []) (some v) kn):
  ∀s8:(Int×Int),J (q.g Tryz.prog 96 0 28) c96 (atI c96 244) (St.mk' [(0,sl 1 eStr a1),(1,iv s8.1),(5,iv s8.2)] []) (zBh a1 s8) (Fl.go (fun r:Int=>some (iv r,[])) kn):=by
 refine jL (fun g ih s8=>?_)
 unfold zAB
 refine J_d 976 [] [15] [(15,bv (decide (s8.2< (a1.length:Int))))] [] [] zB ?_
 refine zF 15 (fun h9=>?_) (fun h9=>?_)
 ·refine zA (fun x10 h11=>?_)
  refine J_g 3912 [] [(0,sl 1 eStr a1),(1,iv (w64 (s8.1-(x10.size:Int)))),(5,iv s8.2)] [] (zD 3 (vR (kk:=.i64) 90 9 1 eStr (.tmp 19) (.tmp 20) h11) zB) ?_
  refine J_d 7826 [] [26] [(26,bv (decide ((w64 (s8.1-(x10.size:Int)))<0)))] [] [] zB ?_
  refine zF 26 (fun h12=>?_) (fun h12=>?_)
  ·refine J_g 31308 [] [(4,iv (-1))] [] zB ?_
   exact zN rfl
  ·refine J_d 979 [] [5,26] [(5,iv (w64 (s8.2+1)))] [] [] zB ?_
   exact J_q (J_b (ih (w64 (s8.1-(x10.size:Int)),w64 (s8.2+1)))) rfl
 ·exact xD (hk s8.1) rfl
theorem zAJ.ok (a1:(List ByteArray)) (a2:Int):Ok Tryz.prog 96 [sl 1 eStr a1,iv a2] [] ((zAJ a1 a2).map fun r=>(iv r,[])):=by
 refine zG c96 Tryz.f96 0 28 (fun q=>?_)
 unfold zAJ
 refine J_g 2 [] [(0,sl 1 eStr a1),(1,iv a2)] [] zB ?_
 refine J_g 6 [] [(0,sl 1 eStr a1),(1,iv (w64 (a2-(a1.length:Int))))] [] zB ?_
 refine J_d 28 [] [11] [(11,bv (decide ((w64 (a2-(a1.length:Int)))<0)))] [] [] zB ?_
 refine zF 11 (fun h3=>?_) (fun h3=>?_)
 ·refine J_g 116 [] [(4,iv (-1))] [] zB ?_
  exact zN rfl
 ·refine J_d 60 [] [5,11] [(5,iv 0)] [] [] zB ?_
  refine uZ (K0:=(fun r:Int=>some (iv r,[]))) (fun _=>rfl) (zBh.ok a1 q _ (fun v13=>J_j ?_) (w64 (a2-(a1.length:Int)),0))
  refine J_g 62 [] [(4,iv v13)] [] zB ?_
  exact zN rfl
noncomputable def c162:Code:=(Tryz.f162.body).getD .skip
theorem zDz.ok (a1:Term) (a2:Int):Ok Tryz.prog 162 [.ag (Term.enc a1),iv a2] [] ((zDz a1 a2).map fun r=>(iv r,[])):=by
 refine zG c162 Tryz.f162 0 13 (fun q=>?_)
 unfold zDz
 refine J_g 2 [(0,0)] [(1,iv a2),(2,pp 0)] [(0,.box (Term.enc a1))] zB ?_
 refine J_g 6 [] [(1,iv (w64 (a2-(a1.Name.size:Int))))] [] zB ?_
 refine J_d 28 [] [11] [(11,bv (decide ((w64 (a2-(a1.Name.size:Int)))<0)))] [] [] zB ?_
 refine zF 11 (fun h3=>?_) (fun h3=>?_)
 ·refine J_g 116 [] [(4,iv (-1))] [] zB ?_
  exact zN rfl
 ·refine J_g 30 [] [(4,iv (w64 (a2-(a1.Name.size:Int))))] [] zB ?_
  exact zN rfl
noncomputable def c98:Code:=(Tryz.f98.body).getD .skip
theorem zCE.ok (a1:(List Term)) (q:Wd) (kn:Int→Option (D×List Ent)) (hk:∀v:Int,J (q.g Tryz.prog 98 0 27) c98 (atI c98 31) (St.mk' [(1,iv v)] []) (some v) kn):
  ∀s10:(Int×Int),J (q.g Tryz.prog 98 0 27) c98 (atI c98 244) (St.mk' [(0,sl 7 Term.enc a1),(1,iv s10.1),(5,iv s10.2)] []) (zCE a1 s10) (Fl.go (fun r:Int=>some (iv r,[])) kn):=by
 refine jL (fun g ih s10=>?_)
 unfold zBG
 refine J_d 976 [] [15] [(15,bv (decide (s10.2< (a1.length:Int))))] [] [] zB ?_
 refine zF 15 (fun h11=>?_) (fun h11=>?_)
 ·refine zA (fun x12 h13=>?_)
  refine zA (fun x14 h15=>?_)
  refine J_g 3912 [] [(0,sl 7 Term.enc a1),(1,iv x14),(5,iv s10.2)] [] (zD 2 (vR (kk:=.i64) 92 201 7 Term.enc (.tmp 18) (.tmp 19) h13) (zD 5 (xR [(.tmp 21),(.tmp 22)] [201,3] (zDz.ok x12 s10.1) h15) zB)) ?_
  refine J_d 7826 [] [25] [(25,bv (decide (x14<0)))] [] [] zB ?_
  refine zF 25 (fun h16=>?_) (fun h16=>?_)
  ·refine J_g 31308 [] [(4,iv (-1))] [] zB ?_
   exact zN rfl
  ·refine J_d 979 [] [5,25] [(5,iv (w64 (s10.2+1)))] [] [] zB ?_
   exact J_q (J_b (ih (x14,w64 (s10.2+1)))) rfl
 ·exact xD (hk s10.1) rfl
theorem zA7.ok (a1:(List Term)) (a2:Int):Ok Tryz.prog 98 [sl 7 Term.enc a1,iv a2] [] ((zA7 a1 a2).map fun r=>(iv r,[])):=by
 refine zG c98 Tryz.f98 0 27 (fun q=>?_)
 unfold zA7
 refine J_g 2 [] [(0,sl 7 Term.enc a1),(1,iv a2)] [] zB ?_
 refine J_g 6 [] [(0,sl 7 Term.enc a1),(1,iv (w64 (a2-(a1.length:Int))))] [] zB ?_
 refine J_d 28 [] [11] [(11,bv (decide ((w64 (a2-(a1.length:Int)))<0)))] [] [] zB ?_
 refine zF 11 (fun h3=>?_) (fun h3=>?_)
 ·refine J_g 116 [] [(4,iv (-1))] [] zB ?_
  exact zN rfl
 ·refine J_d 60 [] [5,11] [(5,iv 0)] [] [] zB ?_
  refine uZ (K0:=(fun r:Int=>some (iv r,[]))) (fun _=>rfl) (zCE.ok a1 q _ (fun v17=>J_j ?_) (w64 (a2-(a1.length:Int)),0))
  refine J_g 62 [] [(4,iv v17)] [] zB ?_
  exact zN rfl
noncomputable def c97:Code:=(Tryz.f97.body).getD .skip
theorem zBC.ok (a1:(List (List Term))) (q:Wd) (kn:Int→Option (D×List Ent)) (hk:∀v:Int,J (q.g Tryz.prog 97 0 27) c97 (atI c97 31) (St.mk' [(1,iv v)] []) (some v) kn):
  ∀s10:(Int×Int),J (q.g Tryz.prog 97 0 27) c97 (atI c97 244) (St.mk' [(0,sl 1 (eSl false 7 Term.enc) a1),(1,iv s10.1),(5,iv s10.2)] []) (zBC a1 s10) (Fl.go (fun r:Int=>some (iv r,[])) kn):=by
 refine jL (fun g ih s10=>?_)
 unfold zBf
 refine J_d 976 [] [15] [(15,bv (decide (s10.2< (a1.length:Int))))] [] [] zB ?_
 refine zF 15 (fun h11=>?_) (fun h11=>?_)
 ·refine zA (fun x12 h13=>?_)
  refine zA (fun x14 h15=>?_)
  refine J_g 3912 [] [(0,sl 1 (eSl false 7 Term.enc) a1),(1,iv x14),(5,iv s10.2)] [] (zD 2 (vR (kk:=.i64) 91 92 1 (eSl false 7 Term.enc) (.tmp 18) (.tmp 19) h13) (zD 5 (xR [(.tmp 21),(.tmp 22)] [92,3] (zA7.ok x12 s10.1) h15) zB)) ?_
  refine J_d 7826 [] [25] [(25,bv (decide (x14<0)))] [] [] zB ?_
  refine zF 25 (fun h16=>?_) (fun h16=>?_)
  ·refine J_g 31308 [] [(4,iv (-1))] [] zB ?_
   exact zN rfl
  ·refine J_d 979 [] [5,25] [(5,iv (w64 (s10.2+1)))] [] [] zB ?_
   exact J_q (J_b (ih (x14,w64 (s10.2+1)))) rfl
 ·exact xD (hk s10.1) rfl
theorem zB6.ok (a1:(List (List Term))) (a2:Int):Ok Tryz.prog 97 [sl 1 (eSl false 7 Term.enc) a1,iv a2] [] ((zB6 a1 a2).map fun r=>(iv r,[])):=by
 refine zG c97 Tryz.f97 0 27 (fun q=>?_)
 unfold zB6
 refine J_g 2 [] [(0,sl 1 (eSl false 7 Term.enc) a1),(1,iv a2)] [] zB ?_
 refine J_g 6 [] [(0,sl 1 (eSl false 7 Term.enc) a1),(1,iv (w64 (a2-(a1.length:Int))))] [] zB ?_
 refine J_d 28 [] [11] [(11,bv (decide ((w64 (a2-(a1.length:Int)))<0)))] [] [] zB ?_
 refine zF 11 (fun h3=>?_) (fun h3=>?_)
 ·refine J_g 116 [] [(4,iv (-1))] [] zB ?_
  exact zN rfl
 ·refine J_d 60 [] [5,11] [(5,iv 0)] [] [] zB ?_
  refine uZ (K0:=(fun r:Int=>some (iv r,[]))) (fun _=>rfl) (zBC.ok a1 q _ (fun v17=>J_j ?_) (w64 (a2-(a1.length:Int)),0))
  refine J_g 62 [] [(4,iv v17)] [] zB ?_
  exact zN rfl
noncomputable def c48:Code:=(Tryz.f48.body).getD .skip
theorem zD7.ok (a1:Pack) (a2:Int):Ok Tryz.prog 48 [.ag (Pack.enc false a1),iv a2] [] ((zD7 a1 a2).map fun r=>(iv r,[])):=by
 refine zG c48 Tryz.f48 0 31 (fun q=>?_)
 unfold zD7
 refine J_g 2 [(0,0)] [(1,iv a2),(2,pp 0)] [(0,.box (Pack.enc false a1))] zB ?_
 refine J_g 6 [] [(1,iv (w64 (a2-(a1.Name.size:Int)))),(2,pp 0)] [(0,.box (Pack.enc false a1))] zB ?_
 refine J_d 28 [] [11] [(11,bv (decide ((w64 (a2-(a1.Name.size:Int)))<0)))] [] [] zB ?_
 refine zF 11 (fun h3=>?_) (fun h3=>?_)
 ·refine J_g 116 [] [(4,iv (-1))] [] zB ?_
  exact zN rfl
 ·refine zA (fun x4 h5=>?_)
  refine J_g 30 [] [(1,iv x4),(2,pp 0)] [(0,.box (Pack.enc false a1))] (zD 3 (xR [(.tmp 13),(.tmp 14)] [90,3] (zAJ.ok a1.Provides (w64 (a2-(a1.Name.size:Int)))) h5) zB) ?_
  refine J_d 124 [] [17] [(17,bv (decide (x4<0)))] [] [] zB ?_
  refine zF 17 (fun h6=>?_) (fun h6=>?_)
  ·refine J_g 500 [] [(4,iv (-1))] [] zB ?_
   exact zN rfl
  ·refine zA (fun x7 h8=>?_)
   refine J_g 126 [] [(1,iv x7),(2,pp 0)] [(0,.box (Pack.enc false a1))] (zD 3 (xR [(.tmp 19),(.tmp 20)] [91,3] (zB6.ok a1.Needs x4) h8) zB) ?_
   refine J_d 508 [] [23] [(23,bv (decide (x7<0)))] [] [] zB ?_
   refine zF 23 (fun h9=>?_) (fun h9=>?_)
   ·refine J_g 2036 [] [(4,iv (-1))] [] zB ?_
    exact zN rfl
   ·refine zA (fun x10 h11=>?_)
    refine J_g 510 [] [(1,iv x10)] [] (zD 3 (xR [(.tmp 25),(.tmp 26)] [92,3] (zA7.ok a1.Bars x7) h11) zB) ?_
    refine J_g 2044 [] [(1,iv x10),(29,bv (decide (x10<0)))] [] zB ?_
    refine zF 29 (fun h12=>?_) (fun h12=>?_)
    ·refine J_g 8180 [] [(4,iv (-1))] [] zB ?_
     exact zN rfl
    ·refine J_g 2046 [] [(4,iv x10)] [] zB ?_
     exact zN rfl
noncomputable def c14:Code:=(Tryz.f14.body).getD .skip
theorem zCc.ok (a1:(List Pack)) (q:Wd) (kn:Int→Option (D×List Ent)) (hk:∀v:Int,J (q.g Tryz.prog 14 0 27) c14 (atI c14 31) (St.mk' [(1,iv v)] []) (some v) kn):
  ∀s10:(Int×Int),J (q.g Tryz.prog 14 0 27) c14 (atI c14 244) (St.mk' [(0,sl 8 (Pack.enc false) a1),(1,iv s10.1),(5,iv s10.2)] []) (zCc a1 s10) (Fl.go (fun r:Int=>some (iv r,[])) kn):=by
 refine jL (fun g ih s10=>?_)
 unfold zBB
 refine J_d 976 [] [15] [(15,bv (decide (s10.2< (a1.length:Int))))] [] [] zB ?_
 refine zF 15 (fun h11=>?_) (fun h11=>?_)
 ·refine zA (fun x12 h13=>?_)
  refine zA (fun x14 h15=>?_)
  refine J_g 3912 [] [(0,sl 8 (Pack.enc false) a1),(1,iv x14),(5,iv s10.2)] [] (zD 2 (vR (kk:=.i64) 45 94 8 (Pack.enc false) (.tmp 18) (.tmp 19) h13) (zD 5 (xR [(.tmp 21),(.tmp 22)] [94,3] (zD7.ok x12 s10.1) h15) zB)) ?_
  refine J_d 7826 [] [25] [(25,bv (decide (x14<0)))] [] [] zB ?_
  refine zF 25 (fun h16=>?_) (fun h16=>?_)
  ·refine J_g 31308 [] [(4,iv (-1))] [] zB ?_
   exact zN rfl
  ·refine J_d 979 [] [5,25] [(5,iv (w64 (s10.2+1)))] [] [] zB ?_
   exact J_q (J_b (ih (x14,w64 (s10.2+1)))) rfl
 ·exact xD (hk s10.1) rfl
theorem zCi.ok (a1:(List Pack)) (a2:Int):Ok Tryz.prog 14 [sl 8 (Pack.enc false) a1,iv a2] [] ((zCi a1 a2).map fun r=>(iv r,[])):=by
 refine zG c14 Tryz.f14 0 27 (fun q=>?_)
 unfold zCi
 refine J_g 2 [] [(0,sl 8 (Pack.enc false) a1),(1,iv a2)] [] zB ?_
 refine J_g 6 [] [(0,sl 8 (Pack.enc false) a1),(1,iv (w64 (a2-(a1.length:Int))))] [] zB ?_
 refine J_d 28 [] [11] [(11,bv (decide ((w64 (a2-(a1.length:Int)))<0)))] [] [] zB ?_
 refine zF 11 (fun h3=>?_) (fun h3=>?_)
 ·refine J_g 116 [] [(4,iv (-1))] [] zB ?_
  exact zN rfl
 ·refine J_d 60 [] [5,11] [(5,iv 0)] [] [] zB ?_
  refine uZ (K0:=(fun r:Int=>some (iv r,[]))) (fun _=>rfl) (zCc.ok a1 q _ (fun v17=>J_j ?_) (w64 (a2-(a1.length:Int)),0))
  refine J_g 62 [] [(4,iv v17)] [] zB ?_
  exact zN rfl
noncomputable def zS5:Code:=(Tryz.f163.body).getD .skip
theorem zCg.ok (a1:(List Int)) (a2:Int):Ok Tryz.prog 163 [sl 1 eU8 a1,iv a2] [] ((zCg a1 a2).map fun r=>(iv r,[])):=by
 refine zG zS5 Tryz.f163 0 12 (fun q=>?_)
 unfold zCg
 refine J_g 2 [] [(0,sl 1 eU8 a1),(1,iv a2)] [] zB ?_
 refine J_g 6 [] [(1,iv (w64 (a2-(a1.length:Int))))] [] zB ?_
 refine J_d 28 [] [10] [(10,bv (decide ((w64 (a2-(a1.length:Int)))<0)))] [] [] zB ?_
 refine zF 10 (fun h3=>?_) (fun h3=>?_)
 ·refine J_g 116 [] [(4,iv (-1))] [] zB ?_
  exact zN rfl
 ·refine J_g 30 [] [(4,iv (w64 (a2-(a1.length:Int))))] [] zB ?_
  exact zN rfl
noncomputable def c99:Code:=(Tryz.f99.body).getD .skip
theorem zDv.ok (a1:File) (a2:Int):Ok Tryz.prog 99 [.ag (File.enc false a1),iv a2] [] ((zDv a1 a2).map fun r=>(iv r,[])):=by
 refine zG c99 Tryz.f99 0 19 (fun q=>?_)
 unfold zDv
 refine J_g 2 [(0,0)] [(1,iv a2),(2,pp 0)] [(0,.box (File.enc false a1))] zB ?_
 refine J_g 6 [] [(1,iv (w64 (a2-(a1.Path.size:Int)))),(2,pp 0)] [(0,.box (File.enc false a1))] zB ?_
 refine J_d 28 [] [11] [(11,bv (decide ((w64 (a2-(a1.Path.size:Int)))<0)))] [] [] zB ?_
 refine zF 11 (fun h3=>?_) (fun h3=>?_)
 ·refine J_g 116 [] [(4,iv (-1))] [] zB ?_
  exact zN rfl
 ·refine zA (fun x4 h5=>?_)
  refine J_g 30 [] [(1,iv x4)] [] (zD 3 (xR [(.tmp 13),(.tmp 14)] [22,3] (zCg.ok a1.Data (w64 (a2-(a1.Path.size:Int)))) h5) zB) ?_
  refine J_g 124 [] [(1,iv x4),(17,bv (decide (x4<0)))] [] zB ?_
  refine zF 17 (fun h6=>?_) (fun h6=>?_)
  ·refine J_g 500 [] [(4,iv (-1))] [] zB ?_
   exact zN rfl
  ·refine J_g 126 [] [(4,iv x4)] [] zB ?_
   exact zN rfl
noncomputable def c49:Code:=(Tryz.f49.body).getD .skip
theorem zCo.ok (a1:(List File)) (q:Wd) (kn:Int→Option (D×List Ent)) (hk:∀v:Int,J (q.g Tryz.prog 49 0 27) c49 (atI c49 31) (St.mk' [(1,iv v)] []) (some v) kn):
  ∀s10:(Int×Int),J (q.g Tryz.prog 49 0 27) c49 (atI c49 244) (St.mk' [(0,sl 2 (File.enc false) a1),(1,iv s10.1),(5,iv s10.2)] []) (zCo a1 s10) (Fl.go (fun r:Int=>some (iv r,[])) kn):=by
 refine jL (fun g ih s10=>?_)
 unfold zBQ
 refine J_d 976 [] [15] [(15,bv (decide (s10.2< (a1.length:Int))))] [] [] zB ?_
 refine zF 15 (fun h11=>?_) (fun h11=>?_)
 ·refine zA (fun x12 h13=>?_)
  refine zA (fun x14 h15=>?_)
  refine J_g 3912 [] [(0,sl 2 (File.enc false) a1),(1,iv x14),(5,iv s10.2)] [] (zD 2 (vR (kk:=.i64) 46 144 2 (File.enc false) (.tmp 18) (.tmp 19) h13) (zD 5 (xR [(.tmp 21),(.tmp 22)] [144,3] (zDv.ok x12 s10.1) h15) zB)) ?_
  refine J_d 7826 [] [25] [(25,bv (decide (x14<0)))] [] [] zB ?_
  refine zF 25 (fun h16=>?_) (fun h16=>?_)
  ·refine J_g 31308 [] [(4,iv (-1))] [] zB ?_
   exact zN rfl
  ·refine J_d 979 [] [5,25] [(5,iv (w64 (s10.2+1)))] [] [] zB ?_
   exact J_q (J_b (ih (x14,w64 (s10.2+1)))) rfl
 ·exact xD (hk s10.1) rfl
theorem zCt.ok (a1:(List File)) (a2:Int):Ok Tryz.prog 49 [sl 2 (File.enc false) a1,iv a2] [] ((zCt a1 a2).map fun r=>(iv r,[])):=by
 refine zG c49 Tryz.f49 0 27 (fun q=>?_)
 unfold zCt
 refine J_g 2 [] [(0,sl 2 (File.enc false) a1),(1,iv a2)] [] zB ?_
 refine J_g 6 [] [(0,sl 2 (File.enc false) a1),(1,iv (w64 (a2-(a1.length:Int))))] [] zB ?_
 refine J_d 28 [] [11] [(11,bv (decide ((w64 (a2-(a1.length:Int)))<0)))] [] [] zB ?_
 refine zF 11 (fun h3=>?_) (fun h3=>?_)
 ·refine J_g 116 [] [(4,iv (-1))] [] zB ?_
  exact zN rfl
 ·refine J_d 60 [] [5,11] [(5,iv 0)] [] [] zB ?_
  refine uZ (K0:=(fun r:Int=>some (iv r,[]))) (fun _=>rfl) (zCo.ok a1 q _ (fun v17=>J_j ?_) (w64 (a2-(a1.length:Int)),0))
  refine J_g 62 [] [(4,iv v17)] [] zB ?_
  exact zN rfl
noncomputable def c15:Code:=(Tryz.f15.body).getD .skip
theorem zDC.ok (a1:zC) (a2:Int):Ok Tryz.prog 15 [.ag (zC.enc false a1),iv a2] [] ((zDC a1 a2).map fun r=>(iv r,[])):=by
 refine zG c15 Tryz.f15 0 12 (fun q=>?_)
 unfold zDC
 refine J_g 2 [(0,0)] [(1,iv a2),(2,pp 0)] [(0,.box (zC.enc false a1))] zB ?_
 refine zA (fun x3 h4=>?_)
 refine J_g 6 [] [(1,iv x3)] [] (zD 3 (xR [(.tmp 6),(.tmp 7)] [46,3] (zCt.ok a1.Files a2) h4) zB) ?_
 refine J_g 28 [] [(1,iv x3),(10,bv (decide (x3<0)))] [] zB ?_
 refine zF 10 (fun h5=>?_) (fun h5=>?_)
 ·refine J_g 116 [] [(4,iv (-1))] [] zB ?_
  exact zN rfl
 ·refine J_g 30 [] [(4,iv x3)] [] zB ?_
  exact zN rfl
noncomputable def zRQ:Code:=(Tryz.f113.body).getD .skip
theorem vH.ok (a1:Version):Ok Tryz.prog 113 [.ag (Version.enc a1)] [] ((vH a1).map fun r=>(.ag (Version.enc r),[])):=by
 refine zG zRQ Tryz.f113 0 14 (fun q=>?_)
 unfold vH
 refine J_g 2 [(0,0),(1,1)] [(1,pp 0),(2,pp 1)] [(0,.box (Version.enc a1)),(1,.box [iv 0,iv 0,iv 0])] zB ?_
 refine J_g 6 [(0,2)] [(1,pp 0),(2,pp 1),(3,pp 2)] [(0,.box (Version.enc a1)),(1,.box [iv 0,iv 0,iv 0]),(2,.box [iv 0,iv 0,iv 0])] zB ?_
 refine J_g 14 [] [(1,pp 0),(2,pp 1),(3,pp 2)] [(0,.box (Version.enc a1)),(1,.box [iv 0,iv 0,iv 0]),(2,.box [iv a1.A,iv 0,iv 0])] zB ?_
 refine J_g 30 [] [(1,pp 0),(2,pp 1),(3,pp 2)] [(0,.box (Version.enc a1)),(1,.box [iv 0,iv 0,iv 0]),(2,.box [iv a1.A,iv a1.B,iv 0])] zB ?_
 refine J_g 62 [] [(2,pp 1),(3,pp 2)] [(1,.box [iv 0,iv 0,iv 0]),(2,.box (Version.enc a1))] zB ?_
 refine J_g 126 [] [(2,pp 1)] [(1,.box (Version.enc a1))] zB ?_
 exact zN rfl
noncomputable def zQt:Code:=(Tryz.f114.body).getD .skip
theorem zBd.ok (a1:(List ByteArray)) (q:Wd) (kn:(List ByteArray)→Option (D×List Ent)) (hk:∀v:(List ByteArray),J (q.g Tryz.prog 114 0 22) zQt (atI zQt 15) (St.mk' [(3,rr 0 v)] [(0,rE 1 eStr v)]) (some v) kn):
  ∀s9:((List ByteArray)×Int),J (q.g Tryz.prog 114 0 22) zQt (atI zQt 116) (St.mk' [(0,sl 1 eStr a1),(3,rr 0 s9.1),(4,iv s9.2)] [(0,rE 1 eStr s9.1)]) (zBd a1 s9) kn:=by
 refine jL (fun g ih s9=>?_)
 unfold zBZ
 refine J_d 464 [] [11] [(11,bv (decide (s9.2< (a1.length:Int))))] [] [] zB ?_
 refine zF 11 (fun h10=>?_) (fun h10=>?_)
 ·refine zA (fun x11 h12=>?_)
  refine zA (fun x13 h14=>?_)
  refine J_g 932 [] [(0,sl 1 eStr a1),(3,rr 0 s9.1),(4,iv s9.2)] [(0,rE 1 eStr (s9.1.set s9.2.toNat x11))] (zD 4 (vR (kk:=.i64) 90 9 1 eStr (.tmp 16) (.tmp 17) h12) (zD 6 (uN (kk:=.i64) 90 9 1 0 eStr (.tmp 14) (.tmp 15) h14) (zGO 7 (zHY (b:=x11) 9 1 0 0 eStr (sv x11) (.tmp 20) (.tmp 19) h14 rfl) zB))) ?_
  refine zFQ (σ':=St.mk' [(0,sl 1 eStr a1),(3,rr 0 (s9.1.set s9.2.toNat x11)),(4,iv s9.2)] [(0,rE 1 eStr (s9.1.set s9.2.toNat x11))]) (by simp only [rr,List.length_set]) ?_
  refine J_d 467 [] [4] [(4,iv (w64 (s9.2+1)))] [] [] zB ?_
  exact J_q (J_b (ih (s9.1.set s9.2.toNat x11,w64 (s9.2+1)))) rfl
 ·exact xD (hk s9.1) rfl
theorem zAO.ok (a1:(List ByteArray)):Ok Tryz.prog 114 [sl 1 eStr a1] [] ((zAO a1).map fun r=>(so 1 eStr r,[])):=by
 refine zG zQt Tryz.f114 0 22 (fun q=>?_)
 unfold zAO
 refine J_d 2 [] [] [] [] [] zB ?_
 refine zA (fun x2 h3=>?_)
 refine J_g 6 [] [(0,sl 1 eStr a1),(3,rr 0 x2)] [(0,rE 1 eStr x2)] (zD 2 (zQb 90 9 1 16 0 eStr ByteArray.empty (.tmp 6) h3 (.keep rfl (.nil))) zB) ?_
 refine J_d 28 [] [4] [(4,iv 0)] [] [] zB ?_
 refine zE3 (zBd.ok a1 q _ (fun v15=>J_j ?_) (x2,0))
 refine J_g 30 [] [(2,rr 0 v15)] [(0,rE 1 eStr v15)] zB ?_
 exact zEH (ds:=[rr 0 v15]) (ds':=[so 1 eStr v15]) (.cons (.cell (.move (.head _) (List.length_map _) (by decide) (.nil))) (.nil) (by decide)) rfl
noncomputable def zSm:Code:=(Tryz.f174.body).getD .skip
theorem zDD.ok (a1:Term):Ok Tryz.prog 174 [.ag (Term.enc a1)] [] ((zDD a1).map fun r=>(.ag (Term.enc r),[])):=by
 refine zG zSm Tryz.f174 0 16 (fun q=>?_)
 unfold zDD
 refine J_g 2 [(0,0),(1,1)] [(1,pp 0),(2,pp 1)] [(0,.box (Term.enc a1)),(1,.box [sv ByteArray.empty,iv 0,iv 0,iv 0,iv 0,iv 0,iv 0])] zB ?_
 refine J_g 6 [(0,2)] [(1,pp 0),(2,pp 1),(3,pp 2)] [(0,.box (Term.enc a1)),(1,.box [sv ByteArray.empty,iv 0,iv 0,iv 0,iv 0,iv 0,iv 0]),(2,.box [sv ByteArray.empty,iv 0,iv 0,iv 0,iv 0,iv 0,iv 0])] zB ?_
 refine J_d 14 [] [] [] [2] [(2,.box [sv a1.Name,iv 0,iv 0,iv 0,iv 0,iv 0,iv 0])] zB ?_
 refine zA (fun x2 h3=>?_)
 refine J_d 30 [] [] [] [2] [(2,.box [sv a1.Name,iv x2.A,iv x2.B,iv x2.C,iv 0,iv 0,iv 0])] (zD 2 (xR [(.tmp 8)] [89] (vH.ok a1.Low) h3) zB) ?_
 refine zA (fun x4 h5=>?_)
 refine J_g 62 [] [(2,pp 1),(3,pp 2)] [(1,.box [sv ByteArray.empty,iv 0,iv 0,iv 0,iv 0,iv 0,iv 0]),(2,.box [sv a1.Name,iv x2.A,iv x2.B,iv x2.C,iv x4.A,iv x4.B,iv x4.C])] (zD 2 (xR [(.tmp 12)] [89] (vH.ok a1.High) h5) zB) ?_
 refine J_g 126 [] [(2,pp 1)] [(1,.box [sv a1.Name,iv x2.A,iv x2.B,iv x2.C,iv x4.A,iv x4.B,iv x4.C])] zB ?_
 exact zN rfl
noncomputable def c116:Code:=(Tryz.f116.body).getD .skip
theorem zCJ.ok (a1:(List Term)) (q:Wd) (kn:(List Term)→Option (D×List Ent)) (hk:∀v:(List Term),J (q.g Tryz.prog 116 0 23) c116 (atI c116 15) (St.mk' [(3,rr 0 v)] [(0,rE 7 Term.enc v)]) (some v) kn):
  ∀s11:((List Term)×Int),J (q.g Tryz.prog 116 0 23) c116 (atI c116 116) (St.mk' [(0,sl 7 Term.enc a1),(3,rr 0 s11.1),(4,iv s11.2)] [(0,rE 7 Term.enc s11.1)]) (zCJ a1 s11) kn:=by
 refine jL (fun g ih s11=>?_)
 unfold zDu
 refine J_d 464 [] [11] [(11,bv (decide (s11.2< (a1.length:Int))))] [] [] zB ?_
 refine zF 11 (fun h12=>?_) (fun h12=>?_)
 ·refine zA (fun x13 h14=>?_)
  refine zA (fun x15 h16=>?_)
  refine zA (fun x17 h18=>?_)
  refine J_g 932 [] [(0,sl 7 Term.enc a1),(3,rr 0 s11.1),(4,iv s11.2)] [(0,rE 7 Term.enc (s11.1.set s11.2.toNat x15))] (zD 4 (vR (kk:=.i64) 92 201 7 Term.enc (.tmp 16) (.tmp 17) h14) (zD 6 (xR [(.tmp 19)] [201] (zDD.ok x13) h16) (zD 7 (uN (kk:=.i64) 24 41 7 0 Term.enc (.tmp 14) (.tmp 15) h18) (zGO 8 (zHY (b:=x15) 41 7 0 0 Term.enc (.ag (Term.enc x15)) (.tmp 21) (.tmp 20) h18 rfl) zB)))) ?_
  refine zFQ (σ':=St.mk' [(0,sl 7 Term.enc a1),(3,rr 0 (s11.1.set s11.2.toNat x15)),(4,iv s11.2)] [(0,rE 7 Term.enc (s11.1.set s11.2.toNat x15))]) (by simp only [rr,List.length_set]) ?_
  refine J_d 467 [] [4] [(4,iv (w64 (s11.2+1)))] [] [] zB ?_
  exact J_q (J_b (ih (s11.1.set s11.2.toNat x15,w64 (s11.2+1)))) rfl
 ·exact xD (hk s11.1) rfl
theorem zAv.ok (a1:(List Term)):Ok Tryz.prog 116 [sl 7 Term.enc a1] [] ((zAv a1).map fun r=>(so 7 Term.enc r,[])):=by
 refine zG c116 Tryz.f116 0 23 (fun q=>?_)
 unfold zAv
 refine J_d 2 [] [] [] [] [] zB ?_
 refine zA (fun x2 h3=>?_)
 refine J_g 6 [] [(0,sl 7 Term.enc a1),(3,rr 0 x2)] [(0,rE 7 Term.enc x2)] (zD 2 (zQb 24 41 7 64 0 Term.enc ({Name:=ByteArray.empty,Low:=({A:=0,B:=0,C:=0}:Version),High:=({A:=0,B:=0,C:=0}:Version)}:Term) (.tmp 6) h3 (.keep rfl (.keep rfl (.keep rfl (.keep rfl (.keep rfl (.keep rfl (.keep rfl (.nil))))))))) zB) ?_
 refine J_d 28 [] [4] [(4,iv 0)] [] [] zB ?_
 refine zE3 (zCJ.ok a1 q _ (fun v19=>J_j ?_) (x2,0))
 refine J_g 30 [] [(2,rr 0 v19)] [(0,rE 7 Term.enc v19)] zB ?_
 exact zEH (ds:=[rr 0 v19]) (ds':=[so 7 Term.enc v19]) (.cons (.cell (.move (.head _) (List.length_map _) (by decide) (.nil))) (.nil) (by decide)) rfl
noncomputable def zQx:Code:=(Tryz.f115.body).getD .skip
theorem zBM.ok (a1:(List (List Term))) (q:Wd) (kn:(List (List Term))→Option (D×List Ent)) (hk:∀v:(List (List Term)),J (q.g Tryz.prog 115 0 23) zQx (atI zQx 15) (St.mk' [(3,rr 0 v)] [(0,rE 1 (eSl true 7 Term.enc) v)]) (some v) kn):
  ∀s11:((List (List Term))×Int),J (q.g Tryz.prog 115 0 23) zQx (atI zQx 116) (St.mk' [(0,sl 1 (eSl false 7 Term.enc) a1),(3,rr 0 s11.1),(4,iv s11.2)] [(0,rE 1 (eSl true 7 Term.enc) s11.1)]) (zBM a1 s11) kn:=by
 refine jL (fun g ih s11=>?_)
 unfold zCN
 refine J_d 464 [] [11] [(11,bv (decide (s11.2< (a1.length:Int))))] [] [] zB ?_
 refine zF 11 (fun h12=>?_) (fun h12=>?_)
 ·refine zA (fun x13 h14=>?_)
  refine zA (fun x15 h16=>?_)
  refine zA (fun x17 h18=>?_)
  refine J_g 932 [] [(0,sl 1 (eSl false 7 Term.enc) a1),(3,rr 0 s11.1),(4,iv s11.2)] [(0,rE 1 (eSl true 7 Term.enc) (s11.1.set s11.2.toNat x15))] (zD 4 (vR (kk:=.i64) 91 92 1 (eSl false 7 Term.enc) (.tmp 16) (.tmp 17) h14) (zD 6 (vX («as»:=[sl 7 Term.enc x13]) [(.tmp 19)] [92] false [] [] (.cons (.same rfl) (.nil)) (zAv.ok x13) h16 (.own 1)) (zD 7 (uN (kk:=.i64) 100 24 1 0 (eSl true 7 Term.enc) (.tmp 14) (.tmp 15) h18) (zGO 8 (zOI (b:=x15) (es':=[so 7 Term.enc x15]) (ts:=[1]) 24 1 0 0 (eSl true 7 Term.enc) (rr 1 x15) (.tmp 21) (.tmp 20) [(1,rE 7 Term.enc x15)] h18 (.move (.head _) (List.length_map _) (by decide) (.nil)) rfl) zB)))) ?_
  refine zFQ (σ':=St.mk' [(0,sl 1 (eSl false 7 Term.enc) a1),(3,rr 0 (s11.1.set s11.2.toNat x15)),(4,iv s11.2)] [(0,rE 1 (eSl true 7 Term.enc) (s11.1.set s11.2.toNat x15))]) (by simp only [rr,List.length_set]) ?_
  refine J_d 467 [] [4] [(4,iv (w64 (s11.2+1)))] [] [] zB ?_
  exact J_q (J_b (ih (s11.1.set s11.2.toNat x15,w64 (s11.2+1)))) rfl
 ·exact xD (hk s11.1) rfl
theorem zBy.ok (a1:(List (List Term))):Ok Tryz.prog 115 [sl 1 (eSl false 7 Term.enc) a1] [] ((zBy a1).map fun r=>(so 1 (eSl true 7 Term.enc) r,[])):=by
 refine zG zQx Tryz.f115 0 23 (fun q=>?_)
 unfold zBy
 refine J_d 2 [] [] [] [] [] zB ?_
 refine zA (fun x2 h3=>?_)
 refine J_g 6 [] [(0,sl 1 (eSl false 7 Term.enc) a1),(3,rr 0 x2)] [(0,rE 1 (eSl true 7 Term.enc) x2)] (zD 2 (zQb 100 24 1 24 0 (eSl true 7 Term.enc) ([]:List Term) (.tmp 6) h3 (.nilsl true 7 (.nil))) zB) ?_
 refine J_d 28 [] [4] [(4,iv 0)] [] [] zB ?_
 refine zE3 (zBM.ok a1 q _ (fun v19=>J_j ?_) (x2,0))
 refine J_g 30 [] [(2,rr 0 v19)] [(0,rE 1 (eSl true 7 Term.enc) v19)] zB ?_
 exact zEH (ds:=[rr 0 v19]) (ds':=[so 1 (eSl true 7 Term.enc) v19]) (.cons (.cell (.move (.head _) (List.length_map _) (by decide) (.nil))) (.nil) (by decide)) rfl
noncomputable def c54:Code:=(Tryz.f54.body).getD .skip
theorem zDB.ok (a1:Pack):Ok Tryz.prog 54 [.ag (Pack.enc false a1)] [] ((zDB a1).map fun r=>(.ag [sv r.Name,iv r.Version.A,iv r.Version.B,iv r.Version.C,iv r.Size,so 1 eStr r.Provides,so 1 (eSl true 7 Term.enc) r.Needs,so 7 Term.enc r.Bars],[])):=by
 refine zG c54 Tryz.f54 0 27 (fun q=>?_)
 unfold zDB
 refine J_g 2 [(0,0),(1,1)] [(1,pp 0),(2,pp 1)] [(0,.box (Pack.enc false a1)),(1,.box [sv ByteArray.empty,iv 0,iv 0,iv 0,iv 0,nv,nv,nv])] zB ?_
 refine J_g 6 [(0,2)] [(1,pp 0),(2,pp 1),(3,pp 2)] [(0,.box (Pack.enc false a1)),(1,.box [sv ByteArray.empty,iv 0,iv 0,iv 0,iv 0,nv,nv,nv]),(2,.box [sv ByteArray.empty,iv 0,iv 0,iv 0,iv 0,nv,nv,nv])] zB ?_
 refine J_d 14 [] [] [] [2] [(2,.box [sv a1.Name,iv 0,iv 0,iv 0,iv 0,nv,nv,nv])] zB ?_
 refine zA (fun x2 h3=>?_)
 refine J_g 30 [] [(1,pp 0),(2,pp 1),(3,pp 2)] [(0,.box (Pack.enc false a1)),(1,.box [sv ByteArray.empty,iv 0,iv 0,iv 0,iv 0,nv,nv,nv]),(2,.box [sv a1.Name,iv x2.A,iv x2.B,iv x2.C,iv 0,nv,nv,nv])] (zD 2 (xR [(.tmp 8)] [89] (vH.ok a1.Version) h3) zB) ?_
 refine J_d 62 [] [] [] [2] [(2,.box [sv a1.Name,iv x2.A,iv x2.B,iv x2.C,iv a1.Size,nv,nv,nv])] zB ?_
 refine zA (fun x4 h5=>?_)
 refine J_d 126 [] [] [] [2,3] [(2,.box [sv a1.Name,iv x2.A,iv x2.B,iv x2.C,iv a1.Size,rr 3 x4,nv,nv]),(3,rE 1 eStr x4)] (zD 2 (vX («as»:=[sl 1 eStr a1.Provides]) [(.tmp 15)] [90] false [] [] (.cons (.same rfl) (.nil)) (zAO.ok a1.Provides) h5 (.own 3)) zB) ?_
 refine zA (fun x6 h7=>?_)
 refine J_d 254 [] [] [] [2,4] [(2,.box [sv a1.Name,iv x2.A,iv x2.B,iv x2.C,iv a1.Size,rr 3 x4,rr 4 x6,nv]),(4,rE 1 (eSl true 7 Term.enc) x6)] (zD 2 (vX («as»:=[sl 1 (eSl false 7 Term.enc) a1.Needs]) [(.tmp 19)] [91] false [] [] (.cons (.same rfl) (.nil)) (zBy.ok a1.Needs) h7 (.own 4)) zB) ?_
 refine zA (fun x8 h9=>?_)
 refine J_g 510 [] [(2,pp 1),(3,pp 2)] [(1,.box [sv ByteArray.empty,iv 0,iv 0,iv 0,iv 0,nv,nv,nv]),(2,.box [sv a1.Name,iv x2.A,iv x2.B,iv x2.C,iv a1.Size,rr 3 x4,rr 4 x6,rr 5 x8]),(3,rE 1 eStr x4),(4,rE 1 (eSl true 7 Term.enc) x6),(5,rE 7 Term.enc x8)] (zD 2 (vX («as»:=[sl 7 Term.enc a1.Bars]) [(.tmp 23)] [92] false [] [] (.cons (.same rfl) (.nil)) (zAv.ok a1.Bars) h9 (.own 5)) zB) ?_
 refine J_g 1022 [] [(2,pp 1)] [(1,.box [sv a1.Name,iv x2.A,iv x2.B,iv x2.C,iv a1.Size,rr 3 x4,rr 4 x6,rr 5 x8]),(3,rE 1 eStr x4),(4,rE 1 (eSl true 7 Term.enc) x6),(5,rE 7 Term.enc x8)] zB ?_
 exact zEH (ds:=[.ag [sv a1.Name,iv x2.A,iv x2.B,iv x2.C,iv a1.Size,rr 3 x4,rr 4 x6,rr 5 x8]]) (ds':=[.ag [sv a1.Name,iv x2.A,iv x2.B,iv x2.C,iv a1.Size,so 1 eStr x4,so 1 (eSl true 7 Term.enc) x6,so 7 Term.enc x8]]) (.cons (.ag (.keep rfl (.keep rfl (.keep rfl (.keep rfl (.keep rfl (.move (.tail _ (.head _)) (List.length_map _) (by decide) (.move (.tail _ (.tail _ (.head _))) (List.length_map _) (by decide) (.move (.tail _ (.tail _ (.tail _ (.head _)))) (List.length_map _) (by decide) (.nil)))))))))) (.nil) (by decide)) rfl
noncomputable def c17:Code:=(Tryz.f17.body).getD .skip
theorem zCl.ok (a1:(List Pack)) (q:Wd) (kn:(List Pack)→Option (D×List Ent)) (hk:∀v:(List Pack),J (q.g Tryz.prog 17 0 23) c17 (atI c17 15) (St.mk' [(3,rr 0 v)] [(0,rE 8 (Pack.enc true) v)]) (some v) kn):
  ∀s11:((List Pack)×Int),J (q.g Tryz.prog 17 0 23) c17 (atI c17 116) (St.mk' [(0,sl 8 (Pack.enc false) a1),(3,rr 0 s11.1),(4,iv s11.2)] [(0,rE 8 (Pack.enc true) s11.1)]) (zCl a1 s11) kn:=by
 refine jL (fun g ih s11=>?_)
 unfold zDp
 refine J_d 464 [] [11] [(11,bv (decide (s11.2< (a1.length:Int))))] [] [] zB ?_
 refine zF 11 (fun h12=>?_) (fun h12=>?_)
 ·refine zA (fun x13 h14=>?_)
  refine zA (fun x15 h16=>?_)
  refine zA (fun x17 h18=>?_)
  refine J_g 932 [] [(0,sl 8 (Pack.enc false) a1),(3,rr 0 s11.1),(4,iv s11.2)] [(0,rE 8 (Pack.enc true) (s11.1.set s11.2.toNat x15))] (zD 4 (vR (kk:=.i64) 45 94 8 (Pack.enc false) (.tmp 16) (.tmp 17) h14) (zD 6 (vX («as»:=[.ag (Pack.enc false x13)]) [(.tmp 19)] [94] false [] [] (.cons (.same rfl) (.nil)) (zDB.ok x13) h16 (.ag (.cons (.same rfl rfl) (.cons (.same rfl rfl) (.cons (.same rfl rfl) (.cons (.same rfl rfl) (.cons (.same rfl rfl) (.cons (.own 1) (.cons (.own 2) (.cons (.own 3) (.nil))))))))))) (zD 7 (uN (kk:=.i64) 53 102 8 0 (Pack.enc true) (.tmp 14) (.tmp 15) h18) (zGO 8 (zOI (b:=x15) (es':=[sv x15.Name,iv x15.Version.A,iv x15.Version.B,iv x15.Version.C,iv x15.Size,so 1 eStr x15.Provides,so 1 (eSl true 7 Term.enc) x15.Needs,so 7 Term.enc x15.Bars]) (ts:=[1,2,3]) 102 8 0 0 (Pack.enc true) (.ag [sv x15.Name,iv x15.Version.A,iv x15.Version.B,iv x15.Version.C,iv x15.Size,rr 1 x15.Provides,rr 2 x15.Needs,rr 3 x15.Bars]) (.tmp 21) (.tmp 20) [(1,rE 1 eStr x15.Provides),(2,rE 1 (eSl true 7 Term.enc) x15.Needs),(3,rE 7 Term.enc x15.Bars)] h18 (.keep rfl (.keep rfl (.keep rfl (.keep rfl (.keep rfl (.move (.head _) (List.length_map _) (by decide) (.move (.tail _ (.head _)) (List.length_map _) (by decide) (.move (.tail _ (.tail _ (.head _))) (List.length_map _) (by decide) (.nil))))))))) rfl) zB)))) ?_
  refine zFQ (σ':=St.mk' [(0,sl 8 (Pack.enc false) a1),(3,rr 0 (s11.1.set s11.2.toNat x15)),(4,iv s11.2)] [(0,rE 8 (Pack.enc true) (s11.1.set s11.2.toNat x15))]) (by simp only [rr,List.length_set]) ?_
  refine J_d 467 [] [4] [(4,iv (w64 (s11.2+1)))] [] [] zB ?_
  exact J_q (J_b (ih (s11.1.set s11.2.toNat x15,w64 (s11.2+1)))) rfl
 ·exact xD (hk s11.1) rfl
theorem vW.ok (a1:(List Pack)):Ok Tryz.prog 17 [sl 8 (Pack.enc false) a1] [] ((vW a1).map fun r=>(so 8 (Pack.enc true) r,[])):=by
 refine zG c17 Tryz.f17 0 23 (fun q=>?_)
 unfold vW
 refine J_d 2 [] [] [] [] [] zB ?_
 refine zA (fun x2 h3=>?_)
 refine J_g 6 [] [(0,sl 8 (Pack.enc false) a1),(3,rr 0 x2)] [(0,rE 8 (Pack.enc true) x2)] (zD 2 (zQb 53 102 8 120 0 (Pack.enc true) ({Name:=ByteArray.empty,Version:=({A:=0,B:=0,C:=0}:Version),Size:=0,Provides:=([]:List ByteArray),Needs:=([]:List (List Term)),Bars:=([]:List Term)}:Pack) (.tmp 6) h3 (.keep rfl (.keep rfl (.keep rfl (.keep rfl (.keep rfl (.nilsl true 1 (.nilsl true 1 (.nilsl true 7 (.nil)))))))))) zB) ?_
 refine J_d 28 [] [4] [(4,iv 0)] [] [] zB ?_
 refine zE3 (zCl.ok a1 q _ (fun v19=>J_j ?_) (x2,0))
 refine J_g 30 [] [(2,rr 0 v19)] [(0,rE 8 (Pack.enc true) v19)] zB ?_
 exact zEH (ds:=[rr 0 v19]) (ds':=[so 8 (Pack.enc true) v19]) (.cons (.cell (.move (.head _) (List.length_map _) (by decide) (.nil))) (.nil) (by decide)) rfl
noncomputable def c175:Code:=(Tryz.f175.body).getD .skip
theorem zCK.ok (a1:(List Int)) (q:Wd) (kn:(List Int)→Option (D×List Ent)) (hk:∀v:(List Int),J (q.g Tryz.prog 175 0 22) c175 (atI c175 15) (St.mk' [(3,rr 0 v)] [(0,rE 1 eU8 v)]) (some v) kn):
  ∀s9:((List Int)×Int),J (q.g Tryz.prog 175 0 22) c175 (atI c175 116) (St.mk' [(0,sl 1 eU8 a1),(3,rr 0 s9.1),(4,iv s9.2)] [(0,rE 1 eU8 s9.1)]) (zCK a1 s9) kn:=by
 refine jL (fun g ih s9=>?_)
 unfold zDt
 refine J_d 464 [] [11] [(11,bv (decide (s9.2< (a1.length:Int))))] [] [] zB ?_
 refine zF 11 (fun h10=>?_) (fun h10=>?_)
 ·refine zA (fun x11 h12=>?_)
  refine zA (fun x13 h14=>?_)
  refine J_g 932 [] [(0,sl 1 eU8 a1),(3,rr 0 s9.1),(4,iv s9.2)] [(0,rE 1 eU8 (s9.1.set s9.2.toNat x11))] (zD 4 (vR (kk:=.i64) 22 5 1 eU8 (.tmp 16) (.tmp 17) h12) (zD 6 (uN (kk:=.i64) 22 5 1 0 eU8 (.tmp 14) (.tmp 15) h14) (zGO 7 (zHY (b:=x11) 5 1 0 0 eU8 (uv x11) (.tmp 20) (.tmp 19) h14 rfl) zB))) ?_
  refine zFQ (σ':=St.mk' [(0,sl 1 eU8 a1),(3,rr 0 (s9.1.set s9.2.toNat x11)),(4,iv s9.2)] [(0,rE 1 eU8 (s9.1.set s9.2.toNat x11))]) (by simp only [rr,List.length_set]) ?_
  refine J_d 467 [] [4] [(4,iv (w64 (s9.2+1)))] [] [] zB ?_
  exact J_q (J_b (ih (s9.1.set s9.2.toNat x11,w64 (s9.2+1)))) rfl
 ·exact xD (hk s9.1) rfl
theorem zCy.ok (a1:(List Int)):Ok Tryz.prog 175 [sl 1 eU8 a1] [] ((zCy a1).map fun r=>(so 1 eU8 r,[])):=by
 refine zG c175 Tryz.f175 0 22 (fun q=>?_)
 unfold zCy
 refine J_g 2 [] [(0,sl 1 eU8 a1)] [] zB ?_
 refine zA (fun x2 h3=>?_)
 refine J_g 6 [] [(0,sl 1 eU8 a1),(3,rr 0 x2)] [(0,rE 1 eU8 x2)] (zD 2 (zQb 22 5 1 1 0 eU8 0 (.tmp 6) h3 (.keep rfl (.nil))) zB) ?_
 refine J_d 28 [] [4] [(4,iv 0)] [] [] zB ?_
 refine zE3 (zCK.ok a1 q _ (fun v15=>J_j ?_) (x2,0))
 refine J_g 30 [] [(2,rr 0 v15)] [(0,rE 1 eU8 v15)] zB ?_
 exact zEH (ds:=[rr 0 v15]) (ds':=[so 1 eU8 v15]) (.cons (.cell (.move (.head _) (List.length_map _) (by decide) (.nil))) (.nil) (by decide)) rfl
noncomputable def c117:Code:=(Tryz.f117.body).getD .skip
theorem zD6.ok (a1:File):Ok Tryz.prog 117 [.ag (File.enc false a1)] [] ((zD6 a1).map fun r=>(.ag [sv r.Path,so 1 eU8 r.Data],[])):=by
 refine zG c117 Tryz.f117 0 12 (fun q=>?_)
 unfold zD6
 refine J_g 2 [(0,0),(1,1)] [(1,pp 0),(2,pp 1)] [(0,.box (File.enc false a1)),(1,.box [sv ByteArray.empty,nv])] zB ?_
 refine J_g 6 [(0,2)] [(1,pp 0),(2,pp 1),(3,pp 2)] [(0,.box (File.enc false a1)),(1,.box [sv ByteArray.empty,nv]),(2,.box [sv ByteArray.empty,nv])] zB ?_
 refine J_d 14 [] [] [] [2] [(2,.box [sv a1.Path,nv])] zB ?_
 refine zA (fun x2 h3=>?_)
 refine J_g 30 [] [(2,pp 1),(3,pp 2)] [(1,.box [sv ByteArray.empty,nv]),(2,.box [sv a1.Path,rr 3 x2]),(3,rE 1 eU8 x2)] (zD 2 (vX («as»:=[sl 1 eU8 a1.Data]) [(.tmp 8)] [22] false [] [] (.cons (.same rfl) (.nil)) (zCy.ok a1.Data) h3 (.own 3)) zB) ?_
 refine J_g 62 [] [(2,pp 1)] [(1,.box [sv a1.Path,rr 3 x2]),(3,rE 1 eU8 x2)] zB ?_
 exact zEH (ds:=[.ag [sv a1.Path,rr 3 x2]]) (ds':=[.ag [sv a1.Path,so 1 eU8 x2]]) (.cons (.ag (.keep rfl (.move (.tail _ (.head _)) (List.length_map _) (by decide) (.nil)))) (.nil) (by decide)) rfl
noncomputable def c55:Code:=(Tryz.f55.body).getD .skip
theorem zC7.ok (a1:(List File)) (q:Wd) (kn:(List File)→Option (D×List Ent)) (hk:∀v:(List File),J (q.g Tryz.prog 55 0 23) c55 (atI c55 15) (St.mk' [(3,rr 0 v)] [(0,rE 2 (File.enc true) v)]) (some v) kn):
  ∀s11:((List File)×Int),J (q.g Tryz.prog 55 0 23) c55 (atI c55 116) (St.mk' [(0,sl 2 (File.enc false) a1),(3,rr 0 s11.1),(4,iv s11.2)] [(0,rE 2 (File.enc true) s11.1)]) (zC7 a1 s11) kn:=by
 refine jL (fun g ih s11=>?_)
 unfold zDs
 refine J_d 464 [] [11] [(11,bv (decide (s11.2< (a1.length:Int))))] [] [] zB ?_
 refine zF 11 (fun h12=>?_) (fun h12=>?_)
 ·refine zA (fun x13 h14=>?_)
  refine zA (fun x15 h16=>?_)
  refine zA (fun x17 h18=>?_)
  refine J_g 932 [] [(0,sl 2 (File.enc false) a1),(3,rr 0 s11.1),(4,iv s11.2)] [(0,rE 2 (File.enc true) (s11.1.set s11.2.toNat x15))] (zD 4 (vR (kk:=.i64) 46 144 2 (File.enc false) (.tmp 16) (.tmp 17) h14) (zD 6 (vX («as»:=[.ag (File.enc false x13)]) [(.tmp 19)] [144] false [] [] (.cons (.same rfl) (.nil)) (zD6.ok x13) h16 (.ag (.cons (.same rfl rfl) (.cons (.own 1) (.nil))))) (zD 7 (uN (kk:=.i64) 27 124 2 0 (File.enc true) (.tmp 14) (.tmp 15) h18) (zGO 8 (zOI (b:=x15) (es':=[sv x15.Path,so 1 eU8 x15.Data]) (ts:=[1]) 124 2 0 0 (File.enc true) (.ag [sv x15.Path,rr 1 x15.Data]) (.tmp 21) (.tmp 20) [(1,rE 1 eU8 x15.Data)] h18 (.keep rfl (.move (.head _) (List.length_map _) (by decide) (.nil))) rfl) zB)))) ?_
  refine zFQ (σ':=St.mk' [(0,sl 2 (File.enc false) a1),(3,rr 0 (s11.1.set s11.2.toNat x15)),(4,iv s11.2)] [(0,rE 2 (File.enc true) (s11.1.set s11.2.toNat x15))]) (by simp only [rr,List.length_set]) ?_
  refine J_d 467 [] [4] [(4,iv (w64 (s11.2+1)))] [] [] zB ?_
  exact J_q (J_b (ih (s11.1.set s11.2.toNat x15,w64 (s11.2+1)))) rfl
 ·exact xD (hk s11.1) rfl
theorem zCf.ok (a1:(List File)):Ok Tryz.prog 55 [sl 2 (File.enc false) a1] [] ((zCf a1).map fun r=>(so 2 (File.enc true) r,[])):=by
 refine zG c55 Tryz.f55 0 23 (fun q=>?_)
 unfold zCf
 refine J_d 2 [] [] [] [] [] zB ?_
 refine zA (fun x2 h3=>?_)
 refine J_g 6 [] [(0,sl 2 (File.enc false) a1),(3,rr 0 x2)] [(0,rE 2 (File.enc true) x2)] (zD 2 (zQb 27 124 2 40 0 (File.enc true) ({Path:=ByteArray.empty,Data:=([]:List Int)}:File) (.tmp 6) h3 (.keep rfl (.nilsl true 1 (.nil)))) zB) ?_
 refine J_d 28 [] [4] [(4,iv 0)] [] [] zB ?_
 refine zE3 (zC7.ok a1 q _ (fun v19=>J_j ?_) (x2,0))
 refine J_g 30 [] [(2,rr 0 v19)] [(0,rE 2 (File.enc true) v19)] zB ?_
 exact zEH (ds:=[rr 0 v19]) (ds':=[so 2 (File.enc true) v19]) (.cons (.cell (.move (.head _) (List.length_map _) (by decide) (.nil))) (.nil) (by decide)) rfl
noncomputable def c18:Code:=(Tryz.f18.body).getD .skip
theorem uS.ok (a1:zC):Ok Tryz.prog 18 [.ag (zC.enc false a1)] [] ((uS a1).map fun r=>(.ag (zC.enc true r),[])):=by
 refine zG c18 Tryz.f18 0 21 (fun q=>?_)
 unfold uS
 refine J_g 2 [(0,0),(1,1)] [(1,pp 0),(2,pp 1)] [(0,.box (zC.enc false a1)),(1,.box [nv,iv 0,iv 0,iv 0,bv false])] zB ?_
 refine J_d 6 [(0,2)] [3] [(3,pp 2)] [2] [(2,.box [nv,iv 0,iv 0,iv 0,bv false])] zB ?_
 refine zA (fun x2 h3=>?_)
 refine J_g 14 [] [(1,pp 0),(2,pp 1),(3,pp 2)] [(0,.box (zC.enc false a1)),(1,.box [nv,iv 0,iv 0,iv 0,bv false]),(2,.box [rr 3 x2,iv 0,iv 0,iv 0,bv false]),(3,rE 2 (File.enc true) x2)] (zD 2 (vX («as»:=[sl 2 (File.enc false) a1.Files]) [(.tmp 5)] [46] false [] [] (.cons (.same rfl) (.nil)) (zCf.ok a1.Files) h3 (.own 3)) zB) ?_
 refine J_g 30 [] [(1,pp 0),(2,pp 1),(3,pp 2)] [(0,.box (zC.enc false a1)),(1,.box [nv,iv 0,iv 0,iv 0,bv false]),(2,.box [rr 3 x2,iv a1.Budget,iv 0,iv 0,bv false]),(3,rE 2 (File.enc true) x2)] zB ?_
 refine J_g 62 [] [(1,pp 0),(2,pp 1),(3,pp 2)] [(0,.box (zC.enc false a1)),(1,.box [nv,iv 0,iv 0,iv 0,bv false]),(2,.box [rr 3 x2,iv a1.Budget,iv a1.Writes,iv 0,bv false]),(3,rE 2 (File.enc true) x2)] zB ?_
 refine J_g 126 [] [(1,pp 0),(2,pp 1),(3,pp 2)] [(0,.box (zC.enc false a1)),(1,.box [nv,iv 0,iv 0,iv 0,bv false]),(2,.box [rr 3 x2,iv a1.Budget,iv a1.Writes,iv a1.Stop,bv false]),(3,rE 2 (File.enc true) x2)] zB ?_
 refine J_g 254 [] [(2,pp 1),(3,pp 2)] [(1,.box [nv,iv 0,iv 0,iv 0,bv false]),(2,.box [rr 3 x2,iv a1.Budget,iv a1.Writes,iv a1.Stop,bv a1.Down]),(3,rE 2 (File.enc true) x2)] zB ?_
 refine J_g 510 [] [(2,pp 1)] [(1,.box [rr 3 x2,iv a1.Budget,iv a1.Writes,iv a1.Stop,bv a1.Down]),(3,rE 2 (File.enc true) x2)] zB ?_
 exact zEH (ds:=[.ag [rr 3 x2,iv a1.Budget,iv a1.Writes,iv a1.Stop,bv a1.Down]]) (ds':=[.ag [so 2 (File.enc true) x2,iv a1.Budget,iv a1.Writes,iv a1.Stop,bv a1.Down]]) (.cons (.ag (.move (.tail _ (.head _)) (List.length_map _) (by decide) (.keep rfl (.keep rfl (.keep rfl (.keep rfl (.nil))))))) (.nil) (by decide)) rfl
noncomputable def c19:Code:=(Tryz.f19.body).getD .skip
theorem zBA.ok (a1:(List Int)) (q:Wd) (kn:(List Int)→Option (D×List Ent)) (hk:∀v:(List Int),J (q.g Tryz.prog 19 0 22) c19 (atI c19 15) (St.mk' [(3,rr 0 v)] [(0,rE 1 zK v)]) (some v) kn):
  ∀s9:((List Int)×Int),J (q.g Tryz.prog 19 0 22) c19 (atI c19 116) (St.mk' [(0,sl 1 zK a1),(3,rr 0 s9.1),(4,iv s9.2)] [(0,rE 1 zK s9.1)]) (zBA a1 s9) kn:=by
 refine jL (fun g ih s9=>?_)
 unfold zCS
 refine J_d 464 [] [11] [(11,bv (decide (s9.2< (a1.length:Int))))] [] [] zB ?_
 refine zF 11 (fun h10=>?_) (fun h10=>?_)
 ·refine zA (fun x11 h12=>?_)
  refine zA (fun x13 h14=>?_)
  refine J_g 932 [] [(0,sl 1 zK a1),(3,rr 0 s9.1),(4,iv s9.2)] [(0,rE 1 zK (s9.1.set s9.2.toNat x11))] (zD 4 (vR (kk:=.i64) 49 2 1 zK (.tmp 16) (.tmp 17) h12) (zD 6 (uN (kk:=.i64) 49 2 1 0 zK (.tmp 14) (.tmp 15) h14) (zGO 7 (zHY (b:=x11) 2 1 0 0 zK (iv x11) (.tmp 20) (.tmp 19) h14 rfl) zB))) ?_
  refine zFQ (σ':=St.mk' [(0,sl 1 zK a1),(3,rr 0 (s9.1.set s9.2.toNat x11)),(4,iv s9.2)] [(0,rE 1 zK (s9.1.set s9.2.toNat x11))]) (by simp only [rr,List.length_set]) ?_
  refine J_d 467 [] [4] [(4,iv (w64 (s9.2+1)))] [] [] zB ?_
  exact J_q (J_b (ih (s9.1.set s9.2.toNat x11,w64 (s9.2+1)))) rfl
 ·exact xD (hk s9.1) rfl
theorem wY.ok (a1:(List Int)):Ok Tryz.prog 19 [sl 1 zK a1] [] ((wY a1).map fun r=>(so 1 zK r,[])):=by
 refine zG c19 Tryz.f19 0 22 (fun q=>?_)
 unfold wY
 refine J_d 2 [] [] [] [] [] zB ?_
 refine zA (fun x2 h3=>?_)
 refine J_g 6 [] [(0,sl 1 zK a1),(3,rr 0 x2)] [(0,rE 1 zK x2)] (zD 2 (zQb 49 2 1 8 0 zK 0 (.tmp 6) h3 (.keep rfl (.nil))) zB) ?_
 refine J_d 28 [] [4] [(4,iv 0)] [] [] zB ?_
 refine zE3 (zBA.ok a1 q _ (fun v15=>J_j ?_) (x2,0))
 refine J_g 30 [] [(2,rr 0 v15)] [(0,rE 1 zK v15)] zB ?_
 exact zEH (ds:=[rr 0 v15]) (ds':=[so 1 zK v15]) (.cons (.cell (.move (.head _) (List.length_map _) (by decide) (.nil))) (.nil) (by decide)) rfl
noncomputable def c89:Code:=(Tryz.f89.body).getD .skip
theorem vN.ok (a1:Int):Ok Tryz.prog 89 [uv a1] [] ((vN a1).map fun r=>(bv r,[])):=by
 refine zG c89 Tryz.f89 0 9 (fun q=>?_)
 unfold vN
 refine J_g 2 [] [(0,uv a1)] [] zB ?_
 refine wL (fun h2=>?_) (fun h2=>?_)
 ·refine J_g 6 [] [(2,bv (decide (a1≤122)))] [] (xX 2 [(4,bv (decide (a1≥97)))] [] h2 zB) ?_
  exact zN rfl
 ·refine J_g 6 [] [(2,bv false)] [] (xX 2 [(4,bv (decide (a1≥97)))] [] h2 zB) ?_
  exact zN rfl
noncomputable def c159:Code:=(Tryz.f159.body).getD .skip
theorem vT.ok (a1:Int):Ok Tryz.prog 159 [uv a1] [] ((vT a1).map fun r=>(bv r,[])):=by
 refine zG c159 Tryz.f159 0 9 (fun q=>?_)
 unfold vT
 refine J_g 2 [] [(0,uv a1)] [] zB ?_
 refine wL (fun h2=>?_) (fun h2=>?_)
 ·refine J_g 6 [] [(2,bv (decide (a1≤57)))] [] (xX 2 [(4,bv (decide (a1≥48)))] [] h2 zB) ?_
  exact zN rfl
 ·refine J_g 6 [] [(2,bv false)] [] (xX 2 [(4,bv (decide (a1≥48)))] [] h2 zB) ?_
  exact zN rfl
noncomputable def c90:Code:=(Tryz.f90.body).getD .skip
theorem uG.ok (a1:Int):Ok Tryz.prog 90 [uv a1] [] ((uG a1).map fun r=>(bv r,[])):=by
 refine zG c90 Tryz.f90 0 13 (fun q=>?_)
 unfold uG
 refine J_g 2 [] [(0,uv a1)] [] zB ?_
 refine zA (fun x2 h3=>?_)
 refine wL (fun h4=>?_) (fun h4=>?_)
 ·refine J_g 6 [] [(2,bv true)] [] (zD 1 (xR [(.tmp 3)] [5] (vN.ok a1) h3) (xX 2 [(4,bv x2)] [] h4 zB)) ?_
  exact zN rfl
 ·refine zA (fun x5 h6=>?_)
  refine wL (fun h7=>?_) (fun h7=>?_)
  ·refine J_g 6 [] [(2,bv true)] [] (zD 1 (xR [(.tmp 3)] [5] (vN.ok a1) h3) (xX 2 [(4,bv x2)] [] h4 (zBV 4 2 5 false (xR [(.tmp 6)] [5] (vT.ok a1) h6) (xX 6 [(8,bv x5)] [] h7 zB)))) ?_
   exact zN rfl
  ·refine J_g 6 [] [(2,bv (a1==95))] [] (zD 1 (xR [(.tmp 3)] [5] (vN.ok a1) h3) (xX 2 [(4,bv x2)] [] h4 (zBV 4 2 5 false (xR [(.tmp 6)] [5] (vT.ok a1) h6) (xX 6 [(8,bv x5)] [] h7 zB)))) ?_
   exact zN rfl
noncomputable def c42:Code:=(Tryz.f42.body).getD .skip
theorem kC.ok (a1:ByteArray) (q:Wd) (kn:Unit→Option (D×List Ent)) (hk:∀v:Unit,J (q.g Tryz.prog 42 0 29) c42 (atI c42 15) (St.mk' [] []) (some v) kn):
  ∀s16:Int,J (q.g Tryz.prog 42 0 29) c42 (atI c42 116) (St.mk' [(0,sv a1),(3,iv s16)] []) (kC a1 s16) (Fl.go (fun r:Int=>some (iv r,[])) kn):=by
 refine jL (fun g ih s16=>?_)
 unfold zBX
 refine J_d 464 [] [21] [(21,bv (decide (s16< (a1.size:Int))))] [] [] zB ?_
 refine zF 21 (fun h17=>?_) (fun h17=>?_)
 ·refine zA (fun x18 h19=>?_)
  refine zA (fun x20 h21=>?_)
  refine J_d 1864 [] [21,28] [(28,bv (!x20))] [] [] (zD 2 (zKR (kk:=.i64) 9 (.tmp 24) (.tmp 25) h19) (zD 3 (xR [(.tmp 26)] [5] (uG.ok x18) h21) zB)) ?_
  refine zF 28 (fun h22=>?_) (fun h22=>?_)
  ·refine J_g 7460 [] [(2,iv 5)] [] zB ?_
   exact zN rfl
  ·refine J_g 467 [] [(0,sv a1),(3,iv (w64 (s16+1)))] [] zB ?_
   exact J_q (J_b (ih (w64 (s16+1)))) rfl
 ·exact xD (hk ()) rfl
theorem vM.ok (a1:ByteArray):Ok Tryz.prog 42 [sv a1] [] ((vM a1).map fun r=>(iv r,[])):=by
 refine zG c42 Tryz.f42 0 29 (fun q=>?_)
 unfold vM
 refine J_g 2 [] [(0,sv a1)] [] zB ?_
 refine wB (atI c42 13) (fun v8:Bool=>St.mk' [(0,sv a1),(17,bv v8)] []) (fun v8=>?_) (fun jv8=>?_)
 ·refine zF 17 (fun h9=>?_) (fun h9=>?_)
  ·refine J_g 52 [] [(2,iv 5)] [] zB ?_
   exact zN rfl
  ·refine J_g 28 [] [(0,sv a1),(3,iv 0)] [] zB ?_
   refine uZ (K0:=(fun r:Int=>some (iv r,[]))) (fun _=>rfl) (kC.ok a1 q _ (fun v23=>J_j ?_) 0)
   refine J_g 30 [] [(2,iv 0)] [] zB ?_
   exact zN rfl
 ·refine wL (fun h2=>?_) (fun h2=>?_)
  ·refine J_g 12 [] [(0,sv a1),(17,bv true)] [] (xX 3 [(6,bv (decide ((a1.size:Int)<1)))] [] h2 zB) ?_
   exact xD (J_j (jv8 true)) rfl
  ·refine wL (fun h3=>?_) (fun h3=>?_)
   ·refine J_g 12 [] [(0,sv a1),(17,bv true)] [] (xX 3 [(6,bv (decide ((a1.size:Int)<1)))] [] h2 (xX 8 [(11,bv (decide ((a1.size:Int)>12)))] [] h3 zB)) ?_
    exact xD (J_j (jv8 true)) rfl
   ·refine zA (fun x4 h5=>?_)
    refine zA (fun x6 h7=>?_)
    refine J_g 12 [] [(0,sv a1),(17,bv (!x6))] [] (xX 3 [(6,bv (decide ((a1.size:Int)<1)))] [] h2 (xX 8 [(11,bv (decide ((a1.size:Int)>12)))] [] h3 (zBV 10 8 12 false (zKR (kk:=.i64) 9 (.tmp 13) (.const (.int .i64 0)) h5) (zBV 11 8 12 false (xR [(.tmp 14)] [5] (vN.ok x4) h7) zB)))) ?_
    exact xD (J_j (jv8 (!x6))) rfl
noncomputable def c91:Code:=(Tryz.f91.body).getD .skip
theorem xS.ok (a1:Int) (a2:Int) (a3:Int):Ok Tryz.prog 91 [iv a1,iv a2,iv a3] [] ((xS a1 a2 a3).map fun r=>(bv r,[])):=by
 refine zG c91 Tryz.f91 0 15 (fun q=>?_)
 unfold xS
 refine J_d 2 [] [] [] [] [] zB ?_
 refine wL (fun h4=>?_) (fun h4=>?_)
 ·refine J_g 6 [] [(6,bv (decide (a1≤a3)))] [] (xX 3 [(9,bv (decide (a1≥a2)))] [] h4 zB) ?_
  exact zN rfl
 ·refine J_g 6 [] [(6,bv false)] [] (xX 3 [(9,bv (decide (a1≥a2)))] [] h4 zB) ?_
  exact zN rfl
noncomputable def c43:Code:=(Tryz.f43.body).getD .skip
theorem xU.ok (a1:Version):Ok Tryz.prog 43 [.ag (Version.enc a1)] [] ((xU a1).map fun r=>(iv r,[])):=by
 refine zG c43 Tryz.f43 0 19 (fun q=>?_)
 unfold xU
 refine J_g 2 [(0,0)] [(1,pp 0)] [(0,.box (Version.enc a1))] zB ?_
 refine zA (fun x2 h3=>?_)
 refine wB (atI c43 13) (fun v10:Bool=>St.mk' [(18,bv v10)] []) (fun v10=>?_) (fun jv10=>?_)
 ·refine zF 18 (fun h11=>?_) (fun h11=>?_)
  ·refine J_g 52 [] [(2,iv 3)] [] zB ?_
   exact zN rfl
  ·refine J_g 14 [] [(2,iv 0)] [] zB ?_
   exact zN rfl
 ·refine wL (fun h4=>?_) (fun h4=>?_)
  ·refine J_g 12 [] [(18,bv true)] [] (zD 2 (xR [(.tmp 4),(.const (.int .i64 0)),(.const (.int .i64 999))] [2,2,2] (xS.ok a1.A 0 999) h3) (xX 4 [(6,bv (!x2))] [] h4 zB)) ?_
   exact xD (J_j (jv10 true)) rfl
  ·refine zA (fun x5 h6=>?_)
   refine wL (fun h7=>?_) (fun h7=>?_)
   ·refine J_g 12 [] [(18,bv true)] [] (zD 2 (xR [(.tmp 4),(.const (.int .i64 0)),(.const (.int .i64 999))] [2,2,2] (xS.ok a1.A 0 999) h3) (xX 4 [(6,bv (!x2))] [] h4 (zBV 7 4 7 false (xR [(.tmp 9),(.const (.int .i64 0)),(.const (.int .i64 999))] [2,2,2] (xS.ok a1.B 0 999) h6) (xX 10 [(12,bv (!x5))] [] h7 zB)))) ?_
    exact xD (J_j (jv10 true)) rfl
   ·refine zA (fun x8 h9=>?_)
    refine J_g 12 [] [(18,bv (!x8))] [] (zD 2 (xR [(.tmp 4),(.const (.int .i64 0)),(.const (.int .i64 999))] [2,2,2] (xS.ok a1.A 0 999) h3) (xX 4 [(6,bv (!x2))] [] h4 (zBV 7 4 7 false (xR [(.tmp 9),(.const (.int .i64 0)),(.const (.int .i64 999))] [2,2,2] (xS.ok a1.B 0 999) h6) (xX 10 [(12,bv (!x5))] [] h7 (zBV 13 10 13 false (xR [(.tmp 15),(.const (.int .i64 0)),(.const (.int .i64 999))] [2,2,2] (xS.ok a1.C 0 999) h9) zB))))) ?_
    exact xD (J_j (jv10 (!x8))) rfl
noncomputable def zQw:Code:=(Tryz.f238.body).getD .skip
theorem zCr.ok (a1:(List ByteArray)) (a2:ByteArray) (q:Wd) (kn:Unit→Option (D×List Ent)) (hk:∀v:Unit,J (q.g Tryz.prog 238 0 18) zQw (atI zQw 7) (St.mk' [] []) (some v) kn):
  ∀s7:Int,J (q.g Tryz.prog 238 0 18) zQw (atI zQw 52) (St.mk' [(0,sl 1 eStr a1),(1,sv a2),(5,iv s7)] []) (zCr a1 a2 s7) (Fl.go (fun r:Bool=>some (bv r,[])) kn):=by
 refine jL (fun g ih s7=>?_)
 unfold zBN
 refine J_d 208 [] [9] [(9,bv (decide (s7< (a1.length:Int))))] [] [] zB ?_
 refine zF 9 (fun h8=>?_) (fun h8=>?_)
 ·refine zA (fun x9 h10=>?_)
  refine J_d 840 [] [9,17] [(17,bv (seq x9 a2))] [] [] (zD 2 (vR (kk:=.i64) 90 9 1 eStr (.tmp 12) (.tmp 13) h10) zB) ?_
  refine zF 17 (fun h11=>?_) (fun h11=>?_)
  ·refine J_g 3364 [] [(4,bv true)] [] zB ?_
   exact zN rfl
  ·refine J_d 211 [] [5,17] [(5,iv (w64 (s7+1)))] [] [] zB ?_
   exact J_q (J_b (ih (w64 (s7+1)))) rfl
 ·exact xD (hk ()) rfl
theorem jV.ok (a1:(List ByteArray)) (a2:ByteArray):Ok Tryz.prog 238 [sl 1 eStr a1,sv a2] [] ((jV a1 a2).map fun r=>(bv r,[])):=by
 refine zG zQw Tryz.f238 0 18 (fun q=>?_)
 unfold jV
 refine J_g 2 [] [(0,sl 1 eStr a1),(1,sv a2)] [] zB ?_
 refine J_d 12 [] [5] [(5,iv 0)] [] [] zB ?_
 refine uZ (K0:=(fun r:Bool=>some (bv r,[]))) (fun _=>rfl) (zCr.ok a1 a2 q _ (fun v12=>J_j ?_) 0)
 refine J_g 14 [] [(4,bv false)] [] zB ?_
 exact zN rfl
noncomputable def c44:Code:=(Tryz.f44.body).getD .skip
theorem zEd.ok:Ok Tryz.prog 44 [] [] ((zEd).map fun r=>(.ag (Version.enc r),[])):=by
 refine zG c44 Tryz.f44 0 2 (fun q=>?_)
 unfold zEd
 refine J_g 2 [(0,0)] [(0,pp 0)] [(0,.box [iv 0,iv 0,iv 0])] zB ?_
 refine J_g 6 [] [(0,pp 0)] [(0,.box [iv 1000,iv 0,iv 0])] zB ?_
 exact zN rfl
noncomputable def c92:Code:=(Tryz.f92.body).getD .skip
theorem kN.ok (a1:Int) (a2:Int):Ok Tryz.prog 92 [iv a1,iv a2] [] ((kN a1 a2).map fun r=>(iv r,[])):=by
 refine zG c92 Tryz.f92 0 11 (fun q=>?_)
 unfold kN
 refine J_g 2 [] [(0,iv a1),(1,iv a2)] [] zB ?_
 refine J_d 12 [] [7] [(7,bv (decide (a1<a2)))] [] [] zB ?_
 refine zF 7 (fun h3=>?_) (fun h3=>?_)
 ·refine J_g 52 [] [(4,iv (-1))] [] zB ?_
  exact zN rfl
 ·refine J_g 28 [] [(10,bv (decide (a1>a2)))] [] zB ?_
  refine zF 10 (fun h4=>?_) (fun h4=>?_)
  ·refine J_g 116 [] [(4,iv 1)] [] zB ?_
   exact zN rfl
  ·refine J_g 30 [] [(4,iv 0)] [] zB ?_
   exact zN rfl
noncomputable def c45:Code:=(Tryz.f45.body).getD .skip
theorem yS.ok (a1:Version) (a2:Version):Ok Tryz.prog 45 [.ag (Version.enc a1),.ag (Version.enc a2)] [] ((yS a1 a2).map fun r=>(iv r,[])):=by
 refine zG c45 Tryz.f45 0 28 (fun q=>?_)
 unfold yS
 refine J_g 2 [(0,0),(1,1)] [(2,pp 0),(3,pp 1)] [(0,.box (Version.enc a1)),(1,.box (Version.enc a2))] zB ?_
 refine zA (fun x3 h4=>?_)
 refine J_g 12 [] [(2,pp 0),(3,pp 1),(5,iv x3)] [(0,.box (Version.enc a1)),(1,.box (Version.enc a2))] (zD 4 (xR [(.tmp 8),(.tmp 10)] [2,2] (kN.ok a1.A a2.A) h4) zB) ?_
 refine J_d 26 [] [13] [(13,bv (x3 !=0))] [] [] zB ?_
 refine zF 13 (fun h5=>?_) (fun h5=>?_)
 ·refine J_g 108 [] [(4,iv x3)] [] zB ?_
  exact zN rfl
 ·refine zA (fun x6 h7=>?_)
  refine J_g 28 [] [(2,pp 0),(3,pp 1),(6,iv x6)] [(0,.box (Version.enc a1)),(1,.box (Version.enc a2))] (zD 4 (xR [(.tmp 16),(.tmp 18)] [2,2] (kN.ok a1.B a2.B) h7) zB) ?_
  refine J_d 58 [] [21] [(21,bv (x6 !=0))] [] [] zB ?_
  refine zF 21 (fun h8=>?_) (fun h8=>?_)
  ·refine J_g 236 [] [(4,iv x6)] [] zB ?_
   exact zN rfl
  ·refine zA (fun x9 h10=>?_)
   refine J_g 30 [] [(4,iv x9)] [] (zD 4 (xR [(.tmp 24),(.tmp 26)] [2,2] (kN.ok a1.C a2.C) h10) zB) ?_
   exact zN rfl
noncomputable def c11:Code:=(Tryz.f11.body).getD .skip
theorem zAP.ok (a1:Term):Ok Tryz.prog 11 [.ag (Term.enc a1)] [] ((zAP a1).map fun r=>(iv r,[])):=by
 refine zG c11 Tryz.f11 0 33 (fun q=>?_)
 unfold zAP
 refine J_g 2 [(0,0)] [(1,pp 0)] [(0,.box (Term.enc a1))] zB ?_
 refine zA (fun x2 h3=>?_)
 refine J_g 12 [] [(1,pp 0),(3,iv x2)] [(0,.box (Term.enc a1))] (zD 2 (xR [(.tmp 6)] [9] (vM.ok a1.Name) h3) zB) ?_
 refine J_d 26 [] [9] [(9,bv (x2 !=0))] [] [] zB ?_
 refine zF 9 (fun h4=>?_) (fun h4=>?_)
 ·refine J_g 108 [] [(2,iv x2)] [] zB ?_
  exact zN rfl
 ·refine zA (fun x5 h6=>?_)
  refine J_g 28 [] [(1,pp 0),(4,iv x5)] [(0,.box (Term.enc a1))] (zD 2 (xR [(.tmp 12)] [39] (xU.ok a1.Low) h6) zB) ?_
  refine J_d 58 [] [15] [(15,bv (x5 !=0))] [] [] zB ?_
  refine zF 15 (fun h7=>?_) (fun h7=>?_)
  ·refine J_g 236 [] [(2,iv x5)] [] zB ?_
   exact zN rfl
  ·refine zA (fun x8 h9=>?_)
   refine wB (atI c11 61) (fun v13:Bool=>St.mk' [(1,pp 0),(26,bv v13)] [(0,.box (Term.enc a1))]) (fun v13=>?_) (fun jv13=>?_)
   ·refine zF 26 (fun h14=>?_) (fun h14=>?_)
    ·refine J_g 244 [] [(2,iv 3)] [] zB ?_
     exact zN rfl
    ·refine zA (fun x15 h16=>?_)
     refine J_g 124 [] [(32,bv (decide (x15≥0)))] [] (zD 4 (xR [(.tmp 28),(.tmp 30)] [39,39] (yS.ok a1.Low a1.High) h16) zB) ?_
     refine zF 32 (fun h17=>?_) (fun h17=>?_)
     ·refine J_g 500 [] [(2,iv 1)] [] zB ?_
      exact zN rfl
     ·refine J_g 126 [] [(2,iv 0)] [] zB ?_
      exact zN rfl
   ·refine wL (fun h10=>?_) (fun h10=>?_)
    ·refine zA (fun x11 h12=>?_)
     refine J_d 60 [] [4,15,26] [(26,bv (x11 !=0))] [] [] (zD 2 (xR [] [] (zEd.ok) h9) (zD 3 (zN5 (b:=.neq) (r:=(a1.High.A==x8.A&&(a1.High.B==x8.B&&(a1.High.C==x8.C&&true)))) 39 39 (.tmp 18) (.tmp 19) [.int .i64 a1.High.A,.int .i64 a1.High.B,.int .i64 a1.High.C] [.int .i64 x8.A,.int .i64 x8.B,.int .i64 x8.C] (.inr ⟨rfl,rfl⟩)) (xX 4 [(20,bv (!(a1.High.A==x8.A&&(a1.High.B==x8.B&&(a1.High.C==x8.C&&true)))))] [] h10 (zBV 7 4 21 true (xR [(.tmp 23)] [39] (xU.ok a1.High) h12) zB)))) ?_
     exact xD (J_j (jv13 (x11 !=0))) rfl
    ·refine J_d 60 [] [4,15,26] [(26,bv false)] [] [] (zD 2 (xR [] [] (zEd.ok) h9) (zD 3 (zN5 (b:=.neq) (r:=(a1.High.A==x8.A&&(a1.High.B==x8.B&&(a1.High.C==x8.C&&true)))) 39 39 (.tmp 18) (.tmp 19) [.int .i64 a1.High.A,.int .i64 a1.High.B,.int .i64 a1.High.C] [.int .i64 x8.A,.int .i64 x8.B,.int .i64 x8.C] (.inr ⟨rfl,rfl⟩)) (xX 4 [(20,bv (!(a1.High.A==x8.A&&(a1.High.B==x8.B&&(a1.High.C==x8.C&&true)))))] [] h10 zB))) ?_
     exact xD (J_j (jv13 false)) rfl
noncomputable def zRe:Code:=(Tryz.f239.body).getD .skip
theorem zCp.ok (a1:(List Term)) (q:Wd) (kn:Unit→Option (D×List Ent)) (hk:∀v:Unit,J (q.g Tryz.prog 239 0 19) zRe (atI zRe 7) (St.mk' [] []) (some v) kn):
  ∀s8:Int,J (q.g Tryz.prog 239 0 19) zRe (atI zRe 52) (St.mk' [(0,sl 7 Term.enc a1),(3,iv s8)] []) (zCp a1 s8) (Fl.go (fun r:Int=>some (iv r,[])) kn):=by
 refine jL (fun g ih s8=>?_)
 unfold zBP
 refine J_d 208 [] [8] [(8,bv (decide (s8< (a1.length:Int))))] [] [] zB ?_
 refine zF 8 (fun h9=>?_) (fun h9=>?_)
 ·refine zA (fun x10 h11=>?_)
  refine zA (fun x12 h13=>?_)
  refine J_g 840 [] [(0,sl 7 Term.enc a1),(3,iv s8),(4,iv x12)] [] (zD 2 (vR (kk:=.i64) 24 41 7 Term.enc (.tmp 11) (.tmp 12) h11) (zD 4 (xR [(.tmp 14)] [41] (zAP.ok x10) h13) zB)) ?_
  refine J_d 1682 [] [17] [(17,bv (x12 !=0))] [] [] zB ?_
  refine zF 17 (fun h14=>?_) (fun h14=>?_)
  ·refine J_g 6732 [] [(2,iv x12)] [] zB ?_
   exact zN rfl
  ·refine J_g 211 [] [(0,sl 7 Term.enc a1),(3,iv (w64 (s8+1)))] [] zB ?_
   exact J_q (J_b (ih (w64 (s8+1)))) rfl
 ·exact xD (hk ()) rfl
theorem jU.ok (a1:(List Term)):Ok Tryz.prog 239 [sl 7 Term.enc a1] [] ((jU a1).map fun r=>(iv r,[])):=by
 refine zG zRe Tryz.f239 0 19 (fun q=>?_)
 unfold jU
 refine J_g 2 [] [(0,sl 7 Term.enc a1)] [] zB ?_
 refine J_d 12 [] [3] [(3,iv 0)] [] [] zB ?_
 refine uZ (K0:=(fun r:Int=>some (iv r,[]))) (fun _=>rfl) (zCp.ok a1 q _ (fun v15=>J_j ?_) 0)
 refine J_g 14 [] [(2,iv 0)] [] zB ?_
 exact zN rfl
noncomputable def c201:Code:=(Tryz.f201.body).getD .skip
theorem kE.ok (a1:Pack) (q:Wd) (kn:Unit→Option (D×List Ent)) (hk:∀v:Unit,J (q.g Tryz.prog 201 0 118) c201 (atI c201 511) (St.mk' [(1,pp 0)] [(0,.box (Pack.enc false a1))]) (some v) kn):
  ∀s70:Int,J (q.g Tryz.prog 201 0 118) c201 (atI c201 4084) (St.mk' [(1,pp 0),(8,iv s70)] [(0,.box (Pack.enc false a1))]) (kE a1 s70) (Fl.go (fun r:Int=>some (iv r,[])) kn):=by
 refine jL (fun g ih s70=>?_)
 unfold zAA
 refine J_d 16336 [] [96] [(96,bv (decide (s70< (a1.Needs.length:Int))))] [] [] zB ?_
 refine zF 96 (fun h71=>?_) (fun h71=>?_)
 ·refine zA (fun x72 h73=>?_)
  refine J_d 130704 [] [96,105] [(105,bv ((x72.length:Int)==0))] [] [] (zD 3 (vR (kk:=.i64) 100 24 1 (eSl false 7 Term.enc) (.tmp 100) (.tmp 101) h73) zB) ?_
  refine zF 105 (fun h74=>?_) (fun h74=>?_)
  ·refine J_g 522820 [] [(2,iv 1)] [] zB ?_
   exact zN rfl
  ·refine zA (fun x75 h76=>?_)
   refine zA (fun x77 h78=>?_)
   refine J_g 130706 [] [(1,pp 0),(8,iv s70),(9,iv x77)] [(0,.box (Pack.enc false a1))] (zD 3 (vR (kk:=.i64) 100 24 1 (eSl false 7 Term.enc) (.tmp 107) (.tmp 108) h76) (zD 5 (xR [(.tmp 110)] [24] (jU.ok x75) h78) zB)) ?_
   refine J_d 261414 [] [113] [(113,bv (x77 !=0))] [] [] zB ?_
   refine zF 113 (fun h79=>?_) (fun h79=>?_)
   ·refine J_g 1045660 [] [(2,iv x77)] [] zB ?_
    exact zN rfl
   ·refine J_d 16339 [] [8,9,113] [(8,iv (w64 (s70+1)))] [] [] zB ?_
    exact J_q (J_b (ih (w64 (s70+1)))) rfl
 ·exact xD (hk ()) rfl
theorem kD.ok (a1:Pack) (q:Wd) (kn:Unit→Option (D×List Ent)) (hk:∀v:Unit,J (q.g Tryz.prog 201 0 118) c201 (atI c201 255) (St.mk' [(1,pp 0)] [(0,.box (Pack.enc false a1))]) (some v) kn):
  ∀s42:Int,J (q.g Tryz.prog 201 0 118) c201 (atI c201 2036) (St.mk' [(1,pp 0),(6,iv s42)] [(0,.box (Pack.enc false a1))]) (kD a1 s42) (Fl.go (fun r:Int=>some (iv r,[])) kn):=by
 refine jL (fun g ih s42=>?_)
 unfold zA0
 refine J_d 8144 [] [60] [(60,bv (decide (s42< (a1.Provides.length:Int))))] [] [] zB ?_
 refine zF 60 (fun h43=>?_) (fun h43=>?_)
 ·refine zA (fun x44 h45=>?_)
  refine zA (fun x46 h47=>?_)
  refine J_g 65168 [] [(1,pp 0),(6,iv s42),(7,iv x46)] [(0,.box (Pack.enc false a1))] (zD 3 (vR (kk:=.i64) 90 9 1 eStr (.tmp 64) (.tmp 65) h45) (zD 5 (xR [(.tmp 67)] [9] (vM.ok x44) h47) zB)) ?_
  refine J_d 130338 [] [70] [(70,bv (x46 !=0))] [] [] zB ?_
  refine zF 70 (fun h48=>?_) (fun h48=>?_)
  ·refine J_g 521356 [] [(2,iv x46)] [] zB ?_
   exact zN rfl
  ·refine zA (fun x49 h50=>?_)
   refine wB (atI c201 65171) (fun v58:Bool=>St.mk' [(1,pp 0),(6,iv s42),(91,bv v58)] [(0,.box (Pack.enc false a1))]) (fun v58=>?_) (fun jv58=>?_)
   ·refine zF 91 (fun h59=>?_) (fun h59=>?_)
    ·refine J_g 260684 [] [(2,iv 6)] [] zB ?_
     exact zN rfl
    ·refine J_d 8147 [] [6,91] [(6,iv (w64 (s42+1)))] [] [] zB ?_
     exact J_q (J_b (ih (w64 (s42+1)))) rfl
   ·refine wL (fun h51=>?_) (fun h51=>?_)
    ·refine J_d 65170 [] [7,70,91] [(91,bv true)] [] [] (zD 3 (vR (kk:=.i64) 90 9 1 eStr (.tmp 73) (.tmp 74) h50) (xX 8 [(79,bv (seq x49 a1.Name))] [] h51 zB)) ?_
     exact xD (J_j (jv58 true)) rfl
    ·refine zA (fun x52 h53=>?_)
     refine zA (fun x54 h55=>?_)
     refine zA (fun x56 h57=>?_)
     refine J_d 65170 [] [7,70,91] [(91,bv x56)] [] [] (zD 3 (vR (kk:=.i64) 90 9 1 eStr (.tmp 73) (.tmp 74) h50) (xX 8 [(79,bv (seq x49 a1.Name))] [] h51 (zBV 12 8 80 false (zQJ 90 9 1 eStr (.tmp 82) none (some (.tmp 83)) h53) (zBV 16 8 80 false (vR (kk:=.i64) 90 9 1 eStr (.tmp 86) (.tmp 87) h55) (zBV 18 8 80 false (xR [(.tmp 84),(.tmp 89)] [90,9] (jV.ok x52 x54) h57) zB))))) ?_
     exact xD (J_j (jv58 x56)) rfl
 ·exact xD (hk ()) rfl
theorem zBe.ok (a1:Pack) (q:Wd) (kn:Unit→Option (D×List Ent)) (hk:∀v:Unit,J (q.g Tryz.prog 201 0 118) c201 (atI c201 127) (St.mk' [(1,pp 0)] [(0,.box (Pack.enc false a1))]) (some v) kn):
  ∀s19:Int,J (q.g Tryz.prog 201 0 118) c201 (atI c201 1012) (St.mk' [(1,pp 0),(5,iv s19)] [(0,.box (Pack.enc false a1))]) (zBe a1 s19) (Fl.go (fun r:Int=>some (iv r,[])) kn):=by
 refine jL (fun g ih s19=>?_)
 unfold zAt
 refine J_d 4048 [] [46] [(46,bv (decide (s19< (a1.Needs.length:Int))))] [] [] zB ?_
 refine zF 46 (fun h20=>?_) (fun h20=>?_)
 ·refine zA (fun x21 h22=>?_)
  refine J_d 16200 [] [46,55] [(55,bv (decide ((x21.length:Int)>4)))] [] [] (zD 3 (vR (kk:=.i64) 100 24 1 (eSl false 7 Term.enc) (.tmp 50) (.tmp 51) h22) zB) ?_
  refine zF 55 (fun h23=>?_) (fun h23=>?_)
  ·refine J_g 64804 [] [(2,iv 2)] [] zB ?_
   exact zN rfl
  ·refine J_d 4051 [] [5,55] [(5,iv (w64 (s19+1)))] [] [] zB ?_
   exact J_q (J_b (ih (w64 (s19+1)))) rfl
 ·exact xD (hk ()) rfl
theorem zAR.ok (a1:Pack):Ok Tryz.prog 201 [.ag (Pack.enc false a1)] [] ((zAR a1).map fun r=>(iv r,[])):=by
 refine zG c201 Tryz.f201 0 118 (fun q=>?_)
 unfold zAR
 refine J_g 2 [(0,0)] [(1,pp 0)] [(0,.box (Pack.enc false a1))] zB ?_
 refine zA (fun x2 h3=>?_)
 refine J_g 12 [] [(1,pp 0),(3,iv x2)] [(0,.box (Pack.enc false a1))] (zD 2 (xR [(.tmp 11)] [9] (vM.ok a1.Name) h3) zB) ?_
 refine J_d 26 [] [14] [(14,bv (x2 !=0))] [] [] zB ?_
 refine zF 14 (fun h4=>?_) (fun h4=>?_)
 ·refine J_g 108 [] [(2,iv x2)] [] zB ?_
  exact zN rfl
 ·refine zA (fun x5 h6=>?_)
  refine J_g 28 [] [(1,pp 0),(4,iv x5)] [(0,.box (Pack.enc false a1))] (zD 2 (xR [(.tmp 17)] [39] (xU.ok a1.Version) h6) zB) ?_
  refine J_d 58 [] [20] [(20,bv (x5 !=0))] [] [] zB ?_
  refine zF 20 (fun h7=>?_) (fun h7=>?_)
  ·refine J_g 236 [] [(2,iv x5)] [] zB ?_
   exact zN rfl
  ·refine zA (fun x8 h9=>?_)
   refine J_d 60 [] [4,20,25] [(25,bv (!x8))] [] [] (zD 2 (xR [(.tmp 23),(.const (.int .i64 1)),(.const (.int .i64 200))] [2,2,2] (xS.ok a1.Size 1 200) h9) zB) ?_
   refine zF 25 (fun h10=>?_) (fun h10=>?_)
   ·refine J_g 244 [] [(2,iv 3)] [] zB ?_
    exact zN rfl
   ·refine wB (atI c201 125) (fun v13:Bool=>St.mk' [(1,pp 0),(41,bv v13)] [(0,.box (Pack.enc false a1))]) (fun v13=>?_) (fun jv13=>?_)
    ·refine zF 41 (fun h14=>?_) (fun h14=>?_)
     ·refine J_g 500 [] [(2,iv 2)] [] zB ?_
      exact zN rfl
     ·refine J_d 252 [] [5,41] [(5,iv 0)] [] [] zB ?_
      refine uZ (K0:=(fun r:Int=>some (iv r,[]))) (fun _=>rfl) (zBe.ok a1 q _ (fun v24=>J_j ?_) 0)
      refine J_d 508 [] [6] [(6,iv 0)] [] [] zB ?_
      refine uZ (K0:=(fun r:Int=>some (iv r,[]))) (fun _=>rfl) (kD.ok a1 q _ (fun v60=>J_j ?_) 0)
      refine J_d 1020 [] [8] [(8,iv 0)] [] [] zB ?_
      refine uZ (K0:=(fun r:Int=>some (iv r,[]))) (fun _=>rfl) (kE.ok a1 q _ (fun v80=>J_j ?_) 0)
      refine zA (fun x81 h82=>?_)
      refine J_g 1022 [] [(2,iv x81)] [] (zD 2 (xR [(.tmp 116)] [24] (jU.ok a1.Bars) h82) zB) ?_
      exact zN rfl
    ·refine wL (fun h11=>?_) (fun h11=>?_)
     ·refine J_d 124 [] [25,41] [(41,bv true)] [] [] (xX 4 [(29,bv (decide ((a1.Provides.length:Int)>4)))] [] h11 zB) ?_
      exact xD (J_j (jv13 true)) rfl
     ·refine wL (fun h12=>?_) (fun h12=>?_)
      ·refine J_d 124 [] [25,41] [(41,bv true)] [] [] (xX 4 [(29,bv (decide ((a1.Provides.length:Int)>4)))] [] h11 (xX 10 [(35,bv (decide ((a1.Needs.length:Int)>4)))] [] h12 zB)) ?_
       exact xD (J_j (jv13 true)) rfl
      ·refine J_d 124 [] [25,41] [(41,bv (decide ((a1.Bars.length:Int)>4)))] [] [] (xX 4 [(29,bv (decide ((a1.Provides.length:Int)>4)))] [] h11 (xX 10 [(35,bv (decide ((a1.Needs.length:Int)>4)))] [] h12 zB)) ?_
       exact xD (J_j (jv13 (decide ((a1.Bars.length:Int)>4)))) rfl
noncomputable def zQk:Code:=(Tryz.f202.body).getD .skip
theorem zDg.ok (a1:(List Pack)) (a2:ByteArray) (a3:Version) (q:Wd) (kn:Unit→Option (D×List Ent)) (hk:∀v:Unit,J (q.g Tryz.prog 202 0 32) zQk (atI zQk 7) (St.mk' [] []) (some v) kn):
  ∀s14:Int,J (q.g Tryz.prog 202 0 32) zQk (atI zQk 52) (St.mk' [(0,sl 8 (Pack.enc false) a1),(1,sv a2),(5,pp 0),(7,iv s14)] [(0,.box (Version.enc a3))]) (zDg a1 a2 a3 s14) (Fl.go (fun r:Int=>some (iv r,[])) kn):=by
 refine jL (fun g ih s14=>?_)
 unfold zCk
 refine J_d 208 [] [11] [(11,bv (decide (s14< (a1.length:Int))))] [] [] zB ?_
 refine zF 11 (fun h15=>?_) (fun h15=>?_)
 ·refine zA (fun x16 h17=>?_)
  refine wB (atI zQk 841) (fun v23:Bool=>St.mk' [(0,sl 8 (Pack.enc false) a1),(1,sv a2),(5,pp 0),(7,iv s14),(30,bv v23)] [(0,.box (Version.enc a3))]) (fun v23=>?_) (fun jv23=>?_)
  ·refine zF 30 (fun h24=>?_) (fun h24=>?_)
   ·refine J_g 3364 [] [(6,iv s14)] [] zB ?_
    exact zN rfl
   ·refine J_d 211 [] [7,30] [(7,iv (w64 (s14+1)))] [] [] zB ?_
    exact J_q (J_b (ih (w64 (s14+1)))) rfl
  ·refine wL (fun h18=>?_) (fun h18=>?_)
   ·refine zA (fun x19 h20=>?_)
    refine zA (fun x21 h22=>?_)
    refine J_d 840 [] [11,30] [(30,bv (x21==0))] [] [] (zD 2 (vR (kk:=.i64) 53 102 8 (Pack.enc false) (.tmp 14) (.tmp 15) h17) (xX 7 [(20,bv (seq x16.Name a2))] [] h18 (zBV 10 7 21 true (vR (kk:=.i64) 53 102 8 (Pack.enc false) (.tmp 22) (.tmp 23) h20) (zBV 14 7 21 true (xR [(.tmp 26),(.tmp 27)] [39,39] (yS.ok x19.Version a3) h22) zB)))) ?_
    exact xD (J_j (jv23 (x21==0))) rfl
   ·refine J_d 840 [] [11,30] [(30,bv false)] [] [] (zD 2 (vR (kk:=.i64) 53 102 8 (Pack.enc false) (.tmp 14) (.tmp 15) h17) (xX 7 [(20,bv (seq x16.Name a2))] [] h18 zB)) ?_
    exact xD (J_j (jv23 false)) rfl
 ·exact xD (hk ()) rfl
theorem zCu.ok (a1:(List Pack)) (a2:ByteArray) (a3:Version):Ok Tryz.prog 202 [sl 8 (Pack.enc false) a1,sv a2,.ag (Version.enc a3)] [] ((zCu a1 a2 a3).map fun r=>(iv r,[])):=by
 refine zG zQk Tryz.f202 0 32 (fun q=>?_)
 unfold zCu
 refine J_g 2 [(0,0)] [(0,sl 8 (Pack.enc false) a1),(1,sv a2),(5,pp 0)] [(0,.box (Version.enc a3))] zB ?_
 refine J_d 12 [] [7] [(7,iv 0)] [] [] zB ?_
 refine uZ (K0:=(fun r:Int=>some (iv r,[]))) (fun _=>rfl) (zDg.ok a1 a2 a3 q _ (fun v25=>J_j ?_) 0)
 refine J_g 14 [] [(6,iv (-1))] [] zB ?_
 exact zN rfl
noncomputable def c164:Code:=(Tryz.f164.body).getD .skip
theorem jN.ok (a1:(List Pack)) (q:Wd) (kn:Unit→Option (D×List Ent)) (hk:∀v:Unit,J (q.g Tryz.prog 164 0 37) c164 (atI c164 15) (St.mk' [] []) (some v) kn):
  ∀s18:Int,J (q.g Tryz.prog 164 0 37) c164 (atI c164 116) (St.mk' [(0,sl 8 (Pack.enc false) a1),(3,iv s18)] []) (jN a1 s18) (Fl.go (fun r:Int=>some (iv r,[])) kn):=by
 refine jL (fun g ih s18=>?_)
 unfold tO
 refine J_d 464 [] [11] [(11,bv (decide (s18< (a1.length:Int))))] [] [] zB ?_
 refine zF 11 (fun h19=>?_) (fun h19=>?_)
 ·refine zA (fun x20 h21=>?_)
  refine zA (fun x22 h23=>?_)
  refine J_g 3728 [] [(0,sl 8 (Pack.enc false) a1),(3,iv s18),(4,iv x22)] [] (zD 2 (vR (kk:=.i64) 53 102 8 (Pack.enc false) (.tmp 14) (.tmp 15) h21) (zD 4 (xR [(.tmp 17)] [102] (zAR.ok x20) h23) zB)) ?_
  refine J_d 7458 [] [20] [(20,bv (x22 !=0))] [] [] zB ?_
  refine zF 20 (fun h24=>?_) (fun h24=>?_)
  ·refine J_g 29836 [] [(2,iv x22)] [] zB ?_
   exact zN rfl
  ·refine zA (fun x25 h26=>?_)
   refine zA (fun x27 h28=>?_)
   refine zA (fun x29 h30=>?_)
   refine zA (fun x31 h32=>?_)
   refine J_d 3730 [] [4,20,36] [(36,bv (decide (x31≥0)))] [] [] (zD 2 (zQJ 53 102 8 (Pack.enc false) (.tmp 22) none (some (.tmp 23)) h26) (zD 5 (vR (kk:=.i64) 53 102 8 (Pack.enc false) (.tmp 25) (.tmp 26) h28) (zD 10 (vR (kk:=.i64) 53 102 8 (Pack.enc false) (.tmp 30) (.tmp 31) h30) (zD 13 (xR [(.tmp 24),(.tmp 29),(.tmp 34)] [53,9,39] (zCu.ok x25 x27.Name x29.Version) h32) zB)))) ?_
   refine zF 36 (fun h33=>?_) (fun h33=>?_)
   ·refine J_g 14924 [] [(2,iv 6)] [] zB ?_
    exact zN rfl
   ·refine J_d 467 [] [3,36] [(3,iv (w64 (s18+1)))] [] [] zB ?_
    exact J_q (J_b (ih (w64 (s18+1)))) rfl
 ·exact xD (hk ()) rfl
theorem tC.ok (a1:(List Pack)):Ok Tryz.prog 164 [sl 8 (Pack.enc false) a1] [] ((tC a1).map fun r=>(iv r,[])):=by
 refine zG c164 Tryz.f164 0 37 (fun q=>?_)
 unfold tC
 refine J_g 2 [] [(0,sl 8 (Pack.enc false) a1)] [] zB ?_
 refine J_d 12 [] [7] [(7,bv (decide ((a1.length:Int)>24)))] [] [] zB ?_
 refine zF 7 (fun h2=>?_) (fun h2=>?_)
 ·refine J_g 52 [] [(2,iv 2)] [] zB ?_
  exact zN rfl
 ·refine J_d 28 [] [3,7] [(3,iv 0)] [] [] zB ?_
  refine uZ (K0:=(fun r:Int=>some (iv r,[]))) (fun _=>rfl) (jN.ok a1 q _ (fun v34=>J_j ?_) 0)
  refine J_g 30 [] [(2,iv 0)] [] zB ?_
  exact zN rfl
noncomputable def zS1:Code:=(Tryz.f240.body).getD .skip
theorem zDw.ok (a1:Int):Ok Tryz.prog 240 [uv a1] [] ((zDw a1).map fun r=>(bv r,[])):=by
 refine zG zS1 Tryz.f240 0 17 (fun q=>?_)
 unfold zDw
 refine J_g 2 [] [(0,uv a1)] [] zB ?_
 refine zA (fun x2 h3=>?_)
 refine wL (fun h4=>?_) (fun h4=>?_)
 ·refine J_g 6 [] [(2,bv true)] [] (zD 1 (xR [(.tmp 3)] [5] (uG.ok a1) h3) (xX 2 [(4,bv x2)] [] h4 zB)) ?_
  exact zN rfl
 ·refine wL (fun h5=>?_) (fun h5=>?_)
  ·refine J_g 6 [] [(2,bv true)] [] (zD 1 (xR [(.tmp 3)] [5] (uG.ok a1) h3) (xX 2 [(4,bv x2)] [] h4 (xX 6 [(8,bv (a1==46))] [] h5 zB))) ?_
   exact zN rfl
  ·refine wL (fun h6=>?_) (fun h6=>?_)
   ·refine J_g 6 [] [(2,bv true)] [] (zD 1 (xR [(.tmp 3)] [5] (uG.ok a1) h3) (xX 2 [(4,bv x2)] [] h4 (xX 6 [(8,bv (a1==46))] [] h5 (xX 10 [(12,bv (a1==45))] [] h6 zB)))) ?_
    exact zN rfl
   ·refine J_g 6 [] [(2,bv (a1==47))] [] (zD 1 (xR [(.tmp 3)] [5] (uG.ok a1) h3) (xX 2 [(4,bv x2)] [] h4 (xX 6 [(8,bv (a1==46))] [] h5 (xX 10 [(12,bv (a1==45))] [] h6 zB)))) ?_
    exact zN rfl
noncomputable def c203:Code:=(Tryz.f203.body).getD .skip
theorem tH.ok (a1:ByteArray) (q:Wd) (kn:Unit→Option (D×List Ent)) (hk:∀v:Unit,J (q.g Tryz.prog 203 0 23) c203 (atI c203 15) (St.mk' [] []) (some v) kn):
  ∀s11:Int,J (q.g Tryz.prog 203 0 23) c203 (atI c203 116) (St.mk' [(0,sv a1),(3,iv s11)] []) (tH a1 s11) (Fl.go (fun r:Int=>some (iv r,[])) kn):=by
 refine jL (fun g ih s11=>?_)
 unfold jG
 refine J_d 464 [] [15] [(15,bv (decide (s11< (a1.size:Int))))] [] [] zB ?_
 refine zF 15 (fun h12=>?_) (fun h12=>?_)
 ·refine zA (fun x13 h14=>?_)
  refine zA (fun x15 h16=>?_)
  refine J_d 1864 [] [15,22] [(22,bv (!x15))] [] [] (zD 2 (zKR (kk:=.i64) 9 (.tmp 18) (.tmp 19) h14) (zD 3 (xR [(.tmp 20)] [5] (zDw.ok x13) h16) zB)) ?_
  refine zF 22 (fun h17=>?_) (fun h17=>?_)
  ·refine J_g 7460 [] [(2,iv 5)] [] zB ?_
   exact zN rfl
  ·refine J_g 467 [] [(0,sv a1),(3,iv (w64 (s11+1)))] [] zB ?_
   exact J_q (J_b (ih (w64 (s11+1)))) rfl
 ·exact xD (hk ()) rfl
theorem vI.ok (a1:ByteArray):Ok Tryz.prog 203 [sv a1] [] ((vI a1).map fun r=>(iv r,[])):=by
 refine zG c203 Tryz.f203 0 23 (fun q=>?_)
 unfold vI
 refine J_g 2 [] [(0,sv a1)] [] zB ?_
 refine wB (atI c203 13) (fun v3:Bool=>St.mk' [(0,sv a1),(11,bv v3)] []) (fun v3=>?_) (fun jv3=>?_)
 ·refine zF 11 (fun h4=>?_) (fun h4=>?_)
  ·refine J_g 52 [] [(2,iv 5)] [] zB ?_
   exact zN rfl
  ·refine J_g 28 [] [(0,sv a1),(3,iv 0)] [] zB ?_
   refine uZ (K0:=(fun r:Int=>some (iv r,[]))) (fun _=>rfl) (tH.ok a1 q _ (fun v18=>J_j ?_) 0)
   refine J_g 30 [] [(2,iv 0)] [] zB ?_
   exact zN rfl
 ·refine wL (fun h2=>?_) (fun h2=>?_)
  ·refine J_g 12 [] [(0,sv a1),(11,bv true)] [] (xX 3 [(6,bv (decide ((a1.size:Int)<1)))] [] h2 zB) ?_
   exact xD (J_j (jv3 true)) rfl
  ·refine J_g 12 [] [(0,sv a1),(11,bv (decide ((a1.size:Int)>40)))] [] (xX 3 [(6,bv (decide ((a1.size:Int)<1)))] [] h2 zB) ?_
   exact xD (J_j (jv3 (decide ((a1.size:Int)>40)))) rfl
noncomputable def zLi:Code:=(Tryz.f169.body).getD .skip
theorem kU.ok (a1:zC) (q:Wd) (kn:Int→Option (D×List Ent)) (hk:∀v:Int,J (q.g Tryz.prog 169 1 26) zLi (atI zLi 15) (St.mk' [(3,iv v)] [(0,.box (zC.enc false a1))]) (some v) kn):
  ∀s5:(Int×Int),J (q.g Tryz.prog 169 1 26) zLi (atI zLi 116) (St.mk' [(0,pp 0),(3,iv s5.1),(4,iv s5.2)] [(0,.box (zC.enc false a1))]) (kU a1 s5) kn:=by
 refine jL (fun g ih s5=>?_)
 unfold jI
 refine J_d 464 [] [11] [(11,bv (decide (s5.2< (a1.Files.length:Int))))] [] [] zB ?_
 refine zF 11 (fun h6=>?_) (fun h6=>?_)
 ·refine zA (fun x7 h8=>?_)
  refine J_g 932 [] [(0,pp 0),(3,iv (w64 (s5.1+(x7.Data.length:Int)))),(4,iv s5.2)] [(0,.box (zC.enc false a1))] (zD 6 (vR (kk:=.i64) 27 124 2 (File.enc false) (.tmp 18) (.tmp 19) h8) zB) ?_
  refine J_d 467 [] [4] [(4,iv (w64 (s5.2+1)))] [] [] zB ?_
  exact J_q (J_b (ih (w64 (s5.1+(x7.Data.length:Int)),w64 (s5.2+1)))) rfl
 ·exact xD (hk s5.1) rfl
theorem wV.ok (a1:zC):Ok Tryz.prog 169 [pp 0] [.box (zC.enc false a1)] ((wV a1).map fun r=>(iv r,[.box (zC.enc false a1)])):=by
 refine zG zLi Tryz.f169 1 26 (fun q=>?_)
 unfold wV
 refine J_g 2 [] [(0,pp 0)] [(0,.box (zC.enc false a1))] zB ?_
 refine J_g 6 [] [(0,pp 0),(3,iv 0)] [(0,.box (zC.enc false a1))] zB ?_
 refine J_d 28 [] [4] [(4,iv 0)] [] [] zB ?_
 refine zE3 (kU.ok a1 q _ (fun v9=>J_j ?_) (0,0))
 refine J_d 30 [] [2,3] [(2,iv v9)] [] [] zB ?_
 exact zN rfl
noncomputable def zQc:Code:=(Tryz.f165.body).getD .skip
theorem uT.ok (a1:zC) (q:Wd) (kn:Unit→Option (D×List Ent)) (hk:∀v:Unit,J (q.g Tryz.prog 165 0 72) zQc (atI zQc 31) (St.mk' [(1,pp 0)] [(0,.box (zC.enc false a1))]) (some v) kn):
  ∀s29:Int,J (q.g Tryz.prog 165 0 72) zQc (atI zQc 244) (St.mk' [(1,pp 0),(3,iv s29)] [(0,.box (zC.enc false a1))]) (uT a1 s29) (Fl.go (fun r:Int=>some (iv r,[])) kn):=by
 refine jL (fun g ih s29=>?_)
 unfold jF
 refine J_d 976 [] [29] [(29,bv (decide (s29< (a1.Files.length:Int))))] [] [] zB ?_
 refine zF 29 (fun h30=>?_) (fun h30=>?_)
 ·refine zA (fun x31 h32=>?_)
  refine zA (fun x33 h34=>?_)
  refine J_g 7824 [] [(1,pp 0),(3,iv s29),(4,iv x33)] [(0,.box (zC.enc false a1))] (zD 3 (vR (kk:=.i64) 27 124 2 (File.enc false) (.tmp 33) (.tmp 34) h32) (zD 6 (xR [(.tmp 37)] [9] (vI.ok x31.Path) h34) zB)) ?_
  refine J_d 15650 [] [40] [(40,bv (x33 !=0))] [] [] zB ?_
  refine zF 40 (fun h35=>?_) (fun h35=>?_)
  ·refine J_g 62604 [] [(2,iv x33)] [] zB ?_
   exact zN rfl
  ·refine wB (atI zQc 15653) (fun v41:Bool=>St.mk' [(1,pp 0),(3,iv s29),(59,bv v41)] [(0,.box (zC.enc false a1))]) (fun v41=>?_) (fun jv41=>?_)
   ·refine zF 59 (fun h42=>?_) (fun h42=>?_)
    ·refine J_g 62612 [] [(2,iv 1)] [] zB ?_
     exact zN rfl
    ·refine zA (fun x43 h44=>?_)
     refine J_d 15654 [] [59,67] [(67,bv (decide ((x43.Data.length:Int)>4000)))] [] [] (zD 3 (vR (kk:=.i64) 27 124 2 (File.enc false) (.tmp 61) (.tmp 62) h44) zB) ?_
     refine zF 67 (fun h45=>?_) (fun h45=>?_)
     ·refine J_g 62620 [] [(2,iv 2)] [] zB ?_
      exact zN rfl
     ·refine J_d 979 [] [3,67] [(3,iv (w64 (s29+1)))] [] [] zB ?_
      exact J_q (J_b (ih (w64 (s29+1)))) rfl
   ·refine wL (fun h36=>?_) (fun h36=>?_)
    ·refine zA (fun x37 h38=>?_)
     refine zA (fun x39 h40=>?_)
     refine J_d 15652 [] [4,40,59] [(59,bv (slt x37.Path x39.Path||seq x37.Path x39.Path))] [] [] (xX 2 [(43,bv (decide (s29>0)))] [] h36 (zBV 6 2 44 true (vR (kk:=.i64) 27 124 2 (File.enc false) (.tmp 46) (.tmp 47) h38) (zBV 13 2 44 true (vR (kk:=.i64) 27 124 2 (File.enc false) (.tmp 52) (.tmp 54) h40) zB))) ?_
     exact xD (J_j (jv41 (slt x37.Path x39.Path||seq x37.Path x39.Path))) rfl
    ·refine J_d 15652 [] [4,40,59] [(59,bv false)] [] [] (xX 2 [(43,bv (decide (s29>0)))] [] h36 zB) ?_
     exact xD (J_j (jv41 false)) rfl
 ·exact xD (hk ()) rfl
theorem vJ.ok (a1:zC):Ok Tryz.prog 165 [.ag (zC.enc false a1)] [] ((vJ a1).map fun r=>(iv r,[])):=by
 refine zG zQc Tryz.f165 0 72 (fun q=>?_)
 unfold vJ
 refine J_g 2 [(0,0)] [(1,pp 0)] [(0,.box (zC.enc false a1))] zB ?_
 refine zA (fun x2 h3=>?_)
 refine wB (atI zQc 13) (fun v10:Bool=>St.mk' [(1,pp 0),(20,bv v10)] [(0,.box (zC.enc false a1))]) (fun v10=>?_) (fun jv10=>?_)
 ·refine zF 20 (fun h11=>?_) (fun h11=>?_)
  ·refine J_g 52 [] [(2,iv 3)] [] zB ?_
   exact zN rfl
  ·refine J_d 28 [] [20,24] [(24,bv (decide ((a1.Files.length:Int)>120)))] [] [] zB ?_
   refine zF 24 (fun h12=>?_) (fun h12=>?_)
   ·refine J_g 116 [] [(2,iv 2)] [] zB ?_
    exact zN rfl
   ·refine J_d 60 [] [3,24] [(3,iv 0)] [] [] zB ?_
    refine uZ (K0:=(fun r:Int=>some (iv r,[]))) (fun _=>rfl) (uT.ok a1 q _ (fun v46=>J_j ?_) 0)
    refine zA (fun x47 h48=>?_)
    refine J_g 124 [] [(71,bv (decide (x47>a1.Budget)))] [] (zD 0 (zEU [(0,.box (zC.enc false a1))] [] (vX («as»:=[pp 0]) [(.tmp 1)] [75] false [(0,.box (zC.enc false a1))] [0] (.cons (.pt rfl) (.nil)) (wV.ok a1) h48 (.same rfl rfl))) zB) ?_
    refine zF 71 (fun h49=>?_) (fun h49=>?_)
    ·refine J_g 500 [] [(2,iv 8)] [] zB ?_
     exact zN rfl
    ·refine J_g 126 [] [(2,iv 0)] [] zB ?_
     exact zN rfl
 ·refine wL (fun h4=>?_) (fun h4=>?_)
  ·refine J_d 12 [] [20] [(20,bv true)] [] [] (zD 2 (xR [(.tmp 6),(.const (.int .i64 0)),(.const (.int .i64 20000))] [2,2,2] (xS.ok a1.Budget 0 20000) h3) (xX 4 [(8,bv (!x2))] [] h4 zB)) ?_
   exact xD (J_j (jv10 true)) rfl
  ·refine zA (fun x5 h6=>?_)
   refine wL (fun h7=>?_) (fun h7=>?_)
   ·refine J_d 12 [] [20] [(20,bv true)] [] [] (zD 2 (xR [(.tmp 6),(.const (.int .i64 0)),(.const (.int .i64 20000))] [2,2,2] (xS.ok a1.Budget 0 20000) h3) (xX 4 [(8,bv (!x2))] [] h4 (zBV 7 4 9 false (xR [(.tmp 11),(.const (.int .i64 0)),(.const (.int .i64 1000000000))] [2,2,2] (xS.ok a1.Writes 0 1000000000) h6) (xX 10 [(14,bv (!x5))] [] h7 zB)))) ?_
    exact xD (J_j (jv10 true)) rfl
   ·refine zA (fun x8 h9=>?_)
    refine J_d 12 [] [20] [(20,bv (!x8))] [] [] (zD 2 (xR [(.tmp 6),(.const (.int .i64 0)),(.const (.int .i64 20000))] [2,2,2] (xS.ok a1.Budget 0 20000) h3) (xX 4 [(8,bv (!x2))] [] h4 (zBV 7 4 9 false (xR [(.tmp 11),(.const (.int .i64 0)),(.const (.int .i64 1000000000))] [2,2,2] (xS.ok a1.Writes 0 1000000000) h6) (xX 10 [(14,bv (!x5))] [] h7 (zBV 13 10 15 false (xR [(.tmp 17),(.const (.int .i64 (-1))),(.const (.int .i64 1000000000))] [2,2,2] (xS.ok a1.Stop (-1) 1000000000) h9) zB))))) ?_
    exact xD (J_j (jv10 (!x8))) rfl
noncomputable def zSe:Code:=(Tryz.f100.body).getD .skip
theorem zCs.ok (a1:(List Pack)) (a2:zC):Ok Tryz.prog 100 [sl 8 (Pack.enc false) a1,.ag (zC.enc false a2)] [] ((zCs a1 a2).map fun r=>(iv r,[])):=by
 refine zG zSe Tryz.f100 0 13 (fun q=>?_)
 unfold zCs
 refine J_d 2 [(0,0)] [1,3] [(3,pp 0)] [0] [(0,.box (zC.enc false a2))] zB ?_
 refine zA (fun x3 h4=>?_)
 refine J_g 12 [] [(3,pp 0),(5,iv x3)] [(0,.box (zC.enc false a2))] (zD 1 (xR [(.tmp 6)] [53] (tC.ok a1) h4) zB) ?_
 refine J_d 26 [] [9] [(9,bv (x3 !=0))] [] [] zB ?_
 refine zF 9 (fun h5=>?_) (fun h5=>?_)
 ·refine J_g 108 [] [(4,iv x3)] [] zB ?_
  exact zN rfl
 ·refine zA (fun x6 h7=>?_)
  refine J_g 14 [] [(4,iv x6)] [] (zD 1 (xR [(.tmp 11)] [29] (vJ.ok a2) h7) zB) ?_
  exact zN rfl
noncomputable def c50:Code:=(Tryz.f50.body).getD .skip
theorem zCh.ok (a1:(List Pack)) (a2:zC):Ok Tryz.prog 50 [sl 8 (Pack.enc false) a1,.ag (zC.enc false a2)] [] ((zCh a1 a2).map fun r=>(iv r,[])):=by
 refine zG c50 Tryz.f50 0 14 (fun q=>?_)
 unfold zCh
 refine J_d 2 [(0,0)] [1,3] [(3,pp 0)] [0] [(0,.box (zC.enc false a2))] zB ?_
 refine zA (fun x3 h4=>?_)
 refine J_g 12 [] [(3,pp 0),(5,iv x3)] [(0,.box (zC.enc false a2))] (zD 2 (xR [(.tmp 6),(.tmp 7)] [53,29] (zCs.ok a1 a2) h4) zB) ?_
 refine J_d 26 [] [10] [(10,bv (x3 !=0))] [] [] zB ?_
 refine zF 10 (fun h5=>?_) (fun h5=>?_)
 ·refine J_g 108 [] [(4,iv x3)] [] zB ?_
  exact zN rfl
 ·refine J_g 28 [] [(13,bv a2.Down)] [] zB ?_
  refine zF 13 (fun h6=>?_) (fun h6=>?_)
  ·refine J_g 116 [] [(4,iv 9)] [] zB ?_
   exact zN rfl
  ·refine J_g 30 [] [(4,iv 0)] [] zB ?_
   exact zN rfl
noncomputable def c51:Code:=(Tryz.f51.body).getD .skip
theorem zAU.ok (a1:zC) (q:Wd) (kn:(List File)→Option (D×List Ent)) (hk:∀v:(List File),J (q.g Tryz.prog 51 0 35) c51 (atI c51 31) (St.mk' [(2,pp 1),(3,pp 2)] [(1,.box [nv,iv 0,iv 0,iv 0,bv false]),(2,.box [rr 3 v,iv a1.Budget,iv a1.Writes,iv a1.Stop,bv a1.Down]),(3,rE 2 (File.enc true) v)]) (some v) kn):
  ∀s20:((List File)×Int),J (q.g Tryz.prog 51 0 35) c51 (atI c51 244) (St.mk' [(1,pp 0),(2,pp 1),(3,pp 2),(4,iv s20.2)] [(0,.box (zC.enc false a1)),(1,.box [nv,iv 0,iv 0,iv 0,bv false]),(2,.box [rr 3 s20.1,iv a1.Budget,iv a1.Writes,iv a1.Stop,bv a1.Down]),(3,rE 2 (File.enc true) s20.1)]) (zAU a1 s20) kn:=by
 refine jL (fun g ih s20=>?_)
 unfold zBq
 refine J_d 976 [] [11] [(11,bv (decide (s20.2< (a1.Files.length:Int))))] [] [] zB ?_
 refine zF 11 (fun h21=>?_) (fun h21=>?_)
 ·refine zA (fun x22 h23=>?_)
  refine zA (fun x24 h25=>?_)
  refine zA (fun x26 h27=>?_)
  refine zA (fun x28 h29=>?_)
  refine J_g 1956 [] [(1,pp 0),(2,pp 1),(3,pp 2),(4,iv s20.2)] [(0,.box (zC.enc false a1)),(1,.box [nv,iv 0,iv 0,iv 0,bv false]),(2,.box [rr 7 x28,iv a1.Budget,iv a1.Writes,iv a1.Stop,bv a1.Down]),(7,rE 2 (File.enc true) x28)] (zD 5 (vR (kk:=.i64) 27 124 2 (File.enc false) (.tmp 17) (.tmp 18) h23) (zD 8 (zFm 22 5 1 4 eU8 ([]:List Int) [] [] []) (zD 12 (vR (kk:=.i64) 27 124 2 (File.enc false) (.tmp 24) (.tmp 25) h25) (zD 15 (zOm 22 22 5 5 1 1 5 4 eU8 (.tmp 22) (.tmp 28) h27) (zD 17 (zQQ (ds:=[sv x22.Path,rr 5 x26]) (ts:=[5]) 27 124 2 6 (File.enc true) [({Path:=x22.Path,Data:=x26}:File)] [0] [(.tmp 30)] [.ag [sv x22.Path,rr 5 x26]] [(5,rE 1 eU8 x26)] (.keep rfl (.move (.head _) (List.length_map _) (by decide) (.nil)))) (zD 18 (zII 27 27 124 124 2 40 7 3 6 (File.enc true) (.tmp 15) (.tmp 31) h29) zB)))))) ?_
  refine J_d 979 [] [4] [(4,iv (w64 (s20.2+1)))] [] [] zB ?_
  refine zDV 7 3 (Nat.le_of_ble_eq_true rfl) (Nat.le_of_ble_eq_true rfl) ?_
  exact J_q (J_b (ih (x28,w64 (s20.2+1)))) rfl
 ·exact xD (hk s20.1) rfl
theorem zB2.ok (a1:zC):Ok Tryz.prog 51 [.ag (zC.enc false a1)] [] ((zB2 a1).map fun r=>(.ag (zC.enc true r),[])):=by
 refine zG c51 Tryz.f51 0 35 (fun q=>?_)
 unfold zB2
 refine J_g 2 [(0,0),(1,1)] [(1,pp 0),(2,pp 1)] [(0,.box (zC.enc false a1)),(1,.box [nv,iv 0,iv 0,iv 0,bv false])] zB ?_
 refine J_g 6 [(1,2)] [(1,pp 0),(2,pp 1),(3,pp 2)] [(0,.box (zC.enc false a1)),(1,.box [nv,iv 0,iv 0,iv 0,bv false]),(2,.box (zC.enc false a1))] zB ?_
 refine J_g 14 [] [(1,pp 0),(2,pp 1),(3,pp 2)] [(0,.box (zC.enc false a1)),(1,.box [nv,iv 0,iv 0,iv 0,bv false]),(2,.box [nv,iv a1.Budget,iv a1.Writes,iv a1.Stop,bv a1.Down])] zB ?_
 refine J_d 60 [] [4] [(4,iv 0)] [] [] zB ?_
 refine zPs 2 0 3 2 rfl rfl (Nat.le_of_ble_eq_true rfl) (by kernel_rfl) ?_
 refine zE3 (zAU.ok a1 q _ (fun v30=>J_j ?_) (([]:List File),0))
 refine J_g 62 [] [(2,pp 1)] [(1,.box [rr 3 v30,iv a1.Budget,iv a1.Writes,iv a1.Stop,bv a1.Down]),(3,rE 2 (File.enc true) v30)] zB ?_
 exact zEH (ds:=[.ag [rr 3 v30,iv a1.Budget,iv a1.Writes,iv a1.Stop,bv a1.Down]]) (ds':=[.ag [so 2 (File.enc true) v30,iv a1.Budget,iv a1.Writes,iv a1.Stop,bv a1.Down]]) (.cons (.ag (.move (.tail _ (.head _)) (List.length_map _) (by decide) (.keep rfl (.keep rfl (.keep rfl (.keep rfl (.nil))))))) (.nil) (by decide)) rfl
noncomputable def zQl:Code:=(Tryz.f101.body).getD .skip
theorem zDS.ok (a1:(List Pack)) (a2:(List Int)) (q:Wd) (kn:Unit→Option (D×List Ent)) (hk:∀v:Unit,J (q.g Tryz.prog 101 0 37) zQl (atI zQl 7) (St.mk' [] []) (some v) kn):
  ∀s16:Int,J (q.g Tryz.prog 101 0 37) zQl (atI zQl 52) (St.mk' [(0,sl 8 (Pack.enc false) a1),(1,sl 1 zK a2),(5,iv s16)] []) (zDS a1 a2 s16) (Fl.go (fun r:Bool=>some (bv r,[])) kn):=by
 refine jL (fun g ih s16=>?_)
 unfold zDl
 refine J_d 208 [] [9] [(9,bv (decide (s16< (a2.length:Int))))] [] [] zB ?_
 refine zF 9 (fun h17=>?_) (fun h17=>?_)
 ·refine zA (fun x18 h19=>?_)
  refine zA (fun x20 h21=>?_)
  refine wB (atI zQl 841) (fun v28:Bool=>St.mk' [(0,sl 8 (Pack.enc false) a1),(1,sl 1 zK a2),(5,iv s16),(36,bv v28)] []) (fun v28=>?_) (fun jv28=>?_)
  ·refine zF 36 (fun h29=>?_) (fun h29=>?_)
   ·refine J_g 3364 [] [(4,bv false)] [] zB ?_
    exact zN rfl
   ·refine J_d 211 [] [5,36] [(5,iv (w64 (s16+1)))] [] [] zB ?_
    exact J_q (J_b (ih (w64 (s16+1)))) rfl
  ·refine wL (fun h22=>?_) (fun h22=>?_)
   ·refine J_d 840 [] [9,36] [(36,bv true)] [] [] (zD 2 (vR (kk:=.i64) 49 2 1 zK (.tmp 12) (.tmp 13) h19) (zD 7 (xR [(.tmp 15),(.const (.int .i64 0)),(.tmp 18)] [2,2,2] (xS.ok x18 0 (w64 ((a1.length:Int)-1))) h21) (xX 9 [(20,bv (!x20))] [] h22 (zFG 12 (zF7 (i:=12) (g:=9) (t:=21) (b:=false) (v:=(.bool true)) (.inl rfl) (by kernel_rfl) (by kernel_rfl)) (zFG 13 (zF7 (i:=13) (g:=12) (t:=24) (b:=true) (v:=undef) (.inr rfl) (by kernel_rfl) (by kernel_rfl)) (zFG 14 (zF7 (i:=14) (g:=12) (t:=24) (b:=true) (v:=undef) (.inr rfl) (by kernel_rfl) (by kernel_rfl)) (zFG 15 (zF7 (i:=15) (g:=12) (t:=24) (b:=true) (v:=undef) (.inr rfl) (by kernel_rfl) (by kernel_rfl)) (zFG 16 (zF7 (i:=16) (g:=12) (t:=24) (b:=true) (v:=undef) (.inr rfl) (by kernel_rfl) (by kernel_rfl)) (zFG 17 (zF7 (i:=17) (g:=12) (t:=24) (b:=true) (v:=undef) (.inr rfl) (by kernel_rfl) (by kernel_rfl)) (zFG 18 (zF7 (i:=18) (g:=12) (t:=24) (b:=true) (v:=undef) (.inr rfl) (by kernel_rfl) (by kernel_rfl)) (zFG 19 (zF7 (i:=19) (g:=12) (t:=24) (b:=true) (v:=undef) (.inr rfl) (by kernel_rfl) (by kernel_rfl)) (zFG 20 (zF7 (i:=20) (g:=12) (t:=24) (b:=true) (v:=undef) (.inr rfl) (by kernel_rfl) (by kernel_rfl)) (zFG 21 (zF7 (i:=21) (g:=12) (t:=24) (b:=true) (v:=undef) (.inr rfl) (by kernel_rfl) (by kernel_rfl)) (zFG 22 (zF7 (i:=22) (g:=12) (t:=24) (b:=true) (v:=undef) (.inr rfl) (by kernel_rfl) (by kernel_rfl)) zB)))))))))))))) ?_
    exact xD (J_j (jv28 true)) rfl
   ·refine wL (fun h23=>?_) (fun h23=>?_)
    ·refine zA (fun x24 h25=>?_)
     refine zA (fun x26 h27=>?_)
     refine J_d 840 [] [9,36] [(36,bv (decide (x24≤x26)))] [] [] (zD 2 (vR (kk:=.i64) 49 2 1 zK (.tmp 12) (.tmp 13) h19) (zD 7 (xR [(.tmp 15),(.const (.int .i64 0)),(.tmp 18)] [2,2,2] (xS.ok x18 0 (w64 ((a1.length:Int)-1))) h21) (xX 9 [(20,bv (!x20))] [] h22 (zGN 12 9 21 false [(23,bv (decide (s16>0)))] [] h23 (zBV 15 12 24 true (vR (kk:=.i64) 49 2 1 zK (.tmp 25) (.tmp 26) h25) (zBV 20 12 24 true (vR (kk:=.i64) 49 2 1 zK (.tmp 29) (.tmp 31) h27) zB)))))) ?_
     exact xD (J_j (jv28 (decide (x24≤x26)))) rfl
    ·refine J_d 840 [] [9,36] [(36,bv false)] [] [] (zD 2 (vR (kk:=.i64) 49 2 1 zK (.tmp 12) (.tmp 13) h19) (zD 7 (xR [(.tmp 15),(.const (.int .i64 0)),(.tmp 18)] [2,2,2] (xS.ok x18 0 (w64 ((a1.length:Int)-1))) h21) (xX 9 [(20,bv (!x20))] [] h22 (zGN 12 9 21 false [(23,bv (decide (s16>0)))] [] h23 zB)))) ?_
     exact xD (J_j (jv28 false)) rfl
 ·exact xD (hk ()) rfl
theorem zDG.ok (a1:(List Pack)) (a2:(List Int)):Ok Tryz.prog 101 [sl 8 (Pack.enc false) a1,sl 1 zK a2] [] ((zDG a1 a2).map fun r=>(bv r,[])):=by
 refine zG zQl Tryz.f101 0 37 (fun q=>?_)
 unfold zDG
 refine J_g 2 [] [(0,sl 8 (Pack.enc false) a1),(1,sl 1 zK a2)] [] zB ?_
 refine J_d 12 [] [5] [(5,iv 0)] [] [] zB ?_
 refine uZ (K0:=(fun r:Bool=>some (bv r,[]))) (fun _=>rfl) (zDS.ok a1 a2 q _ (fun v30=>J_j ?_) 0)
 refine J_g 14 [] [(4,bv true)] [] zB ?_
 exact zN rfl
noncomputable def zRS:Code:=(Tryz.f263.body).getD .skip
theorem jS.ok (a1:Term) (a2:ByteArray) (a3:Version):Ok Tryz.prog 263 [.ag (Term.enc a1),sv a2,.ag (Version.enc a3)] [] ((jS a1 a2 a3).map fun r=>(bv r,[])):=by
 refine zG zRS Tryz.f263 0 25 (fun q=>?_)
 unfold jS
 refine J_g 2 [(0,0),(1,1)] [(1,sv a2),(3,pp 0),(5,pp 1)] [(0,.box (Term.enc a1)),(1,.box (Version.enc a3))] zB ?_
 refine wL (fun h4=>?_) (fun h4=>?_)
 ·refine zA (fun x5 h6=>?_)
  refine wL (fun h7=>?_) (fun h7=>?_)
  ·refine zA (fun x8 h9=>?_)
   refine J_g 6 [] [(6,bv (decide (x8<0)))] [] (xX 4 [(10,bv (seq a1.Name a2))] [] h4 (zBV 8 4 11 true (xR [(.tmp 12),(.tmp 14)] [39,39] (yS.ok a3 a1.Low) h6) (xX 11 [(17,bv (decide (x5≥0)))] [] h7 (zBV 15 11 18 true (xR [(.tmp 19),(.tmp 21)] [39,39] (yS.ok a3 a1.High) h9) zB)))) ?_
   exact zN rfl
  ·refine J_g 6 [] [(6,bv false)] [] (xX 4 [(10,bv (seq a1.Name a2))] [] h4 (zBV 8 4 11 true (xR [(.tmp 12),(.tmp 14)] [39,39] (yS.ok a3 a1.Low) h6) (xX 11 [(17,bv (decide (x5≥0)))] [] h7 zB))) ?_
   exact zN rfl
 ·refine J_g 6 [] [(6,bv false)] [] (xX 4 [(10,bv (seq a1.Name a2))] [] h4 zB) ?_
  exact zN rfl
noncomputable def zSi:Code:=(Tryz.f241.body).getD .skip
theorem zC4.ok (a1:Pack) (a2:Term):Ok Tryz.prog 241 [.ag (Pack.enc false a1),.ag (Term.enc a2)] [] ((zC4 a1 a2).map fun r=>(bv r,[])):=by
 refine zG zSi Tryz.f241 0 25 (fun q=>?_)
 unfold zC4
 refine J_g 2 [(0,0),(1,1)] [(2,pp 0),(3,pp 1)] [(0,.box (Pack.enc false a1)),(1,.box (Term.enc a2))] zB ?_
 refine wL (fun h3=>?_) (fun h3=>?_)
 ·refine zA (fun x4 h5=>?_)
  refine J_g 6 [] [(4,bv x4)] [] (xX 5 [(9,bv (seq a2.Name a1.Name))] [] h3 (zBV 18 12 17 true (xR [(.tmp 18),(.tmp 20),(.tmp 22)] [41,9,39] (jS.ok a2 a2.Name a1.Version) h5) zB)) ?_
  exact zN rfl
 ·refine zA (fun x6 h7=>?_)
  refine wL (fun h8=>?_) (fun h8=>?_)
  ·refine zA (fun x9 h10=>?_)
   refine J_g 6 [] [(4,bv x9)] [] (xX 5 [(9,bv (seq a2.Name a1.Name))] [] h3 (zBV 10 5 10 false (xR [(.tmp 12),(.tmp 14)] [90,9] (jV.ok a1.Provides a2.Name) h7) (xX 12 [(16,bv x6)] [] h8 (zBV 18 12 17 true (xR [(.tmp 18),(.tmp 20),(.tmp 22)] [41,9,39] (jS.ok a2 a2.Name a1.Version) h10) zB)))) ?_
   exact zN rfl
  ·refine J_g 6 [] [(4,bv false)] [] (xX 5 [(9,bv (seq a2.Name a1.Name))] [] h3 (zBV 10 5 10 false (xR [(.tmp 12),(.tmp 14)] [90,9] (jV.ok a1.Provides a2.Name) h7) (xX 12 [(16,bv x6)] [] h8 zB))) ?_
   exact zN rfl
noncomputable def zQg:Code:=(Tryz.f205.body).getD .skip
theorem zCm.ok (a1:(List Pack)) (a2:(List Int)) (a3:Term) (a4:Int) (q:Wd) (kn:Unit→Option (D×List Ent)) (hk:∀v:Unit,J (q.g Tryz.prog 205 0 33) zQg (atI zQg 7) (St.mk' [] []) (some v) kn):
  ∀s17:Int,J (q.g Tryz.prog 205 0 33) zQg (atI zQg 52) (St.mk' [(0,sl 8 (Pack.enc false) a1),(1,sl 1 zK a2),(3,iv a4),(6,pp 0),(9,iv s17)] [(0,.box (Term.enc a3))]) (zCm a1 a2 a3 a4 s17) (Fl.go (fun r:Bool=>some (bv r,[])) kn):=by
 refine jL (fun g ih s17=>?_)
 unfold zBO
 refine J_d 208 [] [13] [(13,bv (decide (s17< (a2.length:Int))))] [] [] zB ?_
 refine zF 13 (fun h18=>?_) (fun h18=>?_)
 ·refine zA (fun x19 h20=>?_)
  refine wB (atI zQg 841) (fun v28:Bool=>St.mk' [(0,sl 8 (Pack.enc false) a1),(1,sl 1 zK a2),(3,iv a4),(6,pp 0),(9,iv s17),(32,bv v28)] [(0,.box (Term.enc a3))]) (fun v28=>?_) (fun jv28=>?_)
  ·refine zF 32 (fun h29=>?_) (fun h29=>?_)
   ·refine J_g 3364 [] [(8,bv true)] [] zB ?_
    exact zN rfl
   ·refine J_d 211 [] [9,32] [(9,iv (w64 (s17+1)))] [] [] zB ?_
    exact J_q (J_b (ih (w64 (s17+1)))) rfl
  ·refine wL (fun h21=>?_) (fun h21=>?_)
   ·refine zA (fun x22 h23=>?_)
    refine zA (fun x24 h25=>?_)
    refine zA (fun x26 h27=>?_)
    refine J_d 840 [] [13,32] [(32,bv x26)] [] [] (zD 2 (vR (kk:=.i64) 49 2 1 zK (.tmp 16) (.tmp 17) h20) (xX 6 [(21,bv (x19 !=a4))] [] h21 (zBV 10 6 22 true (vR (kk:=.i64) 49 2 1 zK (.tmp 24) (.tmp 25) h23) (zBV 12 6 22 true (vR (kk:=.i64) 53 102 8 (Pack.enc false) (.tmp 23) (.tmp 27) h25) (zBV 15 6 22 true (xR [(.tmp 29),(.tmp 30)] [102,41] (zC4.ok x24 a3) h27) zB))))) ?_
    exact xD (J_j (jv28 x26)) rfl
   ·refine J_d 840 [] [13,32] [(32,bv false)] [] [] (zD 2 (vR (kk:=.i64) 49 2 1 zK (.tmp 16) (.tmp 17) h20) (xX 6 [(21,bv (x19 !=a4))] [] h21 zB)) ?_
    exact xD (J_j (jv28 false)) rfl
 ·exact xD (hk ()) rfl
theorem zAs.ok (a1:(List Pack)) (a2:(List Int)) (a3:Term) (a4:Int):Ok Tryz.prog 205 [sl 8 (Pack.enc false) a1,sl 1 zK a2,.ag (Term.enc a3),iv a4] [] ((zAs a1 a2 a3 a4).map fun r=>(bv r,[])):=by
 refine zG zQg Tryz.f205 0 33 (fun q=>?_)
 unfold zAs
 refine J_g 2 [(0,0)] [(0,sl 8 (Pack.enc false) a1),(1,sl 1 zK a2),(3,iv a4),(6,pp 0)] [(0,.box (Term.enc a3))] zB ?_
 refine J_d 12 [] [9] [(9,iv 0)] [] [] zB ?_
 refine uZ (K0:=(fun r:Bool=>some (bv r,[]))) (fun _=>rfl) (zCm.ok a1 a2 a3 a4 q _ (fun v30=>J_j ?_) 0)
 refine J_g 14 [] [(8,bv false)] [] zB ?_
 exact zN rfl
noncomputable def zQ7:Code:=(Tryz.f204.body).getD .skip
theorem zDN.ok (a1:(List Pack)) (a2:(List Int)) (a3:(List Term)) (q:Wd) (kn:Unit→Option (D×List Ent)) (hk:∀v:Unit,J (q.g Tryz.prog 204 0 21) zQ7 (atI zQ7 7) (St.mk' [] []) (some v) kn):
  ∀s10:Int,J (q.g Tryz.prog 204 0 21) zQ7 (atI zQ7 52) (St.mk' [(0,sl 8 (Pack.enc false) a1),(1,sl 1 zK a2),(2,sl 7 Term.enc a3),(7,iv s10)] []) (zDN a1 a2 a3 s10) (Fl.go (fun r:Bool=>some (bv r,[])) kn):=by
 refine jL (fun g ih s10=>?_)
 unfold zDe
 refine J_d 208 [] [11] [(11,bv (decide (s10< (a3.length:Int))))] [] [] zB ?_
 refine zF 11 (fun h11=>?_) (fun h11=>?_)
 ·refine zA (fun x12 h13=>?_)
  refine zA (fun x14 h15=>?_)
  refine J_d 840 [] [11,20] [(20,bv x14)] [] [] (zD 4 (vR (kk:=.i64) 24 41 7 Term.enc (.tmp 16) (.tmp 17) h13) (zD 6 (xR [(.tmp 14),(.tmp 15),(.tmp 19),(.const (.int .i64 (-1)))] [53,49,41,2] (zAs.ok a1 a2 x12 (-1)) h15) zB)) ?_
  refine zF 20 (fun h16=>?_) (fun h16=>?_)
  ·refine J_g 3364 [] [(6,bv true)] [] zB ?_
   exact zN rfl
  ·refine J_d 211 [] [7,20] [(7,iv (w64 (s10+1)))] [] [] zB ?_
   exact J_q (J_b (ih (w64 (s10+1)))) rfl
 ·exact xD (hk ()) rfl
theorem zDZ.ok (a1:(List Pack)) (a2:(List Int)) (a3:(List Term)):Ok Tryz.prog 204 [sl 8 (Pack.enc false) a1,sl 1 zK a2,sl 7 Term.enc a3] [] ((zDZ a1 a2 a3).map fun r=>(bv r,[])):=by
 refine zG zQ7 Tryz.f204 0 21 (fun q=>?_)
 unfold zDZ
 refine J_g 2 [] [(0,sl 8 (Pack.enc false) a1),(1,sl 1 zK a2),(2,sl 7 Term.enc a3)] [] zB ?_
 refine J_d 12 [] [7] [(7,iv 0)] [] [] zB ?_
 refine uZ (K0:=(fun r:Bool=>some (bv r,[]))) (fun _=>rfl) (zDN.ok a1 a2 a3 q _ (fun v17=>J_j ?_) 0)
 refine J_g 14 [] [(6,bv false)] [] zB ?_
 exact zN rfl
noncomputable def zJ5:Code:=(Tryz.f166.body).getD .skip
theorem zBD.ok (a1:(List Pack)) (a2:(List Int)) (s82:((List zQ)×Int)) (x86:Pack) (q:Wd) (kn:(List zQ)→Option (D×List Ent)) (hk:∀v:(List zQ),J (q.g Tryz.prog 166 0 103) zJ5 (aft zJ5 932) (St.mk' [(0,sl 8 (Pack.enc false) a1),(1,sl 1 zK a2),(5,rr 0 v),(6,iv s82.2)] [(0,rE 3 zQ.enc v)]) (some v) kn):
  ∀s147:((List zQ)×Int),J (q.g Tryz.prog 166 0 103) zJ5 (atI zJ5 59708) (St.mk' [(0,sl 8 (Pack.enc false) a1),(1,sl 1 zK a2),(5,rr 0 s147.1),(6,iv s82.2),(7,pp 1),(10,iv s147.2)] [(0,rE 3 zQ.enc s147.1),(1,.box (Pack.enc false x86))]) (zBD a1 a2 s82 x86 s147) kn:=by
 refine jL (fun g ih s147=>?_)
 unfold zAZ
 refine J_d 238832 [] [78] [(78,bv (decide (s147.2< (x86.Bars.length:Int))))] [] [] zB ?_
 refine zF 78 (fun h148=>?_) (fun h148=>?_)
 ·refine zA (fun x149 h150=>?_)
  refine zA (fun x151 h152=>?_)
  refine zA (fun x153 h154=>?_)
  refine J_d 955336 [] [78,92] [(92,bv x153)] [] [] (zD 5 (vR (kk:=.i64) 24 41 7 Term.enc (.tmp 84) (.tmp 85) h150) (zD 9 (vR (kk:=.i64) 49 2 1 zK (.tmp 88) (.tmp 89) h152) (zD 11 (xR [(.tmp 81),(.tmp 82),(.tmp 87),(.tmp 91)] [53,49,41,2] (zAs.ok a1 a2 x149 x151) h154) zB))) ?_
  refine wB (aft zJ5 477668) (fun v160:(List zQ)=>St.mk' [(0,sl 8 (Pack.enc false) a1),(1,sl 1 zK a2),(5,rr 3 v160),(6,iv s82.2),(7,pp 1),(10,iv s147.2)] [(1,.box (Pack.enc false x86)),(3,rE 3 zQ.enc v160)]) (fun v160=>?_) (fun jv160=>?_)
  ·refine J_d 238835 [] [10] [(10,iv (w64 (s147.2+1)))] [] [] zB ?_
   refine zDV 3 0 (Nat.le_of_ble_eq_true rfl) (Nat.le_of_ble_eq_true rfl) ?_
   exact J_q (J_b (ih (v160,w64 (s147.2+1)))) rfl
  ·refine zF 92 (fun h155=>?_) (fun h155=>?_)
   ·refine zA (fun x156 h157=>?_)
    refine zA (fun x158 h159=>?_)
    refine J_d 1910674 [] [5,92] [(5,rr 3 x158)] [0,3] [(3,rE 3 zQ.enc x158)] (zD 3 (vR (kk:=.i64) 49 2 1 zK (.tmp 94) (.tmp 95) h157) (zD 7 (zFm 202 229 3 2 zQ.enc [({Kind:=3,Pack:=x156,At:=s147.2}:zQ)] [0] [(.tmp 99)] [.ag [iv 3,iv x156,iv s147.2]]) (zD 8 (zII 202 202 229 229 3 24 3 0 2 zQ.enc (.tmp 93) (.tmp 100) h159) zB))) ?_
    exact xD (J_j (jv160 x158)) rfl
   ·refine zDV 0 3 (Nat.le_of_ble_eq_true rfl) (Nat.le_of_ble_eq_true rfl) ?_
    exact xD (J_j (jv160 s147.1)) rfl
 ·exact xD (hk s147.1) rfl
theorem zB7.ok (a1:(List Pack)) (a2:(List Int)) (s82:((List zQ)×Int)) (x86:Pack) (q:Wd) (kn:(List zQ)→Option (D×List Ent)) (hk:∀v:(List zQ),J (q.g Tryz.prog 166 0 103) zJ5 (atI zJ5 7463) (St.mk' [(0,sl 8 (Pack.enc false) a1),(1,sl 1 zK a2),(5,rr 0 v),(6,iv s82.2),(7,pp 1)] [(0,rE 3 zQ.enc v),(1,.box (Pack.enc false x86))]) (some v) kn):
  ∀s121:((List zQ)×Int),J (q.g Tryz.prog 166 0 103) zJ5 (atI zJ5 59700) (St.mk' [(0,sl 8 (Pack.enc false) a1),(1,sl 1 zK a2),(5,rr 0 s121.1),(6,iv s82.2),(7,pp 1),(9,iv s121.2)] [(0,rE 3 zQ.enc s121.1),(1,.box (Pack.enc false x86))]) (zB7 a1 a2 s82 x86 s121) kn:=by
 refine jL (fun g ih s121=>?_)
 unfold zBa
 refine J_d 238800 [] [53] [(53,bv (decide (s121.2< (x86.Needs.length:Int))))] [] [] zB ?_
 refine zF 53 (fun h122=>?_) (fun h122=>?_)
 ·refine zA (fun x123 h124=>?_)
  refine zA (fun x125 h126=>?_)
  refine J_d 955208 [] [53,64] [(64,bv (!x125))] [] [] (zD 5 (vR (kk:=.i64) 100 24 1 (eSl false 7 Term.enc) (.tmp 59) (.tmp 60) h124) (zD 7 (xR [(.tmp 56),(.tmp 57),(.tmp 62)] [53,49,24] (zDZ.ok a1 a2 x123) h126) zB)) ?_
  refine wB (aft zJ5 477604) (fun v132:(List zQ)=>St.mk' [(0,sl 8 (Pack.enc false) a1),(1,sl 1 zK a2),(5,rr 3 v132),(6,iv s82.2),(7,pp 1),(9,iv s121.2)] [(1,.box (Pack.enc false x86)),(3,rE 3 zQ.enc v132)]) (fun v132=>?_) (fun jv132=>?_)
  ·refine J_d 238803 [] [9] [(9,iv (w64 (s121.2+1)))] [] [] zB ?_
   refine zDV 3 0 (Nat.le_of_ble_eq_true rfl) (Nat.le_of_ble_eq_true rfl) ?_
   exact J_q (J_b (ih (v132,w64 (s121.2+1)))) rfl
  ·refine zF 64 (fun h127=>?_) (fun h127=>?_)
   ·refine zA (fun x128 h129=>?_)
    refine zA (fun x130 h131=>?_)
    refine J_d 1910418 [] [5,64] [(5,rr 3 x130)] [0,3] [(3,rE 3 zQ.enc x130)] (zD 3 (vR (kk:=.i64) 49 2 1 zK (.tmp 66) (.tmp 67) h129) (zD 7 (zFm 202 229 3 2 zQ.enc [({Kind:=2,Pack:=x128,At:=s121.2}:zQ)] [0] [(.tmp 71)] [.ag [iv 2,iv x128,iv s121.2]]) (zD 8 (zII 202 202 229 229 3 24 3 0 2 zQ.enc (.tmp 65) (.tmp 72) h131) zB))) ?_
    exact xD (J_j (jv132 x130)) rfl
   ·refine zDV 0 3 (Nat.le_of_ble_eq_true rfl) (Nat.le_of_ble_eq_true rfl) ?_
    exact xD (J_j (jv132 s121.1)) rfl
 ·exact xD (hk s121.1) rfl
theorem zAj.ok (a1:(List Pack)) (a2:(List Int)) (s82:((List zQ)×Int)) (x86:Pack) (q:Wd) (kn:(List zQ)→Option (D×List Ent)) (hk:∀v:(List zQ),J (q.g Tryz.prog 166 0 103) zJ5 (atI zJ5 3731) (St.mk' [(0,sl 8 (Pack.enc false) a1),(1,sl 1 zK a2),(5,rr 0 v),(6,iv s82.2),(7,pp 1)] [(0,rE 3 zQ.enc v),(1,.box (Pack.enc false x86))]) (some v) kn):
  ∀s98:Int,J (q.g Tryz.prog 166 0 103) zJ5 (atI zJ5 29844) (St.mk' [(0,sl 8 (Pack.enc false) a1),(1,sl 1 zK a2),(5,rr 0 s82.1),(6,iv s82.2),(7,pp 1),(8,iv s98)] [(0,rE 3 zQ.enc s82.1),(1,.box (Pack.enc false x86))]) (zAj a1 a2 s82 x86 s98) kn:=by
 refine jL (fun g ih s98=>?_)
 unfold zBb
 refine J_d 119376 [] [27] [(27,bv (decide (s98<s82.2)))] [] [] zB ?_
 refine zF 27 (fun h99=>?_) (fun h99=>?_)
 ·refine zA (fun x100 h101=>?_)
  refine zA (fun x102 h103=>?_)
  refine J_d 477512 [] [27,40] [(40,bv (seq x102.Name x86.Name))] [] [] (zD 3 (vR (kk:=.i64) 49 2 1 zK (.tmp 31) (.tmp 32) h101) (zD 5 (vR (kk:=.i64) 53 102 8 (Pack.enc false) (.tmp 30) (.tmp 34) h103) zB)) ?_
  refine zF 40 (fun h104=>?_) (fun h104=>?_)
  ·refine zA (fun x105 h106=>?_)
   refine zA (fun x107 h108=>?_)
   refine J_d 1910052 [] [5,8,40] [(5,rr 3 x107)] [0,3] [(3,rE 3 zQ.enc x107)] (zD 3 (vR (kk:=.i64) 49 2 1 zK (.tmp 42) (.tmp 43) h106) (zD 6 (zFm 202 229 3 2 zQ.enc [({Kind:=1,Pack:=x105,At:=0}:zQ)] [0] [(.tmp 46)] [.ag [iv 1,iv x105,iv 0]]) (zD 7 (zII 202 202 229 229 3 24 3 0 2 zQ.enc (.tmp 41) (.tmp 47) h108) zB))) ?_
   refine zDV 3 0 (Nat.le_of_ble_eq_true rfl) (Nat.le_of_ble_eq_true rfl) ?_
   exact xD (hk x107) rfl
  ·refine J_d 119379 [] [8,40] [(8,iv (w64 (s98+1)))] [] [] zB ?_
   exact J_q (J_b (ih (w64 (s98+1)))) rfl
 ·exact xD (hk s82.1) rfl
theorem zBL.ok (a1:(List Pack)) (a2:(List Int)) (q:Wd) (kn:(List zQ)→Option (D×List Ent)) (hk:∀v:(List zQ),J (q.g Tryz.prog 166 0 103) zJ5 (atI zJ5 15) (St.mk' [(5,rr 0 v)] [(0,rE 3 zQ.enc v)]) (some v) kn):
  ∀s82:((List zQ)×Int),J (q.g Tryz.prog 166 0 103) zJ5 (atI zJ5 116) (St.mk' [(0,sl 8 (Pack.enc false) a1),(1,sl 1 zK a2),(5,rr 0 s82.1),(6,iv s82.2)] [(0,rE 3 zQ.enc s82.1)]) (zBL a1 a2 s82) kn:=by
 refine jL (fun g ih s82=>?_)
 unfold zBg
 refine J_d 464 [] [15] [(15,bv (decide (s82.2< (a2.length:Int))))] [] [] zB ?_
 refine zF 15 (fun h83=>?_) (fun h83=>?_)
 ·refine zA (fun x84 h85=>?_)
  refine zA (fun x86 h87=>?_)
  refine J_g 1864 [(7,1)] [(0,sl 8 (Pack.enc false) a1),(1,sl 1 zK a2),(5,rr 0 s82.1),(6,iv s82.2),(7,pp 1)] [(0,rE 3 zQ.enc s82.1),(1,.box (Pack.enc false x86))] (zD 3 (vR (kk:=.i64) 49 2 1 zK (.tmp 19) (.tmp 20) h85) (zD 5 (vR (kk:=.i64) 53 102 8 (Pack.enc false) (.tmp 18) (.tmp 22) h87) zB)) ?_
  refine J_d 7460 [] [8] [(8,iv 0)] [] [] zB ?_
  refine zE3 (zAj.ok a1 a2 s82 x86 q _ (fun v109=>J_j ?_) 0)
  refine J_d 14924 [] [9] [(9,iv 0)] [] [] zB ?_
  refine zE3 (zB7.ok a1 a2 s82 x86 q _ (fun v133=>J_j ?_) (v109,0))
  refine J_d 14926 [] [10] [(10,iv 0)] [] [] zB ?_
  refine zE3 (zBD.ok a1 a2 s82 x86 q _ (fun v161=>J_j ?_) (v133,0))
  refine J_d 467 [] [6] [(6,iv (w64 (s82.2+1)))] [] [] zB ?_
  exact J_q (J_b (ih (v161,w64 (s82.2+1)))) rfl
 ·exact xD (hk s82.1) rfl
theorem zB5.ok (a1:(List Pack)) (a2:(List Int)):Ok Tryz.prog 166 [sl 8 (Pack.enc false) a1,sl 1 zK a2] [] ((zB5 a1 a2).map fun r=>(so 3 zQ.enc r,[])):=by
 refine zG zJ5 Tryz.f166 0 103 (fun q=>?_)
 unfold zB5
 refine J_g 2 [] [(0,sl 8 (Pack.enc false) a1),(1,sl 1 zK a2)] [] zB ?_
 refine J_g 6 [] [(0,sl 8 (Pack.enc false) a1),(1,sl 1 zK a2),(5,rr 0 ([]:List zQ))] [(0,rE 3 zQ.enc ([]:List zQ))] (zD 0 (zFm 202 229 3 0 zQ.enc ([]:List zQ) [] [] []) zB) ?_
 refine J_d 28 [] [6] [(6,iv 0)] [] [] zB ?_
 refine zE3 (zBL.ok a1 a2 q _ (fun v162=>J_j ?_) (([]:List zQ),0))
 refine J_g 30 [] [(4,rr 0 v162)] [(0,rE 3 zQ.enc v162)] zB ?_
 exact zEH (ds:=[rr 0 v162]) (ds':=[so 3 zQ.enc v162]) (.cons (.cell (.move (.head _) (List.length_map _) (by decide) (.nil))) (.nil) (by decide)) rfl
noncomputable def zRY:Code:=(Tryz.f102.body).getD .skip
theorem zDy.ok (a1:(List Pack)) (a2:(List Int)):Ok Tryz.prog 102 [sl 8 (Pack.enc false) a1,sl 1 zK a2] [] ((zDy a1 a2).map fun r=>(bv r,[])):=by
 refine zG zRY Tryz.f102 0 10 (fun q=>?_)
 unfold zDy
 refine J_d 2 [] [] [] [] [] zB ?_
 refine zA (fun x3 h4=>?_)
 refine J_g 6 [] [(4,bv ((x3.length:Int)==0))] [] (zD 2 (vX («as»:=[sl 8 (Pack.enc false) a1,sl 1 zK a2]) [(.tmp 5),(.tmp 6)] [53,49] false [] [] (.cons (.same rfl) (.cons (.same rfl) (.nil))) (zB5.ok a1 a2) h4 (.own 0)) zB) ?_
 exact zN rfl
noncomputable def zSv:Code:=(Tryz.f242.body).getD .skip
theorem jT.ok (a1:ByteArray) (a2:ByteArray):Ok Tryz.prog 242 [sv a1,sv a2] [] ((jT a1 a2).map fun r=>(bv r,[])):=by
 refine zG zSv Tryz.f242 0 18 (fun q=>?_)
 unfold jT
 refine J_d 2 [] [] [] [] [] zB ?_
 refine wL (fun h3=>?_) (fun h3=>?_)
 ·refine zA (fun x4 h5=>?_)
  refine J_g 6 [] [(4,bv (seq x4 a2))] [] (xX 5 [(9,bv (decide ((a1.size:Int)≥(a2.size:Int))))] [] h3 (zBV 9 5 10 true (zQN 9 (.tmp 11) none (some (.tmp 13)) h5) zB)) ?_
  exact zN rfl
 ·refine J_g 6 [] [(4,bv false)] [] (xX 5 [(9,bv (decide ((a1.size:Int)≥(a2.size:Int))))] [] h3 zB) ?_
  exact zN rfl
noncomputable def c206:Code:=(Tryz.f206.body).getD .skip
theorem zH2.ok (a1:zC) (a2:ByteArray) (q:Wd) (kn:(List ByteArray)→Option (D×List Ent)) (hk:∀v:(List ByteArray),J (q.g Tryz.prog 206 1 39) c206 (atI c206 15) (St.mk' [(5,rr 2 v)] [(0,.box [rr 1 a1.Files,iv a1.Budget,iv a1.Writes,iv a1.Stop,bv a1.Down]),(1,rE 2 (File.enc true) a1.Files),(2,rE 1 eStr v)]) (some v) kn):
  ∀s14:((List ByteArray)×Int),J (q.g Tryz.prog 206 1 39) c206 (atI c206 116) (St.mk' [(0,pp 0),(1,sv a2),(5,rr 2 s14.1),(6,iv s14.2)] [(0,.box [rr 1 a1.Files,iv a1.Budget,iv a1.Writes,iv a1.Stop,bv a1.Down]),(1,rE 2 (File.enc true) a1.Files),(2,rE 1 eStr s14.1)]) (zCv a1 a2 s14) kn:=by
 refine jL (fun g ih s14=>?_)
 unfold zAl
 refine J_d 464 [] [14] [(14,bv (decide (s14.2< (a1.Files.length:Int))))] [] [] zB ?_
 refine zF 14 (fun h15=>?_) (fun h15=>?_)
 ·refine zA (fun x16 h17=>?_)
  refine zA (fun x18 h19=>?_)
  refine J_d 1864 [] [14,26] [(26,bv x18)] [] [] (zD 5 (uN (kk:=.i64) 27 124 2 1 (File.enc true) (.tmp 20) (.tmp 21) h17) (zD 7 (zEt (d:=sv x16.Path) 9 2 1 0 (File.enc true) (.tmp 23) h17 (by kernel_rfl)) (zD 9 (xR [(.tmp 24),(.tmp 25)] [9,9] (jT.ok x16.Path a2) h19) zB))) ?_
  refine wB (aft c206 932) (fun v25:(List ByteArray)=>St.mk' [(0,pp 0),(1,sv a2),(5,rr 4 v25),(6,iv s14.2)] [(0,.box [rr 1 a1.Files,iv a1.Budget,iv a1.Writes,iv a1.Stop,bv a1.Down]),(1,rE 2 (File.enc true) a1.Files),(4,rE 1 eStr v25)]) (fun v25=>?_) (fun jv25=>?_)
  ·refine J_d 467 [] [6] [(6,iv (w64 (s14.2+1)))] [] [] zB ?_
   refine zDV 4 2 (Nat.le_of_ble_eq_true rfl) (Nat.le_of_ble_eq_true rfl) ?_
   exact J_q (J_b (ih (v25,w64 (s14.2+1)))) rfl
  ·refine zF 26 (fun h20=>?_) (fun h20=>?_)
   ·refine zA (fun x21 h22=>?_)
    refine zA (fun x23 h24=>?_)
    refine J_d 3730 [] [5,26] [(5,rr 4 x23)] [2,4] [(4,rE 1 eStr x23)] (zD 6 (uN (kk:=.i64) 27 124 2 1 (File.enc true) (.tmp 31) (.tmp 32) h22) (zD 8 (zEt (d:=sv x21.Path) 9 2 1 0 (File.enc true) (.tmp 34) h22 (by kernel_rfl)) (zD 9 (zFm 90 9 1 3 eStr [x21.Path] [0] [(.tmp 35)] [sv x21.Path]) (zD 10 (zII 90 90 9 9 1 16 4 2 3 eStr (.tmp 27) (.tmp 36) h24) zB)))) ?_
    exact xD (J_j (jv25 x23)) rfl
   ·refine zDV 2 4 (Nat.le_of_ble_eq_true rfl) (Nat.le_of_ble_eq_true rfl) ?_
    exact xD (J_j (jv25 s14.1)) rfl
 ·exact xD (hk s14.1) rfl
theorem zJz.ok (a1:zC) (a2:ByteArray):Ok Tryz.prog 206 [pp 0,sv a2] [.box (zC.enc true a1)] ((zC0 a1 a2).map fun r=>(so 1 eStr r,[.box (zC.enc true a1)])):=by
 refine zG c206 Tryz.f206 1 39 (fun q=>?_)
 unfold zC0
 refine yI 0 (cs':=[rr 1 a1.Files,iv a1.Budget,iv a1.Writes,iv a1.Stop,bv a1.Down]) (es:=[(1,rE 2 (File.enc true) a1.Files)]) rfl (.cons (.own 1) (.cons (.same rfl rfl) (.cons (.same rfl rfl) (.cons (.same rfl rfl) (.cons (.same rfl rfl) (.nil)))))) rfl (by kernel_rfl) (by kernel_rfl) ?_
 refine wM [(0,pp 0),(1,sv a2)] [(0,.box [rr 1 a1.Files,iv a1.Budget,iv a1.Writes,iv a1.Stop,bv a1.Down]),(1,rE 2 (File.enc true) a1.Files)] (by kernel_rfl) ?_
 refine J_g 2 [] [(0,pp 0),(1,sv a2)] [(0,.box [rr 1 a1.Files,iv a1.Budget,iv a1.Writes,iv a1.Stop,bv a1.Down]),(1,rE 2 (File.enc true) a1.Files)] zB ?_
 refine J_g 6 [] [(0,pp 0),(1,sv a2),(5,rr 2 ([]:List ByteArray))] [(0,.box [rr 1 a1.Files,iv a1.Budget,iv a1.Writes,iv a1.Stop,bv a1.Down]),(1,rE 2 (File.enc true) a1.Files),(2,rE 1 eStr ([]:List ByteArray))] (zD 0 (zFm 90 9 1 2 eStr ([]:List ByteArray) [] [] []) zB) ?_
 refine J_d 28 [] [6] [(6,iv 0)] [] [] zB ?_
 refine zE3 (zH2.ok a1 a2 q _ (fun v26=>J_j ?_) (([]:List ByteArray),0))
 refine J_g 30 [] [(4,rr 2 v26)] [(0,.box [rr 1 a1.Files,iv a1.Budget,iv a1.Writes,iv a1.Stop,bv a1.Down]),(1,rE 2 (File.enc true) a1.Files),(2,rE 1 eStr v26)] zB ?_
 refine yX 0 (cs':=[so 2 (File.enc true) a1.Files,iv a1.Budget,iv a1.Writes,iv a1.Stop,bv a1.Down]) (ts:=[1]) rfl (.move (.head _) (List.length_map _) (by decide) (.keep rfl (.keep rfl (.keep rfl (.keep rfl (.nil)))))) ?_
 refine wM [(4,rr 2 v26)] [(0,.box (zC.enc true a1)),(2,rE 1 eStr v26)] (by kernel_rfl) ?_
 exact zEH (ds:=[rr 2 v26]) (ds':=[so 1 eStr v26]) (.cons (.cell (.move (.tail _ (.head _)) (List.length_map _) (by decide) (.nil))) (.nil) (by decide)) rfl
noncomputable def zQm:Code:=(Tryz.f207.body).getD .skip
theorem zBH.ok (a1:ByteArray) (q:Wd) (kn:Int→Option (D×List Ent)) (hk:∀v:Int,J (q.g Tryz.prog 207 0 37) zQm (atI zQm 31) (St.mk' [(6,iv v)] []) (some v) kn):
  ∀s14:(Int×Int),J (q.g Tryz.prog 207 0 37) zQm (atI zQm 244) (St.mk' [(0,sv a1),(6,iv s14.1),(7,iv s14.2)] []) (zBH a1 s14) (Fl.go (fun r:(Int×Bool)=>some (.tu [iv r.1,bv r.2],[])) kn):=by
 refine jL (fun g ih s14=>?_)
 unfold zBi
 refine J_d 976 [] [20] [(20,bv (decide (s14.2< (a1.size:Int))))] [] [] zB ?_
 refine zF 20 (fun h15=>?_) (fun h15=>?_)
 ·refine zA (fun x16 h17=>?_)
  refine zA (fun x18 h19=>?_)
  refine J_d 7824 [] [20,27] [(27,bv (!x18))] [] [] (zD 2 (zKR (kk:=.i64) 9 (.tmp 23) (.tmp 24) h17) (zD 3 (xR [(.tmp 25)] [5] (vT.ok x16) h19) zB)) ?_
  refine zF 27 (fun h20=>?_) (fun h20=>?_)
  ·refine J_g 31300 [] [(4,iv 0),(5,bv false)] [] zB ?_
   exact zOr rfl
  ·refine zA (fun x21 h22=>?_)
   refine J_g 3913 [] [(0,sv a1),(6,iv (w64 ((w64 (s14.1*10))+(w64 (IntKind.u8.wrap (x21-48)))))),(7,iv s14.2)] [] (zD 4 (zKR (kk:=.i64) 9 (.tmp 30) (.tmp 31) h22) zB) ?_
   refine J_d 979 [] [7] [(7,iv (w64 (s14.2+1)))] [] [] zB ?_
   exact J_q (J_b (ih (w64 ((w64 (s14.1*10))+(w64 (IntKind.u8.wrap (x21-48)))),w64 (s14.2+1)))) rfl
 ·exact xD (hk s14.1) rfl
theorem zBx.ok (a1:ByteArray) (a2:Int):Ok Tryz.prog 207 [sv a1,iv a2] [] ((zBx a1 a2).map fun r=>(.tu [iv r.1,bv r.2],[])):=by
 refine zG zQm Tryz.f207 0 37 (fun q=>?_)
 unfold zBx
 refine J_d 2 [] [] [] [] [] zB ?_
 refine wB (atI zQm 13) (fun v4:Bool=>St.mk' [(0,sv a1),(16,bv v4)] []) (fun v4=>?_) (fun jv4=>?_)
 ·refine zF 16 (fun h5=>?_) (fun h5=>?_)
  ·refine J_g 52 [] [(4,iv 0),(5,bv false)] [] zB ?_
   exact zOr rfl
  ·refine J_g 14 [] [(0,sv a1),(6,iv 0)] [] zB ?_
   refine J_d 60 [] [7] [(7,iv 0)] [] [] zB ?_
   refine uZ (K0:=(fun r:(Int×Bool)=>some (.tu [iv r.1,bv r.2],[]))) (fun _=>rfl) (zBH.ok a1 q _ (fun v23=>J_j ?_) (0,0))
   refine J_g 62 [] [(4,iv v23),(5,bv true)] [] zB ?_
   exact zOr rfl
 ·refine wL (fun h3=>?_) (fun h3=>?_)
  ·refine J_g 12 [] [(0,sv a1),(16,bv true)] [] (xX 3 [(10,bv (decide ((a1.size:Int)<1)))] [] h3 zB) ?_
   exact xD (J_j (jv4 true)) rfl
  ·refine J_g 12 [] [(0,sv a1),(16,bv (decide ((a1.size:Int)>a2)))] [] (xX 3 [(10,bv (decide ((a1.size:Int)<1)))] [] h3 zB) ?_
   exact xD (J_j (jv4 (decide ((a1.size:Int)>a2)))) rfl
noncomputable def zS2:Code:=(Tryz.f112.body).getD .skip
theorem xG.ok (a1:Int):Ok Tryz.prog 112 [iv a1] [] ((xG a1).map fun r=>(sv r,[])):=by
 have key:∀(n:Nat) (a1:Int),Ok Tryz.prog 112 [iv a1] [] ((zPS uO n a1).map fun r=>(sv r,[])):=by
  intro n
  induction n with
  |zero=>intro a1; exact zPU
  |succ n ih=>
   intro a1
   refine zG zS2 Tryz.f112 0 20 (fun q=>?_)
   unfold zPS uO
   refine J_g 2 [] [(0,iv a1)] [] zB ?_
   refine J_g 12 [] [(0,iv a1),(4,bv (decide (a1<10)))] [] zB ?_
   refine zF 4 (fun h2=>?_) (fun h2=>?_)
   ·refine J_g 52 [] [(2,sv (b2s [IntKind.u8.wrap (w64 (48+a1))]))] [] (zD 3 (zFm 22 5 1 0 eU8 [IntKind.u8.wrap (w64 (48+a1))] [0] [(.tmp 7)] [uv (IntKind.u8.wrap (w64 (48+a1)))]) (zD 4 (zOk (xs:=[IntKind.u8.wrap (w64 (48+a1))]) 22 9 5 0 (.tmp 8)) zB)) ?_
    exact zN rfl
   ·refine zA (fun x3 h4=>?_)
    refine zA (fun x5 h6=>?_)
    refine J_g 14 [] [(2,sv x5)] [] (zD 2 (xR [(.tmp 11)] [2] (ih (w64 (a1.tdiv 10))) h4) (zD 7 (zFm 22 5 1 0 eU8 [IntKind.u8.wrap (w64 (48+(a1.tmod 10)))] [0] [(.tmp 16)] [uv (IntKind.u8.wrap (w64 (48+(a1.tmod 10))))]) (zD 8 (zOk (xs:=[IntKind.u8.wrap (w64 (48+(a1.tmod 10)))]) 22 9 5 0 (.tmp 17)) (zD 9 (zEo 9 9 (.tmp 12) (.tmp 18) h6) zB)))) ?_
    exact zN rfl
 exact key 64 a1
noncomputable def zSl:Code:=(Tryz.f110.body).getD .skip
theorem tY.ok (a1:Int):Ok Tryz.prog 110 [iv a1] [] ((tY a1).map fun r=>(sv r,[])):=by
 refine zG zSl Tryz.f110 0 11 (fun q=>?_)
 unfold tY
 refine J_g 2 [] [(0,iv a1)] [] zB ?_
 refine zA (fun x2 h3=>?_)
 refine J_g 12 [] [(0,iv a1),(5,bv (!x2))] [] (zD 1 (xR [(.tmp 3),(.const (.int .i64 1)),(.const (.int .i64 999999))] [2,2,2] (xS.ok a1 1 999999) h3) zB) ?_
 refine zF 5 (fun h4=>?_) (fun h4=>?_)
 ·refine J_g 52 [] [(2,sv (bs []))] [] zB ?_
  exact zN rfl
 ·refine zA (fun x5 h6=>?_)
  refine zA (fun x7 h8=>?_)
  refine zA (fun x9 h10=>?_)
  refine J_g 14 [] [(2,sv x9)] [] (zD 2 (xR [(.tmp 7)] [2] (xG.ok (w64 (1000000+a1))) h6) (zD 3 (zQN 9 (.tmp 8) (some (.const (.int .i64 1))) none h8) (zD 4 (zEo 9 9 (.const (.string (bs [103,101,110,47]))) (.tmp 9) h10) zB))) ?_
  exact zN rfl
noncomputable def c167:Code:=(Tryz.f167.body).getD .skip
theorem zHE.ok (a1:zC) (x2:(List ByteArray)) (q:Wd) (kn:(List Int)→Option (D×List Ent)) (hk:∀v:(List Int),J (q.g Tryz.prog 167 1 41) c167 (atI c167 31) (St.mk' [(3,rr 2 v)] [(0,.box [rr 4 a1.Files,iv a1.Budget,iv a1.Writes,iv a1.Stop,bv a1.Down]),(2,rE 1 zK v),(4,rE 2 (File.enc true) a1.Files)]) (some v) kn):
  ∀s21:((List Int)×Int),J (q.g Tryz.prog 167 1 41) c167 (atI c167 244) (St.mk' [(3,rr 2 s21.1),(4,rr 3 x2),(5,iv s21.2)] [(0,.box [rr 4 a1.Files,iv a1.Budget,iv a1.Writes,iv a1.Stop,bv a1.Down]),(2,rE 1 zK s21.1),(3,rE 1 eStr x2),(4,rE 2 (File.enc true) a1.Files)]) (zEO a1 x2 s21) kn:=by
 refine jL (fun g ih s21=>?_)
 unfold zCq
 refine J_d 976 [] [14] [(14,bv (decide (s21.2< (x2.length:Int))))] [] [] zB ?_
 refine zF 14 (fun h22=>?_) (fun h22=>?_)
 ·refine zA (fun x23 h24=>?_)
  refine zA (fun x25 h26=>?_)
  refine zA (fun x27 h28=>?_)
  refine J_d 3912 [] [6,7,14] [(6,iv x27.1),(7,bv x27.2)] [] [] (zD 2 (uN (kk:=.i64) 90 9 1 3 eStr (.tmp 18) (.tmp 19) h24) (zD 3 (zEt (d:=sv x23) 9 1 3 0 eStr (.tmp 20) h24 (by kernel_rfl)) (zD 4 (zQN 9 (.tmp 21) (some (.const (.int .i64 4))) none h26) (zD 5 (xR [(.tmp 22),(.const (.int .i64 6))] [9,3] (zBx.ok x25 6) h28) zB)))) ?_
  refine wB (atI c167 7827) (fun v34:Bool=>St.mk' [(3,rr 2 s21.1),(4,rr 3 x2),(5,iv s21.2),(6,iv x27.1),(35,bv v34)] [(0,.box [rr 4 a1.Files,iv a1.Budget,iv a1.Writes,iv a1.Stop,bv a1.Down]),(2,rE 1 zK s21.1),(3,rE 1 eStr x2),(4,rE 2 (File.enc true) a1.Files)]) (fun v34=>?_) (fun jv34=>?_)
  ·refine wB (aft c167 1956) (fun v38:(List Int)=>St.mk' [(3,rr 6 v38),(4,rr 3 x2),(5,iv s21.2)] [(0,.box [rr 4 a1.Files,iv a1.Budget,iv a1.Writes,iv a1.Stop,bv a1.Down]),(3,rE 1 eStr x2),(4,rE 2 (File.enc true) a1.Files),(6,rE 1 zK v38)]) (fun v38=>?_) (fun jv38=>?_)
   ·refine J_d 979 [] [5] [(5,iv (w64 (s21.2+1)))] [] [] zB ?_
    refine zDV 6 2 (Nat.le_of_ble_eq_true rfl) (Nat.le_of_ble_eq_true rfl) ?_
    exact J_q (J_b (ih (v38,w64 (s21.2+1)))) rfl
   ·refine zF 35 (fun h35=>?_) (fun h35=>?_)
    ·refine zA (fun x36 h37=>?_)
     refine J_d 15654 [] [3,6,35] [(3,rr 6 x36)] [2,6] [(6,rE 1 zK x36)] (zD 2 (zFm 49 2 1 5 zK [x27.1] [0] [(.tmp 37)] [iv x27.1]) (zD 3 (zII 49 49 2 2 1 8 6 2 5 zK (.tmp 36) (.tmp 38) h37) zB)) ?_
     exact xD (J_j (jv38 x36)) rfl
    ·refine zDV 2 6 (Nat.le_of_ble_eq_true rfl) (Nat.le_of_ble_eq_true rfl) ?_
     exact xD (J_j (jv38 s21.1)) rfl
  ·refine wL (fun h29=>?_) (fun h29=>?_)
   ·refine zA (fun x30 h31=>?_)
    refine zA (fun x32 h33=>?_)
    refine J_d 7826 [] [7,35] [(35,bv (seq x30 x32))] [] [] (xX 1 [(26,bv x27.2)] [] h29 (zBV 3 1 27 true (xR [(.tmp 28)] [2] (tY.ok x27.1) h31) (zBV 6 1 27 true (uN (kk:=.i64) 90 9 1 3 eStr (.tmp 30) (.tmp 31) h33) (zBV 7 1 27 true (zEt (d:=sv x32) 9 1 3 0 eStr (.tmp 32) h33 (by kernel_rfl)) zB)))) ?_
    exact xD (J_j (jv34 (seq x30 x32))) rfl
   ·refine J_d 7826 [] [7,35] [(35,bv false)] [] [] (xX 1 [(26,bv x27.2)] [] h29 zB) ?_
    exact xD (J_j (jv34 false)) rfl
 ·exact xD (hk s21.1) rfl
theorem zK6.ok (a1:zC):Ok Tryz.prog 167 [pp 0] [.box (zC.enc true a1)] ((zE5 a1).map fun r=>(so 1 zK r,[.box (zC.enc true a1)])):=by
 refine zG c167 Tryz.f167 1 41 (fun q=>?_)
 unfold zE5
 refine yI 0 (cs':=[rr 1 a1.Files,iv a1.Budget,iv a1.Writes,iv a1.Stop,bv a1.Down]) (es:=[(1,rE 2 (File.enc true) a1.Files)]) rfl (.cons (.own 1) (.cons (.same rfl rfl) (.cons (.same rfl rfl) (.cons (.same rfl rfl) (.cons (.same rfl rfl) (.nil)))))) rfl (by kernel_rfl) (by kernel_rfl) ?_
 refine wM [(0,pp 0)] [(0,.box [rr 1 a1.Files,iv a1.Budget,iv a1.Writes,iv a1.Stop,bv a1.Down]),(1,rE 2 (File.enc true) a1.Files)] (by kernel_rfl) ?_
 refine J_g 2 [] [(0,pp 0)] [(0,.box [rr 1 a1.Files,iv a1.Budget,iv a1.Writes,iv a1.Stop,bv a1.Down]),(1,rE 2 (File.enc true) a1.Files)] zB ?_
 refine J_g 6 [] [(0,pp 0),(3,rr 2 ([]:List Int))] [(0,.box [rr 1 a1.Files,iv a1.Budget,iv a1.Writes,iv a1.Stop,bv a1.Down]),(1,rE 2 (File.enc true) a1.Files),(2,rE 1 zK ([]:List Int))] (zD 0 (zFm 49 2 1 2 zK ([]:List Int) [] [] []) zB) ?_
 refine yX 0 (cs':=[so 2 (File.enc true) a1.Files,iv a1.Budget,iv a1.Writes,iv a1.Stop,bv a1.Down]) (ts:=[1]) rfl (.move (.head _) (List.length_map _) (by decide) (.keep rfl (.keep rfl (.keep rfl (.keep rfl (.nil)))))) ?_
 refine wM [(0,pp 0),(3,rr 2 ([]:List Int))] [(0,.box (zC.enc true a1)),(2,rE 1 zK ([]:List Int))] (by kernel_rfl) ?_
 refine zA (fun x2 h3=>?_)
 refine J_g 14 [] [(3,rr 2 ([]:List Int)),(4,rr 3 x2)] [(0,.box (zC.enc true a1)),(2,rE 1 zK ([]:List Int)),(3,rE 1 eStr x2)] (zD 1 (zEU [(0,.box (zC.enc true a1))] [(3,rE 1 eStr x2)] (vX («as»:=[pp 0,sv (bs [103,101,110,47])]) [(.tmp 9),(.const (.string (bs [103,101,110,47])))] [75,9] false [(0,.box (zC.enc true a1))] [0] (.cons (.pt rfl) (.cons (.same rfl) (.nil))) (zJz.ok a1 (bs [103,101,110,47])) h3 (.own 3))) zB) ?_
 refine yI 0 (cs':=[rr 4 a1.Files,iv a1.Budget,iv a1.Writes,iv a1.Stop,bv a1.Down]) (es:=[(4,rE 2 (File.enc true) a1.Files)]) rfl (.cons (.own 4) (.cons (.same rfl rfl) (.cons (.same rfl rfl) (.cons (.same rfl rfl) (.cons (.same rfl rfl) (.nil)))))) rfl (by kernel_rfl) (by kernel_rfl) ?_
 refine wM [(3,rr 2 ([]:List Int)),(4,rr 3 x2)] [(0,.box [rr 4 a1.Files,iv a1.Budget,iv a1.Writes,iv a1.Stop,bv a1.Down]),(2,rE 1 zK ([]:List Int)),(3,rE 1 eStr x2),(4,rE 2 (File.enc true) a1.Files)] (by kernel_rfl) ?_
 refine J_d 60 [] [5] [(5,iv 0)] [] [] zB ?_
 refine zE3 (zHE.ok a1 x2 q _ (fun v39=>J_j ?_) (([]:List Int),0))
 refine J_g 62 [] [(2,rr 2 v39)] [(0,.box [rr 4 a1.Files,iv a1.Budget,iv a1.Writes,iv a1.Stop,bv a1.Down]),(2,rE 1 zK v39),(4,rE 2 (File.enc true) a1.Files)] zB ?_
 refine yX 0 (cs':=[so 2 (File.enc true) a1.Files,iv a1.Budget,iv a1.Writes,iv a1.Stop,bv a1.Down]) (ts:=[4]) rfl (.move (.tail _ (.head _)) (List.length_map _) (by decide) (.keep rfl (.keep rfl (.keep rfl (.keep rfl (.nil)))))) ?_
 refine wM [(2,rr 2 v39)] [(0,.box (zC.enc true a1)),(2,rE 1 zK v39)] (by kernel_rfl) ?_
 exact zEH (ds:=[rr 2 v39]) (ds':=[so 1 zK v39]) (.cons (.cell (.move (.tail _ (.head _)) (List.length_map _) (by decide) (.nil))) (.nil) (by decide)) rfl
noncomputable def zSc:Code:=(Tryz.f103.body).getD .skip
theorem zF8.ok (a1:zC):Ok Tryz.prog 103 [pp 0] [.box (zC.enc true a1)] ((zD0 a1).map fun r=>(iv r,[.box (zC.enc true a1)])):=by
 refine zG zSc Tryz.f103 1 16 (fun q=>?_)
 unfold zD0
 refine yI 0 (cs':=[rr 1 a1.Files,iv a1.Budget,iv a1.Writes,iv a1.Stop,bv a1.Down]) (es:=[(1,rE 2 (File.enc true) a1.Files)]) rfl (.cons (.own 1) (.cons (.same rfl rfl) (.cons (.same rfl rfl) (.cons (.same rfl rfl) (.cons (.same rfl rfl) (.nil)))))) rfl (by kernel_rfl) (by kernel_rfl) ?_
 refine wM [(0,pp 0)] [(0,.box [rr 1 a1.Files,iv a1.Budget,iv a1.Writes,iv a1.Stop,bv a1.Down]),(1,rE 2 (File.enc true) a1.Files)] (by kernel_rfl) ?_
 refine J_g 2 [] [(0,pp 0)] [(0,.box [rr 1 a1.Files,iv a1.Budget,iv a1.Writes,iv a1.Stop,bv a1.Down]),(1,rE 2 (File.enc true) a1.Files)] zB ?_
 refine yX 0 (cs':=[so 2 (File.enc true) a1.Files,iv a1.Budget,iv a1.Writes,iv a1.Stop,bv a1.Down]) (ts:=[1]) rfl (.move (.head _) (List.length_map _) (by decide) (.keep rfl (.keep rfl (.keep rfl (.keep rfl (.nil)))))) ?_
 refine wM [(0,pp 0)] [(0,.box (zC.enc true a1))] (by kernel_rfl) ?_
 refine zA (fun x2 h3=>?_)
 refine J_g 6 [] [(3,rr 1 x2)] [(0,.box (zC.enc true a1)),(1,rE 1 zK x2)] (zD 1 (zEU [(0,.box (zC.enc true a1))] [(1,rE 1 zK x2)] (vX («as»:=[pp 0]) [(.tmp 4)] [75] false [(0,.box (zC.enc true a1))] [0] (.cons (.pt rfl) (.nil)) (zK6.ok a1) h3 (.own 1))) zB) ?_
 refine yI 0 (cs':=[rr 2 a1.Files,iv a1.Budget,iv a1.Writes,iv a1.Stop,bv a1.Down]) (es:=[(2,rE 2 (File.enc true) a1.Files)]) rfl (.cons (.own 2) (.cons (.same rfl rfl) (.cons (.same rfl rfl) (.cons (.same rfl rfl) (.cons (.same rfl rfl) (.nil)))))) rfl (by kernel_rfl) (by kernel_rfl) ?_
 refine wM [(3,rr 1 x2)] [(0,.box [rr 2 a1.Files,iv a1.Budget,iv a1.Writes,iv a1.Stop,bv a1.Down]),(1,rE 1 zK x2),(2,rE 2 (File.enc true) a1.Files)] (by kernel_rfl) ?_
 refine J_d 28 [] [8] [(8,bv ((x2.length:Int)==0))] [] [] zB ?_
 refine zF 8 (fun h4=>?_) (fun h4=>?_)
 ·refine J_g 116 [] [(2,iv 1)] [(0,.box [rr 2 a1.Files,iv a1.Budget,iv a1.Writes,iv a1.Stop,bv a1.Down]),(2,rE 2 (File.enc true) a1.Files)] zB ?_
  refine yX 0 (cs':=[so 2 (File.enc true) a1.Files,iv a1.Budget,iv a1.Writes,iv a1.Stop,bv a1.Down]) (ts:=[2]) rfl (.move (.head _) (List.length_map _) (by decide) (.keep rfl (.keep rfl (.keep rfl (.keep rfl (.nil)))))) ?_
  refine wM [(2,iv 1)] [(0,.box (zC.enc true a1))] (by kernel_rfl) ?_
  exact zN rfl
 ·refine zA (fun x5 h6=>?_)
  refine J_g 30 [] [(2,iv (w64 (x5+1)))] [(0,.box [rr 2 a1.Files,iv a1.Budget,iv a1.Writes,iv a1.Stop,bv a1.Down]),(2,rE 2 (File.enc true) a1.Files)] (zD 4 (uN (kk:=.i64) 49 2 1 1 zK (.tmp 9) (.tmp 12) h6) (zD 5 (zEt (d:=iv x5) 2 1 1 0 zK (.tmp 13) h6 (by kernel_rfl)) zB)) ?_
  refine yX 0 (cs':=[so 2 (File.enc true) a1.Files,iv a1.Budget,iv a1.Writes,iv a1.Stop,bv a1.Down]) (ts:=[2]) rfl (.move (.head _) (List.length_map _) (by decide) (.keep rfl (.keep rfl (.keep rfl (.keep rfl (.nil)))))) ?_
  refine wM [(2,iv (w64 (x5+1)))] [(0,.box (zC.enc true a1))] (by kernel_rfl) ?_
  exact zN rfl
noncomputable def c173:Code:=(Tryz.f173.body).getD .skip
theorem wW.ok (a1:Version):Ok Tryz.prog 173 [.ag (Version.enc a1)] [] ((wW a1).map fun r=>(sv r,[])):=by
 refine zG c173 Tryz.f173 0 19 (fun q=>?_)
 unfold wW
 refine J_g 2 [(0,0)] [(1,pp 0)] [(0,.box (Version.enc a1))] zB ?_
 refine zA (fun x2 h3=>?_)
 refine J_d 12 [] [5] [(5,bv (x2 !=0))] [] [] (zD 1 (xR [(.tmp 3)] [39] (xU.ok a1) h3) zB) ?_
 refine zF 5 (fun h4=>?_) (fun h4=>?_)
 ·refine J_g 52 [] [(2,sv (bs []))] [] zB ?_
  exact zN rfl
 ·refine zA (fun x5 h6=>?_)
  refine zA (fun x7 h8=>?_)
  refine zA (fun x9 h10=>?_)
  refine zA (fun x11 h12=>?_)
  refine zA (fun x13 h14=>?_)
  refine zA (fun x15 h16=>?_)
  refine zA (fun x17 h18=>?_)
  refine J_g 14 [] [(2,sv x17)] [] (zD 2 (xR [(.tmp 7)] [2] (xG.ok a1.A) h6) (zD 3 (zEo 9 9 (.tmp 8) (.const (.string (bs [46]))) h8) (zD 6 (xR [(.tmp 11)] [2] (xG.ok a1.B) h10) (zD 7 (zEo 9 9 (.tmp 9) (.tmp 12) h12) (zD 8 (zEo 9 9 (.tmp 13) (.const (.string (bs [46]))) h14) (zD 11 (xR [(.tmp 16)] [2] (xG.ok a1.C) h16) (zD 12 (zEo 9 9 (.tmp 14) (.tmp 17) h18) zB))))))) ?_
  exact zN rfl
noncomputable def zSB:Code:=(Tryz.f108.body).getD .skip
theorem uX.ok (a1:Pack):Ok Tryz.prog 108 [.ag (Pack.enc false a1)] [] ((uX a1).map fun r=>(sv r,[])):=by
 refine zG zSB Tryz.f108 0 11 (fun q=>?_)
 unfold uX
 refine J_g 2 [(0,0)] [(1,pp 0)] [(0,.box (Pack.enc false a1))] zB ?_
 refine zA (fun x2 h3=>?_)
 refine zA (fun x4 h5=>?_)
 refine zA (fun x6 h7=>?_)
 refine zA (fun x8 h9=>?_)
 refine J_g 6 [] [(2,sv x8)] [] (zD 2 (zEo 9 9 (.const (.string (bs [112,107,103,47]))) (.tmp 4) h3) (zD 3 (zEo 9 9 (.tmp 5) (.const (.string (bs [45]))) h5) (zD 6 (xR [(.tmp 8)] [39] (wW.ok a1.Version) h7) (zD 7 (zEo 9 9 (.tmp 6) (.tmp 9) h9) zB)))) ?_
 exact zN rfl
noncomputable def c168:Code:=(Tryz.f168.body).getD .skip
theorem zIb.ok (a1:zC) (a2:ByteArray) (q:Wd) (kn:Unit→Option (D×List Ent)) (hk:∀v:Unit,J (q.g Tryz.prog 168 1 26) c168 (atI c168 7) (St.mk' [] [(0,.box [rr 1 a1.Files,iv a1.Budget,iv a1.Writes,iv a1.Stop,bv a1.Down]),(1,rE 2 (File.enc true) a1.Files)]) (some v) kn):
  ∀s7:Int,J (q.g Tryz.prog 168 1 26) c168 (atI c168 52) (St.mk' [(0,pp 0),(1,sv a2),(5,iv s7)] [(0,.box [rr 1 a1.Files,iv a1.Budget,iv a1.Writes,iv a1.Stop,bv a1.Down]),(1,rE 2 (File.enc true) a1.Files)]) (zEk a1 a2 s7) (Fl.go (fun r:Int=>some (iv r,[.box (zC.enc true a1)])) kn):=by
 refine jL (fun g ih s7=>?_)
 unfold zBo
 refine J_d 208 [] [12] [(12,bv (decide (s7< (a1.Files.length:Int))))] [] [] zB ?_
 refine zF 12 (fun h8=>?_) (fun h8=>?_)
 ·refine zA (fun x9 h10=>?_)
  refine J_d 840 [] [12,24] [(24,bv (seq x9.Path a2))] [] [] (zD 5 (uN (kk:=.i64) 27 124 2 1 (File.enc true) (.tmp 18) (.tmp 19) h10) (zD 7 (zEt (d:=sv x9.Path) 9 2 1 0 (File.enc true) (.tmp 21) h10 (by kernel_rfl)) zB)) ?_
  refine zF 24 (fun h11=>?_) (fun h11=>?_)
  ·refine J_g 3364 [] [(4,iv s7)] [(0,.box [rr 1 a1.Files,iv a1.Budget,iv a1.Writes,iv a1.Stop,bv a1.Down]),(1,rE 2 (File.enc true) a1.Files)] zB ?_
   refine yX 0 (cs':=[so 2 (File.enc true) a1.Files,iv a1.Budget,iv a1.Writes,iv a1.Stop,bv a1.Down]) (ts:=[1]) rfl (.move (.head _) (List.length_map _) (by decide) (.keep rfl (.keep rfl (.keep rfl (.keep rfl (.nil)))))) ?_
   refine wM [(4,iv s7)] [(0,.box (zC.enc true a1))] (by kernel_rfl) ?_
   exact zN rfl
  ·refine J_d 211 [] [5,24] [(5,iv (w64 (s7+1)))] [] [] zB ?_
   exact J_q (J_b (ih (w64 (s7+1)))) rfl
 ·exact xD (hk ()) rfl
theorem zEu.ok (a1:zC) (a2:ByteArray):Ok Tryz.prog 168 [pp 0,sv a2] [.box (zC.enc true a1)] ((wC a1 a2).map fun r=>(iv r,[.box (zC.enc true a1)])):=by
 refine zG c168 Tryz.f168 1 26 (fun q=>?_)
 unfold wC
 refine yI 0 (cs':=[rr 1 a1.Files,iv a1.Budget,iv a1.Writes,iv a1.Stop,bv a1.Down]) (es:=[(1,rE 2 (File.enc true) a1.Files)]) rfl (.cons (.own 1) (.cons (.same rfl rfl) (.cons (.same rfl rfl) (.cons (.same rfl rfl) (.cons (.same rfl rfl) (.nil)))))) rfl (by kernel_rfl) (by kernel_rfl) ?_
 refine wM [(0,pp 0),(1,sv a2)] [(0,.box [rr 1 a1.Files,iv a1.Budget,iv a1.Writes,iv a1.Stop,bv a1.Down]),(1,rE 2 (File.enc true) a1.Files)] (by kernel_rfl) ?_
 refine J_g 2 [] [(0,pp 0),(1,sv a2)] [(0,.box [rr 1 a1.Files,iv a1.Budget,iv a1.Writes,iv a1.Stop,bv a1.Down]),(1,rE 2 (File.enc true) a1.Files)] zB ?_
 refine J_d 12 [] [5] [(5,iv 0)] [] [] zB ?_
 refine uZ (K0:=(fun r:Int=>some (iv r,[.box (zC.enc true a1)]))) (fun _=>rfl) (zIb.ok a1 a2 q _ (fun v12=>J_j ?_) 0)
 refine J_g 14 [] [(4,iv (-1))] [(0,.box [rr 1 a1.Files,iv a1.Budget,iv a1.Writes,iv a1.Stop,bv a1.Down]),(1,rE 2 (File.enc true) a1.Files)] zB ?_
 refine yX 0 (cs':=[so 2 (File.enc true) a1.Files,iv a1.Budget,iv a1.Writes,iv a1.Stop,bv a1.Down]) (ts:=[1]) rfl (.move (.head _) (List.length_map _) (by decide) (.keep rfl (.keep rfl (.keep rfl (.keep rfl (.nil)))))) ?_
 refine wM [(4,iv (-1))] [(0,.box (zC.enc true a1))] (by kernel_rfl) ?_
 exact zN rfl
noncomputable def c109:Code:=(Tryz.f109.body).getD .skip
theorem zCe.ok (a1:Pack) (q:Wd) (kn:(List Int)→Option (D×List Ent)) (hk:∀v:(List Int),J (q.g Tryz.prog 109 0 50) c109 (atI c109 63) (St.mk' [(5,rr 1 v)] [(1,rE 1 eU8 v)]) (some v) kn):
  ∀s13:(Int×(List Int)×Int),J (q.g Tryz.prog 109 0 50) c109 (atI c109 500) (St.mk' [(1,pp 0),(3,iv s13.1),(5,rr 1 s13.2.1),(6,iv s13.2.2)] [(0,.box (Pack.enc false a1)),(1,rE 1 eU8 s13.2.1)]) (zCe a1 s13) kn:=by
 refine jL (fun g ih s13=>?_)
 unfold zBE
 refine J_d 2000 [] [36] [(36,bv (decide (s13.2.2<a1.Size)))] [] [] zB ?_
 refine zF 36 (fun h14=>?_) (fun h14=>?_)
 ·refine J_d 8008 [] [3,36] [(3,iv (s13.1.tmod 256))] [] [] zB ?_
  refine zA (fun x15 h16=>?_)
  refine J_g 16018 [] [(1,pp 0),(3,iv (s13.1.tmod 256)),(5,rr 3 x15),(6,iv s13.2.2)] [(0,.box (Pack.enc false a1)),(3,rE 1 eU8 x15)] (zD 3 (zFm 22 5 1 2 eU8 [IntKind.u8.wrap (s13.1.tmod 256)] [0] [(.tmp 43)] [uv (IntKind.u8.wrap (s13.1.tmod 256))]) (zD 4 (zII 22 22 5 5 1 1 3 1 2 eU8 (.tmp 41) (.tmp 44) h16) zB)) ?_
  refine J_g 16019 [] [(1,pp 0),(3,iv (w64 ((w64 (31*(s13.1.tmod 256)))+7))),(5,rr 3 x15),(6,iv s13.2.2)] [(0,.box (Pack.enc false a1)),(3,rE 1 eU8 x15)] zB ?_
  refine J_d 2003 [] [6] [(6,iv (w64 (s13.2.2+1)))] [] [] zB ?_
  refine zDV 3 1 (Nat.le_of_ble_eq_true rfl) (Nat.le_of_ble_eq_true rfl) ?_
  exact J_q (J_b (ih (w64 ((w64 (31*(s13.1.tmod 256)))+7),x15,w64 (s13.2.2+1)))) rfl
 ·exact xD (hk s13.2.1) rfl
theorem zCH.ok (a1:Pack) (q:Wd) (kn:Int→Option (D×List Ent)) (hk:∀v:Int,J (q.g Tryz.prog 109 0 50) c109 (atI c109 15) (St.mk' [(1,pp 0),(3,iv v)] [(0,.box (Pack.enc false a1))]) (some v) kn):
  ∀s5:(Int×Int),J (q.g Tryz.prog 109 0 50) c109 (atI c109 116) (St.mk' [(1,pp 0),(3,iv s5.1),(4,iv s5.2)] [(0,.box (Pack.enc false a1))]) (zCH a1 s5) kn:=by
 refine jL (fun g ih s5=>?_)
 unfold zB9
 refine J_d 464 [] [22] [(22,bv (decide (s5.2< (a1.Name.size:Int))))] [] [] zB ?_
 refine zF 22 (fun h6=>?_) (fun h6=>?_)
 ·refine zA (fun x7 h8=>?_)
  refine J_g 932 [] [(1,pp 0),(3,iv (w64 (s5.1+(w64 (x7))))),(4,iv s5.2)] [(0,.box (Pack.enc false a1))] (zD 4 (zKR (kk:=.i64) 9 (.tmp 27) (.tmp 28) h8) zB) ?_
  refine J_d 467 [] [4] [(4,iv (w64 (s5.2+1)))] [] [] zB ?_
  exact J_q (J_b (ih (w64 (s5.1+(w64 (x7))),w64 (s5.2+1)))) rfl
 ·exact xD (hk s5.1) rfl
theorem zAx.ok (a1:Pack):Ok Tryz.prog 109 [.ag (Pack.enc false a1)] [] ((zAx a1).map fun r=>(so 1 eU8 r,[])):=by
 refine zG c109 Tryz.f109 0 50 (fun q=>?_)
 unfold zAx
 refine J_g 2 [(0,0)] [(1,pp 0)] [(0,.box (Pack.enc false a1))] zB ?_
 refine J_g 6 [] [(1,pp 0),(3,iv (w64 ((w64 (a1.Version.A+a1.Version.B))+a1.Version.C)))] [(0,.box (Pack.enc false a1))] zB ?_
 refine J_d 28 [] [4] [(4,iv 0)] [] [] zB ?_
 refine zE3 (zCH.ok a1 q _ (fun v9=>J_j ?_) (w64 ((w64 (a1.Version.A+a1.Version.B))+a1.Version.C),0))
 refine J_g 30 [] [(1,pp 0),(3,iv v9),(5,rr 1 ([]:List Int))] [(0,.box (Pack.enc false a1)),(1,rE 1 eU8 ([]:List Int))] (zD 0 (zFm 22 5 1 1 eU8 ([]:List Int) [] [] []) zB) ?_
 refine J_d 124 [] [6] [(6,iv 0)] [] [] zB ?_
 refine zE3 (zCe.ok a1 q _ (fun v17=>J_j ?_) (v9,([]:List Int),0))
 refine J_g 126 [] [(2,rr 1 v17)] [(1,rE 1 eU8 v17)] zB ?_
 exact zEH (ds:=[rr 1 v17]) (ds':=[so 1 eU8 v17]) (.cons (.cell (.move (.head _) (List.length_map _) (by decide) (.nil))) (.nil) (by decide)) rfl
noncomputable def c171:Code:=(Tryz.f171.body).getD .skip
theorem zDY.ok (a1:(List Int)) (a2:(List Int)):Ok Tryz.prog 171 [sl 1 eU8 a1,sl 1 eU8 a2] [] ((zDY a1 a2).map fun r=>(bv r,[])):=by
 refine zG c171 Tryz.f171 0 10 (fun q=>?_)
 unfold zDY
 refine J_g 2 [] [(0,sl 1 eU8 a1),(1,sl 1 eU8 a2)] [] zB ?_
 refine J_g 6 [] [(4,bv (seq (b2s a1) (b2s a2)))] [] (zD 1 (zQS (xs:=a1) 22 9 5 (.tmp 5)) (zD 3 (zQS (xs:=a2) 22 9 5 (.tmp 7)) zB)) ?_
 exact zN rfl
noncomputable def zPK:Code:=(Tryz.f106.body).getD .skip
theorem zGL.ok (a1:(List Pack)) (a2:zC) (a3:(List Int)) (q:Wd) (kn:(List Int)→Option (D×List Ent)) (hk:∀v:(List Int),J (q.g Tryz.prog 106 1 57) zPK (atI zPK 15) (St.mk' [(7,rr 2 v)] [(0,.box [rr 1 a2.Files,iv a2.Budget,iv a2.Writes,iv a2.Stop,bv a2.Down]),(1,rE 2 (File.enc true) a2.Files),(2,rE 1 zK v)]) (some v) kn):
  ∀s31:((List Int)×Int),J (q.g Tryz.prog 106 1 57) zPK (atI zPK 116) (St.mk' [(0,sl 8 (Pack.enc false) a1),(1,pp 0),(2,sl 1 zK a3),(7,rr 2 s31.1),(8,iv s31.2)] [(0,.box [rr 1 a2.Files,iv a2.Budget,iv a2.Writes,iv a2.Stop,bv a2.Down]),(1,rE 2 (File.enc true) a2.Files),(2,rE 1 zK s31.1)]) (zEe a1 a2 a3 s31) kn:=by
 refine jL (fun g ih s31=>?_)
 unfold zA2
 refine J_d 464 [] [14] [(14,bv (decide (s31.2< (a3.length:Int))))] [] [] zB ?_
 refine zF 14 (fun h32=>?_) (fun h32=>?_)
 ·refine zA (fun x33 h34=>?_)
  refine zA (fun x35 h36=>?_)
  refine zA (fun x37 h38=>?_)
  refine yX 0 (cs':=[so 2 (File.enc true) a2.Files,iv a2.Budget,iv a2.Writes,iv a2.Stop,bv a2.Down]) (ts:=[1]) rfl (.move (.head _) (List.length_map _) (by decide) (.keep rfl (.keep rfl (.keep rfl (.keep rfl (.nil)))))) ?_
  refine wM [(0,sl 8 (Pack.enc false) a1),(1,pp 0),(2,sl 1 zK a3),(7,rr 2 s31.1),(8,iv s31.2),(14,bv true)] [(0,.box (zC.enc true a2)),(2,rE 1 zK s31.1)] (by kernel_rfl) ?_
  refine zA (fun x39 h40=>?_)
  refine J_g 1864 [] [(0,sl 8 (Pack.enc false) a1),(1,pp 0),(2,sl 1 zK a3),(7,rr 2 s31.1),(8,iv s31.2),(9,iv x39)] [(0,.box (zC.enc true a2)),(2,rE 1 zK s31.1)] (zD 4 (vR (kk:=.i64) 49 2 1 zK (.tmp 19) (.tmp 20) h34) (zD 6 (vR (kk:=.i64) 53 102 8 (Pack.enc false) (.tmp 18) (.tmp 22) h36) (zD 8 (xR [(.tmp 24)] [102] (uX.ok x35) h38) (zD 9 (zEU [(0,.box (zC.enc true a2))] [] (vX («as»:=[pp 0,sv x37]) [(.tmp 17),(.tmp 25)] [75,9] false [(0,.box (zC.enc true a2))] [0] (.cons (.pt rfl) (.cons (.same rfl) (.nil))) (zEu.ok a2 x37) h40 (.same rfl rfl))) zB)))) ?_
  refine yI 0 (cs':=[rr 3 a2.Files,iv a2.Budget,iv a2.Writes,iv a2.Stop,bv a2.Down]) (es:=[(3,rE 2 (File.enc true) a2.Files)]) rfl (.cons (.own 3) (.cons (.same rfl rfl) (.cons (.same rfl rfl) (.cons (.same rfl rfl) (.cons (.same rfl rfl) (.nil)))))) rfl (by kernel_rfl) (by kernel_rfl) ?_
  refine wM [(0,sl 8 (Pack.enc false) a1),(1,pp 0),(2,sl 1 zK a3),(7,rr 2 s31.1),(8,iv s31.2),(9,iv x39)] [(0,.box [rr 3 a2.Files,iv a2.Budget,iv a2.Writes,iv a2.Stop,bv a2.Down]),(2,rE 1 zK s31.1),(3,rE 2 (File.enc true) a2.Files)] (by kernel_rfl) ?_
  refine wB (atI zPK 3731) (fun v52:Bool=>St.mk' [(0,sl 8 (Pack.enc false) a1),(1,pp 0),(2,sl 1 zK a3),(7,rr 2 s31.1),(8,iv s31.2),(48,bv v52)] [(0,.box [rr 3 a2.Files,iv a2.Budget,iv a2.Writes,iv a2.Stop,bv a2.Down]),(2,rE 1 zK s31.1),(3,rE 2 (File.enc true) a2.Files)]) (fun v52=>?_) (fun jv52=>?_)
  ·refine wB (aft zPK 932) (fun v58:(List Int)=>St.mk' [(0,sl 8 (Pack.enc false) a1),(1,pp 0),(2,sl 1 zK a3),(7,rr 5 v58),(8,iv s31.2)] [(0,.box [rr 3 a2.Files,iv a2.Budget,iv a2.Writes,iv a2.Stop,bv a2.Down]),(3,rE 2 (File.enc true) a2.Files),(5,rE 1 zK v58)]) (fun v58=>?_) (fun jv58=>?_)
   ·refine J_d 467 [] [8] [(8,iv (w64 (s31.2+1)))] [] [] zB ?_
    refine zDV 3 1 (Nat.le_of_ble_eq_true rfl) (Nat.le_of_ble_eq_true rfl) ?_
    refine zDV 5 2 (Nat.le_of_ble_eq_true rfl) (Nat.le_of_ble_eq_true rfl) ?_
    exact J_q (J_b (ih (v58,w64 (s31.2+1)))) rfl
   ·refine zF 48 (fun h53=>?_) (fun h53=>?_)
    ·refine zA (fun x54 h55=>?_)
     refine zA (fun x56 h57=>?_)
     refine J_d 7462 [] [7,48] [(7,rr 5 x56)] [2,5] [(5,rE 1 zK x56)] (zD 3 (vR (kk:=.i64) 49 2 1 zK (.tmp 50) (.tmp 51) h55) (zD 5 (zFm 49 2 1 4 zK [x54] [0] [(.tmp 53)] [iv x54]) (zD 6 (zII 49 49 2 2 1 8 5 2 4 zK (.tmp 49) (.tmp 54) h57) zB))) ?_
     exact xD (J_j (jv58 x56)) rfl
    ·refine zDV 2 5 (Nat.le_of_ble_eq_true rfl) (Nat.le_of_ble_eq_true rfl) ?_
     exact xD (J_j (jv58 s31.1)) rfl
  ·refine wL (fun h41=>?_) (fun h41=>?_)
   ·refine J_d 3730 [] [9,48] [(48,bv true)] [] [] (xX 2 [(28,bv (decide (x39<0)))] [] h41 zB) ?_
    exact xD (J_j (jv52 true)) rfl
   ·refine zA (fun x42 h43=>?_)
    refine zGQ (ix:=x39) (enc:=(File.enc true)) 3 1 4 h43 rfl rfl (by kernel_rfl) ?_
    refine wM [(0,sl 8 (Pack.enc false) a1),(1,pp 0),(2,sl 1 zK a3),(7,rr 2 s31.1),(8,iv s31.2),(9,iv x39)] [(0,.box [rr 3 a2.Files,iv a2.Budget,iv a2.Writes,iv a2.Stop,bv a2.Down]),(2,rE 1 zK s31.1),(3,.lent 2 (a2.Files.map (File.enc true)) x39.toNat 1 4 x42.Data.length),(4,rE 1 eU8 x42.Data)] (by kernel_rfl) ?_
    refine zA (fun x44 h45=>?_)
    refine zA (fun x46 h47=>?_)
    refine zA (fun x48 h49=>?_)
    refine zA (fun x50 h51=>?_)
    refine J_g 3730 [] [(0,sl 8 (Pack.enc false) a1),(1,pp 0),(2,sl 1 zK a3),(7,rr 2 s31.1),(8,iv s31.2),(48,bv (!x50))] [(0,.box [rr 3 a2.Files,iv a2.Budget,iv a2.Writes,iv a2.Stop,bv a2.Down]),(2,rE 1 zK s31.1),(3,.lent 2 (a2.Files.map (File.enc true)) x39.toNat 1 4 x42.Data.length),(4,rE 1 eU8 x42.Data)] (xX 2 [(28,bv (decide (x39<0)))] [] h41 (zBV 8 2 29 false (zMj (kk:=.i64) 27 124 2 3 (File.enc true) (.tmp 33) (.tmp 34) x39.toNat 1 4 x42.Data.length h43) (zBV 10 2 29 false (zMg 22 3 (.tmp 36) 2 (File.enc true) a2.Files x39.toNat 1 4 x42.Data.length) (zBV 14 2 29 false (vR (kk:=.i64) 49 2 1 zK (.tmp 39) (.tmp 40) h45) (zBV 16 2 29 false (vR (kk:=.i64) 53 102 8 (Pack.enc false) (.tmp 38) (.tmp 42) h47) (zBV 18 2 29 false (vX («as»:=[.ag (Pack.enc false x46)]) [(.tmp 44)] [102] false [] [] (.cons (.same rfl) (.nil)) (zAx.ok x46) h49 (.own 5)) (zBV 19 2 29 false (vX («as»:=[rr 4 x42.Data,rr 5 x48]) [(.tmp 37),(.tmp 45)] [22,22] true [(4,rE 1 eU8 x42.Data),(5,rE 1 eU8 x48)] [] (.cons (zFA (.head _) (fun _=>rfl) rfl) (.cons (zFA (.tail _ (.head _)) (fun _=>rfl) rfl) (.nil))) (zDY.ok x42.Data x48) h51 (.same rfl rfl) (hbor:=fun _=>⟨fhN,xQ⟩)) zB))))))) ?_
    refine zHg (ix:=x39) (enc:=(File.enc true)) (b:=x42) 3 1 4 h43 rfl rfl rfl rfl rfl (Nat.le_of_ble_eq_true rfl) (List.length_map _) ?_
    rw [zOY h43]
    refine wM [(0,sl 8 (Pack.enc false) a1),(1,pp 0),(2,sl 1 zK a3),(7,rr 2 s31.1),(8,iv s31.2),(48,bv (!x50))] [(0,.box [rr 3 a2.Files,iv a2.Budget,iv a2.Writes,iv a2.Stop,bv a2.Down]),(2,rE 1 zK s31.1),(3,rE 2 (File.enc true) a2.Files)] (by kernel_rfl) ?_
    exact xD (J_j (jv52 (!x50))) rfl
 ·exact xD (hk s31.1) rfl
theorem zE4.ok (a1:(List Pack)) (a2:zC) (a3:(List Int)):Ok Tryz.prog 106 [sl 8 (Pack.enc false) a1,pp 0,sl 1 zK a3] [.box (zC.enc true a2)] ((zAI a1 a2 a3).map fun r=>(so 1 zK r,[.box (zC.enc true a2)])):=by
 refine zG zPK Tryz.f106 1 57 (fun q=>?_)
 unfold zAI
 refine yI 0 (cs':=[rr 1 a2.Files,iv a2.Budget,iv a2.Writes,iv a2.Stop,bv a2.Down]) (es:=[(1,rE 2 (File.enc true) a2.Files)]) rfl (.cons (.own 1) (.cons (.same rfl rfl) (.cons (.same rfl rfl) (.cons (.same rfl rfl) (.cons (.same rfl rfl) (.nil)))))) rfl (by kernel_rfl) (by kernel_rfl) ?_
 refine wM [(0,sl 8 (Pack.enc false) a1),(1,pp 0),(2,sl 1 zK a3)] [(0,.box [rr 1 a2.Files,iv a2.Budget,iv a2.Writes,iv a2.Stop,bv a2.Down]),(1,rE 2 (File.enc true) a2.Files)] (by kernel_rfl) ?_
 refine J_g 2 [] [(0,sl 8 (Pack.enc false) a1),(1,pp 0),(2,sl 1 zK a3)] [(0,.box [rr 1 a2.Files,iv a2.Budget,iv a2.Writes,iv a2.Stop,bv a2.Down]),(1,rE 2 (File.enc true) a2.Files)] zB ?_
 refine J_g 6 [] [(0,sl 8 (Pack.enc false) a1),(1,pp 0),(2,sl 1 zK a3),(7,rr 2 ([]:List Int))] [(0,.box [rr 1 a2.Files,iv a2.Budget,iv a2.Writes,iv a2.Stop,bv a2.Down]),(1,rE 2 (File.enc true) a2.Files),(2,rE 1 zK ([]:List Int))] (zD 0 (zFm 49 2 1 2 zK ([]:List Int) [] [] []) zB) ?_
 refine J_d 28 [] [8] [(8,iv 0)] [] [] zB ?_
 refine zE3 (zGL.ok a1 a2 a3 q _ (fun v59=>J_j ?_) (([]:List Int),0))
 refine J_g 30 [] [(6,rr 2 v59)] [(0,.box [rr 1 a2.Files,iv a2.Budget,iv a2.Writes,iv a2.Stop,bv a2.Down]),(1,rE 2 (File.enc true) a2.Files),(2,rE 1 zK v59)] zB ?_
 refine yX 0 (cs':=[so 2 (File.enc true) a2.Files,iv a2.Budget,iv a2.Writes,iv a2.Stop,bv a2.Down]) (ts:=[1]) rfl (.move (.head _) (List.length_map _) (by decide) (.keep rfl (.keep rfl (.keep rfl (.keep rfl (.nil)))))) ?_
 refine wM [(6,rr 2 v59)] [(0,.box (zC.enc true a2)),(2,rE 1 zK v59)] (by kernel_rfl) ?_
 exact zEH (ds:=[rr 2 v59]) (ds':=[so 1 zK v59]) (.cons (.cell (.move (.tail _ (.head _)) (List.length_map _) (by decide) (.nil))) (.nil) (by decide)) rfl
noncomputable def zRh:Code:=(Tryz.f111.body).getD .skip
theorem zDi.ok (a1:(List Pack)) (a2:(List Int)) (q:Wd) (kn:ByteArray→Option (D×List Ent)) (hk:∀v:ByteArray,J (q.g Tryz.prog 111 0 36) zRh (atI zRh 15) (St.mk' [(5,sv v)] []) (some v) kn):
  ∀s22:(ByteArray×Int),J (q.g Tryz.prog 111 0 36) zRh (atI zRh 116) (St.mk' [(0,sl 8 (Pack.enc false) a1),(1,sl 1 zK a2),(5,sv s22.1),(6,iv s22.2)] []) (zDi a1 a2 s22) kn:=by
 refine jL (fun g ih s22=>?_)
 unfold zC1
 refine J_d 464 [] [10] [(10,bv (decide (s22.2< (a2.length:Int))))] [] [] zB ?_
 refine zF 10 (fun h23=>?_) (fun h23=>?_)
 ·refine zA (fun x24 h25=>?_)
  refine zA (fun x26 h27=>?_)
  refine zA (fun x28 h29=>?_)
  refine zA (fun x30 h31=>?_)
  refine zA (fun x32 h33=>?_)
  refine zA (fun x34 h35=>?_)
  refine zA (fun x36 h37=>?_)
  refine zA (fun x38 h39=>?_)
  refine zA (fun x40 h41=>?_)
  refine J_g 932 [] [(0,sl 8 (Pack.enc false) a1),(1,sl 1 zK a2),(5,sv x40),(6,iv s22.2)] [] (zD 4 (vR (kk:=.i64) 49 2 1 zK (.tmp 15) (.tmp 16) h25) (zD 6 (vR (kk:=.i64) 53 102 8 (Pack.enc false) (.tmp 14) (.tmp 18) h27) (zD 9 (zEo 9 9 (.tmp 13) (.tmp 21) h29) (zD 10 (zEo 9 9 (.tmp 22) (.const (.string (bs [32]))) h31) (zD 14 (vR (kk:=.i64) 49 2 1 zK (.tmp 25) (.tmp 26) h33) (zD 16 (vR (kk:=.i64) 53 102 8 (Pack.enc false) (.tmp 24) (.tmp 28) h35) (zD 19 (xR [(.tmp 31)] [39] (wW.ok x34.Version) h37) (zD 20 (zEo 9 9 (.tmp 23) (.tmp 32) h39) (zD 21 (zEo 9 9 (.tmp 33) (.const (.string (bs [10]))) h41) zB))))))))) ?_
  refine J_d 467 [] [6] [(6,iv (w64 (s22.2+1)))] [] [] zB ?_
  exact J_q (J_b (ih (x40,w64 (s22.2+1)))) rfl
 ·exact xD (hk s22.1) rfl
theorem kR.ok (a1:(List Pack)) (a2:(List Int)):Ok Tryz.prog 111 [sl 8 (Pack.enc false) a1,sl 1 zK a2] [] ((kR a1 a2).map fun r=>(sv r,[])):=by
 refine zG zRh Tryz.f111 0 36 (fun q=>?_)
 unfold kR
 refine J_g 2 [] [(0,sl 8 (Pack.enc false) a1),(1,sl 1 zK a2)] [] zB ?_
 refine J_g 6 [] [(0,sl 8 (Pack.enc false) a1),(1,sl 1 zK a2),(5,sv (bs []))] [] zB ?_
 refine J_d 28 [] [6] [(6,iv 0)] [] [] zB ?_
 refine zE3 (zDi.ok a1 a2 q _ (fun v42=>J_j ?_) (bs [],0))
 refine J_g 30 [] [(4,sv v42)] [] zB ?_
 exact zN rfl
noncomputable def zP1:Code:=(Tryz.f104.body).getD .skip
theorem zHI.ok (a1:(List Pack)) (a2:zC) (x4:(List Int)) (q:Wd) (kn:(Int×Int)→Option (D×List Ent)) (hk:∀v:(Int×Int),J (q.g Tryz.prog 104 1 87) zP1 (atI zP1 63) (St.mk' [(1,pp 0),(9,iv v.1),(10,iv v.2)] [(0,.box [rr 2 a2.Files,iv a2.Budget,iv a2.Writes,iv a2.Stop,bv a2.Down]),(2,rE 2 (File.enc true) a2.Files)]) (some v) kn):
  ∀s29:(Int×Int×Int),J (q.g Tryz.prog 104 1 87) zP1 (atI zP1 500) (St.mk' [(0,sl 8 (Pack.enc false) a1),(1,pp 0),(8,rr 1 x4),(9,iv s29.1),(10,iv s29.2.1),(11,iv s29.2.2)] [(0,.box [rr 2 a2.Files,iv a2.Budget,iv a2.Writes,iv a2.Stop,bv a2.Down]),(1,rE 1 zK x4),(2,rE 2 (File.enc true) a2.Files)]) (zEP a1 a2 x4 s29) kn:=by
 refine jL (fun g ih s29=>?_)
 unfold zC2
 refine J_d 2000 [] [30] [(30,bv (decide (s29.2.2< (x4.length:Int))))] [] [] zB ?_
 refine zF 30 (fun h30=>?_) (fun h30=>?_)
 ·refine zA (fun x31 h32=>?_)
  refine zA (fun x33 h34=>?_)
  refine J_d 8008 [] [9,30] [(9,iv (w64 (s29.1+x33.Size)))] [] [] (zD 4 (uN (kk:=.i64) 49 2 1 1 zK (.tmp 35) (.tmp 36) h32) (zD 5 (zEt (d:=iv x31) 2 1 1 0 zK (.tmp 37) h32 (by kernel_rfl)) (zD 6 (vR (kk:=.i64) 53 102 8 (Pack.enc false) (.tmp 34) (.tmp 38) h34) zB))) ?_
  refine zA (fun x35 h36=>?_)
  refine zA (fun x37 h38=>?_)
  refine zA (fun x39 h40=>?_)
  refine yX 0 (cs':=[so 2 (File.enc true) a2.Files,iv a2.Budget,iv a2.Writes,iv a2.Stop,bv a2.Down]) (ts:=[2]) rfl (.move (.tail _ (.head _)) (List.length_map _) (by decide) (.keep rfl (.keep rfl (.keep rfl (.keep rfl (.nil)))))) ?_
  refine wM [(0,sl 8 (Pack.enc false) a1),(1,pp 0),(8,rr 1 x4),(9,iv (w64 (s29.1+x33.Size))),(10,iv s29.2.1),(11,iv s29.2.2)] [(0,.box (zC.enc true a2)),(1,rE 1 zK x4)] (by kernel_rfl) ?_
  refine zA (fun x41 h42=>?_)
  refine J_g 16018 [] [(0,sl 8 (Pack.enc false) a1),(1,pp 0),(8,rr 1 x4),(9,iv (w64 (s29.1+x33.Size))),(10,iv s29.2.1),(11,iv s29.2.2),(12,iv x41)] [(0,.box (zC.enc true a2)),(1,rE 1 zK x4)] (zD 4 (uN (kk:=.i64) 49 2 1 1 zK (.tmp 45) (.tmp 46) h36) (zD 5 (zEt (d:=iv x35) 2 1 1 0 zK (.tmp 47) h36 (by kernel_rfl)) (zD 6 (vR (kk:=.i64) 53 102 8 (Pack.enc false) (.tmp 44) (.tmp 48) h38) (zD 8 (xR [(.tmp 50)] [102] (uX.ok x37) h40) (zD 9 (zEU [(0,.box (zC.enc true a2))] [] (vX («as»:=[pp 0,sv x39]) [(.tmp 43),(.tmp 51)] [75,9] false [(0,.box (zC.enc true a2))] [0] (.cons (.pt rfl) (.cons (.same rfl) (.nil))) (zEu.ok a2 x39) h42 (.same rfl rfl))) zB))))) ?_
  refine yI 0 (cs':=[rr 2 a2.Files,iv a2.Budget,iv a2.Writes,iv a2.Stop,bv a2.Down]) (es:=[(2,rE 2 (File.enc true) a2.Files)]) rfl (.cons (.own 2) (.cons (.same rfl rfl) (.cons (.same rfl rfl) (.cons (.same rfl rfl) (.cons (.same rfl rfl) (.nil)))))) rfl (by kernel_rfl) (by kernel_rfl) ?_
  refine wM [(0,sl 8 (Pack.enc false) a1),(1,pp 0),(8,rr 1 x4),(9,iv (w64 (s29.1+x33.Size))),(10,iv s29.2.1),(11,iv s29.2.2),(12,iv x41)] [(0,.box [rr 2 a2.Files,iv a2.Budget,iv a2.Writes,iv a2.Stop,bv a2.Down]),(1,rE 1 zK x4),(2,rE 2 (File.enc true) a2.Files)] (by kernel_rfl) ?_
  refine J_d 32038 [] [54] [(54,bv (decide (x41<0)))] [] [] zB ?_
  refine wB (aft zP1 4004) (fun v46:(Int×Int)=>St.mk' [(0,sl 8 (Pack.enc false) a1),(1,pp 0),(8,rr 1 x4),(9,iv v46.1),(10,iv v46.2),(11,iv s29.2.2)] [(0,.box [rr 2 a2.Files,iv a2.Budget,iv a2.Writes,iv a2.Stop,bv a2.Down]),(1,rE 1 zK x4),(2,rE 2 (File.enc true) a2.Files)]) (fun v46=>?_) (fun jv46=>?_)
  ·refine J_d 2003 [] [11] [(11,iv (w64 (s29.2.2+1)))] [] [] zB ?_
   exact J_q (J_b (ih (v46.1,v46.2,w64 (s29.2.2+1)))) rfl
  ·refine zF 54 (fun h43=>?_) (fun h43=>?_)
   ·refine J_d 64078 [] [10,12,54] [(10,iv (w64 (s29.2.1+1)))] [] [] zB ?_
    exact xD (J_j (jv46 (w64 (s29.1+x33.Size),w64 (s29.2.1+1)))) rfl
   ·refine zA (fun x44 h45=>?_)
    refine J_d 64079 [] [9,12,54] [(9,iv (w64 ((w64 (s29.1+x33.Size))-(x44.Data.length:Int))))] [] [] (zD 6 (uN (kk:=.i64) 27 124 2 2 (File.enc true) (.tmp 61) (.tmp 62) h45) (zD 8 (zNE (d:=.ln x44.Data.length) 22 2 2 1 (File.enc true) (.tmp 64) h45 (by kernel_rfl)) zB)) ?_
    exact xD (J_j (jv46 (w64 ((w64 (s29.1+x33.Size))-(x44.Data.length:Int)),s29.2.1))) rfl
 ·exact xD (hk (s29.1,s29.2.1)) rfl
theorem zK9.ok (a1:(List Pack)) (a2:zC) (a3:(List Int)):Ok Tryz.prog 104 [sl 8 (Pack.enc false) a1,pp 0,sl 1 zK a3] [.box (zC.enc true a2)] ((zEA a1 a2 a3).map fun r=>(.tu [iv r.1,iv r.2],[.box (zC.enc true a2)])):=by
 refine zG zP1 Tryz.f104 1 87 (fun q=>?_)
 unfold zEA
 refine yI 0 (cs':=[rr 1 a2.Files,iv a2.Budget,iv a2.Writes,iv a2.Stop,bv a2.Down]) (es:=[(1,rE 2 (File.enc true) a2.Files)]) rfl (.cons (.own 1) (.cons (.same rfl rfl) (.cons (.same rfl rfl) (.cons (.same rfl rfl) (.cons (.same rfl rfl) (.nil)))))) rfl (by kernel_rfl) (by kernel_rfl) ?_
 refine wM [(0,sl 8 (Pack.enc false) a1),(1,pp 0),(2,sl 1 zK a3)] [(0,.box [rr 1 a2.Files,iv a2.Budget,iv a2.Writes,iv a2.Stop,bv a2.Down]),(1,rE 2 (File.enc true) a2.Files)] (by kernel_rfl) ?_
 refine J_g 2 [] [(0,sl 8 (Pack.enc false) a1),(1,pp 0),(2,sl 1 zK a3)] [(0,.box [rr 1 a2.Files,iv a2.Budget,iv a2.Writes,iv a2.Stop,bv a2.Down]),(1,rE 2 (File.enc true) a2.Files)] zB ?_
 refine yX 0 (cs':=[so 2 (File.enc true) a2.Files,iv a2.Budget,iv a2.Writes,iv a2.Stop,bv a2.Down]) (ts:=[1]) rfl (.move (.head _) (List.length_map _) (by decide) (.keep rfl (.keep rfl (.keep rfl (.keep rfl (.nil)))))) ?_
 refine wM [(0,sl 8 (Pack.enc false) a1),(1,pp 0),(2,sl 1 zK a3)] [(0,.box (zC.enc true a2))] (by kernel_rfl) ?_
 refine zA (fun x4 h5=>?_)
 refine J_g 6 [] [(0,sl 8 (Pack.enc false) a1),(1,pp 0),(2,sl 1 zK a3),(8,rr 1 x4)] [(0,.box (zC.enc true a2)),(1,rE 1 zK x4)] (zD 3 (zEU [(0,.box (zC.enc true a2))] [(1,rE 1 zK x4)] (vX («as»:=[sl 8 (Pack.enc false) a1,pp 0,sl 1 zK a3]) [(.tmp 14),(.tmp 15),(.tmp 16)] [53,75,49] false [(0,.box (zC.enc true a2))] [0] (.cons (.same rfl) (.cons (.pt rfl) (.cons (.same rfl) (.nil)))) (zE4.ok a1 a2 a3) h5 (.own 1))) zB) ?_
 refine yI 0 (cs':=[rr 2 a2.Files,iv a2.Budget,iv a2.Writes,iv a2.Stop,bv a2.Down]) (es:=[(2,rE 2 (File.enc true) a2.Files)]) rfl (.cons (.own 2) (.cons (.same rfl rfl) (.cons (.same rfl rfl) (.cons (.same rfl rfl) (.cons (.same rfl rfl) (.nil)))))) rfl (by kernel_rfl) (by kernel_rfl) ?_
 refine wM [(0,sl 8 (Pack.enc false) a1),(1,pp 0),(2,sl 1 zK a3),(8,rr 1 x4)] [(0,.box [rr 2 a2.Files,iv a2.Budget,iv a2.Writes,iv a2.Stop,bv a2.Down]),(1,rE 1 zK x4),(2,rE 2 (File.enc true) a2.Files)] (by kernel_rfl) ?_
 refine zA (fun x6 h7=>?_)
 refine yX 0 (cs':=[so 2 (File.enc true) a2.Files,iv a2.Budget,iv a2.Writes,iv a2.Stop,bv a2.Down]) (ts:=[2]) rfl (.move (.tail _ (.head _)) (List.length_map _) (by decide) (.keep rfl (.keep rfl (.keep rfl (.keep rfl (.nil)))))) ?_
 refine wM [(0,sl 8 (Pack.enc false) a1),(1,pp 0),(2,sl 1 zK a3),(8,rr 1 x4)] [(0,.box (zC.enc true a2)),(1,rE 1 zK x4)] (by kernel_rfl) ?_
 refine zA (fun x8 h9=>?_)
 refine zA (fun x10 h11=>?_)
 refine J_g 14 [] [(0,sl 8 (Pack.enc false) a1),(1,pp 0),(8,rr 1 x4),(9,iv (w64 ((x6.size:Int)+(x10.size:Int))))] [(0,.box (zC.enc true a2)),(1,rE 1 zK x4)] (zD 2 (xR [(.tmp 18),(.tmp 19)] [53,49] (kR.ok a1 a3) h7) (zD 5 (zEU [(0,.box (zC.enc true a2))] [] (vX («as»:=[pp 0]) [(.tmp 22)] [75] false [(0,.box (zC.enc true a2))] [0] (.cons (.pt rfl) (.nil)) (zF8.ok a2) h9 (.same rfl rfl))) (zD 6 (xR [(.tmp 23)] [2] (xG.ok x8) h11) zB))) ?_
 refine yI 0 (cs':=[rr 2 a2.Files,iv a2.Budget,iv a2.Writes,iv a2.Stop,bv a2.Down]) (es:=[(2,rE 2 (File.enc true) a2.Files)]) rfl (.cons (.own 2) (.cons (.same rfl rfl) (.cons (.same rfl rfl) (.cons (.same rfl rfl) (.cons (.same rfl rfl) (.nil)))))) rfl (by kernel_rfl) (by kernel_rfl) ?_
 refine wM [(0,sl 8 (Pack.enc false) a1),(1,pp 0),(8,rr 1 x4),(9,iv (w64 ((x6.size:Int)+(x10.size:Int))))] [(0,.box [rr 2 a2.Files,iv a2.Budget,iv a2.Writes,iv a2.Stop,bv a2.Down]),(1,rE 1 zK x4),(2,rE 2 (File.enc true) a2.Files)] (by kernel_rfl) ?_
 refine J_g 30 [] [(0,sl 8 (Pack.enc false) a1),(1,pp 0),(8,rr 1 x4),(9,iv (w64 ((x6.size:Int)+(x10.size:Int)))),(10,iv 1)] [(0,.box [rr 2 a2.Files,iv a2.Budget,iv a2.Writes,iv a2.Stop,bv a2.Down]),(1,rE 1 zK x4),(2,rE 2 (File.enc true) a2.Files)] zB ?_
 refine J_d 124 [] [11] [(11,iv 0)] [] [] zB ?_
 refine zE3 (zHI.ok a1 a2 x4 q _ (fun v47=>J_j ?_) (w64 ((x6.size:Int)+(x10.size:Int)),1,0))
 refine yX 0 (cs':=[so 2 (File.enc true) a2.Files,iv a2.Budget,iv a2.Writes,iv a2.Stop,bv a2.Down]) (ts:=[2]) rfl (.move (.head _) (List.length_map _) (by decide) (.keep rfl (.keep rfl (.keep rfl (.keep rfl (.nil)))))) ?_
 refine wM [(1,pp 0),(9,iv v47.1),(10,iv v47.2)] [(0,.box (zC.enc true a2))] (by kernel_rfl) ?_
 refine zA (fun x48 h49=>?_)
 refine J_g 252 [] [(1,pp 0),(9,iv v47.1),(10,iv v47.2),(13,iv x48)] [(0,.box (zC.enc true a2))] (zD 1 (zEU [(0,.box (zC.enc true a2))] [] (vX («as»:=[pp 0,sv (bs [99,117,114])]) [(.tmp 68),(.const (.string (bs [99,117,114])))] [75,9] false [(0,.box (zC.enc true a2))] [0] (.cons (.pt rfl) (.cons (.same rfl) (.nil))) (zEu.ok a2 (bs [99,117,114])) h49 (.same rfl rfl))) zB) ?_
 refine yI 0 (cs':=[rr 1 a2.Files,iv a2.Budget,iv a2.Writes,iv a2.Stop,bv a2.Down]) (es:=[(1,rE 2 (File.enc true) a2.Files)]) rfl (.cons (.own 1) (.cons (.same rfl rfl) (.cons (.same rfl rfl) (.cons (.same rfl rfl) (.cons (.same rfl rfl) (.nil)))))) rfl (by kernel_rfl) (by kernel_rfl) ?_
 refine wM [(1,pp 0),(9,iv v47.1),(10,iv v47.2),(13,iv x48)] [(0,.box [rr 1 a2.Files,iv a2.Budget,iv a2.Writes,iv a2.Stop,bv a2.Down]),(1,rE 2 (File.enc true) a2.Files)] (by kernel_rfl) ?_
 refine J_d 506 [] [71] [(71,bv (decide (x48≥0)))] [] [] zB ?_
 refine wB (atI zP1 127) (fun v53:(Int×Int)=>St.mk' [(9,iv v53.1),(10,iv v53.2)] [(0,.box [rr 1 a2.Files,iv a2.Budget,iv a2.Writes,iv a2.Stop,bv a2.Down]),(1,rE 2 (File.enc true) a2.Files)]) (fun v53=>?_) (fun jv53=>?_)
 ·refine J_g 254 [] [(6,iv v53.1),(7,iv v53.2)] [(0,.box [rr 1 a2.Files,iv a2.Budget,iv a2.Writes,iv a2.Stop,bv a2.Down]),(1,rE 2 (File.enc true) a2.Files)] zB ?_
  refine yX 0 (cs':=[so 2 (File.enc true) a2.Files,iv a2.Budget,iv a2.Writes,iv a2.Stop,bv a2.Down]) (ts:=[1]) rfl (.move (.head _) (List.length_map _) (by decide) (.keep rfl (.keep rfl (.keep rfl (.keep rfl (.nil)))))) ?_
  refine wM [(6,iv v53.1),(7,iv v53.2)] [(0,.box (zC.enc true a2))] (by kernel_rfl) ?_
  exact zOr rfl
 ·refine zF 71 (fun h50=>?_) (fun h50=>?_)
  ·refine zA (fun x51 h52=>?_)
   refine J_d 1014 [] [1,9,13,71] [(9,iv (w64 (v47.1-(x51.Data.length:Int))))] [] [] (zD 6 (uN (kk:=.i64) 27 124 2 1 (File.enc true) (.tmp 76) (.tmp 77) h52) (zD 8 (zNE (d:=.ln x51.Data.length) 22 2 1 1 (File.enc true) (.tmp 79) h52 (by kernel_rfl)) zB)) ?_
   exact xD (J_j (jv53 (w64 (v47.1-(x51.Data.length:Int)),v47.2))) rfl
  ·refine J_d 1015 [] [1,10,13,71] [(10,iv (w64 (v47.2+1)))] [] [] zB ?_
   exact xD (J_j (jv53 (v47.1,w64 (v47.2+1)))) rfl
theorem zHz.ok (a1:zC) (q:Wd) (kn:Int→Option (D×List Ent)) (hk:∀v:Int,J (q.g Tryz.prog 169 1 26) zLi (atI zLi 15) (St.mk' [(3,iv v)] [(0,.box [rr 1 a1.Files,iv a1.Budget,iv a1.Writes,iv a1.Stop,bv a1.Down]),(1,rE 2 (File.enc true) a1.Files)]) (some v) kn):
  ∀s5:(Int×Int),J (q.g Tryz.prog 169 1 26) zLi (atI zLi 116) (St.mk' [(0,pp 0),(3,iv s5.1),(4,iv s5.2)] [(0,.box [rr 1 a1.Files,iv a1.Budget,iv a1.Writes,iv a1.Stop,bv a1.Down]),(1,rE 2 (File.enc true) a1.Files)]) (kU a1 s5) kn:=by
 refine jL (fun g ih s5=>?_)
 unfold jI
 refine J_d 464 [] [11] [(11,bv (decide (s5.2< (a1.Files.length:Int))))] [] [] zB ?_
 refine zF 11 (fun h6=>?_) (fun h6=>?_)
 ·refine zA (fun x7 h8=>?_)
  refine J_g 932 [] [(0,pp 0),(3,iv (w64 (s5.1+(x7.Data.length:Int)))),(4,iv s5.2)] [(0,.box [rr 1 a1.Files,iv a1.Budget,iv a1.Writes,iv a1.Stop,bv a1.Down]),(1,rE 2 (File.enc true) a1.Files)] (zD 6 (uN (kk:=.i64) 27 124 2 1 (File.enc true) (.tmp 18) (.tmp 19) h8) (zD 8 (zNE (d:=.ln x7.Data.length) 22 2 1 1 (File.enc true) (.tmp 21) h8 (by kernel_rfl)) zB)) ?_
  refine J_d 467 [] [4] [(4,iv (w64 (s5.2+1)))] [] [] zB ?_
  exact J_q (J_b (ih (w64 (s5.1+(x7.Data.length:Int)),w64 (s5.2+1)))) rfl
 ·exact xD (hk s5.1) rfl
theorem zJB.ok (a1:zC):Ok Tryz.prog 169 [pp 0] [.box (zC.enc true a1)] ((wV a1).map fun r=>(iv r,[.box (zC.enc true a1)])):=by
 refine zG zLi Tryz.f169 1 26 (fun q=>?_)
 unfold wV
 refine yI 0 (cs':=[rr 1 a1.Files,iv a1.Budget,iv a1.Writes,iv a1.Stop,bv a1.Down]) (es:=[(1,rE 2 (File.enc true) a1.Files)]) rfl (.cons (.own 1) (.cons (.same rfl rfl) (.cons (.same rfl rfl) (.cons (.same rfl rfl) (.cons (.same rfl rfl) (.nil)))))) rfl (by kernel_rfl) (by kernel_rfl) ?_
 refine wM [(0,pp 0)] [(0,.box [rr 1 a1.Files,iv a1.Budget,iv a1.Writes,iv a1.Stop,bv a1.Down]),(1,rE 2 (File.enc true) a1.Files)] (by kernel_rfl) ?_
 refine J_g 2 [] [(0,pp 0)] [(0,.box [rr 1 a1.Files,iv a1.Budget,iv a1.Writes,iv a1.Stop,bv a1.Down]),(1,rE 2 (File.enc true) a1.Files)] zB ?_
 refine J_g 6 [] [(0,pp 0),(3,iv 0)] [(0,.box [rr 1 a1.Files,iv a1.Budget,iv a1.Writes,iv a1.Stop,bv a1.Down]),(1,rE 2 (File.enc true) a1.Files)] zB ?_
 refine J_d 28 [] [4] [(4,iv 0)] [] [] zB ?_
 refine zE3 (zHz.ok a1 q _ (fun v9=>J_j ?_) (0,0))
 refine J_g 30 [] [(2,iv v9)] [(0,.box [rr 1 a1.Files,iv a1.Budget,iv a1.Writes,iv a1.Stop,bv a1.Down]),(1,rE 2 (File.enc true) a1.Files)] zB ?_
 refine yX 0 (cs':=[so 2 (File.enc true) a1.Files,iv a1.Budget,iv a1.Writes,iv a1.Stop,bv a1.Down]) (ts:=[1]) rfl (.move (.head _) (List.length_map _) (by decide) (.keep rfl (.keep rfl (.keep rfl (.keep rfl (.nil)))))) ?_
 refine wM [(2,iv v9)] [(0,.box (zC.enc true a1))] (by kernel_rfl) ?_
 exact zN rfl
noncomputable def zSu:Code:=(Tryz.f170.body).getD .skip
theorem zAn.ok (a1:Int) (a2:Int):Ok Tryz.prog 170 [iv a1,iv a2] [] ((zAn a1 a2).map fun r=>(iv r,[])):=by
 refine zG zSu Tryz.f170 0 10 (fun q=>?_)
 unfold zAn
 refine J_g 2 [] [(0,iv a1),(1,iv a2)] [] zB ?_
 refine J_d 12 [] [7] [(7,bv (decide (a1>a2)))] [] [] zB ?_
 refine zF 7 (fun h3=>?_) (fun h3=>?_)
 ·refine J_g 52 [] [(4,iv a1)] [] zB ?_
  exact zN rfl
 ·refine J_g 14 [] [(4,iv a2)] [] zB ?_
  exact zN rfl
noncomputable def c105:Code:=(Tryz.f105.body).getD .skip
theorem zHD.ok (a1:(List Pack)) (a2:zC) (a3:(List Int)) (x6:(List Int)) (q:Wd) (kn:(Int×Int)→Option (D×List Ent)) (hk:∀v:(Int×Int),J (q.g Tryz.prog 105 1 95) c105 (atI c105 63) (St.mk' [(0,sl 8 (Pack.enc false) a1),(1,pp 0),(2,sl 1 zK a3),(7,iv v.1),(8,iv v.2)] [(0,.box [rr 2 a2.Files,iv a2.Budget,iv a2.Writes,iv a2.Stop,bv a2.Down]),(2,rE 2 (File.enc true) a2.Files)]) (some v) kn):
  ∀s27:(Int×Int×Int),J (q.g Tryz.prog 105 1 95) c105 (atI c105 500) (St.mk' [(0,sl 8 (Pack.enc false) a1),(1,pp 0),(2,sl 1 zK a3),(7,iv s27.1),(8,iv s27.2.1),(9,rr 1 x6),(10,iv s27.2.2)] [(0,.box [rr 2 a2.Files,iv a2.Budget,iv a2.Writes,iv a2.Stop,bv a2.Down]),(1,rE 1 zK x6),(2,rE 2 (File.enc true) a2.Files)]) (zEQ a1 a2 a3 x6 s27) kn:=by
 refine jL (fun g ih s27=>?_)
 unfold zCw
 refine J_d 2000 [] [23] [(23,bv (decide (s27.2.2< (x6.length:Int))))] [] [] zB ?_
 refine zF 23 (fun h28=>?_) (fun h28=>?_)
 ·refine zA (fun x29 h30=>?_)
  refine zA (fun x31 h32=>?_)
  refine J_d 8008 [] [7,23] [(7,iv (w64 (s27.1+x31.Size)))] [] [] (zD 4 (uN (kk:=.i64) 49 2 1 1 zK (.tmp 28) (.tmp 29) h30) (zD 5 (zEt (d:=iv x29) 2 1 1 0 zK (.tmp 30) h30 (by kernel_rfl)) (zD 6 (vR (kk:=.i64) 53 102 8 (Pack.enc false) (.tmp 27) (.tmp 31) h32) zB))) ?_
  refine zA (fun x33 h34=>?_)
  refine zA (fun x35 h36=>?_)
  refine zA (fun x37 h38=>?_)
  refine yX 0 (cs':=[so 2 (File.enc true) a2.Files,iv a2.Budget,iv a2.Writes,iv a2.Stop,bv a2.Down]) (ts:=[2]) rfl (.move (.tail _ (.head _)) (List.length_map _) (by decide) (.keep rfl (.keep rfl (.keep rfl (.keep rfl (.nil)))))) ?_
  refine wM [(0,sl 8 (Pack.enc false) a1),(1,pp 0),(2,sl 1 zK a3),(7,iv (w64 (s27.1+x31.Size))),(8,iv s27.2.1),(9,rr 1 x6),(10,iv s27.2.2)] [(0,.box (zC.enc true a2)),(1,rE 1 zK x6)] (by kernel_rfl) ?_
  refine zA (fun x39 h40=>?_)
  refine J_g 32036 [] [(0,sl 8 (Pack.enc false) a1),(1,pp 0),(2,sl 1 zK a3),(7,iv (w64 (s27.1+x31.Size))),(8,iv s27.2.1),(9,rr 1 x6),(10,iv s27.2.2),(11,iv x39)] [(0,.box (zC.enc true a2)),(1,rE 1 zK x6)] (zD 4 (uN (kk:=.i64) 49 2 1 1 zK (.tmp 38) (.tmp 39) h34) (zD 5 (zEt (d:=iv x33) 2 1 1 0 zK (.tmp 40) h34 (by kernel_rfl)) (zD 6 (vR (kk:=.i64) 53 102 8 (Pack.enc false) (.tmp 37) (.tmp 41) h36) (zD 8 (xR [(.tmp 43)] [102] (uX.ok x35) h38) (zD 9 (zEU [(0,.box (zC.enc true a2))] [] (vX («as»:=[pp 0,sv x37]) [(.tmp 36),(.tmp 44)] [75,9] false [(0,.box (zC.enc true a2))] [0] (.cons (.pt rfl) (.cons (.same rfl) (.nil))) (zEu.ok a2 x37) h40 (.same rfl rfl))) zB))))) ?_
  refine yI 0 (cs':=[rr 2 a2.Files,iv a2.Budget,iv a2.Writes,iv a2.Stop,bv a2.Down]) (es:=[(2,rE 2 (File.enc true) a2.Files)]) rfl (.cons (.own 2) (.cons (.same rfl rfl) (.cons (.same rfl rfl) (.cons (.same rfl rfl) (.cons (.same rfl rfl) (.nil)))))) rfl (by kernel_rfl) (by kernel_rfl) ?_
  refine wM [(0,sl 8 (Pack.enc false) a1),(1,pp 0),(2,sl 1 zK a3),(7,iv (w64 (s27.1+x31.Size))),(8,iv s27.2.1),(9,rr 1 x6),(10,iv s27.2.2),(11,iv x39)] [(0,.box [rr 2 a2.Files,iv a2.Budget,iv a2.Writes,iv a2.Stop,bv a2.Down]),(1,rE 1 zK x6),(2,rE 2 (File.enc true) a2.Files)] (by kernel_rfl) ?_
  refine J_d 64074 [] [47] [(47,bv (decide (x39≥0)))] [] [] zB ?_
  refine wB (atI c105 16019) (fun v44:Int=>St.mk' [(0,sl 8 (Pack.enc false) a1),(1,pp 0),(2,sl 1 zK a3),(7,iv v44),(8,iv s27.2.1),(9,rr 1 x6),(10,iv s27.2.2)] [(0,.box [rr 2 a2.Files,iv a2.Budget,iv a2.Writes,iv a2.Stop,bv a2.Down]),(1,rE 1 zK x6),(2,rE 2 (File.enc true) a2.Files)]) (fun v44=>?_) (fun jv44=>?_)
  ·refine zA (fun x45 h46=>?_)
   refine J_g 16019 [] [(0,sl 8 (Pack.enc false) a1),(1,pp 0),(2,sl 1 zK a3),(7,iv v44),(8,iv x45),(9,rr 1 x6),(10,iv s27.2.2)] [(0,.box [rr 2 a2.Files,iv a2.Budget,iv a2.Writes,iv a2.Stop,bv a2.Down]),(1,rE 1 zK x6),(2,rE 2 (File.enc true) a2.Files)] (zD 2 (xR [(.tmp 59),(.tmp 60)] [2,2] (zAn.ok s27.2.1 v44) h46) zB) ?_
   refine J_d 2003 [] [10] [(10,iv (w64 (s27.2.2+1)))] [] [] zB ?_
   exact J_q (J_b (ih (v44,x45,w64 (s27.2.2+1)))) rfl
  ·refine zF 47 (fun h41=>?_) (fun h41=>?_)
   ·refine zA (fun x42 h43=>?_)
    refine J_d 128150 [] [7,11,47] [(7,iv (w64 ((w64 (s27.1+x31.Size))-(x42.Data.length:Int))))] [] [] (zD 6 (uN (kk:=.i64) 27 124 2 2 (File.enc true) (.tmp 52) (.tmp 53) h43) (zD 8 (zNE (d:=.ln x42.Data.length) 22 2 2 1 (File.enc true) (.tmp 55) h43 (by kernel_rfl)) zB)) ?_
    exact xD (J_j (jv44 (w64 ((w64 (s27.1+x31.Size))-(x42.Data.length:Int))))) rfl
   ·exact xD (J_j (jv44 (w64 (s27.1+x31.Size)))) rfl
 ·exact xD (hk (s27.1,s27.2.1)) rfl
theorem zKK.ok (a1:(List Pack)) (a2:zC) (a3:(List Int)):Ok Tryz.prog 105 [sl 8 (Pack.enc false) a1,pp 0,sl 1 zK a3] [.box (zC.enc true a2)] ((zEE a1 a2 a3).map fun r=>(iv r,[.box (zC.enc true a2)])):=by
 refine zG c105 Tryz.f105 1 95 (fun q=>?_)
 unfold zEE
 refine yI 0 (cs':=[rr 1 a2.Files,iv a2.Budget,iv a2.Writes,iv a2.Stop,bv a2.Down]) (es:=[(1,rE 2 (File.enc true) a2.Files)]) rfl (.cons (.own 1) (.cons (.same rfl rfl) (.cons (.same rfl rfl) (.cons (.same rfl rfl) (.cons (.same rfl rfl) (.nil)))))) rfl (by kernel_rfl) (by kernel_rfl) ?_
 refine wM [(0,sl 8 (Pack.enc false) a1),(1,pp 0),(2,sl 1 zK a3)] [(0,.box [rr 1 a2.Files,iv a2.Budget,iv a2.Writes,iv a2.Stop,bv a2.Down]),(1,rE 2 (File.enc true) a2.Files)] (by kernel_rfl) ?_
 refine J_g 2 [] [(0,sl 8 (Pack.enc false) a1),(1,pp 0),(2,sl 1 zK a3)] [(0,.box [rr 1 a2.Files,iv a2.Budget,iv a2.Writes,iv a2.Stop,bv a2.Down]),(1,rE 2 (File.enc true) a2.Files)] zB ?_
 refine yX 0 (cs':=[so 2 (File.enc true) a2.Files,iv a2.Budget,iv a2.Writes,iv a2.Stop,bv a2.Down]) (ts:=[1]) rfl (.move (.head _) (List.length_map _) (by decide) (.keep rfl (.keep rfl (.keep rfl (.keep rfl (.nil)))))) ?_
 refine wM [(0,sl 8 (Pack.enc false) a1),(1,pp 0),(2,sl 1 zK a3)] [(0,.box (zC.enc true a2))] (by kernel_rfl) ?_
 refine zA (fun x4 h5=>?_)
 refine J_g 6 [] [(0,sl 8 (Pack.enc false) a1),(1,pp 0),(2,sl 1 zK a3),(7,iv x4)] [(0,.box (zC.enc true a2))] (zD 1 (zEU [(0,.box (zC.enc true a2))] [] (vX («as»:=[pp 0]) [(.tmp 13)] [75] false [(0,.box (zC.enc true a2))] [0] (.cons (.pt rfl) (.nil)) (zJB.ok a2) h5 (.same rfl rfl))) zB) ?_
 refine yI 0 (cs':=[rr 1 a2.Files,iv a2.Budget,iv a2.Writes,iv a2.Stop,bv a2.Down]) (es:=[(1,rE 2 (File.enc true) a2.Files)]) rfl (.cons (.own 1) (.cons (.same rfl rfl) (.cons (.same rfl rfl) (.cons (.same rfl rfl) (.cons (.same rfl rfl) (.nil)))))) rfl (by kernel_rfl) (by kernel_rfl) ?_
 refine wM [(0,sl 8 (Pack.enc false) a1),(1,pp 0),(2,sl 1 zK a3),(7,iv x4)] [(0,.box [rr 1 a2.Files,iv a2.Budget,iv a2.Writes,iv a2.Stop,bv a2.Down]),(1,rE 2 (File.enc true) a2.Files)] (by kernel_rfl) ?_
 refine J_g 14 [] [(0,sl 8 (Pack.enc false) a1),(1,pp 0),(2,sl 1 zK a3),(7,iv x4),(8,iv x4)] [(0,.box [rr 1 a2.Files,iv a2.Budget,iv a2.Writes,iv a2.Stop,bv a2.Down]),(1,rE 2 (File.enc true) a2.Files)] zB ?_
 refine yX 0 (cs':=[so 2 (File.enc true) a2.Files,iv a2.Budget,iv a2.Writes,iv a2.Stop,bv a2.Down]) (ts:=[1]) rfl (.move (.head _) (List.length_map _) (by decide) (.keep rfl (.keep rfl (.keep rfl (.keep rfl (.nil)))))) ?_
 refine wM [(0,sl 8 (Pack.enc false) a1),(1,pp 0),(2,sl 1 zK a3),(7,iv x4),(8,iv x4)] [(0,.box (zC.enc true a2))] (by kernel_rfl) ?_
 refine zA (fun x6 h7=>?_)
 refine J_g 30 [] [(0,sl 8 (Pack.enc false) a1),(1,pp 0),(2,sl 1 zK a3),(7,iv x4),(8,iv x4),(9,rr 1 x6)] [(0,.box (zC.enc true a2)),(1,rE 1 zK x6)] (zD 3 (zEU [(0,.box (zC.enc true a2))] [(1,rE 1 zK x6)] (vX («as»:=[sl 8 (Pack.enc false) a1,pp 0,sl 1 zK a3]) [(.tmp 16),(.tmp 17),(.tmp 18)] [53,75,49] false [(0,.box (zC.enc true a2))] [0] (.cons (.same rfl) (.cons (.pt rfl) (.cons (.same rfl) (.nil)))) (zE4.ok a1 a2 a3) h7 (.own 1))) zB) ?_
 refine yI 0 (cs':=[rr 2 a2.Files,iv a2.Budget,iv a2.Writes,iv a2.Stop,bv a2.Down]) (es:=[(2,rE 2 (File.enc true) a2.Files)]) rfl (.cons (.own 2) (.cons (.same rfl rfl) (.cons (.same rfl rfl) (.cons (.same rfl rfl) (.cons (.same rfl rfl) (.nil)))))) rfl (by kernel_rfl) (by kernel_rfl) ?_
 refine wM [(0,sl 8 (Pack.enc false) a1),(1,pp 0),(2,sl 1 zK a3),(7,iv x4),(8,iv x4),(9,rr 1 x6)] [(0,.box [rr 2 a2.Files,iv a2.Budget,iv a2.Writes,iv a2.Stop,bv a2.Down]),(1,rE 1 zK x6),(2,rE 2 (File.enc true) a2.Files)] (by kernel_rfl) ?_
 refine J_d 124 [] [10] [(10,iv 0)] [] [] zB ?_
 refine zE3 (zHD.ok a1 a2 a3 x6 q _ (fun v47=>J_j ?_) (x4,x4,0))
 refine zA (fun x48 h49=>?_)
 refine J_d 126 [] [0,2,7] [(7,iv (w64 (v47.1+(x48.size:Int))))] [] [] (zD 3 (xR [(.tmp 63),(.tmp 64)] [53,49] (kR.ok a1 a3) h49) zB) ?_
 refine zA (fun x50 h51=>?_)
 refine J_g 254 [] [(1,pp 0),(7,iv (w64 (v47.1+(x48.size:Int)))),(8,iv x50)] [(0,.box [rr 2 a2.Files,iv a2.Budget,iv a2.Writes,iv a2.Stop,bv a2.Down]),(2,rE 2 (File.enc true) a2.Files)] (zD 2 (xR [(.tmp 68),(.tmp 69)] [2,2] (zAn.ok v47.2 (w64 (v47.1+(x48.size:Int)))) h51) zB) ?_
 refine yX 0 (cs':=[so 2 (File.enc true) a2.Files,iv a2.Budget,iv a2.Writes,iv a2.Stop,bv a2.Down]) (ts:=[2]) rfl (.move (.head _) (List.length_map _) (by decide) (.keep rfl (.keep rfl (.keep rfl (.keep rfl (.nil)))))) ?_
 refine wM [(1,pp 0),(7,iv (w64 (v47.1+(x48.size:Int)))),(8,iv x50)] [(0,.box (zC.enc true a2))] (by kernel_rfl) ?_
 refine zA (fun x52 h53=>?_)
 refine zA (fun x54 h55=>?_)
 refine J_g 510 [] [(1,pp 0),(7,iv (w64 ((w64 (v47.1+(x48.size:Int)))+(x54.size:Int)))),(8,iv x50)] [(0,.box (zC.enc true a2))] (zD 2 (zEU [(0,.box (zC.enc true a2))] [] (vX («as»:=[pp 0]) [(.tmp 72)] [75] false [(0,.box (zC.enc true a2))] [0] (.cons (.pt rfl) (.nil)) (zF8.ok a2) h53 (.same rfl rfl))) (zD 3 (xR [(.tmp 73)] [2] (xG.ok x52) h55) zB)) ?_
 refine yI 0 (cs':=[rr 1 a2.Files,iv a2.Budget,iv a2.Writes,iv a2.Stop,bv a2.Down]) (es:=[(1,rE 2 (File.enc true) a2.Files)]) rfl (.cons (.own 1) (.cons (.same rfl rfl) (.cons (.same rfl rfl) (.cons (.same rfl rfl) (.cons (.same rfl rfl) (.nil)))))) rfl (by kernel_rfl) (by kernel_rfl) ?_
 refine wM [(1,pp 0),(7,iv (w64 ((w64 (v47.1+(x48.size:Int)))+(x54.size:Int)))),(8,iv x50)] [(0,.box [rr 1 a2.Files,iv a2.Budget,iv a2.Writes,iv a2.Stop,bv a2.Down]),(1,rE 2 (File.enc true) a2.Files)] (by kernel_rfl) ?_
 refine yX 0 (cs':=[so 2 (File.enc true) a2.Files,iv a2.Budget,iv a2.Writes,iv a2.Stop,bv a2.Down]) (ts:=[1]) rfl (.move (.head _) (List.length_map _) (by decide) (.keep rfl (.keep rfl (.keep rfl (.keep rfl (.nil)))))) ?_
 refine wM [(1,pp 0),(7,iv (w64 ((w64 (v47.1+(x48.size:Int)))+(x54.size:Int)))),(8,iv x50)] [(0,.box (zC.enc true a2))] (by kernel_rfl) ?_
 refine zA (fun x56 h57=>?_)
 refine J_g 2044 [] [(1,pp 0),(7,iv (w64 ((w64 (v47.1+(x48.size:Int)))+(x54.size:Int)))),(8,iv x50),(12,iv x56)] [(0,.box (zC.enc true a2))] (zD 1 (zEU [(0,.box (zC.enc true a2))] [] (vX («as»:=[pp 0,sv (bs [99,117,114])]) [(.tmp 77),(.const (.string (bs [99,117,114])))] [75,9] false [(0,.box (zC.enc true a2))] [0] (.cons (.pt rfl) (.cons (.same rfl) (.nil))) (zEu.ok a2 (bs [99,117,114])) h57 (.same rfl rfl))) zB) ?_
 refine yI 0 (cs':=[rr 1 a2.Files,iv a2.Budget,iv a2.Writes,iv a2.Stop,bv a2.Down]) (es:=[(1,rE 2 (File.enc true) a2.Files)]) rfl (.cons (.own 1) (.cons (.same rfl rfl) (.cons (.same rfl rfl) (.cons (.same rfl rfl) (.cons (.same rfl rfl) (.nil)))))) rfl (by kernel_rfl) (by kernel_rfl) ?_
 refine wM [(1,pp 0),(7,iv (w64 ((w64 (v47.1+(x48.size:Int)))+(x54.size:Int)))),(8,iv x50),(12,iv x56)] [(0,.box [rr 1 a2.Files,iv a2.Budget,iv a2.Writes,iv a2.Stop,bv a2.Down]),(1,rE 2 (File.enc true) a2.Files)] (by kernel_rfl) ?_
 refine J_d 4090 [] [80] [(80,bv (decide (x56≥0)))] [] [] zB ?_
 refine wB (atI c105 1023) (fun v61:Int=>St.mk' [(7,iv v61),(8,iv x50)] [(0,.box [rr 1 a2.Files,iv a2.Budget,iv a2.Writes,iv a2.Stop,bv a2.Down]),(1,rE 2 (File.enc true) a2.Files)]) (fun v61=>?_) (fun jv61=>?_)
 ·refine zA (fun x62 h63=>?_)
  refine J_g 2046 [] [(6,iv x62)] [(0,.box [rr 1 a2.Files,iv a2.Budget,iv a2.Writes,iv a2.Stop,bv a2.Down]),(1,rE 2 (File.enc true) a2.Files)] (zD 2 (xR [(.tmp 92),(.tmp 93)] [2,2] (zAn.ok x50 v61) h63) zB) ?_
  refine yX 0 (cs':=[so 2 (File.enc true) a2.Files,iv a2.Budget,iv a2.Writes,iv a2.Stop,bv a2.Down]) (ts:=[1]) rfl (.move (.head _) (List.length_map _) (by decide) (.keep rfl (.keep rfl (.keep rfl (.keep rfl (.nil)))))) ?_
  refine wM [(6,iv x62)] [(0,.box (zC.enc true a2))] (by kernel_rfl) ?_
  exact zN rfl
 ·refine zF 80 (fun h58=>?_) (fun h58=>?_)
  ·refine zA (fun x59 h60=>?_)
   refine J_d 8182 [] [1,7,12,80] [(7,iv (w64 ((w64 ((w64 (v47.1+(x48.size:Int)))+(x54.size:Int)))-(x59.Data.length:Int))))] [] [] (zD 6 (uN (kk:=.i64) 27 124 2 1 (File.enc true) (.tmp 85) (.tmp 86) h60) (zD 8 (zNE (d:=.ln x59.Data.length) 22 2 1 1 (File.enc true) (.tmp 88) h60 (by kernel_rfl)) zB)) ?_
   exact xD (J_j (jv61 (w64 ((w64 ((w64 (v47.1+(x48.size:Int)))+(x54.size:Int)))-(x59.Data.length:Int))))) rfl
  ·exact xD (J_j (jv61 (w64 ((w64 (v47.1+(x48.size:Int)))+(x54.size:Int))))) rfl
noncomputable def zRJ:Code:=(Tryz.f172.body).getD .skip
noncomputable def c107:Code:=(Tryz.f107.body).getD .skip
theorem zGV.ok (a1:zC) (a2:ByteArray) (q:Wd) (kn:Unit→Option (D×List Ent)) (hk:∀v:Unit,J (q.g Tryz.prog 168 1 26) c168 (atI c168 7) (St.mk' [] [(0,.box [rr 1 a1.Files,iv a1.Budget,iv a1.Writes,iv a1.Stop,bv a1.Down]),(1,rE 2 (File.enc false) a1.Files)]) (some v) kn):
  ∀s7:Int,J (q.g Tryz.prog 168 1 26) c168 (atI c168 52) (St.mk' [(0,pp 0),(1,sv a2),(5,iv s7)] [(0,.box [rr 1 a1.Files,iv a1.Budget,iv a1.Writes,iv a1.Stop,bv a1.Down]),(1,rE 2 (File.enc false) a1.Files)]) (zEk a1 a2 s7) (Fl.go (fun r:Int=>some (iv r,[.box [so 2 (File.enc false) a1.Files,iv a1.Budget,iv a1.Writes,iv a1.Stop,bv a1.Down]])) kn):=by
 refine jL (fun g ih s7=>?_)
 unfold zBo
 refine J_d 208 [] [12] [(12,bv (decide (s7< (a1.Files.length:Int))))] [] [] zB ?_
 refine zF 12 (fun h8=>?_) (fun h8=>?_)
 ·refine zA (fun x9 h10=>?_)
  refine J_d 840 [] [12,24] [(24,bv (seq x9.Path a2))] [] [] (zD 5 (uN (kk:=.i64) 27 124 2 1 (File.enc false) (.tmp 18) (.tmp 19) h10) (zD 7 (zEt (d:=sv x9.Path) 9 2 1 0 (File.enc false) (.tmp 21) h10 (by kernel_rfl)) zB)) ?_
  refine zF 24 (fun h11=>?_) (fun h11=>?_)
  ·refine J_g 3364 [] [(4,iv s7)] [(0,.box [rr 1 a1.Files,iv a1.Budget,iv a1.Writes,iv a1.Stop,bv a1.Down]),(1,rE 2 (File.enc false) a1.Files)] zB ?_
   refine yX 0 (cs':=[so 2 (File.enc false) a1.Files,iv a1.Budget,iv a1.Writes,iv a1.Stop,bv a1.Down]) (ts:=[1]) rfl (.move (.head _) (List.length_map _) (by decide) (.keep rfl (.keep rfl (.keep rfl (.keep rfl (.nil)))))) ?_
   refine wM [(4,iv s7)] [(0,.box [so 2 (File.enc false) a1.Files,iv a1.Budget,iv a1.Writes,iv a1.Stop,bv a1.Down])] (by kernel_rfl) ?_
   exact zN rfl
  ·refine J_d 211 [] [5,24] [(5,iv (w64 (s7+1)))] [] [] zB ?_
   exact J_q (J_b (ih (w64 (s7+1)))) rfl
 ·exact xD (hk ()) rfl
theorem zGb.ok (a1:zC) (a2:ByteArray):Ok Tryz.prog 168 [pp 0,sv a2] [.box [so 2 (File.enc false) a1.Files,iv a1.Budget,iv a1.Writes,iv a1.Stop,bv a1.Down]] ((wC a1 a2).map fun r=>(iv r,[.box [so 2 (File.enc false) a1.Files,iv a1.Budget,iv a1.Writes,iv a1.Stop,bv a1.Down]])):=by
 refine zG c168 Tryz.f168 1 26 (fun q=>?_)
 unfold wC
 refine yI 0 (cs':=[rr 1 a1.Files,iv a1.Budget,iv a1.Writes,iv a1.Stop,bv a1.Down]) (es:=[(1,rE 2 (File.enc false) a1.Files)]) rfl (.cons (.own 1) (.cons (.same rfl rfl) (.cons (.same rfl rfl) (.cons (.same rfl rfl) (.cons (.same rfl rfl) (.nil)))))) rfl (by kernel_rfl) (by kernel_rfl) ?_
 refine wM [(0,pp 0),(1,sv a2)] [(0,.box [rr 1 a1.Files,iv a1.Budget,iv a1.Writes,iv a1.Stop,bv a1.Down]),(1,rE 2 (File.enc false) a1.Files)] (by kernel_rfl) ?_
 refine J_g 2 [] [(0,pp 0),(1,sv a2)] [(0,.box [rr 1 a1.Files,iv a1.Budget,iv a1.Writes,iv a1.Stop,bv a1.Down]),(1,rE 2 (File.enc false) a1.Files)] zB ?_
 refine J_d 12 [] [5] [(5,iv 0)] [] [] zB ?_
 refine uZ (K0:=(fun r:Int=>some (iv r,[.box [so 2 (File.enc false) a1.Files,iv a1.Budget,iv a1.Writes,iv a1.Stop,bv a1.Down]]))) (fun _=>rfl) (zGV.ok a1 a2 q _ (fun v12=>J_j ?_) 0)
 refine J_g 14 [] [(4,iv (-1))] [(0,.box [rr 1 a1.Files,iv a1.Budget,iv a1.Writes,iv a1.Stop,bv a1.Down]),(1,rE 2 (File.enc false) a1.Files)] zB ?_
 refine yX 0 (cs':=[so 2 (File.enc false) a1.Files,iv a1.Budget,iv a1.Writes,iv a1.Stop,bv a1.Down]) (ts:=[1]) rfl (.move (.head _) (List.length_map _) (by decide) (.keep rfl (.keep rfl (.keep rfl (.keep rfl (.nil)))))) ?_
 refine wM [(4,iv (-1))] [(0,.box [so 2 (File.enc false) a1.Files,iv a1.Budget,iv a1.Writes,iv a1.Stop,bv a1.Down])] (by kernel_rfl) ?_
 exact zN rfl
theorem zGz.ok (a1:zC) (q:Wd) (kn:Int→Option (D×List Ent)) (hk:∀v:Int,J (q.g Tryz.prog 169 1 26) zLi (atI zLi 15) (St.mk' [(3,iv v)] [(0,.box [rr 1 a1.Files,iv a1.Budget,iv a1.Writes,iv a1.Stop,bv a1.Down]),(1,rE 2 (File.enc false) a1.Files)]) (some v) kn):
  ∀s5:(Int×Int),J (q.g Tryz.prog 169 1 26) zLi (atI zLi 116) (St.mk' [(0,pp 0),(3,iv s5.1),(4,iv s5.2)] [(0,.box [rr 1 a1.Files,iv a1.Budget,iv a1.Writes,iv a1.Stop,bv a1.Down]),(1,rE 2 (File.enc false) a1.Files)]) (kU a1 s5) kn:=by
 refine jL (fun g ih s5=>?_)
 unfold jI
 refine J_d 464 [] [11] [(11,bv (decide (s5.2< (a1.Files.length:Int))))] [] [] zB ?_
 refine zF 11 (fun h6=>?_) (fun h6=>?_)
 ·refine zA (fun x7 h8=>?_)
  refine J_g 932 [] [(0,pp 0),(3,iv (w64 (s5.1+(x7.Data.length:Int)))),(4,iv s5.2)] [(0,.box [rr 1 a1.Files,iv a1.Budget,iv a1.Writes,iv a1.Stop,bv a1.Down]),(1,rE 2 (File.enc false) a1.Files)] (zD 6 (uN (kk:=.i64) 27 124 2 1 (File.enc false) (.tmp 18) (.tmp 19) h8) (zD 8 (zEt (d:=sl 1 eU8 x7.Data) 22 2 1 1 (File.enc false) (.tmp 21) h8 (by kernel_rfl)) zB)) ?_
  refine J_d 467 [] [4] [(4,iv (w64 (s5.2+1)))] [] [] zB ?_
  exact J_q (J_b (ih (w64 (s5.1+(x7.Data.length:Int)),w64 (s5.2+1)))) rfl
 ·exact xD (hk s5.1) rfl
theorem zF6.ok (a1:zC):Ok Tryz.prog 169 [pp 0] [.box [so 2 (File.enc false) a1.Files,iv a1.Budget,iv a1.Writes,iv a1.Stop,bv a1.Down]] ((wV a1).map fun r=>(iv r,[.box [so 2 (File.enc false) a1.Files,iv a1.Budget,iv a1.Writes,iv a1.Stop,bv a1.Down]])):=by
 refine zG zLi Tryz.f169 1 26 (fun q=>?_)
 unfold wV
 refine yI 0 (cs':=[rr 1 a1.Files,iv a1.Budget,iv a1.Writes,iv a1.Stop,bv a1.Down]) (es:=[(1,rE 2 (File.enc false) a1.Files)]) rfl (.cons (.own 1) (.cons (.same rfl rfl) (.cons (.same rfl rfl) (.cons (.same rfl rfl) (.cons (.same rfl rfl) (.nil)))))) rfl (by kernel_rfl) (by kernel_rfl) ?_
 refine wM [(0,pp 0)] [(0,.box [rr 1 a1.Files,iv a1.Budget,iv a1.Writes,iv a1.Stop,bv a1.Down]),(1,rE 2 (File.enc false) a1.Files)] (by kernel_rfl) ?_
 refine J_g 2 [] [(0,pp 0)] [(0,.box [rr 1 a1.Files,iv a1.Budget,iv a1.Writes,iv a1.Stop,bv a1.Down]),(1,rE 2 (File.enc false) a1.Files)] zB ?_
 refine J_g 6 [] [(0,pp 0),(3,iv 0)] [(0,.box [rr 1 a1.Files,iv a1.Budget,iv a1.Writes,iv a1.Stop,bv a1.Down]),(1,rE 2 (File.enc false) a1.Files)] zB ?_
 refine J_d 28 [] [4] [(4,iv 0)] [] [] zB ?_
 refine zE3 (zGz.ok a1 q _ (fun v9=>J_j ?_) (0,0))
 refine J_g 30 [] [(2,iv v9)] [(0,.box [rr 1 a1.Files,iv a1.Budget,iv a1.Writes,iv a1.Stop,bv a1.Down]),(1,rE 2 (File.enc false) a1.Files)] zB ?_
 refine yX 0 (cs':=[so 2 (File.enc false) a1.Files,iv a1.Budget,iv a1.Writes,iv a1.Stop,bv a1.Down]) (ts:=[1]) rfl (.move (.head _) (List.length_map _) (by decide) (.keep rfl (.keep rfl (.keep rfl (.keep rfl (.nil)))))) ?_
 refine wM [(2,iv v9)] [(0,.box [so 2 (File.enc false) a1.Files,iv a1.Budget,iv a1.Writes,iv a1.Stop,bv a1.Down])] (by kernel_rfl) ?_
 exact zN rfl
theorem zGH.ok (a1:zC):Ok Tryz.prog 172 [pp 0] [.box [so 2 (File.enc false) a1.Files,iv a1.Budget,iv a1.Writes,iv a1.Stop,bv a1.Down]] ((zED a1).map fun r=>(bv r.1,[.box [so 2 (File.enc false) r.2.Files,iv r.2.Budget,iv r.2.Writes,iv r.2.Stop,bv r.2.Down]])):=by
 refine zG zRJ Tryz.f172 1 34 (fun q=>?_)
 unfold zED
 refine yI 0 (cs':=[rr 1 a1.Files,iv a1.Budget,iv a1.Writes,iv a1.Stop,bv a1.Down]) (es:=[(1,rE 2 (File.enc false) a1.Files)]) rfl (.cons (.own 1) (.cons (.same rfl rfl) (.cons (.same rfl rfl) (.cons (.same rfl rfl) (.cons (.same rfl rfl) (.nil)))))) rfl (by kernel_rfl) (by kernel_rfl) ?_
 refine wM [(0,pp 0)] [(0,.box [rr 1 a1.Files,iv a1.Budget,iv a1.Writes,iv a1.Stop,bv a1.Down]),(1,rE 2 (File.enc false) a1.Files)] (by kernel_rfl) ?_
 refine J_g 2 [] [(0,pp 0)] [(0,.box [rr 1 a1.Files,iv a1.Budget,iv a1.Writes,iv a1.Stop,bv a1.Down]),(1,rE 2 (File.enc false) a1.Files)] zB ?_
 refine J_d 12 [] [6] [(6,bv a1.Down)] [] [] zB ?_
 refine zF 6 (fun h2=>?_) (fun h2=>?_)
 ·refine J_g 52 [] [(2,bv false)] [(0,.box [rr 1 a1.Files,iv a1.Budget,iv a1.Writes,iv a1.Stop,bv a1.Down]),(1,rE 2 (File.enc false) a1.Files)] zB ?_
  refine yX 0 (cs':=[so 2 (File.enc false) a1.Files,iv a1.Budget,iv a1.Writes,iv a1.Stop,bv a1.Down]) (ts:=[1]) rfl (.move (.head _) (List.length_map _) (by decide) (.keep rfl (.keep rfl (.keep rfl (.keep rfl (.nil)))))) ?_
  refine wM [(2,bv false)] [(0,.box [so 2 (File.enc false) a1.Files,iv a1.Budget,iv a1.Writes,iv a1.Stop,bv a1.Down])] (by kernel_rfl) ?_
  exact zN rfl
 ·refine wB (atI zRJ 29) (fun v4:Bool=>St.mk' [(0,pp 0),(22,bv v4)] [(0,.box [rr 1 a1.Files,iv a1.Budget,iv a1.Writes,iv a1.Stop,bv a1.Down]),(1,rE 2 (File.enc false) a1.Files)]) (fun v4=>?_) (fun jv4=>?_)
  ·refine zF 22 (fun h5=>?_) (fun h5=>?_)
   ·refine J_g 116 [] [] [(0,.box [rr 1 a1.Files,iv a1.Budget,iv a1.Writes,iv a1.Stop,bv true]),(1,rE 2 (File.enc false) a1.Files)] zB ?_
    refine J_g 234 [] [(2,bv false)] [(0,.box [rr 1 a1.Files,iv a1.Budget,iv a1.Writes,iv a1.Stop,bv true]),(1,rE 2 (File.enc false) a1.Files)] zB ?_
    refine yX 0 (cs':=[so 2 (File.enc false) a1.Files,iv a1.Budget,iv a1.Writes,iv a1.Stop,bv true]) (ts:=[1]) rfl (.move (.head _) (List.length_map _) (by decide) (.keep rfl (.keep rfl (.keep rfl (.keep rfl (.nil)))))) ?_
    refine wM [(2,bv false)] [(0,.box [so 2 (File.enc false) a1.Files,iv a1.Budget,iv a1.Writes,iv a1.Stop,bv true])] (by kernel_rfl) ?_
    exact zN rfl
   ·refine J_g 30 [] [] [(0,.box [rr 1 a1.Files,iv a1.Budget,iv (w64 (a1.Writes+1)),iv a1.Stop,bv a1.Down]),(1,rE 2 (File.enc false) a1.Files)] zB ?_
    refine J_g 62 [] [(2,bv true)] [(0,.box [rr 1 a1.Files,iv a1.Budget,iv (w64 (a1.Writes+1)),iv a1.Stop,bv a1.Down]),(1,rE 2 (File.enc false) a1.Files)] zB ?_
    refine yX 0 (cs':=[so 2 (File.enc false) a1.Files,iv a1.Budget,iv (w64 (a1.Writes+1)),iv a1.Stop,bv a1.Down]) (ts:=[1]) rfl (.move (.head _) (List.length_map _) (by decide) (.keep rfl (.keep rfl (.keep rfl (.keep rfl (.nil)))))) ?_
    refine wM [(2,bv true)] [(0,.box [so 2 (File.enc false) a1.Files,iv a1.Budget,iv (w64 (a1.Writes+1)),iv a1.Stop,bv a1.Down])] (by kernel_rfl) ?_
    exact zN rfl
  ·refine wL (fun h3=>?_) (fun h3=>?_)
   ·refine J_d 28 [] [6,22] [(22,bv (decide (a1.Writes≥a1.Stop)))] [] [] (xX 5 [(11,bv (a1.Stop !=(-1)))] [] h3 zB) ?_
    exact xD (J_j (jv4 (decide (a1.Writes≥a1.Stop)))) rfl
   ·refine J_d 28 [] [6,22] [(22,bv false)] [] [] (xX 5 [(11,bv (a1.Stop !=(-1)))] [] h3 zB) ?_
    exact xD (J_j (jv4 false)) rfl
theorem zGm.ok (a2:ByteArray) (x17:(Bool×zC)) (x20:(List Int)) (q:Wd) (kn:Int→Option (D×List Ent)) (hk:∀v:Int,J (q.g Tryz.prog 107 2 110) c107 (atI c107 4095) (St.mk' [(0,pp 0),(7,iv v),(9,pp 5)] [(0,.box [rr 2 x17.2.Files,iv x17.2.Budget,iv x17.2.Writes,iv x17.2.Stop,bv x17.2.Down]),(2,rE 2 (File.enc false) x17.2.Files),(4,rE 1 eU8 x20),(5,.box [sv a2,rr 4 x20])]) (some v) kn):
  ∀s30:Int,J (q.g Tryz.prog 107 2 110) c107 (atI c107 16376) (St.mk' [(0,pp 0),(1,sv a2),(7,iv s30),(9,pp 5)] [(0,.box [rr 2 x17.2.Files,iv x17.2.Budget,iv x17.2.Writes,iv x17.2.Stop,bv x17.2.Down]),(2,rE 2 (File.enc false) x17.2.Files),(4,rE 1 eU8 x20),(5,.box [sv a2,rr 4 x20])]) (zDJ a2 x17 x20 s30) kn:=by
 refine jL (fun g ih s30=>?_)
 unfold zAk
 refine wB (atI c107 65505) (fun v34:Bool=>St.mk' [(0,pp 0),(1,sv a2),(7,iv s30),(9,pp 5),(86,bv v34)] [(0,.box [rr 2 x17.2.Files,iv x17.2.Budget,iv x17.2.Writes,iv x17.2.Stop,bv x17.2.Down]),(2,rE 2 (File.enc false) x17.2.Files),(4,rE 1 eU8 x20),(5,.box [sv a2,rr 4 x20])]) (fun v34=>?_) (fun jv34=>?_)
 ·refine zF 86 (fun h35=>?_) (fun h35=>?_)
  ·refine J_d 65506 [] [7,86] [(7,iv (w64 (s30+1)))] [] [] zB ?_
   exact J_q (J_b (ih (w64 (s30+1)))) rfl
  ·exact xD (hk s30) rfl
 ·refine wL (fun h31=>?_) (fun h31=>?_)
  ·refine zA (fun x32 h33=>?_)
   refine J_d 65504 [] [86] [(86,bv (slt x32.Path a2))] [] [] (xX 7 [(74,bv (decide (s30< (x17.2.Files.length:Int))))] [] h31 (zBV 13 7 75 true (uN (kk:=.i64) 27 124 2 2 (File.enc false) (.tmp 79) (.tmp 80) h33) (zBV 15 7 75 true (zEt (d:=sv x32.Path) 9 2 2 0 (File.enc false) (.tmp 82) h33 (by kernel_rfl)) zB))) ?_
   exact xD (J_j (jv34 (slt x32.Path a2))) rfl
  ·refine J_d 65504 [] [86] [(86,bv false)] [] [] (xX 7 [(74,bv (decide (s30< (x17.2.Files.length:Int))))] [] h31 zB) ?_
   exact xD (J_j (jv34 false)) rfl
theorem zH0.ok (a1:zC) (a2:ByteArray) (a3:(List Int)):Ok Tryz.prog 107 [pp 0,sv a2,rr 1 a3] [.box [so 2 (File.enc false) a1.Files,iv a1.Budget,iv a1.Writes,iv a1.Stop,bv a1.Down],rE 1 eU8 a3] ((tV a1 a2 a3).map fun r=>(iv r.1,[.box [so 2 (File.enc false) r.2.Files,iv r.2.Budget,iv r.2.Writes,iv r.2.Stop,bv r.2.Down]])):=by
 refine zG c107 Tryz.f107 2 110 (fun q=>?_)
 unfold tV
 refine yI 0 (cs':=[rr 2 a1.Files,iv a1.Budget,iv a1.Writes,iv a1.Stop,bv a1.Down]) (es:=[(2,rE 2 (File.enc false) a1.Files)]) rfl (.cons (.own 2) (.cons (.same rfl rfl) (.cons (.same rfl rfl) (.cons (.same rfl rfl) (.cons (.same rfl rfl) (.nil)))))) rfl (by kernel_rfl) (by kernel_rfl) ?_
 refine wM [(0,pp 0),(1,sv a2),(2,rr 1 a3)] [(0,.box [rr 2 a1.Files,iv a1.Budget,iv a1.Writes,iv a1.Stop,bv a1.Down]),(1,rE 1 eU8 a3),(2,rE 2 (File.enc false) a1.Files)] (by kernel_rfl) ?_
 refine J_g 2 [] [(0,pp 0),(1,sv a2),(2,rr 1 a3)] [(0,.box [rr 2 a1.Files,iv a1.Budget,iv a1.Writes,iv a1.Stop,bv a1.Down]),(1,rE 1 eU8 a3),(2,rE 2 (File.enc false) a1.Files)] zB ?_
 refine yX 0 (cs':=[so 2 (File.enc false) a1.Files,iv a1.Budget,iv a1.Writes,iv a1.Stop,bv a1.Down]) (ts:=[2]) rfl (.move (.tail _ (.head _)) (List.length_map _) (by decide) (.keep rfl (.keep rfl (.keep rfl (.keep rfl (.nil)))))) ?_
 refine wM [(0,pp 0),(1,sv a2),(2,rr 1 a3)] [(0,.box [so 2 (File.enc false) a1.Files,iv a1.Budget,iv a1.Writes,iv a1.Stop,bv a1.Down]),(1,rE 1 eU8 a3)] (by kernel_rfl) ?_
 refine zA (fun x4 h5=>?_)
 refine J_g 6 [] [(0,pp 0),(1,sv a2),(2,rr 1 a3),(7,iv x4)] [(0,.box [so 2 (File.enc false) a1.Files,iv a1.Budget,iv a1.Writes,iv a1.Stop,bv a1.Down]),(1,rE 1 eU8 a3)] (zD 2 (zEU [(0,.box [so 2 (File.enc false) a1.Files,iv a1.Budget,iv a1.Writes,iv a1.Stop,bv a1.Down])] [] (vX («as»:=[pp 0,sv a2]) [(.tmp 10),(.tmp 11)] [75,9] false [(0,.box [so 2 (File.enc false) a1.Files,iv a1.Budget,iv a1.Writes,iv a1.Stop,bv a1.Down])] [0] (.cons (.pt rfl) (.cons (.same rfl) (.nil))) (zGb.ok a1 a2) h5 (.same rfl rfl))) zB) ?_
 refine yI 0 (cs':=[rr 2 a1.Files,iv a1.Budget,iv a1.Writes,iv a1.Stop,bv a1.Down]) (es:=[(2,rE 2 (File.enc false) a1.Files)]) rfl (.cons (.own 2) (.cons (.same rfl rfl) (.cons (.same rfl rfl) (.cons (.same rfl rfl) (.cons (.same rfl rfl) (.nil)))))) rfl (by kernel_rfl) (by kernel_rfl) ?_
 refine wM [(0,pp 0),(1,sv a2),(2,rr 1 a3),(7,iv x4)] [(0,.box [rr 2 a1.Files,iv a1.Budget,iv a1.Writes,iv a1.Stop,bv a1.Down]),(1,rE 1 eU8 a3),(2,rE 2 (File.enc false) a1.Files)] (by kernel_rfl) ?_
 refine J_g 14 [] [(0,pp 0),(1,sv a2),(2,rr 1 a3),(7,iv x4),(8,iv 0)] [(0,.box [rr 2 a1.Files,iv a1.Budget,iv a1.Writes,iv a1.Stop,bv a1.Down]),(1,rE 1 eU8 a3),(2,rE 2 (File.enc false) a1.Files)] zB ?_
 refine J_d 60 [] [14] [(14,bv (decide (x4≥0)))] [] [] zB ?_
 refine wB (atI c107 31) (fun v9:Int=>St.mk' [(0,pp 0),(1,sv a2),(2,rr 1 a3),(7,iv x4),(8,iv v9)] [(0,.box [rr 2 a1.Files,iv a1.Budget,iv a1.Writes,iv a1.Stop,bv a1.Down]),(1,rE 1 eU8 a3),(2,rE 2 (File.enc false) a1.Files)]) (fun v9=>?_) (fun jv9=>?_)
 ·refine wB (atI c107 125) (fun v12:Bool=>St.mk' [(0,pp 0),(1,sv a2),(2,rr 1 a3),(7,iv x4),(8,iv v9),(38,bv v12)] [(0,.box [rr 2 a1.Files,iv a1.Budget,iv a1.Writes,iv a1.Stop,bv a1.Down]),(1,rE 1 eU8 a3),(2,rE 2 (File.enc false) a1.Files)]) (fun v12=>?_) (fun jv12=>?_)
  ·refine zF 38 (fun h13=>?_) (fun h13=>?_)
   ·refine J_g 500 [] [(6,iv 2)] [(0,.box [rr 2 a1.Files,iv a1.Budget,iv a1.Writes,iv a1.Stop,bv a1.Down]),(1,rE 1 eU8 a3),(2,rE 2 (File.enc false) a1.Files)] zB ?_
    refine yX 0 (cs':=[so 2 (File.enc false) a1.Files,iv a1.Budget,iv a1.Writes,iv a1.Stop,bv a1.Down]) (ts:=[2]) rfl (.move (.tail _ (.head _)) (List.length_map _) (by decide) (.keep rfl (.keep rfl (.keep rfl (.keep rfl (.nil)))))) ?_
    refine wM [(6,iv 2)] [(0,.box [so 2 (File.enc false) a1.Files,iv a1.Budget,iv a1.Writes,iv a1.Stop,bv a1.Down]),(1,rE 1 eU8 a3)] (by kernel_rfl) ?_
    exact zN rfl
   ·refine yX 0 (cs':=[so 2 (File.enc false) a1.Files,iv a1.Budget,iv a1.Writes,iv a1.Stop,bv a1.Down]) (ts:=[2]) rfl (.move (.tail _ (.head _)) (List.length_map _) (by decide) (.keep rfl (.keep rfl (.keep rfl (.keep rfl (.nil)))))) ?_
    refine wM [(0,pp 0),(1,sv a2),(2,rr 1 a3),(7,iv x4),(8,iv v9),(38,bv false)] [(0,.box [so 2 (File.enc false) a1.Files,iv a1.Budget,iv a1.Writes,iv a1.Stop,bv a1.Down]),(1,rE 1 eU8 a3)] (by kernel_rfl) ?_
    refine zA (fun x14 h15=>?_)
    refine J_g 252 [] [(0,pp 0),(1,sv a2),(2,rr 1 a3),(7,iv x4),(50,bv (decide ((w64 ((w64 (x14-v9))+(a3.length:Int)))>a1.Budget)))] [(0,.box [so 2 (File.enc false) a1.Files,iv a1.Budget,iv a1.Writes,iv a1.Stop,bv a1.Down]),(1,rE 1 eU8 a3)] (zD 1 (zEU [(0,.box [so 2 (File.enc false) a1.Files,iv a1.Budget,iv a1.Writes,iv a1.Stop,bv a1.Down])] [] (vX («as»:=[pp 0]) [(.tmp 39)] [75] false [(0,.box [so 2 (File.enc false) a1.Files,iv a1.Budget,iv a1.Writes,iv a1.Stop,bv a1.Down])] [0] (.cons (.pt rfl) (.nil)) (zF6.ok a1) h15 (.same rfl rfl))) zB) ?_
    refine yI 0 (cs':=[rr 2 a1.Files,iv a1.Budget,iv a1.Writes,iv a1.Stop,bv a1.Down]) (es:=[(2,rE 2 (File.enc false) a1.Files)]) rfl (.cons (.own 2) (.cons (.same rfl rfl) (.cons (.same rfl rfl) (.cons (.same rfl rfl) (.cons (.same rfl rfl) (.nil)))))) rfl (by kernel_rfl) (by kernel_rfl) ?_
    refine wM [(0,pp 0),(1,sv a2),(2,rr 1 a3),(7,iv x4),(50,bv (decide ((w64 ((w64 (x14-v9))+(a3.length:Int)))>a1.Budget)))] [(0,.box [rr 2 a1.Files,iv a1.Budget,iv a1.Writes,iv a1.Stop,bv a1.Down]),(1,rE 1 eU8 a3),(2,rE 2 (File.enc false) a1.Files)] (by kernel_rfl) ?_
    refine zF 50 (fun h16=>?_) (fun h16=>?_)
    ·refine J_g 1012 [] [(6,iv 8)] [(0,.box [rr 2 a1.Files,iv a1.Budget,iv a1.Writes,iv a1.Stop,bv a1.Down]),(1,rE 1 eU8 a3),(2,rE 2 (File.enc false) a1.Files)] zB ?_
     refine yX 0 (cs':=[so 2 (File.enc false) a1.Files,iv a1.Budget,iv a1.Writes,iv a1.Stop,bv a1.Down]) (ts:=[2]) rfl (.move (.tail _ (.head _)) (List.length_map _) (by decide) (.keep rfl (.keep rfl (.keep rfl (.keep rfl (.nil)))))) ?_
     refine wM [(6,iv 8)] [(0,.box [so 2 (File.enc false) a1.Files,iv a1.Budget,iv a1.Writes,iv a1.Stop,bv a1.Down]),(1,rE 1 eU8 a3)] (by kernel_rfl) ?_
     exact zN rfl
    ·refine yX 0 (cs':=[so 2 (File.enc false) a1.Files,iv a1.Budget,iv a1.Writes,iv a1.Stop,bv a1.Down]) (ts:=[2]) rfl (.move (.tail _ (.head _)) (List.length_map _) (by decide) (.keep rfl (.keep rfl (.keep rfl (.keep rfl (.nil)))))) ?_
     refine wM [(0,pp 0),(1,sv a2),(2,rr 1 a3),(7,iv x4),(50,bv false)] [(0,.box [so 2 (File.enc false) a1.Files,iv a1.Budget,iv a1.Writes,iv a1.Stop,bv a1.Down]),(1,rE 1 eU8 a3)] (by kernel_rfl) ?_
     refine zA (fun x17 h18=>?_)
     refine J_g 508 [] [(0,pp 0),(1,sv a2),(2,rr 1 a3),(7,iv x4),(53,bv (!x17.1))] [(0,.box [so 2 (File.enc false) x17.2.Files,iv x17.2.Budget,iv x17.2.Writes,iv x17.2.Stop,bv x17.2.Down]),(1,rE 1 eU8 a3)] (zD 1 (vX («as»:=[pp 0]) [(.tmp 51)] [75] false [(0,.box [so 2 (File.enc false) a1.Files,iv a1.Budget,iv a1.Writes,iv a1.Stop,bv a1.Down])] [0] (.cons (.pt rfl) (.nil)) (zGH.ok a1) h18 (.same rfl rfl)) zB) ?_
     refine yI 0 (cs':=[rr 2 x17.2.Files,iv x17.2.Budget,iv x17.2.Writes,iv x17.2.Stop,bv x17.2.Down]) (es:=[(2,rE 2 (File.enc false) x17.2.Files)]) rfl (.cons (.own 2) (.cons (.same rfl rfl) (.cons (.same rfl rfl) (.cons (.same rfl rfl) (.cons (.same rfl rfl) (.nil)))))) rfl (by kernel_rfl) (by kernel_rfl) ?_
     refine wM [(0,pp 0),(1,sv a2),(2,rr 1 a3),(7,iv x4),(53,bv (!x17.1))] [(0,.box [rr 2 x17.2.Files,iv x17.2.Budget,iv x17.2.Writes,iv x17.2.Stop,bv x17.2.Down]),(1,rE 1 eU8 a3),(2,rE 2 (File.enc false) x17.2.Files)] (by kernel_rfl) ?_
     refine zF 53 (fun h19=>?_) (fun h19=>?_)
     ·refine J_g 2036 [] [(6,iv 9)] [(0,.box [rr 2 x17.2.Files,iv x17.2.Budget,iv x17.2.Writes,iv x17.2.Stop,bv x17.2.Down]),(1,rE 1 eU8 a3),(2,rE 2 (File.enc false) x17.2.Files)] zB ?_
      refine yX 0 (cs':=[so 2 (File.enc false) x17.2.Files,iv x17.2.Budget,iv x17.2.Writes,iv x17.2.Stop,bv x17.2.Down]) (ts:=[2]) rfl (.move (.tail _ (.head _)) (List.length_map _) (by decide) (.keep rfl (.keep rfl (.keep rfl (.keep rfl (.nil)))))) ?_
      refine wM [(6,iv 9)] [(0,.box [so 2 (File.enc false) x17.2.Files,iv x17.2.Budget,iv x17.2.Writes,iv x17.2.Stop,bv x17.2.Down]),(1,rE 1 eU8 a3)] (by kernel_rfl) ?_
      exact zN rfl
     ·refine zA (fun x20 h21=>?_)
      refine J_g 510 [(5,5)] [(0,pp 0),(1,sv a2),(7,iv x4),(9,pp 5)] [(0,.box [rr 2 x17.2.Files,iv x17.2.Budget,iv x17.2.Writes,iv x17.2.Stop,bv x17.2.Down]),(2,rE 2 (File.enc false) x17.2.Files),(4,rE 1 eU8 x20),(5,.box [sv a2,rr 4 x20])] (zD 1 (zFm 22 5 1 3 eU8 ([]:List Int) [] [] []) (zD 3 (zII 22 22 5 5 1 1 4 3 1 eU8 (.tmp 55) (.tmp 56) h21) zB)) ?_
      refine J_d 2044 [] [60] [(60,bv (decide (x4≥0)))] [] [] zB ?_
      refine zF 60 (fun h22=>?_) (fun h22=>?_)
      ·refine zA (fun x23 h24=>?_)
       refine wM [(0,pp 0),(1,sv a2),(7,iv x4),(9,pp 5),(60,bv true)] [(4,rE 1 eU8 x20),(0,.box [rr 2 x17.2.Files,iv x17.2.Budget,iv x17.2.Writes,iv x17.2.Stop,bv x17.2.Down]),(2,rE 2 (File.enc false) x17.2.Files),(5,.box [sv a2,rr 4 x20])] (by kernel_rfl) ?_
       refine zO1 4 (z:=1) (xs:=x20.map eU8) (tm2:=[(0,pp 0),(1,sv a2),(7,iv x4),(9,pp 5),(60,bv true)]) (hp2:=[(0,.box [rr 2 x17.2.Files,iv x17.2.Budget,iv x17.2.Writes,iv x17.2.Stop,bv x17.2.Down]),(2,rE 2 (File.enc false) x17.2.Files),(5,.box [sv a2,sl 1 eU8 x20])]) (.cons (.keep rfl) (.cons (.keep rfl) (.cons (.keep rfl) (.cons (.keep rfl) (.cons (.keep rfl) (.nil)))))) (.keep rfl (.keep rfl (.box rfl (.cons (.keep rfl) (.cons (.rf (by simp) (zHl (enc:=eU8) (enc':=eU8) (fun _=>rfl) x20 rfl rfl)) (.nil))) (.nil)))) rfl ?_
       refine J_g 8180 [] [] [(0,.box [rr 2 x17.2.Files,iv x17.2.Budget,iv x17.2.Writes,iv x17.2.Stop,bv x17.2.Down]),(2,rE 2 (File.enc false) (x17.2.Files.set x4.toNat ({Path:=a2,Data:=x20}:File)))] (zD 6 (uN (kk:=.i64) 27 124 2 2 (File.enc false) (.tmp 64) (.tmp 65) h24) (zGO 7 (zHY (b:=({Path:=a2,Data:=x20}:File)) 124 2 2 0 (File.enc false) (.ag [sv a2,sl 1 eU8 x20]) (.tmp 67) (.tmp 66) h24 rfl) zB)) ?_
       refine zFQ (σ':=St.mk' [] [(0,.box [rr 2 (x17.2.Files.set x4.toNat ({Path:=a2,Data:=x20}:File)),iv x17.2.Budget,iv x17.2.Writes,iv x17.2.Stop,bv x17.2.Down]),(2,rE 2 (File.enc false) (x17.2.Files.set x4.toNat ({Path:=a2,Data:=x20}:File)))]) (by simp only [rr,List.length_set]) ?_
       refine J_g 16362 [] [(6,iv 0)] [(0,.box [rr 2 (x17.2.Files.set x4.toNat ({Path:=a2,Data:=x20}:File)),iv x17.2.Budget,iv x17.2.Writes,iv x17.2.Stop,bv x17.2.Down]),(2,rE 2 (File.enc false) (x17.2.Files.set x4.toNat ({Path:=a2,Data:=x20}:File)))] zB ?_
       refine yX 0 (cs':=[so 2 (File.enc false) (x17.2.Files.set x4.toNat ({Path:=a2,Data:=x20}:File)),iv x17.2.Budget,iv x17.2.Writes,iv x17.2.Stop,bv x17.2.Down]) (ts:=[2]) rfl (.move (.head _) (List.length_map _) (by decide) (.keep rfl (.keep rfl (.keep rfl (.keep rfl (.nil)))))) ?_
       refine wM [(6,iv 0)] [(0,.box [so 2 (File.enc false) (x17.2.Files.set x4.toNat ({Path:=a2,Data:=x20}:File)),iv x17.2.Budget,iv x17.2.Writes,iv x17.2.Stop,bv x17.2.Down])] (by kernel_rfl) ?_
       exact zN rfl
      ·refine J_d 2046 [] [7,60] [(7,iv 0)] [] [] zB ?_
       refine zE3 (zGm.ok a2 x17 x20 q _ (fun v36=>J_j ?_) 0)
       refine zA (fun x37 h38=>?_)
       refine zA (fun x39 h40=>?_)
       refine wM [(0,pp 0),(7,iv v36),(9,pp 5)] [(4,rE 1 eU8 x20),(0,.box [rr 2 x17.2.Files,iv x17.2.Budget,iv x17.2.Writes,iv x17.2.Stop,bv x17.2.Down]),(2,rE 2 (File.enc false) x17.2.Files),(5,.box [sv a2,rr 4 x20])] (by kernel_rfl) ?_
       refine zO1 4 (z:=1) (xs:=x20.map eU8) (tm2:=[(0,pp 0),(7,iv v36),(9,pp 5)]) (hp2:=[(0,.box [rr 2 x17.2.Files,iv x17.2.Budget,iv x17.2.Writes,iv x17.2.Stop,bv x17.2.Down]),(2,rE 2 (File.enc false) x17.2.Files),(5,.box [sv a2,sl 1 eU8 x20])]) (.cons (.keep rfl) (.cons (.keep rfl) (.cons (.keep rfl) (.nil)))) (.keep rfl (.keep rfl (.box rfl (.cons (.keep rfl) (.cons (.rf (by simp) (zHl (enc:=eU8) (enc':=eU8) (fun _=>rfl) x20 rfl rfl)) (.nil))) (.nil)))) rfl ?_
       refine zA (fun x41 h42=>?_)
       refine zA (fun x43 h44=>?_)
       refine zA (fun x45 h46=>?_)
       refine J_g 8190 [] [] [(0,.box [rr 10 x45,iv x17.2.Budget,iv x17.2.Writes,iv x17.2.Stop,bv x17.2.Down]),(10,rE 2 (File.enc false) x45)] (zD 1 (zFm 27 124 2 6 (File.enc false) ([]:List File) [] [] []) (zD 7 (zOl 27 124 2 2 (File.enc false) (.tmp 94) none (some (.tmp 95)) h38) (zD 8 (zPa (ys:=x17.2.Files) (l:=0) (hi:=v36) 27 27 124 124 2 40 7 6 2 (File.enc false) (.tmp 90) (.tmp 96) h38 h40) (zD 10 (zFm 27 124 2 8 (File.enc false) [({Path:=a2,Data:=x20}:File)] [0] [(.tmp 98)] [.ag [sv a2,sl 1 eU8 x20]]) (zD 11 (zII 27 27 124 124 2 40 9 7 8 (File.enc false) (.tmp 97) (.tmp 99) h42) (zD 17 (zOl 27 124 2 2 (File.enc false) (.tmp 104) (some (.tmp 105)) none h44) (zD 18 (zPa (ys:=x17.2.Files) (l:=v36) (hi:=(x17.2.Files.length:Int)) 27 27 124 124 2 40 10 9 2 (File.enc false) (.tmp 100) (.tmp 106) h44 h46) zB))))))) ?_
       refine J_g 16382 [] [(6,iv 0)] [(0,.box [rr 10 x45,iv x17.2.Budget,iv x17.2.Writes,iv x17.2.Stop,bv x17.2.Down]),(10,rE 2 (File.enc false) x45)] zB ?_
       refine yX 0 (cs':=[so 2 (File.enc false) x45,iv x17.2.Budget,iv x17.2.Writes,iv x17.2.Stop,bv x17.2.Down]) (ts:=[10]) rfl (.move (.head _) (List.length_map _) (by decide) (.keep rfl (.keep rfl (.keep rfl (.keep rfl (.nil)))))) ?_
       refine wM [(6,iv 0)] [(0,.box [so 2 (File.enc false) x45,iv x17.2.Budget,iv x17.2.Writes,iv x17.2.Stop,bv x17.2.Down])] (by kernel_rfl) ?_
       exact zN rfl
  ·refine wL (fun h10=>?_) (fun h10=>?_)
   ·refine J_d 124 [] [38] [(38,bv true)] [] [] (xX 3 [(26,bv (decide ((a3.length:Int)>4000)))] [] h10 (zFG 6 (zF7 (i:=6) (g:=3) (t:=27) (b:=false) (v:=(.bool true)) (.inl rfl) (by kernel_rfl) (by kernel_rfl)) (zFG 7 (zF7 (i:=7) (g:=6) (t:=30) (b:=true) (v:=undef) (.inr rfl) (by kernel_rfl) (by kernel_rfl)) (zFG 8 (zF7 (i:=8) (g:=6) (t:=30) (b:=true) (v:=undef) (.inr rfl) (by kernel_rfl) (by kernel_rfl)) (zFG 9 (zF7 (i:=9) (g:=6) (t:=30) (b:=true) (v:=undef) (.inr rfl) (by kernel_rfl) (by kernel_rfl)) (zFG 10 (zF7 (i:=10) (g:=6) (t:=30) (b:=true) (v:=undef) (.inr rfl) (by kernel_rfl) (by kernel_rfl)) (zFG 11 (zF7 (i:=11) (g:=6) (t:=30) (b:=true) (v:=undef) (.inr rfl) (by kernel_rfl) (by kernel_rfl)) (zFG 12 (zF7 (i:=12) (g:=6) (t:=30) (b:=true) (v:=undef) (.inr rfl) (by kernel_rfl) (by kernel_rfl)) zB)))))))) ?_
    exact xD (J_j (jv12 true)) rfl
   ·refine wL (fun h11=>?_) (fun h11=>?_)
    ·refine J_d 124 [] [38] [(38,bv (decide ((a1.Files.length:Int)≥120)))] [] [] (xX 3 [(26,bv (decide ((a3.length:Int)>4000)))] [] h10 (zGN 6 3 27 false [(29,bv (decide (x4<0)))] [] h11 zB)) ?_
     exact xD (J_j (jv12 (decide ((a1.Files.length:Int)≥120)))) rfl
    ·refine J_d 124 [] [38] [(38,bv false)] [] [] (xX 3 [(26,bv (decide ((a3.length:Int)>4000)))] [] h10 (zGN 6 3 27 false [(29,bv (decide (x4<0)))] [] h11 zB)) ?_
     exact xD (J_j (jv12 false)) rfl
 ·refine zF 14 (fun h6=>?_) (fun h6=>?_)
  ·refine zA (fun x7 h8=>?_)
   refine J_d 122 [] [8,14] [(8,iv (x7.Data.length:Int))] [] [] (zD 5 (uN (kk:=.i64) 27 124 2 2 (File.enc false) (.tmp 18) (.tmp 19) h8) (zD 7 (zEt (d:=sl 1 eU8 x7.Data) 22 2 2 1 (File.enc false) (.tmp 21) h8 (by kernel_rfl)) zB)) ?_
   exact xD (J_j (jv9 (x7.Data.length:Int))) rfl
  ·exact xD (J_j (jv9 0)) rfl
theorem zH1.ok (a2:ByteArray) (x17:(Bool×zC)) (x20:(List Int)) (q:Wd) (kn:Int→Option (D×List Ent)) (hk:∀v:Int,J (q.g Tryz.prog 107 1 110) c107 (atI c107 4095) (St.mk' [(0,pp 0),(7,iv v),(9,pp 4)] [(0,.box [rr 1 x17.2.Files,iv x17.2.Budget,iv x17.2.Writes,iv x17.2.Stop,bv x17.2.Down]),(1,rE 2 (File.enc false) x17.2.Files),(3,rE 1 eU8 x20),(4,.box [sv a2,rr 3 x20])]) (some v) kn):
  ∀s30:Int,J (q.g Tryz.prog 107 1 110) c107 (atI c107 16376) (St.mk' [(0,pp 0),(1,sv a2),(7,iv s30),(9,pp 4)] [(0,.box [rr 1 x17.2.Files,iv x17.2.Budget,iv x17.2.Writes,iv x17.2.Stop,bv x17.2.Down]),(1,rE 2 (File.enc false) x17.2.Files),(3,rE 1 eU8 x20),(4,.box [sv a2,rr 3 x20])]) (zDJ a2 x17 x20 s30) kn:=by
 refine jL (fun g ih s30=>?_)
 unfold zAk
 refine wB (atI c107 65505) (fun v34:Bool=>St.mk' [(0,pp 0),(1,sv a2),(7,iv s30),(9,pp 4),(86,bv v34)] [(0,.box [rr 1 x17.2.Files,iv x17.2.Budget,iv x17.2.Writes,iv x17.2.Stop,bv x17.2.Down]),(1,rE 2 (File.enc false) x17.2.Files),(3,rE 1 eU8 x20),(4,.box [sv a2,rr 3 x20])]) (fun v34=>?_) (fun jv34=>?_)
 ·refine zF 86 (fun h35=>?_) (fun h35=>?_)
  ·refine J_d 65506 [] [7,86] [(7,iv (w64 (s30+1)))] [] [] zB ?_
   exact J_q (J_b (ih (w64 (s30+1)))) rfl
  ·exact xD (hk s30) rfl
 ·refine wL (fun h31=>?_) (fun h31=>?_)
  ·refine zA (fun x32 h33=>?_)
   refine J_d 65504 [] [86] [(86,bv (slt x32.Path a2))] [] [] (xX 7 [(74,bv (decide (s30< (x17.2.Files.length:Int))))] [] h31 (zBV 13 7 75 true (uN (kk:=.i64) 27 124 2 1 (File.enc false) (.tmp 79) (.tmp 80) h33) (zBV 15 7 75 true (zEt (d:=sv x32.Path) 9 2 1 0 (File.enc false) (.tmp 82) h33 (by kernel_rfl)) zB))) ?_
   exact xD (J_j (jv34 (slt x32.Path a2))) rfl
  ·refine J_d 65504 [] [86] [(86,bv false)] [] [] (xX 7 [(74,bv (decide (s30< (x17.2.Files.length:Int))))] [] h31 zB) ?_
   exact xD (J_j (jv34 false)) rfl
theorem zG5.ok (a1:zC) (a2:ByteArray) (a3:(List Int)):Ok Tryz.prog 107 [pp 0,sv a2,sl 1 eU8 a3] [.box [so 2 (File.enc false) a1.Files,iv a1.Budget,iv a1.Writes,iv a1.Stop,bv a1.Down]] ((tV a1 a2 a3).map fun r=>(iv r.1,[.box [so 2 (File.enc false) r.2.Files,iv r.2.Budget,iv r.2.Writes,iv r.2.Stop,bv r.2.Down]])):=by
 refine zG c107 Tryz.f107 1 110 (fun q=>?_)
 unfold tV
 refine yI 0 (cs':=[rr 1 a1.Files,iv a1.Budget,iv a1.Writes,iv a1.Stop,bv a1.Down]) (es:=[(1,rE 2 (File.enc false) a1.Files)]) rfl (.cons (.own 1) (.cons (.same rfl rfl) (.cons (.same rfl rfl) (.cons (.same rfl rfl) (.cons (.same rfl rfl) (.nil)))))) rfl (by kernel_rfl) (by kernel_rfl) ?_
 refine wM [(0,pp 0),(1,sv a2),(2,sl 1 eU8 a3)] [(0,.box [rr 1 a1.Files,iv a1.Budget,iv a1.Writes,iv a1.Stop,bv a1.Down]),(1,rE 2 (File.enc false) a1.Files)] (by kernel_rfl) ?_
 refine J_g 2 [] [(0,pp 0),(1,sv a2),(2,sl 1 eU8 a3)] [(0,.box [rr 1 a1.Files,iv a1.Budget,iv a1.Writes,iv a1.Stop,bv a1.Down]),(1,rE 2 (File.enc false) a1.Files)] zB ?_
 refine yX 0 (cs':=[so 2 (File.enc false) a1.Files,iv a1.Budget,iv a1.Writes,iv a1.Stop,bv a1.Down]) (ts:=[1]) rfl (.move (.head _) (List.length_map _) (by decide) (.keep rfl (.keep rfl (.keep rfl (.keep rfl (.nil)))))) ?_
 refine wM [(0,pp 0),(1,sv a2),(2,sl 1 eU8 a3)] [(0,.box [so 2 (File.enc false) a1.Files,iv a1.Budget,iv a1.Writes,iv a1.Stop,bv a1.Down])] (by kernel_rfl) ?_
 refine zA (fun x4 h5=>?_)
 refine J_g 6 [] [(0,pp 0),(1,sv a2),(2,sl 1 eU8 a3),(7,iv x4)] [(0,.box [so 2 (File.enc false) a1.Files,iv a1.Budget,iv a1.Writes,iv a1.Stop,bv a1.Down])] (zD 2 (zEU [(0,.box [so 2 (File.enc false) a1.Files,iv a1.Budget,iv a1.Writes,iv a1.Stop,bv a1.Down])] [] (vX («as»:=[pp 0,sv a2]) [(.tmp 10),(.tmp 11)] [75,9] false [(0,.box [so 2 (File.enc false) a1.Files,iv a1.Budget,iv a1.Writes,iv a1.Stop,bv a1.Down])] [0] (.cons (.pt rfl) (.cons (.same rfl) (.nil))) (zGb.ok a1 a2) h5 (.same rfl rfl))) zB) ?_
 refine yI 0 (cs':=[rr 1 a1.Files,iv a1.Budget,iv a1.Writes,iv a1.Stop,bv a1.Down]) (es:=[(1,rE 2 (File.enc false) a1.Files)]) rfl (.cons (.own 1) (.cons (.same rfl rfl) (.cons (.same rfl rfl) (.cons (.same rfl rfl) (.cons (.same rfl rfl) (.nil)))))) rfl (by kernel_rfl) (by kernel_rfl) ?_
 refine wM [(0,pp 0),(1,sv a2),(2,sl 1 eU8 a3),(7,iv x4)] [(0,.box [rr 1 a1.Files,iv a1.Budget,iv a1.Writes,iv a1.Stop,bv a1.Down]),(1,rE 2 (File.enc false) a1.Files)] (by kernel_rfl) ?_
 refine J_g 14 [] [(0,pp 0),(1,sv a2),(2,sl 1 eU8 a3),(7,iv x4),(8,iv 0)] [(0,.box [rr 1 a1.Files,iv a1.Budget,iv a1.Writes,iv a1.Stop,bv a1.Down]),(1,rE 2 (File.enc false) a1.Files)] zB ?_
 refine J_d 60 [] [14] [(14,bv (decide (x4≥0)))] [] [] zB ?_
 refine wB (atI c107 31) (fun v9:Int=>St.mk' [(0,pp 0),(1,sv a2),(2,sl 1 eU8 a3),(7,iv x4),(8,iv v9)] [(0,.box [rr 1 a1.Files,iv a1.Budget,iv a1.Writes,iv a1.Stop,bv a1.Down]),(1,rE 2 (File.enc false) a1.Files)]) (fun v9=>?_) (fun jv9=>?_)
 ·refine wB (atI c107 125) (fun v12:Bool=>St.mk' [(0,pp 0),(1,sv a2),(2,sl 1 eU8 a3),(7,iv x4),(8,iv v9),(38,bv v12)] [(0,.box [rr 1 a1.Files,iv a1.Budget,iv a1.Writes,iv a1.Stop,bv a1.Down]),(1,rE 2 (File.enc false) a1.Files)]) (fun v12=>?_) (fun jv12=>?_)
  ·refine zF 38 (fun h13=>?_) (fun h13=>?_)
   ·refine J_g 500 [] [(6,iv 2)] [(0,.box [rr 1 a1.Files,iv a1.Budget,iv a1.Writes,iv a1.Stop,bv a1.Down]),(1,rE 2 (File.enc false) a1.Files)] zB ?_
    refine yX 0 (cs':=[so 2 (File.enc false) a1.Files,iv a1.Budget,iv a1.Writes,iv a1.Stop,bv a1.Down]) (ts:=[1]) rfl (.move (.head _) (List.length_map _) (by decide) (.keep rfl (.keep rfl (.keep rfl (.keep rfl (.nil)))))) ?_
    refine wM [(6,iv 2)] [(0,.box [so 2 (File.enc false) a1.Files,iv a1.Budget,iv a1.Writes,iv a1.Stop,bv a1.Down])] (by kernel_rfl) ?_
    exact zN rfl
   ·refine yX 0 (cs':=[so 2 (File.enc false) a1.Files,iv a1.Budget,iv a1.Writes,iv a1.Stop,bv a1.Down]) (ts:=[1]) rfl (.move (.head _) (List.length_map _) (by decide) (.keep rfl (.keep rfl (.keep rfl (.keep rfl (.nil)))))) ?_
    refine wM [(0,pp 0),(1,sv a2),(2,sl 1 eU8 a3),(7,iv x4),(8,iv v9),(38,bv false)] [(0,.box [so 2 (File.enc false) a1.Files,iv a1.Budget,iv a1.Writes,iv a1.Stop,bv a1.Down])] (by kernel_rfl) ?_
    refine zA (fun x14 h15=>?_)
    refine J_g 252 [] [(0,pp 0),(1,sv a2),(2,sl 1 eU8 a3),(7,iv x4),(50,bv (decide ((w64 ((w64 (x14-v9))+(a3.length:Int)))>a1.Budget)))] [(0,.box [so 2 (File.enc false) a1.Files,iv a1.Budget,iv a1.Writes,iv a1.Stop,bv a1.Down])] (zD 1 (zEU [(0,.box [so 2 (File.enc false) a1.Files,iv a1.Budget,iv a1.Writes,iv a1.Stop,bv a1.Down])] [] (vX («as»:=[pp 0]) [(.tmp 39)] [75] false [(0,.box [so 2 (File.enc false) a1.Files,iv a1.Budget,iv a1.Writes,iv a1.Stop,bv a1.Down])] [0] (.cons (.pt rfl) (.nil)) (zF6.ok a1) h15 (.same rfl rfl))) zB) ?_
    refine yI 0 (cs':=[rr 1 a1.Files,iv a1.Budget,iv a1.Writes,iv a1.Stop,bv a1.Down]) (es:=[(1,rE 2 (File.enc false) a1.Files)]) rfl (.cons (.own 1) (.cons (.same rfl rfl) (.cons (.same rfl rfl) (.cons (.same rfl rfl) (.cons (.same rfl rfl) (.nil)))))) rfl (by kernel_rfl) (by kernel_rfl) ?_
    refine wM [(0,pp 0),(1,sv a2),(2,sl 1 eU8 a3),(7,iv x4),(50,bv (decide ((w64 ((w64 (x14-v9))+(a3.length:Int)))>a1.Budget)))] [(0,.box [rr 1 a1.Files,iv a1.Budget,iv a1.Writes,iv a1.Stop,bv a1.Down]),(1,rE 2 (File.enc false) a1.Files)] (by kernel_rfl) ?_
    refine zF 50 (fun h16=>?_) (fun h16=>?_)
    ·refine J_g 1012 [] [(6,iv 8)] [(0,.box [rr 1 a1.Files,iv a1.Budget,iv a1.Writes,iv a1.Stop,bv a1.Down]),(1,rE 2 (File.enc false) a1.Files)] zB ?_
     refine yX 0 (cs':=[so 2 (File.enc false) a1.Files,iv a1.Budget,iv a1.Writes,iv a1.Stop,bv a1.Down]) (ts:=[1]) rfl (.move (.head _) (List.length_map _) (by decide) (.keep rfl (.keep rfl (.keep rfl (.keep rfl (.nil)))))) ?_
     refine wM [(6,iv 8)] [(0,.box [so 2 (File.enc false) a1.Files,iv a1.Budget,iv a1.Writes,iv a1.Stop,bv a1.Down])] (by kernel_rfl) ?_
     exact zN rfl
    ·refine yX 0 (cs':=[so 2 (File.enc false) a1.Files,iv a1.Budget,iv a1.Writes,iv a1.Stop,bv a1.Down]) (ts:=[1]) rfl (.move (.head _) (List.length_map _) (by decide) (.keep rfl (.keep rfl (.keep rfl (.keep rfl (.nil)))))) ?_
     refine wM [(0,pp 0),(1,sv a2),(2,sl 1 eU8 a3),(7,iv x4),(50,bv false)] [(0,.box [so 2 (File.enc false) a1.Files,iv a1.Budget,iv a1.Writes,iv a1.Stop,bv a1.Down])] (by kernel_rfl) ?_
     refine zA (fun x17 h18=>?_)
     refine J_g 508 [] [(0,pp 0),(1,sv a2),(2,sl 1 eU8 a3),(7,iv x4),(53,bv (!x17.1))] [(0,.box [so 2 (File.enc false) x17.2.Files,iv x17.2.Budget,iv x17.2.Writes,iv x17.2.Stop,bv x17.2.Down])] (zD 1 (vX («as»:=[pp 0]) [(.tmp 51)] [75] false [(0,.box [so 2 (File.enc false) a1.Files,iv a1.Budget,iv a1.Writes,iv a1.Stop,bv a1.Down])] [0] (.cons (.pt rfl) (.nil)) (zGH.ok a1) h18 (.same rfl rfl)) zB) ?_
     refine yI 0 (cs':=[rr 1 x17.2.Files,iv x17.2.Budget,iv x17.2.Writes,iv x17.2.Stop,bv x17.2.Down]) (es:=[(1,rE 2 (File.enc false) x17.2.Files)]) rfl (.cons (.own 1) (.cons (.same rfl rfl) (.cons (.same rfl rfl) (.cons (.same rfl rfl) (.cons (.same rfl rfl) (.nil)))))) rfl (by kernel_rfl) (by kernel_rfl) ?_
     refine wM [(0,pp 0),(1,sv a2),(2,sl 1 eU8 a3),(7,iv x4),(53,bv (!x17.1))] [(0,.box [rr 1 x17.2.Files,iv x17.2.Budget,iv x17.2.Writes,iv x17.2.Stop,bv x17.2.Down]),(1,rE 2 (File.enc false) x17.2.Files)] (by kernel_rfl) ?_
     refine zF 53 (fun h19=>?_) (fun h19=>?_)
     ·refine J_g 2036 [] [(6,iv 9)] [(0,.box [rr 1 x17.2.Files,iv x17.2.Budget,iv x17.2.Writes,iv x17.2.Stop,bv x17.2.Down]),(1,rE 2 (File.enc false) x17.2.Files)] zB ?_
      refine yX 0 (cs':=[so 2 (File.enc false) x17.2.Files,iv x17.2.Budget,iv x17.2.Writes,iv x17.2.Stop,bv x17.2.Down]) (ts:=[1]) rfl (.move (.head _) (List.length_map _) (by decide) (.keep rfl (.keep rfl (.keep rfl (.keep rfl (.nil)))))) ?_
      refine wM [(6,iv 9)] [(0,.box [so 2 (File.enc false) x17.2.Files,iv x17.2.Budget,iv x17.2.Writes,iv x17.2.Stop,bv x17.2.Down])] (by kernel_rfl) ?_
      exact zN rfl
     ·refine zA (fun x20 h21=>?_)
      refine J_g 510 [(5,4)] [(0,pp 0),(1,sv a2),(7,iv x4),(9,pp 4)] [(0,.box [rr 1 x17.2.Files,iv x17.2.Budget,iv x17.2.Writes,iv x17.2.Stop,bv x17.2.Down]),(1,rE 2 (File.enc false) x17.2.Files),(3,rE 1 eU8 x20),(4,.box [sv a2,rr 3 x20])] (zD 1 (zFm 22 5 1 2 eU8 ([]:List Int) [] [] []) (zD 3 (zOm 22 22 5 5 1 1 3 2 eU8 (.tmp 55) (.tmp 56) h21) zB)) ?_
      refine J_d 2044 [] [60] [(60,bv (decide (x4≥0)))] [] [] zB ?_
      refine zF 60 (fun h22=>?_) (fun h22=>?_)
      ·refine zA (fun x23 h24=>?_)
       refine wM [(0,pp 0),(1,sv a2),(7,iv x4),(9,pp 4),(60,bv true)] [(3,rE 1 eU8 x20),(0,.box [rr 1 x17.2.Files,iv x17.2.Budget,iv x17.2.Writes,iv x17.2.Stop,bv x17.2.Down]),(1,rE 2 (File.enc false) x17.2.Files),(4,.box [sv a2,rr 3 x20])] (by kernel_rfl) ?_
       refine zO1 3 (z:=1) (xs:=x20.map eU8) (tm2:=[(0,pp 0),(1,sv a2),(7,iv x4),(9,pp 4),(60,bv true)]) (hp2:=[(0,.box [rr 1 x17.2.Files,iv x17.2.Budget,iv x17.2.Writes,iv x17.2.Stop,bv x17.2.Down]),(1,rE 2 (File.enc false) x17.2.Files),(4,.box [sv a2,sl 1 eU8 x20])]) (.cons (.keep rfl) (.cons (.keep rfl) (.cons (.keep rfl) (.cons (.keep rfl) (.cons (.keep rfl) (.nil)))))) (.keep rfl (.keep rfl (.box rfl (.cons (.keep rfl) (.cons (.rf (by simp) (zHl (enc:=eU8) (enc':=eU8) (fun _=>rfl) x20 rfl rfl)) (.nil))) (.nil)))) rfl ?_
       refine J_g 8180 [] [] [(0,.box [rr 1 x17.2.Files,iv x17.2.Budget,iv x17.2.Writes,iv x17.2.Stop,bv x17.2.Down]),(1,rE 2 (File.enc false) (x17.2.Files.set x4.toNat ({Path:=a2,Data:=x20}:File)))] (zD 6 (uN (kk:=.i64) 27 124 2 1 (File.enc false) (.tmp 64) (.tmp 65) h24) (zGO 7 (zHY (b:=({Path:=a2,Data:=x20}:File)) 124 2 1 0 (File.enc false) (.ag [sv a2,sl 1 eU8 x20]) (.tmp 67) (.tmp 66) h24 rfl) zB)) ?_
       refine zFQ (σ':=St.mk' [] [(0,.box [rr 1 (x17.2.Files.set x4.toNat ({Path:=a2,Data:=x20}:File)),iv x17.2.Budget,iv x17.2.Writes,iv x17.2.Stop,bv x17.2.Down]),(1,rE 2 (File.enc false) (x17.2.Files.set x4.toNat ({Path:=a2,Data:=x20}:File)))]) (by simp only [rr,List.length_set]) ?_
       refine J_g 16362 [] [(6,iv 0)] [(0,.box [rr 1 (x17.2.Files.set x4.toNat ({Path:=a2,Data:=x20}:File)),iv x17.2.Budget,iv x17.2.Writes,iv x17.2.Stop,bv x17.2.Down]),(1,rE 2 (File.enc false) (x17.2.Files.set x4.toNat ({Path:=a2,Data:=x20}:File)))] zB ?_
       refine yX 0 (cs':=[so 2 (File.enc false) (x17.2.Files.set x4.toNat ({Path:=a2,Data:=x20}:File)),iv x17.2.Budget,iv x17.2.Writes,iv x17.2.Stop,bv x17.2.Down]) (ts:=[1]) rfl (.move (.head _) (List.length_map _) (by decide) (.keep rfl (.keep rfl (.keep rfl (.keep rfl (.nil)))))) ?_
       refine wM [(6,iv 0)] [(0,.box [so 2 (File.enc false) (x17.2.Files.set x4.toNat ({Path:=a2,Data:=x20}:File)),iv x17.2.Budget,iv x17.2.Writes,iv x17.2.Stop,bv x17.2.Down])] (by kernel_rfl) ?_
       exact zN rfl
      ·refine J_d 2046 [] [7,60] [(7,iv 0)] [] [] zB ?_
       refine zE3 (zH1.ok a2 x17 x20 q _ (fun v36=>J_j ?_) 0)
       refine zA (fun x37 h38=>?_)
       refine zA (fun x39 h40=>?_)
       refine wM [(0,pp 0),(7,iv v36),(9,pp 4)] [(3,rE 1 eU8 x20),(0,.box [rr 1 x17.2.Files,iv x17.2.Budget,iv x17.2.Writes,iv x17.2.Stop,bv x17.2.Down]),(1,rE 2 (File.enc false) x17.2.Files),(4,.box [sv a2,rr 3 x20])] (by kernel_rfl) ?_
       refine zO1 3 (z:=1) (xs:=x20.map eU8) (tm2:=[(0,pp 0),(7,iv v36),(9,pp 4)]) (hp2:=[(0,.box [rr 1 x17.2.Files,iv x17.2.Budget,iv x17.2.Writes,iv x17.2.Stop,bv x17.2.Down]),(1,rE 2 (File.enc false) x17.2.Files),(4,.box [sv a2,sl 1 eU8 x20])]) (.cons (.keep rfl) (.cons (.keep rfl) (.cons (.keep rfl) (.nil)))) (.keep rfl (.keep rfl (.box rfl (.cons (.keep rfl) (.cons (.rf (by simp) (zHl (enc:=eU8) (enc':=eU8) (fun _=>rfl) x20 rfl rfl)) (.nil))) (.nil)))) rfl ?_
       refine zA (fun x41 h42=>?_)
       refine zA (fun x43 h44=>?_)
       refine zA (fun x45 h46=>?_)
       refine J_g 8190 [] [] [(0,.box [rr 9 x45,iv x17.2.Budget,iv x17.2.Writes,iv x17.2.Stop,bv x17.2.Down]),(9,rE 2 (File.enc false) x45)] (zD 1 (zFm 27 124 2 5 (File.enc false) ([]:List File) [] [] []) (zD 7 (zOl 27 124 2 1 (File.enc false) (.tmp 94) none (some (.tmp 95)) h38) (zD 8 (zPa (ys:=x17.2.Files) (l:=0) (hi:=v36) 27 27 124 124 2 40 6 5 1 (File.enc false) (.tmp 90) (.tmp 96) h38 h40) (zD 10 (zFm 27 124 2 7 (File.enc false) [({Path:=a2,Data:=x20}:File)] [0] [(.tmp 98)] [.ag [sv a2,sl 1 eU8 x20]]) (zD 11 (zII 27 27 124 124 2 40 8 6 7 (File.enc false) (.tmp 97) (.tmp 99) h42) (zD 17 (zOl 27 124 2 1 (File.enc false) (.tmp 104) (some (.tmp 105)) none h44) (zD 18 (zPa (ys:=x17.2.Files) (l:=v36) (hi:=(x17.2.Files.length:Int)) 27 27 124 124 2 40 9 8 1 (File.enc false) (.tmp 100) (.tmp 106) h44 h46) zB))))))) ?_
       refine J_g 16382 [] [(6,iv 0)] [(0,.box [rr 9 x45,iv x17.2.Budget,iv x17.2.Writes,iv x17.2.Stop,bv x17.2.Down]),(9,rE 2 (File.enc false) x45)] zB ?_
       refine yX 0 (cs':=[so 2 (File.enc false) x45,iv x17.2.Budget,iv x17.2.Writes,iv x17.2.Stop,bv x17.2.Down]) (ts:=[9]) rfl (.move (.head _) (List.length_map _) (by decide) (.keep rfl (.keep rfl (.keep rfl (.keep rfl (.nil)))))) ?_
       refine wM [(6,iv 0)] [(0,.box [so 2 (File.enc false) x45,iv x17.2.Budget,iv x17.2.Writes,iv x17.2.Stop,bv x17.2.Down])] (by kernel_rfl) ?_
       exact zN rfl
  ·refine wL (fun h10=>?_) (fun h10=>?_)
   ·refine J_d 124 [] [38] [(38,bv true)] [] [] (xX 3 [(26,bv (decide ((a3.length:Int)>4000)))] [] h10 (zFG 6 (zF7 (i:=6) (g:=3) (t:=27) (b:=false) (v:=(.bool true)) (.inl rfl) (by kernel_rfl) (by kernel_rfl)) (zFG 7 (zF7 (i:=7) (g:=6) (t:=30) (b:=true) (v:=undef) (.inr rfl) (by kernel_rfl) (by kernel_rfl)) (zFG 8 (zF7 (i:=8) (g:=6) (t:=30) (b:=true) (v:=undef) (.inr rfl) (by kernel_rfl) (by kernel_rfl)) (zFG 9 (zF7 (i:=9) (g:=6) (t:=30) (b:=true) (v:=undef) (.inr rfl) (by kernel_rfl) (by kernel_rfl)) (zFG 10 (zF7 (i:=10) (g:=6) (t:=30) (b:=true) (v:=undef) (.inr rfl) (by kernel_rfl) (by kernel_rfl)) (zFG 11 (zF7 (i:=11) (g:=6) (t:=30) (b:=true) (v:=undef) (.inr rfl) (by kernel_rfl) (by kernel_rfl)) (zFG 12 (zF7 (i:=12) (g:=6) (t:=30) (b:=true) (v:=undef) (.inr rfl) (by kernel_rfl) (by kernel_rfl)) zB)))))))) ?_
    exact xD (J_j (jv12 true)) rfl
   ·refine wL (fun h11=>?_) (fun h11=>?_)
    ·refine J_d 124 [] [38] [(38,bv (decide ((a1.Files.length:Int)≥120)))] [] [] (xX 3 [(26,bv (decide ((a3.length:Int)>4000)))] [] h10 (zGN 6 3 27 false [(29,bv (decide (x4<0)))] [] h11 zB)) ?_
     exact xD (J_j (jv12 (decide ((a1.Files.length:Int)≥120)))) rfl
    ·refine J_d 124 [] [38] [(38,bv false)] [] [] (xX 3 [(26,bv (decide ((a3.length:Int)>4000)))] [] h10 (zGN 6 3 27 false [(29,bv (decide (x4<0)))] [] h11 zB)) ?_
     exact xD (J_j (jv12 false)) rfl
 ·refine zF 14 (fun h6=>?_) (fun h6=>?_)
  ·refine zA (fun x7 h8=>?_)
   refine J_d 122 [] [8,14] [(8,iv (x7.Data.length:Int))] [] [] (zD 5 (uN (kk:=.i64) 27 124 2 1 (File.enc false) (.tmp 18) (.tmp 19) h8) (zD 7 (zEt (d:=sl 1 eU8 x7.Data) 22 2 1 1 (File.enc false) (.tmp 21) h8 (by kernel_rfl)) zB)) ?_
   exact xD (J_j (jv9 (x7.Data.length:Int))) rfl
  ·exact xD (J_j (jv9 0)) rfl
end Go.Told

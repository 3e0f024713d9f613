import Derived.Test.YtdeihchdibglaaaGreatOkFnApartx1
set_option linter.unusedVariables false
set_option maxRecDepth 4000
namespace Go.Told
open Go Go.Im Go.Proofs
noncomputable def zKP:Code:=(Tryz.f121.body).getD .skip
theorem wB.ok (a1:(List Pack)) (a2:ByteArray) (a3:Version) (q:Wd) (kn:Unit→Option (D×List Ent)) (hk:∀v:Unit,J (q.g Tryz.prog 121 2 19) zKP (atI zKP 7) (St.mk' [] [(0,.box [sv a2]),(1,.box (Version.enc a3))]) (some v) kn):
  ∀s10:Int,J (q.g Tryz.prog 121 2 19) zKP (atI zKP 52) (St.mk' [(0,sl 8 (Pack.enc false) a1),(1,.fn 166 [pp 0,pp 1]),(7,iv (a1.length:Int)),(8,iv s10)] [(0,.box [sv a2]),(1,.box (Version.enc a3))]) (wB a1 a2 a3 s10) (Fl.go (fun r:Int=>some (iv r,[.box [sv a2],.box (Version.enc a3)])) kn):=by
 refine kT (fun g ih s10=>?_)
 unfold xW
 refine J_d 104 [] [9] [(9,bv (decide (s10< (a1.length:Int))))] [] [] zB ?_
 refine zG 9 (fun h11=>?_) (fun h11=>?_)
 ·refine J_d 1688 [] [5,9] [(5,iv s10)] [] [] zB ?_
  refine zA (fun x12 h13=>?_)
  refine zA (fun x14 h15=>?_)
  refine J_d 3378 [] [16] [(16,bv x14)] [] [] (zF 3 (tC (kk:=.i64) 24 91 8 (Pack.enc false) (.tmp 12) (.tmp 13) h13) (zF 5 (zEm [(0,.box [sv a2]),(1,.box (Version.enc a3))] [] (zEf 11 [(.tmp 15)] [91] false [(0,.box [sv a2]),(1,.box (Version.enc a3))] [0,1] [.ag (Pack.enc false x12)] [pp 0,pp 1] (.cons (.same rfl) (.cons (.pt rfl) (.cons (.pt rfl) (.nil)))) (zD6.ok x12 a2 a3) h15 (.same rfl rfl))) zB)) ?_
  refine zG 16 (fun h16=>?_) (fun h16=>?_)
  ·refine J_d 13516 [] [0,1,4,5,7,8,16] [(4,iv s10)] [] [] zB ?_
   exact xR rfl
  ·refine J_d 423 [] [5,8,16] [(8,iv (w64 (s10+1)))] [] [] zB ?_
   exact J_q (J_b (ih (w64 (s10+1)))) rfl
 ·exact yO (hk ()) rfl
theorem xM.ok (a1:(List Pack)) (a2:ByteArray) (a3:Version):Ok Tryz.prog 121 [sl 8 (Pack.enc false) a1,.fn 166 [pp 0,pp 1]] [.box [sv a2],.box (Version.enc a3)] ((xM a1 a2 a3).map fun r=>(iv r,[.box [sv a2],.box (Version.enc a3)])):=by
 refine zH zKP Tryz.f121 2 19 (fun q=>?_)
 unfold xM
 refine J_g 2 [] [(0,sl 8 (Pack.enc false) a1),(1,.fn 166 [pp 0,pp 1])] [(0,.box [sv a2]),(1,.box (Version.enc a3))] zB ?_
 refine J_d 12 [] [7,8] [(7,iv (a1.length:Int)),(8,iv 0)] [] [] zB ?_
 refine jS (K0:=(fun r:Int=>some (iv r,[.box [sv a2],.box (Version.enc a3)]))) (fun _=>rfl) (wB.ok a1 a2 a3 q _ (fun v17=>J_j ?_) 0)
 refine J_d 14 [] [4] [(4,iv (-1))] [] [] zB ?_
 exact xR rfl
noncomputable def zOi:Code:=(Tryz.f128.body).getD .skip
theorem zDI.ok (a1:(List Pack)) (a2:ByteArray) (a3:Version):Ok Tryz.prog 128 [sl 8 (Pack.enc false) a1,sv a2,.ag (Version.enc a3)] [] ((zDI a1 a2 a3).map fun r=>(iv r,[])):=by
 refine zH zOi Tryz.f128 0 10 (fun q=>?_)
 unfold zDI
 refine J_d 2 [(0,0),(1,1)] [1,2,4,5] [(4,pp 0),(5,pp 1)] [0,1] [(0,.box [sv a2]),(1,.box (Version.enc a3))] zB ?_
 refine zA (fun x4 h5=>?_)
 refine J_g 6 [] [(6,iv x4)] [] (zF 2 (zEm [(0,.box [sv a2]),(1,.box (Version.enc a3))] [] (wQ («as»:=[sl 8 (Pack.enc false) a1,.fn 166 [pp 0,pp 1]]) [(.tmp 7),(.tmp 8)] [24,100] false [(0,.box [sv a2]),(1,.box (Version.enc a3))] [0,1] (.cons (.same rfl) (.cons (.fn (.cons (.pt rfl) (.cons (.pt rfl) (.nil)))) (.nil))) (xM.ok a1 a2 a3) h5 (.same rfl rfl))) zB) ?_
 exact xR rfl
noncomputable def c84:Code:=(Tryz.f84.body).getD .skip
theorem kM.ok (a1:(List Pack)) (q:Wd) (kn:Unit→Option (D×List Ent)) (hk:∀v:Unit,J (q.g Tryz.prog 84 0 31) c84 (atI c84 15) (St.mk' [] []) (some v) kn):
  ∀s14:Int,J (q.g Tryz.prog 84 0 31) c84 (atI c84 116) (St.mk' [(0,sl 8 (Pack.enc false) a1),(9,sl 8 (Pack.enc false) a1),(10,iv (a1.length:Int)),(11,iv s14)] []) (kM a1 s14) (Fl.go (fun r:Int=>some (iv r,[])) kn):=by
 refine kT (fun g ih s14=>?_)
 unfold jZ
 refine J_d 232 [] [12] [(12,bv (decide (s14< (a1.length:Int))))] [] [] zB ?_
 refine zG 12 (fun h15=>?_) (fun h15=>?_)
 ·refine zA (fun x16 h17=>?_)
  refine J_d 3736 [(3,0)] [3,4,12] [(3,iv s14),(4,pp 0)] [0] [(0,.box (Pack.enc false x16))] (zF 1 (tC (kk:=.i64) 24 91 8 (Pack.enc false) (.tmp 9) (.tmp 11) h17) zB) ?_
  refine zA (fun x18 h19=>?_)
  refine J_g 14948 [] [(0,sl 8 (Pack.enc false) a1),(3,iv s14),(4,pp 0),(5,iv x18),(9,sl 8 (Pack.enc false) a1),(10,iv (a1.length:Int)),(11,iv s14)] [(0,.box (Pack.enc false x16))] (zF 1 (vM [(.tmp 16)] [91] (zBf.ok x16) h19) zB) ?_
  refine J_d 29898 [] [19] [(19,bv (x18 !=0))] [] [] zB ?_
  refine zG 19 (fun h20=>?_) (fun h20=>?_)
  ·refine J_g 119596 [] [(2,iv x18)] [] zB ?_
   exact xR rfl
  ·refine zA (fun x21 h22=>?_)
   refine zA (fun x23 h24=>?_)
   refine J_d 14950 [] [3,4,5,19,29] [(29,bv (decide (x23≥0)))] [0] [] (zF 2 (zLI 24 91 8 (Pack.enc false) (.tmp 21) none (some (.tmp 22)) h22) (zF 7 (vM [(.tmp 23),(.tmp 25),(.tmp 27)] [24,9,88] (zDI.ok x21 x16.Name x16.Version) h24) zB)) ?_
   refine zG 29 (fun h25=>?_) (fun h25=>?_)
   ·refine J_g 59804 [] [(2,iv 6)] [] zB ?_
    exact xR rfl
   ·refine J_d 935 [] [11,29] [(11,iv (w64 (s14+1)))] [] [] zB ?_
    exact J_q (J_b (ih (w64 (s14+1)))) rfl
 ·exact yO (hk ()) rfl
theorem jK.ok (a1:(List Pack)):Ok Tryz.prog 84 [sl 8 (Pack.enc false) a1] [] ((jK a1).map fun r=>(iv r,[])):=by
 refine zH c84 Tryz.f84 0 31 (fun q=>?_)
 unfold jK
 refine J_g 2 [] [(0,sl 8 (Pack.enc false) a1)] [] zB ?_
 refine J_d 12 [] [8] [(8,bv (decide ((a1.length:Int)>24)))] [] [] zB ?_
 refine zG 8 (fun h2=>?_) (fun h2=>?_)
 ·refine J_g 52 [] [(2,iv 2)] [] zB ?_
  exact xR rfl
 ·refine J_d 28 [] [8,9,10,11] [(9,sl 8 (Pack.enc false) a1),(10,iv (a1.length:Int)),(11,iv 0)] [] [] zB ?_
  refine jS (K0:=(fun r:Int=>some (iv r,[]))) (fun _=>rfl) (kM.ok a1 q _ (fun v26=>J_j ?_) 0)
  refine J_g 30 [] [(2,iv 0)] [] zB ?_
  exact xR rfl
noncomputable def c130:Code:=(Tryz.f130.body).getD .skip
theorem zA8.ok (a1:Int) (a2:(List Pack)):Ok Tryz.prog 130 [iv a1,pp 0] [.box [sl 8 (Pack.enc false) a2]] ((zA8 a1 a2).map fun r=>(bv r,[.box [sl 8 (Pack.enc false) a2]])):=by
 refine zH c130 Tryz.f130 1 10 (fun q=>?_)
 unfold zA8
 refine J_d 2 [] [] [] [] [] zB ?_
 refine zA (fun x3 h4=>?_)
 refine J_d 6 [] [0,1,3] [(3,bv (!x3))] [] [] (zF 4 (vM [(.tmp 4),(.const (.int .i64 0)),(.tmp 7)] [2,2,2] (vN.ok a1 0 (w64 ((a2.length:Int)-1))) h4) zB) ?_
 exact xR rfl
noncomputable def c167:Code:=(Tryz.f167.body).getD .skip
theorem xP.ok (a1:(List Int)) (a2:(List Pack)) (q:Wd) (kn:Unit→Option (D×List Ent)) (hk:∀v:Unit,J (q.g Tryz.prog 167 1 19) c167 (atI c167 7) (St.mk' [] [(0,.box [sl 8 (Pack.enc false) a2])]) (some v) kn):
  ∀s9:Int,J (q.g Tryz.prog 167 1 19) c167 (atI c167 52) (St.mk' [(0,sl 1 zC a1),(1,.fn 130 [pp 0]),(7,iv (a1.length:Int)),(8,iv s9)] [(0,.box [sl 8 (Pack.enc false) a2])]) (xP a1 a2 s9) (Fl.go (fun r:Int=>some (iv r,[.box [sl 8 (Pack.enc false) a2]])) kn):=by
 refine kT (fun g ih s9=>?_)
 unfold xL
 refine J_d 104 [] [9] [(9,bv (decide (s9< (a1.length:Int))))] [] [] zB ?_
 refine zG 9 (fun h10=>?_) (fun h10=>?_)
 ·refine J_d 1688 [] [5,9] [(5,iv s9)] [] [] zB ?_
  refine zA (fun x11 h12=>?_)
  refine zA (fun x13 h14=>?_)
  refine J_d 3378 [] [16] [(16,bv x13)] [] [] (zF 3 (tC (kk:=.i64) 25 2 1 zC (.tmp 12) (.tmp 13) h12) (zF 5 (zEm [(0,.box [sl 8 (Pack.enc false) a2])] [] (zEf 11 [(.tmp 15)] [2] false [(0,.box [sl 8 (Pack.enc false) a2])] [0] [iv x11] [pp 0] (.cons (.same rfl) (.cons (.pt rfl) (.nil))) (zA8.ok x11 a2) h14 (.same rfl rfl))) zB)) ?_
  refine zG 16 (fun h15=>?_) (fun h15=>?_)
  ·refine J_g 13516 [] [(4,iv s9)] [(0,.box [sl 8 (Pack.enc false) a2])] zB ?_
   exact xR rfl
  ·refine J_d 423 [] [5,8,16] [(8,iv (w64 (s9+1)))] [] [] zB ?_
   exact J_q (J_b (ih (w64 (s9+1)))) rfl
 ·exact yO (hk ()) rfl
theorem xD.ok (a1:(List Int)) (a2:(List Pack)):Ok Tryz.prog 167 [sl 1 zC a1,.fn 130 [pp 0]] [.box [sl 8 (Pack.enc false) a2]] ((xD a1 a2).map fun r=>(iv r,[.box [sl 8 (Pack.enc false) a2]])):=by
 refine zH c167 Tryz.f167 1 19 (fun q=>?_)
 unfold xD
 refine J_g 2 [] [(0,sl 1 zC a1),(1,.fn 130 [pp 0])] [(0,.box [sl 8 (Pack.enc false) a2])] zB ?_
 refine J_d 12 [] [7,8] [(7,iv (a1.length:Int)),(8,iv 0)] [] [] zB ?_
 refine jS (K0:=(fun r:Int=>some (iv r,[.box [sl 8 (Pack.enc false) a2]]))) (fun _=>rfl) (xP.ok a1 a2 q _ (fun v16=>J_j ?_) 0)
 refine J_d 14 [] [4] [(4,iv (-1))] [] [] zB ?_
 exact xR rfl
noncomputable def zN7:Code:=(Tryz.f129.body).getD .skip
theorem yR.ok (a1:(List Int)) (a2:(List Pack)):Ok Tryz.prog 129 [sl 1 zC a1,.fn 130 [pp 0]] [.box [sl 8 (Pack.enc false) a2]] ((yR a1 a2).map fun r=>(bv r,[.box [sl 8 (Pack.enc false) a2]])):=by
 refine zH zN7 Tryz.f129 1 9 (fun q=>?_)
 unfold yR
 refine J_d 2 [] [] [] [] [] zB ?_
 refine zA (fun x3 h4=>?_)
 refine J_d 6 [] [0,1,4] [(4,bv (decide (x3≥0)))] [] [] (zF 2 (zEm [(0,.box [sl 8 (Pack.enc false) a2])] [] (wQ («as»:=[sl 1 zC a1,.fn 130 [pp 0]]) [(.tmp 5),(.tmp 6)] [25,110] false [(0,.box [sl 8 (Pack.enc false) a2])] [0] (.cons (.same rfl) (.cons (.fn (.cons (.pt rfl) (.nil))) (.nil))) (xD.ok a1 a2) h4 (.same rfl rfl))) zB) ?_
 exact xR rfl
noncomputable def c85:Code:=(Tryz.f85.body).getD .skip
theorem zBa.ok (a1:(List Pack)) (a2:(List Int)):Ok Tryz.prog 85 [sl 8 (Pack.enc false) a1,sl 1 zC a2] [] ((zBa a1 a2).map fun r=>(bv r,[])):=by
 refine zH c85 Tryz.f85 0 9 (fun q=>?_)
 unfold zBa
 refine J_g 2 [(0,0)] [(1,sl 1 zC a2),(2,pp 0)] [(0,.box [sl 8 (Pack.enc false) a1])] zB ?_
 refine zA (fun x3 h4=>?_)
 refine J_g 6 [] [(4,bv (!x3))] [] (zF 2 (zEm [(0,.box [sl 8 (Pack.enc false) a1])] [] (wQ («as»:=[sl 1 zC a2,.fn 130 [pp 0]]) [(.tmp 5),(.tmp 6)] [25,110] false [(0,.box [sl 8 (Pack.enc false) a1])] [0] (.cons (.same rfl) (.cons (.fn (.cons (.pt rfl) (.nil))) (.nil))) (yR.ok a2 a1) h4 (.same rfl rfl))) zB) ?_
 exact xR rfl
noncomputable def c41:Code:=(Tryz.f41.body).getD .skip
theorem zAA.ok (a1:(List Pack)) (a2:(List Int)) (q:Wd) (kn:Unit→Option (D×List Ent)) (hk:∀v:Unit,J (q.g Tryz.prog 41 0 32) c41 (atI c41 15) (St.mk' [(0,sl 8 (Pack.enc false) a1),(1,sl 1 zC a2)] []) (some v) kn):
  ∀s12:Int,J (q.g Tryz.prog 41 0 32) c41 (atI c41 116) (St.mk' [(0,sl 8 (Pack.enc false) a1),(1,sl 1 zC a2),(6,iv s12)] []) (zAA a1 a2 s12) (Fl.go (fun r:Int=>some (iv r,[])) kn):=by
 refine kT (fun g ih s12=>?_)
 unfold uW
 refine J_d 464 [] [15] [(15,bv (decide (s12< (a2.length:Int))))] [] [] zB ?_
 refine zG 15 (fun h13=>?_) (fun h13=>?_)
 ·refine zA (fun x14 h15=>?_)
  refine zA (fun x16 h17=>?_)
  refine J_d 1864 [] [15,27] [(27,bv (decide (x14≤x16)))] [] [] (zF 2 (tC (kk:=.i64) 25 2 1 zC (.tmp 18) (.tmp 19) h15) (zF 7 (tC (kk:=.i64) 25 2 1 zC (.tmp 22) (.tmp 24) h17) zB)) ?_
  refine zG 27 (fun h18=>?_) (fun h18=>?_)
  ·refine J_g 7460 [] [(4,iv 1)] [] zB ?_
   exact xR rfl
  ·refine J_d 467 [] [6,27] [(6,iv (w64 (s12+1)))] [] [] zB ?_
   exact J_q (J_b (ih (w64 (s12+1)))) rfl
 ·exact yO (hk ()) rfl
theorem wS.ok (a1:(List Pack)) (a2:(List Int)):Ok Tryz.prog 41 [sl 8 (Pack.enc false) a1,sl 1 zC a2] [] ((wS a1 a2).map fun r=>(iv r,[])):=by
 refine zH c41 Tryz.f41 0 32 (fun q=>?_)
 unfold wS
 refine J_d 2 [] [] [] [] [] zB ?_
 refine zA (fun x3 h4=>?_)
 refine J_g 12 [] [(0,sl 8 (Pack.enc false) a1),(1,sl 1 zC a2),(5,iv x3)] [] (zF 1 (vM [(.tmp 7)] [24] (jK.ok a1) h4) zB) ?_
 refine J_d 26 [] [10] [(10,bv (x3 !=0))] [] [] zB ?_
 refine zG 10 (fun h5=>?_) (fun h5=>?_)
 ·refine J_g 108 [] [(4,iv x3)] [] zB ?_
  exact xR rfl
 ·refine J_d 28 [] [5,6,10] [(6,iv 1)] [] [] zB ?_
  refine jS (K0:=(fun r:Int=>some (iv r,[]))) (fun _=>rfl) (zAA.ok a1 a2 q _ (fun v19=>J_j ?_) 1)
  refine zA (fun x20 h21=>?_)
  refine J_g 60 [] [(31,bv (!x20))] [] (zF 2 (vM [(.tmp 28),(.tmp 29)] [24,25] (zBa.ok a1 a2) h21) zB) ?_
  refine zG 31 (fun h22=>?_) (fun h22=>?_)
  ·refine J_g 244 [] [(4,iv 1)] [] zB ?_
   exact xR rfl
  ·refine J_g 62 [] [(4,iv 0)] [] zB ?_
   exact xR rfl
noncomputable def c68:Code:=(Tryz.f68.body).getD .skip
theorem zCO.ok (a1:(List Pack)) (a2:(List Int)) (a3:ByteArray) (q:Wd) (kn:Unit→Option (D×List Ent)) (hk:∀v:Unit,J (q.g Tryz.prog 68 0 24) c68 (atI c68 7) (St.mk' [] []) (some v) kn):
  ∀s10:Int,J (q.g Tryz.prog 68 0 24) c68 (atI c68 52) (St.mk' [(0,sl 8 (Pack.enc false) a1),(2,sv a3),(9,sl 1 zC a2),(10,iv (a2.length:Int)),(11,iv s10)] []) (zCO a1 a2 a3 s10) (Fl.go (fun r:Int=>some (iv r,[])) kn):=by
 refine kT (fun g ih s10=>?_)
 unfold kV
 refine J_d 104 [] [12] [(12,bv (decide (s10< (a2.length:Int))))] [] [] zB ?_
 refine zG 12 (fun h11=>?_) (fun h11=>?_)
 ·refine zA (fun x12 h13=>?_)
  refine J_d 1688 [] [8,12] [(8,iv x12)] [] [] (zF 0 (tC (kk:=.i64) 25 2 1 zC (.tmp 9) (.tmp 11) h13) zB) ?_
  refine zA (fun x14 h15=>?_)
  refine J_d 3378 [] [21] [(21,bv (seq x14.Name a3))] [] [] (zF 2 (tC (kk:=.i64) 24 91 8 (Pack.enc false) (.tmp 15) (.tmp 16) h15) zB) ?_
  refine zG 21 (fun h16=>?_) (fun h16=>?_)
  ·refine J_g 13516 [] [(6,iv x12)] [] zB ?_
   exact xR rfl
  ·refine J_d 423 [] [8,11,21] [(11,iv (w64 (s10+1)))] [] [] zB ?_
   exact J_q (J_b (ih (w64 (s10+1)))) rfl
 ·exact yO (hk ()) rfl
theorem vW.ok (a1:(List Pack)) (a2:(List Int)) (a3:ByteArray):Ok Tryz.prog 68 [sl 8 (Pack.enc false) a1,sl 1 zC a2,sv a3] [] ((vW a1 a2 a3).map fun r=>(iv r,[])):=by
 refine zH c68 Tryz.f68 0 24 (fun q=>?_)
 unfold vW
 refine J_g 2 [] [(0,sl 8 (Pack.enc false) a1),(1,sl 1 zC a2),(2,sv a3)] [] zB ?_
 refine J_d 12 [] [1,9,10,11] [(9,sl 1 zC a2),(10,iv (a2.length:Int)),(11,iv 0)] [] [] zB ?_
 refine jS (K0:=(fun r:Int=>some (iv r,[]))) (fun _=>rfl) (zCO.ok a1 a2 a3 q _ (fun v17=>J_j ?_) 0)
 refine J_g 14 [] [(6,iv (-1))] [] zB ?_
 exact xR rfl
noncomputable def c61:Code:=(Tryz.f61.body).getD .skip
theorem zCp.ok (a1:(List Pack)) (a2:(List Int)) (q:Wd) (kn:Unit→Option (D×List Ent)) (hk:∀v:Unit,J (q.g Tryz.prog 61 0 26) c61 (atI c61 7) (St.mk' [] []) (some v) kn):
  ∀s13:Int,J (q.g Tryz.prog 61 0 26) c61 (atI c61 52) (St.mk' [(0,sl 8 (Pack.enc false) a1),(1,sl 1 zC a2),(7,sl 1 zC a2),(8,iv (a2.length:Int)),(9,iv s13)] []) (zCp a1 a2 s13) (Fl.go (fun r:Bool=>some (bv r,[])) kn):=by
 refine kT (fun g ih s13=>?_)
 unfold zBQ
 refine J_d 104 [] [10] [(10,bv (decide (s13< (a2.length:Int))))] [] [] zB ?_
 refine zG 10 (fun h14=>?_) (fun h14=>?_)
 ·refine zA (fun x15 h16=>?_)
  refine J_d 1688 [] [5,6,10] [(5,iv s13),(6,iv x15)] [] [] (zF 1 (tC (kk:=.i64) 25 2 1 zC (.tmp 7) (.tmp 9) h16) zB) ?_
  refine zA (fun x17 h18=>?_)
  refine zA (fun x19 h20=>?_)
  refine zA (fun x21 h22=>?_)
  refine J_d 3378 [] [5,6,24] [(24,bv (decide (x21≥0)))] [] [] (zF 3 (zLI 25 2 1 zC (.tmp 15) none (some (.tmp 16)) h18) (zF 6 (tC (kk:=.i64) 24 91 8 (Pack.enc false) (.tmp 18) (.tmp 19) h20) (zF 9 (vM [(.tmp 14),(.tmp 17),(.tmp 22)] [24,25,9] (vW.ok a1 x17 x19.Name) h22) zB))) ?_
  refine zG 24 (fun h23=>?_) (fun h23=>?_)
  ·refine J_g 13516 [] [(4,bv true)] [] zB ?_
   exact xR rfl
  ·refine J_d 423 [] [9,24] [(9,iv (w64 (s13+1)))] [] [] zB ?_
   exact J_q (J_b (ih (w64 (s13+1)))) rfl
 ·exact yO (hk ()) rfl
theorem zAa.ok (a1:(List Pack)) (a2:(List Int)):Ok Tryz.prog 61 [sl 8 (Pack.enc false) a1,sl 1 zC a2] [] ((zAa a1 a2).map fun r=>(bv r,[])):=by
 refine zH c61 Tryz.f61 0 26 (fun q=>?_)
 unfold zAa
 refine J_g 2 [] [(0,sl 8 (Pack.enc false) a1),(1,sl 1 zC a2)] [] zB ?_
 refine J_d 12 [] [7,8,9] [(7,sl 1 zC a2),(8,iv (a2.length:Int)),(9,iv 0)] [] [] zB ?_
 refine jS (K0:=(fun r:Bool=>some (bv r,[]))) (fun _=>rfl) (zCp.ok a1 a2 q _ (fun v24=>J_j ?_) 0)
 refine J_g 14 [] [(4,bv false)] [] zB ?_
 exact xR rfl
noncomputable def c30:Code:=(Tryz.f30.body).getD .skip
theorem zAZ.ok (a1:(List Pack)) (a2:(List Int)) (a3:(List Int)):Ok Tryz.prog 30 [sl 8 (Pack.enc false) a1,sl 1 zC a2,sl 1 zC a3] [] ((zAZ a1 a2 a3).map fun r=>(iv r,[])):=by
 refine zH c30 Tryz.f30 0 29 (fun q=>?_)
 unfold zAZ
 refine J_d 2 [] [] [] [] [] zB ?_
 refine zA (fun x4 h5=>?_)
 refine zA (fun x6 h7=>?_)
 refine zA (fun x8 h9=>?_)
 refine J_d 6 [] [7] [(7,iv x8)] [] [] (zF 2 (vM [(.tmp 8),(.tmp 9)] [24,25] (wS.ok a1 a2) h5) (zF 5 (vM [(.tmp 11),(.tmp 12)] [24,25] (wS.ok a1 a3) h7) (zF 6 (zA2 25 2 1 0 zC [x4,x6] [0,1] [(.tmp 10),(.tmp 13)] [iv x4,iv x6]) (zF 7 (wQ («as»:=[rr 0 [x4,x6]]) [(.tmp 14)] [25] true [(0,rE 1 zC [x4,x6])] [] (.cons (zDH (.head _) (fun _=>rfl) rfl) (.nil)) (vK.ok [x4,x6]) h9 (.same rfl rfl) (hbor:=fun _=>⟨fhN,xH⟩)) zB)))) ?_
 refine wC (atI c30 29) (fun v16:Bool=>St.mk' [(7,iv x8),(27,bv v16)] []) (fun v16=>?_) (fun jv16=>?_)
 ·refine wC (atI c30 15) (fun v18:Int=>St.mk' [(7,iv v18)] []) (fun v18=>?_) (fun jv18=>?_)
  ·refine J_g 30 [] [(6,iv v18)] [] zB ?_
   exact xR rfl
  ·refine zG 27 (fun h17=>?_) (fun h17=>?_)
   ·refine J_g 58 [] [(7,iv 6)] [] zB ?_
    exact yO (J_j (jv18 6)) rfl
   ·exact yO (J_j (jv18 x8)) rfl
 ·refine vV (fun h10=>?_) (fun h10=>?_)
  ·refine zA (fun x11 h12=>?_)
   refine vV (fun h13=>?_) (fun h13=>?_)
   ·refine J_g 28 [] [(7,iv x8),(27,bv true)] [] (vD 2 [(17,bv (x8==0))] [] h10 (zBi 5 2 18 true (vM [(.tmp 19),(.tmp 20)] [24,25] (zAa.ok a1 a2) h12) (zG8 6 2 18 true [(21,bv x11)] [] h13 zB))) ?_
    exact yO (J_j (jv16 true)) rfl
   ·refine zA (fun x14 h15=>?_)
    refine J_g 28 [] [(7,iv x8),(27,bv x14)] [] (vD 2 [(17,bv (x8==0))] [] h10 (zBi 5 2 18 true (vM [(.tmp 19),(.tmp 20)] [24,25] (zAa.ok a1 a2) h12) (zG8 6 2 18 true [(21,bv x11)] [] h13 (zBi 9 6 22 false (vM [(.tmp 23),(.tmp 24)] [24,25] (zAa.ok a1 a3) h15) zB)))) ?_
    exact yO (J_j (jv16 x14)) rfl
  ·refine J_g 28 [] [(7,iv x8),(27,bv false)] [] (vD 2 [(17,bv (x8==0))] [] h10 (zH1 6 (zH0 (i:=6) (g:=2) (t:=18) (b:=true) (v:=(.bool false)) (.inl rfl) (by kernel_rfl) (by kernel_rfl)) (zH1 7 (zH0 (i:=7) (g:=6) (t:=22) (b:=false) (v:=undef) (.inr rfl) (by kernel_rfl) (by kernel_rfl)) (zH1 8 (zH0 (i:=8) (g:=6) (t:=22) (b:=false) (v:=undef) (.inr rfl) (by kernel_rfl) (by kernel_rfl)) (zH1 9 (zH0 (i:=9) (g:=6) (t:=22) (b:=false) (v:=undef) (.inr rfl) (by kernel_rfl) (by kernel_rfl)) zB))))) ?_
   exact yO (J_j (jv16 false)) rfl
theorem zET (k:Nat) (w:World) (hk:0<k) (h1:k*8≤140737488355328) (h2:k≤4611686018427387904):Calls Tryz.prog 120 #[.slice none 0 0,.int .i64 (k:Int)] w fun e w'=>∃G,k≤G∧e= .returned (.slice (some ⟨w.heap.size,0,none⟩) 0 G)∧w'=w.drew.alloc (.cells (Builtin.zeroCells (.int .i64 0:Value).cells k++Builtin.zeroCells (.int .i64 0:Value).cells (G-k)) 2):=by
 have hinfo:(Tryz.prog.info? 2).map (fun i=>(i.zero,i.size,i.bytes))=some (some (.int .i64 0:Value),1,8):=by kernel_rfl
 obtain ⟨i0,hi0,hq⟩:=Option.map_eq_some_iff.1 hinfo
 simp only [Prod.mk.injEq] at hq
 obtain ⟨hz0,hs,hb⟩:=hq
 have h:=Any8.slices_Grow_grow Tryz.grow120 i0 (.int .i64 0:Value) hi0 hz0 (by omega) none 0 0 k [] w (Nat.le_refl _) (by omega) (by rw [hb]; omega) (by omega) (by simp) (fun _=>rfl) (fun a h=>by cases h)
 refine Calls.mono h ?_
 rintro e w' ⟨he,hw⟩
 refine ⟨_,?_,he,?_⟩
 ·exact Nat.le_trans (Nat.le_of_eq (Nat.zero_add k).symm) (grownCap_ge w (0+k) 0 2)
 ·rw [hw]
  simp
  rfl
theorem zAs.ok (a1:Int):Ok Tryz.prog 120 [nv,iv a1] [] ((zAs a1).map fun r=>(so 1 zC r,[])):=by
 unfold zAs
 split
 ·rename_i h
  obtain ⟨h0,h1,h2⟩:=h
  obtain ⟨k,rfl⟩:=Int.eq_ofNat_of_zero_le h0
  exact zJg (el:=2) (z:=1) (zv:=.int .i64 0) h0 rfl (fun hn w=>by
   have h:=Any8.slices_Grow_room Tryz.grow120 none 0 0 k w (Nat.le_refl _) (by omega) (by omega) (by omega)
   exact h) (fun hp w=>zET k w (by omega) (by omega) (by omega))
 ·exact fun _ h=>by cases h
noncomputable def c67:Code:=(Tryz.f67.body).getD .skip
theorem tT.ok (a1:(List (List Int))) (q:Wd) (kn:(List Int)→Option (D×List Ent)) (hk:∀v:(List Int),J (q.g Tryz.prog 67 0 36) c67 (atI c67 63) (St.mk' [(6,rr 0 v)] [(0,rE 1 zC v)]) (some v) kn):
  ∀s19:((List Int)×Int),J (q.g Tryz.prog 67 0 36) c67 (atI c67 500) (St.mk' [(6,rr 0 s19.1),(25,sl 1 (eSl false 1 zC) a1),(26,iv (a1.length:Int)),(27,iv s19.2)] [(0,rE 1 zC s19.1)]) (tT a1 s19) kn:=by
 refine kT (fun g ih s19=>?_)
 unfold wM
 refine J_d 1000 [] [28] [(28,bv (decide (s19.2< (a1.length:Int))))] [] [] zB ?_
 refine zG 28 (fun h20=>?_) (fun h20=>?_)
 ·refine zA (fun x21 h22=>?_)
  refine J_d 16024 [] [8,28] [(8,sl 1 zC x21)] [] [] (zF 0 (tC (kk:=.i64) 46 25 1 (eSl false 1 zC) (.tmp 25) (.tmp 27) h22) zB) ?_
  refine zA (fun x23 h24=>?_)
  refine J_g 16025 [] [(6,rr 1 x23),(25,sl 1 (eSl false 1 zC) a1),(26,iv (a1.length:Int)),(27,iv s19.2)] [(1,rE 1 zC x23)] (zF 2 (zHB 25 25 2 2 1 8 1 0 zC (.tmp 31) (.tmp 32) h24) zB) ?_
  refine J_d 4007 [] [27] [(27,iv (w64 (s19.2+1)))] [] [] zB ?_
  refine vJ 1 0 (Nat.le_of_ble_eq_true rfl) (Nat.le_of_ble_eq_true rfl) ?_
  exact J_q (J_b (ih (x23,w64 (s19.2+1)))) rfl
 ·exact yO (hk s19.1) rfl
theorem tK.ok (a1:(List (List Int))) (q:Wd) (kn:Int→Option (D×List Ent)) (hk:∀v:Int,J (q.g Tryz.prog 67 0 36) c67 (atI c67 15) (St.mk' [(0,sl 1 (eSl false 1 zC) a1),(3,iv v)] []) (some v) kn):
  ∀s6:(Int×Int),J (q.g Tryz.prog 67 0 36) c67 (atI c67 116) (St.mk' [(0,sl 1 (eSl false 1 zC) a1),(3,iv s6.1),(9,sl 1 (eSl false 1 zC) a1),(10,iv (a1.length:Int)),(11,iv s6.2)] []) (tK a1 s6) kn:=by
 refine kT (fun g ih s6=>?_)
 unfold wH
 refine J_d 232 [] [12] [(12,bv (decide (s6.2< (a1.length:Int))))] [] [] zB ?_
 refine zG 12 (fun h7=>?_) (fun h7=>?_)
 ·refine zA (fun x8 h9=>?_)
  refine J_g 3736 [] [(0,sl 1 (eSl false 1 zC) a1),(3,iv s6.1),(5,sl 1 zC x8),(9,sl 1 (eSl false 1 zC) a1),(10,iv (a1.length:Int)),(11,iv s6.2)] [] (zF 0 (tC (kk:=.i64) 46 25 1 (eSl false 1 zC) (.tmp 9) (.tmp 11) h9) zB) ?_
  refine J_g 7474 [] [(0,sl 1 (eSl false 1 zC) a1),(3,iv (w64 (s6.1+(x8.length:Int)))),(9,sl 1 (eSl false 1 zC) a1),(10,iv (a1.length:Int)),(11,iv s6.2)] [] zB ?_
  refine J_d 14950 [] [20] [(20,bv (decide ((w64 (s6.1+(x8.length:Int)))<0)))] [] [] zB ?_
  refine zG 20 (fun h10=>?_) (fun h10=>?_)
  ·exact zIQ
  ·refine J_d 935 [] [11,20] [(11,iv (w64 (s6.2+1)))] [] [] zB ?_
   exact J_q (J_b (ih (w64 (s6.1+(x8.length:Int)),w64 (s6.2+1)))) rfl
 ·exact yO (hk s6.1) rfl
theorem wT.ok (a1:(List (List Int))):Ok Tryz.prog 67 [sl 1 (eSl false 1 zC) a1] [] ((wT a1).map fun r=>(so 1 zC r,[])):=by
 refine zH c67 Tryz.f67 0 36 (fun q=>?_)
 unfold wT
 refine J_g 2 [] [(0,sl 1 (eSl false 1 zC) a1)] [] zB ?_
 refine J_g 6 [] [(0,sl 1 (eSl false 1 zC) a1),(3,iv 0)] [] zB ?_
 refine J_d 28 [] [9,10,11] [(9,sl 1 (eSl false 1 zC) a1),(10,iv (a1.length:Int)),(11,iv 0)] [] [] zB ?_
 refine zEa (tK.ok a1 q _ (fun v11=>J_j ?_) (0,0))
 refine zA (fun x12 h13=>?_)
 refine J_g 30 [] [(0,sl 1 (eSl false 1 zC) a1),(6,rr 0 x12)] [(0,rE 1 zC x12)] (zF 1 (wQ («as»:=[nv,iv v11]) [(.const (.slice none 0 0)),(.tmp 23)] [25,3] false [] [] (.cons (.same rfl) (.cons (.same rfl) (.nil))) (zAs.ok v11) h13 (.own 0)) zB) ?_
 refine J_d 124 [] [0,25,26,27] [(25,sl 1 (eSl false 1 zC) a1),(26,iv (a1.length:Int)),(27,iv 0)] [] [] zB ?_
 refine zEa (tT.ok a1 q _ (fun v25=>J_j ?_) (x12,0))
 refine J_g 126 [] [(2,rr 0 v25)] [(0,rE 1 zC v25)] zB ?_
 exact zDJ (ds:=[rr 0 v25]) (ds':=[so 1 zC v25]) (.cons (.cell (.move (.head _) (List.length_map _) (by decide) (.nil))) (.nil) (by decide)) rfl
theorem uE.ok (a1:List ByteArray):Ok Tryz.prog 115 [rr 0 a1] [rE 1 eStr a1] ((uE a1).map fun r=>(.tu [],[rE 1 eStr r])):=by
 unfold uE
 split
 ·refine zL0 (fun blk off cap w hH hb=>?_) (fun p cap w=>Tryz.slices_Sort_string_none p cap w)
  have k:=Tryz.slices_Sort_string blk off cap (a1.map (·.data.toList)) w hH hb (by rw [List.length_map]; omega)
  rw [List.length_map] at k
  exact k
 ·exact fun _ h=>by cases h
noncomputable def c116:Code:=(Tryz.f116.body).getD .skip
theorem vE.ok (s41:Int) (x48:(List ByteArray)) (q:Wd) (kn:((List ByteArray)×Int)→Option (D×List Ent)) (hk:∀v:((List ByteArray)×Int),J (q.g Tryz.prog 116 1 61) c116 (atI c116 14923) (St.mk' [(0,rr 0 v.1),(3,iv v.2)] [(0,rE 1 eStr v.1)]) (some v) kn):
  ∀s61:((List ByteArray)×Int×Int),J (q.g Tryz.prog 116 1 61) c116 (atI c116 119380) (St.mk' [(0,rr 0 s61.1),(3,iv s61.2.1),(4,.sub 0 s41.toNat x48.length),(5,iv s61.2.2)] [(0,rE 1 eStr s61.1)]) (vE s41 x48 s61) kn:=by
 refine kT (fun g ih s61=>?_)
 unfold vT
 refine J_d 477520 [] [32] [(32,bv (decide (s61.2.2< (x48.length:Int))))] [] [] (zF 2 (zL9 32 9 0 s41.toNat x48.length (.tmp 30)) zB) ?_
 refine zG 32 (fun h62=>?_) (fun h62=>?_)
 ·refine zA (fun x63 h64=>?_)
  refine zA (fun x65 h66=>?_)
  refine J_d 1910088 [] [32,44] [(44,bv (!(seq x63 x65)))] [] [] (zF 2 (zLx (kk:=.i64) 32 9 1 0 eStr (.tmp 35) (.tmp 36) h64) (zF 3 (zAi (d:=sv x63) 9 1 0 0 eStr (.tmp 37) (zFK h64) (by kernel_rfl)) (zF 7 (zLx (kk:=.i64) 32 9 1 0 eStr (.tmp 39) (.tmp 41) h66) (zF 8 (zAi (d:=sv x65) 9 1 0 0 eStr (.tmp 42) (zFK h66) (by kernel_rfl)) zB)))) ?_
  refine wC (aft c116 955044) (fun v72:((List ByteArray)×Int)=>St.mk' [(0,rr 0 v72.1),(3,iv v72.2),(4,.sub 0 s41.toNat x48.length),(5,iv s61.2.2)] [(0,rE 1 eStr v72.1)]) (fun v72=>?_) (fun jv72=>?_)
  ·refine J_d 477523 [] [5] [(5,iv (w64 (s61.2.2+1)))] [] [] zB ?_
   exact J_q (J_b (ih (v72.1,v72.2,w64 (s61.2.2+1)))) rfl
  ·refine zG 44 (fun h67=>?_) (fun h67=>?_)
   ·refine zA (fun x68 h69=>?_)
    refine zA (fun x70 h71=>?_)
    refine J_g 7640356 [] [(0,rr 0 s61.1),(3,iv s61.2.1),(4,.sub 0 s41.toNat x48.length),(5,iv s61.2.2)] [(0,rE 1 eStr (s61.1.set s61.2.1.toNat x68))] (zF 4 (zLx (kk:=.i64) 32 9 1 0 eStr (.tmp 47) (.tmp 48) h69) (zF 5 (zAi (d:=sv x68) 9 1 0 0 eStr (.tmp 49) (zFK h69) (by kernel_rfl)) (zF 6 (zAf (kk:=.i64) 32 9 1 0 eStr (.tmp 45) (.tmp 46) h71) (zMk 7 (zNk (b:=x68) 9 1 0 0 eStr (sv x68) (.tmp 51) (.tmp 50) h71 rfl) zB)))) ?_
    refine zLu (σ':=St.mk' [(0,rr 0 (s61.1.set s61.2.1.toNat x68)),(3,iv s61.2.1),(4,.sub 0 s41.toNat x48.length),(5,iv s61.2.2)] [(0,rE 1 eStr (s61.1.set s61.2.1.toNat x68))]) (by simp only [rr,List.length_set]) ?_
    refine J_d 7640357 [] [3] [(3,iv (w64 (s61.2.1+1)))] [] [] zB ?_
    exact yO (J_j (jv72 (s61.1.set s61.2.1.toNat x68,w64 (s61.2.1+1)))) rfl
   ·exact yO (J_j (jv72 (s61.1,s61.2.1))) rfl
 ·exact yO (hk (s61.1,s61.2.1)) rfl
theorem vX.ok (a1:(List ByteArray)) (q:Wd) (kn:Unit→Option (D×List Ent)) (hk:∀v:Unit,J (q.g Tryz.prog 116 1 61) c116 (atI c116 15) (St.mk' [(0,rr 0 a1)] [(0,rE 1 eStr a1)]) (some v) kn):
  ∀s41:Int,J (q.g Tryz.prog 116 1 61) c116 (atI c116 116) (St.mk' [(0,rr 0 a1),(3,iv s41)] [(0,rE 1 eStr a1)]) (vX a1 s41) (Fl.go (fun r:(List ByteArray)=>some (so 1 eStr r,[])) kn):=by
 refine kT (fun g ih s41=>?_)
 unfold wL
 refine J_d 464 [] [13] [(13,bv (decide (s41< (a1.length:Int))))] [] [] zB ?_
 refine zG 13 (fun h42=>?_) (fun h42=>?_)
 ·refine zA (fun x43 h44=>?_)
  refine zA (fun x45 h46=>?_)
  refine J_d 1864 [] [13,25] [(25,bv (seq x43 x45))] [] [] (zF 2 (zAf (kk:=.i64) 32 9 1 0 eStr (.tmp 16) (.tmp 17) h44) (zF 3 (zAi (d:=sv x43) 9 1 0 0 eStr (.tmp 18) h44 (by kernel_rfl)) (zF 7 (zAf (kk:=.i64) 32 9 1 0 eStr (.tmp 20) (.tmp 22) h46) (zF 8 (zAi (d:=sv x45) 9 1 0 0 eStr (.tmp 23) h46 (by kernel_rfl)) zB)))) ?_
  refine zG 25 (fun h47=>?_) (fun h47=>?_)
  ·refine zA (fun x48 h49=>?_)
   refine J_g 7460 [] [(0,rr 0 a1),(3,iv s41),(4,.sub 0 s41.toNat x48.length)] [(0,rE 1 eStr a1)] (zF 2 (zIy 32 9 1 0 eStr (.tmp 26) (some (.tmp 27)) none h49) zB) ?_
   refine J_d 29844 [] [5] [(5,iv 1)] [] [] zB ?_
   refine zEa (vE.ok s41 x48 q _ (fun v73=>J_j ?_) (a1,s41,1))
   refine zA (fun x74 h75=>?_)
   refine zA (fun x76 h77=>?_)
   refine J_g 29846 [] [(0,rr 0 v73.1),(3,iv v73.2)] [(0,rE 1 eStr x76)] (zF 2 (zIy 32 9 1 0 eStr (.tmp 54) (some (.tmp 55)) none h75) (zMk 3 (zMh (l:=v73.2) (a:=ByteArray.empty) 32 9 1 0 eStr (.tmp 56) h77 (.keep rfl (.nil))) zB)) ?_
   refine zLu (σ':=St.mk' [(0,rr 0 x76),(3,iv v73.2)] [(0,rE 1 eStr x76)]) (by simp only [rr,zHi h77]) ?_
   refine zA (fun x78 h79=>?_)
   refine J_g 59694 [] [(2,rr 1 x78)] [(1,rE 1 eStr x78)] (zF 2 (zLd 32 9 1 0 1 eStr (.tmp 57) none (some (.tmp 58)) h79) zB) ?_
   exact zDJ (ds:=[rr 1 x78]) (ds':=[so 1 eStr x78]) (.cons (.cell (.move (.head _) (List.length_map _) (by decide) (.nil))) (.nil) (by decide)) rfl
  ·refine J_d 467 [] [3,25] [(3,iv (w64 (s41+1)))] [] [] zB ?_
   exact J_q (J_b (ih (w64 (s41+1)))) rfl
 ·exact yO (hk ()) rfl
theorem vF.ok (a1:(List ByteArray)):Ok Tryz.prog 116 [rr 0 a1] [rE 1 eStr a1] ((vF a1).map fun r=>(so 1 eStr r,[])):=by
 refine zH c116 Tryz.f116 1 61 (fun q=>?_)
 unfold vF
 refine J_g 2 [] [(0,rr 0 a1)] [(0,rE 1 eStr a1)] zB ?_
 refine J_d 12 [] [8] [(8,bv (decide ((a1.length:Int)<2)))] [] [] zB ?_
 refine zG 8 (fun h2=>?_) (fun h2=>?_)
 ·refine J_g 52 [] [(2,rr 0 a1)] [(0,rE 1 eStr a1)] zB ?_
  exact zDJ (ds:=[rr 0 a1]) (ds':=[so 1 eStr a1]) (.cons (.cell (.move (.head _) (List.length_map _) (by decide) (.nil))) (.nil) (by decide)) rfl
 ·refine J_d 28 [] [3,8] [(3,iv 1)] [] [] zB ?_
  refine jS (K0:=(fun r:(List ByteArray)=>some (so 1 eStr r,[]))) (fun _=>rfl) (vX.ok a1 q _ (fun v80=>J_j ?_) 1)
  refine J_g 30 [] [(2,rr 0 a1)] [(0,rE 1 eStr a1)] zB ?_
  exact zDJ (ds:=[rr 0 a1]) (ds':=[so 1 eStr a1]) (.cons (.cell (.move (.head _) (List.length_map _) (by decide) (.nil))) (.nil) (by decide)) rfl
noncomputable def c62:Code:=(Tryz.f62.body).getD .skip
theorem uH.ok (a1:(List ByteArray)):Ok Tryz.prog 62 [rr 0 a1] [rE 1 eStr a1] ((uH a1).map fun r=>(so 1 eStr r,[])):=by
 refine zH c62 Tryz.f62 1 7 (fun q=>?_)
 unfold uH
 refine J_d 2 [] [] [] [] [] zB ?_
 refine zA (fun x2 h3=>?_)
 refine J_g 6 [] [(0,rr 0 a1)] [(0,rE 1 eStr x2)] (zF 1 (wQ («as»:=[rr 0 a1]) [(.tmp 3)] [32] false [(0,rE 1 eStr a1)] [0] (.cons (.rf rfl) (.nil)) (uE.ok a1) h3 (.tu (.nil))) zB) ?_
 refine zA (fun u4 h5=>?_)
 refine zLu (σ':=St.mk' [(0,rr 0 x2)] [(0,rE 1 eStr x2)]) (by simp only [rr,zJi h5]) ?_
 refine zA (fun x6 h7=>?_)
 refine J_g 14 [] [(2,rr 1 x6)] [(1,rE 1 eStr x6)] (zF 1 (wQ («as»:=[rr 0 x2]) [(.tmp 5)] [32] false [(0,rE 1 eStr x2)] [0] (.cons (.rf rfl) (.nil)) (vF.ok x2) h7 (.own 1)) zB) ?_
 exact zDJ (ds:=[rr 1 x6]) (ds':=[so 1 eStr x6]) (.cons (.cell (.move (.head _) (List.length_map _) (by decide) (.nil))) (.nil) (by decide)) rfl
noncomputable def c34:Code:=(Tryz.f34.body).getD .skip
theorem zCD.ok (a1:(List Pack)) (a2:(List Int)) (a3:(List Int)) (x4:(List Int)) (q:Wd) (kn:(List ByteArray)→Option (D×List Ent)) (hk:∀v:(List ByteArray),J (q.g Tryz.prog 34 0 42) c34 (atI c34 15) (St.mk' [(7,rr 0 v)] [(0,rE 1 eStr v)]) (some v) kn):
  ∀s19:((List ByteArray)×Int),J (q.g Tryz.prog 34 0 42) c34 (atI c34 116) (St.mk' [(0,sl 8 (Pack.enc false) a1),(1,sl 1 zC a2),(2,sl 1 zC a3),(7,rr 0 s19.1),(15,rr 2 x4),(16,iv (x4.length:Int)),(17,iv s19.2)] [(0,rE 1 eStr s19.1),(2,rE 1 zC x4)]) (zCD a1 a2 a3 x4 s19) kn:=by
 refine kT (fun g ih s19=>?_)
 unfold zBZ
 refine J_d 232 [] [18] [(18,bv (decide (s19.2< (x4.length:Int))))] [] [] zB ?_
 refine zG 18 (fun h20=>?_) (fun h20=>?_)
 ·refine zA (fun x21 h22=>?_)
  refine J_d 3736 [] [9,18] [(9,iv x21)] [] [] (zF 0 (zAf (kk:=.i64) 25 2 1 2 zC (.tmp 15) (.tmp 17) h22) (zF 1 (zAi (d:=iv x21) 2 1 2 0 zC (.tmp 19) h22 (by kernel_rfl)) zB)) ?_
  refine zA (fun x23 h24=>?_)
  refine J_d 7474 [] [9,10] [(10,sv x23.Name)] [] [] (zF 2 (tC (kk:=.i64) 24 91 8 (Pack.enc false) (.tmp 21) (.tmp 22) h24) zB) ?_
  refine zA (fun x25 h26=>?_)
  refine zA (fun x27 h28=>?_)
  refine J_d 14950 [] [34] [(34,bv (x25 !=x27))] [] [] (zF 3 (vM [(.tmp 26),(.tmp 27),(.tmp 28)] [24,25,9] (vW.ok a1 a2 x23.Name) h26) (zF 7 (vM [(.tmp 30),(.tmp 31),(.tmp 32)] [24,25,9] (vW.ok a1 a3 x23.Name) h28) zB)) ?_
  refine wC (aft c34 1868) (fun v32:(List ByteArray)=>St.mk' [(0,sl 8 (Pack.enc false) a1),(1,sl 1 zC a2),(2,sl 1 zC a3),(7,rr 4 v32),(15,rr 2 x4),(16,iv (x4.length:Int)),(17,iv s19.2)] [(2,rE 1 zC x4),(4,rE 1 eStr v32)]) (fun v32=>?_) (fun jv32=>?_)
  ·refine J_d 935 [] [17] [(17,iv (w64 (s19.2+1)))] [] [] zB ?_
   refine vJ 4 0 (Nat.le_of_ble_eq_true rfl) (Nat.le_of_ble_eq_true rfl) ?_
   exact J_q (J_b (ih (v32,w64 (s19.2+1)))) rfl
  ·refine zG 34 (fun h29=>?_) (fun h29=>?_)
   ·refine zA (fun x30 h31=>?_)
    refine J_d 29902 [] [7,10,34] [(7,rr 4 x30)] [0,4] [(4,rE 1 eStr x30)] (zF 2 (zA2 32 9 1 3 eStr [x23.Name] [0] [(.tmp 36)] [sv x23.Name]) (zF 3 (zEk 32 32 9 9 1 16 4 0 3 eStr (.tmp 35) (.tmp 37) h31) zB)) ?_
    exact yO (J_j (jv32 x30)) rfl
   ·refine vJ 0 4 (Nat.le_of_ble_eq_true rfl) (Nat.le_of_ble_eq_true rfl) ?_
    exact yO (J_j (jv32 s19.1)) rfl
 ·exact yO (hk s19.1) rfl
theorem zAP.ok (a1:(List Pack)) (a2:(List Int)) (a3:(List Int)):Ok Tryz.prog 34 [sl 8 (Pack.enc false) a1,sl 1 zC a2,sl 1 zC a3] [] ((zAP a1 a2 a3).map fun r=>(so 1 eStr r,[])):=by
 refine zH c34 Tryz.f34 0 42 (fun q=>?_)
 unfold zAP
 refine J_g 2 [] [(0,sl 8 (Pack.enc false) a1),(1,sl 1 zC a2),(2,sl 1 zC a3)] [] zB ?_
 refine J_d 6 [] [7] [(7,rr 0 ([]:List ByteArray))] [0] [(0,rE 1 eStr ([]:List ByteArray))] (zF 0 (zA2 32 9 1 0 eStr ([]:List ByteArray) [] [] []) zB) ?_
 refine zA (fun x4 h5=>?_)
 refine J_d 28 [] [15,16,17] [(15,rr 2 x4),(16,iv (x4.length:Int)),(17,iv 0)] [2] [(2,rE 1 zC x4)] (zF 2 (zA2 46 25 1 1 (eSl false 1 zC) [a2,a3] [0,1] [(.tmp 12),(.tmp 13)] [sl 1 zC a2,sl 1 zC a3]) (zF 3 (wQ («as»:=[rr 1 [a2,a3]]) [(.tmp 14)] [46] true [(1,rE 1 (eSl false 1 zC) [a2,a3])] [] (.cons (zDH (.head _) (zDR (fun _=>rfl)) rfl) (.nil)) (wT.ok [a2,a3]) h5 (.own 2) (hbor:=fun _=>⟨fhN,(zD4 (zEz (fun _=>(flatK xH zDW)) _))⟩)) zB)) ?_
 refine zEa (zCD.ok a1 a2 a3 x4 q _ (fun v33=>J_j ?_) (([]:List ByteArray),0))
 refine zA (fun x34 h35=>?_)
 refine J_g 30 [] [(6,rr 1 x34)] [(1,rE 1 eStr x34)] (zF 1 (wQ («as»:=[rr 0 v33]) [(.tmp 40)] [32] false [(0,rE 1 eStr v33)] [0] (.cons (.rf rfl) (.nil)) (uH.ok v33) h35 (.own 1)) zB) ?_
 exact zDJ (ds:=[rr 1 x34]) (ds':=[so 1 eStr x34]) (.cons (.cell (.move (.head _) (List.length_map _) (by decide) (.nil))) (.nil) (by decide)) rfl
noncomputable def c73:Code:=(Tryz.f73.body).getD .skip
theorem zB2.ok (a1:(List Pack)) (x5:Int) (x7:Int) (q:Wd) (kn:(List Pack)→Option (D×List Ent)) (hk:∀v:(List Pack),J (q.g Tryz.prog 73 0 38) c73 (atI c73 15) (St.mk' [(9,rr 0 v)] [(0,rE 8 (Pack.enc false) v)]) (some v) kn):
  ∀s18:((List Pack)×Int),J (q.g Tryz.prog 73 0 38) c73 (atI c73 116) (St.mk' [(0,sl 8 (Pack.enc false) a1),(9,rr 0 s18.1),(21,rr 1 [x5,x7]),(22,iv ([x5,x7].length :Int)),(23,iv s18.2)] [(0,rE 8 (Pack.enc false) s18.1),(1,rE 1 zC [x5,x7])]) (zB2 a1 x5 x7 s18) kn:=by
 refine kT (fun g ih s18=>?_)
 unfold tY
 refine J_d 232 [] [24] [(24,bv (decide (s18.2< ([x5,x7].length :Int))))] [] [] zB ?_
 refine zG 24 (fun h19=>?_) (fun h19=>?_)
 ·refine zA (fun x20 h21=>?_)
  refine J_g 3736 [] [(0,sl 8 (Pack.enc false) a1),(9,rr 0 s18.1),(11,iv x20),(21,rr 1 [x5,x7]),(22,iv ([x5,x7].length :Int)),(23,iv s18.2)] [(0,rE 8 (Pack.enc false) s18.1),(1,rE 1 zC [x5,x7])] (zF 0 (zAf (kk:=.i64) 25 2 1 1 zC (.tmp 21) (.tmp 23) h21) (zF 1 (zAi (d:=iv x20) 2 1 1 0 zC (.tmp 25) h21 (by kernel_rfl)) zB)) ?_
  refine J_d 7474 [] [28] [(28,bv (decide (x20≥0)))] [] [] zB ?_
  refine wC (aft c73 1868) (fun v27:(List Pack)=>St.mk' [(0,sl 8 (Pack.enc false) a1),(9,rr 3 v27),(21,rr 1 [x5,x7]),(22,iv ([x5,x7].length :Int)),(23,iv s18.2)] [(1,rE 1 zC [x5,x7]),(3,rE 8 (Pack.enc false) v27)]) (fun v27=>?_) (fun jv27=>?_)
  ·refine J_d 935 [] [23] [(23,iv (w64 (s18.2+1)))] [] [] zB ?_
   refine vJ 3 0 (Nat.le_of_ble_eq_true rfl) (Nat.le_of_ble_eq_true rfl) ?_
   exact J_q (J_b (ih (v27,w64 (s18.2+1)))) rfl
  ·refine zG 28 (fun h22=>?_) (fun h22=>?_)
   ·refine zA (fun x23 h24=>?_)
    refine zA (fun x25 h26=>?_)
    refine J_d 14950 [] [9,11,28] [(9,rr 3 x25)] [0,3] [(3,rE 8 (Pack.enc false) x25)] (zF 3 (tC (kk:=.i64) 24 91 8 (Pack.enc false) (.tmp 30) (.tmp 31) h24) (zF 5 (zA2 24 91 8 2 (Pack.enc false) [x23] [0] [(.tmp 33)] [.ag (Pack.enc false x23)]) (zF 6 (zEk 24 24 91 91 8 120 3 0 2 (Pack.enc false) (.tmp 29) (.tmp 34) h26) zB))) ?_
    exact yO (J_j (jv27 x25)) rfl
   ·refine vJ 0 3 (Nat.le_of_ble_eq_true rfl) (Nat.le_of_ble_eq_true rfl) ?_
    exact yO (J_j (jv27 s18.1)) rfl
 ·exact yO (hk s18.1) rfl
theorem jM.ok (a1:(List Pack)) (a2:(List Int)) (a3:(List Int)) (a4:ByteArray):Ok Tryz.prog 73 [sl 8 (Pack.enc false) a1,sl 1 zC a2,sl 1 zC a3,sv a4] [] ((jM a1 a2 a3 a4).map fun r=>(so 8 (Pack.enc false) r,[])):=by
 refine zH c73 Tryz.f73 0 38 (fun q=>?_)
 unfold jM
 refine J_g 2 [] [(0,sl 8 (Pack.enc false) a1),(1,sl 1 zC a2),(2,sl 1 zC a3),(3,sv a4)] [] zB ?_
 refine J_d 6 [] [9] [(9,rr 0 ([]:List Pack))] [0] [(0,rE 8 (Pack.enc false) ([]:List Pack))] (zF 0 (zA2 24 91 8 0 (Pack.enc false) ([]:List Pack) [] [] []) zB) ?_
 refine zA (fun x5 h6=>?_)
 refine zA (fun x7 h8=>?_)
 refine J_d 28 [] [1,2,3,21,22,23] [(21,rr 1 [x5,x7]),(22,iv ([x5,x7].length :Int)),(23,iv 0)] [1] [(1,rE 1 zC [x5,x7])] (zF 3 (vM [(.tmp 13),(.tmp 14),(.tmp 15)] [24,25,9] (vW.ok a1 a2 a4) h6) (zF 7 (vM [(.tmp 17),(.tmp 18),(.tmp 19)] [24,25,9] (vW.ok a1 a3 a4) h8) (zF 8 (zA2 25 2 1 1 zC [x5,x7] [0,1] [(.tmp 16),(.tmp 20)] [iv x5,iv x7]) zB))) ?_
 refine zEa (zB2.ok a1 x5 x7 q _ (fun v28=>J_j ?_) (([]:List Pack),0))
 refine J_g 30 [] [(8,rr 0 v28)] [(0,rE 8 (Pack.enc false) v28)] zB ?_
 exact zDJ (ds:=[rr 0 v28]) (ds':=[so 8 (Pack.enc false) v28]) (.cons (.cell (.move (.head _) (List.length_map _) (by decide) (.nil))) (.nil) (by decide)) rfl
noncomputable def c70:Code:=(Tryz.f70.body).getD .skip
theorem zCI.ok (x5:(List Pack)) (q:Wd) (kn:(List ByteArray)→Option (D×List Ent)) (hk:∀v:(List ByteArray),J (q.g Tryz.prog 70 0 31) c70 (atI c70 15) (St.mk' [(9,rr 0 v)] [(0,rE 1 eStr v)]) (some v) kn):
  ∀s12:((List ByteArray)×Int),J (q.g Tryz.prog 70 0 31) c70 (atI c70 116) (St.mk' [(9,rr 0 s12.1),(18,rr 1 x5),(19,iv (x5.length:Int)),(20,iv s12.2)] [(0,rE 1 eStr s12.1),(1,rE 8 (Pack.enc false) x5)]) (zCI x5 s12) kn:=by
 refine kT (fun g ih s12=>?_)
 unfold zBS
 refine J_d 232 [] [21] [(21,bv (decide (s12.2< (x5.length:Int))))] [] [] zB ?_
 refine zG 21 (fun h13=>?_) (fun h13=>?_)
 ·refine zA (fun x14 h15=>?_)
  refine J_d 3736 [(2,2)] [11,21] [(11,pp 2)] [2] [(2,.box (Pack.enc false x14))] (zF 0 (zAf (kk:=.i64) 24 91 8 1 (Pack.enc false) (.tmp 18) (.tmp 20) h15) (zF 1 (zAi (d:=.ag (Pack.enc false x14)) 91 8 1 0 (Pack.enc false) (.tmp 22) h15 (by kernel_rfl)) zB)) ?_
  refine zA (fun x16 h17=>?_)
  refine J_g 3737 [] [(9,rr 3 x16),(18,rr 1 x5),(19,iv (x5.length:Int)),(20,iv s12.2)] [(1,rE 8 (Pack.enc false) x5),(3,rE 1 eStr x16)] (zF 3 (zHB 32 32 9 9 1 16 3 0 eStr (.tmp 24) (.tmp 26) h17) zB) ?_
  refine J_d 935 [] [20] [(20,iv (w64 (s12.2+1)))] [] [] zB ?_
  refine vJ 3 0 (Nat.le_of_ble_eq_true rfl) (Nat.le_of_ble_eq_true rfl) ?_
  exact J_q (J_b (ih (x16,w64 (s12.2+1)))) rfl
 ·exact yO (hk s12.1) rfl
theorem jR.ok (a1:(List Pack)) (a2:(List Int)) (a3:(List Int)) (a4:ByteArray):Ok Tryz.prog 70 [sl 8 (Pack.enc false) a1,sl 1 zC a2,sl 1 zC a3,sv a4] [] ((jR a1 a2 a3 a4).map fun r=>(so 1 eStr r,[])):=by
 refine zH c70 Tryz.f70 0 31 (fun q=>?_)
 unfold jR
 refine J_g 2 [] [(0,sl 8 (Pack.enc false) a1),(1,sl 1 zC a2),(2,sl 1 zC a3),(3,sv a4)] [] zB ?_
 refine J_d 6 [] [9] [(9,rr 0 [a4])] [0] [(0,rE 1 eStr [a4])] (zF 1 (zA2 32 9 1 0 eStr [a4] [0] [(.tmp 12)] [sv a4]) zB) ?_
 refine zA (fun x5 h6=>?_)
 refine J_g 28 [] [(9,rr 0 [a4]),(18,rr 1 x5),(19,iv (x5.length:Int)),(20,iv 0)] [(0,rE 1 eStr [a4]),(1,rE 8 (Pack.enc false) x5)] (zF 4 (wQ («as»:=[sl 8 (Pack.enc false) a1,sl 1 zC a2,sl 1 zC a3,sv a4]) [(.tmp 14),(.tmp 15),(.tmp 16),(.tmp 17)] [24,25,25,9] false [] [] (.cons (.same rfl) (.cons (.same rfl) (.cons (.same rfl) (.cons (.same rfl) (.nil))))) (jM.ok a1 a2 a3 a4) h6 (.own 1)) zB) ?_
 refine zEa (zCI.ok x5 q _ (fun v18=>J_j ?_) ([a4],0))
 refine zA (fun x19 h20=>?_)
 refine J_g 30 [] [(8,rr 1 x19)] [(1,rE 1 eStr x19)] (zF 1 (wQ («as»:=[rr 0 v18]) [(.tmp 29)] [32] false [(0,rE 1 eStr v18)] [0] (.cons (.rf rfl) (.nil)) (uH.ok v18) h20 (.own 1)) zB) ?_
 exact zDJ (ds:=[rr 1 x19]) (ds':=[so 1 eStr x19]) (.cons (.cell (.move (.head _) (List.length_map _) (by decide) (.nil))) (.nil) (by decide)) rfl
theorem zE9 (k:Nat) (w:World) (hk:0<k) (h1:k*64≤140737488355328) (h2:k≤4611686018427387904):Calls Tryz.prog 160 #[.slice none 0 0,.int .i64 (k:Int)] w fun e w'=>∃G,k≤G∧e= .returned (.slice (some ⟨w.heap.size,0,none⟩) 0 G)∧w'=w.drew.alloc (.cells (Builtin.zeroCells (.agg #[.string ByteArray.empty,.int .i64 0,.int .i64 0,.int .i64 0,.int .i64 0,.int .i64 0,.int .i64 0]:Value).cells k++Builtin.zeroCells (.agg #[.string ByteArray.empty,.int .i64 0,.int .i64 0,.int .i64 0,.int .i64 0,.int .i64 0,.int .i64 0]:Value).cells (G-k)) 104):=by
 have hinfo:(Tryz.prog.info? 104).map (fun i=>(i.zero,i.size,i.bytes))=some (some (.agg #[.string ByteArray.empty,.int .i64 0,.int .i64 0,.int .i64 0,.int .i64 0,.int .i64 0,.int .i64 0]:Value),7,64):=by kernel_rfl
 obtain ⟨i0,hi0,hq⟩:=Option.map_eq_some_iff.1 hinfo
 simp only [Prod.mk.injEq] at hq
 obtain ⟨hz0,hs,hb⟩:=hq
 have h:=Any8.slices_Grow_grow Tryz.grow160 i0 (.agg #[.string ByteArray.empty,.int .i64 0,.int .i64 0,.int .i64 0,.int .i64 0,.int .i64 0,.int .i64 0]:Value) hi0 hz0 (by omega) none 0 0 k [] w (Nat.le_refl _) (by omega) (by rw [hb]; omega) (by omega) (by simp) (fun _=>rfl) (fun a h=>by cases h)
 refine Calls.mono h ?_
 rintro e w' ⟨he,hw⟩
 refine ⟨_,?_,he,?_⟩
 ·exact Nat.le_trans (Nat.le_of_eq (Nat.zero_add k).symm) (grownCap_ge w (0+k) 0 104)
 ·rw [hw]
  simp
  rfl
theorem kH.ok (a1:Int):Ok Tryz.prog 160 [nv,iv a1] [] ((kH a1).map fun r=>(so 7 Term.enc r,[])):=by
 unfold kH
 split
 ·rename_i h
  obtain ⟨h0,h1,h2⟩:=h
  obtain ⟨k,rfl⟩:=Int.eq_ofNat_of_zero_le h0
  exact zJg (el:=104) (z:=7) (zv:=.agg #[.string ByteArray.empty,.int .i64 0,.int .i64 0,.int .i64 0,.int .i64 0,.int .i64 0,.int .i64 0]) h0 rfl (fun hn w=>by
   have h:=Any8.slices_Grow_room Tryz.grow160 none 0 0 k w (Nat.le_refl _) (by omega) (by omega) (by omega)
   exact h) (fun hp w=>zE9 k w (by omega) (by omega) (by omega))
 ·exact fun _ h=>by cases h
noncomputable def zLz:Code:=(Tryz.f123.body).getD .skip
theorem vY.ok (a1:(List (List Term))) (q:Wd) (kn:(List Term)→Option (D×List Ent)) (hk:∀v:(List Term),J (q.g Tryz.prog 123 0 36) zLz (atI zLz 63) (St.mk' [(6,rr 0 v)] [(0,rE 7 Term.enc v)]) (some v) kn):
  ∀s19:((List Term)×Int),J (q.g Tryz.prog 123 0 36) zLz (atI zLz 500) (St.mk' [(6,rr 0 s19.1),(25,sl 1 (eSl false 7 Term.enc) a1),(26,iv (a1.length:Int)),(27,iv s19.2)] [(0,rE 7 Term.enc s19.1)]) (vY a1 s19) kn:=by
 refine kT (fun g ih s19=>?_)
 unfold vS
 refine J_d 1000 [] [28] [(28,bv (decide (s19.2< (a1.length:Int))))] [] [] zB ?_
 refine zG 28 (fun h20=>?_) (fun h20=>?_)
 ·refine zA (fun x21 h22=>?_)
  refine J_d 16024 [] [8,28] [(8,sl 7 Term.enc x21)] [] [] (zF 0 (tC (kk:=.i64) 89 80 1 (eSl false 7 Term.enc) (.tmp 25) (.tmp 27) h22) zB) ?_
  refine zA (fun x23 h24=>?_)
  refine J_g 16025 [] [(6,rr 1 x23),(25,sl 1 (eSl false 7 Term.enc) a1),(26,iv (a1.length:Int)),(27,iv s19.2)] [(1,rE 7 Term.enc x23)] (zF 2 (zHB 80 80 104 104 7 64 1 0 Term.enc (.tmp 31) (.tmp 32) h24) zB) ?_
  refine J_d 4007 [] [27] [(27,iv (w64 (s19.2+1)))] [] [] zB ?_
  refine vJ 1 0 (Nat.le_of_ble_eq_true rfl) (Nat.le_of_ble_eq_true rfl) ?_
  exact J_q (J_b (ih (x23,w64 (s19.2+1)))) rfl
 ·exact yO (hk s19.1) rfl
theorem vZ.ok (a1:(List (List Term))) (q:Wd) (kn:Int→Option (D×List Ent)) (hk:∀v:Int,J (q.g Tryz.prog 123 0 36) zLz (atI zLz 15) (St.mk' [(0,sl 1 (eSl false 7 Term.enc) a1),(3,iv v)] []) (some v) kn):
  ∀s6:(Int×Int),J (q.g Tryz.prog 123 0 36) zLz (atI zLz 116) (St.mk' [(0,sl 1 (eSl false 7 Term.enc) a1),(3,iv s6.1),(9,sl 1 (eSl false 7 Term.enc) a1),(10,iv (a1.length:Int)),(11,iv s6.2)] []) (vZ a1 s6) kn:=by
 refine kT (fun g ih s6=>?_)
 unfold vR
 refine J_d 232 [] [12] [(12,bv (decide (s6.2< (a1.length:Int))))] [] [] zB ?_
 refine zG 12 (fun h7=>?_) (fun h7=>?_)
 ·refine zA (fun x8 h9=>?_)
  refine J_g 3736 [] [(0,sl 1 (eSl false 7 Term.enc) a1),(3,iv s6.1),(5,sl 7 Term.enc x8),(9,sl 1 (eSl false 7 Term.enc) a1),(10,iv (a1.length:Int)),(11,iv s6.2)] [] (zF 0 (tC (kk:=.i64) 89 80 1 (eSl false 7 Term.enc) (.tmp 9) (.tmp 11) h9) zB) ?_
  refine J_g 7474 [] [(0,sl 1 (eSl false 7 Term.enc) a1),(3,iv (w64 (s6.1+(x8.length:Int)))),(9,sl 1 (eSl false 7 Term.enc) a1),(10,iv (a1.length:Int)),(11,iv s6.2)] [] zB ?_
  refine J_d 14950 [] [20] [(20,bv (decide ((w64 (s6.1+(x8.length:Int)))<0)))] [] [] zB ?_
  refine zG 20 (fun h10=>?_) (fun h10=>?_)
  ·exact zIQ
  ·refine J_d 935 [] [11,20] [(11,iv (w64 (s6.2+1)))] [] [] zB ?_
   exact J_q (J_b (ih (w64 (s6.1+(x8.length:Int)),w64 (s6.2+1)))) rfl
 ·exact yO (hk s6.1) rfl
theorem vI.ok (a1:(List (List Term))):Ok Tryz.prog 123 [sl 1 (eSl false 7 Term.enc) a1] [] ((vI a1).map fun r=>(so 7 Term.enc r,[])):=by
 refine zH zLz Tryz.f123 0 36 (fun q=>?_)
 unfold vI
 refine J_g 2 [] [(0,sl 1 (eSl false 7 Term.enc) a1)] [] zB ?_
 refine J_g 6 [] [(0,sl 1 (eSl false 7 Term.enc) a1),(3,iv 0)] [] zB ?_
 refine J_d 28 [] [9,10,11] [(9,sl 1 (eSl false 7 Term.enc) a1),(10,iv (a1.length:Int)),(11,iv 0)] [] [] zB ?_
 refine zEa (vZ.ok a1 q _ (fun v11=>J_j ?_) (0,0))
 refine zA (fun x12 h13=>?_)
 refine J_g 30 [] [(0,sl 1 (eSl false 7 Term.enc) a1),(6,rr 0 x12)] [(0,rE 7 Term.enc x12)] (zF 1 (wQ («as»:=[nv,iv v11]) [(.const (.slice none 0 0)),(.tmp 23)] [80,3] false [] [] (.cons (.same rfl) (.cons (.same rfl) (.nil))) (kH.ok v11) h13 (.own 0)) zB) ?_
 refine J_d 124 [] [0,25,26,27] [(25,sl 1 (eSl false 7 Term.enc) a1),(26,iv (a1.length:Int)),(27,iv 0)] [] [] zB ?_
 refine zEa (vY.ok a1 q _ (fun v25=>J_j ?_) (x12,0))
 refine J_g 126 [] [(2,rr 0 v25)] [(0,rE 7 Term.enc v25)] zB ?_
 exact zDJ (ds:=[rr 0 v25]) (ds':=[so 7 Term.enc v25]) (.cons (.cell (.move (.head _) (List.length_map _) (by decide) (.nil))) (.nil) (by decide)) rfl
noncomputable def c76:Code:=(Tryz.f76.body).getD .skip
theorem jO.ok (x4:(List Term)) (q:Wd) (kn:(List ByteArray)→Option (D×List Ent)) (hk:∀v:(List ByteArray),J (q.g Tryz.prog 76 0 26) c76 (atI c76 15) (St.mk' [(3,rr 1 v)] [(1,rE 1 eStr v)]) (some v) kn):
  ∀s11:((List ByteArray)×Int),J (q.g Tryz.prog 76 0 26) c76 (atI c76 116) (St.mk' [(3,rr 1 s11.1),(12,rr 3 x4),(13,iv (x4.length:Int)),(14,iv s11.2)] [(1,rE 1 eStr s11.1),(3,rE 7 Term.enc x4)]) (jO x4 s11) kn:=by
 refine kT (fun g ih s11=>?_)
 unfold jG
 refine J_d 232 [] [15] [(15,bv (decide (s11.2< (x4.length:Int))))] [] [] zB ?_
 refine zG 15 (fun h12=>?_) (fun h12=>?_)
 ·refine zA (fun x13 h14=>?_)
  refine J_d 3736 [(2,4)] [5,15] [(5,pp 4)] [4] [(4,.box (Term.enc x13))] (zF 0 (zAf (kk:=.i64) 80 104 7 3 Term.enc (.tmp 12) (.tmp 14) h14) (zF 1 (zAi (d:=.ag (Term.enc x13)) 104 7 3 0 Term.enc (.tmp 16) h14 (by kernel_rfl)) zB)) ?_
  refine zA (fun x15 h16=>?_)
  refine J_g 3737 [] [(3,rr 6 x15),(12,rr 3 x4),(13,iv (x4.length:Int)),(14,iv s11.2)] [(3,rE 7 Term.enc x4),(6,rE 1 eStr x15)] (zF 3 (zA2 32 9 1 5 eStr [x13.Name] [0] [(.tmp 20)] [sv x13.Name]) (zF 4 (zEk 32 32 9 9 1 16 6 1 5 eStr (.tmp 18) (.tmp 21) h16) zB)) ?_
  refine J_d 935 [] [14] [(14,iv (w64 (s11.2+1)))] [] [] zB ?_
  refine vJ 6 1 (Nat.le_of_ble_eq_true rfl) (Nat.le_of_ble_eq_true rfl) ?_
  exact J_q (J_b (ih (x15,w64 (s11.2+1)))) rfl
 ·exact yO (hk s11.1) rfl
theorem vC.ok (a1:Pack):Ok Tryz.prog 76 [.ag (Pack.enc false a1)] [] ((vC a1).map fun r=>(so 1 eStr r,[])):=by
 refine zH c76 Tryz.f76 0 26 (fun q=>?_)
 unfold vC
 refine J_g 2 [(0,0)] [(1,pp 0)] [(0,.box (Pack.enc false a1))] zB ?_
 refine J_d 6 [] [3] [(3,rr 1 ([]:List ByteArray))] [1] [(1,rE 1 eStr ([]:List ByteArray))] (zF 0 (zA2 32 9 1 1 eStr ([]:List ByteArray) [] [] []) zB) ?_
 refine zA (fun x2 h3=>?_)
 refine zA (fun x4 h5=>?_)
 refine J_d 28 [] [1,12,13,14] [(12,rr 3 x4),(13,iv (x4.length:Int)),(14,iv 0)] [0,3] [(3,rE 7 Term.enc x4)] (zF 2 (wQ («as»:=[sl 1 (eSl false 7 Term.enc) a1.Needs]) [(.tmp 8)] [89] false [] [] (.cons (.same rfl) (.nil)) (vI.ok a1.Needs) h3 (.own 2)) (zF 5 (zHB 80 80 104 104 7 64 3 2 Term.enc (.tmp 9) (.tmp 11) h5) zB)) ?_
 refine zEa (jO.ok x4 q _ (fun v17=>J_j ?_) (([]:List ByteArray),0))
 refine zA (fun x18 h19=>?_)
 refine J_g 30 [] [(2,rr 2 x18)] [(2,rE 1 eStr x18)] (zF 1 (wQ («as»:=[rr 1 v17]) [(.tmp 24)] [32] false [(1,rE 1 eStr v17)] [1] (.cons (.rf rfl) (.nil)) (uH.ok v17) h19 (.own 2)) zB) ?_
 exact zDJ (ds:=[rr 2 x18]) (ds':=[so 1 eStr x18]) (.cons (.cell (.move (.head _) (List.length_map _) (by decide) (.nil))) (.nil) (by decide)) rfl
noncomputable def c77:Code:=(Tryz.f77.body).getD .skip
theorem uJ.ok (a1:ByteArray) (a2:(List ByteArray)):Ok Tryz.prog 77 [sv a1,pp 0] [.box [sl 1 eStr a2]] ((uJ a1 a2).map fun r=>(bv r,[.box [sl 1 eStr a2]])):=by
 refine zH c77 Tryz.f77 1 7 (fun q=>?_)
 unfold uJ
 refine J_d 2 [] [] [] [] [] zB ?_
 refine zA (fun x3 h4=>?_)
 refine J_d 6 [] [0,1,3] [(3,bv x3)] [] [] (zF 2 (vM [(.tmp 4),(.tmp 5)] [32,9] (yP.ok a2 a1) h4) zB) ?_
 exact xR rfl
noncomputable def zKQ:Code:=(Tryz.f122.body).getD .skip
theorem xQ.ok (a1:(List ByteArray)) (a2:(List ByteArray)) (q:Wd) (kn:Unit→Option (D×List Ent)) (hk:∀v:Unit,J (q.g Tryz.prog 122 2 19) zKQ (atI zKQ 7) (St.mk' [] [(0,rE 1 eStr a1),(1,.box [sl 1 eStr a2])]) (some v) kn):
  ∀s9:Int,J (q.g Tryz.prog 122 2 19) zKQ (atI zKQ 52) (St.mk' [(0,rr 0 a1),(1,.fn 77 [pp 1]),(7,iv (a1.length:Int)),(8,iv s9)] [(0,rE 1 eStr a1),(1,.box [sl 1 eStr a2])]) (xQ a1 a2 s9) (Fl.go (fun r:Int=>some (iv r,[rE 1 eStr a1,.box [sl 1 eStr a2]])) kn):=by
 refine kT (fun g ih s9=>?_)
 unfold yI
 refine J_d 104 [] [9] [(9,bv (decide (s9< (a1.length:Int))))] [] [] zB ?_
 refine zG 9 (fun h10=>?_) (fun h10=>?_)
 ·refine J_d 1688 [] [5,9] [(5,iv s9)] [] [] zB ?_
  refine zA (fun x11 h12=>?_)
  refine zA (fun x13 h14=>?_)
  refine J_d 3378 [] [16] [(16,bv x13)] [] [] (zF 3 (zAf (kk:=.i64) 32 9 1 0 eStr (.tmp 12) (.tmp 13) h12) (zF 4 (zAi (d:=sv x11) 9 1 0 0 eStr (.tmp 14) h12 (by kernel_rfl)) (zF 5 (zEm [(1,.box [sl 1 eStr a2])] [] (zEf 11 [(.tmp 15)] [9] false [(1,.box [sl 1 eStr a2])] [1] [sv x11] [pp 1] (.cons (.same rfl) (.cons (.pt rfl) (.nil))) (uJ.ok x11 a2) h14 (.same rfl rfl))) zB))) ?_
  refine zG 16 (fun h15=>?_) (fun h15=>?_)
  ·refine J_d 13516 [] [0,1,4,5,7,8,16] [(4,iv s9)] [] [] zB ?_
   exact xR rfl
  ·refine J_d 423 [] [5,8,16] [(8,iv (w64 (s9+1)))] [] [] zB ?_
   exact J_q (J_b (ih (w64 (s9+1)))) rfl
 ·exact yO (hk ()) rfl
theorem yU.ok (a1:(List ByteArray)) (a2:(List ByteArray)):Ok Tryz.prog 122 [rr 0 a1,.fn 77 [pp 1]] [rE 1 eStr a1,.box [sl 1 eStr a2]] ((yU a1 a2).map fun r=>(iv r,[rE 1 eStr a1,.box [sl 1 eStr a2]])):=by
 refine zH zKQ Tryz.f122 2 19 (fun q=>?_)
 unfold yU
 refine J_g 2 [] [(0,rr 0 a1),(1,.fn 77 [pp 1])] [(0,rE 1 eStr a1),(1,.box [sl 1 eStr a2])] zB ?_
 refine J_d 12 [] [7,8] [(7,iv (a1.length:Int)),(8,iv 0)] [] [] zB ?_
 refine jS (K0:=(fun r:Int=>some (iv r,[rE 1 eStr a1,.box [sl 1 eStr a2]]))) (fun _=>rfl) (xQ.ok a1 a2 q _ (fun v16=>J_j ?_) 0)
 refine J_d 14 [] [4] [(4,iv (-1))] [] [] zB ?_
 exact xR rfl
noncomputable def c75:Code:=(Tryz.f75.body).getD .skip
theorem zW.ok (a1:(List ByteArray)) (a2:(List ByteArray)):Ok Tryz.prog 75 [rr 0 a1,.fn 77 [pp 1]] [rE 1 eStr a1,.box [sl 1 eStr a2]] ((zW a1 a2).map fun r=>(bv r,[rE 1 eStr a1,.box [sl 1 eStr a2]])):=by
 refine zH c75 Tryz.f75 2 9 (fun q=>?_)
 unfold zW
 refine J_d 2 [] [] [] [] [] zB ?_
 refine zA (fun x3 h4=>?_)
 refine J_d 6 [] [0,1,4] [(4,bv (decide (x3≥0)))] [] [] (zF 2 (zEm [(0,rE 1 eStr a1),(1,.box [sl 1 eStr a2])] [] (wQ («as»:=[rr 0 a1,.fn 77 [pp 1]]) [(.tmp 5),(.tmp 6)] [32,99] false [(0,rE 1 eStr a1),(1,.box [sl 1 eStr a2])] [0,1] (.cons (.rf rfl) (.cons (.fn (.cons (.pt rfl) (.nil))) (.nil))) (yU.ok a1 a2) h4 (.same rfl rfl))) zB) ?_
 exact xR rfl
noncomputable def c74:Code:=(Tryz.f74.body).getD .skip
theorem jC.ok (a1:Pack) (a2:(List ByteArray)):Ok Tryz.prog 74 [.ag (Pack.enc false a1),pp 0] [.box [sl 1 eStr a2]] ((jC a1 a2).map fun r=>(bv r,[.box [sl 1 eStr a2]])):=by
 refine zH c74 Tryz.f74 1 8 (fun q=>?_)
 unfold jC
 refine J_d 2 [(0,1)] [0,2] [(2,pp 1)] [1] [(1,.box (Pack.enc false a1))] zB ?_
 refine zA (fun x3 h4=>?_)
 refine zA (fun x5 h6=>?_)
 refine J_g 6 [] [(3,bv x5)] [(0,.box [sl 1 eStr a2])] (zF 1 (wQ («as»:=[.ag (Pack.enc false a1)]) [(.tmp 4)] [91] false [] [] (.cons (.same rfl) (.nil)) (vC.ok a1) h4 (.own 2)) (zF 3 (zEm [(2,rE 1 eStr x3),(0,.box [sl 1 eStr a2])] [] (wQ («as»:=[rr 2 x3,.fn 77 [pp 0]]) [(.tmp 5),(.tmp 6)] [32,99] false [(2,rE 1 eStr x3),(0,.box [sl 1 eStr a2])] [2,0] (.cons (.rf rfl) (.cons (.fn (.cons (.pt rfl) (.nil))) (.nil))) (zW.ok x3 a2) h6 (.same rfl rfl))) zB)) ?_
 exact xR rfl
theorem xO.ok (a1:(List Pack)) (a2:(List ByteArray)) (q:Wd) (kn:Unit→Option (D×List Ent)) (hk:∀v:Unit,J (q.g Tryz.prog 121 2 19) zKP (atI zKP 7) (St.mk' [] [(0,rE 8 (Pack.enc false) a1),(1,.box [sl 1 eStr a2])]) (some v) kn):
  ∀s9:Int,J (q.g Tryz.prog 121 2 19) zKP (atI zKP 52) (St.mk' [(0,rr 0 a1),(1,.fn 74 [pp 1]),(7,iv (a1.length:Int)),(8,iv s9)] [(0,rE 8 (Pack.enc false) a1),(1,.box [sl 1 eStr a2])]) (xO a1 a2 s9) (Fl.go (fun r:Int=>some (iv r,[rE 8 (Pack.enc false) a1,.box [sl 1 eStr a2]])) kn):=by
 refine kT (fun g ih s9=>?_)
 unfold yJ
 refine J_d 104 [] [9] [(9,bv (decide (s9< (a1.length:Int))))] [] [] zB ?_
 refine zG 9 (fun h10=>?_) (fun h10=>?_)
 ·refine J_d 1688 [] [5,9] [(5,iv s9)] [] [] zB ?_
  refine zA (fun x11 h12=>?_)
  refine zA (fun x13 h14=>?_)
  refine J_d 3378 [] [16] [(16,bv x13)] [] [] (zF 3 (zAf (kk:=.i64) 24 91 8 0 (Pack.enc false) (.tmp 12) (.tmp 13) h12) (zF 4 (zAi (d:=.ag (Pack.enc false x11)) 91 8 0 0 (Pack.enc false) (.tmp 14) h12 (by kernel_rfl)) (zF 5 (zEm [(1,.box [sl 1 eStr a2])] [] (zEf 11 [(.tmp 15)] [91] false [(1,.box [sl 1 eStr a2])] [1] [.ag (Pack.enc false x11)] [pp 1] (.cons (.same rfl) (.cons (.pt rfl) (.nil))) (jC.ok x11 a2) h14 (.same rfl rfl))) zB))) ?_
  refine zG 16 (fun h15=>?_) (fun h15=>?_)
  ·refine J_d 13516 [] [0,1,4,5,7,8,16] [(4,iv s9)] [] [] zB ?_
   exact xR rfl
  ·refine J_d 423 [] [5,8,16] [(8,iv (w64 (s9+1)))] [] [] zB ?_
   exact J_q (J_b (ih (w64 (s9+1)))) rfl
 ·exact yO (hk ()) rfl
theorem yX.ok (a1:(List Pack)) (a2:(List ByteArray)):Ok Tryz.prog 121 [rr 0 a1,.fn 74 [pp 1]] [rE 8 (Pack.enc false) a1,.box [sl 1 eStr a2]] ((yX a1 a2).map fun r=>(iv r,[rE 8 (Pack.enc false) a1,.box [sl 1 eStr a2]])):=by
 refine zH zKP Tryz.f121 2 19 (fun q=>?_)
 unfold yX
 refine J_g 2 [] [(0,rr 0 a1),(1,.fn 74 [pp 1])] [(0,rE 8 (Pack.enc false) a1),(1,.box [sl 1 eStr a2])] zB ?_
 refine J_d 12 [] [7,8] [(7,iv (a1.length:Int)),(8,iv 0)] [] [] zB ?_
 refine jS (K0:=(fun r:Int=>some (iv r,[rE 8 (Pack.enc false) a1,.box [sl 1 eStr a2]]))) (fun _=>rfl) (xO.ok a1 a2 q _ (fun v16=>J_j ?_) 0)
 refine J_d 14 [] [4] [(4,iv (-1))] [] [] zB ?_
 exact xR rfl
noncomputable def c72:Code:=(Tryz.f72.body).getD .skip
theorem zU.ok (a1:(List Pack)) (a2:(List ByteArray)):Ok Tryz.prog 72 [rr 0 a1,.fn 74 [pp 1]] [rE 8 (Pack.enc false) a1,.box [sl 1 eStr a2]] ((zU a1 a2).map fun r=>(bv r,[rE 8 (Pack.enc false) a1,.box [sl 1 eStr a2]])):=by
 refine zH c72 Tryz.f72 2 9 (fun q=>?_)
 unfold zU
 refine J_d 2 [] [] [] [] [] zB ?_
 refine zA (fun x3 h4=>?_)
 refine J_d 6 [] [0,1,4] [(4,bv (decide (x3≥0)))] [] [] (zF 2 (zEm [(0,rE 8 (Pack.enc false) a1),(1,.box [sl 1 eStr a2])] [] (wQ («as»:=[rr 0 a1,.fn 74 [pp 1]]) [(.tmp 5),(.tmp 6)] [24,100] false [(0,rE 8 (Pack.enc false) a1),(1,.box [sl 1 eStr a2])] [0,1] (.cons (.rf rfl) (.cons (.fn (.cons (.pt rfl) (.nil))) (.nil))) (yX.ok a1 a2) h4 (.same rfl rfl))) zB) ?_
 exact xR rfl
noncomputable def c71:Code:=(Tryz.f71.body).getD .skip
theorem vB.ok (a1:ByteArray) (a2:(List ByteArray)) (a3:(List Pack)) (a4:(List Int)) (a5:(List Int)):Ok Tryz.prog 71 [sv a1,sl 1 eStr a2,pp 0,pp 1,pp 2] [.box [sl 8 (Pack.enc false) a3],.box [sl 1 zC a4],.box [sl 1 zC a5]] ((vB a1 a2 a3 a4 a5).map fun r=>(bv r,[.box [sl 8 (Pack.enc false) a3],.box [sl 1 zC a4],.box [sl 1 zC a5]])):=by
 refine zH c71 Tryz.f71 3 15 (fun q=>?_)
 unfold vB
 refine J_d 2 [(0,3)] [1,6] [(6,pp 3)] [3] [(3,.box [sl 1 eStr a2])] zB ?_
 refine zA (fun x6 h7=>?_)
 refine zA (fun x8 h9=>?_)
 refine J_d 6 [] [0,2,3,4,6,7] [(7,bv x8)] [3] [] (zF 4 (wQ («as»:=[sl 8 (Pack.enc false) a3,sl 1 zC a4,sl 1 zC a5,sv a1]) [(.tmp 8),(.tmp 9),(.tmp 10),(.tmp 11)] [24,25,25,9] false [] [] (.cons (.same rfl) (.cons (.same rfl) (.cons (.same rfl) (.cons (.same rfl) (.nil))))) (jM.ok a3 a4 a5 a1) h7 (.own 4)) (zF 6 (zEm [(4,rE 8 (Pack.enc false) x6),(3,.box [sl 1 eStr a2])] [] (wQ («as»:=[rr 4 x6,.fn 74 [pp 3]]) [(.tmp 12),(.tmp 13)] [24,100] false [(4,rE 8 (Pack.enc false) x6),(3,.box [sl 1 eStr a2])] [4,3] (.cons (.rf rfl) (.cons (.fn (.cons (.pt rfl) (.nil))) (.nil))) (zU.ok x6 a2) h9 (.same rfl rfl))) zB)) ?_
 exact xR rfl
noncomputable def c80:Code:=(Tryz.f80.body).getD .skip
theorem jA.ok (a1:Term) (a2:(List ByteArray)):Ok Tryz.prog 80 [.ag (Term.enc a1),pp 0] [.box [sl 1 eStr a2]] ((jA a1 a2).map fun r=>(bv r,[.box [sl 1 eStr a2]])):=by
 refine zH c80 Tryz.f80 1 8 (fun q=>?_)
 unfold jA
 refine J_d 2 [(0,1)] [0,2] [(2,pp 1)] [1] [(1,.box (Term.enc a1))] zB ?_
 refine zA (fun x3 h4=>?_)
 refine J_g 6 [] [(3,bv x3)] [(0,.box [sl 1 eStr a2])] (zF 3 (vM [(.tmp 4),(.tmp 6)] [32,9] (yP.ok a2 a1.Name) h4) zB) ?_
 exact xR rfl
noncomputable def c124:Code:=(Tryz.f124.body).getD .skip
theorem xV.ok (a1:(List Term)) (a2:(List ByteArray)) (q:Wd) (kn:Unit→Option (D×List Ent)) (hk:∀v:Unit,J (q.g Tryz.prog 124 1 19) c124 (atI c124 7) (St.mk' [] [(0,.box [sl 1 eStr a2])]) (some v) kn):
  ∀s9:Int,J (q.g Tryz.prog 124 1 19) c124 (atI c124 52) (St.mk' [(0,sl 7 Term.enc a1),(1,.fn 80 [pp 0]),(7,iv (a1.length:Int)),(8,iv s9)] [(0,.box [sl 1 eStr a2])]) (xV a1 a2 s9) (Fl.go (fun r:Int=>some (iv r,[.box [sl 1 eStr a2]])) kn):=by
 refine kT (fun g ih s9=>?_)
 unfold yL
 refine J_d 104 [] [9] [(9,bv (decide (s9< (a1.length:Int))))] [] [] zB ?_
 refine zG 9 (fun h10=>?_) (fun h10=>?_)
 ·refine J_d 1688 [] [5,9] [(5,iv s9)] [] [] zB ?_
  refine zA (fun x11 h12=>?_)
  refine zA (fun x13 h14=>?_)
  refine J_d 3378 [] [16] [(16,bv x13)] [] [] (zF 3 (tC (kk:=.i64) 80 104 7 Term.enc (.tmp 12) (.tmp 13) h12) (zF 5 (zEm [(0,.box [sl 1 eStr a2])] [] (zEf 11 [(.tmp 15)] [104] false [(0,.box [sl 1 eStr a2])] [0] [.ag (Term.enc x11)] [pp 0] (.cons (.same rfl) (.cons (.pt rfl) (.nil))) (jA.ok x11 a2) h14 (.same rfl rfl))) zB)) ?_
  refine zG 16 (fun h15=>?_) (fun h15=>?_)
  ·refine J_g 13516 [] [(4,iv s9)] [(0,.box [sl 1 eStr a2])] zB ?_
   exact xR rfl
  ·refine J_d 423 [] [5,8,16] [(8,iv (w64 (s9+1)))] [] [] zB ?_
   exact J_q (J_b (ih (w64 (s9+1)))) rfl
 ·exact yO (hk ()) rfl
theorem yY.ok (a1:(List Term)) (a2:(List ByteArray)):Ok Tryz.prog 124 [sl 7 Term.enc a1,.fn 80 [pp 0]] [.box [sl 1 eStr a2]] ((yY a1 a2).map fun r=>(iv r,[.box [sl 1 eStr a2]])):=by
 refine zH c124 Tryz.f124 1 19 (fun q=>?_)
 unfold yY
 refine J_g 2 [] [(0,sl 7 Term.enc a1),(1,.fn 80 [pp 0])] [(0,.box [sl 1 eStr a2])] zB ?_
 refine J_d 12 [] [7,8] [(7,iv (a1.length:Int)),(8,iv 0)] [] [] zB ?_
 refine jS (K0:=(fun r:Int=>some (iv r,[.box [sl 1 eStr a2]]))) (fun _=>rfl) (xV.ok a1 a2 q _ (fun v16=>J_j ?_) 0)
 refine J_d 14 [] [4] [(4,iv (-1))] [] [] zB ?_
 exact xR rfl
noncomputable def c79:Code:=(Tryz.f79.body).getD .skip
theorem zX.ok (a1:(List Term)) (a2:(List ByteArray)):Ok Tryz.prog 79 [sl 7 Term.enc a1,.fn 80 [pp 0]] [.box [sl 1 eStr a2]] ((zX a1 a2).map fun r=>(bv r,[.box [sl 1 eStr a2]])):=by
 refine zH c79 Tryz.f79 1 9 (fun q=>?_)
 unfold zX
 refine J_d 2 [] [] [] [] [] zB ?_
 refine zA (fun x3 h4=>?_)
 refine J_d 6 [] [0,1,4] [(4,bv (decide (x3≥0)))] [] [] (zF 2 (zEm [(0,.box [sl 1 eStr a2])] [] (wQ («as»:=[sl 7 Term.enc a1,.fn 80 [pp 0]]) [(.tmp 5),(.tmp 6)] [80,105] false [(0,.box [sl 1 eStr a2])] [0] (.cons (.same rfl) (.cons (.fn (.cons (.pt rfl) (.nil))) (.nil))) (yY.ok a1 a2) h4 (.same rfl rfl))) zB) ?_
 exact xR rfl
noncomputable def c78:Code:=(Tryz.f78.body).getD .skip
theorem wZ.ok (a1:(List ByteArray)) (a2:(List Term)):Ok Tryz.prog 78 [sl 1 eStr a1,pp 0] [.box [sl 7 Term.enc a2]] ((wZ a1 a2).map fun r=>(bv r,[.box [sl 7 Term.enc a2]])):=by
 refine zH c78 Tryz.f78 1 7 (fun q=>?_)
 unfold wZ
 refine J_d 2 [(0,1)] [0,2] [(2,pp 1)] [1] [(1,.box [sl 1 eStr a1])] zB ?_
 refine zA (fun x3 h4=>?_)
 refine J_d 6 [] [1,2,3] [(3,bv x3)] [1] [] (zF 2 (zEm [(1,.box [sl 1 eStr a1])] [] (wQ («as»:=[sl 7 Term.enc a2,.fn 80 [pp 1]]) [(.tmp 4),(.tmp 5)] [80,105] false [(1,.box [sl 1 eStr a1])] [1] (.cons (.same rfl) (.cons (.fn (.cons (.pt rfl) (.nil))) (.nil))) (zX.ok a2 a1) h4 (.same rfl rfl))) zB) ?_
 exact xR rfl
noncomputable def c36:Code:=(Tryz.f36.body).getD .skip
theorem zAp.ok (a1:(List Pack)) (x6:(List ByteArray)) (x8:(List ByteArray)) (x17:(List Int)) (s46:Int) (x50:Pack) (q:Wd) (kn:Unit→Option (D×List Ent)) (hk:∀v:Unit,J (q.g Tryz.prog 36 0 70) c36 (aft c36 8012) (St.mk' [(5,pp 0),(11,sl 1 eStr x6),(12,sl 1 eStr x8),(43,rr 4 x17),(44,iv (x17.length:Int)),(45,iv s46)] [(0,.box [sl 8 (Pack.enc false) a1]),(4,rE 1 zC x17)]) (some v) kn):
  ∀s62:Int,J (q.g Tryz.prog 36 0 70) c36 (atI c36 128204) (St.mk' [(5,pp 0),(11,sl 1 eStr x6),(12,sl 1 eStr x8),(43,rr 4 x17),(44,iv (x17.length:Int)),(45,iv s46),(53,sl 1 (eSl false 7 Term.enc) x50.Needs),(54,iv (x50.Needs.length:Int)),(55,iv s62)] [(0,.box [sl 8 (Pack.enc false) a1]),(4,rE 1 zC x17)]) (zAp a1 x6 x8 x17 s46 x50 s62) (Fl.go (fun r:Bool=>some (bv r,[])) kn):=by
 refine kT (fun g ih s62=>?_)
 unfold kJ
 refine J_d 256408 [] [56] [(56,bv (decide (s62< (x50.Needs.length:Int))))] [] [] zB ?_
 refine zG 56 (fun h63=>?_) (fun h63=>?_)
 ·refine zA (fun x64 h65=>?_)
  refine J_g 4102552 [(2,5)] [(5,pp 0),(11,sl 1 eStr x6),(12,sl 1 eStr x8),(17,pp 5),(43,rr 4 x17),(44,iv (x17.length:Int)),(45,iv s46),(53,sl 1 (eSl false 7 Term.enc) x50.Needs),(54,iv (x50.Needs.length:Int)),(55,iv s62)] [(0,.box [sl 8 (Pack.enc false) a1]),(4,rE 1 zC x17),(5,.box [sl 7 Term.enc x64])] (zF 0 (tC (kk:=.i64) 89 80 1 (eSl false 7 Term.enc) (.tmp 53) (.tmp 55) h65) zB) ?_
  refine J_d 8205106 [] [17,18] [(18,.fn 78 [pp 5])] [] [] zB ?_
  refine zA (fun x66 h67=>?_)
  refine wC (atI c36 16410215) (fun v71:Bool=>St.mk' [(5,pp 0),(11,sl 1 eStr x6),(12,sl 1 eStr x8),(43,rr 4 x17),(44,iv (x17.length:Int)),(45,iv s46),(53,sl 1 (eSl false 7 Term.enc) x50.Needs),(54,iv (x50.Needs.length:Int)),(55,iv s62),(67,bv v71)] [(0,.box [sl 8 (Pack.enc false) a1]),(4,rE 1 zC x17)]) (fun v71=>?_) (fun jv71=>?_)
  ·refine zG 67 (fun h72=>?_) (fun h72=>?_)
   ·refine J_g 65640860 [] [(10,bv true)] [] zB ?_
    exact xR rfl
   ·refine J_d 1025639 [] [55,67] [(55,iv (w64 (s62+1)))] [] [] zB ?_
    exact J_q (J_b (ih (w64 (s62+1)))) rfl
  ·refine vV (fun h68=>?_) (fun h68=>?_)
   ·refine zA (fun x69 h70=>?_)
    refine J_d 16410214 [] [18,67] [(67,bv x69)] [5] [] (zF 2 (zEm [(5,.box [sl 7 Term.enc x64])] [] (zEf 60 [(.tmp 61)] [32] false [(5,.box [sl 7 Term.enc x64])] [5] [sl 1 eStr x6] [pp 5] (.cons (.same rfl) (.cons (.pt rfl) (.nil))) (wZ.ok x6 x64) h67 (.same rfl rfl))) (vD 3 [(62,bv x66)] [] h68 (zBi 6 3 63 true (zEm [(5,.box [sl 7 Term.enc x64])] [] (zEf 64 [(.tmp 65)] [32] false [(5,.box [sl 7 Term.enc x64])] [5] [sl 1 eStr x8] [pp 5] (.cons (.same rfl) (.cons (.pt rfl) (.nil))) (wZ.ok x8 x64) h70 (.same rfl rfl))) zB))) ?_
    exact yO (J_j (jv71 x69)) rfl
   ·refine J_d 16410214 [] [18,67] [(67,bv false)] [5] [] (zF 2 (zEm [(5,.box [sl 7 Term.enc x64])] [] (zEf 60 [(.tmp 61)] [32] false [(5,.box [sl 7 Term.enc x64])] [5] [sl 1 eStr x6] [pp 5] (.cons (.same rfl) (.cons (.pt rfl) (.nil))) (wZ.ok x6 x64) h67 (.same rfl rfl))) (vD 3 [(62,bv x66)] [] h68 zB)) ?_
    exact yO (J_j (jv71 false)) rfl
 ·exact yO (hk ()) rfl
theorem zAw.ok (a1:(List Pack)) (x6:(List ByteArray)) (x8:(List ByteArray)) (x17:(List Int)) (q:Wd) (kn:Unit→Option (D×List Ent)) (hk:∀v:Unit,J (q.g Tryz.prog 36 0 70) c36 (atI c36 63) (St.mk' [] []) (some v) kn):
  ∀s46:Int,J (q.g Tryz.prog 36 0 70) c36 (atI c36 500) (St.mk' [(5,pp 0),(11,sl 1 eStr x6),(12,sl 1 eStr x8),(43,rr 4 x17),(44,iv (x17.length:Int)),(45,iv s46)] [(0,.box [sl 8 (Pack.enc false) a1]),(4,rE 1 zC x17)]) (zAw a1 x6 x8 x17 s46) (Fl.go (fun r:Bool=>some (bv r,[])) kn):=by
 refine kT (fun g ih s46=>?_)
 unfold jD
 refine J_d 1000 [] [46] [(46,bv (decide (s46< (x17.length:Int))))] [] [] zB ?_
 refine zG 46 (fun h47=>?_) (fun h47=>?_)
 ·refine zA (fun x48 h49=>?_)
  refine J_d 16024 [] [15,46] [(15,iv x48)] [] [] (zF 0 (zAf (kk:=.i64) 25 2 1 4 zC (.tmp 43) (.tmp 45) h49) (zF 1 (zAi (d:=iv x48) 2 1 4 0 zC (.tmp 47) h49 (by kernel_rfl)) zB)) ?_
  refine zA (fun x50 h51=>?_)
  refine J_d 32050 [] [15,53,54,55] [(53,sl 1 (eSl false 7 Term.enc) x50.Needs),(54,iv (x50.Needs.length:Int)),(55,iv 0)] [] [] (zF 2 (tC (kk:=.i64) 24 91 8 (Pack.enc false) (.tmp 49) (.tmp 50) h51) zB) ?_
  refine jS (K0:=(fun r:Bool=>some (bv r,[]))) (fun _=>rfl) (zAp.ok a1 x6 x8 x17 s46 x50 q _ (fun v73=>J_j ?_) 0)
  refine J_d 4007 [] [45] [(45,iv (w64 (s46+1)))] [] [] zB ?_
  exact J_q (J_b (ih (w64 (s46+1)))) rfl
 ·exact yO (hk ()) rfl
theorem wK.ok (a1:(List Pack)) (a2:(List Int)) (a3:(List Int)) (a4:ByteArray) (a5:ByteArray):Ok Tryz.prog 36 [sl 8 (Pack.enc false) a1,sl 1 zC a2,sl 1 zC a3,sv a4,sv a5] [] ((wK a1 a2 a3 a4 a5).map fun r=>(bv r,[])):=by
 refine zH c36 Tryz.f36 0 70 (fun q=>?_)
 unfold wK
 refine J_g 2 [(0,0),(1,1),(2,2)] [(3,sv a4),(4,sv a5),(5,pp 0),(6,pp 1),(7,pp 2)] [(0,.box [sl 8 (Pack.enc false) a1]),(1,.box [sl 1 zC a2]),(2,.box [sl 1 zC a3])] zB ?_
 refine zA (fun x6 h7=>?_)
 refine zA (fun x8 h9=>?_)
 refine J_g 6 [] [(3,sv a4),(4,sv a5),(5,pp 0),(6,pp 1),(7,pp 2),(11,rr 3 x6),(12,rr 4 x8)] [(0,.box [sl 8 (Pack.enc false) a1]),(1,.box [sl 1 zC a2]),(2,.box [sl 1 zC a3]),(3,rE 1 eStr x6),(4,rE 1 eStr x8)] (zF 4 (wQ («as»:=[sl 8 (Pack.enc false) a1,sl 1 zC a2,sl 1 zC a3,sv a4]) [(.tmp 19),(.tmp 20),(.tmp 21),(.tmp 22)] [24,25,25,9] false [] [] (.cons (.same rfl) (.cons (.same rfl) (.cons (.same rfl) (.cons (.same rfl) (.nil))))) (jR.ok a1 a2 a3 a4) h7 (.own 3)) (zF 9 (wQ («as»:=[sl 8 (Pack.enc false) a1,sl 1 zC a2,sl 1 zC a3,sv a5]) [(.tmp 24),(.tmp 25),(.tmp 26),(.tmp 27)] [24,25,25,9] false [] [] (.cons (.same rfl) (.cons (.same rfl) (.cons (.same rfl) (.cons (.same rfl) (.nil))))) (jR.ok a1 a2 a3 a5) h9 (.own 4)) zB)) ?_
 refine J_g 14 [] [(3,sv a4),(4,sv a5),(5,pp 0),(6,pp 1),(7,pp 2),(11,rr 3 x6),(12,rr 4 x8),(13,.fn 71 [pp 0,pp 1,pp 2])] [(0,.box [sl 8 (Pack.enc false) a1]),(1,.box [sl 1 zC a2]),(2,.box [sl 1 zC a3]),(3,rE 1 eStr x6),(4,rE 1 eStr x8)] zB ?_
 refine zA (fun x10 h11=>?_)
 refine zDK [(3,sv a4),(4,sv a5),(5,pp 0),(6,pp 1),(7,pp 2),(11,rr 3 x6),(12,rr 4 x8),(13,.fn 71 [pp 0,pp 1,pp 2])] [(4,rE 1 eStr x8),(0,.box [sl 8 (Pack.enc false) a1]),(1,.box [sl 1 zC a2]),(2,.box [sl 1 zC a3]),(3,rE 1 eStr x6)] (by kernel_rfl) ?_
 refine zF5 4 (z:=1) (xs:=x8.map eStr) (tm2:=[(3,sv a4),(4,sv a5),(5,pp 0),(6,pp 1),(7,pp 2),(11,rr 3 x6),(12,sl 1 eStr x8),(13,.fn 71 [pp 0,pp 1,pp 2])]) (hp2:=[(0,.box [sl 8 (Pack.enc false) a1]),(1,.box [sl 1 zC a2]),(2,.box [sl 1 zC a3]),(3,rE 1 eStr x6)]) (.cons (.keep rfl) (.cons (.keep rfl) (.cons (.keep rfl) (.cons (.keep rfl) (.cons (.keep rfl) (.cons (.keep rfl) (.cons (.rf (by simp) (zDY (enc:=eStr) (enc':=eStr) (fun _=>rfl) x8 rfl rfl)) (.cons (.keep rfl) (.nil))))))))) (.keep rfl (.keep rfl (.keep rfl (.keep rfl (.nil))))) rfl ?_
 refine wC (atI c36 61) (fun v15:Bool=>St.mk' [(5,pp 0),(6,pp 1),(7,pp 2),(11,sl 1 eStr x6),(12,sl 1 eStr x8),(39,bv v15)] [(0,.box [sl 8 (Pack.enc false) a1]),(1,.box [sl 1 zC a2]),(2,.box [sl 1 zC a3])]) (fun v15=>?_) (fun jv15=>?_)
 ·refine zG 39 (fun h16=>?_) (fun h16=>?_)
  ·refine J_g 244 [] [(10,bv true)] [] zB ?_
   exact xR rfl
  ·refine zA (fun x17 h18=>?_)
   refine J_d 124 [] [6,7,39,43,44,45] [(43,rr 4 x17),(44,iv (x17.length:Int)),(45,iv 0)] [1,2,4] [(4,rE 1 zC x17)] (zF 2 (zA2 46 25 1 3 (eSl false 1 zC) [a2,a3] [0,1] [(.tmp 40),(.tmp 41)] [sl 1 zC a2,sl 1 zC a3]) (zF 3 (wQ («as»:=[rr 3 [a2,a3]]) [(.tmp 42)] [46] true [(3,rE 1 (eSl false 1 zC) [a2,a3])] [] (.cons (zDH (.head _) (zDR (fun _=>rfl)) rfl) (.nil)) (wT.ok [a2,a3]) h18 (.own 4) (hbor:=fun _=>⟨fhN,(zD4 (zEz (fun _=>(flatK xH zDW)) _))⟩)) zB)) ?_
   refine jS (K0:=(fun r:Bool=>some (bv r,[]))) (fun _=>rfl) (zAw.ok a1 x6 x8 x17 q _ (fun v74=>J_j ?_) 0)
   refine J_g 126 [] [(10,bv false)] [] zB ?_
   exact xR rfl
 ·refine vV (fun h12=>?_) (fun h12=>?_)
  ·refine J_d 60 [] [3,4,13,39] [(39,bv true)] [] [] (zF 3 (zEm [(0,.box [sl 8 (Pack.enc false) a1]),(1,.box [sl 1 zC a2]),(2,.box [sl 1 zC a3])] [] (zEf 30 [(.tmp 31),(.tmp 32)] [9,32] false [(0,.box [sl 8 (Pack.enc false) a1]),(1,.box [sl 1 zC a2]),(2,.box [sl 1 zC a3])] [0,1,2] [sv a4,sl 1 eStr x8] [pp 0,pp 1,pp 2] (.cons (.same rfl) (.cons (.same rfl) (.cons (.pt rfl) (.cons (.pt rfl) (.cons (.pt rfl) (.nil)))))) (vB.ok a4 x8 a1 a2 a3) h11 (.same rfl rfl))) (vD 4 [(33,bv x10)] [] h12 zB)) ?_
   refine zDK [(5,pp 0),(6,pp 1),(7,pp 2),(11,rr 3 x6),(12,sl 1 eStr x8),(39,bv true)] [(3,rE 1 eStr x6),(0,.box [sl 8 (Pack.enc false) a1]),(1,.box [sl 1 zC a2]),(2,.box [sl 1 zC a3])] (by kernel_rfl) ?_
   refine zF5 3 (z:=1) (xs:=x6.map eStr) (tm2:=[(5,pp 0),(6,pp 1),(7,pp 2),(11,sl 1 eStr x6),(12,sl 1 eStr x8),(39,bv true)]) (hp2:=[(0,.box [sl 8 (Pack.enc false) a1]),(1,.box [sl 1 zC a2]),(2,.box [sl 1 zC a3])]) (.cons (.keep rfl) (.cons (.keep rfl) (.cons (.keep rfl) (.cons (.rf (by simp) (zDY (enc:=eStr) (enc':=eStr) (fun _=>rfl) x6 rfl rfl)) (.cons (.keep rfl) (.cons (.keep rfl) (.nil))))))) (.keep rfl (.keep rfl (.keep rfl (.nil)))) rfl ?_
   exact yO (J_j (jv15 true)) rfl
  ·refine zA (fun x13 h14=>?_)
   refine zDK [(3,sv a4),(4,sv a5),(5,pp 0),(6,pp 1),(7,pp 2),(11,rr 3 x6),(12,sl 1 eStr x8),(13,.fn 71 [pp 0,pp 1,pp 2])] [(3,rE 1 eStr x6),(0,.box [sl 8 (Pack.enc false) a1]),(1,.box [sl 1 zC a2]),(2,.box [sl 1 zC a3])] (by kernel_rfl) ?_
   refine zF5 3 (z:=1) (xs:=x6.map eStr) (tm2:=[(3,sv a4),(4,sv a5),(5,pp 0),(6,pp 1),(7,pp 2),(11,sl 1 eStr x6),(12,sl 1 eStr x8),(13,.fn 71 [pp 0,pp 1,pp 2])]) (hp2:=[(0,.box [sl 8 (Pack.enc false) a1]),(1,.box [sl 1 zC a2]),(2,.box [sl 1 zC a3])]) (.cons (.keep rfl) (.cons (.keep rfl) (.cons (.keep rfl) (.cons (.keep rfl) (.cons (.keep rfl) (.cons (.rf (by simp) (zDY (enc:=eStr) (enc':=eStr) (fun _=>rfl) x6 rfl rfl)) (.cons (.keep rfl) (.cons (.keep rfl) (.nil))))))))) (.keep rfl (.keep rfl (.keep rfl (.nil)))) rfl ?_
   refine J_d 60 [] [3,4,13,39] [(39,bv x13)] [] [] (zF 3 (zEm [(0,.box [sl 8 (Pack.enc false) a1]),(1,.box [sl 1 zC a2]),(2,.box [sl 1 zC a3])] [] (zEf 30 [(.tmp 31),(.tmp 32)] [9,32] false [(0,.box [sl 8 (Pack.enc false) a1]),(1,.box [sl 1 zC a2]),(2,.box [sl 1 zC a3])] [0,1,2] [sv a4,sl 1 eStr x8] [pp 0,pp 1,pp 2] (.cons (.same rfl) (.cons (.same rfl) (.cons (.pt rfl) (.cons (.pt rfl) (.cons (.pt rfl) (.nil)))))) (vB.ok a4 x8 a1 a2 a3) h11 (.same rfl rfl))) (vD 4 [(33,bv x10)] [] h12 (zBi 8 4 34 false (zEm [(0,.box [sl 8 (Pack.enc false) a1]),(1,.box [sl 1 zC a2]),(2,.box [sl 1 zC a3])] [] (zEf 35 [(.tmp 36),(.tmp 37)] [9,32] false [(0,.box [sl 8 (Pack.enc false) a1]),(1,.box [sl 1 zC a2]),(2,.box [sl 1 zC a3])] [0,1,2] [sv a5,sl 1 eStr x6] [pp 0,pp 1,pp 2] (.cons (.same rfl) (.cons (.same rfl) (.cons (.pt rfl) (.cons (.pt rfl) (.cons (.pt rfl) (.nil)))))) (vB.ok a5 x6 a1 a2 a3) h14 (.same rfl rfl))) zB))) ?_
   exact yO (J_j (jv15 x13)) rfl
noncomputable def c31:Code:=(Tryz.f31.body).getD .skip
theorem zBp.ok (a1:(List Pack)) (a2:(List Int)) (a3:(List Int)) (s133:((List (List ByteArray))×(List ByteArray))) (s226:((List ByteArray)×(List ByteArray)×Int)) (q:Wd) (kn:((List ByteArray)×(List ByteArray))→Option (D×List Ent)) (hk:∀v:((List ByteArray)×(List ByteArray)),J (q.g Tryz.prog 31 0 64) c31 (atI c31 464531) (St.mk' [(0,sl 8 (Pack.enc false) a1),(1,sl 1 zC a2),(2,sl 1 zC a3),(7,rr 0 s133.1),(9,rr 2 v.1),(10,iv s226.2.2),(11,rr 4 v.2)] [(0,rE 1 (eSl true 1 eStr) s133.1),(2,rE 1 eStr v.1),(4,rE 1 eStr v.2)]) (some v) kn):
  ∀s241:((List ByteArray)×(List ByteArray)×Int),J (q.g Tryz.prog 31 0 64) c31 (atI c31 3716244) (St.mk' [(0,sl 8 (Pack.enc false) a1),(1,sl 1 zC a2),(2,sl 1 zC a3),(7,rr 0 s133.1),(9,rr 2 s241.1),(10,iv s226.2.2),(11,rr 4 s241.2.1),(33,rr 3 s226.1),(34,iv (s226.1.length:Int)),(35,iv s241.2.2)] [(0,rE 1 (eSl true 1 eStr) s133.1),(2,rE 1 eStr s241.1),(3,rE 1 eStr s226.1),(4,rE 1 eStr s241.2.1)]) (zBp a1 a2 a3 s133 s226 s241) kn:=by
 refine kT (fun g ih s241=>?_)
 unfold zBW
 refine J_d 7432488 [] [36] [(36,bv (decide (s241.2.2< (s226.1.length:Int))))] [] [] zB ?_
 refine zG 36 (fun h242=>?_) (fun h242=>?_)
 ·refine zA (fun x243 h244=>?_)
  refine J_d 118919832 [] [13,36] [(13,sv x243)] [] [] (zF 0 (zAf (kk:=.i64) 32 9 1 3 eStr (.tmp 33) (.tmp 35) h244) (zF 1 (zAi (d:=sv x243) 9 1 3 0 eStr (.tmp 37) h244 (by kernel_rfl)) zB)) ?_
  refine zA (fun x245 h246=>?_)
  refine zA (fun x247 h248=>?_)
  refine J_d 237839666 [] [47] [(47,bv x247)] [] [] (zF 5 (zAf (kk:=.i64) 32 9 1 2 eStr (.tmp 42) (.tmp 43) h246) (zF 6 (zAi (d:=sv x245) 9 1 2 0 eStr (.tmp 44) h246 (by kernel_rfl)) (zF 8 (vM [(.tmp 39),(.tmp 40),(.tmp 41),(.tmp 45),(.tmp 46)] [24,25,25,9,9] (wK.ok a1 a2 a3 x245 x243) h248) zB))) ?_
  refine wC (aft c31 59459916) (fun v254:((List ByteArray)×(List ByteArray))=>St.mk' [(0,sl 8 (Pack.enc false) a1),(1,sl 1 zC a2),(2,sl 1 zC a3),(7,rr 0 s133.1),(9,rr 6 v254.1),(10,iv s226.2.2),(11,rr 4 v254.2),(33,rr 3 s226.1),(34,iv (s226.1.length:Int)),(35,iv s241.2.2)] [(0,rE 1 (eSl true 1 eStr) s133.1),(3,rE 1 eStr s226.1),(4,rE 1 eStr v254.2),(6,rE 1 eStr v254.1)]) (fun v254=>?_) (fun jv254=>?_)
  ·refine J_d 29729959 [] [35] [(35,iv (w64 (s241.2.2+1)))] [] [] zB ?_
   refine vJ 6 2 (Nat.le_of_ble_eq_true rfl) (Nat.le_of_ble_eq_true rfl) ?_
   exact J_q (J_b (ih (v254.1,v254.2,w64 (s241.2.2+1)))) rfl
  ·refine zG 47 (fun h249=>?_) (fun h249=>?_)
   ·refine zA (fun x250 h251=>?_)
    refine J_d 475679334 [] [9,13,47] [(9,rr 6 x250)] [2,6] [(6,rE 1 eStr x250)] (zF 2 (zA2 32 9 1 5 eStr [x243] [0] [(.tmp 49)] [sv x243]) (zF 3 (zEk 32 32 9 9 1 16 6 2 5 eStr (.tmp 48) (.tmp 50) h251) zB)) ?_
    exact yO (J_j (jv254 (x250,s241.2.1))) rfl
   ·refine zA (fun x252 h253=>?_)
    refine J_d 475679335 [] [11,13,47] [(11,rr 6 x252)] [4,6] [(6,rE 1 eStr x252)] (zF 2 (zA2 32 9 1 5 eStr [x243] [0] [(.tmp 53)] [sv x243]) (zF 3 (zEk 32 32 9 9 1 16 6 4 5 eStr (.tmp 52) (.tmp 54) h253) zB)) ?_
    refine vJ 2 6 (Nat.le_of_ble_eq_true rfl) (Nat.le_of_ble_eq_true rfl) ?_
    refine vJ 2 4 (Nat.le_of_ble_eq_true rfl) (Nat.le_of_ble_eq_true rfl) ?_
    exact yO (J_j (jv254 (s241.1,x252))) rfl
 ·exact yO (hk (s241.1,s241.2.1)) rfl
theorem zB6.ok (a1:(List Pack)) (a2:(List Int)) (a3:(List Int)) (s133:((List (List ByteArray))×(List ByteArray))) (q:Wd) (kn:((List ByteArray)×(List ByteArray))→Option (D×List Ent)) (hk:∀v:((List ByteArray)×(List ByteArray)),J (q.g Tryz.prog 31 0 64) c31 (atI c31 1815) (St.mk' [(0,sl 8 (Pack.enc false) a1),(1,sl 1 zC a2),(2,sl 1 zC a3),(7,rr 0 s133.1),(8,rr 3 v.1),(9,rr 2 v.2)] [(0,rE 1 (eSl true 1 eStr) s133.1),(2,rE 1 eStr v.2),(3,rE 1 eStr v.1)]) (some v) kn):
  ∀s226:((List ByteArray)×(List ByteArray)×Int),J (q.g Tryz.prog 31 0 64) c31 (atI c31 14516) (St.mk' [(0,sl 8 (Pack.enc false) a1),(1,sl 1 zC a2),(2,sl 1 zC a3),(7,rr 0 s133.1),(8,rr 3 s226.1),(9,rr 2 s226.2.1),(10,iv s226.2.2)] [(0,rE 1 (eSl true 1 eStr) s133.1),(2,rE 1 eStr s226.2.1),(3,rE 1 eStr s226.1)]) (zB6 a1 a2 a3 s133 s226) kn:=by
 refine kT (fun g ih s226=>?_)
 unfold zDm
 refine J_d 58064 [] [29] [(29,bv (decide (s226.2.2< (s226.2.1.length:Int))))] [] [] zB ?_
 refine zG 29 (fun h227=>?_) (fun h227=>?_)
 ·refine J_g 232264 [] [(0,sl 8 (Pack.enc false) a1),(1,sl 1 zC a2),(2,sl 1 zC a3),(7,rr 0 s133.1),(8,rr 3 s226.1),(9,rr 2 s226.2.1),(10,iv s226.2.2),(11,rr 4 ([]:List ByteArray))] [(0,rE 1 (eSl true 1 eStr) s133.1),(2,rE 1 eStr s226.2.1),(3,rE 1 eStr s226.1),(4,rE 1 eStr ([]:List ByteArray))] (zF 0 (zA2 32 9 1 4 eStr ([]:List ByteArray) [] [] []) zB) ?_
  refine J_d 929060 [] [8,33,34,35] [(33,rr 3 s226.1),(34,iv (s226.1.length:Int)),(35,iv 0)] [] [] zB ?_
  refine zEa (zBp.ok a1 a2 a3 s133 s226 q _ (fun v255=>J_j ?_) (s226.2.1,([]:List ByteArray),0))
  refine J_g 464531 [] [(0,sl 8 (Pack.enc false) a1),(1,sl 1 zC a2),(2,sl 1 zC a3),(7,rr 0 s133.1),(8,rr 4 v255.2),(9,rr 2 v255.1),(10,iv s226.2.2)] [(0,rE 1 (eSl true 1 eStr) s133.1),(2,rE 1 eStr v255.1),(4,rE 1 eStr v255.2)] zB ?_
  refine J_d 58067 [] [10] [(10,iv (w64 (s226.2.2+1)))] [] [] zB ?_
  refine vJ 4 3 (Nat.le_of_ble_eq_true rfl) (Nat.le_of_ble_eq_true rfl) ?_
  exact J_q (J_b (ih (v255.2,v255.1,w64 (s226.2.2+1)))) rfl
 ·exact yO (hk (s226.1,s226.2.1)) rfl
theorem zB4.ok (a1:(List Pack)) (a2:(List Int)) (a3:(List Int)) (s133:((List (List ByteArray))×(List ByteArray))) (x137:(List ByteArray)) (q:Wd) (kn:((List ByteArray)×(List ByteArray))→Option (D×List Ent)) (hk:∀v:((List ByteArray)×(List ByteArray)),J (q.g Tryz.prog 31 0 64) c31 (atI c31 464531) (St.mk' [(0,sl 8 (Pack.enc false) a1),(1,sl 1 zC a2),(2,sl 1 zC a3),(7,rr 0 s133.1),(9,.cw 2 v.1.length),(10,iv 0),(11,rr 3 v.2)] [(0,rE 1 (eSl true 1 eStr) s133.1),(1,rE 1 eStr s133.2),(2,.cow 1 (v.1.map eStr) 1 (s133.2.map eStr)),(3,rE 1 eStr v.2)]) (some v) kn):
  ∀s182:((List ByteArray)×(List ByteArray)×Int),J (q.g Tryz.prog 31 0 64) c31 (atI c31 3716244) (St.mk' [(0,sl 8 (Pack.enc false) a1),(1,sl 1 zC a2),(2,sl 1 zC a3),(7,rr 0 s133.1),(9,.cw 2 s182.1.length),(10,iv 0),(11,rr 3 s182.2.1),(33,.sub 1 (1:Int).toNat x137.length),(34,iv (x137.length:Int)),(35,iv s182.2.2)] [(0,rE 1 (eSl true 1 eStr) s133.1),(1,rE 1 eStr s133.2),(2,.cow 1 (s182.1.map eStr) 1 (s133.2.map eStr)),(3,rE 1 eStr s182.2.1)]) (zB4 a1 a2 a3 s133 x137 s182) kn:=by
 refine kT (fun g ih s182=>?_)
 unfold zBI
 refine J_d 7432488 [] [36] [(36,bv (decide (s182.2.2< (x137.length:Int))))] [] [] zB ?_
 refine zG 36 (fun h183=>?_) (fun h183=>?_)
 ·refine zA (fun x184 h185=>?_)
  refine J_d 118919832 [] [13,36] [(13,sv x184)] [] [] (zF 0 (zLx (kk:=.i64) 32 9 1 1 eStr (.tmp 33) (.tmp 35) h185) (zF 1 (zAi (d:=sv x184) 9 1 1 0 eStr (.tmp 37) (zFK h185) (by kernel_rfl)) zB)) ?_
  refine zA (fun x186 h187=>?_)
  refine zA (fun x188 h189=>?_)
  refine J_d 237839666 [] [47] [(47,bv x188)] [] [] (zF 5 (zN9 (kk:=.i64) (ys:=s133.2) 32 9 1 2 1 eStr (.tmp 42) (.tmp 43) h187) (zF 6 (zNF (d:=sv x186) (ys:=s133.2) 9 1 2 1 eStr (.tmp 44) h187 (by kernel_rfl)) (zF 8 (vM [(.tmp 39),(.tmp 40),(.tmp 41),(.tmp 45),(.tmp 46)] [24,25,25,9,9] (wK.ok a1 a2 a3 x186 x184) h189) zB))) ?_
  refine wC (aft c31 59459916) (fun v195:((List ByteArray)×(List ByteArray))=>St.mk' [(0,sl 8 (Pack.enc false) a1),(1,sl 1 zC a2),(2,sl 1 zC a3),(7,rr 0 s133.1),(9,.cw 5 v195.1.length),(10,iv 0),(11,rr 3 v195.2),(33,.sub 1 (1:Int).toNat x137.length),(34,iv (x137.length:Int)),(35,iv s182.2.2)] [(0,rE 1 (eSl true 1 eStr) s133.1),(1,rE 1 eStr s133.2),(3,rE 1 eStr v195.2),(5,.cow 1 (v195.1.map eStr) 1 (s133.2.map eStr))]) (fun v195=>?_) (fun jv195=>?_)
  ·refine J_d 29729959 [] [35] [(35,iv (w64 (s182.2.2+1)))] [] [] zB ?_
   refine vJ 5 2 (Nat.le_of_ble_eq_true rfl) (Nat.le_of_ble_eq_true rfl) ?_
   exact J_q (J_b (ih (v195.1,v195.2,w64 (s182.2.2+1)))) rfl
  ·refine zG 47 (fun h190=>?_) (fun h190=>?_)
   ·refine zA (fun x191 h192=>?_)
    refine J_d 475679334 [] [9,13,47] [(9,rr 5 x191)] [2,5] [(5,rE 1 eStr x191)] (zF 2 (zA2 32 9 1 4 eStr [x184] [0] [(.tmp 49)] [sv x184]) (zF 3 (zNt (rs:=s133.2) 32 32 9 9 1 16 5 2 1 4 eStr (.tmp 48) (.tmp 50) h192) zB)) ?_
    refine zDK [(0,sl 8 (Pack.enc false) a1),(1,sl 1 zC a2),(2,sl 1 zC a3),(7,rr 0 s133.1),(9,rr 5 x191),(10,iv 0),(11,rr 3 s182.2.1),(33,.sub 1 (1:Int).toNat x137.length),(34,iv (x137.length:Int)),(35,iv s182.2.2)] [(5,rE 1 eStr x191),(0,rE 1 (eSl true 1 eStr) s133.1),(1,rE 1 eStr s133.2),(3,rE 1 eStr s182.2.1)] (by kernel_rfl) ?_
    refine zNC 5 1 (xs:=x191.map eStr) (ys:=s133.2.map eStr) (tm2:=[(0,sl 8 (Pack.enc false) a1),(1,sl 1 zC a2),(2,sl 1 zC a3),(7,rr 0 s133.1),(9,.cw 5 x191.length),(10,iv 0),(11,rr 3 s182.2.1),(33,.sub 1 (1:Int).toNat x137.length),(34,iv (x137.length:Int)),(35,iv s182.2.2)]) (hp:=[(0,rE 1 (eSl true 1 eStr) s133.1),(1,rE 1 eStr s133.2),(3,rE 1 eStr s182.2.1)]) (.cons .same (.cons .same (.cons .same (.cons .same (.cons .rf (.cons .same (.cons .same (.cons .same (.cons .same (.cons .same (.nil))))))))))) rfl ?_
    refine zDK [(0,sl 8 (Pack.enc false) a1),(1,sl 1 zC a2),(2,sl 1 zC a3),(7,rr 0 s133.1),(9,.cw 5 x191.length),(10,iv 0),(11,rr 3 s182.2.1),(33,.sub 1 (1:Int).toNat x137.length),(34,iv (x137.length:Int)),(35,iv s182.2.2)] [(0,rE 1 (eSl true 1 eStr) s133.1),(1,rE 1 eStr s133.2),(3,rE 1 eStr s182.2.1),(5,.cow 1 (x191.map eStr) 1 (s133.2.map eStr))] (by kernel_rfl) ?_
    exact yO (J_j (jv195 (x191,s182.2.1))) rfl
   ·refine zA (fun x193 h194=>?_)
    refine J_d 475679335 [] [11,13,47] [(11,rr 5 x193)] [3,5] [(5,rE 1 eStr x193)] (zF 2 (zA2 32 9 1 4 eStr [x184] [0] [(.tmp 53)] [sv x184]) (zF 3 (zEk 32 32 9 9 1 16 5 3 4 eStr (.tmp 52) (.tmp 54) h194) zB)) ?_
    refine vJ 2 5 (Nat.le_of_ble_eq_true rfl) (Nat.le_of_ble_eq_true rfl) ?_
    refine vJ 2 3 (Nat.le_of_ble_eq_true rfl) (Nat.le_of_ble_eq_true rfl) ?_
    exact yO (J_j (jv195 (s182.1,x193))) rfl
 ·exact yO (hk (s182.1,s182.2.1)) rfl
theorem jU.ok (a1:(List Pack)) (a2:(List Int)) (a3:(List Int)) (q:Wd) (kn:(List (List ByteArray))→Option (D×List Ent)) (hk:∀v:(List (List ByteArray)),J (q.g Tryz.prog 31 0 64) c31 (atI c31 15) (St.mk' [(7,rr 0 v)] [(0,rE 1 (eSl true 1 eStr) v)]) (some v) kn):
  ∀s133:((List (List ByteArray))×(List ByteArray)),J (q.g Tryz.prog 31 0 64) c31 (atI c31 56) (St.mk' [(0,sl 8 (Pack.enc false) a1),(1,sl 1 zC a2),(2,sl 1 zC a3),(7,rr 0 s133.1),(8,rr 1 s133.2)] [(0,rE 1 (eSl true 1 eStr) s133.1),(1,rE 1 eStr s133.2)]) (jU a1 a2 a3 s133) kn:=by
 refine kT (fun g ih s133=>?_)
 unfold zBP
 refine J_d 224 [] [21] [(21,bv (decide ((s133.2.length:Int)>0)))] [] [] zB ?_
 refine zG 21 (fun h134=>?_) (fun h134=>?_)
 ·refine zA (fun x135 h136=>?_)
  refine J_d 452 [] [9,21] [(9,.cw 2 x135.length)] [2] [(2,.cow 1 (x135.map eStr) 1 (s133.2.map eStr))] (zF 1 (zNb (k:=1) (kk:=.i64) 32 9 1 1 2 eStr (.tmp 22) h136) zB) ?_
  refine zA (fun x137 h138=>?_)
  refine J_g 906 [] [(0,sl 8 (Pack.enc false) a1),(1,sl 1 zC a2),(2,sl 1 zC a3),(7,rr 0 s133.1),(8,.sub 1 (1:Int).toNat x137.length),(9,.cw 2 x135.length)] [(0,rE 1 (eSl true 1 eStr) s133.1),(1,rE 1 eStr s133.2),(2,.cow 1 (x135.map eStr) 1 (s133.2.map eStr))] (zF 1 (zIy 32 9 1 1 eStr (.tmp 24) (some (.const (.int .i64 1))) none h138) zB) ?_
  refine J_g 3628 [] [(0,sl 8 (Pack.enc false) a1),(1,sl 1 zC a2),(2,sl 1 zC a3),(7,rr 0 s133.1),(8,.sub 1 (1:Int).toNat x137.length),(9,.cw 2 x135.length),(10,iv 0)] [(0,rE 1 (eSl true 1 eStr) s133.1),(1,rE 1 eStr s133.2),(2,.cow 1 (x135.map eStr) 1 (s133.2.map eStr))] zB ?_
  refine J_d 58064 [] [29] [(29,bv (decide (0< (x135.length:Int))))] [] [] (zF 2 (zM8 32 9 2 x135.length (.tmp 27)) zB) ?_
  refine zG 29 (fun h168=>?_) (fun h168=>?_)
  ·refine J_g 232264 [] [(0,sl 8 (Pack.enc false) a1),(1,sl 1 zC a2),(2,sl 1 zC a3),(7,rr 0 s133.1),(8,.sub 1 (1:Int).toNat x137.length),(9,.cw 2 x135.length),(10,iv 0),(11,rr 3 ([]:List ByteArray))] [(0,rE 1 (eSl true 1 eStr) s133.1),(1,rE 1 eStr s133.2),(2,.cow 1 (x135.map eStr) 1 (s133.2.map eStr)),(3,rE 1 eStr ([]:List ByteArray))] (zF 0 (zA2 32 9 1 3 eStr ([]:List ByteArray) [] [] []) zB) ?_
   refine J_d 929060 [] [8,33,34,35] [(33,.sub 1 (1:Int).toNat x137.length),(34,iv (x137.length:Int)),(35,iv 0)] [] [] (zF 1 (zL9 32 9 1 (1:Int).toNat x137.length (.tmp 33)) zB) ?_
   refine zEa (zB4.ok a1 a2 a3 s133 x137 q _ (fun v196=>J_j ?_) (x135,([]:List ByteArray),0))
   refine J_g 464531 [] [(0,sl 8 (Pack.enc false) a1),(1,sl 1 zC a2),(2,sl 1 zC a3),(7,rr 0 s133.1),(8,rr 3 v196.2),(9,.cw 2 v196.1.length),(10,iv 0)] [(0,rE 1 (eSl true 1 eStr) s133.1),(1,rE 1 eStr s133.2),(2,.cow 1 (v196.1.map eStr) 1 (s133.2.map eStr)),(3,rE 1 eStr v196.2)] zB ?_
   refine zDK [(0,sl 8 (Pack.enc false) a1),(1,sl 1 zC a2),(2,sl 1 zC a3),(7,rr 0 s133.1),(8,rr 3 v196.2),(9,.cw 2 v196.1.length),(10,iv 0)] [(2,.cow 1 (v196.1.map eStr) 1 (s133.2.map eStr)),(1,rE 1 eStr s133.2),(0,rE 1 (eSl true 1 eStr) s133.1),(3,rE 1 eStr v196.2)] (by kernel_rfl) ?_
   refine zMZ 2 1 (z:=1) (n:=v196.1.length) (xs:=v196.1.map eStr) (ys:=s133.2.map eStr) (tm2:=[(0,sl 8 (Pack.enc false) a1),(1,sl 1 zC a2),(2,sl 1 zC a3),(7,rr 0 s133.1),(8,rr 3 v196.2),(9,rr 2 v196.1),(10,iv 0)]) (hp:=[(0,rE 1 (eSl true 1 eStr) s133.1),(3,rE 1 eStr v196.2)]) (.cons (.same rfl rfl) (.cons (.same rfl rfl) (.cons (.same rfl rfl) (.cons (.same rfl rfl) (.cons (.same rfl rfl) (.cons (.cw) (.cons (.same rfl rfl) (.nil)))))))) ⟨rfl,rfl⟩ (Nat.le_of_ble_eq_true rfl) (List.length_map _) ?_
   refine zDK [(0,sl 8 (Pack.enc false) a1),(1,sl 1 zC a2),(2,sl 1 zC a3),(7,rr 0 s133.1),(8,rr 3 v196.2),(9,rr 2 v196.1),(10,iv 0)] [(0,rE 1 (eSl true 1 eStr) s133.1),(2,rE 1 eStr v196.1),(3,rE 1 eStr v196.2)] (by kernel_rfl) ?_
   refine J_d 58067 [] [10] [(10,iv (w64 (0+1)))] [] [] zB ?_
   refine zEa (zB6.ok a1 a2 a3 s133 q _ (fun v256=>J_j ?_) (v196.2,v196.1,w64 (0+1)))
   refine zA (fun x257 h258=>?_)
   refine zA (fun x259 h260=>?_)
   refine J_d 1815 [] [7,9] [(7,rr 6 x259)] [0,2,6] [(6,rE 1 (eSl true 1 eStr) x259)] (zF 2 (wQ («as»:=[rr 2 v256.2]) [(.tmp 59)] [32] false [(2,rE 1 eStr v256.2)] [2] (.cons (.rf rfl) (.nil)) (uH.ok v256.2) h258 (.own 4)) (zF 3 (zLF (ds:=[rr 4 x257]) (ts:=[4]) 28 32 1 5 (eSl true 1 eStr) [x257] [0] [(.tmp 60)] [rr 4 x257] [(4,rE 1 eStr x257)] (.move (.head _) (List.length_map _) (by decide) (.nil))) (zF 4 (zEk 28 28 32 32 1 24 6 0 5 (eSl true 1 eStr) (.tmp 58) (.tmp 61) h260) zB))) ?_
   refine vJ 6 0 (Nat.le_of_ble_eq_true rfl) (Nat.le_of_ble_eq_true rfl) ?_
   refine vJ 3 1 (Nat.le_of_ble_eq_true rfl) (Nat.le_of_ble_eq_true rfl) ?_
   exact J_q (J_b (ih (x259,v256.1))) rfl
  ·exact zIQ
 ·exact yO (hk s133.1) rfl
theorem zC6.ok (a1:(List Pack)) (a2:(List Int)) (a3:(List Int)):Ok Tryz.prog 31 [sl 8 (Pack.enc false) a1,sl 1 zC a2,sl 1 zC a3] [] ((zC6 a1 a2 a3).map fun r=>(so 1 (eSl true 1 eStr) r,[])):=by
 refine zH c31 Tryz.f31 0 64 (fun q=>?_)
 unfold zC6
 refine J_d 2 [] [] [] [] [] zB ?_
 refine zA (fun x4 h5=>?_)
 refine J_d 6 [] [7,8] [(7,rr 0 ([]:List (List ByteArray))),(8,rr 1 x4)] [0,1] [(0,rE 1 (eSl false 1 eStr) ([]:List (List ByteArray))),(1,rE 1 eStr x4)] (zF 0 (zA2 28 32 1 0 (eSl false 1 eStr) ([]:List (List ByteArray)) [] [] []) (zF 4 (wQ («as»:=[sl 8 (Pack.enc false) a1,sl 1 zC a2,sl 1 zC a3]) [(.tmp 15),(.tmp 16),(.tmp 17)] [24,25,25] false [] [] (.cons (.same rfl) (.cons (.same rfl) (.cons (.same rfl) (.nil)))) (zAP.ok a1 a2 a3) h5 (.own 1)) zB)) ?_
 refine zEa (jU.ok a1 a2 a3 q _ (fun v261=>J_j ?_) (([]:List (List ByteArray)),x4))
 refine J_g 30 [] [(6,rr 0 v261)] [(0,rE 1 (eSl true 1 eStr) v261)] zB ?_
 exact zDJ (ds:=[rr 0 v261]) (ds':=[so 1 (eSl true 1 eStr) v261]) (.cons (.cell (.move (.head _) (List.length_map _) (by decide) (.nil))) (.nil) (by decide)) rfl
noncomputable def c9:Code:=(Tryz.f9.body).getD .skip
theorem zCA.ok (a1:(List Pack)) (a2:(List Int)) (a3:(List Int)):Ok Tryz.prog 9 [sl 8 (Pack.enc false) a1,sl 1 zC a2,sl 1 zC a3] [] ((zCA a1 a2 a3).map fun r=>(.ag (xX.enc true r),[])):=by
 refine zH c9 Tryz.f9 0 21 (fun q=>?_)
 unfold zCA
 refine J_d 2 [(0,0)] [6] [(6,pp 0)] [0] [(0,.box [iv 0,nv])] zB ?_
 refine zA (fun x4 h5=>?_)
 refine J_g 12 [] [(0,sl 8 (Pack.enc false) a1),(1,sl 1 zC a2),(2,sl 1 zC a3),(6,pp 0),(7,iv x4)] [(0,.box [iv 0,nv])] (zF 3 (vM [(.tmp 8),(.tmp 9),(.tmp 10)] [24,25,25] (zAZ.ok a1 a2 a3) h5) zB) ?_
 refine J_d 26 [] [13] [(13,bv (x4 !=0))] [] [] zB ?_
 refine zG 13 (fun h6=>?_) (fun h6=>?_)
 ·refine J_g 108 [] [(6,pp 0)] [(0,.box [iv x4,nv])] zB ?_
  exact zDJ (ds:=[.ag [iv x4,nv]]) (ds':=[.ag [iv x4,so 1 (eSl true 1 eStr) ([]:List (List ByteArray))]]) (.cons (.ag (.keep rfl (.nilsl true 1 (.nil)))) (.nil) (by decide)) rfl
 ·refine zA (fun x7 h8=>?_)
  refine J_g 14 [] [(6,pp 0)] [(0,.box [iv 0,rr 1 x7]),(1,rE 1 (eSl true 1 eStr) x7)] (zF 3 (wQ («as»:=[sl 8 (Pack.enc false) a1,sl 1 zC a2,sl 1 zC a3]) [(.tmp 16),(.tmp 17),(.tmp 18)] [24,25,25] false [] [] (.cons (.same rfl) (.cons (.same rfl) (.cons (.same rfl) (.nil)))) (zC6.ok a1 a2 a3) h8 (.own 1)) zB) ?_
  exact zDJ (ds:=[.ag [iv 0,rr 1 x7]]) (ds':=[.ag [iv 0,so 1 (eSl true 1 eStr) x7]]) (.cons (.ag (.keep rfl (.move (.tail _ (.head _)) (List.length_map _) (by decide) (.nil)))) (.nil) (by decide)) rfl
noncomputable def c58:Code:=(Tryz.f58.body).getD .skip
theorem zD2.ok (a1:(List Pack)) (a2:(List Int)) (q:Wd) (kn:Unit→Option (D×List Ent)) (hk:∀v:Unit,J (q.g Tryz.prog 58 0 37) c58 (atI c58 7) (St.mk' [] []) (some v) kn):
  ∀s16:Int,J (q.g Tryz.prog 58 0 37) c58 (atI c58 52) (St.mk' [(0,sl 8 (Pack.enc false) a1),(1,sl 1 zC a2),(5,iv s16)] []) (zD2 a1 a2 s16) (Fl.go (fun r:Bool=>some (bv r,[])) kn):=by
 refine kT (fun g ih s16=>?_)
 unfold zDh
 refine J_d 208 [] [9] [(9,bv (decide (s16< (a2.length:Int))))] [] [] zB ?_
 refine zG 9 (fun h17=>?_) (fun h17=>?_)
 ·refine zA (fun x18 h19=>?_)
  refine zA (fun x20 h21=>?_)
  refine wC (atI c58 841) (fun v28:Bool=>St.mk' [(0,sl 8 (Pack.enc false) a1),(1,sl 1 zC a2),(5,iv s16),(36,bv v28)] []) (fun v28=>?_) (fun jv28=>?_)
  ·refine zG 36 (fun h29=>?_) (fun h29=>?_)
   ·refine J_g 3364 [] [(4,bv false)] [] zB ?_
    exact xR rfl
   ·refine J_d 211 [] [5,36] [(5,iv (w64 (s16+1)))] [] [] zB ?_
    exact J_q (J_b (ih (w64 (s16+1)))) rfl
  ·refine vV (fun h22=>?_) (fun h22=>?_)
   ·refine J_d 840 [] [9,36] [(36,bv true)] [] [] (zF 2 (tC (kk:=.i64) 25 2 1 zC (.tmp 12) (.tmp 13) h19) (zF 7 (vM [(.tmp 15),(.const (.int .i64 0)),(.tmp 18)] [2,2,2] (uX.ok x18 0 (w64 ((a1.length:Int)-1))) h21) (vD 9 [(20,bv (!x20))] [] h22 (zH1 12 (zH0 (i:=12) (g:=9) (t:=21) (b:=false) (v:=(.bool true)) (.inl rfl) (by kernel_rfl) (by kernel_rfl)) (zH1 13 (zH0 (i:=13) (g:=12) (t:=24) (b:=true) (v:=undef) (.inr rfl) (by kernel_rfl) (by kernel_rfl)) (zH1 14 (zH0 (i:=14) (g:=12) (t:=24) (b:=true) (v:=undef) (.inr rfl) (by kernel_rfl) (by kernel_rfl)) (zH1 15 (zH0 (i:=15) (g:=12) (t:=24) (b:=true) (v:=undef) (.inr rfl) (by kernel_rfl) (by kernel_rfl)) (zH1 16 (zH0 (i:=16) (g:=12) (t:=24) (b:=true) (v:=undef) (.inr rfl) (by kernel_rfl) (by kernel_rfl)) (zH1 17 (zH0 (i:=17) (g:=12) (t:=24) (b:=true) (v:=undef) (.inr rfl) (by kernel_rfl) (by kernel_rfl)) (zH1 18 (zH0 (i:=18) (g:=12) (t:=24) (b:=true) (v:=undef) (.inr rfl) (by kernel_rfl) (by kernel_rfl)) (zH1 19 (zH0 (i:=19) (g:=12) (t:=24) (b:=true) (v:=undef) (.inr rfl) (by kernel_rfl) (by kernel_rfl)) (zH1 20 (zH0 (i:=20) (g:=12) (t:=24) (b:=true) (v:=undef) (.inr rfl) (by kernel_rfl) (by kernel_rfl)) (zH1 21 (zH0 (i:=21) (g:=12) (t:=24) (b:=true) (v:=undef) (.inr rfl) (by kernel_rfl) (by kernel_rfl)) (zH1 22 (zH0 (i:=22) (g:=12) (t:=24) (b:=true) (v:=undef) (.inr rfl) (by kernel_rfl) (by kernel_rfl)) zB)))))))))))))) ?_
    exact yO (J_j (jv28 true)) rfl
   ·refine vV (fun h23=>?_) (fun h23=>?_)
    ·refine zA (fun x24 h25=>?_)
     refine zA (fun x26 h27=>?_)
     refine J_d 840 [] [9,36] [(36,bv (decide (x24≤x26)))] [] [] (zF 2 (tC (kk:=.i64) 25 2 1 zC (.tmp 12) (.tmp 13) h19) (zF 7 (vM [(.tmp 15),(.const (.int .i64 0)),(.tmp 18)] [2,2,2] (uX.ok x18 0 (w64 ((a1.length:Int)-1))) h21) (vD 9 [(20,bv (!x20))] [] h22 (zG8 12 9 21 false [(23,bv (decide (s16>0)))] [] h23 (zBi 15 12 24 true (tC (kk:=.i64) 25 2 1 zC (.tmp 25) (.tmp 26) h25) (zBi 20 12 24 true (tC (kk:=.i64) 25 2 1 zC (.tmp 29) (.tmp 31) h27) zB)))))) ?_
     exact yO (J_j (jv28 (decide (x24≤x26)))) rfl
    ·refine J_d 840 [] [9,36] [(36,bv false)] [] [] (zF 2 (tC (kk:=.i64) 25 2 1 zC (.tmp 12) (.tmp 13) h19) (zF 7 (vM [(.tmp 15),(.const (.int .i64 0)),(.tmp 18)] [2,2,2] (uX.ok x18 0 (w64 ((a1.length:Int)-1))) h21) (vD 9 [(20,bv (!x20))] [] h22 (zG8 12 9 21 false [(23,bv (decide (s16>0)))] [] h23 zB)))) ?_
     exact yO (J_j (jv28 false)) rfl
 ·exact yO (hk ()) rfl
theorem zD9.ok (a1:(List Pack)) (a2:(List Int)):Ok Tryz.prog 58 [sl 8 (Pack.enc false) a1,sl 1 zC a2] [] ((zD9 a1 a2).map fun r=>(bv r,[])):=by
 refine zH c58 Tryz.f58 0 37 (fun q=>?_)
 unfold zD9
 refine J_g 2 [] [(0,sl 8 (Pack.enc false) a1),(1,sl 1 zC a2)] [] zB ?_
 refine J_d 12 [] [5] [(5,iv 0)] [] [] zB ?_
 refine jS (K0:=(fun r:Bool=>some (bv r,[]))) (fun _=>rfl) (zD2.ok a1 a2 q _ (fun v30=>J_j ?_) 0)
 refine J_g 14 [] [(4,bv true)] [] zB ?_
 exact xR rfl
noncomputable def c39:Code:=(Tryz.f39.body).getD .skip
theorem uT.ok (a1:(List Pack)) (a2:(List Int)):Ok Tryz.prog 39 [sl 8 (Pack.enc false) a1,sl 1 zC a2] [] ((uT a1 a2).map fun r=>(iv r,[])):=by
 refine zH c39 Tryz.f39 0 15 (fun q=>?_)
 unfold uT
 refine J_d 2 [] [] [] [] [] zB ?_
 refine zA (fun x3 h4=>?_)
 refine J_g 12 [] [(0,sl 8 (Pack.enc false) a1),(1,sl 1 zC a2),(5,iv x3)] [] (zF 1 (vM [(.tmp 6)] [24] (wN.ok a1) h4) zB) ?_
 refine J_d 26 [] [9] [(9,bv (x3 !=0))] [] [] zB ?_
 refine zG 9 (fun h5=>?_) (fun h5=>?_)
 ·refine J_g 108 [] [(4,iv x3)] [] zB ?_
  exact xR rfl
 ·refine zA (fun x6 h7=>?_)
  refine J_g 28 [] [(14,bv (!x6))] [] (zF 2 (vM [(.tmp 11),(.tmp 12)] [24,25] (zD9.ok a1 a2) h7) zB) ?_
  refine zG 14 (fun h8=>?_) (fun h8=>?_)
  ·refine J_g 116 [] [(4,iv 1)] [] zB ?_
   exact xR rfl
  ·refine J_g 30 [] [(4,iv 0)] [] zB ?_
   exact xR rfl
noncomputable def c40:Code:=(Tryz.f40.body).getD .skip
theorem zDA.ok (a1:(List Pack)) (a2:(List Int)):Ok Tryz.prog 40 [sl 8 (Pack.enc false) a1,sl 1 zC a2] [] ((zDA a1 a2).map fun r=>(bv r,[])):=by
 refine zH c40 Tryz.f40 0 10 (fun q=>?_)
 unfold zDA
 refine J_d 2 [] [] [] [] [] zB ?_
 refine zA (fun x3 h4=>?_)
 refine J_g 6 [] [(4,bv ((x3.length:Int)==0))] [] (zF 2 (wQ («as»:=[sl 8 (Pack.enc false) a1,sl 1 zC a2]) [(.tmp 5),(.tmp 6)] [24,25] false [] [] (.cons (.same rfl) (.cons (.same rfl) (.nil))) (tN.ok a1 a2) h4 (.own 0)) zB) ?_
 exact xR rfl
noncomputable def c16:Code:=(Tryz.f16.body).getD .skip
theorem uM.ok (a1:(List Pack)) (a2:(List Int)):Ok Tryz.prog 16 [sl 8 (Pack.enc false) a1,sl 1 zC a2] [] ((uM a1 a2).map fun r=>(bv r,[])):=by
 refine zH c16 Tryz.f16 0 14 (fun q=>?_)
 unfold uM
 refine J_d 2 [] [] [] [] [] zB ?_
 refine zA (fun x3 h4=>?_)
 refine vV (fun h5=>?_) (fun h5=>?_)
 ·refine zA (fun x6 h7=>?_)
  refine J_g 6 [] [(4,bv x6)] [] (zF 2 (vM [(.tmp 5),(.tmp 6)] [24,25] (uT.ok a1 a2) h4) (vD 4 [(8,bv (x3==0))] [] h5 (zBi 7 4 9 true (vM [(.tmp 10),(.tmp 11)] [24,25] (zDA.ok a1 a2) h7) zB))) ?_
  exact xR rfl
 ·refine J_g 6 [] [(4,bv false)] [] (zF 2 (vM [(.tmp 5),(.tmp 6)] [24,25] (uT.ok a1 a2) h4) (vD 4 [(8,bv (x3==0))] [] h5 zB)) ?_
  exact xR rfl
noncomputable def c81:Code:=(Tryz.f81.body).getD .skip
theorem zDt.ok (a1:(List Pack)) (a2:(List Int)) (a3:ByteArray) (q:Wd) (kn:Unit→Option (D×List Ent)) (hk:∀v:Unit,J (q.g Tryz.prog 81 0 28) c81 (atI c81 7) (St.mk' [] []) (some v) kn):
  ∀s12:Int,J (q.g Tryz.prog 81 0 28) c81 (atI c81 52) (St.mk' [(0,sl 8 (Pack.enc false) a1),(1,sl 1 zC a2),(2,sv a3),(7,iv s12)] []) (zDt a1 a2 a3 s12) (Fl.go (fun r:Int=>some (iv r,[])) kn):=by
 refine kT (fun g ih s12=>?_)
 unfold zDe
 refine J_d 208 [] [11] [(11,bv (decide (s12< (a2.length:Int))))] [] [] zB ?_
 refine zG 11 (fun h13=>?_) (fun h13=>?_)
 ·refine zA (fun x14 h15=>?_)
  refine zA (fun x16 h17=>?_)
  refine J_d 840 [] [11,23] [(23,bv (seq x16.Name a3))] [] [] (zF 3 (tC (kk:=.i64) 25 2 1 zC (.tmp 15) (.tmp 16) h15) (zF 5 (tC (kk:=.i64) 24 91 8 (Pack.enc false) (.tmp 14) (.tmp 18) h17) zB)) ?_
  refine zG 23 (fun h18=>?_) (fun h18=>?_)
  ·refine zA (fun x19 h20=>?_)
   refine J_g 3364 [] [(6,iv x19)] [] (zF 2 (tC (kk:=.i64) 25 2 1 zC (.tmp 24) (.tmp 25) h20) zB) ?_
   exact xR rfl
  ·refine J_d 211 [] [7,23] [(7,iv (w64 (s12+1)))] [] [] zB ?_
   exact J_q (J_b (ih (w64 (s12+1)))) rfl
 ·exact yO (hk ()) rfl
theorem jH.ok (a1:(List Pack)) (a2:(List Int)) (a3:ByteArray):Ok Tryz.prog 81 [sl 8 (Pack.enc false) a1,sl 1 zC a2,sv a3] [] ((jH a1 a2 a3).map fun r=>(iv r,[])):=by
 refine zH c81 Tryz.f81 0 28 (fun q=>?_)
 unfold jH
 refine J_g 2 [] [(0,sl 8 (Pack.enc false) a1),(1,sl 1 zC a2),(2,sv a3)] [] zB ?_
 refine J_d 12 [] [7] [(7,iv 0)] [] [] zB ?_
 refine jS (K0:=(fun r:Int=>some (iv r,[]))) (fun _=>rfl) (zDt.ok a1 a2 a3 q _ (fun v21=>J_j ?_) 0)
 refine J_g 14 [] [(6,iv (-1))] [] zB ?_
 exact xR rfl
noncomputable def c63:Code:=(Tryz.f63.body).getD .skip
theorem zCt.ok (a1:(List Pack)) (a2:(List Int)) (q:Wd) (kn:Unit→Option (D×List Ent)) (hk:∀v:Unit,J (q.g Tryz.prog 63 0 28) c63 (atI c63 7) (St.mk' [] []) (some v) kn):
  ∀s13:Int,J (q.g Tryz.prog 63 0 28) c63 (atI c63 52) (St.mk' [(0,sl 8 (Pack.enc false) a1),(1,sl 1 zC a2),(5,iv s13)] []) (zCt a1 a2 s13) (Fl.go (fun r:Bool=>some (bv r,[])) kn):=by
 refine kT (fun g ih s13=>?_)
 unfold zCb
 refine J_d 208 [] [9] [(9,bv (decide (s13< (a2.length:Int))))] [] [] zB ?_
 refine zG 9 (fun h14=>?_) (fun h14=>?_)
 ·refine zA (fun x15 h16=>?_)
  refine zA (fun x17 h18=>?_)
  refine zA (fun x19 h20=>?_)
  refine zA (fun x21 h22=>?_)
  refine J_d 840 [] [9,27] [(27,bv (x19 !=x21))] [] [] (zF 5 (tC (kk:=.i64) 25 2 1 zC (.tmp 15) (.tmp 16) h16) (zF 7 (tC (kk:=.i64) 24 91 8 (Pack.enc false) (.tmp 14) (.tmp 18) h18) (zF 10 (vM [(.tmp 12),(.tmp 13),(.tmp 21)] [24,25,9] (jH.ok a1 a2 x17.Name) h20) (zF 13 (tC (kk:=.i64) 25 2 1 zC (.tmp 23) (.tmp 24) h22) zB)))) ?_
  refine zG 27 (fun h23=>?_) (fun h23=>?_)
  ·refine J_g 3364 [] [(4,bv false)] [] zB ?_
   exact xR rfl
  ·refine J_d 211 [] [5,27] [(5,iv (w64 (s13+1)))] [] [] zB ?_
   exact J_q (J_b (ih (w64 (s13+1)))) rfl
 ·exact yO (hk ()) rfl
theorem kX.ok (a1:(List Pack)) (a2:(List Int)):Ok Tryz.prog 63 [sl 8 (Pack.enc false) a1,sl 1 zC a2] [] ((kX a1 a2).map fun r=>(bv r,[])):=by
 refine zH c63 Tryz.f63 0 28 (fun q=>?_)
 unfold kX
 refine J_g 2 [] [(0,sl 8 (Pack.enc false) a1),(1,sl 1 zC a2)] [] zB ?_
 refine J_d 12 [] [5] [(5,iv 0)] [] [] zB ?_
 refine jS (K0:=(fun r:Bool=>some (bv r,[]))) (fun _=>rfl) (zCt.ok a1 a2 q _ (fun v24=>J_j ?_) 0)
 refine J_g 14 [] [(4,bv true)] [] zB ?_
 exact xR rfl
noncomputable def c32:Code:=(Tryz.f32.body).getD .skip
theorem zCF.ok (a1:(List Pack)) (a2:(List Int)) (a3:(List Int)):Ok Tryz.prog 32 [sl 8 (Pack.enc false) a1,sl 1 zC a2,sl 1 zC a3] [] ((zCF a1 a2 a3).map fun r=>(iv r,[])):=by
 refine zH c32 Tryz.f32 0 31 (fun q=>?_)
 unfold zCF
 refine J_d 2 [] [] [] [] [] zB ?_
 refine zA (fun x4 h5=>?_)
 refine J_g 12 [] [(0,sl 8 (Pack.enc false) a1),(1,sl 1 zC a2),(2,sl 1 zC a3),(7,iv x4)] [] (zF 2 (vM [(.tmp 9),(.tmp 10)] [24,25] (uT.ok a1 a2) h5) zB) ?_
 refine J_d 26 [] [13] [(13,bv (x4 !=0))] [] [] zB ?_
 refine zG 13 (fun h6=>?_) (fun h6=>?_)
 ·refine J_g 108 [] [(6,iv x4)] [] zB ?_
  exact xR rfl
 ·refine zA (fun x7 h8=>?_)
  refine J_g 28 [] [(0,sl 8 (Pack.enc false) a1),(1,sl 1 zC a2),(2,sl 1 zC a3),(8,iv x7)] [] (zF 2 (vM [(.tmp 15),(.tmp 16)] [24,25] (uT.ok a1 a3) h8) zB) ?_
  refine J_d 58 [] [19] [(19,bv (x7 !=0))] [] [] zB ?_
  refine zG 19 (fun h9=>?_) (fun h9=>?_)
  ·refine J_g 236 [] [(6,iv x7)] [] zB ?_
   exact xR rfl
  ·refine zA (fun x10 h11=>?_)
   refine wC (atI c32 61) (fun v15:Bool=>St.mk' [(30,bv v15)] []) (fun v15=>?_) (fun jv15=>?_)
   ·refine zG 30 (fun h16=>?_) (fun h16=>?_)
    ·refine J_g 244 [] [(6,iv 6)] [] zB ?_
     exact xR rfl
    ·refine J_g 62 [] [(6,iv 0)] [] zB ?_
     exact xR rfl
   ·refine vV (fun h12=>?_) (fun h12=>?_)
    ·refine J_g 60 [] [(30,bv true)] [] (zF 2 (vM [(.tmp 21),(.tmp 22)] [24,25] (kX.ok a1 a2) h11) (vD 4 [(24,bv (!x10))] [] h12 zB)) ?_
     exact yO (J_j (jv15 true)) rfl
    ·refine zA (fun x13 h14=>?_)
     refine J_g 60 [] [(30,bv (!x13))] [] (zF 2 (vM [(.tmp 21),(.tmp 22)] [24,25] (kX.ok a1 a2) h11) (vD 4 [(24,bv (!x10))] [] h12 (zBi 7 4 25 false (vM [(.tmp 26),(.tmp 27)] [24,25] (kX.ok a1 a3) h14) zB))) ?_
     exact yO (J_j (jv15 (!x13))) rfl
noncomputable def c66:Code:=(Tryz.f66.body).getD .skip
theorem zDg.ok (a1:(List ByteArray)) (a2:ByteArray) (q:Wd) (kn:((List ByteArray)×Bool)→Option (D×List Ent)) (hk:∀v:((List ByteArray)×Bool),J (q.g Tryz.prog 66 1 50) c66 (atI c66 31) (St.mk' [(1,sv a2),(5,rr 1 v.1),(6,bv v.2)] [(0,rE 1 eStr a1),(1,rE 1 eStr v.1)]) (some v) kn):
  ∀s19:((List ByteArray)×Bool×Int),J (q.g Tryz.prog 66 1 50) c66 (atI c66 244) (St.mk' [(0,rr 0 a1),(1,sv a2),(5,rr 1 s19.1),(6,bv s19.2.1),(7,iv s19.2.2)] [(0,rE 1 eStr a1),(1,rE 1 eStr s19.1)]) (zDg a1 a2 s19) (Fl.go (fun r:(List ByteArray)=>some (so 1 eStr r,[])) kn):=by
 refine kT (fun g ih s19=>?_)
 unfold zCx
 refine J_d 976 [] [12] [(12,bv (decide (s19.2.2< (a1.length:Int))))] [] [] zB ?_
 refine zG 12 (fun h20=>?_) (fun h20=>?_)
 ·refine zA (fun x21 h22=>?_)
  refine J_d 7824 [] [12,20] [(20,bv (seq x21 a2))] [] [] (zF 2 (zAf (kk:=.i64) 32 9 1 0 eStr (.tmp 15) (.tmp 16) h22) (zF 3 (zAi (d:=sv x21) 9 1 0 0 eStr (.tmp 17) h22 (by kernel_rfl)) zB)) ?_
  refine zG 20 (fun h23=>?_) (fun h23=>?_)
  ·refine J_g 31300 [] [(4,rr 0 a1)] [(0,rE 1 eStr a1)] zB ?_
   exact zDJ (ds:=[rr 0 a1]) (ds':=[so 1 eStr a1]) (.cons (.cell (.move (.head _) (List.length_map _) (by decide) (.nil))) (.nil) (by decide)) rfl
  ·refine zA (fun x24 h25=>?_)
   refine wC (atI c66 15653) (fun v27:Bool=>St.mk' [(0,rr 0 a1),(1,sv a2),(5,rr 1 s19.1),(6,bv s19.2.1),(7,iv s19.2.2),(31,bv v27)] [(0,rE 1 eStr a1),(1,rE 1 eStr s19.1)]) (fun v27=>?_) (fun jv27=>?_)
   ·refine wC (atI c66 7827) (fun v31:((List ByteArray)×Bool)=>St.mk' [(0,rr 0 a1),(1,sv a2),(5,rr 3 v31.1),(6,bv v31.2),(7,iv s19.2.2)] [(0,rE 1 eStr a1),(3,rE 1 eStr v31.1)]) (fun v31=>?_) (fun jv31=>?_)
    ·refine zA (fun x32 h33=>?_)
     refine zA (fun x34 h35=>?_)
     refine J_g 7827 [] [(0,rr 0 a1),(1,sv a2),(5,rr 5 x34),(6,bv v31.2),(7,iv s19.2.2)] [(0,rE 1 eStr a1),(5,rE 1 eStr x34)] (zF 3 (zAf (kk:=.i64) 32 9 1 0 eStr (.tmp 37) (.tmp 38) h33) (zF 4 (zAi (d:=sv x32) 9 1 0 0 eStr (.tmp 39) h33 (by kernel_rfl)) (zF 5 (zA2 32 9 1 4 eStr [x32] [0] [(.tmp 40)] [sv x32]) (zF 6 (zEk 32 32 9 9 1 16 5 3 4 eStr (.tmp 36) (.tmp 41) h35) zB)))) ?_
     refine J_d 979 [] [7] [(7,iv (w64 (s19.2.2+1)))] [] [] zB ?_
     refine vJ 5 1 (Nat.le_of_ble_eq_true rfl) (Nat.le_of_ble_eq_true rfl) ?_
     exact J_q (J_b (ih (x34,v31.2,w64 (s19.2.2+1)))) rfl
    ·refine zG 31 (fun h28=>?_) (fun h28=>?_)
     ·refine zA (fun x29 h30=>?_)
      refine J_g 62612 [] [(0,rr 0 a1),(1,sv a2),(5,rr 3 x29),(7,iv s19.2.2)] [(0,rE 1 eStr a1),(3,rE 1 eStr x29)] (zF 2 (zA2 32 9 1 2 eStr [a2] [0] [(.tmp 33)] [sv a2]) (zF 3 (zEk 32 32 9 9 1 16 3 1 2 eStr (.tmp 32) (.tmp 34) h30) zB)) ?_
      refine J_d 62613 [] [6] [(6,bv true)] [] [] zB ?_
      exact yO (J_j (jv31 (x29,true))) rfl
     ·refine vJ 1 3 (Nat.le_of_ble_eq_true rfl) (Nat.le_of_ble_eq_true rfl) ?_
      exact yO (J_j (jv31 (s19.1,s19.2.1))) rfl
   ·refine vV (fun h26=>?_) (fun h26=>?_)
    ·refine J_d 15652 [] [20,31] [(31,bv (!s19.2.1))] [] [] (zF 2 (zAf (kk:=.i64) 32 9 1 0 eStr (.tmp 22) (.tmp 23) h25) (zF 3 (zAi (d:=sv x24) 9 1 0 0 eStr (.tmp 24) h25 (by kernel_rfl)) (vD 6 [(27,bv (!(slt x24 a2||seq x24 a2)))] [] h26 zB))) ?_
     exact yO (J_j (jv27 (!s19.2.1))) rfl
    ·refine J_d 15652 [] [20,31] [(31,bv false)] [] [] (zF 2 (zAf (kk:=.i64) 32 9 1 0 eStr (.tmp 22) (.tmp 23) h25) (zF 3 (zAi (d:=sv x24) 9 1 0 0 eStr (.tmp 24) h25 (by kernel_rfl)) (vD 6 [(27,bv (!(slt x24 a2||seq x24 a2)))] [] h26 zB))) ?_
     exact yO (J_j (jv27 false)) rfl
 ·exact yO (hk (s19.1,s19.2.1)) rfl
theorem uG.ok (a1:(List ByteArray)) (a2:ByteArray):Ok Tryz.prog 66 [rr 0 a1,sv a2] [rE 1 eStr a1] ((uG a1 a2).map fun r=>(so 1 eStr r,[])):=by
 refine zH c66 Tryz.f66 1 50 (fun q=>?_)
 unfold uG
 refine J_g 2 [] [(0,rr 0 a1),(1,sv a2)] [(0,rE 1 eStr a1)] zB ?_
 refine J_g 6 [] [(0,rr 0 a1),(1,sv a2),(5,rr 1 ([]:List ByteArray))] [(0,rE 1 eStr a1),(1,rE 1 eStr ([]:List ByteArray))] (zF 0 (zA2 32 9 1 1 eStr ([]:List ByteArray) [] [] []) zB) ?_
 refine J_g 14 [] [(0,rr 0 a1),(1,sv a2),(5,rr 1 ([]:List ByteArray)),(6,bv false)] [(0,rE 1 eStr a1),(1,rE 1 eStr ([]:List ByteArray))] zB ?_
 refine J_d 60 [] [7] [(7,iv 0)] [] [] zB ?_
 refine jS (K0:=(fun r:(List ByteArray)=>some (so 1 eStr r,[]))) (fun _=>rfl) (zDg.ok a1 a2 q _ (fun v36=>J_j ?_) (([]:List ByteArray),false,0))
 refine J_d 124 [] [6,44] [(44,bv (!v36.2))] [] [] zB ?_
 refine wC (atI c66 63) (fun v40:(List ByteArray)=>St.mk' [(5,rr 3 v40)] [(0,rE 1 eStr a1),(3,rE 1 eStr v40)]) (fun v40=>?_) (fun jv40=>?_)
 ·refine J_g 126 [] [(4,rr 3 v40)] [(0,rE 1 eStr a1),(3,rE 1 eStr v40)] zB ?_
  exact zDJ (ds:=[rr 3 v40]) (ds':=[so 1 eStr v40]) (.cons (.cell (.move (.tail _ (.head _)) (List.length_map _) (by decide) (.nil))) (.nil) (by decide)) rfl
 ·refine zG 44 (fun h37=>?_) (fun h37=>?_)
  ·refine zA (fun x38 h39=>?_)
   refine J_g 250 [] [(5,rr 3 x38)] [(0,rE 1 eStr a1),(3,rE 1 eStr x38)] (zF 2 (zA2 32 9 1 2 eStr [a2] [0] [(.tmp 46)] [sv a2]) (zF 3 (zEk 32 32 9 9 1 16 3 1 2 eStr (.tmp 45) (.tmp 47) h39) zB)) ?_
   exact yO (J_j (jv40 x38)) rfl
  ·refine vJ 1 3 (Nat.le_of_ble_eq_true rfl) (Nat.le_of_ble_eq_true rfl) ?_
   exact yO (J_j (jv40 v36.1)) rfl
noncomputable def c37:Code:=(Tryz.f37.body).getD .skip
theorem zB1.ok (a1:(List Pack)) (a2:(List Int)) (a3:(List Int)) (q:Wd) (kn:(List ByteArray)→Option (D×List Ent)) (hk:∀v:(List ByteArray),J (q.g Tryz.prog 37 0 35) c37 (atI c37 15) (St.mk' [(7,rr 0 v)] [(0,rE 1 eStr v)]) (some v) kn):
  ∀s15:((List ByteArray)×Int),J (q.g Tryz.prog 37 0 35) c37 (atI c37 116) (St.mk' [(0,sl 8 (Pack.enc false) a1),(1,sl 1 zC a2),(2,sl 1 zC a3),(7,rr 0 s15.1),(8,iv s15.2)] [(0,rE 1 eStr s15.1)]) (zB1 a1 a2 a3 s15) kn:=by
 refine kT (fun g ih s15=>?_)
 unfold zAC
 refine J_d 464 [] [14] [(14,bv (decide (s15.2< (a1.length:Int))))] [] [] zB ?_
 refine zG 14 (fun h16=>?_) (fun h16=>?_)
 ·refine zA (fun x17 h18=>?_)
  refine J_d 1864 [] [9,14] [(9,sv x17.Name)] [] [] (zF 2 (tC (kk:=.i64) 24 91 8 (Pack.enc false) (.tmp 17) (.tmp 18) h18) zB) ?_
  refine zA (fun x19 h20=>?_)
  refine zA (fun x21 h22=>?_)
  refine J_d 3730 [] [30] [(30,bv (x19 !=x21))] [] [] (zF 3 (vM [(.tmp 22),(.tmp 23),(.tmp 24)] [24,25,9] (jH.ok a1 a2 x17.Name) h20) (zF 7 (vM [(.tmp 26),(.tmp 27),(.tmp 28)] [24,25,9] (jH.ok a1 a3 x17.Name) h22) zB)) ?_
  refine wC (aft c37 932) (fun v26:(List ByteArray)=>St.mk' [(0,sl 8 (Pack.enc false) a1),(1,sl 1 zC a2),(2,sl 1 zC a3),(7,rr 1 v26),(8,iv s15.2)] [(1,rE 1 eStr v26)]) (fun v26=>?_) (fun jv26=>?_)
  ·refine J_d 467 [] [8] [(8,iv (w64 (s15.2+1)))] [] [] zB ?_
   refine vJ 1 0 (Nat.le_of_ble_eq_true rfl) (Nat.le_of_ble_eq_true rfl) ?_
   exact J_q (J_b (ih (v26,w64 (s15.2+1)))) rfl
  ·refine zG 30 (fun h23=>?_) (fun h23=>?_)
   ·refine zA (fun x24 h25=>?_)
    refine J_d 7462 [] [7,9,30] [(7,rr 1 x24)] [0,1] [(1,rE 1 eStr x24)] (zF 2 (wQ («as»:=[rr 0 s15.1,sv x17.Name]) [(.tmp 31),(.tmp 32)] [32,9] false [(0,rE 1 eStr s15.1)] [0] (.cons (.rf rfl) (.cons (.same rfl) (.nil))) (uG.ok s15.1 x17.Name) h25 (.own 1)) zB) ?_
    exact yO (J_j (jv26 x24)) rfl
   ·refine vJ 0 1 (Nat.le_of_ble_eq_true rfl) (Nat.le_of_ble_eq_true rfl) ?_
    exact yO (J_j (jv26 s15.1)) rfl
 ·exact yO (hk s15.1) rfl
theorem kW.ok (a1:(List Pack)) (a2:(List Int)) (a3:(List Int)):Ok Tryz.prog 37 [sl 8 (Pack.enc false) a1,sl 1 zC a2,sl 1 zC a3] [] ((kW a1 a2 a3).map fun r=>(so 1 eStr r,[])):=by
 refine zH c37 Tryz.f37 0 35 (fun q=>?_)
 unfold kW
 refine J_g 2 [] [(0,sl 8 (Pack.enc false) a1),(1,sl 1 zC a2),(2,sl 1 zC a3)] [] zB ?_
 refine J_g 6 [] [(0,sl 8 (Pack.enc false) a1),(1,sl 1 zC a2),(2,sl 1 zC a3),(7,rr 0 ([]:List ByteArray))] [(0,rE 1 eStr ([]:List ByteArray))] (zF 0 (zA2 32 9 1 0 eStr ([]:List ByteArray) [] [] []) zB) ?_
 refine J_d 28 [] [8] [(8,iv 0)] [] [] zB ?_
 refine zEa (zB1.ok a1 a2 a3 q _ (fun v27=>J_j ?_) (([]:List ByteArray),0))
 refine J_g 30 [] [(6,rr 0 v27)] [(0,rE 1 eStr v27)] zB ?_
 exact zDJ (ds:=[rr 0 v27]) (ds':=[so 1 eStr v27]) (.cons (.cell (.move (.head _) (List.length_map _) (by decide) (.nil))) (.nil) (by decide)) rfl
noncomputable def c156:Code:=(Tryz.f156.body).getD .skip
theorem zBD.ok (a1:(List Pack)) (a2:(List Int)) (a3:(List Int)) (a4:ByteArray):Ok Tryz.prog 156 [sl 8 (Pack.enc false) a1,sl 1 zC a2,sl 1 zC a3,sv a4] [] ((zBD a1 a2 a3 a4).map fun r=>(so 8 (Pack.enc false) r,[])):=by
 refine zH c156 Tryz.f156 0 40 (fun q=>?_)
 unfold zBD
 refine J_g 2 [] [(0,sl 8 (Pack.enc false) a1),(1,sl 1 zC a2),(2,sl 1 zC a3),(3,sv a4)] [] zB ?_
 refine J_d 6 [] [9] [(9,rr 0 ([]:List Pack))] [0] [(0,rE 8 (Pack.enc false) ([]:List Pack))] (zF 0 (zA2 24 91 8 0 (Pack.enc false) ([]:List Pack) [] [] []) zB) ?_
 refine zA (fun x5 h6=>?_)
 refine J_g 28 [] [(0,sl 8 (Pack.enc false) a1),(2,sl 1 zC a3),(3,sv a4),(9,rr 0 ([]:List Pack)),(10,iv x5)] [(0,rE 8 (Pack.enc false) ([]:List Pack))] (zF 3 (vM [(.tmp 13),(.tmp 14),(.tmp 15)] [24,25,9] (jH.ok a1 a2 a4) h6) zB) ?_
 refine J_d 58 [] [18] [(18,bv (decide (x5≥0)))] [] [] zB ?_
 refine wC (atI c156 15) (fun v12:(List Pack)=>St.mk' [(0,sl 8 (Pack.enc false) a1),(2,sl 1 zC a3),(3,sv a4),(9,rr 2 v12)] [(2,rE 8 (Pack.enc false) v12)]) (fun v12=>?_) (fun jv12=>?_)
 ·refine zA (fun x13 h14=>?_)
  refine J_g 60 [] [(0,sl 8 (Pack.enc false) a1),(9,rr 2 v12),(11,iv x13)] [(2,rE 8 (Pack.enc false) v12)] (zF 3 (vM [(.tmp 26),(.tmp 27),(.tmp 28)] [24,25,9] (jH.ok a1 a3 a4) h14) zB) ?_
  refine J_d 122 [] [31] [(31,bv (decide (x13≥0)))] [] [] zB ?_
  refine wC (atI c156 31) (fun v20:(List Pack)=>St.mk' [(9,rr 4 v20)] [(4,rE 8 (Pack.enc false) v20)]) (fun v20=>?_) (fun jv20=>?_)
  ·refine J_g 62 [] [(8,rr 4 v20)] [(4,rE 8 (Pack.enc false) v20)] zB ?_
   exact zDJ (ds:=[rr 4 v20]) (ds':=[so 8 (Pack.enc false) v20]) (.cons (.cell (.move (.head _) (List.length_map _) (by decide) (.nil))) (.nil) (by decide)) rfl
  ·refine zG 31 (fun h15=>?_) (fun h15=>?_)
   ·refine zA (fun x16 h17=>?_)
    refine zA (fun x18 h19=>?_)
    refine J_g 246 [] [(9,rr 4 x18)] [(4,rE 8 (Pack.enc false) x18)] (zF 3 (tC (kk:=.i64) 24 91 8 (Pack.enc false) (.tmp 33) (.tmp 34) h17) (zF 5 (zA2 24 91 8 3 (Pack.enc false) [x16] [0] [(.tmp 36)] [.ag (Pack.enc false x16)]) (zF 6 (zEk 24 24 91 91 8 120 4 2 3 (Pack.enc false) (.tmp 32) (.tmp 37) h19) zB))) ?_
    exact yO (J_j (jv20 x18)) rfl
   ·refine vJ 2 4 (Nat.le_of_ble_eq_true rfl) (Nat.le_of_ble_eq_true rfl) ?_
    exact yO (J_j (jv20 v12)) rfl
 ·refine zG 18 (fun h7=>?_) (fun h7=>?_)
  ·refine zA (fun x8 h9=>?_)
   refine zA (fun x10 h11=>?_)
   refine J_d 118 [] [9,10,18] [(9,rr 2 x10)] [0,2] [(2,rE 8 (Pack.enc false) x10)] (zF 3 (tC (kk:=.i64) 24 91 8 (Pack.enc false) (.tmp 20) (.tmp 21) h9) (zF 5 (zA2 24 91 8 1 (Pack.enc false) [x8] [0] [(.tmp 23)] [.ag (Pack.enc false x8)]) (zF 6 (zEk 24 24 91 91 8 120 2 0 1 (Pack.enc false) (.tmp 19) (.tmp 24) h11) zB))) ?_
   exact yO (J_j (jv12 x10)) rfl
  ·refine vJ 0 2 (Nat.le_of_ble_eq_true rfl) (Nat.le_of_ble_eq_true rfl) ?_
   exact yO (J_j (jv12 ([]:List Pack))) rfl
noncomputable def c117:Code:=(Tryz.f117.body).getD .skip
theorem zCn.ok (x5:(List Pack)) (s28:((List ByteArray)×Int)) (q:Wd) (kn:(List ByteArray)→Option (D×List Ent)) (hk:∀v:(List ByteArray),J (q.g Tryz.prog 117 0 47) c117 (aft c117 1956) (St.mk' [(9,rr 0 v),(10,rr 1 x5),(11,iv s28.2)] [(0,rE 1 eStr v),(1,rE 8 (Pack.enc false) x5)]) (some v) kn):
  ∀s39:((List ByteArray)×Int),J (q.g Tryz.prog 117 0 47) c117 (atI c117 15652) (St.mk' [(9,rr 0 s39.1),(10,rr 1 x5),(11,iv s28.2),(12,iv s39.2)] [(0,rE 1 eStr s39.1),(1,rE 8 (Pack.enc false) x5)]) (zCn x5 s28 s39) kn:=by
 refine kT (fun g ih s39=>?_)
 unfold zCf
 refine zA (fun x40 h41=>?_)
 refine J_d 62608 [] [33] [(33,bv (decide (s39.2< (x40.Provides.length:Int))))] [] [] (zF 3 (zAf (kk:=.i64) 24 91 8 1 (Pack.enc false) (.tmp 27) (.tmp 28) h41) (zF 5 (zAi (d:=sl 1 eStr x40.Provides) 32 8 1 5 (Pack.enc false) (.tmp 30) h41 (by kernel_rfl)) zB)) ?_
 refine zG 33 (fun h42=>?_) (fun h42=>?_)
 ·refine zA (fun x43 h44=>?_)
  refine zA (fun x45 h46=>?_)
  refine zA (fun x47 h48=>?_)
  refine J_g 125220 [] [(9,rr 2 x47),(10,rr 1 x5),(11,iv s28.2),(12,iv s39.2)] [(1,rE 8 (Pack.enc false) x5),(2,rE 1 eStr x47)] (zF 3 (zAf (kk:=.i64) 24 91 8 1 (Pack.enc false) (.tmp 37) (.tmp 38) h44) (zF 5 (zAi (d:=sl 1 eStr x43.Provides) 32 8 1 5 (Pack.enc false) (.tmp 40) h44 (by kernel_rfl)) (zF 7 (tC (kk:=.i64) 32 9 1 eStr (.tmp 41) (.tmp 42) h46) (zF 9 (wQ («as»:=[rr 0 s39.1,sv x45]) [(.tmp 36),(.tmp 44)] [32,9] false [(0,rE 1 eStr s39.1)] [0] (.cons (.rf rfl) (.cons (.same rfl) (.nil))) (uG.ok s39.1 x45) h48 (.own 2)) zB)))) ?_
  refine J_d 62611 [] [12] [(12,iv (w64 (s39.2+1)))] [] [] zB ?_
  refine vJ 2 0 (Nat.le_of_ble_eq_true rfl) (Nat.le_of_ble_eq_true rfl) ?_
  exact J_q (J_b (ih (x47,w64 (s39.2+1)))) rfl
 ·exact yO (hk s39.1) rfl
theorem zC4.ok (x5:(List Pack)) (q:Wd) (kn:(List ByteArray)→Option (D×List Ent)) (hk:∀v:(List ByteArray),J (q.g Tryz.prog 117 0 47) c117 (atI c117 31) (St.mk' [(9,rr 0 v)] [(0,rE 1 eStr v)]) (some v) kn):
  ∀s28:((List ByteArray)×Int),J (q.g Tryz.prog 117 0 47) c117 (atI c117 244) (St.mk' [(9,rr 0 s28.1),(10,rr 1 x5),(11,iv s28.2)] [(0,rE 1 eStr s28.1),(1,rE 8 (Pack.enc false) x5)]) (zC4 x5 s28) kn:=by
 refine kT (fun g ih s28=>?_)
 unfold zCh
 refine J_d 976 [] [23] [(23,bv (decide (s28.2< (x5.length:Int))))] [] [] zB ?_
 refine zG 23 (fun h29=>?_) (fun h29=>?_)
 ·refine J_d 3912 [] [12,23] [(12,iv 0)] [] [] zB ?_
  refine zEa (zCn.ok x5 s28 q _ (fun v49=>J_j ?_) (s28.1,0))
  refine J_d 979 [] [11] [(11,iv (w64 (s28.2+1)))] [] [] zB ?_
  exact J_q (J_b (ih (v49,w64 (s28.2+1)))) rfl
 ·exact yO (hk s28.1) rfl
theorem zAD.ok (a1:(List Pack)) (a2:(List Int)) (a3:(List Int)) (a4:ByteArray):Ok Tryz.prog 117 [sl 8 (Pack.enc false) a1,sl 1 zC a2,sl 1 zC a3,sv a4] [] ((zAD a1 a2 a3 a4).map fun r=>(so 1 eStr r,[])):=by
 refine zH c117 Tryz.f117 0 47 (fun q=>?_)
 unfold zAD
 refine J_g 2 [] [(0,sl 8 (Pack.enc false) a1),(1,sl 1 zC a2),(2,sl 1 zC a3),(3,sv a4)] [] zB ?_
 refine J_d 6 [] [9] [(9,rr 0 [a4])] [0] [(0,rE 1 eStr [a4])] (zF 1 (zA2 32 9 1 0 eStr [a4] [0] [(.tmp 13)] [sv a4]) zB) ?_
 refine zA (fun x5 h6=>?_)
 refine J_g 14 [] [(9,rr 0 [a4]),(10,rr 1 x5)] [(0,rE 1 eStr [a4]),(1,rE 8 (Pack.enc false) x5)] (zF 4 (wQ («as»:=[sl 8 (Pack.enc false) a1,sl 1 zC a2,sl 1 zC a3,sv a4]) [(.tmp 15),(.tmp 16),(.tmp 17),(.tmp 18)] [24,25,25,9] false [] [] (.cons (.same rfl) (.cons (.same rfl) (.cons (.same rfl) (.cons (.same rfl) (.nil))))) (zBD.ok a1 a2 a3 a4) h6 (.own 1)) zB) ?_
 refine J_d 60 [] [11] [(11,iv 0)] [] [] zB ?_
 refine zEa (zC4.ok x5 q _ (fun v50=>J_j ?_) ([a4],0))
 refine J_g 62 [] [(8,rr 0 v50)] [(0,rE 1 eStr v50)] zB ?_
 exact zDJ (ds:=[rr 0 v50]) (ds':=[so 1 eStr v50]) (.cons (.cell (.move (.head _) (List.length_map _) (by decide) (.nil))) (.nil) (by decide)) rfl
noncomputable def zJ9:Code:=(Tryz.f158.body).getD .skip
theorem zAO.ok (a1:Pack) (s23:((List ByteArray)×Int)) (q:Wd) (kn:(List ByteArray)→Option (D×List Ent)) (hk:∀v:(List ByteArray),J (q.g Tryz.prog 158 0 52) zJ9 (aft zJ9 932) (St.mk' [(1,pp 0),(3,rr 1 v),(4,iv s23.2)] [(0,.box (Pack.enc false a1)),(1,rE 1 eStr v)]) (some v) kn):
  ∀s34:((List ByteArray)×Int),J (q.g Tryz.prog 158 0 52) zJ9 (atI zJ9 7460) (St.mk' [(1,pp 0),(3,rr 1 s34.1),(4,iv s23.2),(5,iv s34.2)] [(0,.box (Pack.enc false a1)),(1,rE 1 eStr s34.1)]) (zAO a1 s23 s34) kn:=by
 refine kT (fun g ih s34=>?_)
 unfold zAv
 refine zA (fun x35 h36=>?_)
 refine J_d 29840 [] [22] [(22,bv (decide (s34.2< (x35.length:Int))))] [] [] (zF 4 (tC (kk:=.i64) 89 80 1 (eSl false 7 Term.enc) (.tmp 17) (.tmp 18) h36) zB) ?_
 refine zG 22 (fun h37=>?_) (fun h37=>?_)
 ·refine zA (fun x38 h39=>?_)
  refine zA (fun x40 h41=>?_)
  refine zA (fun x42 h43=>?_)
  refine J_g 59684 [] [(1,pp 0),(3,rr 2 x42),(4,iv s23.2),(5,iv s34.2)] [(0,.box (Pack.enc false a1)),(2,rE 1 eStr x42)] (zF 4 (tC (kk:=.i64) 89 80 1 (eSl false 7 Term.enc) (.tmp 27) (.tmp 28) h39) (zF 7 (tC (kk:=.i64) 80 104 7 Term.enc (.tmp 30) (.tmp 31) h41) (zF 10 (wQ («as»:=[rr 1 s34.1,sv x40.Name]) [(.tmp 25),(.tmp 34)] [32,9] false [(1,rE 1 eStr s34.1)] [1] (.cons (.rf rfl) (.cons (.same rfl) (.nil))) (uG.ok s34.1 x40.Name) h43 (.own 2)) zB))) ?_
  refine J_d 29843 [] [5] [(5,iv (w64 (s34.2+1)))] [] [] zB ?_
  refine vJ 2 1 (Nat.le_of_ble_eq_true rfl) (Nat.le_of_ble_eq_true rfl) ?_
  exact J_q (J_b (ih (x42,w64 (s34.2+1)))) rfl
 ·exact yO (hk s34.1) rfl
theorem zAQ.ok (a1:Pack) (q:Wd) (kn:(List ByteArray)→Option (D×List Ent)) (hk:∀v:(List ByteArray),J (q.g Tryz.prog 158 0 52) zJ9 (atI zJ9 31) (St.mk' [(3,rr 1 v)] [(1,rE 1 eStr v)]) (some v) kn):
  ∀s51:((List ByteArray)×Int),J (q.g Tryz.prog 158 0 52) zJ9 (atI zJ9 244) (St.mk' [(1,pp 0),(3,rr 1 s51.1),(6,iv s51.2)] [(0,.box (Pack.enc false a1)),(1,rE 1 eStr s51.1)]) (zAQ a1 s51) kn:=by
 refine kT (fun g ih s51=>?_)
 unfold zAn
 refine J_d 976 [] [40] [(40,bv (decide (s51.2< (a1.Bars.length:Int))))] [] [] zB ?_
 refine zG 40 (fun h52=>?_) (fun h52=>?_)
 ·refine zA (fun x53 h54=>?_)
  refine zA (fun x55 h56=>?_)
  refine J_g 1956 [] [(1,pp 0),(3,rr 2 x55),(6,iv s51.2)] [(0,.box (Pack.enc false a1)),(2,rE 1 eStr x55)] (zF 4 (tC (kk:=.i64) 80 104 7 Term.enc (.tmp 45) (.tmp 46) h54) (zF 7 (wQ («as»:=[rr 1 s51.1,sv x53.Name]) [(.tmp 43),(.tmp 49)] [32,9] false [(1,rE 1 eStr s51.1)] [1] (.cons (.rf rfl) (.cons (.same rfl) (.nil))) (uG.ok s51.1 x53.Name) h56 (.own 2)) zB)) ?_
  refine J_d 979 [] [6] [(6,iv (w64 (s51.2+1)))] [] [] zB ?_
  refine vJ 2 1 (Nat.le_of_ble_eq_true rfl) (Nat.le_of_ble_eq_true rfl) ?_
  exact J_q (J_b (ih (x55,w64 (s51.2+1)))) rfl
 ·exact yO (hk s51.1) rfl
theorem zAK.ok (a1:Pack) (q:Wd) (kn:(List ByteArray)→Option (D×List Ent)) (hk:∀v:(List ByteArray),J (q.g Tryz.prog 158 0 52) zJ9 (atI zJ9 15) (St.mk' [(1,pp 0),(3,rr 1 v)] [(0,.box (Pack.enc false a1)),(1,rE 1 eStr v)]) (some v) kn):
  ∀s23:((List ByteArray)×Int),J (q.g Tryz.prog 158 0 52) zJ9 (atI zJ9 116) (St.mk' [(1,pp 0),(3,rr 1 s23.1),(4,iv s23.2)] [(0,.box (Pack.enc false a1)),(1,rE 1 eStr s23.1)]) (zAK a1 s23) kn:=by
 refine kT (fun g ih s23=>?_)
 unfold zAy
 refine J_d 464 [] [12] [(12,bv (decide (s23.2< (a1.Needs.length:Int))))] [] [] zB ?_
 refine zG 12 (fun h24=>?_) (fun h24=>?_)
 ·refine J_d 1864 [] [5,12] [(5,iv 0)] [] [] zB ?_
  refine zEa (zAO.ok a1 s23 q _ (fun v44=>J_j ?_) (s23.1,0))
  refine J_d 467 [] [4] [(4,iv (w64 (s23.2+1)))] [] [] zB ?_
  exact J_q (J_b (ih (v44,w64 (s23.2+1)))) rfl
 ·exact yO (hk s23.1) rfl
theorem jW.ok (a1:Pack):Ok Tryz.prog 158 [.ag (Pack.enc false a1)] [] ((jW a1).map fun r=>(so 1 eStr r,[])):=by
 refine zH zJ9 Tryz.f158 0 52 (fun q=>?_)
 unfold jW
 refine J_g 2 [(0,0)] [(1,pp 0)] [(0,.box (Pack.enc false a1))] zB ?_
 refine J_g 6 [] [(1,pp 0),(3,rr 1 ([]:List ByteArray))] [(0,.box (Pack.enc false a1)),(1,rE 1 eStr ([]:List ByteArray))] (zF 0 (zA2 32 9 1 1 eStr ([]:List ByteArray) [] [] []) zB) ?_
 refine J_d 28 [] [4] [(4,iv 0)] [] [] zB ?_
 refine zEa (zAK.ok a1 q _ (fun v45=>J_j ?_) (([]:List ByteArray),0))
 refine J_d 60 [] [6] [(6,iv 0)] [] [] zB ?_
 refine zEa (zAQ.ok a1 q _ (fun v57=>J_j ?_) (v45,0))
 refine J_g 62 [] [(2,rr 1 v57)] [(1,rE 1 eStr v57)] zB ?_
 exact zDJ (ds:=[rr 1 v57]) (ds':=[so 1 eStr v57]) (.cons (.cell (.move (.head _) (List.length_map _) (by decide) (.nil))) (.nil) (by decide)) rfl
noncomputable def c157:Code:=(Tryz.f157.body).getD .skip
theorem zCv.ok (a1:(List ByteArray)) (a2:(List ByteArray)) (q:Wd) (kn:Unit→Option (D×List Ent)) (hk:∀v:Unit,J (q.g Tryz.prog 157 0 18) c157 (atI c157 7) (St.mk' [] []) (some v) kn):
  ∀s9:Int,J (q.g Tryz.prog 157 0 18) c157 (atI c157 52) (St.mk' [(0,sl 1 eStr a1),(1,sl 1 eStr a2),(5,iv s9)] []) (zCv a1 a2 s9) (Fl.go (fun r:Bool=>some (bv r,[])) kn):=by
 refine kT (fun g ih s9=>?_)
 unfold zBO
 refine J_d 208 [] [9] [(9,bv (decide (s9< (a1.length:Int))))] [] [] zB ?_
 refine zG 9 (fun h10=>?_) (fun h10=>?_)
 ·refine zA (fun x11 h12=>?_)
  refine zA (fun x13 h14=>?_)
  refine J_d 840 [] [9,17] [(17,bv x13)] [] [] (zF 3 (tC (kk:=.i64) 32 9 1 eStr (.tmp 13) (.tmp 14) h12) (zF 5 (vM [(.tmp 12),(.tmp 16)] [32,9] (wR.ok a2 x11) h14) zB)) ?_
  refine zG 17 (fun h15=>?_) (fun h15=>?_)
  ·refine J_g 3364 [] [(4,bv true)] [] zB ?_
   exact xR rfl
  ·refine J_d 211 [] [5,17] [(5,iv (w64 (s9+1)))] [] [] zB ?_
   exact J_q (J_b (ih (w64 (s9+1)))) rfl
 ·exact yO (hk ()) rfl
theorem zCq.ok (a1:(List ByteArray)) (a2:(List ByteArray)):Ok Tryz.prog 157 [sl 1 eStr a1,sl 1 eStr a2] [] ((zCq a1 a2).map fun r=>(bv r,[])):=by
 refine zH c157 Tryz.f157 0 18 (fun q=>?_)
 unfold zCq
 refine J_g 2 [] [(0,sl 1 eStr a1),(1,sl 1 eStr a2)] [] zB ?_
 refine J_d 12 [] [5] [(5,iv 0)] [] [] zB ?_
 refine jS (K0:=(fun r:Bool=>some (bv r,[]))) (fun _=>rfl) (zCv.ok a1 a2 q _ (fun v16=>J_j ?_) 0)
 refine J_g 14 [] [(4,bv false)] [] zB ?_
 exact xR rfl
noncomputable def zMQ:Code:=(Tryz.f118.body).getD .skip
theorem zDc.ok (a5:(List ByteArray)) (x6:(List Pack)) (q:Wd) (kn:Unit→Option (D×List Ent)) (hk:∀v:Unit,J (q.g Tryz.prog 118 0 31) zMQ (atI zMQ 15) (St.mk' [] []) (some v) kn):
  ∀s16:Int,J (q.g Tryz.prog 118 0 31) zMQ (atI zMQ 116) (St.mk' [(4,sl 1 eStr a5),(11,rr 0 x6),(12,iv s16)] [(0,rE 8 (Pack.enc false) x6)]) (zDc a5 x6 s16) (Fl.go (fun r:Bool=>some (bv r,[])) kn):=by
 refine kT (fun g ih s16=>?_)
 unfold zC2
 refine J_d 464 [] [21] [(21,bv (decide (s16< (x6.length:Int))))] [] [] zB ?_
 refine zG 21 (fun h17=>?_) (fun h17=>?_)
 ·refine zA (fun x18 h19=>?_)
  refine zA (fun x20 h21=>?_)
  refine zA (fun x22 h23=>?_)
  refine J_d 1864 [] [21,30] [(30,bv x22)] [] [] (zF 2 (zAf (kk:=.i64) 24 91 8 0 (Pack.enc false) (.tmp 24) (.tmp 25) h19) (zF 3 (zAi (d:=.ag (Pack.enc false x18)) 91 8 0 0 (Pack.enc false) (.tmp 26) h19 (by kernel_rfl)) (zF 4 (wQ («as»:=[.ag (Pack.enc false x18)]) [(.tmp 27)] [91] false [] [] (.cons (.same rfl) (.nil)) (jW.ok x18) h21 (.own 1)) (zF 6 (wQ («as»:=[rr 1 x20,sl 1 eStr a5]) [(.tmp 28),(.tmp 29)] [32,32] true [(1,rE 1 eStr x20)] [] (.cons (zDH (.head _) (fun _=>rfl) rfl) (.cons (.same rfl) (.nil))) (zCq.ok x20 a5) h23 (.same rfl rfl) (hbor:=fun _=>⟨fhN,xH⟩)) zB)))) ?_
  refine zG 30 (fun h24=>?_) (fun h24=>?_)
  ·refine J_g 7460 [] [(10,bv true)] [] zB ?_
   exact xR rfl
  ·refine J_d 467 [] [12,30] [(12,iv (w64 (s16+1)))] [] [] zB ?_
   exact J_q (J_b (ih (w64 (s16+1)))) rfl
 ·exact yO (hk ()) rfl
theorem tL.ok (a1:(List Pack)) (a2:(List Int)) (a3:(List Int)) (a4:ByteArray) (a5:(List ByteArray)):Ok Tryz.prog 118 [sl 8 (Pack.enc false) a1,sl 1 zC a2,sl 1 zC a3,sv a4,sl 1 eStr a5] [] ((tL a1 a2 a3 a4 a5).map fun r=>(bv r,[])):=by
 refine zH zMQ Tryz.f118 0 31 (fun q=>?_)
 unfold tL
 refine J_d 2 [] [] [] [] [] zB ?_
 refine zA (fun x6 h7=>?_)
 refine J_g 6 [] [(4,sl 1 eStr a5),(11,rr 0 x6)] [(0,rE 8 (Pack.enc false) x6)] (zF 4 (wQ («as»:=[sl 8 (Pack.enc false) a1,sl 1 zC a2,sl 1 zC a3,sv a4]) [(.tmp 13),(.tmp 14),(.tmp 15),(.tmp 16)] [24,25,25,9] false [] [] (.cons (.same rfl) (.cons (.same rfl) (.cons (.same rfl) (.cons (.same rfl) (.nil))))) (zBD.ok a1 a2 a3 a4) h7 (.own 0)) zB) ?_
 refine J_d 28 [] [12] [(12,iv 0)] [] [] zB ?_
 refine jS (K0:=(fun r:Bool=>some (bv r,[]))) (fun _=>rfl) (zDc.ok a5 x6 q _ (fun v25=>J_j ?_) 0)
 refine J_g 30 [] [(10,bv false)] [] zB ?_
 exact xR rfl
noncomputable def c159:Code:=(Tryz.f159.body).getD .skip
theorem zBK.ok (a1:(List Term)) (a2:(List ByteArray)) (q:Wd) (kn:Unit→Option (D×List Ent)) (hk:∀v:Unit,J (q.g Tryz.prog 159 0 19) c159 (atI c159 7) (St.mk' [] []) (some v) kn):
  ∀s9:Int,J (q.g Tryz.prog 159 0 19) c159 (atI c159 52) (St.mk' [(0,sl 7 Term.enc a1),(1,sl 1 eStr a2),(5,iv s9)] []) (zBK a1 a2 s9) (Fl.go (fun r:Bool=>some (bv r,[])) kn):=by
 refine kT (fun g ih s9=>?_)
 unfold zBm
 refine J_d 208 [] [9] [(9,bv (decide (s9< (a1.length:Int))))] [] [] zB ?_
 refine zG 9 (fun h10=>?_) (fun h10=>?_)
 ·refine zA (fun x11 h12=>?_)
  refine zA (fun x13 h14=>?_)
  refine J_d 840 [] [9,18] [(18,bv x13)] [] [] (zF 3 (tC (kk:=.i64) 80 104 7 Term.enc (.tmp 13) (.tmp 14) h12) (zF 6 (vM [(.tmp 12),(.tmp 17)] [32,9] (wR.ok a2 x11.Name) h14) zB)) ?_
  refine zG 18 (fun h15=>?_) (fun h15=>?_)
  ·refine J_g 3364 [] [(4,bv true)] [] zB ?_
   exact xR rfl
  ·refine J_d 211 [] [5,18] [(5,iv (w64 (s9+1)))] [] [] zB ?_
   exact J_q (J_b (ih (w64 (s9+1)))) rfl
 ·exact yO (hk ()) rfl
theorem jL.ok (a1:(List Term)) (a2:(List ByteArray)):Ok Tryz.prog 159 [sl 7 Term.enc a1,sl 1 eStr a2] [] ((jL a1 a2).map fun r=>(bv r,[])):=by
 refine zH c159 Tryz.f159 0 19 (fun q=>?_)
 unfold jL
 refine J_g 2 [] [(0,sl 7 Term.enc a1),(1,sl 1 eStr a2)] [] zB ?_
 refine J_d 12 [] [5] [(5,iv 0)] [] [] zB ?_
 refine jS (K0:=(fun r:Bool=>some (bv r,[]))) (fun _=>rfl) (zBK.ok a1 a2 q _ (fun v16=>J_j ?_) 0)
 refine J_g 14 [] [(4,bv false)] [] zB ?_
 exact xR rfl
noncomputable def c119:Code:=(Tryz.f119.body).getD .skip
theorem zAL.ok (a1:(List Pack)) (a2:(List Int)) (a3:(List ByteArray)) (a4:(List ByteArray)) (s36:Int) (x40:Pack) (q:Wd) (kn:Unit→Option (D×List Ent)) (hk:∀v:Unit,J (q.g Tryz.prog 119 0 46) c119 (aft c119 420) (St.mk' [(0,sl 8 (Pack.enc false) a1),(1,sl 1 zC a2),(2,sl 1 eStr a3),(3,sl 1 eStr a4),(9,iv s36)] []) (some v) kn):
  ∀s54:Int,J (q.g Tryz.prog 119 0 46) c119 (atI c119 6732) (St.mk' [(0,sl 8 (Pack.enc false) a1),(1,sl 1 zC a2),(2,sl 1 eStr a3),(3,sl 1 eStr a4),(9,iv s36),(10,sl 1 (eSl false 7 Term.enc) x40.Needs),(11,iv s54)] []) (zAL a1 a2 a3 a4 s36 x40 s54) (Fl.go (fun r:Bool=>some (bv r,[])) kn):=by
 refine kT (fun g ih s54=>?_)
 unfold zAt
 refine J_d 26928 [] [29] [(29,bv (decide (s54< (x40.Needs.length:Int))))] [] [] zB ?_
 refine zG 29 (fun h55=>?_) (fun h55=>?_)
 ·refine zA (fun x56 h57=>?_)
  refine zA (fun x58 h59=>?_)
  refine wC (atI c119 107721) (fun v65:Bool=>St.mk' [(0,sl 8 (Pack.enc false) a1),(1,sl 1 zC a2),(2,sl 1 eStr a3),(3,sl 1 eStr a4),(9,iv s36),(10,sl 1 (eSl false 7 Term.enc) x40.Needs),(11,iv s54),(45,bv v65)] []) (fun v65=>?_) (fun jv65=>?_)
  ·refine zG 45 (fun h66=>?_) (fun h66=>?_)
   ·refine J_g 430884 [] [(8,bv true)] [] zB ?_
    exact xR rfl
   ·refine J_d 26931 [] [11,45] [(11,iv (w64 (s54+1)))] [] [] zB ?_
    exact J_q (J_b (ih (w64 (s54+1)))) rfl
  ·refine vV (fun h60=>?_) (fun h60=>?_)
   ·refine zA (fun x61 h62=>?_)
    refine zA (fun x63 h64=>?_)
    refine J_d 107720 [] [29,45] [(45,bv x63)] [] [] (zF 2 (tC (kk:=.i64) 89 80 1 (eSl false 7 Term.enc) (.tmp 32) (.tmp 33) h57) (zF 5 (vM [(.tmp 35),(.tmp 36)] [80,32] (jL.ok x56 a3) h59) (vD 6 [(37,bv x58)] [] h60 (zBi 9 6 38 true (tC (kk:=.i64) 89 80 1 (eSl false 7 Term.enc) (.tmp 39) (.tmp 40) h62) (zBi 12 6 38 true (vM [(.tmp 42),(.tmp 43)] [80,32] (jL.ok x61 a4) h64) zB))))) ?_
    exact yO (J_j (jv65 x63)) rfl
   ·refine J_d 107720 [] [29,45] [(45,bv false)] [] [] (zF 2 (tC (kk:=.i64) 89 80 1 (eSl false 7 Term.enc) (.tmp 32) (.tmp 33) h57) (zF 5 (vM [(.tmp 35),(.tmp 36)] [80,32] (jL.ok x56 a3) h59) (vD 6 [(37,bv x58)] [] h60 zB))) ?_
    exact yO (J_j (jv65 false)) rfl
 ·exact yO (hk ()) rfl
theorem zAW.ok (a1:(List Pack)) (a2:(List Int)) (a3:(List ByteArray)) (a4:(List ByteArray)) (q:Wd) (kn:Unit→Option (D×List Ent)) (hk:∀v:Unit,J (q.g Tryz.prog 119 0 46) c119 (atI c119 7) (St.mk' [] []) (some v) kn):
  ∀s36:Int,J (q.g Tryz.prog 119 0 46) c119 (atI c119 52) (St.mk' [(0,sl 8 (Pack.enc false) a1),(1,sl 1 zC a2),(2,sl 1 eStr a3),(3,sl 1 eStr a4),(9,iv s36)] []) (zAW a1 a2 a3 a4 s36) (Fl.go (fun r:Bool=>some (bv r,[])) kn):=by
 refine kT (fun g ih s36=>?_)
 unfold zAm
 refine J_d 208 [] [15] [(15,bv (decide (s36< (a2.length:Int))))] [] [] zB ?_
 refine zG 15 (fun h37=>?_) (fun h37=>?_)
 ·refine zA (fun x38 h39=>?_)
  refine zA (fun x40 h41=>?_)
  refine J_g 840 [] [(0,sl 8 (Pack.enc false) a1),(1,sl 1 zC a2),(2,sl 1 eStr a3),(3,sl 1 eStr a4),(9,iv s36),(10,sl 1 (eSl false 7 Term.enc) x40.Needs)] [] (zF 3 (tC (kk:=.i64) 25 2 1 zC (.tmp 19) (.tmp 20) h39) (zF 5 (tC (kk:=.i64) 24 91 8 (Pack.enc false) (.tmp 18) (.tmp 22) h41) zB)) ?_
  refine J_d 1682 [] [11] [(11,iv 0)] [] [] zB ?_
  refine jS (K0:=(fun r:Bool=>some (bv r,[]))) (fun _=>rfl) (zAL.ok a1 a2 a3 a4 s36 x40 q _ (fun v67=>J_j ?_) 0)
  refine J_d 211 [] [9] [(9,iv (w64 (s36+1)))] [] [] zB ?_
  exact J_q (J_b (ih (w64 (s36+1)))) rfl
 ·exact yO (hk ()) rfl
theorem uK.ok (a1:(List Pack)) (a2:(List Int)) (a3:(List ByteArray)) (a4:(List ByteArray)):Ok Tryz.prog 119 [sl 8 (Pack.enc false) a1,sl 1 zC a2,sl 1 eStr a3,sl 1 eStr a4] [] ((uK a1 a2 a3 a4).map fun r=>(bv r,[])):=by
 refine zH c119 Tryz.f119 0 46 (fun q=>?_)
 unfold uK
 refine J_g 2 [] [(0,sl 8 (Pack.enc false) a1),(1,sl 1 zC a2),(2,sl 1 eStr a3),(3,sl 1 eStr a4)] [] zB ?_
 refine J_d 12 [] [9] [(9,iv 0)] [] [] zB ?_
 refine jS (K0:=(fun r:Bool=>some (bv r,[]))) (fun _=>rfl) (zAW.ok a1 a2 a3 a4 q _ (fun v68=>J_j ?_) 0)
 refine J_g 14 [] [(8,bv false)] [] zB ?_
 exact xR rfl
noncomputable def c65:Code:=(Tryz.f65.body).getD .skip
theorem uS.ok (a1:(List Pack)) (a2:(List Int)) (a3:(List Int)) (a4:ByteArray) (a5:ByteArray):Ok Tryz.prog 65 [sl 8 (Pack.enc false) a1,sl 1 zC a2,sl 1 zC a3,sv a4,sv a5] [] ((uS a1 a2 a3 a4 a5).map fun r=>(bv r,[])):=by
 refine zH c65 Tryz.f65 0 51 (fun q=>?_)
 unfold uS
 refine J_d 2 [] [] [] [] [] zB ?_
 refine zA (fun x6 h7=>?_)
 refine J_d 6 [] [11] [(11,rr 0 x6)] [0] [(0,rE 1 eStr x6)] (zF 4 (wQ («as»:=[sl 8 (Pack.enc false) a1,sl 1 zC a2,sl 1 zC a3,sv a4]) [(.tmp 13),(.tmp 14),(.tmp 15),(.tmp 16)] [24,25,25,9] false [] [] (.cons (.same rfl) (.cons (.same rfl) (.cons (.same rfl) (.cons (.same rfl) (.nil))))) (zAD.ok a1 a2 a3 a4) h7 (.own 0)) zB) ?_
 refine zA (fun x8 h9=>?_)
 refine J_d 14 [] [12] [(12,rr 1 x8)] [1] [(1,rE 1 eStr x8)] (zF 4 (wQ («as»:=[sl 8 (Pack.enc false) a1,sl 1 zC a2,sl 1 zC a3,sv a5]) [(.tmp 18),(.tmp 19),(.tmp 20),(.tmp 21)] [24,25,25,9] false [] [] (.cons (.same rfl) (.cons (.same rfl) (.cons (.same rfl) (.cons (.same rfl) (.nil))))) (zAD.ok a1 a2 a3 a5) h9 (.own 1)) zB) ?_
 refine zA (fun x10 h11=>?_)
 refine vV (fun h12=>?_) (fun h12=>?_)
 ·refine J_g 30 [] [(10,bv true)] [] (zF 5 (wQ («as»:=[sl 8 (Pack.enc false) a1,sl 1 zC a2,sl 1 zC a3,sv a4,rr 1 x8]) [(.tmp 23),(.tmp 24),(.tmp 25),(.tmp 26),(.tmp 27)] [24,25,25,9,32] true [(1,rE 1 eStr x8)] [] (.cons (.same rfl) (.cons (.same rfl) (.cons (.same rfl) (.cons (.same rfl) (.cons (zDH (.head _) (fun _=>rfl) rfl) (.nil)))))) (tL.ok a1 a2 a3 a4 x8) h11 (.same rfl rfl) (hbor:=fun _=>⟨fhN,xH⟩)) (vD 6 [(28,bv x10)] [] h12 zB)) ?_
  exact xR rfl
 ·refine zA (fun x13 h14=>?_)
  refine vV (fun h15=>?_) (fun h15=>?_)
  ·refine J_g 30 [] [(10,bv true)] [] (zF 5 (wQ («as»:=[sl 8 (Pack.enc false) a1,sl 1 zC a2,sl 1 zC a3,sv a4,rr 1 x8]) [(.tmp 23),(.tmp 24),(.tmp 25),(.tmp 26),(.tmp 27)] [24,25,25,9,32] true [(1,rE 1 eStr x8)] [] (.cons (.same rfl) (.cons (.same rfl) (.cons (.same rfl) (.cons (.same rfl) (.cons (zDH (.head _) (fun _=>rfl) rfl) (.nil)))))) (tL.ok a1 a2 a3 a4 x8) h11 (.same rfl rfl) (hbor:=fun _=>⟨fhN,xH⟩)) (vD 6 [(28,bv x10)] [] h12 (zBi 12 6 29 false (wQ («as»:=[sl 8 (Pack.enc false) a1,sl 1 zC a2,sl 1 zC a3,sv a5,rr 0 x6]) [(.tmp 30),(.tmp 31),(.tmp 32),(.tmp 33),(.tmp 34)] [24,25,25,9,32] true [(0,rE 1 eStr x6)] [] (.cons (.same rfl) (.cons (.same rfl) (.cons (.same rfl) (.cons (.same rfl) (.cons (zDH (.head _) (fun _=>rfl) rfl) (.nil)))))) (tL.ok a1 a2 a3 a5 x6) h14 (.same rfl rfl) (hbor:=fun _=>⟨fhN,xH⟩)) (vD 14 [(36,bv x13)] [] h15 zB)))) ?_
   exact xR rfl
  ·refine zA (fun x16 h17=>?_)
   refine vV (fun h18=>?_) (fun h18=>?_)
   ·refine J_g 30 [] [(10,bv true)] [] (zF 5 (wQ («as»:=[sl 8 (Pack.enc false) a1,sl 1 zC a2,sl 1 zC a3,sv a4,rr 1 x8]) [(.tmp 23),(.tmp 24),(.tmp 25),(.tmp 26),(.tmp 27)] [24,25,25,9,32] true [(1,rE 1 eStr x8)] [] (.cons (.same rfl) (.cons (.same rfl) (.cons (.same rfl) (.cons (.same rfl) (.cons (zDH (.head _) (fun _=>rfl) rfl) (.nil)))))) (tL.ok a1 a2 a3 a4 x8) h11 (.same rfl rfl) (hbor:=fun _=>⟨fhN,xH⟩)) (vD 6 [(28,bv x10)] [] h12 (zBi 12 6 29 false (wQ («as»:=[sl 8 (Pack.enc false) a1,sl 1 zC a2,sl 1 zC a3,sv a5,rr 0 x6]) [(.tmp 30),(.tmp 31),(.tmp 32),(.tmp 33),(.tmp 34)] [24,25,25,9,32] true [(0,rE 1 eStr x6)] [] (.cons (.same rfl) (.cons (.same rfl) (.cons (.same rfl) (.cons (.same rfl) (.cons (zDH (.head _) (fun _=>rfl) rfl) (.nil)))))) (tL.ok a1 a2 a3 a5 x6) h14 (.same rfl rfl) (hbor:=fun _=>⟨fhN,xH⟩)) (vD 14 [(36,bv x13)] [] h15 (zBi 19 14 37 false (wQ («as»:=[sl 8 (Pack.enc false) a1,sl 1 zC a2,rr 0 x6,rr 1 x8]) [(.tmp 38),(.tmp 39),(.tmp 40),(.tmp 41)] [24,25,32,32] true [(0,rE 1 eStr x6),(1,rE 1 eStr x8)] [] (.cons (.same rfl) (.cons (.same rfl) (.cons (zDH (.head _) (fun _=>rfl) rfl) (.cons (zDH (.tail _ (.head _)) (fun _=>rfl) rfl) (.nil))))) (uK.ok a1 a2 x6 x8) h17 (.same rfl rfl) (hbor:=fun _=>⟨fhN,xH⟩)) (vD 21 [(43,bv x16)] [] h18 zB)))))) ?_
    exact xR rfl
   ·refine zA (fun x19 h20=>?_)
    refine J_g 30 [] [(10,bv x19)] [] (zF 5 (wQ («as»:=[sl 8 (Pack.enc false) a1,sl 1 zC a2,sl 1 zC a3,sv a4,rr 1 x8]) [(.tmp 23),(.tmp 24),(.tmp 25),(.tmp 26),(.tmp 27)] [24,25,25,9,32] true [(1,rE 1 eStr x8)] [] (.cons (.same rfl) (.cons (.same rfl) (.cons (.same rfl) (.cons (.same rfl) (.cons (zDH (.head _) (fun _=>rfl) rfl) (.nil)))))) (tL.ok a1 a2 a3 a4 x8) h11 (.same rfl rfl) (hbor:=fun _=>⟨fhN,xH⟩)) (vD 6 [(28,bv x10)] [] h12 (zBi 12 6 29 false (wQ («as»:=[sl 8 (Pack.enc false) a1,sl 1 zC a2,sl 1 zC a3,sv a5,rr 0 x6]) [(.tmp 30),(.tmp 31),(.tmp 32),(.tmp 33),(.tmp 34)] [24,25,25,9,32] true [(0,rE 1 eStr x6)] [] (.cons (.same rfl) (.cons (.same rfl) (.cons (.same rfl) (.cons (.same rfl) (.cons (zDH (.head _) (fun _=>rfl) rfl) (.nil)))))) (tL.ok a1 a2 a3 a5 x6) h14 (.same rfl rfl) (hbor:=fun _=>⟨fhN,xH⟩)) (vD 14 [(36,bv x13)] [] h15 (zBi 19 14 37 false (wQ («as»:=[sl 8 (Pack.enc false) a1,sl 1 zC a2,rr 0 x6,rr 1 x8]) [(.tmp 38),(.tmp 39),(.tmp 40),(.tmp 41)] [24,25,32,32] true [(0,rE 1 eStr x6),(1,rE 1 eStr x8)] [] (.cons (.same rfl) (.cons (.same rfl) (.cons (zDH (.head _) (fun _=>rfl) rfl) (.cons (zDH (.tail _ (.head _)) (fun _=>rfl) rfl) (.nil))))) (uK.ok a1 a2 x6 x8) h17 (.same rfl rfl) (hbor:=fun _=>⟨fhN,xH⟩)) (vD 21 [(43,bv x16)] [] h18 (zBi 26 21 44 false (wQ («as»:=[sl 8 (Pack.enc false) a1,sl 1 zC a3,rr 0 x6,rr 1 x8]) [(.tmp 45),(.tmp 46),(.tmp 47),(.tmp 48)] [24,25,32,32] true [(0,rE 1 eStr x6),(1,rE 1 eStr x8)] [] (.cons (.same rfl) (.cons (.same rfl) (.cons (zDH (.head _) (fun _=>rfl) rfl) (.cons (zDH (.tail _ (.head _)) (fun _=>rfl) rfl) (.nil))))) (uK.ok a1 a3 x6 x8) h20 (.same rfl rfl) (hbor:=fun _=>⟨fhN,xH⟩)) zB))))))) ?_
    exact xR rfl
noncomputable def c33:Code:=(Tryz.f33.body).getD .skip
theorem zCC.ok (a1:(List Pack)) (a2:(List Int)) (a3:(List Int)) (s206:((List ByteArray)×(List (List ByteArray)))) (s337:((List ByteArray)×Bool×Int)) (q:Wd) (kn:((List ByteArray)×Bool)→Option (D×List Ent)) (hk:∀v:((List ByteArray)×Bool),J (q.g Tryz.prog 33 0 94) c33 (aft c33 7909732) (St.mk' [(0,sl 8 (Pack.enc false) a1),(1,sl 1 zC a2),(2,sl 1 zC a3),(7,rr 0 s206.1),(8,rr 1 s206.2),(9,rr 2 v.1),(10,bv v.2),(11,iv s337.2.2)] [(0,rE 1 eStr s206.1),(1,rE 1 (eSl true 1 eStr) s206.2),(2,rE 1 eStr v.1)]) (some v) kn):
  ∀s358:((List ByteArray)×Bool×Int),J (q.g Tryz.prog 33 0 94) c33 (atI c33 63277860) (St.mk' [(0,sl 8 (Pack.enc false) a1),(1,sl 1 zC a2),(2,sl 1 zC a3),(7,rr 0 s206.1),(8,rr 1 s206.2),(9,rr 2 s358.1),(10,bv s358.2.1),(11,iv s337.2.2),(12,iv s358.2.2)] [(0,rE 1 eStr s206.1),(1,rE 1 (eSl true 1 eStr) s206.2),(2,rE 1 eStr s358.1)]) (zCC a1 a2 a3 s206 s337 s358) kn:=by
 refine kT (fun g ih s358=>?_)
 unfold zCe
 refine wC (atI c33 253111441) (fun v364:Bool=>St.mk' [(0,sl 8 (Pack.enc false) a1),(1,sl 1 zC a2),(2,sl 1 zC a3),(7,rr 0 s206.1),(8,rr 1 s206.2),(9,rr 2 s358.1),(10,bv s358.2.1),(11,iv s337.2.2),(12,iv s358.2.2),(46,bv v364)] [(0,rE 1 eStr s206.1),(1,rE 1 (eSl true 1 eStr) s206.2),(2,rE 1 eStr s358.1)]) (fun v364=>?_) (fun jv364=>?_)
 ·refine zG 46 (fun h365=>?_) (fun h365=>?_)
  ·refine zA (fun x366 h367=>?_)
   refine zA (fun x368 h369=>?_)
   refine zA (fun x370 h371=>?_)
   refine J_d 1012445768 [] [46,60] [(60,bv x370)] [] [] (zF 5 (zAf (kk:=.i64) 32 9 1 2 eStr (.tmp 52) (.tmp 53) h367) (zF 6 (zAi (d:=sv x366) 9 1 2 0 eStr (.tmp 54) h367 (by kernel_rfl)) (zF 9 (zAf (kk:=.i64) 32 9 1 0 eStr (.tmp 56) (.tmp 57) h369) (zF 10 (zAi (d:=sv x368) 9 1 0 0 eStr (.tmp 58) h369 (by kernel_rfl)) (zF 11 (vM [(.tmp 49),(.tmp 50),(.tmp 51),(.tmp 55),(.tmp 59)] [24,25,25,9,9] (uS.ok a1 a2 a3 x366 x368) h371) zB))))) ?_
   refine wC (aft c33 506222884) (fun v377:((List ByteArray)×Bool)=>St.mk' [(0,sl 8 (Pack.enc false) a1),(1,sl 1 zC a2),(2,sl 1 zC a3),(7,rr 0 s206.1),(8,rr 1 s206.2),(9,rr 3 v377.1),(10,bv v377.2),(11,iv s337.2.2),(12,iv s358.2.2)] [(0,rE 1 eStr s206.1),(1,rE 1 (eSl true 1 eStr) s206.2),(3,rE 1 eStr v377.1)]) (fun v377=>?_) (fun jv377=>?_)
   ·refine J_d 253111443 [] [12] [(12,iv (w64 (s358.2.2+1)))] [] [] zB ?_
    refine vJ 3 2 (Nat.le_of_ble_eq_true rfl) (Nat.le_of_ble_eq_true rfl) ?_
    exact J_q (J_b (ih (v377.1,v377.2,w64 (s358.2.2+1)))) rfl
   ·refine zG 60 (fun h372=>?_) (fun h372=>?_)
    ·refine zA (fun x373 h374=>?_)
     refine zA (fun x375 h376=>?_)
     refine J_g 4049783076 [] [(0,sl 8 (Pack.enc false) a1),(1,sl 1 zC a2),(2,sl 1 zC a3),(7,rr 0 s206.1),(8,rr 1 s206.2),(9,rr 3 x375),(11,iv s337.2.2),(12,iv s358.2.2)] [(0,rE 1 eStr s206.1),(1,rE 1 (eSl true 1 eStr) s206.2),(3,rE 1 eStr x375)] (zF 3 (zAf (kk:=.i64) 32 9 1 0 eStr (.tmp 62) (.tmp 63) h374) (zF 4 (zAi (d:=sv x373) 9 1 0 0 eStr (.tmp 64) h374 (by kernel_rfl)) (zF 5 (wQ («as»:=[rr 2 s358.1,sv x373]) [(.tmp 61),(.tmp 65)] [32,9] false [(2,rE 1 eStr s358.1)] [2] (.cons (.rf rfl) (.cons (.same rfl) (.nil))) (uG.ok s358.1 x373) h376 (.own 3)) zB))) ?_
     refine J_d 4049783077 [] [10] [(10,bv true)] [] [] zB ?_
     exact yO (J_j (jv377 (x375,true))) rfl
    ·refine vJ 2 3 (Nat.le_of_ble_eq_true rfl) (Nat.le_of_ble_eq_true rfl) ?_
     exact yO (J_j (jv377 (s358.1,s358.2.1))) rfl
  ·exact yO (hk (s358.1,s358.2.1)) rfl
 ·refine vV (fun h359=>?_) (fun h359=>?_)
  ·refine zA (fun x360 h361=>?_)
   refine zA (fun x362 h363=>?_)
   refine J_d 253111440 [] [46] [(46,bv (!x362))] [] [] (vD 4 [(37,bv (decide (s358.2.2< (s358.1.length:Int))))] [] h359 (zBi 8 4 38 true (zAf (kk:=.i64) 32 9 1 0 eStr (.tmp 40) (.tmp 41) h361) (zBi 9 4 38 true (zAi (d:=sv x360) 9 1 0 0 eStr (.tmp 42) h361 (by kernel_rfl)) (zBi 10 4 38 true (wQ («as»:=[rr 2 s358.1,sv x360]) [(.tmp 39),(.tmp 43)] [32,9] true [(2,rE 1 eStr s358.1)] [] (.cons (zDH (.head _) (fun _=>rfl) rfl) (.cons (.same rfl) (.nil))) (wR.ok s358.1 x360) h363 (.same rfl rfl) (hbor:=fun _=>⟨fhN,xH⟩)) zB)))) ?_
   exact yO (J_j (jv364 (!x362))) rfl
  ·refine J_d 253111440 [] [46] [(46,bv false)] [] [] (vD 4 [(37,bv (decide (s358.2.2< (s358.1.length:Int))))] [] h359 zB) ?_
   exact yO (J_j (jv364 false)) rfl
theorem zC3.ok (a1:(List Pack)) (a2:(List Int)) (a3:(List Int)) (s206:((List ByteArray)×(List (List ByteArray)))) (q:Wd) (kn:((List ByteArray)×Bool)→Option (D×List Ent)) (hk:∀v:((List ByteArray)×Bool),J (q.g Tryz.prog 33 0 94) c33 (aft c33 61794) (St.mk' [(0,sl 8 (Pack.enc false) a1),(1,sl 1 zC a2),(2,sl 1 zC a3),(7,rr 0 s206.1),(8,rr 1 s206.2),(9,rr 2 v.1),(10,bv v.2)] [(0,rE 1 eStr s206.1),(1,rE 1 (eSl true 1 eStr) s206.2),(2,rE 1 eStr v.1)]) (some v) kn):
  ∀s337:((List ByteArray)×Bool×Int),J (q.g Tryz.prog 33 0 94) c33 (atI c33 988716) (St.mk' [(0,sl 8 (Pack.enc false) a1),(1,sl 1 zC a2),(2,sl 1 zC a3),(7,rr 0 s206.1),(8,rr 1 s206.2),(9,rr 2 s337.1),(10,bv s337.2.1),(11,iv s337.2.2)] [(0,rE 1 eStr s206.1),(1,rE 1 (eSl true 1 eStr) s206.2),(2,rE 1 eStr s337.1)]) (zC3 a1 a2 a3 s206 s337) kn:=by
 refine kT (fun g ih s337=>?_)
 unfold zA6
 refine J_d 3954864 [] [31] [(31,bv (decide (s337.2.2< (s206.1.length:Int))))] [] [] zB ?_
 refine zG 31 (fun h338=>?_) (fun h338=>?_)
 ·refine J_d 15819464 [] [12,31] [(12,iv 0)] [] [] zB ?_
  refine zEa (zCC.ok a1 a2 a3 s206 s337 q _ (fun v378=>J_j ?_) (s337.1,s337.2.1,0))
  refine J_d 3954867 [] [11] [(11,iv (w64 (s337.2.2+1)))] [] [] zB ?_
  exact J_q (J_b (ih (v378.1,v378.2,w64 (s337.2.2+1)))) rfl
 ·exact yO (hk (s337.1,s337.2.1)) rfl
theorem zBk.ok (a1:(List Pack)) (a2:(List Int)) (a3:(List Int)) (s206:((List ByteArray)×(List (List ByteArray)))) (v380:(List ByteArray)) (q:Wd) (kn:(List ByteArray)→Option (D×List Ent)) (hk:∀v:(List ByteArray),J (q.g Tryz.prog 33 0 94) c33 (atI c33 15455) (St.mk' [(0,sl 8 (Pack.enc false) a1),(1,sl 1 zC a2),(2,sl 1 zC a3),(8,rr 1 s206.2),(9,rr 2 v380),(13,rr 3 v)] [(1,rE 1 (eSl true 1 eStr) s206.2),(2,rE 1 eStr v380),(3,rE 1 eStr v)]) (some v) kn):
  ∀s392:((List ByteArray)×Int),J (q.g Tryz.prog 33 0 94) c33 (atI c33 123636) (St.mk' [(0,sl 8 (Pack.enc false) a1),(1,sl 1 zC a2),(2,sl 1 zC a3),(7,rr 0 s206.1),(8,rr 1 s206.2),(9,rr 2 v380),(13,rr 3 s392.1),(14,iv s392.2)] [(0,rE 1 eStr s206.1),(1,rE 1 (eSl true 1 eStr) s206.2),(2,rE 1 eStr v380),(3,rE 1 eStr s392.1)]) (zBk a1 a2 a3 s206 v380 s392) kn:=by
 refine kT (fun g ih s392=>?_)
 unfold zBJ
 refine J_d 494544 [] [71] [(71,bv (decide (s392.2< (s206.1.length:Int))))] [] [] zB ?_
 refine zG 71 (fun h393=>?_) (fun h393=>?_)
 ·refine zA (fun x394 h395=>?_)
  refine zA (fun x396 h397=>?_)
  refine J_d 1978184 [] [71,80] [(80,bv (!x396))] [] [] (zF 3 (zAf (kk:=.i64) 32 9 1 0 eStr (.tmp 75) (.tmp 76) h395) (zF 4 (zAi (d:=sv x394) 9 1 0 0 eStr (.tmp 77) h395 (by kernel_rfl)) (zF 5 (wQ («as»:=[rr 2 v380,sv x394]) [(.tmp 74),(.tmp 78)] [32,9] true [(2,rE 1 eStr v380)] [] (.cons (zDH (.head _) (fun _=>rfl) rfl) (.cons (.same rfl) (.nil))) (wR.ok v380 x394) h397 (.same rfl rfl) (hbor:=fun _=>⟨fhN,xH⟩)) zB))) ?_
  refine wC (aft c33 989092) (fun v403:(List ByteArray)=>St.mk' [(0,sl 8 (Pack.enc false) a1),(1,sl 1 zC a2),(2,sl 1 zC a3),(7,rr 0 s206.1),(8,rr 1 s206.2),(9,rr 2 v380),(13,rr 5 v403),(14,iv s392.2)] [(0,rE 1 eStr s206.1),(1,rE 1 (eSl true 1 eStr) s206.2),(2,rE 1 eStr v380),(5,rE 1 eStr v403)]) (fun v403=>?_) (fun jv403=>?_)
  ·refine J_d 494547 [] [14] [(14,iv (w64 (s392.2+1)))] [] [] zB ?_
   refine vJ 5 3 (Nat.le_of_ble_eq_true rfl) (Nat.le_of_ble_eq_true rfl) ?_
   exact J_q (J_b (ih (v403,w64 (s392.2+1)))) rfl
  ·refine zG 80 (fun h398=>?_) (fun h398=>?_)
   ·refine zA (fun x399 h400=>?_)
    refine zA (fun x401 h402=>?_)
    refine J_d 3956370 [] [13,80] [(13,rr 5 x401)] [3,5] [(5,rE 1 eStr x401)] (zF 3 (zAf (kk:=.i64) 32 9 1 0 eStr (.tmp 82) (.tmp 83) h400) (zF 4 (zAi (d:=sv x399) 9 1 0 0 eStr (.tmp 84) h400 (by kernel_rfl)) (zF 5 (zA2 32 9 1 4 eStr [x399] [0] [(.tmp 85)] [sv x399]) (zF 6 (zEk 32 32 9 9 1 16 5 3 4 eStr (.tmp 81) (.tmp 86) h402) zB)))) ?_
    exact yO (J_j (jv403 x401)) rfl
   ·refine vJ 3 5 (Nat.le_of_ble_eq_true rfl) (Nat.le_of_ble_eq_true rfl) ?_
    exact yO (J_j (jv403 s392.1)) rfl
 ·exact yO (hk s392.1) rfl
theorem zB0.ok (a1:(List Pack)) (a2:(List Int)) (a3:(List Int)) (s206:((List ByteArray)×(List (List ByteArray)))) (q:Wd) (kn:(List ByteArray)→Option (D×List Ent)) (hk:∀v:(List ByteArray),J (q.g Tryz.prog 33 0 94) c33 (atI c33 3863) (St.mk' [(0,sl 8 (Pack.enc false) a1),(1,sl 1 zC a2),(2,sl 1 zC a3),(7,rr 0 s206.1),(8,rr 1 s206.2),(9,rr 2 v)] [(0,rE 1 eStr s206.1),(1,rE 1 (eSl true 1 eStr) s206.2),(2,rE 1 eStr v)]) (some v) kn):
  ∀s294:((List ByteArray)×Bool),J (q.g Tryz.prog 33 0 94) c33 (atI c33 15448) (St.mk' [(0,sl 8 (Pack.enc false) a1),(1,sl 1 zC a2),(2,sl 1 zC a3),(7,rr 0 s206.1),(8,rr 1 s206.2),(9,rr 2 s294.1),(10,bv s294.2)] [(0,rE 1 eStr s206.1),(1,rE 1 (eSl true 1 eStr) s206.2),(2,rE 1 eStr s294.1)]) (zB0 a1 a2 a3 s206 s294) kn:=by
 refine kT (fun g ih s294=>?_)
 unfold zDj
 refine J_d 61792 [] [10,27] [(27,bv s294.2)] [] [] zB ?_
 refine zG 27 (fun h295=>?_) (fun h295=>?_)
 ·refine J_g 123588 [] [(0,sl 8 (Pack.enc false) a1),(1,sl 1 zC a2),(2,sl 1 zC a3),(7,rr 0 s206.1),(8,rr 1 s206.2),(9,rr 2 s294.1),(10,bv false)] [(0,rE 1 eStr s206.1),(1,rE 1 (eSl true 1 eStr) s206.2),(2,rE 1 eStr s294.1)] zB ?_
  refine J_d 247178 [] [11] [(11,iv 0)] [] [] zB ?_
  refine zEa (zC3.ok a1 a2 a3 s206 q _ (fun v379=>J_j ?_) (s294.1,false,0))
  exact J_q (J_b (ih (v379.1,v379.2))) rfl
 ·exact yO (hk s294.1) rfl
theorem jY.ok (a1:(List Pack)) (a2:(List Int)) (a3:(List Int)) (q:Wd) (kn:(List (List ByteArray))→Option (D×List Ent)) (hk:∀v:(List (List ByteArray)),J (q.g Tryz.prog 33 0 94) c33 (atI c33 31) (St.mk' [(8,rr 1 v)] [(1,rE 1 (eSl true 1 eStr) v)]) (some v) kn):
  ∀s206:((List ByteArray)×(List (List ByteArray))),J (q.g Tryz.prog 33 0 94) c33 (atI c33 120) (St.mk' [(0,sl 8 (Pack.enc false) a1),(1,sl 1 zC a2),(2,sl 1 zC a3),(7,rr 0 s206.1),(8,rr 1 s206.2)] [(0,rE 1 eStr s206.1),(1,rE 1 (eSl true 1 eStr) s206.2)]) (jY a1 a2 a3 s206) kn:=by
 refine kT (fun g ih s206=>?_)
 unfold zCd
 refine J_d 480 [] [22] [(22,bv (decide ((s206.1.length:Int)>0)))] [] [] zB ?_
 refine zG 22 (fun h207=>?_) (fun h207=>?_)
 ·refine zA (fun x208 h209=>?_)
  refine J_g 964 [] [(0,sl 8 (Pack.enc false) a1),(1,sl 1 zC a2),(2,sl 1 zC a3),(7,rr 0 s206.1),(8,rr 1 s206.2),(9,rr 2 [x208])] [(0,rE 1 eStr s206.1),(1,rE 1 (eSl true 1 eStr) s206.2),(2,rE 1 eStr [x208])] (zF 1 (zAf (kk:=.i64) 32 9 1 0 eStr (.tmp 23) (.const (.int .i64 0)) h209) (zF 2 (zAi (d:=sv x208) 9 1 0 0 eStr (.tmp 24) h209 (by kernel_rfl)) (zF 3 (zA2 32 9 1 2 eStr [x208] [0] [(.tmp 25)] [sv x208]) zB))) ?_
  refine J_d 1930 [] [10] [(10,bv true)] [] [] zB ?_
  refine zEa (zB0.ok a1 a2 a3 s206 q _ (fun v380=>J_j ?_) ([x208],true))
  refine J_g 7726 [] [(0,sl 8 (Pack.enc false) a1),(1,sl 1 zC a2),(2,sl 1 zC a3),(7,rr 0 s206.1),(8,rr 1 s206.2),(9,rr 2 v380),(13,rr 3 ([]:List ByteArray))] [(0,rE 1 eStr s206.1),(1,rE 1 (eSl true 1 eStr) s206.2),(2,rE 1 eStr v380),(3,rE 1 eStr ([]:List ByteArray))] (zF 0 (zA2 32 9 1 3 eStr ([]:List ByteArray) [] [] []) zB) ?_
  refine J_d 30908 [] [14] [(14,iv 0)] [] [] zB ?_
  refine zEa (zBk.ok a1 a2 a3 s206 v380 q _ (fun v404=>J_j ?_) (([]:List ByteArray),0))
  refine J_d 30910 [] [7,13] [(7,rr 3 v404)] [] [] zB ?_
  refine zA (fun x405 h406=>?_)
  refine J_d 30911 [] [8,9] [(8,rr 5 x405)] [1,2,5] [(5,rE 1 (eSl true 1 eStr) x405)] (zF 2 (zLF (ds:=[rr 2 v380]) (ts:=[2]) 28 32 1 4 (eSl true 1 eStr) [v380] [0] [(.tmp 90)] [rr 2 v380] [(2,rE 1 eStr v380)] (.move (.head _) (List.length_map _) (by decide) (.nil))) (zF 3 (zEk 28 28 32 32 1 24 5 1 4 (eSl true 1 eStr) (.tmp 89) (.tmp 91) h406) zB)) ?_
  refine vJ 3 0 (Nat.le_of_ble_eq_true rfl) (Nat.le_of_ble_eq_true rfl) ?_
  refine vJ 5 1 (Nat.le_of_ble_eq_true rfl) (Nat.le_of_ble_eq_true rfl) ?_
  exact J_q (J_b (ih (v404,x405))) rfl
 ·exact yO (hk s206.2) rfl
theorem zCs.ok (a1:(List Pack)) (a2:(List Int)) (a3:(List Int)):Ok Tryz.prog 33 [sl 8 (Pack.enc false) a1,sl 1 zC a2,sl 1 zC a3] [] ((zCs a1 a2 a3).map fun r=>(so 1 (eSl true 1 eStr) r,[])):=by
 refine zH c33 Tryz.f33 0 94 (fun q=>?_)
 unfold zCs
 refine J_d 2 [] [] [] [] [] zB ?_
 refine zA (fun x4 h5=>?_)
 refine J_g 6 [] [(0,sl 8 (Pack.enc false) a1),(1,sl 1 zC a2),(2,sl 1 zC a3),(7,rr 0 x4)] [(0,rE 1 eStr x4)] (zF 3 (wQ («as»:=[sl 8 (Pack.enc false) a1,sl 1 zC a2,sl 1 zC a3]) [(.tmp 15),(.tmp 16),(.tmp 17)] [24,25,25] false [] [] (.cons (.same rfl) (.cons (.same rfl) (.cons (.same rfl) (.nil)))) (kW.ok a1 a2 a3) h5 (.own 0)) zB) ?_
 refine J_d 14 [] [8] [(8,rr 1 ([]:List (List ByteArray)))] [1] [(1,rE 1 (eSl false 1 eStr) ([]:List (List ByteArray)))] (zF 0 (zA2 28 32 1 1 (eSl false 1 eStr) ([]:List (List ByteArray)) [] [] []) zB) ?_
 refine zEa (jY.ok a1 a2 a3 q _ (fun v407=>J_j ?_) (x4,([]:List (List ByteArray))))
 refine J_g 62 [] [(6,rr 1 v407)] [(1,rE 1 (eSl true 1 eStr) v407)] zB ?_
 exact zDJ (ds:=[rr 1 v407]) (ds':=[so 1 (eSl true 1 eStr) v407]) (.cons (.cell (.move (.head _) (List.length_map _) (by decide) (.nil))) (.nil) (by decide)) rfl
noncomputable def c10:Code:=(Tryz.f10.body).getD .skip
theorem zC7.ok (a1:(List Pack)) (a2:(List Int)) (a3:(List Int)):Ok Tryz.prog 10 [sl 8 (Pack.enc false) a1,sl 1 zC a2,sl 1 zC a3] [] ((zC7 a1 a2 a3).map fun r=>(.ag (xX.enc true r),[])):=by
 refine zH c10 Tryz.f10 0 21 (fun q=>?_)
 unfold zC7
 refine J_d 2 [(0,0)] [6] [(6,pp 0)] [0] [(0,.box [iv 0,nv])] zB ?_
 refine zA (fun x4 h5=>?_)
 refine J_g 12 [] [(0,sl 8 (Pack.enc false) a1),(1,sl 1 zC a2),(2,sl 1 zC a3),(6,pp 0),(7,iv x4)] [(0,.box [iv 0,nv])] (zF 3 (vM [(.tmp 8),(.tmp 9),(.tmp 10)] [24,25,25] (zCF.ok a1 a2 a3) h5) zB) ?_
 refine J_d 26 [] [13] [(13,bv (x4 !=0))] [] [] zB ?_
 refine zG 13 (fun h6=>?_) (fun h6=>?_)
 ·refine J_g 108 [] [(6,pp 0)] [(0,.box [iv x4,nv])] zB ?_
  exact zDJ (ds:=[.ag [iv x4,nv]]) (ds':=[.ag [iv x4,so 1 (eSl true 1 eStr) ([]:List (List ByteArray))]]) (.cons (.ag (.keep rfl (.nilsl true 1 (.nil)))) (.nil) (by decide)) rfl
 ·refine zA (fun x7 h8=>?_)
  refine J_g 14 [] [(6,pp 0)] [(0,.box [iv 0,rr 1 x7]),(1,rE 1 (eSl true 1 eStr) x7)] (zF 3 (wQ («as»:=[sl 8 (Pack.enc false) a1,sl 1 zC a2,sl 1 zC a3]) [(.tmp 16),(.tmp 17),(.tmp 18)] [24,25,25] false [] [] (.cons (.same rfl) (.cons (.same rfl) (.cons (.same rfl) (.nil)))) (zCs.ok a1 a2 a3) h8 (.own 1)) zB) ?_
  exact zDJ (ds:=[.ag [iv 0,rr 1 x7]]) (ds':=[.ag [iv 0,so 1 (eSl true 1 eStr) x7]]) (.cons (.ag (.keep rfl (.move (.tail _ (.head _)) (List.length_map _) (by decide) (.nil)))) (.nil) (by decide)) rfl
noncomputable def zOj:Code:=(Tryz.f103.body).getD .skip
theorem vH.ok (a1:(List Int)):Ok Tryz.prog 103 [sl 1 zC a1] [] ((vH a1).map fun r=>(so 1 zC r,[])):=by
 refine zH zOj Tryz.f103 0 8 (fun q=>?_)
 unfold vH
 refine J_g 2 [] [(0,sl 1 zC a1)] [] zB ?_
 refine J_d 12 [] [4] [(4,.nb a1.length)] [] [] (zF 1 (zMe (xs:=a1) 25 2 25 1 zC (.tmp 3)) zB) ?_
 refine zNT 4 rfl (fun h2=>?_) ?_
 ·obtain rfl:a1=[]:=List.eq_nil_of_length_eq_zero h2
  refine zNd (e':=some ([]:List Int)) (by kernel_rfl) ?_
  refine J_g 52 [] [(2,nv)] [] zB ?_
  exact zDJ (ds:=[nv]) (ds':=[so 1 zC ([]:List Int)]) (.cons (.cell (.nilsl true 1 (.nil))) (.nil) (by decide)) rfl
 ·refine zA (fun x3 h4=>?_)
  refine J_g 14 [] [(2,rr 1 x3)] [(1,rE 1 zC x3)] (zF 0 (zA2 25 2 1 0 zC ([]:List Int) [] [] []) (zF 2 (zHB 25 25 2 2 1 8 1 0 zC (.tmp 5) (.tmp 6) h4) zB)) ?_
  exact zDJ (ds:=[rr 1 x3]) (ds':=[so 1 zC x3]) (.cons (.cell (.move (.head _) (List.length_map _) (by decide) (.nil))) (.nil) (by decide)) rfl
noncomputable def c87:Code:=(Tryz.f87.body).getD .skip
theorem zAJ.ok (a1:Int) (a2:(List ByteArray)) (a3:(List Pack)):Ok Tryz.prog 87 [iv a1,pp 0,pp 1] [.box [sl 1 eStr a2],.box [sl 8 (Pack.enc false) a3]] ((zAJ a1 a2 a3).map fun r=>(bv r,[.box [sl 1 eStr a2],.box [sl 8 (Pack.enc false) a3]])):=by
 refine zH c87 Tryz.f87 2 12 (fun q=>?_)
 unfold zAJ
 refine J_d 2 [] [] [] [] [] zB ?_
 refine zA (fun x4 h5=>?_)
 refine zA (fun x6 h7=>?_)
 refine J_d 6 [] [0,1,2,4] [(4,bv x6)] [] [] (zF 3 (tC (kk:=.i64) 24 91 8 (Pack.enc false) (.tmp 6) (.tmp 7) h5) (zF 6 (vM [(.tmp 5),(.tmp 10)] [32,9] (yP.ok a2 x4.Name) h7) zB)) ?_
 exact xR rfl
noncomputable def c89:Code:=(Tryz.f89.body).getD .skip
theorem vL.ok (a1:Int) (a2:(List ByteArray)) (a3:(List Pack)):Ok Tryz.prog 89 [iv a1,.pb [.fn 87 [pp 0,pp 1]]] [.box [sl 1 eStr a2],.box [sl 8 (Pack.enc false) a3]] ((vL a1 a2 a3).map fun r=>(bv r,[.box [sl 1 eStr a2],.box [sl 8 (Pack.enc false) a3]])):=by
 refine zH c89 Tryz.f89 2 8 (fun q=>?_)
 unfold vL
 refine J_d 2 [] [] [] [] [] zB ?_
 refine zA (fun x4 h5=>?_)
 refine J_d 6 [] [0,1,3] [(3,bv (!x4))] [] [] (zF 0 (zJb (d:=.fn 87 [pp 0,pp 1]) 110 (.tmp 1) [.fn 87 [pp 0,pp 1]]) (zF 2 (zEm [(0,.box [sl 1 eStr a2]),(1,.box [sl 8 (Pack.enc false) a3])] [] (zEf 4 [(.tmp 5)] [2] false [(0,.box [sl 1 eStr a2]),(1,.box [sl 8 (Pack.enc false) a3])] [0,1] [iv a1] [pp 0,pp 1] (.cons (.same rfl) (.cons (.pt rfl) (.cons (.pt rfl) (.nil)))) (zAJ.ok a1 a2 a3) h5 (.same rfl rfl))) zB)) ?_
 exact xR rfl
noncomputable def zNL:Code:=(Tryz.f137.body).getD .skip
theorem zT.ok (a1:Int) (a2:(List ByteArray)) (a3:(List Pack)):Ok Tryz.prog 137 [iv a1,.pb [.fn 89 [.pb [.fn 87 [pp 0,pp 1]]]]] [.box [sl 1 eStr a2],.box [sl 8 (Pack.enc false) a3]] ((zT a1 a2 a3).map fun r=>(bv r,[.box [sl 1 eStr a2],.box [sl 8 (Pack.enc false) a3]])):=by
 refine zH zNL Tryz.f137 2 8 (fun q=>?_)
 unfold zT
 refine J_d 2 [] [] [] [] [] zB ?_
 refine zA (fun x4 h5=>?_)
 refine J_d 6 [] [0,1,3] [(3,bv (!x4))] [] [] (zF 0 (zJb (d:=.fn 89 [.pb [.fn 87 [pp 0,pp 1]]]) 110 (.tmp 1) [.fn 89 [.pb [.fn 87 [pp 0,pp 1]]]]) (zF 2 (zEm [(0,.box [sl 1 eStr a2]),(1,.box [sl 8 (Pack.enc false) a3])] [] (zEf 4 [(.tmp 5)] [2] false [(0,.box [sl 1 eStr a2]),(1,.box [sl 8 (Pack.enc false) a3])] [0,1] [iv a1] [.pb [.fn 87 [pp 0,pp 1]]] (.cons (.same rfl) (.cons (.pb (.cons (.fn (.cons (.pt rfl) (.cons (.pt rfl) (.nil)))) (.nil))) (.nil))) (vL.ok a1 a2 a3) h5 (.same rfl rfl))) zB)) ?_
 exact xR rfl
theorem yA.ok (a1:(List Int)) (a2:(List ByteArray)) (a3:(List Pack)) (q:Wd) (kn:Unit→Option (D×List Ent)) (hk:∀v:Unit,J (q.g Tryz.prog 167 3 19) c167 (atI c167 7) (St.mk' [] [(0,rE 1 zC a1),(1,.box [sl 1 eStr a2]),(2,.box [sl 8 (Pack.enc false) a3])]) (some v) kn):
  ∀s10:Int,J (q.g Tryz.prog 167 3 19) c167 (atI c167 52) (St.mk' [(0,rr 0 a1),(1,.fn 137 [.pb [.fn 89 [.pb [.fn 87 [pp 1,pp 2]]]]]),(7,iv (a1.length:Int)),(8,iv s10)] [(0,rE 1 zC a1),(1,.box [sl 1 eStr a2]),(2,.box [sl 8 (Pack.enc false) a3])]) (yA a1 a2 a3 s10) (Fl.go (fun r:Int=>some (iv r,[rE 1 zC a1,.box [sl 1 eStr a2],.box [sl 8 (Pack.enc false) a3]])) kn):=by
 refine kT (fun g ih s10=>?_)
 unfold zP
 refine J_d 104 [] [9] [(9,bv (decide (s10< (a1.length:Int))))] [] [] zB ?_
 refine zG 9 (fun h11=>?_) (fun h11=>?_)
 ·refine J_d 1688 [] [5,9] [(5,iv s10)] [] [] zB ?_
  refine zA (fun x12 h13=>?_)
  refine zA (fun x14 h15=>?_)
  refine J_d 3378 [] [16] [(16,bv x14)] [] [] (zF 3 (zAf (kk:=.i64) 25 2 1 0 zC (.tmp 12) (.tmp 13) h13) (zF 4 (zAi (d:=iv x12) 2 1 0 0 zC (.tmp 14) h13 (by kernel_rfl)) (zF 5 (zEm [(1,.box [sl 1 eStr a2]),(2,.box [sl 8 (Pack.enc false) a3])] [] (zEf 11 [(.tmp 15)] [2] false [(1,.box [sl 1 eStr a2]),(2,.box [sl 8 (Pack.enc false) a3])] [1,2] [iv x12] [.pb [.fn 89 [.pb [.fn 87 [pp 1,pp 2]]]]] (.cons (.same rfl) (.cons (.pb (.cons (.fn (.cons (.pb (.cons (.fn (.cons (.pt rfl) (.cons (.pt rfl) (.nil)))) (.nil))) (.nil))) (.nil))) (.nil))) (zT.ok x12 a2 a3) h15 (.same rfl rfl))) zB))) ?_
  refine zG 16 (fun h16=>?_) (fun h16=>?_)
  ·refine J_d 13516 [] [0,1,4,5,7,8,16] [(4,iv s10)] [] [] zB ?_
   exact xR rfl
  ·refine J_d 423 [] [5,8,16] [(8,iv (w64 (s10+1)))] [] [] zB ?_
   exact J_q (J_b (ih (w64 (s10+1)))) rfl
 ·exact yO (hk ()) rfl
theorem zR.ok (a1:(List Int)) (a2:(List ByteArray)) (a3:(List Pack)):Ok Tryz.prog 167 [rr 0 a1,.fn 137 [.pb [.fn 89 [.pb [.fn 87 [pp 1,pp 2]]]]]] [rE 1 zC a1,.box [sl 1 eStr a2],.box [sl 8 (Pack.enc false) a3]] ((zR a1 a2 a3).map fun r=>(iv r,[rE 1 zC a1,.box [sl 1 eStr a2],.box [sl 8 (Pack.enc false) a3]])):=by
 refine zH c167 Tryz.f167 3 19 (fun q=>?_)
 unfold zR
 refine J_g 2 [] [(0,rr 0 a1),(1,.fn 137 [.pb [.fn 89 [.pb [.fn 87 [pp 1,pp 2]]]]])] [(0,rE 1 zC a1),(1,.box [sl 1 eStr a2]),(2,.box [sl 8 (Pack.enc false) a3])] zB ?_
 refine J_d 12 [] [7,8] [(7,iv (a1.length:Int)),(8,iv 0)] [] [] zB ?_
 refine jS (K0:=(fun r:Int=>some (iv r,[rE 1 zC a1,.box [sl 1 eStr a2],.box [sl 8 (Pack.enc false) a3]]))) (fun _=>rfl) (yA.ok a1 a2 a3 q _ (fun v17=>J_j ?_) 0)
 refine J_d 14 [] [4] [(4,iv (-1))] [] [] zB ?_
 exact xR rfl
noncomputable def zJQ:Code:=(Tryz.f136.body).getD .skip
theorem zY.ok (a2:(List ByteArray)) (a3:(List Pack)) (q:Wd) (kn:((List Int)×Int)→Option (D×List Ent)) (hk:∀v:((List Int)×Int),J (q.g Tryz.prog 136 3 42) zJQ (atI zJQ 31) (St.mk' [(0,rr 2 v.1),(5,iv v.2)] [(0,.box [sl 1 eStr a2]),(1,.box [sl 8 (Pack.enc false) a3]),(2,rE 1 zC v.1)]) (some v) kn):
  ∀s16:((List Int)×Int×Int),J (q.g Tryz.prog 136 3 42) zJQ (atI zJQ 244) (St.mk' [(0,rr 2 s16.1),(1,.fn 137 [.pb [.fn 89 [.pb [.fn 87 [pp 0,pp 1]]]]]),(5,iv s16.2.1),(6,iv s16.2.2)] [(0,.box [sl 1 eStr a2]),(1,.box [sl 8 (Pack.enc false) a3]),(2,rE 1 zC s16.1)]) (zY a2 a3 s16) kn:=by
 refine kT (fun g ih s16=>?_)
 unfold zM
 refine J_d 976 [] [19] [(19,bv (decide (s16.2.2< (s16.1.length:Int))))] [] [] zB ?_
 refine zG 19 (fun h17=>?_) (fun h17=>?_)
 ·refine zA (fun x18 h19=>?_)
  refine J_d 3912 [] [7,19] [(7,iv x18)] [] [] (zF 2 (zAf (kk:=.i64) 25 2 1 2 zC (.tmp 22) (.tmp 23) h19) (zF 3 (zAi (d:=iv x18) 2 1 2 0 zC (.tmp 24) h19 (by kernel_rfl)) zB)) ?_
  refine zA (fun x20 h21=>?_)
  refine J_d 7826 [] [29] [(29,bv (!x20))] [] [] (zF 2 (zEm [(0,.box [sl 1 eStr a2]),(1,.box [sl 8 (Pack.enc false) a3])] [] (zEf 26 [(.tmp 27)] [2] false [(0,.box [sl 1 eStr a2]),(1,.box [sl 8 (Pack.enc false) a3])] [0,1] [iv x18] [.pb [.fn 89 [.pb [.fn 87 [pp 0,pp 1]]]]] (.cons (.same rfl) (.cons (.pb (.cons (.fn (.cons (.pb (.cons (.fn (.cons (.pt rfl) (.cons (.pt rfl) (.nil)))) (.nil))) (.nil))) (.nil))) (.nil))) (zT.ok x18 a2 a3) h21 (.same rfl rfl))) zB) ?_
  refine wC (aft zJQ 1956) (fun v25:((List Int)×Int)=>St.mk' [(0,rr 2 v25.1),(1,.fn 137 [.pb [.fn 89 [.pb [.fn 87 [pp 0,pp 1]]]]]),(5,iv v25.2),(6,iv s16.2.2)] [(0,.box [sl 1 eStr a2]),(1,.box [sl 8 (Pack.enc false) a3]),(2,rE 1 zC v25.1)]) (fun v25=>?_) (fun jv25=>?_)
  ·refine J_d 979 [] [6] [(6,iv (w64 (s16.2.2+1)))] [] [] zB ?_
   exact J_q (J_b (ih (v25.1,v25.2,w64 (s16.2.2+1)))) rfl
  ·refine zG 29 (fun h22=>?_) (fun h22=>?_)
   ·refine zA (fun x23 h24=>?_)
    refine J_g 31308 [] [(0,rr 2 s16.1),(1,.fn 137 [.pb [.fn 89 [.pb [.fn 87 [pp 0,pp 1]]]]]),(5,iv s16.2.1),(6,iv s16.2.2)] [(0,.box [sl 1 eStr a2]),(1,.box [sl 8 (Pack.enc false) a3]),(2,rE 1 zC (s16.1.set s16.2.1.toNat x18))] (zF 3 (zAf (kk:=.i64) 25 2 1 2 zC (.tmp 30) (.tmp 31) h24) (zMk 4 (zNk (b:=x18) 2 1 2 0 zC (iv x18) (.tmp 33) (.tmp 32) h24 rfl) zB)) ?_
    refine zLu (σ':=St.mk' [(0,rr 2 (s16.1.set s16.2.1.toNat x18)),(1,.fn 137 [.pb [.fn 89 [.pb [.fn 87 [pp 0,pp 1]]]]]),(5,iv s16.2.1),(6,iv s16.2.2)] [(0,.box [sl 1 eStr a2]),(1,.box [sl 8 (Pack.enc false) a3]),(2,rE 1 zC (s16.1.set s16.2.1.toNat x18))]) (by simp only [rr,List.length_set]) ?_
    refine J_d 31309 [] [5] [(5,iv (w64 (s16.2.1+1)))] [] [] zB ?_
    exact yO (J_j (jv25 (s16.1.set s16.2.1.toNat x18,w64 (s16.2.1+1)))) rfl
   ·exact yO (J_j (jv25 (s16.1,s16.2.1))) rfl
 ·exact yO (hk (s16.1,s16.2.1)) rfl
theorem zJ.ok (a1:(List Int)) (a2:(List ByteArray)) (a3:(List Pack)):Ok Tryz.prog 136 [rr 2 a1,.fn 137 [.pb [.fn 89 [.pb [.fn 87 [pp 0,pp 1]]]]]] [.box [sl 1 eStr a2],.box [sl 8 (Pack.enc false) a3],rE 1 zC a1] ((zJ a1 a2 a3).map fun r=>(so 1 zC r,[.box [sl 1 eStr a2],.box [sl 8 (Pack.enc false) a3]])):=by
 refine zH zJQ Tryz.f136 3 42 (fun q=>?_)
 unfold zJ
 refine J_d 2 [] [] [] [] [] zB ?_
 refine zA (fun x4 h5=>?_)
 refine J_g 6 [] [(0,rr 2 a1),(1,.fn 137 [.pb [.fn 89 [.pb [.fn 87 [pp 0,pp 1]]]]]),(5,iv x4)] [(0,.box [sl 1 eStr a2]),(1,.box [sl 8 (Pack.enc false) a3]),(2,rE 1 zC a1)] (zF 2 (zEm [(2,rE 1 zC a1),(0,.box [sl 1 eStr a2]),(1,.box [sl 8 (Pack.enc false) a3])] [] (wQ («as»:=[rr 2 a1,.fn 137 [.pb [.fn 89 [.pb [.fn 87 [pp 0,pp 1]]]]]]) [(.tmp 8),(.tmp 9)] [25,110] false [(2,rE 1 zC a1),(0,.box [sl 1 eStr a2]),(1,.box [sl 8 (Pack.enc false) a3])] [2,0,1] (.cons (.rf rfl) (.cons (.fn (.cons (.pb (.cons (.fn (.cons (.pb (.cons (.fn (.cons (.pt rfl) (.cons (.pt rfl) (.nil)))) (.nil))) (.nil))) (.nil))) (.nil))) (.nil))) (zR.ok a1 a2 a3) h5 (.same rfl rfl))) zB) ?_
 refine J_d 28 [] [12] [(12,bv (x4==(-1)))] [] [] zB ?_
 refine zG 12 (fun h6=>?_) (fun h6=>?_)
 ·refine J_g 116 [] [(4,rr 2 a1)] [(0,.box [sl 1 eStr a2]),(1,.box [sl 8 (Pack.enc false) a3]),(2,rE 1 zC a1)] zB ?_
  exact zDJ (ds:=[rr 2 a1]) (ds':=[so 1 zC a1]) (.cons (.cell (.move (.tail _ (.tail _ (.head _))) (List.length_map _) (by decide) (.nil))) (.nil) (by decide)) rfl
 ·refine J_d 60 [] [6,12] [(6,iv (w64 (x4+1)))] [] [] zB ?_
  refine zEa (zY.ok a2 a3 q _ (fun v26=>J_j ?_) (a1,x4,w64 (x4+1)))
  refine zA (fun x27 h28=>?_)
  refine zA (fun x29 h30=>?_)
  refine J_g 62 [] [(0,rr 2 v26.1),(5,iv v26.2)] [(0,.box [sl 1 eStr a2]),(1,.box [sl 8 (Pack.enc false) a3]),(2,rE 1 zC x29)] (zF 2 (zIy 25 2 1 2 zC (.tmp 36) (some (.tmp 37)) none h28) (zMk 3 (zMh (l:=v26.2) (a:=0) 25 2 1 2 zC (.tmp 38) h30 (.keep rfl (.nil))) zB)) ?_
  refine zLu (σ':=St.mk' [(0,rr 2 x29),(5,iv v26.2)] [(0,.box [sl 1 eStr a2]),(1,.box [sl 8 (Pack.enc false) a3]),(2,rE 1 zC x29)]) (by simp only [rr,zHi h30]) ?_
  refine zA (fun x31 h32=>?_)
  refine J_g 126 [] [(4,rr 3 x31)] [(0,.box [sl 1 eStr a2]),(1,.box [sl 8 (Pack.enc false) a3]),(3,rE 1 zC x31)] (zF 2 (zLd 25 2 1 2 3 zC (.tmp 39) none (some (.tmp 40)) h32) zB) ?_
  exact zDJ (ds:=[rr 3 x31]) (ds':=[so 1 zC x31]) (.cons (.cell (.move (.tail _ (.tail _ (.head _))) (List.length_map _) (by decide) (.nil))) (.nil) (by decide)) rfl
noncomputable def c88:Code:=(Tryz.f88.body).getD .skip
theorem xA.ok (a1:(List Int)) (a2:(List ByteArray)) (a3:(List Pack)):Ok Tryz.prog 88 [sl 1 zC a1,.fn 89 [.pb [.fn 87 [pp 0,pp 1]]]] [.box [sl 1 eStr a2],.box [sl 8 (Pack.enc false) a3]] ((xA a1 a2 a3).map fun r=>(so 1 zC r,[.box [sl 1 eStr a2],.box [sl 8 (Pack.enc false) a3]])):=by
 refine zH c88 Tryz.f88 2 9 (fun q=>?_)
 unfold xA
 refine J_d 2 [] [1,3] [(3,.pb [.fn 89 [.pb [.fn 87 [pp 0,pp 1]]]])] [] [] (zF 0 (zKr 110 (.tmp 1) (.fn 89 [.pb [.fn 87 [pp 0,pp 1]]])) zB) ?_
 refine zA (fun x4 h5=>?_)
 refine zA (fun x6 h7=>?_)
 refine J_g 6 [] [(4,rr 3 x6)] [(0,.box [sl 1 eStr a2]),(1,.box [sl 8 (Pack.enc false) a3]),(3,rE 1 zC x6)] (zF 1 (wQ («as»:=[sl 1 zC a1]) [(.tmp 5)] [25] false [] [] (.cons (.same rfl) (.nil)) (vH.ok a1) h5 (.own 2)) (zF 3 (wQ («as»:=[rr 2 x4,.fn 137 [.pb [.fn 89 [.pb [.fn 87 [pp 0,pp 1]]]]]]) [(.tmp 6),(.tmp 7)] [25,110] false [(0,.box [sl 1 eStr a2]),(1,.box [sl 8 (Pack.enc false) a3]),(2,rE 1 zC x4)] [0,1,2] (.cons (.rf rfl) (.cons (.fn (.cons (.pb (.cons (.fn (.cons (.pb (.cons (.fn (.cons (.pt rfl) (.cons (.pt rfl) (.nil)))) (.nil))) (.nil))) (.nil))) (.nil))) (.nil))) (zJ.ok x4 a2 a3) h7 (.own 3)) zB)) ?_
 exact zDJ (ds:=[rr 3 x6]) (ds':=[so 1 zC x6]) (.cons (.cell (.move (.tail _ (.tail _ (.head _))) (List.length_map _) (by decide) (.nil))) (.nil) (by decide)) rfl
theorem wF.ok (a1:Int) (a2:(List ByteArray)) (a3:(List Pack)):Ok Tryz.prog 137 [iv a1,.pb [.fn 87 [pp 0,pp 1]]] [.box [sl 1 eStr a2],.box [sl 8 (Pack.enc false) a3]] ((wF a1 a2 a3).map fun r=>(bv r,[.box [sl 1 eStr a2],.box [sl 8 (Pack.enc false) a3]])):=by
 refine zH zNL Tryz.f137 2 8 (fun q=>?_)
 unfold wF
 refine J_d 2 [] [] [] [] [] zB ?_
 refine zA (fun x4 h5=>?_)
 refine J_d 6 [] [0,1,3] [(3,bv (!x4))] [] [] (zF 0 (zJb (d:=.fn 87 [pp 0,pp 1]) 110 (.tmp 1) [.fn 87 [pp 0,pp 1]]) (zF 2 (zEm [(0,.box [sl 1 eStr a2]),(1,.box [sl 8 (Pack.enc false) a3])] [] (zEf 4 [(.tmp 5)] [2] false [(0,.box [sl 1 eStr a2]),(1,.box [sl 8 (Pack.enc false) a3])] [0,1] [iv a1] [pp 0,pp 1] (.cons (.same rfl) (.cons (.pt rfl) (.cons (.pt rfl) (.nil)))) (zAJ.ok a1 a2 a3) h5 (.same rfl rfl))) zB)) ?_
 exact xR rfl
theorem xK.ok (a1:(List Int)) (a2:(List ByteArray)) (a3:(List Pack)) (q:Wd) (kn:Unit→Option (D×List Ent)) (hk:∀v:Unit,J (q.g Tryz.prog 167 3 19) c167 (atI c167 7) (St.mk' [] [(0,rE 1 zC a1),(1,.box [sl 1 eStr a2]),(2,.box [sl 8 (Pack.enc false) a3])]) (some v) kn):
  ∀s10:Int,J (q.g Tryz.prog 167 3 19) c167 (atI c167 52) (St.mk' [(0,rr 0 a1),(1,.fn 137 [.pb [.fn 87 [pp 1,pp 2]]]),(7,iv (a1.length:Int)),(8,iv s10)] [(0,rE 1 zC a1),(1,.box [sl 1 eStr a2]),(2,.box [sl 8 (Pack.enc false) a3])]) (xK a1 a2 a3 s10) (Fl.go (fun r:Int=>some (iv r,[rE 1 zC a1,.box [sl 1 eStr a2],.box [sl 8 (Pack.enc false) a3]])) kn):=by
 refine kT (fun g ih s10=>?_)
 unfold yD
 refine J_d 104 [] [9] [(9,bv (decide (s10< (a1.length:Int))))] [] [] zB ?_
 refine zG 9 (fun h11=>?_) (fun h11=>?_)
 ·refine J_d 1688 [] [5,9] [(5,iv s10)] [] [] zB ?_
  refine zA (fun x12 h13=>?_)
  refine zA (fun x14 h15=>?_)
  refine J_d 3378 [] [16] [(16,bv x14)] [] [] (zF 3 (zAf (kk:=.i64) 25 2 1 0 zC (.tmp 12) (.tmp 13) h13) (zF 4 (zAi (d:=iv x12) 2 1 0 0 zC (.tmp 14) h13 (by kernel_rfl)) (zF 5 (zEm [(1,.box [sl 1 eStr a2]),(2,.box [sl 8 (Pack.enc false) a3])] [] (zEf 11 [(.tmp 15)] [2] false [(1,.box [sl 1 eStr a2]),(2,.box [sl 8 (Pack.enc false) a3])] [1,2] [iv x12] [.pb [.fn 87 [pp 1,pp 2]]] (.cons (.same rfl) (.cons (.pb (.cons (.fn (.cons (.pt rfl) (.cons (.pt rfl) (.nil)))) (.nil))) (.nil))) (wF.ok x12 a2 a3) h15 (.same rfl rfl))) zB))) ?_
  refine zG 16 (fun h16=>?_) (fun h16=>?_)
  ·refine J_d 13516 [] [0,1,4,5,7,8,16] [(4,iv s10)] [] [] zB ?_
   exact xR rfl
  ·refine J_d 423 [] [5,8,16] [(8,iv (w64 (s10+1)))] [] [] zB ?_
   exact J_q (J_b (ih (w64 (s10+1)))) rfl
 ·exact yO (hk ()) rfl
theorem yN.ok (a1:(List Int)) (a2:(List ByteArray)) (a3:(List Pack)):Ok Tryz.prog 167 [rr 0 a1,.fn 137 [.pb [.fn 87 [pp 1,pp 2]]]] [rE 1 zC a1,.box [sl 1 eStr a2],.box [sl 8 (Pack.enc false) a3]] ((yN a1 a2 a3).map fun r=>(iv r,[rE 1 zC a1,.box [sl 1 eStr a2],.box [sl 8 (Pack.enc false) a3]])):=by
 refine zH c167 Tryz.f167 3 19 (fun q=>?_)
 unfold yN
 refine J_g 2 [] [(0,rr 0 a1),(1,.fn 137 [.pb [.fn 87 [pp 1,pp 2]]])] [(0,rE 1 zC a1),(1,.box [sl 1 eStr a2]),(2,.box [sl 8 (Pack.enc false) a3])] zB ?_
 refine J_d 12 [] [7,8] [(7,iv (a1.length:Int)),(8,iv 0)] [] [] zB ?_
 refine jS (K0:=(fun r:Int=>some (iv r,[rE 1 zC a1,.box [sl 1 eStr a2],.box [sl 8 (Pack.enc false) a3]]))) (fun _=>rfl) (xK.ok a1 a2 a3 q _ (fun v17=>J_j ?_) 0)
 refine J_d 14 [] [4] [(4,iv (-1))] [] [] zB ?_
 exact xR rfl
theorem xI.ok (a2:(List ByteArray)) (a3:(List Pack)) (q:Wd) (kn:((List Int)×Int)→Option (D×List Ent)) (hk:∀v:((List Int)×Int),J (q.g Tryz.prog 136 3 42) zJQ (atI zJQ 31) (St.mk' [(0,rr 2 v.1),(5,iv v.2)] [(0,.box [sl 1 eStr a2]),(1,.box [sl 8 (Pack.enc false) a3]),(2,rE 1 zC v.1)]) (some v) kn):
  ∀s16:((List Int)×Int×Int),J (q.g Tryz.prog 136 3 42) zJQ (atI zJQ 244) (St.mk' [(0,rr 2 s16.1),(1,.fn 137 [.pb [.fn 87 [pp 0,pp 1]]]),(5,iv s16.2.1),(6,iv s16.2.2)] [(0,.box [sl 1 eStr a2]),(1,.box [sl 8 (Pack.enc false) a3]),(2,rE 1 zC s16.1)]) (xI a2 a3 s16) kn:=by
 refine kT (fun g ih s16=>?_)
 unfold yB
 refine J_d 976 [] [19] [(19,bv (decide (s16.2.2< (s16.1.length:Int))))] [] [] zB ?_
 refine zG 19 (fun h17=>?_) (fun h17=>?_)
 ·refine zA (fun x18 h19=>?_)
  refine J_d 3912 [] [7,19] [(7,iv x18)] [] [] (zF 2 (zAf (kk:=.i64) 25 2 1 2 zC (.tmp 22) (.tmp 23) h19) (zF 3 (zAi (d:=iv x18) 2 1 2 0 zC (.tmp 24) h19 (by kernel_rfl)) zB)) ?_
  refine zA (fun x20 h21=>?_)
  refine J_d 7826 [] [29] [(29,bv (!x20))] [] [] (zF 2 (zEm [(0,.box [sl 1 eStr a2]),(1,.box [sl 8 (Pack.enc false) a3])] [] (zEf 26 [(.tmp 27)] [2] false [(0,.box [sl 1 eStr a2]),(1,.box [sl 8 (Pack.enc false) a3])] [0,1] [iv x18] [.pb [.fn 87 [pp 0,pp 1]]] (.cons (.same rfl) (.cons (.pb (.cons (.fn (.cons (.pt rfl) (.cons (.pt rfl) (.nil)))) (.nil))) (.nil))) (wF.ok x18 a2 a3) h21 (.same rfl rfl))) zB) ?_
  refine wC (aft zJQ 1956) (fun v25:((List Int)×Int)=>St.mk' [(0,rr 2 v25.1),(1,.fn 137 [.pb [.fn 87 [pp 0,pp 1]]]),(5,iv v25.2),(6,iv s16.2.2)] [(0,.box [sl 1 eStr a2]),(1,.box [sl 8 (Pack.enc false) a3]),(2,rE 1 zC v25.1)]) (fun v25=>?_) (fun jv25=>?_)
  ·refine J_d 979 [] [6] [(6,iv (w64 (s16.2.2+1)))] [] [] zB ?_
   exact J_q (J_b (ih (v25.1,v25.2,w64 (s16.2.2+1)))) rfl
  ·refine zG 29 (fun h22=>?_) (fun h22=>?_)
   ·refine zA (fun x23 h24=>?_)
    refine J_g 31308 [] [(0,rr 2 s16.1),(1,.fn 137 [.pb [.fn 87 [pp 0,pp 1]]]),(5,iv s16.2.1),(6,iv s16.2.2)] [(0,.box [sl 1 eStr a2]),(1,.box [sl 8 (Pack.enc false) a3]),(2,rE 1 zC (s16.1.set s16.2.1.toNat x18))] (zF 3 (zAf (kk:=.i64) 25 2 1 2 zC (.tmp 30) (.tmp 31) h24) (zMk 4 (zNk (b:=x18) 2 1 2 0 zC (iv x18) (.tmp 33) (.tmp 32) h24 rfl) zB)) ?_
    refine zLu (σ':=St.mk' [(0,rr 2 (s16.1.set s16.2.1.toNat x18)),(1,.fn 137 [.pb [.fn 87 [pp 0,pp 1]]]),(5,iv s16.2.1),(6,iv s16.2.2)] [(0,.box [sl 1 eStr a2]),(1,.box [sl 8 (Pack.enc false) a3]),(2,rE 1 zC (s16.1.set s16.2.1.toNat x18))]) (by simp only [rr,List.length_set]) ?_
    refine J_d 31309 [] [5] [(5,iv (w64 (s16.2.1+1)))] [] [] zB ?_
    exact yO (J_j (jv25 (s16.1.set s16.2.1.toNat x18,w64 (s16.2.1+1)))) rfl
   ·exact yO (J_j (jv25 (s16.1,s16.2.1))) rfl
 ·exact yO (hk (s16.1,s16.2.1)) rfl
theorem zV.ok (a1:(List Int)) (a2:(List ByteArray)) (a3:(List Pack)):Ok Tryz.prog 136 [rr 2 a1,.fn 137 [.pb [.fn 87 [pp 0,pp 1]]]] [.box [sl 1 eStr a2],.box [sl 8 (Pack.enc false) a3],rE 1 zC a1] ((zV a1 a2 a3).map fun r=>(so 1 zC r,[.box [sl 1 eStr a2],.box [sl 8 (Pack.enc false) a3]])):=by
 refine zH zJQ Tryz.f136 3 42 (fun q=>?_)
 unfold zV
 refine J_d 2 [] [] [] [] [] zB ?_
 refine zA (fun x4 h5=>?_)
 refine J_g 6 [] [(0,rr 2 a1),(1,.fn 137 [.pb [.fn 87 [pp 0,pp 1]]]),(5,iv x4)] [(0,.box [sl 1 eStr a2]),(1,.box [sl 8 (Pack.enc false) a3]),(2,rE 1 zC a1)] (zF 2 (zEm [(2,rE 1 zC a1),(0,.box [sl 1 eStr a2]),(1,.box [sl 8 (Pack.enc false) a3])] [] (wQ («as»:=[rr 2 a1,.fn 137 [.pb [.fn 87 [pp 0,pp 1]]]]) [(.tmp 8),(.tmp 9)] [25,110] false [(2,rE 1 zC a1),(0,.box [sl 1 eStr a2]),(1,.box [sl 8 (Pack.enc false) a3])] [2,0,1] (.cons (.rf rfl) (.cons (.fn (.cons (.pb (.cons (.fn (.cons (.pt rfl) (.cons (.pt rfl) (.nil)))) (.nil))) (.nil))) (.nil))) (yN.ok a1 a2 a3) h5 (.same rfl rfl))) zB) ?_
 refine J_d 28 [] [12] [(12,bv (x4==(-1)))] [] [] zB ?_
 refine zG 12 (fun h6=>?_) (fun h6=>?_)
 ·refine J_g 116 [] [(4,rr 2 a1)] [(0,.box [sl 1 eStr a2]),(1,.box [sl 8 (Pack.enc false) a3]),(2,rE 1 zC a1)] zB ?_
  exact zDJ (ds:=[rr 2 a1]) (ds':=[so 1 zC a1]) (.cons (.cell (.move (.tail _ (.tail _ (.head _))) (List.length_map _) (by decide) (.nil))) (.nil) (by decide)) rfl
 ·refine J_d 60 [] [6,12] [(6,iv (w64 (x4+1)))] [] [] zB ?_
  refine zEa (xI.ok a2 a3 q _ (fun v26=>J_j ?_) (a1,x4,w64 (x4+1)))
  refine zA (fun x27 h28=>?_)
  refine zA (fun x29 h30=>?_)
  refine J_g 62 [] [(0,rr 2 v26.1),(5,iv v26.2)] [(0,.box [sl 1 eStr a2]),(1,.box [sl 8 (Pack.enc false) a3]),(2,rE 1 zC x29)] (zF 2 (zIy 25 2 1 2 zC (.tmp 36) (some (.tmp 37)) none h28) (zMk 3 (zMh (l:=v26.2) (a:=0) 25 2 1 2 zC (.tmp 38) h30 (.keep rfl (.nil))) zB)) ?_
  refine zLu (σ':=St.mk' [(0,rr 2 x29),(5,iv v26.2)] [(0,.box [sl 1 eStr a2]),(1,.box [sl 8 (Pack.enc false) a3]),(2,rE 1 zC x29)]) (by simp only [rr,zHi h30]) ?_
  refine zA (fun x31 h32=>?_)
  refine J_g 126 [] [(4,rr 3 x31)] [(0,.box [sl 1 eStr a2]),(1,.box [sl 8 (Pack.enc false) a3]),(3,rE 1 zC x31)] (zF 2 (zLd 25 2 1 2 3 zC (.tmp 39) none (some (.tmp 40)) h32) zB) ?_
  exact zDJ (ds:=[rr 3 x31]) (ds':=[so 1 zC x31]) (.cons (.cell (.move (.tail _ (.tail _ (.head _))) (List.length_map _) (by decide) (.nil))) (.nil) (by decide)) rfl
theorem vG.ok (a1:(List Int)) (a2:(List ByteArray)) (a3:(List Pack)):Ok Tryz.prog 88 [sl 1 zC a1,.fn 87 [pp 0,pp 1]] [.box [sl 1 eStr a2],.box [sl 8 (Pack.enc false) a3]] ((vG a1 a2 a3).map fun r=>(so 1 zC r,[.box [sl 1 eStr a2],.box [sl 8 (Pack.enc false) a3]])):=by
 refine zH c88 Tryz.f88 2 9 (fun q=>?_)
 unfold vG
 refine J_d 2 [] [1,3] [(3,.pb [.fn 87 [pp 0,pp 1]])] [] [] (zF 0 (zKr 110 (.tmp 1) (.fn 87 [pp 0,pp 1])) zB) ?_
 refine zA (fun x4 h5=>?_)
 refine zA (fun x6 h7=>?_)
 refine J_g 6 [] [(4,rr 3 x6)] [(0,.box [sl 1 eStr a2]),(1,.box [sl 8 (Pack.enc false) a3]),(3,rE 1 zC x6)] (zF 1 (wQ («as»:=[sl 1 zC a1]) [(.tmp 5)] [25] false [] [] (.cons (.same rfl) (.nil)) (vH.ok a1) h5 (.own 2)) (zF 3 (wQ («as»:=[rr 2 x4,.fn 137 [.pb [.fn 87 [pp 0,pp 1]]]]) [(.tmp 6),(.tmp 7)] [25,110] false [(0,.box [sl 1 eStr a2]),(1,.box [sl 8 (Pack.enc false) a3]),(2,rE 1 zC x4)] [0,1,2] (.cons (.rf rfl) (.cons (.fn (.cons (.pb (.cons (.fn (.cons (.pt rfl) (.cons (.pt rfl) (.nil)))) (.nil))) (.nil))) (.nil))) (zV.ok x4 a2 a3) h7 (.own 3)) zB)) ?_
 exact zDJ (ds:=[rr 3 x6]) (ds':=[so 1 zC x6]) (.cons (.cell (.move (.tail _ (.tail _ (.head _))) (List.length_map _) (by decide) (.nil))) (.nil) (by decide)) rfl
theorem uU.ok (a1:List Int):Ok Tryz.prog 90 [rr 0 a1] [rE 1 zC a1] ((uU a1).map fun r=>(.tu [],[rE 1 zC r])):=by
 unfold uU
 split
 ·exact zKB (enc:=Value.int .i64) (by simp [List.length_mergeSort]) (fun blk off cap w hH hb=>Tryz.slices_Sort_int blk off cap a1 w hH hb (by omega)) (fun _ p cap w=>Tryz.slices_Sort_int_none p cap w)
 ·exact fun _ h=>by cases h
noncomputable def c44:Code:=(Tryz.f44.body).getD .skip
theorem zDD.ok (a1:(List Pack)) (a2:(List Int)) (a3:(List Int)) (a4:(List ByteArray)):Ok Tryz.prog 44 [sl 8 (Pack.enc false) a1,sl 1 zC a2,sl 1 zC a3,sl 1 eStr a4] [] ((zDD a1 a2 a3 a4).map fun r=>(so 1 zC r,[])):=by
 refine zH c44 Tryz.f44 0 22 (fun q=>?_)
 unfold zDD
 refine J_g 2 [(0,0),(1,1)] [(1,sl 1 zC a2),(2,sl 1 zC a3),(4,pp 0),(7,pp 1)] [(0,.box [sl 8 (Pack.enc false) a1]),(1,.box [sl 1 eStr a4])] zB ?_
 refine J_g 6 [(1,2)] [(1,sl 1 zC a2),(2,sl 1 zC a3),(9,pp 2)] [(0,.box [sl 8 (Pack.enc false) a1]),(1,.box [sl 1 eStr a4]),(2,.box [.fn 87 [pp 1,pp 0]])] zB ?_
 refine zDK [(1,sl 1 zC a2),(2,sl 1 zC a3),(9,pp 2)] [(2,.box [.fn 87 [pp 1,pp 0]]),(0,.box [sl 8 (Pack.enc false) a1]),(1,.box [sl 1 eStr a4])] (by kernel_rfl) ?_
 refine zNz 2 (tm2:=[(1,sl 1 zC a2),(2,sl 1 zC a3),(9,.pb [.fn 87 [pp 1,pp 0]])]) (hp1:=[(0,.box [sl 8 (Pack.enc false) a1]),(1,.box [sl 1 eStr a4])]) (.keep (by kernel_rfl) (.keep (by kernel_rfl) (.pt (.nil)))) (by kernel_rfl) ?_
 refine zA (fun x5 h6=>?_)
 refine zA (fun x7 h8=>?_)
 refine zA (fun x9 h10=>?_)
 refine J_g 14 [] [(10,rr 4 x9)] [(4,rE 1 zC x9)] (zF 2 (zEm [(1,.box [sl 1 eStr a4]),(0,.box [sl 8 (Pack.enc false) a1])] [(2,rE 1 zC x5)] (wQ («as»:=[sl 1 zC a2,.fn 89 [.pb [.fn 87 [pp 1,pp 0]]]]) [(.tmp 12),(.tmp 13)] [25,110] false [(1,.box [sl 1 eStr a4]),(0,.box [sl 8 (Pack.enc false) a1])] [1,0] (.cons (.same rfl) (.cons (.fn (.cons (.pb (.cons (.fn (.cons (.pt rfl) (.cons (.pt rfl) (.nil)))) (.nil))) (.nil))) (.nil))) (xA.ok a2 a4 a1) h6 (.own 2))) (zF 4 (zJb (d:=.fn 87 [pp 1,pp 0]) 110 (.tmp 9) [.fn 87 [pp 1,pp 0]]) (zF 5 (zEm [(1,.box [sl 1 eStr a4]),(0,.box [sl 8 (Pack.enc false) a1])] [(3,rE 1 zC x7)] (wQ («as»:=[sl 1 zC a3,.fn 87 [pp 1,pp 0]]) [(.tmp 15),(.tmp 16)] [25,110] false [(1,.box [sl 1 eStr a4]),(0,.box [sl 8 (Pack.enc false) a1])] [1,0] (.cons (.same rfl) (.cons (.fn (.cons (.pt rfl) (.cons (.pt rfl) (.nil)))) (.nil))) (vG.ok a3 a4 a1) h8 (.own 3))) (zF 6 (zEk 25 25 2 2 1 8 4 2 3 zC (.tmp 14) (.tmp 17) h10) zB)))) ?_
 refine zA (fun x11 h12=>?_)
 refine J_g 30 [] [(10,rr 4 x9)] [(4,rE 1 zC x11)] (zF 1 (wQ («as»:=[rr 4 x9]) [(.tmp 19)] [25] false [(4,rE 1 zC x9)] [4] (.cons (.rf rfl) (.nil)) (uU.ok x9) h12 (.tu (.nil))) zB) ?_
 refine zA (fun u13 h14=>?_)
 refine zLu (σ':=St.mk' [(10,rr 4 x11)] [(4,rE 1 zC x11)]) (by simp only [rr,zJi h14]) ?_
 refine J_g 62 [] [(8,rr 4 x11)] [(4,rE 1 zC x11)] zB ?_
 exact zDJ (ds:=[rr 4 x11]) (ds':=[so 1 zC x11]) (.cons (.cell (.move (.head _) (List.length_map _) (by decide) (.nil))) (.nil) (by decide)) rfl
noncomputable def c18:Code:=(Tryz.f18.body).getD .skip
theorem zBb.ok (a1:(List Pack)) (a2:(List Int)) (a3:(List Int)) (a4:(List ByteArray)):Ok Tryz.prog 18 [sl 8 (Pack.enc false) a1,sl 1 zC a2,sl 1 zC a3,sl 1 eStr a4] [] ((zBb a1 a2 a3 a4).map fun r=>(.ag [iv r.Code,iv r.At,so 1 zC r.Set],[])):=by
 refine zH c18 Tryz.f18 0 35 (fun q=>?_)
 unfold zBb
 refine J_d 2 [(0,0)] [8] [(8,pp 0)] [0] [(0,.box [iv 0,iv 0,nv])] zB ?_
 refine zA (fun x5 h6=>?_)
 refine zA (fun x7 h8=>?_)
 refine zA (fun x9 h10=>?_)
 refine J_d 6 [] [9] [(9,iv x9)] [] [] (zF 2 (vM [(.tmp 10),(.tmp 11)] [24,25] (wS.ok a1 a2) h6) (zF 5 (vM [(.tmp 13),(.tmp 14)] [24,25] (wS.ok a1 a3) h8) (zF 6 (zA2 25 2 1 1 zC [x5,x7] [0,1] [(.tmp 12),(.tmp 15)] [iv x5,iv x7]) (zF 7 (wQ («as»:=[rr 1 [x5,x7]]) [(.tmp 16)] [25] true [(1,rE 1 zC [x5,x7])] [] (.cons (zDH (.head _) (fun _=>rfl) rfl) (.nil)) (vK.ok [x5,x7]) h10 (.same rfl rfl) (hbor:=fun _=>⟨fhN,xH⟩)) zB)))) ?_
 refine wC (atI c18 29) (fun v12:Bool=>St.mk' [(0,sl 8 (Pack.enc false) a1),(1,sl 1 zC a2),(2,sl 1 zC a3),(3,sl 1 eStr a4),(8,pp 0),(9,iv x9),(24,bv v12)] [(0,.box [iv 0,iv 0,nv])]) (fun v12=>?_) (fun jv12=>?_)
 ·refine wC (atI c18 15) (fun v14:Int=>St.mk' [(0,sl 8 (Pack.enc false) a1),(1,sl 1 zC a2),(2,sl 1 zC a3),(3,sl 1 eStr a4),(8,pp 0),(9,iv v14)] [(0,.box [iv 0,iv 0,nv])]) (fun v14=>?_) (fun jv14=>?_)
  ·refine J_d 60 [] [26] [(26,bv (v14 !=0))] [] [] zB ?_
   refine zG 26 (fun h15=>?_) (fun h15=>?_)
   ·refine J_g 244 [] [(8,pp 0)] [(0,.box [iv v14,iv 0,nv])] zB ?_
    exact zDJ (ds:=[.ag [iv v14,iv 0,nv]]) (ds':=[.ag [iv v14,iv 0,so 1 zC ([]:List Int)]]) (.cons (.ag (.keep rfl (.keep rfl (.nilsl true 1 (.nil))))) (.nil) (by decide)) rfl
   ·refine zA (fun x16 h17=>?_)
    refine J_g 62 [] [(8,pp 0)] [(0,.box [iv 0,iv 0,rr 1 x16]),(1,rE 1 zC x16)] (zF 4 (wQ («as»:=[sl 8 (Pack.enc false) a1,sl 1 zC a2,sl 1 zC a3,sl 1 eStr a4]) [(.tmp 29),(.tmp 30),(.tmp 31),(.tmp 32)] [24,25,25,32] false [] [] (.cons (.same rfl) (.cons (.same rfl) (.cons (.same rfl) (.cons (.same rfl) (.nil))))) (zDD.ok a1 a2 a3 a4) h17 (.own 1)) zB) ?_
    exact zDJ (ds:=[.ag [iv 0,iv 0,rr 1 x16]]) (ds':=[.ag [iv 0,iv 0,so 1 zC x16]]) (.cons (.ag (.keep rfl (.keep rfl (.move (.tail _ (.head _)) (List.length_map _) (by decide) (.nil))))) (.nil) (by decide)) rfl
  ·refine zG 24 (fun h13=>?_) (fun h13=>?_)
   ·refine J_d 58 [] [9,24] [(9,iv 2)] [] [] zB ?_
    exact yO (J_j (jv14 2)) rfl
   ·exact yO (J_j (jv14 x9)) rfl
 ·refine vV (fun h11=>?_) (fun h11=>?_)
  ·refine J_d 28 [] [24] [(24,bv (decide ((a4.length:Int)>24)))] [] [] (vD 2 [(19,bv (x9==0))] [] h11 zB) ?_
   exact yO (J_j (jv12 (decide ((a4.length:Int)>24)))) rfl
  ·refine J_d 28 [] [24] [(24,bv false)] [] [] (vD 2 [(19,bv (x9==0))] [] h11 zB) ?_
   exact yO (J_j (jv12 false)) rfl
noncomputable def c168:Code:=(Tryz.f168.body).getD .skip
theorem zBr.ok (a1:Pack):Ok Tryz.prog 168 [.ag (Pack.enc false a1)] [] ((zBr a1).map fun r=>(so 1 eStr r,[])):=by
 refine zH c168 Tryz.f168 0 9 (fun q=>?_)
 unfold zBr
 refine J_g 2 [(0,0)] [(1,pp 0)] [(0,.box (Pack.enc false a1))] zB ?_
 refine zA (fun x2 h3=>?_)
 refine J_g 6 [] [(2,rr 2 x2)] [(2,rE 1 eStr x2)] (zF 2 (zA2 32 9 1 1 eStr [a1.Name] [0] [(.tmp 4)] [sv a1.Name]) (zF 5 (zHB 32 32 9 9 1 16 2 1 eStr (.tmp 5) (.tmp 7) h3) zB)) ?_
 exact zDJ (ds:=[rr 2 x2]) (ds':=[so 1 eStr x2]) (.cons (.cell (.move (.head _) (List.length_map _) (by decide) (.nil))) (.nil) (by decide)) rfl
noncomputable def zOf:Code:=(Tryz.f170.body).getD .skip
theorem zBB.ok (a1:Term) (a2:ByteArray) (a3:Version):Ok Tryz.prog 170 [.ag (Term.enc a1),sv a2,.ag (Version.enc a3)] [] ((zBB a1 a2 a3).map fun r=>(bv r,[])):=by
 refine zH zOf Tryz.f170 0 25 (fun q=>?_)
 unfold zBB
 refine J_g 2 [(0,0),(1,1)] [(1,sv a2),(3,pp 0),(5,pp 1)] [(0,.box (Term.enc a1)),(1,.box (Version.enc a3))] zB ?_
 refine vV (fun h4=>?_) (fun h4=>?_)
 ·refine zA (fun x5 h6=>?_)
  refine vV (fun h7=>?_) (fun h7=>?_)
  ·refine zA (fun x8 h9=>?_)
   refine J_g 6 [] [(6,bv (decide (x8<0)))] [] (vD 4 [(10,bv (seq a1.Name a2))] [] h4 (zBi 8 4 11 true (vM [(.tmp 13),(.tmp 14)] [88,88] (jF.ok a1.Low a3) h6) (vD 11 [(17,bv (decide (x5≤0)))] [] h7 (zBi 15 11 18 true (vM [(.tmp 19),(.tmp 21)] [88,88] (jF.ok a3 a1.High) h9) zB)))) ?_
   exact xR rfl
  ·refine J_g 6 [] [(6,bv false)] [] (vD 4 [(10,bv (seq a1.Name a2))] [] h4 (zBi 8 4 11 true (vM [(.tmp 13),(.tmp 14)] [88,88] (jF.ok a1.Low a3) h6) (vD 11 [(17,bv (decide (x5≤0)))] [] h7 zB))) ?_
   exact xR rfl
 ·refine J_g 6 [] [(6,bv false)] [] (vD 4 [(10,bv (seq a1.Name a2))] [] h4 zB) ?_
  exact xR rfl
noncomputable def zOn:Code:=(Tryz.f169.body).getD .skip
theorem zAj.ok (a1:ByteArray) (a2:Term) (a3:Pack):Ok Tryz.prog 169 [sv a1,pp 0,pp 1] [.box (Term.enc a2),.box (Pack.enc false a3)] ((zAj a1 a2 a3).map fun r=>(bv r,[.box (Term.enc a2),.box (Pack.enc false a3)])):=by
 refine zH zOn Tryz.f169 2 10 (fun q=>?_)
 unfold zAj
 refine J_d 2 [] [] [] [] [] zB ?_
 refine zA (fun x4 h5=>?_)
 refine J_d 6 [] [0,1,2,4] [(4,bv x4)] [] [] (zF 4 (vM [(.tmp 5),(.tmp 6),(.tmp 8)] [104,9,88] (zBB.ok a2 a1 a3.Version) h5) zB) ?_
 exact xR rfl
theorem xE.ok (a1:(List ByteArray)) (a2:Term) (a3:Pack) (q:Wd) (kn:Unit→Option (D×List Ent)) (hk:∀v:Unit,J (q.g Tryz.prog 122 3 19) zKQ (atI zKQ 7) (St.mk' [] [(0,rE 1 eStr a1),(1,.box (Term.enc a2)),(2,.box (Pack.enc false a3))]) (some v) kn):
  ∀s10:Int,J (q.g Tryz.prog 122 3 19) zKQ (atI zKQ 52) (St.mk' [(0,rr 0 a1),(1,.fn 169 [pp 1,pp 2]),(7,iv (a1.length:Int)),(8,iv s10)] [(0,rE 1 eStr a1),(1,.box (Term.enc a2)),(2,.box (Pack.enc false a3))]) (xE a1 a2 a3 s10) (Fl.go (fun r:Int=>some (iv r,[rE 1 eStr a1,.box (Term.enc a2),.box (Pack.enc false a3)])) kn):=by
 refine kT (fun g ih s10=>?_)
 unfold yZ
 refine J_d 104 [] [9] [(9,bv (decide (s10< (a1.length:Int))))] [] [] zB ?_
 refine zG 9 (fun h11=>?_) (fun h11=>?_)
 ·refine J_d 1688 [] [5,9] [(5,iv s10)] [] [] zB ?_
  refine zA (fun x12 h13=>?_)
  refine zA (fun x14 h15=>?_)
  refine J_d 3378 [] [16] [(16,bv x14)] [] [] (zF 3 (zAf (kk:=.i64) 32 9 1 0 eStr (.tmp 12) (.tmp 13) h13) (zF 4 (zAi (d:=sv x12) 9 1 0 0 eStr (.tmp 14) h13 (by kernel_rfl)) (zF 5 (zEm [(1,.box (Term.enc a2)),(2,.box (Pack.enc false a3))] [] (zEf 11 [(.tmp 15)] [9] false [(1,.box (Term.enc a2)),(2,.box (Pack.enc false a3))] [1,2] [sv x12] [pp 1,pp 2] (.cons (.same rfl) (.cons (.pt rfl) (.cons (.pt rfl) (.nil)))) (zAj.ok x12 a2 a3) h15 (.same rfl rfl))) zB))) ?_
  refine zG 16 (fun h16=>?_) (fun h16=>?_)
  ·refine J_d 13516 [] [0,1,4,5,7,8,16] [(4,iv s10)] [] [] zB ?_
   exact xR rfl
  ·refine J_d 423 [] [5,8,16] [(8,iv (w64 (s10+1)))] [] [] zB ?_
   exact J_q (J_b (ih (w64 (s10+1)))) rfl
 ·exact yO (hk ()) rfl
theorem yQ.ok (a1:(List ByteArray)) (a2:Term) (a3:Pack):Ok Tryz.prog 122 [rr 0 a1,.fn 169 [pp 1,pp 2]] [rE 1 eStr a1,.box (Term.enc a2),.box (Pack.enc false a3)] ((yQ a1 a2 a3).map fun r=>(iv r,[rE 1 eStr a1,.box (Term.enc a2),.box (Pack.enc false a3)])):=by
 refine zH zKQ Tryz.f122 3 19 (fun q=>?_)
 unfold yQ
 refine J_g 2 [] [(0,rr 0 a1),(1,.fn 169 [pp 1,pp 2])] [(0,rE 1 eStr a1),(1,.box (Term.enc a2)),(2,.box (Pack.enc false a3))] zB ?_
 refine J_d 12 [] [7,8] [(7,iv (a1.length:Int)),(8,iv 0)] [] [] zB ?_
 refine jS (K0:=(fun r:Int=>some (iv r,[rE 1 eStr a1,.box (Term.enc a2),.box (Pack.enc false a3)]))) (fun _=>rfl) (xE.ok a1 a2 a3 q _ (fun v17=>J_j ?_) 0)
 refine J_d 14 [] [4] [(4,iv (-1))] [] [] zB ?_
 exact xR rfl
theorem yE.ok (a1:(List ByteArray)) (a2:Term) (a3:Pack):Ok Tryz.prog 75 [rr 0 a1,.fn 169 [pp 1,pp 2]] [rE 1 eStr a1,.box (Term.enc a2),.box (Pack.enc false a3)] ((yE a1 a2 a3).map fun r=>(bv r,[rE 1 eStr a1,.box (Term.enc a2),.box (Pack.enc false a3)])):=by
 refine zH c75 Tryz.f75 3 9 (fun q=>?_)
 unfold yE
 refine J_d 2 [] [] [] [] [] zB ?_
 refine zA (fun x4 h5=>?_)
 refine J_d 6 [] [0,1,4] [(4,bv (decide (x4≥0)))] [] [] (zF 2 (zEm [(0,rE 1 eStr a1),(1,.box (Term.enc a2)),(2,.box (Pack.enc false a3))] [] (wQ («as»:=[rr 0 a1,.fn 169 [pp 1,pp 2]]) [(.tmp 5),(.tmp 6)] [32,99] false [(0,rE 1 eStr a1),(1,.box (Term.enc a2)),(2,.box (Pack.enc false a3))] [0,1,2] (.cons (.rf rfl) (.cons (.fn (.cons (.pt rfl) (.cons (.pt rfl) (.nil)))) (.nil))) (yQ.ok a1 a2 a3) h5 (.same rfl rfl))) zB) ?_
 exact xR rfl
noncomputable def zOb:Code:=(Tryz.f135.body).getD .skip
theorem tX.ok (a1:Pack) (a2:Term):Ok Tryz.prog 135 [.ag (Pack.enc false a1),.ag (Term.enc a2)] [] ((tX a1 a2).map fun r=>(bv r,[])):=by
 refine zH zOb Tryz.f135 0 9 (fun q=>?_)
 unfold tX
 refine J_g 2 [(0,0),(1,1)] [(2,pp 0),(3,pp 1)] [(0,.box (Pack.enc false a1)),(1,.box (Term.enc a2))] zB ?_
 refine zA (fun x3 h4=>?_)
 refine zA (fun x5 h6=>?_)
 refine J_g 6 [] [(4,bv x5)] [] (zF 1 (wQ («as»:=[.ag (Pack.enc false a1)]) [(.tmp 5)] [91] false [] [] (.cons (.same rfl) (.nil)) (zBr.ok a1) h4 (.own 2)) (zF 3 (zEm [(2,rE 1 eStr x3),(1,.box (Term.enc a2)),(0,.box (Pack.enc false a1))] [] (wQ («as»:=[rr 2 x3,.fn 169 [pp 1,pp 0]]) [(.tmp 6),(.tmp 7)] [32,99] false [(2,rE 1 eStr x3),(1,.box (Term.enc a2)),(0,.box (Pack.enc false a1))] [2,1,0] (.cons (.rf rfl) (.cons (.fn (.cons (.pt rfl) (.cons (.pt rfl) (.nil)))) (.nil))) (yE.ok x3 a2 a1) h6 (.same rfl rfl))) zB)) ?_
 exact xR rfl
theorem xJ.ok (a1:(List Term)) (a2:Pack) (q:Wd) (kn:Unit→Option (D×List Ent)) (hk:∀v:Unit,J (q.g Tryz.prog 124 0 19) c124 (atI c124 7) (St.mk' [] []) (some v) kn):
  ∀s9:Int,J (q.g Tryz.prog 124 0 19) c124 (atI c124 52) (St.mk' [(0,sl 7 Term.enc a1),(1,.fb 135 [.ag (Pack.enc false a2)]),(7,iv (a1.length:Int)),(8,iv s9)] []) (xJ a1 a2 s9) (Fl.go (fun r:Int=>some (iv r,[])) kn):=by
 refine kT (fun g ih s9=>?_)
 unfold xG
 refine J_d 104 [] [9] [(9,bv (decide (s9< (a1.length:Int))))] [] [] zB ?_
 refine zG 9 (fun h10=>?_) (fun h10=>?_)
 ·refine J_d 1688 [] [5,9] [(5,iv s9)] [] [] zB ?_
  refine zA (fun x11 h12=>?_)
  refine zA (fun x13 h14=>?_)
  refine J_d 3378 [] [16] [(16,bv x13)] [] [] (zF 3 (tC (kk:=.i64) 80 104 7 Term.enc (.tmp 12) (.tmp 13) h12) (zF 5 (zNr («as»:=[.ag (Term.enc x11)]) (caps:=[.ag (Pack.enc false a2)]) 11 [(.tmp 15)] [104] (tX.ok a2 x11) h14) zB)) ?_
  refine zG 16 (fun h15=>?_) (fun h15=>?_)
  ·refine J_g 13516 [] [(4,iv s9)] [] zB ?_
   exact xR rfl
  ·refine J_d 423 [] [5,8,16] [(8,iv (w64 (s9+1)))] [] [] zB ?_
   exact J_q (J_b (ih (w64 (s9+1)))) rfl
 ·exact yO (hk ()) rfl
theorem yS.ok (a1:(List Term)) (a2:Pack):Ok Tryz.prog 124 [sl 7 Term.enc a1,.fb 135 [.ag (Pack.enc false a2)]] [] ((yS a1 a2).map fun r=>(iv r,[])):=by
 refine zH c124 Tryz.f124 0 19 (fun q=>?_)
 unfold yS
 refine J_g 2 [] [(0,sl 7 Term.enc a1),(1,.fb 135 [.ag (Pack.enc false a2)])] [] zB ?_
 refine J_d 12 [] [7,8] [(7,iv (a1.length:Int)),(8,iv 0)] [] [] zB ?_
 refine jS (K0:=(fun r:Int=>some (iv r,[]))) (fun _=>rfl) (xJ.ok a1 a2 q _ (fun v16=>J_j ?_) 0)
 refine J_g 14 [] [(4,iv (-1))] [] zB ?_
 exact xR rfl
theorem yH.ok (a1:(List Term)) (a2:Pack):Ok Tryz.prog 79 [sl 7 Term.enc a1,.fb 135 [.ag (Pack.enc false a2)]] [] ((yH a1 a2).map fun r=>(bv r,[])):=by
 refine zH c79 Tryz.f79 0 9 (fun q=>?_)
 unfold yH
 refine J_d 2 [] [] [] [] [] zB ?_
 refine zA (fun x3 h4=>?_)
 refine J_g 6 [] [(4,bv (decide (x3≥0)))] [] (zF 2 (wQ («as»:=[sl 7 Term.enc a1,.fb 135 [.ag (Pack.enc false a2)]]) [(.tmp 5),(.tmp 6)] [80,105] false [] [] (.cons (.same rfl) (.cons (.fb (.cons (.same rfl) (.nil))) (.nil))) (yS.ok a1 a2) h4 (.same rfl rfl)) zB) ?_
 exact xR rfl
noncomputable def zOq:Code:=(Tryz.f133.body).getD .skip
theorem tO.ok (a1:Pack) (a2:(List Term)):Ok Tryz.prog 133 [.ag (Pack.enc false a1),sl 7 Term.enc a2] [] ((tO a1 a2).map fun r=>(bv r,[])):=by
 refine zH zOq Tryz.f133 0 9 (fun q=>?_)
 unfold tO
 refine J_d 2 [(0,0)] [0,2] [(2,pp 0)] [0] [(0,.box (Pack.enc false a1))] zB ?_
 refine zA (fun x3 h4=>?_)
 refine J_g 6 [] [(4,bv x3)] [] (zF 2 (zNA 135 [(.tmp 6)] [.ag (Pack.enc false a1)]) (zF 3 (wQ («as»:=[sl 7 Term.enc a2,.fb 135 [.ag (Pack.enc false a1)]]) [(.tmp 5),(.tmp 7)] [80,105] false [] [] (.cons (.same rfl) (.cons (.fb (.cons (.same rfl) (.nil))) (.nil))) (yH.ok a2 a1) h4 (.same rfl rfl)) zB)) ?_
 exact xR rfl
noncomputable def zOo:Code:=(Tryz.f132.body).getD .skip
theorem zCM.ok (a1:Int) (a2:(List Pack)) (a3:(List Term)):Ok Tryz.prog 132 [iv a1,pp 0,pp 1] [.box [sl 8 (Pack.enc false) a2],.box [sl 7 Term.enc a3]] ((zCM a1 a2 a3).map fun r=>(bv r,[.box [sl 8 (Pack.enc false) a2],.box [sl 7 Term.enc a3]])):=by
 refine zH zOo Tryz.f132 2 11 (fun q=>?_)
 unfold zCM
 refine J_d 2 [] [] [] [] [] zB ?_
 refine zA (fun x4 h5=>?_)
 refine zA (fun x6 h7=>?_)
 refine J_d 6 [] [0,1,2,4] [(4,bv x6)] [] [] (zF 2 (tC (kk:=.i64) 24 91 8 (Pack.enc false) (.tmp 5) (.tmp 6) h5) (zF 5 (vM [(.tmp 8),(.tmp 9)] [91,80] (tO.ok x4 a3) h7) zB)) ?_
 exact xR rfl
theorem wD.ok (a1:(List Int)) (a2:(List Pack)) (a3:(List Term)) (q:Wd) (kn:Unit→Option (D×List Ent)) (hk:∀v:Unit,J (q.g Tryz.prog 167 2 19) c167 (atI c167 7) (St.mk' [] [(0,.box [sl 8 (Pack.enc false) a2]),(1,.box [sl 7 Term.enc a3])]) (some v) kn):
  ∀s10:Int,J (q.g Tryz.prog 167 2 19) c167 (atI c167 52) (St.mk' [(0,sl 1 zC a1),(1,.fn 132 [pp 0,pp 1]),(7,iv (a1.length:Int)),(8,iv s10)] [(0,.box [sl 8 (Pack.enc false) a2]),(1,.box [sl 7 Term.enc a3])]) (wD a1 a2 a3 s10) (Fl.go (fun r:Int=>some (iv r,[.box [sl 8 (Pack.enc false) a2],.box [sl 7 Term.enc a3]])) kn):=by
 refine kT (fun g ih s10=>?_)
 unfold xZ
 refine J_d 104 [] [9] [(9,bv (decide (s10< (a1.length:Int))))] [] [] zB ?_
 refine zG 9 (fun h11=>?_) (fun h11=>?_)
 ·refine J_d 1688 [] [5,9] [(5,iv s10)] [] [] zB ?_
  refine zA (fun x12 h13=>?_)
  refine zA (fun x14 h15=>?_)
  refine J_d 3378 [] [16] [(16,bv x14)] [] [] (zF 3 (tC (kk:=.i64) 25 2 1 zC (.tmp 12) (.tmp 13) h13) (zF 5 (zEm [(0,.box [sl 8 (Pack.enc false) a2]),(1,.box [sl 7 Term.enc a3])] [] (zEf 11 [(.tmp 15)] [2] false [(0,.box [sl 8 (Pack.enc false) a2]),(1,.box [sl 7 Term.enc a3])] [0,1] [iv x12] [pp 0,pp 1] (.cons (.same rfl) (.cons (.pt rfl) (.cons (.pt rfl) (.nil)))) (zCM.ok x12 a2 a3) h15 (.same rfl rfl))) zB)) ?_
  refine zG 16 (fun h16=>?_) (fun h16=>?_)
  ·refine J_d 13516 [] [0,1,4,5,7,8,16] [(4,iv s10)] [] [] zB ?_
   exact xR rfl
  ·refine J_d 423 [] [5,8,16] [(8,iv (w64 (s10+1)))] [] [] zB ?_
   exact J_q (J_b (ih (w64 (s10+1)))) rfl
 ·exact yO (hk ()) rfl
theorem xS.ok (a1:(List Int)) (a2:(List Pack)) (a3:(List Term)):Ok Tryz.prog 167 [sl 1 zC a1,.fn 132 [pp 0,pp 1]] [.box [sl 8 (Pack.enc false) a2],.box [sl 7 Term.enc a3]] ((xS a1 a2 a3).map fun r=>(iv r,[.box [sl 8 (Pack.enc false) a2],.box [sl 7 Term.enc a3]])):=by
 refine zH c167 Tryz.f167 2 19 (fun q=>?_)
 unfold xS
 refine J_g 2 [] [(0,sl 1 zC a1),(1,.fn 132 [pp 0,pp 1])] [(0,.box [sl 8 (Pack.enc false) a2]),(1,.box [sl 7 Term.enc a3])] zB ?_
 refine J_d 12 [] [7,8] [(7,iv (a1.length:Int)),(8,iv 0)] [] [] zB ?_
 refine jS (K0:=(fun r:Int=>some (iv r,[.box [sl 8 (Pack.enc false) a2],.box [sl 7 Term.enc a3]]))) (fun _=>rfl) (wD.ok a1 a2 a3 q _ (fun v17=>J_j ?_) 0)
 refine J_d 14 [] [4] [(4,iv (-1))] [] [] zB ?_
 exact xR rfl
theorem yG.ok (a1:(List Int)) (a2:(List Pack)) (a3:(List Term)):Ok Tryz.prog 129 [sl 1 zC a1,.fn 132 [pp 0,pp 1]] [.box [sl 8 (Pack.enc false) a2],.box [sl 7 Term.enc a3]] ((yG a1 a2 a3).map fun r=>(bv r,[.box [sl 8 (Pack.enc false) a2],.box [sl 7 Term.enc a3]])):=by
 refine zH zN7 Tryz.f129 2 9 (fun q=>?_)
 unfold yG
 refine J_d 2 [] [] [] [] [] zB ?_
 refine zA (fun x4 h5=>?_)
 refine J_d 6 [] [0,1,4] [(4,bv (decide (x4≥0)))] [] [] (zF 2 (zEm [(0,.box [sl 8 (Pack.enc false) a2]),(1,.box [sl 7 Term.enc a3])] [] (wQ («as»:=[sl 1 zC a1,.fn 132 [pp 0,pp 1]]) [(.tmp 5),(.tmp 6)] [25,110] false [(0,.box [sl 8 (Pack.enc false) a2]),(1,.box [sl 7 Term.enc a3])] [0,1] (.cons (.same rfl) (.cons (.fn (.cons (.pt rfl) (.cons (.pt rfl) (.nil)))) (.nil))) (xS.ok a1 a2 a3) h5 (.same rfl rfl))) zB) ?_
 exact xR rfl
noncomputable def zOl:Code:=(Tryz.f134.body).getD .skip
theorem zCQ.ok (a1:Int) (a2:Int) (a3:(List Pack)) (a4:Term):Ok Tryz.prog 134 [iv a1,pp 0,pp 1,pp 2] [.box [iv a2],.box [sl 8 (Pack.enc false) a3],.box (Term.enc a4)] ((zCQ a1 a2 a3 a4).map fun r=>(bv r,[.box [iv a2],.box [sl 8 (Pack.enc false) a3],.box (Term.enc a4)])):=by
 refine zH zOl Tryz.f134 3 17 (fun q=>?_)
 unfold zCQ
 refine J_d 2 [] [] [] [] [] zB ?_
 refine vV (fun h5=>?_) (fun h5=>?_)
 ·refine zA (fun x6 h7=>?_)
  refine zA (fun x8 h9=>?_)
  refine J_d 6 [] [0,1,2,3,5] [(5,bv x8)] [] [] (vD 3 [(8,bv (a1 !=a2))] [] h5 (zBi 6 3 9 true (tC (kk:=.i64) 24 91 8 (Pack.enc false) (.tmp 10) (.tmp 11) h7) (zBi 9 3 9 true (vM [(.tmp 13),(.tmp 14)] [91,104] (tX.ok x6 a4) h9) zB))) ?_
  exact xR rfl
 ·refine J_d 6 [] [0,1,2,3,5] [(5,bv false)] [] [] (vD 3 [(8,bv (a1 !=a2))] [] h5 zB) ?_
  exact xR rfl
theorem wE.ok (a1:(List Int)) (a2:Int) (a3:(List Pack)) (a4:Term) (q:Wd) (kn:Unit→Option (D×List Ent)) (hk:∀v:Unit,J (q.g Tryz.prog 167 3 19) c167 (atI c167 7) (St.mk' [] [(0,.box [iv a2]),(1,.box [sl 8 (Pack.enc false) a3]),(2,.box (Term.enc a4))]) (some v) kn):
  ∀s11:Int,J (q.g Tryz.prog 167 3 19) c167 (atI c167 52) (St.mk' [(0,sl 1 zC a1),(1,.fn 134 [pp 0,pp 1,pp 2]),(7,iv (a1.length:Int)),(8,iv s11)] [(0,.box [iv a2]),(1,.box [sl 8 (Pack.enc false) a3]),(2,.box (Term.enc a4))]) (wE a1 a2 a3 a4 s11) (Fl.go (fun r:Int=>some (iv r,[.box [iv a2],.box [sl 8 (Pack.enc false) a3],.box (Term.enc a4)])) kn):=by
 refine kT (fun g ih s11=>?_)
 unfold xY
 refine J_d 104 [] [9] [(9,bv (decide (s11< (a1.length:Int))))] [] [] zB ?_
 refine zG 9 (fun h12=>?_) (fun h12=>?_)
 ·refine J_d 1688 [] [5,9] [(5,iv s11)] [] [] zB ?_
  refine zA (fun x13 h14=>?_)
  refine zA (fun x15 h16=>?_)
  refine J_d 3378 [] [16] [(16,bv x15)] [] [] (zF 3 (tC (kk:=.i64) 25 2 1 zC (.tmp 12) (.tmp 13) h14) (zF 5 (zEm [(0,.box [iv a2]),(1,.box [sl 8 (Pack.enc false) a3]),(2,.box (Term.enc a4))] [] (zEf 11 [(.tmp 15)] [2] false [(0,.box [iv a2]),(1,.box [sl 8 (Pack.enc false) a3]),(2,.box (Term.enc a4))] [0,1,2] [iv x13] [pp 0,pp 1,pp 2] (.cons (.same rfl) (.cons (.pt rfl) (.cons (.pt rfl) (.cons (.pt rfl) (.nil))))) (zCQ.ok x13 a2 a3 a4) h16 (.same rfl rfl))) zB)) ?_
  refine zG 16 (fun h17=>?_) (fun h17=>?_)
  ·refine J_d 13516 [] [0,1,4,5,7,8,16] [(4,iv s11)] [] [] zB ?_
   exact xR rfl
  ·refine J_d 423 [] [5,8,16] [(8,iv (w64 (s11+1)))] [] [] zB ?_
   exact J_q (J_b (ih (w64 (s11+1)))) rfl
 ·exact yO (hk ()) rfl
theorem xU.ok (a1:(List Int)) (a2:Int) (a3:(List Pack)) (a4:Term):Ok Tryz.prog 167 [sl 1 zC a1,.fn 134 [pp 0,pp 1,pp 2]] [.box [iv a2],.box [sl 8 (Pack.enc false) a3],.box (Term.enc a4)] ((xU a1 a2 a3 a4).map fun r=>(iv r,[.box [iv a2],.box [sl 8 (Pack.enc false) a3],.box (Term.enc a4)])):=by
 refine zH c167 Tryz.f167 3 19 (fun q=>?_)
 unfold xU
 refine J_g 2 [] [(0,sl 1 zC a1),(1,.fn 134 [pp 0,pp 1,pp 2])] [(0,.box [iv a2]),(1,.box [sl 8 (Pack.enc false) a3]),(2,.box (Term.enc a4))] zB ?_
 refine J_d 12 [] [7,8] [(7,iv (a1.length:Int)),(8,iv 0)] [] [] zB ?_
 refine jS (K0:=(fun r:Int=>some (iv r,[.box [iv a2],.box [sl 8 (Pack.enc false) a3],.box (Term.enc a4)]))) (fun _=>rfl) (wE.ok a1 a2 a3 a4 q _ (fun v18=>J_j ?_) 0)
 refine J_d 14 [] [4] [(4,iv (-1))] [] [] zB ?_
 exact xR rfl
theorem yF.ok (a1:(List Int)) (a2:Int) (a3:(List Pack)) (a4:Term):Ok Tryz.prog 129 [sl 1 zC a1,.fn 134 [pp 0,pp 1,pp 2]] [.box [iv a2],.box [sl 8 (Pack.enc false) a3],.box (Term.enc a4)] ((yF a1 a2 a3 a4).map fun r=>(bv r,[.box [iv a2],.box [sl 8 (Pack.enc false) a3],.box (Term.enc a4)])):=by
 refine zH zN7 Tryz.f129 3 9 (fun q=>?_)
 unfold yF
 refine J_d 2 [] [] [] [] [] zB ?_
 refine zA (fun x5 h6=>?_)
 refine J_d 6 [] [0,1,4] [(4,bv (decide (x5≥0)))] [] [] (zF 2 (zEm [(0,.box [iv a2]),(1,.box [sl 8 (Pack.enc false) a3]),(2,.box (Term.enc a4))] [] (wQ («as»:=[sl 1 zC a1,.fn 134 [pp 0,pp 1,pp 2]]) [(.tmp 5),(.tmp 6)] [25,110] false [(0,.box [iv a2]),(1,.box [sl 8 (Pack.enc false) a3]),(2,.box (Term.enc a4))] [0,1,2] (.cons (.same rfl) (.cons (.fn (.cons (.pt rfl) (.cons (.pt rfl) (.cons (.pt rfl) (.nil))))) (.nil))) (xU.ok a1 a2 a3 a4) h6 (.same rfl rfl))) zB) ?_
 exact xR rfl
noncomputable def c86:Code:=(Tryz.f86.body).getD .skip
theorem zCW.ok (a1:(List Pack)) (a2:(List Int)) (s56:((List zN)×Int)) (x58:Int) (x60:Pack) (q:Wd) (kn:(List zN)→Option (D×List Ent)) (hk:∀v:(List zN),J (q.g Tryz.prog 86 0 77) c86 (aft c86 1868) (St.mk' [(1,sl 1 zC a2),(2,pp 0),(5,rr 5 v),(14,sl 1 zC a2),(15,iv (a2.length:Int)),(16,iv s56.2)] [(0,.box [sl 8 (Pack.enc false) a1]),(5,rE 3 zN.enc v)]) (some v) kn):
  ∀s99:((List zN)×Int),J (q.g Tryz.prog 86 0 77) c86 (atI c86 239228) (St.mk' [(1,sl 1 zC a2),(2,pp 0),(5,rr 5 s99.1),(7,pp 2),(14,sl 1 zC a2),(15,iv (a2.length:Int)),(16,iv s56.2),(58,sl 7 Term.enc x60.Bars),(59,iv (x60.Bars.length:Int)),(60,iv s99.2)] [(0,.box [sl 8 (Pack.enc false) a1]),(2,.box [iv x58]),(5,rE 3 zN.enc s99.1)]) (zCW a1 a2 s56 x58 x60 s99) kn:=by
 refine kT (fun g ih s99=>?_)
 unfold zC9
 refine J_d 478456 [] [61] [(61,bv (decide (s99.2< (x60.Bars.length:Int))))] [] [] zB ?_
 refine zG 61 (fun h100=>?_) (fun h100=>?_)
 ·refine zA (fun x101 h102=>?_)
  refine J_d 7655320 [(3,6)] [11,12,61] [(11,iv s99.2),(12,pp 6)] [6] [(6,.box (Term.enc x101))] (zF 1 (tC (kk:=.i64) 80 104 7 Term.enc (.tmp 58) (.tmp 60) h102) zB) ?_
  refine zA (fun x103 h104=>?_)
  refine J_d 15310642 [] [12,67] [(67,bv x103)] [6] [] (zF 2 (zEm [(2,.box [iv x58]),(0,.box [sl 8 (Pack.enc false) a1]),(6,.box (Term.enc x101))] [] (wQ («as»:=[sl 1 zC a2,.fn 134 [pp 2,pp 0,pp 6]]) [(.tmp 65),(.tmp 66)] [25,110] false [(2,.box [iv x58]),(0,.box [sl 8 (Pack.enc false) a1]),(6,.box (Term.enc x101))] [2,0,6] (.cons (.same rfl) (.cons (.fn (.cons (.pt rfl) (.cons (.pt rfl) (.cons (.pt rfl) (.nil))))) (.nil))) (yF.ok a2 x58 a1 x101) h104 (.same rfl rfl))) zB) ?_
  refine wC (aft c86 3827660) (fun v108:(List zN)=>St.mk' [(1,sl 1 zC a2),(2,pp 0),(5,rr 7 v108),(7,pp 2),(14,sl 1 zC a2),(15,iv (a2.length:Int)),(16,iv s56.2),(58,sl 7 Term.enc x60.Bars),(59,iv (x60.Bars.length:Int)),(60,iv s99.2)] [(0,.box [sl 8 (Pack.enc false) a1]),(2,.box [iv x58]),(7,rE 3 zN.enc v108)]) (fun v108=>?_) (fun jv108=>?_)
  ·refine J_d 1913831 [] [60] [(60,iv (w64 (s99.2+1)))] [] [] zB ?_
   refine vJ 7 5 (Nat.le_of_ble_eq_true rfl) (Nat.le_of_ble_eq_true rfl) ?_
   exact J_q (J_b (ih (v108,w64 (s99.2+1)))) rfl
  ·refine zG 67 (fun h105=>?_) (fun h105=>?_)
   ·refine zA (fun x106 h107=>?_)
    refine J_d 30621286 [] [5,11,67] [(5,rr 7 x106)] [5,7] [(7,rE 3 zN.enc x106)] (zF 4 (zA2 108 125 3 6 zN.enc [({Kind:=3,Pack:=x58,At:=s99.2}:zN)] [0] [(.tmp 71)] [.ag [iv 3,iv x58,iv s99.2]]) (zF 5 (zEk 108 108 125 125 3 24 7 5 6 zN.enc (.tmp 68) (.tmp 72) h107) zB)) ?_
    exact yO (J_j (jv108 x106)) rfl
   ·refine vJ 5 7 (Nat.le_of_ble_eq_true rfl) (Nat.le_of_ble_eq_true rfl) ?_
    exact yO (J_j (jv108 s99.1)) rfl
 ·exact yO (hk s99.1) rfl
theorem zCX.ok (a1:(List Pack)) (a2:(List Int)) (s56:((List zN)×Int)) (x58:Int) (x60:Pack) (q:Wd) (kn:(List zN)→Option (D×List Ent)) (hk:∀v:(List zN),J (q.g Tryz.prog 86 0 77) c86 (atI c86 29903) (St.mk' [(1,sl 1 zC a2),(2,pp 0),(5,rr 5 v),(7,pp 2),(8,pp 3),(14,sl 1 zC a2),(15,iv (a2.length:Int)),(16,iv s56.2)] [(0,.box [sl 8 (Pack.enc false) a1]),(2,.box [iv x58]),(3,.box (Pack.enc false x60)),(5,rE 3 zN.enc v)]) (some v) kn):
  ∀s79:((List zN)×Int),J (q.g Tryz.prog 86 0 77) c86 (atI c86 239220) (St.mk' [(1,sl 1 zC a2),(2,pp 0),(5,rr 5 s79.1),(7,pp 2),(8,pp 3),(14,sl 1 zC a2),(15,iv (a2.length:Int)),(16,iv s56.2),(39,sl 1 (eSl false 7 Term.enc) x60.Needs),(40,iv (x60.Needs.length:Int)),(41,iv s79.2)] [(0,.box [sl 8 (Pack.enc false) a1]),(2,.box [iv x58]),(3,.box (Pack.enc false x60)),(5,rE 3 zN.enc s79.1)]) (zCX a1 a2 s56 x58 x60 s79) kn:=by
 refine kT (fun g ih s79=>?_)
 unfold zCE
 refine J_d 478440 [] [42] [(42,bv (decide (s79.2< (x60.Needs.length:Int))))] [] [] zB ?_
 refine zG 42 (fun h80=>?_) (fun h80=>?_)
 ·refine zA (fun x81 h82=>?_)
  refine J_d 7655064 [(3,6)] [9,10,42] [(9,iv s79.2),(10,pp 6)] [6] [(6,.box [sl 7 Term.enc x81])] (zF 1 (tC (kk:=.i64) 89 80 1 (eSl false 7 Term.enc) (.tmp 39) (.tmp 41) h82) zB) ?_
  refine zA (fun x83 h84=>?_)
  refine J_d 15310130 [] [10,49] [(49,bv (!x83))] [6] [] (zF 2 (zEm [(0,.box [sl 8 (Pack.enc false) a1]),(6,.box [sl 7 Term.enc x81])] [] (wQ («as»:=[sl 1 zC a2,.fn 132 [pp 0,pp 6]]) [(.tmp 46),(.tmp 47)] [25,110] false [(0,.box [sl 8 (Pack.enc false) a1]),(6,.box [sl 7 Term.enc x81])] [0,6] (.cons (.same rfl) (.cons (.fn (.cons (.pt rfl) (.cons (.pt rfl) (.nil)))) (.nil))) (yG.ok a2 a1 x81) h84 (.same rfl rfl))) zB) ?_
  refine wC (aft c86 3827532) (fun v88:(List zN)=>St.mk' [(1,sl 1 zC a2),(2,pp 0),(5,rr 7 v88),(7,pp 2),(8,pp 3),(14,sl 1 zC a2),(15,iv (a2.length:Int)),(16,iv s56.2),(39,sl 1 (eSl false 7 Term.enc) x60.Needs),(40,iv (x60.Needs.length:Int)),(41,iv s79.2)] [(0,.box [sl 8 (Pack.enc false) a1]),(2,.box [iv x58]),(3,.box (Pack.enc false x60)),(7,rE 3 zN.enc v88)]) (fun v88=>?_) (fun jv88=>?_)
  ·refine J_d 1913767 [] [41] [(41,iv (w64 (s79.2+1)))] [] [] zB ?_
   refine vJ 7 5 (Nat.le_of_ble_eq_true rfl) (Nat.le_of_ble_eq_true rfl) ?_
   exact J_q (J_b (ih (v88,w64 (s79.2+1)))) rfl
  ·refine zG 49 (fun h85=>?_) (fun h85=>?_)
   ·refine zA (fun x86 h87=>?_)
    refine J_d 30620262 [] [5,9,49] [(5,rr 7 x86)] [5,7] [(7,rE 3 zN.enc x86)] (zF 4 (zA2 108 125 3 6 zN.enc [({Kind:=2,Pack:=x58,At:=s79.2}:zN)] [0] [(.tmp 53)] [.ag [iv 2,iv x58,iv s79.2]]) (zF 5 (zEk 108 108 125 125 3 24 7 5 6 zN.enc (.tmp 50) (.tmp 54) h87) zB)) ?_
    exact yO (J_j (jv88 x86)) rfl
   ·refine vJ 5 7 (Nat.le_of_ble_eq_true rfl) (Nat.le_of_ble_eq_true rfl) ?_
    exact yO (J_j (jv88 s79.1)) rfl
 ·exact yO (hk s79.1) rfl
theorem zCZ.ok (a1:(List Pack)) (a2:(List Int)) (q:Wd) (kn:(List zN)→Option (D×List Ent)) (hk:∀v:(List zN),J (q.g Tryz.prog 86 0 77) c86 (atI c86 15) (St.mk' [(5,rr 1 v)] [(1,rE 3 zN.enc v)]) (some v) kn):
  ∀s56:((List zN)×Int),J (q.g Tryz.prog 86 0 77) c86 (atI c86 116) (St.mk' [(1,sl 1 zC a2),(2,pp 0),(5,rr 1 s56.1),(14,sl 1 zC a2),(15,iv (a2.length:Int)),(16,iv s56.2)] [(0,.box [sl 8 (Pack.enc false) a1]),(1,rE 3 zN.enc s56.1)]) (zCZ a1 a2 s56) kn:=by
 refine kT (fun g ih s56=>?_)
 unfold zCo
 refine J_d 232 [] [17] [(17,bv (decide (s56.2< (a2.length:Int))))] [] [] zB ?_
 refine zG 17 (fun h57=>?_) (fun h57=>?_)
 ·refine zA (fun x58 h59=>?_)
  refine J_d 3736 [(3,2)] [6,7,17] [(6,iv s56.2),(7,pp 2)] [2] [(2,.box [iv x58])] (zF 1 (tC (kk:=.i64) 25 2 1 zC (.tmp 14) (.tmp 16) h59) zB) ?_
  refine zA (fun x60 h61=>?_)
  refine J_d 7474 [(4,3)] [8] [(8,pp 3)] [3] [(3,.box (Pack.enc false x60))] (zF 2 (tC (kk:=.i64) 24 91 8 (Pack.enc false) (.tmp 21) (.tmp 22) h61) zB) ?_
  refine zA (fun x62 h63=>?_)
  refine zA (fun x64 h65=>?_)
  refine J_d 29900 [] [6,32] [(32,bv (decide (x64≥0)))] [] [] (zF 3 (zLI 25 2 1 zC (.tmp 26) none (some (.tmp 27)) h63) (zF 6 (vM [(.tmp 25),(.tmp 28),(.tmp 30)] [24,25,9] (vW.ok a1 x62 x60.Name) h65) zB)) ?_
  refine wC (atI c86 14951) (fun v69:(List zN)=>St.mk' [(1,sl 1 zC a2),(2,pp 0),(5,rr 5 v69),(7,pp 2),(8,pp 3),(14,sl 1 zC a2),(15,iv (a2.length:Int)),(16,iv s56.2)] [(0,.box [sl 8 (Pack.enc false) a1]),(2,.box [iv x58]),(3,.box (Pack.enc false x60)),(5,rE 3 zN.enc v69)]) (fun v69=>?_) (fun jv69=>?_)
  ·refine J_d 59804 [] [39,40,41] [(39,sl 1 (eSl false 7 Term.enc) x60.Needs),(40,iv (x60.Needs.length:Int)),(41,iv 0)] [] [] zB ?_
   refine zEa (zCX.ok a1 a2 s56 x58 x60 q _ (fun v89=>J_j ?_) (v69,0))
   refine J_d 59806 [] [8,58,59,60] [(58,sl 7 Term.enc x60.Bars),(59,iv (x60.Bars.length:Int)),(60,iv 0)] [3] [] zB ?_
   refine zEa (zCW.ok a1 a2 s56 x58 x60 q _ (fun v109=>J_j ?_) (v89,0))
   refine J_d 935 [] [16] [(16,iv (w64 (s56.2+1)))] [] [] zB ?_
   refine vJ 5 1 (Nat.le_of_ble_eq_true rfl) (Nat.le_of_ble_eq_true rfl) ?_
   exact J_q (J_b (ih (v109,w64 (s56.2+1)))) rfl
  ·refine zG 32 (fun h66=>?_) (fun h66=>?_)
   ·refine zA (fun x67 h68=>?_)
    refine J_d 59802 [] [5,32] [(5,rr 5 x67)] [1,5] [(5,rE 3 zN.enc x67)] (zF 3 (zA2 108 125 3 4 zN.enc [({Kind:=1,Pack:=x58,At:=0}:zN)] [0] [(.tmp 35)] [.ag [iv 1,iv x58,iv 0]]) (zF 4 (zEk 108 108 125 125 3 24 5 1 4 zN.enc (.tmp 33) (.tmp 36) h68) zB)) ?_
    exact yO (J_j (jv69 x67)) rfl
   ·refine vJ 1 5 (Nat.le_of_ble_eq_true rfl) (Nat.le_of_ble_eq_true rfl) ?_
    exact yO (J_j (jv69 s56.1)) rfl
 ·exact yO (hk s56.1) rfl
theorem zDq.ok (a1:(List Pack)) (a2:(List Int)):Ok Tryz.prog 86 [sl 8 (Pack.enc false) a1,sl 1 zC a2] [] ((zDq a1 a2).map fun r=>(so 3 zN.enc r,[])):=by
 refine zH c86 Tryz.f86 0 77 (fun q=>?_)
 unfold zDq
 refine J_g 2 [(0,0)] [(1,sl 1 zC a2),(2,pp 0)] [(0,.box [sl 8 (Pack.enc false) a1])] zB ?_
 refine J_g 6 [] [(1,sl 1 zC a2),(2,pp 0),(5,rr 1 ([]:List zN))] [(0,.box [sl 8 (Pack.enc false) a1]),(1,rE 3 zN.enc ([]:List zN))] (zF 0 (zA2 108 125 3 1 zN.enc ([]:List zN) [] [] []) zB) ?_
 refine J_d 28 [] [14,15,16] [(14,sl 1 zC a2),(15,iv (a2.length:Int)),(16,iv 0)] [] [] zB ?_
 refine zEa (zCZ.ok a1 a2 q _ (fun v110=>J_j ?_) (([]:List zN),0))
 refine J_g 30 [] [(4,rr 1 v110)] [(1,rE 3 zN.enc v110)] zB ?_
 exact zDJ (ds:=[rr 1 v110]) (ds':=[so 3 zN.enc v110]) (.cons (.cell (.move (.head _) (List.length_map _) (by decide) (.nil))) (.nil) (by decide)) rfl
noncomputable def c42:Code:=(Tryz.f42.body).getD .skip
theorem zA0.ok (a1:(List Pack)) (a2:(List Int)):Ok Tryz.prog 42 [sl 8 (Pack.enc false) a1,sl 1 zC a2] [] ((zA0 a1 a2).map fun r=>(bv r,[])):=by
 refine zH c42 Tryz.f42 0 10 (fun q=>?_)
 unfold zA0
 refine J_d 2 [] [] [] [] [] zB ?_
 refine zA (fun x3 h4=>?_)
 refine J_g 6 [] [(4,bv ((x3.length:Int)==0))] [] (zF 2 (wQ («as»:=[sl 8 (Pack.enc false) a1,sl 1 zC a2]) [(.tmp 5),(.tmp 6)] [24,25] false [] [] (.cons (.same rfl) (.cons (.same rfl) (.nil))) (zDq.ok a1 a2) h4 (.own 0)) zB) ?_
 exact xR rfl
noncomputable def c17:Code:=(Tryz.f17.body).getD .skip
theorem zAx.ok (a1:(List Pack)) (a2:(List Int)):Ok Tryz.prog 17 [sl 8 (Pack.enc false) a1,sl 1 zC a2] [] ((zAx a1 a2).map fun r=>(bv r,[])):=by
 refine zH c17 Tryz.f17 0 14 (fun q=>?_)
 unfold zAx
 refine J_d 2 [] [] [] [] [] zB ?_
 refine zA (fun x3 h4=>?_)
 refine vV (fun h5=>?_) (fun h5=>?_)
 ·refine zA (fun x6 h7=>?_)
  refine J_g 6 [] [(4,bv x6)] [] (zF 2 (vM [(.tmp 5),(.tmp 6)] [24,25] (wS.ok a1 a2) h4) (vD 4 [(8,bv (x3==0))] [] h5 (zBi 7 4 9 true (vM [(.tmp 10),(.tmp 11)] [24,25] (zA0.ok a1 a2) h7) zB))) ?_
  exact xR rfl
 ·refine J_g 6 [] [(4,bv false)] [] (zF 2 (vM [(.tmp 5),(.tmp 6)] [24,25] (wS.ok a1 a2) h4) (vD 4 [(8,bv (x3==0))] [] h5 zB)) ?_
  exact xR rfl
end Go.Told

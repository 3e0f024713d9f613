import Derived.Test.YtdeihchdibglaaaGreatOkFnPartsx1
set_option linter.unusedVariables false
set_option maxRecDepth 4000
namespace Go.Told
open Go Go.Im Go.Proofs
noncomputable def zJn:Code:=(Tryz.f121.body).getD .skip
theorem yS.ok (a1:(List Pack)) (a2:ByteArray) (a3:Version) (q:Wd) (kn:Unit→Option (D×List Ent)) (hk:∀v:Unit,J (q.g Tryz.prog 121 2 19) zJn (atI zJn 7) (St.mk' [] [(0,.box [sv a2]),(1,.box (Version.enc a3))]) (some v) kn):
  ∀s10:Int,J (q.g Tryz.prog 121 2 19) zJn (atI zJn 52) (St.mk' [(0,sl 8 (Pack.enc false) a1),(1,.fn 166 [pp 0,pp 1]),(7,iv (a1.length:Int)),(8,iv s10)] [(0,.box [sv a2]),(1,.box (Version.enc a3))]) (yS a1 a2 a3 s10) (Fl.go (fun r:Int=>some (iv r,[.box [sv a2],.box (Version.enc a3)])) kn):=by
 refine zAQ (fun g ih s10=>?_)
 unfold yR
 refine J_d 104 [] [9] [(9,bv (decide (s10< (a1.length:Int))))] [] [] zB ?_
 refine zG 9 (fun h11=>?_) (fun h11=>?_)
 ·refine J_d 1688 [] [5,9] [(5,iv s10)] [] [] zB ?_
  refine zA (fun x12 h13=>?_)
  refine zA (fun x14 h15=>?_)
  refine J_d 3378 [] [16] [(16,bv x14)] [] [] (zF 3 (uY (kk:=.i64) 24 91 8 (Pack.enc false) (.tmp 12) (.tmp 13) h13) (zF 5 (zF2 [(0,.box [sv a2]),(1,.box (Version.enc a3))] [] (zFa 11 [(.tmp 15)] [91] false [(0,.box [sv a2]),(1,.box (Version.enc a3))] [0,1] [.ag (Pack.enc false x12)] [pp 0,pp 1] (.cons (.same rfl) (.cons (.pt rfl) (.cons (.pt rfl) (.nil)))) (zC2.ok x12 a2 a3) h15 (.same rfl rfl))) zB)) ?_
  refine zG 16 (fun h16=>?_) (fun h16=>?_)
  ·refine J_d 13516 [] [0,1,4,5,7,8,16] [(4,iv s10)] [] [] zB ?_
   exact xB rfl
  ·refine J_d 423 [] [5,8,16] [(8,iv (w64 (s10+1)))] [] [] zB ?_
   exact J_q (J_b (ih (w64 (s10+1)))) rfl
 ·exact yU (hk ()) rfl
theorem yL.ok (a1:(List Pack)) (a2:ByteArray) (a3:Version):Ok Tryz.prog 121 [sl 8 (Pack.enc false) a1,.fn 166 [pp 0,pp 1]] [.box [sv a2],.box (Version.enc a3)] ((yL a1 a2 a3).map fun r=>(iv r,[.box [sv a2],.box (Version.enc a3)])):=by
 refine zN zJn Tryz.f121 2 19 (fun q=>?_)
 unfold yL
 refine J_g 2 [] [(0,sl 8 (Pack.enc false) a1),(1,.fn 166 [pp 0,pp 1])] [(0,.box [sv a2]),(1,.box (Version.enc a3))] zB ?_
 refine J_d 12 [] [7,8] [(7,iv (a1.length:Int)),(8,iv 0)] [] [] zB ?_
 refine jU (K0:=(fun r:Int=>some (iv r,[.box [sv a2],.box (Version.enc a3)]))) (fun _=>rfl) (yS.ok a1 a2 a3 q _ (fun v17=>J_j ?_) 0)
 refine J_d 14 [] [4] [(4,iv (-1))] [] [] zB ?_
 exact xB rfl
noncomputable def zLS:Code:=(Tryz.f128.body).getD .skip
theorem zC6.ok (a1:(List Pack)) (a2:ByteArray) (a3:Version):Ok Tryz.prog 128 [sl 8 (Pack.enc false) a1,sv a2,.ag (Version.enc a3)] [] ((zC6 a1 a2 a3).map fun r=>(iv r,[])):=by
 refine zN zLS Tryz.f128 0 10 (fun q=>?_)
 unfold zC6
 refine J_d 2 [(0,0),(1,1)] [1,2,4,5] [(4,pp 0),(5,pp 1)] [0,1] [(0,.box [sv a2]),(1,.box (Version.enc a3))] zB ?_
 refine zA (fun x4 h5=>?_)
 refine J_g 6 [] [(6,iv x4)] [] (zF 2 (zF2 [(0,.box [sv a2]),(1,.box (Version.enc a3))] [] (wT («as»:=[sl 8 (Pack.enc false) a1,.fn 166 [pp 0,pp 1]]) [(.tmp 7),(.tmp 8)] [24,100] false [(0,.box [sv a2]),(1,.box (Version.enc a3))] [0,1] (.cons (.same rfl) (.cons (.fn (.cons (.pt rfl) (.cons (.pt rfl) (.nil)))) (.nil))) (yL.ok a1 a2 a3) h5 (.same rfl rfl))) zB) ?_
 exact xB rfl
noncomputable def c84:Code:=(Tryz.f84.body).getD .skip
theorem tK.ok (a1:(List Pack)) (q:Wd) (kn:Unit→Option (D×List Ent)) (hk:∀v:Unit,J (q.g Tryz.prog 84 0 31) c84 (atI c84 15) (St.mk' [] []) (some v) kn):
  ∀s14:Int,J (q.g Tryz.prog 84 0 31) c84 (atI c84 116) (St.mk' [(0,sl 8 (Pack.enc false) a1),(9,sl 8 (Pack.enc false) a1),(10,iv (a1.length:Int)),(11,iv s14)] []) (tK a1 s14) (Fl.go (fun r:Int=>some (iv r,[])) kn):=by
 refine zAQ (fun g ih s14=>?_)
 unfold uL
 refine J_d 232 [] [12] [(12,bv (decide (s14< (a1.length:Int))))] [] [] zB ?_
 refine zG 12 (fun h15=>?_) (fun h15=>?_)
 ·refine zA (fun x16 h17=>?_)
  refine J_d 3736 [(3,0)] [3,4,12] [(3,iv s14),(4,pp 0)] [0] [(0,.box (Pack.enc false x16))] (zF 1 (uY (kk:=.i64) 24 91 8 (Pack.enc false) (.tmp 9) (.tmp 11) h17) zB) ?_
  refine zA (fun x18 h19=>?_)
  refine J_g 14948 [] [(0,sl 8 (Pack.enc false) a1),(3,iv s14),(4,pp 0),(5,iv x18),(9,sl 8 (Pack.enc false) a1),(10,iv (a1.length:Int)),(11,iv s14)] [(0,.box (Pack.enc false x16))] (zF 1 (wW [(.tmp 16)] [91] (kZ.ok x16) h19) zB) ?_
  refine J_d 29898 [] [19] [(19,bv (x18 !=0))] [] [] zB ?_
  refine zG 19 (fun h20=>?_) (fun h20=>?_)
  ·refine J_g 119596 [] [(2,iv x18)] [] zB ?_
   exact xB rfl
  ·refine zA (fun x21 h22=>?_)
   refine zA (fun x23 h24=>?_)
   refine J_d 14950 [] [3,4,5,19,29] [(29,bv (decide (x23≥0)))] [0] [] (zF 2 (zKk 24 91 8 (Pack.enc false) (.tmp 21) none (some (.tmp 22)) h22) (zF 7 (wW [(.tmp 23),(.tmp 25),(.tmp 27)] [24,9,88] (zC6.ok x21 x16.Name x16.Version) h24) zB)) ?_
   refine zG 29 (fun h25=>?_) (fun h25=>?_)
   ·refine J_g 59804 [] [(2,iv 6)] [] zB ?_
    exact xB rfl
   ·refine J_d 935 [] [11,29] [(11,iv (w64 (s14+1)))] [] [] zB ?_
    exact J_q (J_b (ih (w64 (s14+1)))) rfl
 ·exact yU (hk ()) rfl
theorem vW.ok (a1:(List Pack)):Ok Tryz.prog 84 [sl 8 (Pack.enc false) a1] [] ((vW a1).map fun r=>(iv r,[])):=by
 refine zN c84 Tryz.f84 0 31 (fun q=>?_)
 unfold vW
 refine J_g 2 [] [(0,sl 8 (Pack.enc false) a1)] [] zB ?_
 refine J_d 12 [] [8] [(8,bv (decide ((a1.length:Int)>24)))] [] [] zB ?_
 refine zG 8 (fun h2=>?_) (fun h2=>?_)
 ·refine J_g 52 [] [(2,iv 2)] [] zB ?_
  exact xB rfl
 ·refine J_d 28 [] [8,9,10,11] [(9,sl 8 (Pack.enc false) a1),(10,iv (a1.length:Int)),(11,iv 0)] [] [] zB ?_
  refine jU (K0:=(fun r:Int=>some (iv r,[]))) (fun _=>rfl) (tK.ok a1 q _ (fun v26=>J_j ?_) 0)
  refine J_g 30 [] [(2,iv 0)] [] zB ?_
  exact xB rfl
noncomputable def c130:Code:=(Tryz.f130.body).getD .skip
theorem jY.ok (a1:Int) (a2:(List Pack)):Ok Tryz.prog 130 [iv a1,pp 0] [.box [sl 8 (Pack.enc false) a2]] ((jY a1 a2).map fun r=>(bv r,[.box [sl 8 (Pack.enc false) a2]])):=by
 refine zN c130 Tryz.f130 1 10 (fun q=>?_)
 unfold jY
 refine J_d 2 [] [] [] [] [] zB ?_
 refine zA (fun x3 h4=>?_)
 refine J_d 6 [] [0,1,3] [(3,bv (!x3))] [] [] (zF 4 (wW [(.tmp 4),(.const (.int .i64 0)),(.tmp 7)] [2,2,2] (xX.ok a1 0 (w64 ((a2.length:Int)-1))) h4) zB) ?_
 exact xB rfl
noncomputable def c167:Code:=(Tryz.f167.body).getD .skip
theorem yP.ok (a1:(List Int)) (a2:(List Pack)) (q:Wd) (kn:Unit→Option (D×List Ent)) (hk:∀v:Unit,J (q.g Tryz.prog 167 1 19) c167 (atI c167 7) (St.mk' [] [(0,.box [sl 8 (Pack.enc false) a2])]) (some v) kn):
  ∀s9:Int,J (q.g Tryz.prog 167 1 19) c167 (atI c167 52) (St.mk' [(0,sl 1 zD a1),(1,.fn 130 [pp 0]),(7,iv (a1.length:Int)),(8,iv s9)] [(0,.box [sl 8 (Pack.enc false) a2])]) (yP a1 a2 s9) (Fl.go (fun r:Int=>some (iv r,[.box [sl 8 (Pack.enc false) a2]])) kn):=by
 refine zAQ (fun g ih s9=>?_)
 unfold yK
 refine J_d 104 [] [9] [(9,bv (decide (s9< (a1.length:Int))))] [] [] zB ?_
 refine zG 9 (fun h10=>?_) (fun h10=>?_)
 ·refine J_d 1688 [] [5,9] [(5,iv s9)] [] [] zB ?_
  refine zA (fun x11 h12=>?_)
  refine zA (fun x13 h14=>?_)
  refine J_d 3378 [] [16] [(16,bv x13)] [] [] (zF 3 (uY (kk:=.i64) 25 2 1 zD (.tmp 12) (.tmp 13) h12) (zF 5 (zF2 [(0,.box [sl 8 (Pack.enc false) a2])] [] (zFa 11 [(.tmp 15)] [2] false [(0,.box [sl 8 (Pack.enc false) a2])] [0] [iv x11] [pp 0] (.cons (.same rfl) (.cons (.pt rfl) (.nil))) (jY.ok x11 a2) h14 (.same rfl rfl))) zB)) ?_
  refine zG 16 (fun h15=>?_) (fun h15=>?_)
  ·refine J_g 13516 [] [(4,iv s9)] [(0,.box [sl 8 (Pack.enc false) a2])] zB ?_
   exact xB rfl
  ·refine J_d 423 [] [5,8,16] [(8,iv (w64 (s9+1)))] [] [] zB ?_
   exact J_q (J_b (ih (w64 (s9+1)))) rfl
 ·exact yU (hk ()) rfl
theorem yI.ok (a1:(List Int)) (a2:(List Pack)):Ok Tryz.prog 167 [sl 1 zD a1,.fn 130 [pp 0]] [.box [sl 8 (Pack.enc false) a2]] ((yI a1 a2).map fun r=>(iv r,[.box [sl 8 (Pack.enc false) a2]])):=by
 refine zN c167 Tryz.f167 1 19 (fun q=>?_)
 unfold yI
 refine J_g 2 [] [(0,sl 1 zD a1),(1,.fn 130 [pp 0])] [(0,.box [sl 8 (Pack.enc false) a2])] zB ?_
 refine J_d 12 [] [7,8] [(7,iv (a1.length:Int)),(8,iv 0)] [] [] zB ?_
 refine jU (K0:=(fun r:Int=>some (iv r,[.box [sl 8 (Pack.enc false) a2]]))) (fun _=>rfl) (yP.ok a1 a2 q _ (fun v16=>J_j ?_) 0)
 refine J_d 14 [] [4] [(4,iv (-1))] [] [] zB ?_
 exact xB rfl
noncomputable def zMn:Code:=(Tryz.f129.body).getD .skip
theorem zZ.ok (a1:(List Int)) (a2:(List Pack)):Ok Tryz.prog 129 [sl 1 zD a1,.fn 130 [pp 0]] [.box [sl 8 (Pack.enc false) a2]] ((zZ a1 a2).map fun r=>(bv r,[.box [sl 8 (Pack.enc false) a2]])):=by
 refine zN zMn Tryz.f129 1 9 (fun q=>?_)
 unfold zZ
 refine J_d 2 [] [] [] [] [] zB ?_
 refine zA (fun x3 h4=>?_)
 refine J_d 6 [] [0,1,4] [(4,bv (decide (x3≥0)))] [] [] (zF 2 (zF2 [(0,.box [sl 8 (Pack.enc false) a2])] [] (wT («as»:=[sl 1 zD a1,.fn 130 [pp 0]]) [(.tmp 5),(.tmp 6)] [25,110] false [(0,.box [sl 8 (Pack.enc false) a2])] [0] (.cons (.same rfl) (.cons (.fn (.cons (.pt rfl) (.nil))) (.nil))) (yI.ok a1 a2) h4 (.same rfl rfl))) zB) ?_
 exact xB rfl
noncomputable def c85:Code:=(Tryz.f85.body).getD .skip
theorem kV.ok (a1:(List Pack)) (a2:(List Int)):Ok Tryz.prog 85 [sl 8 (Pack.enc false) a1,sl 1 zD a2] [] ((kV a1 a2).map fun r=>(bv r,[])):=by
 refine zN c85 Tryz.f85 0 9 (fun q=>?_)
 unfold kV
 refine J_g 2 [(0,0)] [(1,sl 1 zD a2),(2,pp 0)] [(0,.box [sl 8 (Pack.enc false) a1])] zB ?_
 refine zA (fun x3 h4=>?_)
 refine J_g 6 [] [(4,bv (!x3))] [] (zF 2 (zF2 [(0,.box [sl 8 (Pack.enc false) a1])] [] (wT («as»:=[sl 1 zD a2,.fn 130 [pp 0]]) [(.tmp 5),(.tmp 6)] [25,110] false [(0,.box [sl 8 (Pack.enc false) a1])] [0] (.cons (.same rfl) (.cons (.fn (.cons (.pt rfl) (.nil))) (.nil))) (zZ.ok a2 a1) h4 (.same rfl rfl))) zB) ?_
 exact xB rfl
noncomputable def c41:Code:=(Tryz.f41.body).getD .skip
theorem jV.ok (a1:(List Pack)) (a2:(List Int)) (q:Wd) (kn:Unit→Option (D×List Ent)) (hk:∀v:Unit,J (q.g Tryz.prog 41 0 32) c41 (atI c41 15) (St.mk' [(0,sl 8 (Pack.enc false) a1),(1,sl 1 zD a2)] []) (some v) kn):
  ∀s12:Int,J (q.g Tryz.prog 41 0 32) c41 (atI c41 116) (St.mk' [(0,sl 8 (Pack.enc false) a1),(1,sl 1 zD a2),(6,iv s12)] []) (jV a1 a2 s12) (Fl.go (fun r:Int=>some (iv r,[])) kn):=by
 refine zAQ (fun g ih s12=>?_)
 unfold vC
 refine J_d 464 [] [15] [(15,bv (decide (s12< (a2.length:Int))))] [] [] zB ?_
 refine zG 15 (fun h13=>?_) (fun h13=>?_)
 ·refine zA (fun x14 h15=>?_)
  refine zA (fun x16 h17=>?_)
  refine J_d 1864 [] [15,27] [(27,bv (decide (x14≤x16)))] [] [] (zF 2 (uY (kk:=.i64) 25 2 1 zD (.tmp 18) (.tmp 19) h15) (zF 7 (uY (kk:=.i64) 25 2 1 zD (.tmp 22) (.tmp 24) h17) zB)) ?_
  refine zG 27 (fun h18=>?_) (fun h18=>?_)
  ·refine J_g 7460 [] [(4,iv 1)] [] zB ?_
   exact xB rfl
  ·refine J_d 467 [] [6,27] [(6,iv (w64 (s12+1)))] [] [] zB ?_
   exact J_q (J_b (ih (w64 (s12+1)))) rfl
 ·exact yU (hk ()) rfl
theorem tO.ok (a1:(List Pack)) (a2:(List Int)):Ok Tryz.prog 41 [sl 8 (Pack.enc false) a1,sl 1 zD a2] [] ((tO a1 a2).map fun r=>(iv r,[])):=by
 refine zN c41 Tryz.f41 0 32 (fun q=>?_)
 unfold tO
 refine J_d 2 [] [] [] [] [] zB ?_
 refine zA (fun x3 h4=>?_)
 refine J_g 12 [] [(0,sl 8 (Pack.enc false) a1),(1,sl 1 zD a2),(5,iv x3)] [] (zF 1 (wW [(.tmp 7)] [24] (vW.ok a1) h4) zB) ?_
 refine J_d 26 [] [10] [(10,bv (x3 !=0))] [] [] zB ?_
 refine zG 10 (fun h5=>?_) (fun h5=>?_)
 ·refine J_g 108 [] [(4,iv x3)] [] zB ?_
  exact xB rfl
 ·refine J_d 28 [] [5,6,10] [(6,iv 1)] [] [] zB ?_
  refine jU (K0:=(fun r:Int=>some (iv r,[]))) (fun _=>rfl) (jV.ok a1 a2 q _ (fun v19=>J_j ?_) 1)
  refine zA (fun x20 h21=>?_)
  refine J_g 60 [] [(31,bv (!x20))] [] (zF 2 (wW [(.tmp 28),(.tmp 29)] [24,25] (kV.ok a1 a2) h21) zB) ?_
  refine zG 31 (fun h22=>?_) (fun h22=>?_)
  ·refine J_g 244 [] [(4,iv 1)] [] zB ?_
   exact xB rfl
  ·refine J_g 62 [] [(4,iv 0)] [] zB ?_
   exact xB rfl
noncomputable def c68:Code:=(Tryz.f68.body).getD .skip
theorem zCx.ok (a1:(List Pack)) (a2:(List Int)) (a3:ByteArray) (q:Wd) (kn:Unit→Option (D×List Ent)) (hk:∀v:Unit,J (q.g Tryz.prog 68 0 24) c68 (atI c68 7) (St.mk' [] []) (some v) kn):
  ∀s10:Int,J (q.g Tryz.prog 68 0 24) c68 (atI c68 52) (St.mk' [(0,sl 8 (Pack.enc false) a1),(2,sv a3),(9,sl 1 zD a2),(10,iv (a2.length:Int)),(11,iv s10)] []) (zCx a1 a2 a3 s10) (Fl.go (fun r:Int=>some (iv r,[])) kn):=by
 refine zAQ (fun g ih s10=>?_)
 unfold zBE
 refine J_d 104 [] [12] [(12,bv (decide (s10< (a2.length:Int))))] [] [] zB ?_
 refine zG 12 (fun h11=>?_) (fun h11=>?_)
 ·refine zA (fun x12 h13=>?_)
  refine J_d 1688 [] [8,12] [(8,iv x12)] [] [] (zF 0 (uY (kk:=.i64) 25 2 1 zD (.tmp 9) (.tmp 11) h13) zB) ?_
  refine zA (fun x14 h15=>?_)
  refine J_d 3378 [] [21] [(21,bv (seq x14.Name a3))] [] [] (zF 2 (uY (kk:=.i64) 24 91 8 (Pack.enc false) (.tmp 15) (.tmp 16) h15) zB) ?_
  refine zG 21 (fun h16=>?_) (fun h16=>?_)
  ·refine J_g 13516 [] [(6,iv x12)] [] zB ?_
   exact xB rfl
  ·refine J_d 423 [] [8,11,21] [(11,iv (w64 (s10+1)))] [] [] zB ?_
   exact J_q (J_b (ih (w64 (s10+1)))) rfl
 ·exact yU (hk ()) rfl
theorem vY.ok (a1:(List Pack)) (a2:(List Int)) (a3:ByteArray):Ok Tryz.prog 68 [sl 8 (Pack.enc false) a1,sl 1 zD a2,sv a3] [] ((vY a1 a2 a3).map fun r=>(iv r,[])):=by
 refine zN c68 Tryz.f68 0 24 (fun q=>?_)
 unfold vY
 refine J_g 2 [] [(0,sl 8 (Pack.enc false) a1),(1,sl 1 zD a2),(2,sv a3)] [] zB ?_
 refine J_d 12 [] [1,9,10,11] [(9,sl 1 zD a2),(10,iv (a2.length:Int)),(11,iv 0)] [] [] zB ?_
 refine jU (K0:=(fun r:Int=>some (iv r,[]))) (fun _=>rfl) (zCx.ok a1 a2 a3 q _ (fun v17=>J_j ?_) 0)
 refine J_g 14 [] [(6,iv (-1))] [] zB ?_
 exact xB rfl
noncomputable def c61:Code:=(Tryz.f61.body).getD .skip
theorem zBo.ok (a1:(List Pack)) (a2:(List Int)) (q:Wd) (kn:Unit→Option (D×List Ent)) (hk:∀v:Unit,J (q.g Tryz.prog 61 0 26) c61 (atI c61 7) (St.mk' [] []) (some v) kn):
  ∀s13:Int,J (q.g Tryz.prog 61 0 26) c61 (atI c61 52) (St.mk' [(0,sl 8 (Pack.enc false) a1),(1,sl 1 zD a2),(7,sl 1 zD a2),(8,iv (a2.length:Int)),(9,iv s13)] []) (zBo a1 a2 s13) (Fl.go (fun r:Bool=>some (bv r,[])) kn):=by
 refine zAQ (fun g ih s13=>?_)
 unfold zAW
 refine J_d 104 [] [10] [(10,bv (decide (s13< (a2.length:Int))))] [] [] zB ?_
 refine zG 10 (fun h14=>?_) (fun h14=>?_)
 ·refine zA (fun x15 h16=>?_)
  refine J_d 1688 [] [5,6,10] [(5,iv s13),(6,iv x15)] [] [] (zF 1 (uY (kk:=.i64) 25 2 1 zD (.tmp 7) (.tmp 9) h16) zB) ?_
  refine zA (fun x17 h18=>?_)
  refine zA (fun x19 h20=>?_)
  refine zA (fun x21 h22=>?_)
  refine J_d 3378 [] [5,6,24] [(24,bv (decide (x21≥0)))] [] [] (zF 3 (zKk 25 2 1 zD (.tmp 15) none (some (.tmp 16)) h18) (zF 6 (uY (kk:=.i64) 24 91 8 (Pack.enc false) (.tmp 18) (.tmp 19) h20) (zF 9 (wW [(.tmp 14),(.tmp 17),(.tmp 22)] [24,25,9] (vY.ok a1 x17 x19.Name) h22) zB))) ?_
  refine zG 24 (fun h23=>?_) (fun h23=>?_)
  ·refine J_g 13516 [] [(4,bv true)] [] zB ?_
   exact xB rfl
  ·refine J_d 423 [] [9,24] [(9,iv (w64 (s13+1)))] [] [] zB ?_
   exact J_q (J_b (ih (w64 (s13+1)))) rfl
 ·exact yU (hk ()) rfl
theorem jC.ok (a1:(List Pack)) (a2:(List Int)):Ok Tryz.prog 61 [sl 8 (Pack.enc false) a1,sl 1 zD a2] [] ((jC a1 a2).map fun r=>(bv r,[])):=by
 refine zN c61 Tryz.f61 0 26 (fun q=>?_)
 unfold jC
 refine J_g 2 [] [(0,sl 8 (Pack.enc false) a1),(1,sl 1 zD a2)] [] zB ?_
 refine J_d 12 [] [7,8,9] [(7,sl 1 zD a2),(8,iv (a2.length:Int)),(9,iv 0)] [] [] zB ?_
 refine jU (K0:=(fun r:Bool=>some (bv r,[]))) (fun _=>rfl) (zBo.ok a1 a2 q _ (fun v24=>J_j ?_) 0)
 refine J_g 14 [] [(4,bv false)] [] zB ?_
 exact xB rfl
noncomputable def c30:Code:=(Tryz.f30.body).getD .skip
theorem wG.ok (a1:(List Pack)) (a2:(List Int)) (a3:(List Int)):Ok Tryz.prog 30 [sl 8 (Pack.enc false) a1,sl 1 zD a2,sl 1 zD a3] [] ((wG a1 a2 a3).map fun r=>(iv r,[])):=by
 refine zN c30 Tryz.f30 0 29 (fun q=>?_)
 unfold wG
 refine J_d 2 [] [] [] [] [] zB ?_
 refine zA (fun x4 h5=>?_)
 refine zA (fun x6 h7=>?_)
 refine zA (fun x8 h9=>?_)
 refine J_d 6 [] [7] [(7,iv x8)] [] [] (zF 2 (wW [(.tmp 8),(.tmp 9)] [24,25] (tO.ok a1 a2) h5) (zF 5 (wW [(.tmp 11),(.tmp 12)] [24,25] (tO.ok a1 a3) h7) (zF 6 (zBg 25 2 1 0 zD [x4,x6] [0,1] [(.tmp 10),(.tmp 13)] [iv x4,iv x6]) (zF 7 (wT («as»:=[rr 0 [x4,x6]]) [(.tmp 14)] [25] true [(0,rE 1 zD [x4,x6])] [] (.cons (zCD (.head _) (fun _=>rfl) rfl) (.nil)) (wS.ok [x4,x6]) h9 (.same rfl rfl) (hbor:=fun _=>⟨fhN,yT⟩)) zB)))) ?_
 refine xH (atI c30 29) (fun v16:Bool=>St.mk' [(7,iv x8),(27,bv v16)] []) (fun v16=>?_) (fun jv16=>?_)
 ·refine xH (atI c30 15) (fun v18:Int=>St.mk' [(7,iv v18)] []) (fun v18=>?_) (fun jv18=>?_)
  ·refine J_g 30 [] [(6,iv v18)] [] zB ?_
   exact xB rfl
  ·refine zG 27 (fun h17=>?_) (fun h17=>?_)
   ·refine J_g 58 [] [(7,iv 6)] [] zB ?_
    exact yU (J_j (jv18 6)) rfl
   ·exact yU (J_j (jv18 x8)) rfl
 ·refine wZ (fun h10=>?_) (fun h10=>?_)
  ·refine zA (fun x11 h12=>?_)
   refine wZ (fun h13=>?_) (fun h13=>?_)
   ·refine J_g 28 [] [(7,iv x8),(27,bv true)] [] (xZ 2 [(17,bv (x8==0))] [] h10 (zBb 5 2 18 true (wW [(.tmp 19),(.tmp 20)] [24,25] (jC.ok a1 a2) h12) (zF0 6 2 18 true [(21,bv x11)] [] h13 zB))) ?_
    exact yU (J_j (jv16 true)) rfl
   ·refine zA (fun x14 h15=>?_)
    refine J_g 28 [] [(7,iv x8),(27,bv x14)] [] (xZ 2 [(17,bv (x8==0))] [] h10 (zBb 5 2 18 true (wW [(.tmp 19),(.tmp 20)] [24,25] (jC.ok a1 a2) h12) (zF0 6 2 18 true [(21,bv x11)] [] h13 (zBb 9 6 22 false (wW [(.tmp 23),(.tmp 24)] [24,25] (jC.ok a1 a3) h15) zB)))) ?_
    exact yU (J_j (jv16 x14)) rfl
  ·refine J_g 28 [] [(7,iv x8),(27,bv false)] [] (xZ 2 [(17,bv (x8==0))] [] h10 (zGu 6 (zGv (i:=6) (g:=2) (t:=18) (b:=true) (v:=(.bool false)) (.inl rfl) (by kernel_rfl) (by kernel_rfl)) (zGu 7 (zGv (i:=7) (g:=6) (t:=22) (b:=false) (v:=undef) (.inr rfl) (by kernel_rfl) (by kernel_rfl)) (zGu 8 (zGv (i:=8) (g:=6) (t:=22) (b:=false) (v:=undef) (.inr rfl) (by kernel_rfl) (by kernel_rfl)) (zGu 9 (zGv (i:=9) (g:=6) (t:=22) (b:=false) (v:=undef) (.inr rfl) (by kernel_rfl) (by kernel_rfl)) zB))))) ?_
   exact yU (J_j (jv16 false)) rfl
theorem zDR (k:Nat) (w:World) (hk:0<k) (h1:k*8≤140737488355328) (h2:k≤4611686018427387904):Calls Tryz.prog 120 #[.slice none 0 0,.int .i64 (k:Int)] w fun e w'=>∃G,k≤G∧e= .returned (.slice (some ⟨w.heap.size,0,none⟩) 0 G)∧w'=w.drew.alloc (.cells (Builtin.zeroCells (.int .i64 0:Value).cells k++Builtin.zeroCells (.int .i64 0:Value).cells (G-k)) 2):=by
 have hinfo:(Tryz.prog.info? 2).map (fun i=>(i.zero,i.size,i.bytes))=some (some (.int .i64 0:Value),1,8):=by kernel_rfl
 obtain ⟨i0,hi0,hq⟩:=Option.map_eq_some_iff.1 hinfo
 simp only [Prod.mk.injEq] at hq
 obtain ⟨hz0,hs,hb⟩:=hq
 have h:=Any8.slices_Grow_grow Tryz.grow120 i0 (.int .i64 0:Value) hi0 hz0 (by omega) none 0 0 k [] w (Nat.le_refl _) (by omega) (by rw [hb]; omega) (by omega) (by simp) (fun _=>rfl) (fun a h=>by cases h)
 refine Calls.mono h ?_
 rintro e w' ⟨he,hw⟩
 refine ⟨_,?_,he,?_⟩
 ·exact Nat.le_trans (Nat.le_of_eq (Nat.zero_add k).symm) (grownCap_ge w (0+k) 0 2)
 ·rw [hw]
  simp
  rfl
theorem jM.ok (a1:Int):Ok Tryz.prog 120 [nv,iv a1] [] ((jM a1).map fun r=>(so 1 zD r,[])):=by
 unfold jM
 split
 ·rename_i h
  obtain ⟨h0,h1,h2⟩:=h
  obtain ⟨k,rfl⟩:=Int.eq_ofNat_of_zero_le h0
  exact zHB (el:=2) (z:=1) (zv:=.int .i64 0) h0 rfl (fun hn w=>by
   have h:=Any8.slices_Grow_room Tryz.grow120 none 0 0 k w (Nat.le_refl _) (by omega) (by omega) (by omega)
   exact h) (fun hp w=>zDR k w (by omega) (by omega) (by omega))
 ·exact fun _ h=>by cases h
noncomputable def c67:Code:=(Tryz.f67.body).getD .skip
theorem vN.ok (a1:(List (List Int))) (q:Wd) (kn:(List Int)→Option (D×List Ent)) (hk:∀v:(List Int),J (q.g Tryz.prog 67 0 36) c67 (atI c67 63) (St.mk' [(6,rr 0 v)] [(0,rE 1 zD v)]) (some v) kn):
  ∀s19:((List Int)×Int),J (q.g Tryz.prog 67 0 36) c67 (atI c67 500) (St.mk' [(6,rr 0 s19.1),(25,sl 1 (eSl false 1 zD) a1),(26,iv (a1.length:Int)),(27,iv s19.2)] [(0,rE 1 zD s19.1)]) (vN a1 s19) kn:=by
 refine zAQ (fun g ih s19=>?_)
 unfold xD
 refine J_d 1000 [] [28] [(28,bv (decide (s19.2< (a1.length:Int))))] [] [] zB ?_
 refine zG 28 (fun h20=>?_) (fun h20=>?_)
 ·refine zA (fun x21 h22=>?_)
  refine J_d 16024 [] [8,28] [(8,sl 1 zD x21)] [] [] (zF 0 (uY (kk:=.i64) 46 25 1 (eSl false 1 zD) (.tmp 25) (.tmp 27) h22) zB) ?_
  refine zA (fun x23 h24=>?_)
  refine J_g 16025 [] [(6,rr 1 x23),(25,sl 1 (eSl false 1 zD) a1),(26,iv (a1.length:Int)),(27,iv s19.2)] [(1,rE 1 zD x23)] (zF 2 (zIS 25 25 2 2 1 8 1 0 zD (.tmp 31) (.tmp 32) h24) zB) ?_
  refine J_d 4007 [] [27] [(27,iv (w64 (s19.2+1)))] [] [] zB ?_
  refine vE 1 0 (Nat.le_of_ble_eq_true rfl) (Nat.le_of_ble_eq_true rfl) ?_
  exact J_q (J_b (ih (x23,w64 (s19.2+1)))) rfl
 ·exact yU (hk s19.1) rfl
theorem vJ.ok (a1:(List (List Int))) (q:Wd) (kn:Int→Option (D×List Ent)) (hk:∀v:Int,J (q.g Tryz.prog 67 0 36) c67 (atI c67 15) (St.mk' [(0,sl 1 (eSl false 1 zD) a1),(3,iv v)] []) (some v) kn):
  ∀s6:(Int×Int),J (q.g Tryz.prog 67 0 36) c67 (atI c67 116) (St.mk' [(0,sl 1 (eSl false 1 zD) a1),(3,iv s6.1),(9,sl 1 (eSl false 1 zD) a1),(10,iv (a1.length:Int)),(11,iv s6.2)] []) (vJ a1 s6) kn:=by
 refine zAQ (fun g ih s6=>?_)
 unfold yZ
 refine J_d 232 [] [12] [(12,bv (decide (s6.2< (a1.length:Int))))] [] [] zB ?_
 refine zG 12 (fun h7=>?_) (fun h7=>?_)
 ·refine zA (fun x8 h9=>?_)
  refine J_g 3736 [] [(0,sl 1 (eSl false 1 zD) a1),(3,iv s6.1),(5,sl 1 zD x8),(9,sl 1 (eSl false 1 zD) a1),(10,iv (a1.length:Int)),(11,iv s6.2)] [] (zF 0 (uY (kk:=.i64) 46 25 1 (eSl false 1 zD) (.tmp 9) (.tmp 11) h9) zB) ?_
  refine J_g 7474 [] [(0,sl 1 (eSl false 1 zD) a1),(3,iv (w64 (s6.1+(x8.length:Int)))),(9,sl 1 (eSl false 1 zD) a1),(10,iv (a1.length:Int)),(11,iv s6.2)] [] zB ?_
  refine J_d 14950 [] [20] [(20,bv (decide ((w64 (s6.1+(x8.length:Int)))<0)))] [] [] zB ?_
  refine zG 20 (fun h10=>?_) (fun h10=>?_)
  ·exact zGT
  ·refine J_d 935 [] [11,20] [(11,iv (w64 (s6.2+1)))] [] [] zB ?_
   exact J_q (J_b (ih (w64 (s6.1+(x8.length:Int)),w64 (s6.2+1)))) rfl
 ·exact yU (hk s6.1) rfl
theorem xI.ok (a1:(List (List Int))):Ok Tryz.prog 67 [sl 1 (eSl false 1 zD) a1] [] ((xI a1).map fun r=>(so 1 zD r,[])):=by
 refine zN c67 Tryz.f67 0 36 (fun q=>?_)
 unfold xI
 refine J_g 2 [] [(0,sl 1 (eSl false 1 zD) a1)] [] zB ?_
 refine J_g 6 [] [(0,sl 1 (eSl false 1 zD) a1),(3,iv 0)] [] zB ?_
 refine J_d 28 [] [9,10,11] [(9,sl 1 (eSl false 1 zD) a1),(10,iv (a1.length:Int)),(11,iv 0)] [] [] zB ?_
 refine zEc (vJ.ok a1 q _ (fun v11=>J_j ?_) (0,0))
 refine zA (fun x12 h13=>?_)
 refine J_g 30 [] [(0,sl 1 (eSl false 1 zD) a1),(6,rr 0 x12)] [(0,rE 1 zD x12)] (zF 1 (wT («as»:=[nv,iv v11]) [(.const (.slice none 0 0)),(.tmp 23)] [25,3] false [] [] (.cons (.same rfl) (.cons (.same rfl) (.nil))) (jM.ok v11) h13 (.own 0)) zB) ?_
 refine J_d 124 [] [0,25,26,27] [(25,sl 1 (eSl false 1 zD) a1),(26,iv (a1.length:Int)),(27,iv 0)] [] [] zB ?_
 refine zEc (vN.ok a1 q _ (fun v25=>J_j ?_) (x12,0))
 refine J_g 126 [] [(2,rr 0 v25)] [(0,rE 1 zD v25)] zB ?_
 exact zDx (ds:=[rr 0 v25]) (ds':=[so 1 zD v25]) (.cons (.cell (.move (.head _) (List.length_map _) (by decide) (.nil))) (.nil) (by decide)) rfl
theorem wM.ok (a1:List ByteArray):Ok Tryz.prog 115 [rr 0 a1] [rE 1 eStr a1] ((wM a1).map fun r=>(.tu [],[rE 1 eStr r])):=by
 unfold wM
 split
 ·refine zJN (fun blk off cap w hH hb=>?_) (fun p cap w=>Tryz.slices_Sort_string_none p cap w)
  have k:=Tryz.slices_Sort_string blk off cap (a1.map (·.data.toList)) w hH hb (by rw [List.length_map]; omega)
  rw [List.length_map] at k
  exact k
 ·exact fun _ h=>by cases h
noncomputable def c116:Code:=(Tryz.f116.body).getD .skip
theorem xU.ok (s41:Int) (x48:(List ByteArray)) (q:Wd) (kn:((List ByteArray)×Int)→Option (D×List Ent)) (hk:∀v:((List ByteArray)×Int),J (q.g Tryz.prog 116 1 61) c116 (atI c116 14923) (St.mk' [(0,rr 0 v.1),(3,iv v.2)] [(0,rE 1 eStr v.1)]) (some v) kn):
  ∀s61:((List ByteArray)×Int×Int),J (q.g Tryz.prog 116 1 61) c116 (atI c116 119380) (St.mk' [(0,rr 0 s61.1),(3,iv s61.2.1),(4,.sub 0 s41.toNat x48.length),(5,iv s61.2.2)] [(0,rE 1 eStr s61.1)]) (xU s41 x48 s61) kn:=by
 refine zAQ (fun g ih s61=>?_)
 unfold wB
 refine J_d 477520 [] [32] [(32,bv (decide (s61.2.2< (x48.length:Int))))] [] [] (zF 2 (zJU 32 9 0 s41.toNat x48.length (.tmp 30)) zB) ?_
 refine zG 32 (fun h62=>?_) (fun h62=>?_)
 ·refine zA (fun x63 h64=>?_)
  refine zA (fun x65 h66=>?_)
  refine J_d 1910088 [] [32,44] [(44,bv (!(seq x63 x65)))] [] [] (zF 2 (zJ1 (kk:=.i64) 32 9 1 0 eStr (.tmp 35) (.tmp 36) h64) (zF 3 (zAS (d:=sv x63) 9 1 0 0 eStr (.tmp 37) (zEP h64) (by kernel_rfl)) (zF 7 (zJ1 (kk:=.i64) 32 9 1 0 eStr (.tmp 39) (.tmp 41) h66) (zF 8 (zAS (d:=sv x65) 9 1 0 0 eStr (.tmp 42) (zEP h66) (by kernel_rfl)) zB)))) ?_
  refine xH (aft c116 955044) (fun v72:((List ByteArray)×Int)=>St.mk' [(0,rr 0 v72.1),(3,iv v72.2),(4,.sub 0 s41.toNat x48.length),(5,iv s61.2.2)] [(0,rE 1 eStr v72.1)]) (fun v72=>?_) (fun jv72=>?_)
  ·refine J_d 477523 [] [5] [(5,iv (w64 (s61.2.2+1)))] [] [] zB ?_
   exact J_q (J_b (ih (v72.1,v72.2,w64 (s61.2.2+1)))) rfl
  ·refine zG 44 (fun h67=>?_) (fun h67=>?_)
   ·refine zA (fun x68 h69=>?_)
    refine zA (fun x70 h71=>?_)
    refine J_g 7640356 [] [(0,rr 0 s61.1),(3,iv s61.2.1),(4,.sub 0 s41.toNat x48.length),(5,iv s61.2.2)] [(0,rE 1 eStr (s61.1.set s61.2.1.toNat x68))] (zF 4 (zJ1 (kk:=.i64) 32 9 1 0 eStr (.tmp 47) (.tmp 48) h69) (zF 5 (zAS (d:=sv x68) 9 1 0 0 eStr (.tmp 49) (zEP h69) (by kernel_rfl)) (zF 6 (zBf (kk:=.i64) 32 9 1 0 eStr (.tmp 45) (.tmp 46) h71) (zLL 7 (zLR (b:=x68) 9 1 0 0 eStr (sv x68) (.tmp 51) (.tmp 50) h71 rfl) zB)))) ?_
    refine zLq (σ':=St.mk' [(0,rr 0 (s61.1.set s61.2.1.toNat x68)),(3,iv s61.2.1),(4,.sub 0 s41.toNat x48.length),(5,iv s61.2.2)] [(0,rE 1 eStr (s61.1.set s61.2.1.toNat x68))]) (by simp only [rr,List.length_set]) ?_
    refine J_d 7640357 [] [3] [(3,iv (w64 (s61.2.1+1)))] [] [] zB ?_
    exact yU (J_j (jv72 (s61.1.set s61.2.1.toNat x68,w64 (s61.2.1+1)))) rfl
   ·exact yU (J_j (jv72 (s61.1,s61.2.1))) rfl
 ·exact yU (hk (s61.1,s61.2.1)) rfl
theorem wH.ok (a1:(List ByteArray)) (q:Wd) (kn:Unit→Option (D×List Ent)) (hk:∀v:Unit,J (q.g Tryz.prog 116 1 61) c116 (atI c116 15) (St.mk' [(0,rr 0 a1)] [(0,rE 1 eStr a1)]) (some v) kn):
  ∀s41:Int,J (q.g Tryz.prog 116 1 61) c116 (atI c116 116) (St.mk' [(0,rr 0 a1),(3,iv s41)] [(0,rE 1 eStr a1)]) (wH a1 s41) (Fl.go (fun r:(List ByteArray)=>some (so 1 eStr r,[])) kn):=by
 refine zAQ (fun g ih s41=>?_)
 unfold xC
 refine J_d 464 [] [13] [(13,bv (decide (s41< (a1.length:Int))))] [] [] zB ?_
 refine zG 13 (fun h42=>?_) (fun h42=>?_)
 ·refine zA (fun x43 h44=>?_)
  refine zA (fun x45 h46=>?_)
  refine J_d 1864 [] [13,25] [(25,bv (seq x43 x45))] [] [] (zF 2 (zBf (kk:=.i64) 32 9 1 0 eStr (.tmp 16) (.tmp 17) h44) (zF 3 (zAS (d:=sv x43) 9 1 0 0 eStr (.tmp 18) h44 (by kernel_rfl)) (zF 7 (zBf (kk:=.i64) 32 9 1 0 eStr (.tmp 20) (.tmp 22) h46) (zF 8 (zAS (d:=sv x45) 9 1 0 0 eStr (.tmp 23) h46 (by kernel_rfl)) zB)))) ?_
  refine zG 25 (fun h47=>?_) (fun h47=>?_)
  ·refine zA (fun x48 h49=>?_)
   refine J_g 7460 [] [(0,rr 0 a1),(3,iv s41),(4,.sub 0 s41.toNat x48.length)] [(0,rE 1 eStr a1)] (zF 2 (zI6 32 9 1 0 eStr (.tmp 26) (some (.tmp 27)) none h49) zB) ?_
   refine J_d 29844 [] [5] [(5,iv 1)] [] [] zB ?_
   refine zEc (xU.ok s41 x48 q _ (fun v73=>J_j ?_) (a1,s41,1))
   refine zA (fun x74 h75=>?_)
   refine zA (fun x76 h77=>?_)
   refine J_g 29846 [] [(0,rr 0 v73.1),(3,iv v73.2)] [(0,rE 1 eStr x76)] (zF 2 (zI6 32 9 1 0 eStr (.tmp 54) (some (.tmp 55)) none h75) (zLL 3 (zLF (l:=v73.2) (a:=ByteArray.empty) 32 9 1 0 eStr (.tmp 56) h77 (.keep rfl (.nil))) zB)) ?_
   refine zLq (σ':=St.mk' [(0,rr 0 x76),(3,iv v73.2)] [(0,rE 1 eStr x76)]) (by simp only [rr,zJB h77]) ?_
   refine zA (fun x78 h79=>?_)
   refine J_g 59694 [] [(2,rr 1 x78)] [(1,rE 1 eStr x78)] (zF 2 (zKQ 32 9 1 0 1 eStr (.tmp 57) none (some (.tmp 58)) h79) zB) ?_
   exact zDx (ds:=[rr 1 x78]) (ds':=[so 1 eStr x78]) (.cons (.cell (.move (.head _) (List.length_map _) (by decide) (.nil))) (.nil) (by decide)) rfl
  ·refine J_d 467 [] [3,25] [(3,iv (w64 (s41+1)))] [] [] zB ?_
   exact J_q (J_b (ih (w64 (s41+1)))) rfl
 ·exact yU (hk ()) rfl
theorem xV.ok (a1:(List ByteArray)):Ok Tryz.prog 116 [rr 0 a1] [rE 1 eStr a1] ((xV a1).map fun r=>(so 1 eStr r,[])):=by
 refine zN c116 Tryz.f116 1 61 (fun q=>?_)
 unfold xV
 refine J_g 2 [] [(0,rr 0 a1)] [(0,rE 1 eStr a1)] zB ?_
 refine J_d 12 [] [8] [(8,bv (decide ((a1.length:Int)<2)))] [] [] zB ?_
 refine zG 8 (fun h2=>?_) (fun h2=>?_)
 ·refine J_g 52 [] [(2,rr 0 a1)] [(0,rE 1 eStr a1)] zB ?_
  exact zDx (ds:=[rr 0 a1]) (ds':=[so 1 eStr a1]) (.cons (.cell (.move (.head _) (List.length_map _) (by decide) (.nil))) (.nil) (by decide)) rfl
 ·refine J_d 28 [] [3,8] [(3,iv 1)] [] [] zB ?_
  refine jU (K0:=(fun r:(List ByteArray)=>some (so 1 eStr r,[]))) (fun _=>rfl) (wH.ok a1 q _ (fun v80=>J_j ?_) 1)
  refine J_g 30 [] [(2,rr 0 a1)] [(0,rE 1 eStr a1)] zB ?_
  exact zDx (ds:=[rr 0 a1]) (ds':=[so 1 eStr a1]) (.cons (.cell (.move (.head _) (List.length_map _) (by decide) (.nil))) (.nil) (by decide)) rfl
noncomputable def c62:Code:=(Tryz.f62.body).getD .skip
theorem wO.ok (a1:(List ByteArray)):Ok Tryz.prog 62 [rr 0 a1] [rE 1 eStr a1] ((wO a1).map fun r=>(so 1 eStr r,[])):=by
 refine zN c62 Tryz.f62 1 7 (fun q=>?_)
 unfold wO
 refine J_d 2 [] [] [] [] [] zB ?_
 refine zA (fun x2 h3=>?_)
 refine J_g 6 [] [(0,rr 0 a1)] [(0,rE 1 eStr x2)] (zF 1 (wT («as»:=[rr 0 a1]) [(.tmp 3)] [32] false [(0,rE 1 eStr a1)] [0] (.cons (.rf rfl) (.nil)) (wM.ok a1) h3 (.tu (.nil))) zB) ?_
 refine zA (fun u4 h5=>?_)
 refine zLq (σ':=St.mk' [(0,rr 0 x2)] [(0,rE 1 eStr x2)]) (by simp only [rr,zJs h5]) ?_
 refine zA (fun x6 h7=>?_)
 refine J_g 14 [] [(2,rr 1 x6)] [(1,rE 1 eStr x6)] (zF 1 (wT («as»:=[rr 0 x2]) [(.tmp 5)] [32] false [(0,rE 1 eStr x2)] [0] (.cons (.rf rfl) (.nil)) (xV.ok x2) h7 (.own 1)) zB) ?_
 exact zDx (ds:=[rr 1 x6]) (ds':=[so 1 eStr x6]) (.cons (.cell (.move (.head _) (List.length_map _) (by decide) (.nil))) (.nil) (by decide)) rfl
noncomputable def c34:Code:=(Tryz.f34.body).getD .skip
theorem zBl.ok (a1:(List Pack)) (a2:(List Int)) (a3:(List Int)) (x4:(List Int)) (q:Wd) (kn:(List ByteArray)→Option (D×List Ent)) (hk:∀v:(List ByteArray),J (q.g Tryz.prog 34 0 42) c34 (atI c34 15) (St.mk' [(7,rr 0 v)] [(0,rE 1 eStr v)]) (some v) kn):
  ∀s19:((List ByteArray)×Int),J (q.g Tryz.prog 34 0 42) c34 (atI c34 116) (St.mk' [(0,sl 8 (Pack.enc false) a1),(1,sl 1 zD a2),(2,sl 1 zD a3),(7,rr 0 s19.1),(15,rr 2 x4),(16,iv (x4.length:Int)),(17,iv s19.2)] [(0,rE 1 eStr s19.1),(2,rE 1 zD x4)]) (zBl a1 a2 a3 x4 s19) kn:=by
 refine zAQ (fun g ih s19=>?_)
 unfold zAL
 refine J_d 232 [] [18] [(18,bv (decide (s19.2< (x4.length:Int))))] [] [] zB ?_
 refine zG 18 (fun h20=>?_) (fun h20=>?_)
 ·refine zA (fun x21 h22=>?_)
  refine J_d 3736 [] [9,18] [(9,iv x21)] [] [] (zF 0 (zBf (kk:=.i64) 25 2 1 2 zD (.tmp 15) (.tmp 17) h22) (zF 1 (zAS (d:=iv x21) 2 1 2 0 zD (.tmp 19) h22 (by kernel_rfl)) zB)) ?_
  refine zA (fun x23 h24=>?_)
  refine J_d 7474 [] [9,10] [(10,sv x23.Name)] [] [] (zF 2 (uY (kk:=.i64) 24 91 8 (Pack.enc false) (.tmp 21) (.tmp 22) h24) zB) ?_
  refine zA (fun x25 h26=>?_)
  refine zA (fun x27 h28=>?_)
  refine J_d 14950 [] [34] [(34,bv (x25 !=x27))] [] [] (zF 3 (wW [(.tmp 26),(.tmp 27),(.tmp 28)] [24,25,9] (vY.ok a1 a2 x23.Name) h26) (zF 7 (wW [(.tmp 30),(.tmp 31),(.tmp 32)] [24,25,9] (vY.ok a1 a3 x23.Name) h28) zB)) ?_
  refine xH (aft c34 1868) (fun v32:(List ByteArray)=>St.mk' [(0,sl 8 (Pack.enc false) a1),(1,sl 1 zD a2),(2,sl 1 zD a3),(7,rr 4 v32),(15,rr 2 x4),(16,iv (x4.length:Int)),(17,iv s19.2)] [(2,rE 1 zD x4),(4,rE 1 eStr v32)]) (fun v32=>?_) (fun jv32=>?_)
  ·refine J_d 935 [] [17] [(17,iv (w64 (s19.2+1)))] [] [] zB ?_
   refine vE 4 0 (Nat.le_of_ble_eq_true rfl) (Nat.le_of_ble_eq_true rfl) ?_
   exact J_q (J_b (ih (v32,w64 (s19.2+1)))) rfl
  ·refine zG 34 (fun h29=>?_) (fun h29=>?_)
   ·refine zA (fun x30 h31=>?_)
    refine J_d 29902 [] [7,10,34] [(7,rr 4 x30)] [0,4] [(4,rE 1 eStr x30)] (zF 2 (zBg 32 9 1 3 eStr [x23.Name] [0] [(.tmp 36)] [sv x23.Name]) (zF 3 (zDI 32 32 9 9 1 16 4 0 3 eStr (.tmp 35) (.tmp 37) h31) zB)) ?_
    exact yU (J_j (jv32 x30)) rfl
   ·refine vE 0 4 (Nat.le_of_ble_eq_true rfl) (Nat.le_of_ble_eq_true rfl) ?_
    exact yU (J_j (jv32 s19.1)) rfl
 ·exact yU (hk s19.1) rfl
theorem wX.ok (a1:(List Pack)) (a2:(List Int)) (a3:(List Int)):Ok Tryz.prog 34 [sl 8 (Pack.enc false) a1,sl 1 zD a2,sl 1 zD a3] [] ((wX a1 a2 a3).map fun r=>(so 1 eStr r,[])):=by
 refine zN c34 Tryz.f34 0 42 (fun q=>?_)
 unfold wX
 refine J_g 2 [] [(0,sl 8 (Pack.enc false) a1),(1,sl 1 zD a2),(2,sl 1 zD a3)] [] zB ?_
 refine J_d 6 [] [7] [(7,rr 0 ([]:List ByteArray))] [0] [(0,rE 1 eStr ([]:List ByteArray))] (zF 0 (zBg 32 9 1 0 eStr ([]:List ByteArray) [] [] []) zB) ?_
 refine zA (fun x4 h5=>?_)
 refine J_d 28 [] [15,16,17] [(15,rr 2 x4),(16,iv (x4.length:Int)),(17,iv 0)] [2] [(2,rE 1 zD x4)] (zF 2 (zBg 46 25 1 1 (eSl false 1 zD) [a2,a3] [0,1] [(.tmp 12),(.tmp 13)] [sl 1 zD a2,sl 1 zD a3]) (zF 3 (wT («as»:=[rr 1 [a2,a3]]) [(.tmp 14)] [46] true [(1,rE 1 (eSl false 1 zD) [a2,a3])] [] (.cons (zCD (.head _) (zCB (fun _=>rfl)) rfl) (.nil)) (xI.ok [a2,a3]) h5 (.own 2) (hbor:=fun _=>⟨fhN,(zCy (zDp (fun _=>(flatK yT zCJ)) _))⟩)) zB)) ?_
 refine zEc (zBl.ok a1 a2 a3 x4 q _ (fun v33=>J_j ?_) (([]:List ByteArray),0))
 refine zA (fun x34 h35=>?_)
 refine J_g 30 [] [(6,rr 1 x34)] [(1,rE 1 eStr x34)] (zF 1 (wT («as»:=[rr 0 v33]) [(.tmp 40)] [32] false [(0,rE 1 eStr v33)] [0] (.cons (.rf rfl) (.nil)) (wO.ok v33) h35 (.own 1)) zB) ?_
 exact zDx (ds:=[rr 1 x34]) (ds':=[so 1 eStr x34]) (.cons (.cell (.move (.head _) (List.length_map _) (by decide) (.nil))) (.nil) (by decide)) rfl
noncomputable def c73:Code:=(Tryz.f73.body).getD .skip
theorem zAx.ok (a1:(List Pack)) (x5:Int) (x7:Int) (q:Wd) (kn:(List Pack)→Option (D×List Ent)) (hk:∀v:(List Pack),J (q.g Tryz.prog 73 0 38) c73 (atI c73 15) (St.mk' [(9,rr 0 v)] [(0,rE 8 (Pack.enc false) v)]) (some v) kn):
  ∀s18:((List Pack)×Int),J (q.g Tryz.prog 73 0 38) c73 (atI c73 116) (St.mk' [(0,sl 8 (Pack.enc false) a1),(9,rr 0 s18.1),(21,rr 1 [x5,x7]),(22,iv ([x5,x7].length :Int)),(23,iv s18.2)] [(0,rE 8 (Pack.enc false) s18.1),(1,rE 1 zD [x5,x7])]) (zAx a1 x5 x7 s18) kn:=by
 refine zAQ (fun g ih s18=>?_)
 unfold vK
 refine J_d 232 [] [24] [(24,bv (decide (s18.2< ([x5,x7].length :Int))))] [] [] zB ?_
 refine zG 24 (fun h19=>?_) (fun h19=>?_)
 ·refine zA (fun x20 h21=>?_)
  refine J_g 3736 [] [(0,sl 8 (Pack.enc false) a1),(9,rr 0 s18.1),(11,iv x20),(21,rr 1 [x5,x7]),(22,iv ([x5,x7].length :Int)),(23,iv s18.2)] [(0,rE 8 (Pack.enc false) s18.1),(1,rE 1 zD [x5,x7])] (zF 0 (zBf (kk:=.i64) 25 2 1 1 zD (.tmp 21) (.tmp 23) h21) (zF 1 (zAS (d:=iv x20) 2 1 1 0 zD (.tmp 25) h21 (by kernel_rfl)) zB)) ?_
  refine J_d 7474 [] [28] [(28,bv (decide (x20≥0)))] [] [] zB ?_
  refine xH (aft c73 1868) (fun v27:(List Pack)=>St.mk' [(0,sl 8 (Pack.enc false) a1),(9,rr 3 v27),(21,rr 1 [x5,x7]),(22,iv ([x5,x7].length :Int)),(23,iv s18.2)] [(1,rE 1 zD [x5,x7]),(3,rE 8 (Pack.enc false) v27)]) (fun v27=>?_) (fun jv27=>?_)
  ·refine J_d 935 [] [23] [(23,iv (w64 (s18.2+1)))] [] [] zB ?_
   refine vE 3 0 (Nat.le_of_ble_eq_true rfl) (Nat.le_of_ble_eq_true rfl) ?_
   exact J_q (J_b (ih (v27,w64 (s18.2+1)))) rfl
  ·refine zG 28 (fun h22=>?_) (fun h22=>?_)
   ·refine zA (fun x23 h24=>?_)
    refine zA (fun x25 h26=>?_)
    refine J_d 14950 [] [9,11,28] [(9,rr 3 x25)] [0,3] [(3,rE 8 (Pack.enc false) x25)] (zF 3 (uY (kk:=.i64) 24 91 8 (Pack.enc false) (.tmp 30) (.tmp 31) h24) (zF 5 (zBg 24 91 8 2 (Pack.enc false) [x23] [0] [(.tmp 33)] [.ag (Pack.enc false x23)]) (zF 6 (zDI 24 24 91 91 8 120 3 0 2 (Pack.enc false) (.tmp 29) (.tmp 34) h26) zB))) ?_
    exact yU (J_j (jv27 x25)) rfl
   ·refine vE 0 3 (Nat.le_of_ble_eq_true rfl) (Nat.le_of_ble_eq_true rfl) ?_
    exact yU (J_j (jv27 s18.1)) rfl
 ·exact yU (hk s18.1) rfl
theorem uF.ok (a1:(List Pack)) (a2:(List Int)) (a3:(List Int)) (a4:ByteArray):Ok Tryz.prog 73 [sl 8 (Pack.enc false) a1,sl 1 zD a2,sl 1 zD a3,sv a4] [] ((uF a1 a2 a3 a4).map fun r=>(so 8 (Pack.enc false) r,[])):=by
 refine zN c73 Tryz.f73 0 38 (fun q=>?_)
 unfold uF
 refine J_g 2 [] [(0,sl 8 (Pack.enc false) a1),(1,sl 1 zD a2),(2,sl 1 zD a3),(3,sv a4)] [] zB ?_
 refine J_d 6 [] [9] [(9,rr 0 ([]:List Pack))] [0] [(0,rE 8 (Pack.enc false) ([]:List Pack))] (zF 0 (zBg 24 91 8 0 (Pack.enc false) ([]:List Pack) [] [] []) zB) ?_
 refine zA (fun x5 h6=>?_)
 refine zA (fun x7 h8=>?_)
 refine J_d 28 [] [1,2,3,21,22,23] [(21,rr 1 [x5,x7]),(22,iv ([x5,x7].length :Int)),(23,iv 0)] [1] [(1,rE 1 zD [x5,x7])] (zF 3 (wW [(.tmp 13),(.tmp 14),(.tmp 15)] [24,25,9] (vY.ok a1 a2 a4) h6) (zF 7 (wW [(.tmp 17),(.tmp 18),(.tmp 19)] [24,25,9] (vY.ok a1 a3 a4) h8) (zF 8 (zBg 25 2 1 1 zD [x5,x7] [0,1] [(.tmp 16),(.tmp 20)] [iv x5,iv x7]) zB))) ?_
 refine zEc (zAx.ok a1 x5 x7 q _ (fun v28=>J_j ?_) (([]:List Pack),0))
 refine J_g 30 [] [(8,rr 0 v28)] [(0,rE 8 (Pack.enc false) v28)] zB ?_
 exact zDx (ds:=[rr 0 v28]) (ds':=[so 8 (Pack.enc false) v28]) (.cons (.cell (.move (.head _) (List.length_map _) (by decide) (.nil))) (.nil) (by decide)) rfl
noncomputable def c70:Code:=(Tryz.f70.body).getD .skip
theorem zBt.ok (x5:(List Pack)) (q:Wd) (kn:(List ByteArray)→Option (D×List Ent)) (hk:∀v:(List ByteArray),J (q.g Tryz.prog 70 0 31) c70 (atI c70 15) (St.mk' [(9,rr 0 v)] [(0,rE 1 eStr v)]) (some v) kn):
  ∀s12:((List ByteArray)×Int),J (q.g Tryz.prog 70 0 31) c70 (atI c70 116) (St.mk' [(9,rr 0 s12.1),(18,rr 1 x5),(19,iv (x5.length:Int)),(20,iv s12.2)] [(0,rE 1 eStr s12.1),(1,rE 8 (Pack.enc false) x5)]) (zBt x5 s12) kn:=by
 refine zAQ (fun g ih s12=>?_)
 unfold zAB
 refine J_d 232 [] [21] [(21,bv (decide (s12.2< (x5.length:Int))))] [] [] zB ?_
 refine zG 21 (fun h13=>?_) (fun h13=>?_)
 ·refine zA (fun x14 h15=>?_)
  refine J_d 3736 [(2,2)] [11,21] [(11,pp 2)] [2] [(2,.box (Pack.enc false x14))] (zF 0 (zBf (kk:=.i64) 24 91 8 1 (Pack.enc false) (.tmp 18) (.tmp 20) h15) (zF 1 (zAS (d:=.ag (Pack.enc false x14)) 91 8 1 0 (Pack.enc false) (.tmp 22) h15 (by kernel_rfl)) zB)) ?_
  refine zA (fun x16 h17=>?_)
  refine J_g 3737 [] [(9,rr 3 x16),(18,rr 1 x5),(19,iv (x5.length:Int)),(20,iv s12.2)] [(1,rE 8 (Pack.enc false) x5),(3,rE 1 eStr x16)] (zF 3 (zIS 32 32 9 9 1 16 3 0 eStr (.tmp 24) (.tmp 26) h17) zB) ?_
  refine J_d 935 [] [20] [(20,iv (w64 (s12.2+1)))] [] [] zB ?_
  refine vE 3 0 (Nat.le_of_ble_eq_true rfl) (Nat.le_of_ble_eq_true rfl) ?_
  exact J_q (J_b (ih (x16,w64 (s12.2+1)))) rfl
 ·exact yU (hk s12.1) rfl
theorem uO.ok (a1:(List Pack)) (a2:(List Int)) (a3:(List Int)) (a4:ByteArray):Ok Tryz.prog 70 [sl 8 (Pack.enc false) a1,sl 1 zD a2,sl 1 zD a3,sv a4] [] ((uO a1 a2 a3 a4).map fun r=>(so 1 eStr r,[])):=by
 refine zN c70 Tryz.f70 0 31 (fun q=>?_)
 unfold uO
 refine J_g 2 [] [(0,sl 8 (Pack.enc false) a1),(1,sl 1 zD a2),(2,sl 1 zD a3),(3,sv a4)] [] zB ?_
 refine J_d 6 [] [9] [(9,rr 0 [a4])] [0] [(0,rE 1 eStr [a4])] (zF 1 (zBg 32 9 1 0 eStr [a4] [0] [(.tmp 12)] [sv a4]) zB) ?_
 refine zA (fun x5 h6=>?_)
 refine J_g 28 [] [(9,rr 0 [a4]),(18,rr 1 x5),(19,iv (x5.length:Int)),(20,iv 0)] [(0,rE 1 eStr [a4]),(1,rE 8 (Pack.enc false) x5)] (zF 4 (wT («as»:=[sl 8 (Pack.enc false) a1,sl 1 zD a2,sl 1 zD a3,sv a4]) [(.tmp 14),(.tmp 15),(.tmp 16),(.tmp 17)] [24,25,25,9] false [] [] (.cons (.same rfl) (.cons (.same rfl) (.cons (.same rfl) (.cons (.same rfl) (.nil))))) (uF.ok a1 a2 a3 a4) h6 (.own 1)) zB) ?_
 refine zEc (zBt.ok x5 q _ (fun v18=>J_j ?_) ([a4],0))
 refine zA (fun x19 h20=>?_)
 refine J_g 30 [] [(8,rr 1 x19)] [(1,rE 1 eStr x19)] (zF 1 (wT («as»:=[rr 0 v18]) [(.tmp 29)] [32] false [(0,rE 1 eStr v18)] [0] (.cons (.rf rfl) (.nil)) (wO.ok v18) h20 (.own 1)) zB) ?_
 exact zDx (ds:=[rr 1 x19]) (ds':=[so 1 eStr x19]) (.cons (.cell (.move (.head _) (List.length_map _) (by decide) (.nil))) (.nil) (by decide)) rfl
theorem zDA (k:Nat) (w:World) (hk:0<k) (h1:k*64≤140737488355328) (h2:k≤4611686018427387904):Calls Tryz.prog 160 #[.slice none 0 0,.int .i64 (k:Int)] w fun e w'=>∃G,k≤G∧e= .returned (.slice (some ⟨w.heap.size,0,none⟩) 0 G)∧w'=w.drew.alloc (.cells (Builtin.zeroCells (.agg #[.string ByteArray.empty,.int .i64 0,.int .i64 0,.int .i64 0,.int .i64 0,.int .i64 0,.int .i64 0]:Value).cells k++Builtin.zeroCells (.agg #[.string ByteArray.empty,.int .i64 0,.int .i64 0,.int .i64 0,.int .i64 0,.int .i64 0,.int .i64 0]:Value).cells (G-k)) 104):=by
 have hinfo:(Tryz.prog.info? 104).map (fun i=>(i.zero,i.size,i.bytes))=some (some (.agg #[.string ByteArray.empty,.int .i64 0,.int .i64 0,.int .i64 0,.int .i64 0,.int .i64 0,.int .i64 0]:Value),7,64):=by kernel_rfl
 obtain ⟨i0,hi0,hq⟩:=Option.map_eq_some_iff.1 hinfo
 simp only [Prod.mk.injEq] at hq
 obtain ⟨hz0,hs,hb⟩:=hq
 have h:=Any8.slices_Grow_grow Tryz.grow160 i0 (.agg #[.string ByteArray.empty,.int .i64 0,.int .i64 0,.int .i64 0,.int .i64 0,.int .i64 0,.int .i64 0]:Value) hi0 hz0 (by omega) none 0 0 k [] w (Nat.le_refl _) (by omega) (by rw [hb]; omega) (by omega) (by simp) (fun _=>rfl) (fun a h=>by cases h)
 refine Calls.mono h ?_
 rintro e w' ⟨he,hw⟩
 refine ⟨_,?_,he,?_⟩
 ·exact Nat.le_trans (Nat.le_of_eq (Nat.zero_add k).symm) (grownCap_ge w (0+k) 0 104)
 ·rw [hw]
  simp
  rfl
theorem uW.ok (a1:Int):Ok Tryz.prog 160 [nv,iv a1] [] ((uW a1).map fun r=>(so 7 Term.enc r,[])):=by
 unfold uW
 split
 ·rename_i h
  obtain ⟨h0,h1,h2⟩:=h
  obtain ⟨k,rfl⟩:=Int.eq_ofNat_of_zero_le h0
  exact zHB (el:=104) (z:=7) (zv:=.agg #[.string ByteArray.empty,.int .i64 0,.int .i64 0,.int .i64 0,.int .i64 0,.int .i64 0,.int .i64 0]) h0 rfl (fun hn w=>by
   have h:=Any8.slices_Grow_room Tryz.grow160 none 0 0 k w (Nat.le_refl _) (by omega) (by omega) (by omega)
   exact h) (fun hp w=>zDA k w (by omega) (by omega) (by omega))
 ·exact fun _ h=>by cases h
noncomputable def zJ2:Code:=(Tryz.f123.body).getD .skip
theorem wI.ok (a1:(List (List Term))) (q:Wd) (kn:(List Term)→Option (D×List Ent)) (hk:∀v:(List Term),J (q.g Tryz.prog 123 0 36) zJ2 (atI zJ2 63) (St.mk' [(6,rr 0 v)] [(0,rE 7 Term.enc v)]) (some v) kn):
  ∀s19:((List Term)×Int),J (q.g Tryz.prog 123 0 36) zJ2 (atI zJ2 500) (St.mk' [(6,rr 0 s19.1),(25,sl 1 (eSl false 7 Term.enc) a1),(26,iv (a1.length:Int)),(27,iv s19.2)] [(0,rE 7 Term.enc s19.1)]) (wI a1 s19) kn:=by
 refine zAQ (fun g ih s19=>?_)
 unfold wF
 refine J_d 1000 [] [28] [(28,bv (decide (s19.2< (a1.length:Int))))] [] [] zB ?_
 refine zG 28 (fun h20=>?_) (fun h20=>?_)
 ·refine zA (fun x21 h22=>?_)
  refine J_d 16024 [] [8,28] [(8,sl 7 Term.enc x21)] [] [] (zF 0 (uY (kk:=.i64) 89 80 1 (eSl false 7 Term.enc) (.tmp 25) (.tmp 27) h22) zB) ?_
  refine zA (fun x23 h24=>?_)
  refine J_g 16025 [] [(6,rr 1 x23),(25,sl 1 (eSl false 7 Term.enc) a1),(26,iv (a1.length:Int)),(27,iv s19.2)] [(1,rE 7 Term.enc x23)] (zF 2 (zIS 80 80 104 104 7 64 1 0 Term.enc (.tmp 31) (.tmp 32) h24) zB) ?_
  refine J_d 4007 [] [27] [(27,iv (w64 (s19.2+1)))] [] [] zB ?_
  refine vE 1 0 (Nat.le_of_ble_eq_true rfl) (Nat.le_of_ble_eq_true rfl) ?_
  exact J_q (J_b (ih (x23,w64 (s19.2+1)))) rfl
 ·exact yU (hk s19.1) rfl
theorem wJ.ok (a1:(List (List Term))) (q:Wd) (kn:Int→Option (D×List Ent)) (hk:∀v:Int,J (q.g Tryz.prog 123 0 36) zJ2 (atI zJ2 15) (St.mk' [(0,sl 1 (eSl false 7 Term.enc) a1),(3,iv v)] []) (some v) kn):
  ∀s6:(Int×Int),J (q.g Tryz.prog 123 0 36) zJ2 (atI zJ2 116) (St.mk' [(0,sl 1 (eSl false 7 Term.enc) a1),(3,iv s6.1),(9,sl 1 (eSl false 7 Term.enc) a1),(10,iv (a1.length:Int)),(11,iv s6.2)] []) (wJ a1 s6) kn:=by
 refine zAQ (fun g ih s6=>?_)
 unfold wC
 refine J_d 232 [] [12] [(12,bv (decide (s6.2< (a1.length:Int))))] [] [] zB ?_
 refine zG 12 (fun h7=>?_) (fun h7=>?_)
 ·refine zA (fun x8 h9=>?_)
  refine J_g 3736 [] [(0,sl 1 (eSl false 7 Term.enc) a1),(3,iv s6.1),(5,sl 7 Term.enc x8),(9,sl 1 (eSl false 7 Term.enc) a1),(10,iv (a1.length:Int)),(11,iv s6.2)] [] (zF 0 (uY (kk:=.i64) 89 80 1 (eSl false 7 Term.enc) (.tmp 9) (.tmp 11) h9) zB) ?_
  refine J_g 7474 [] [(0,sl 1 (eSl false 7 Term.enc) a1),(3,iv (w64 (s6.1+(x8.length:Int)))),(9,sl 1 (eSl false 7 Term.enc) a1),(10,iv (a1.length:Int)),(11,iv s6.2)] [] zB ?_
  refine J_d 14950 [] [20] [(20,bv (decide ((w64 (s6.1+(x8.length:Int)))<0)))] [] [] zB ?_
  refine zG 20 (fun h10=>?_) (fun h10=>?_)
  ·exact zGT
  ·refine J_d 935 [] [11,20] [(11,iv (w64 (s6.2+1)))] [] [] zB ?_
   exact J_q (J_b (ih (w64 (s6.1+(x8.length:Int)),w64 (s6.2+1)))) rfl
 ·exact yU (hk s6.1) rfl
theorem xW.ok (a1:(List (List Term))):Ok Tryz.prog 123 [sl 1 (eSl false 7 Term.enc) a1] [] ((xW a1).map fun r=>(so 7 Term.enc r,[])):=by
 refine zN zJ2 Tryz.f123 0 36 (fun q=>?_)
 unfold xW
 refine J_g 2 [] [(0,sl 1 (eSl false 7 Term.enc) a1)] [] zB ?_
 refine J_g 6 [] [(0,sl 1 (eSl false 7 Term.enc) a1),(3,iv 0)] [] zB ?_
 refine J_d 28 [] [9,10,11] [(9,sl 1 (eSl false 7 Term.enc) a1),(10,iv (a1.length:Int)),(11,iv 0)] [] [] zB ?_
 refine zEc (wJ.ok a1 q _ (fun v11=>J_j ?_) (0,0))
 refine zA (fun x12 h13=>?_)
 refine J_g 30 [] [(0,sl 1 (eSl false 7 Term.enc) a1),(6,rr 0 x12)] [(0,rE 7 Term.enc x12)] (zF 1 (wT («as»:=[nv,iv v11]) [(.const (.slice none 0 0)),(.tmp 23)] [80,3] false [] [] (.cons (.same rfl) (.cons (.same rfl) (.nil))) (uW.ok v11) h13 (.own 0)) zB) ?_
 refine J_d 124 [] [0,25,26,27] [(25,sl 1 (eSl false 7 Term.enc) a1),(26,iv (a1.length:Int)),(27,iv 0)] [] [] zB ?_
 refine zEc (wI.ok a1 q _ (fun v25=>J_j ?_) (x12,0))
 refine J_g 126 [] [(2,rr 0 v25)] [(0,rE 7 Term.enc v25)] zB ?_
 exact zDx (ds:=[rr 0 v25]) (ds':=[so 7 Term.enc v25]) (.cons (.cell (.move (.head _) (List.length_map _) (by decide) (.nil))) (.nil) (by decide)) rfl
noncomputable def c76:Code:=(Tryz.f76.body).getD .skip
theorem uJ.ok (x4:(List Term)) (q:Wd) (kn:(List ByteArray)→Option (D×List Ent)) (hk:∀v:(List ByteArray),J (q.g Tryz.prog 76 0 26) c76 (atI c76 15) (St.mk' [(3,rr 1 v)] [(1,rE 1 eStr v)]) (some v) kn):
  ∀s11:((List ByteArray)×Int),J (q.g Tryz.prog 76 0 26) c76 (atI c76 116) (St.mk' [(3,rr 1 s11.1),(12,rr 3 x4),(13,iv (x4.length:Int)),(14,iv s11.2)] [(1,rE 1 eStr s11.1),(3,rE 7 Term.enc x4)]) (uJ x4 s11) kn:=by
 refine zAQ (fun g ih s11=>?_)
 unfold vU
 refine J_d 232 [] [15] [(15,bv (decide (s11.2< (x4.length:Int))))] [] [] zB ?_
 refine zG 15 (fun h12=>?_) (fun h12=>?_)
 ·refine zA (fun x13 h14=>?_)
  refine J_d 3736 [(2,4)] [5,15] [(5,pp 4)] [4] [(4,.box (Term.enc x13))] (zF 0 (zBf (kk:=.i64) 80 104 7 3 Term.enc (.tmp 12) (.tmp 14) h14) (zF 1 (zAS (d:=.ag (Term.enc x13)) 104 7 3 0 Term.enc (.tmp 16) h14 (by kernel_rfl)) zB)) ?_
  refine zA (fun x15 h16=>?_)
  refine J_g 3737 [] [(3,rr 6 x15),(12,rr 3 x4),(13,iv (x4.length:Int)),(14,iv s11.2)] [(3,rE 7 Term.enc x4),(6,rE 1 eStr x15)] (zF 3 (zBg 32 9 1 5 eStr [x13.Name] [0] [(.tmp 20)] [sv x13.Name]) (zF 4 (zDI 32 32 9 9 1 16 6 1 5 eStr (.tmp 18) (.tmp 21) h16) zB)) ?_
  refine J_d 935 [] [14] [(14,iv (w64 (s11.2+1)))] [] [] zB ?_
  refine vE 6 1 (Nat.le_of_ble_eq_true rfl) (Nat.le_of_ble_eq_true rfl) ?_
  exact J_q (J_b (ih (x15,w64 (s11.2+1)))) rfl
 ·exact yU (hk s11.1) rfl
theorem xP.ok (a1:Pack):Ok Tryz.prog 76 [.ag (Pack.enc false a1)] [] ((xP a1).map fun r=>(so 1 eStr r,[])):=by
 refine zN c76 Tryz.f76 0 26 (fun q=>?_)
 unfold xP
 refine J_g 2 [(0,0)] [(1,pp 0)] [(0,.box (Pack.enc false a1))] zB ?_
 refine J_d 6 [] [3] [(3,rr 1 ([]:List ByteArray))] [1] [(1,rE 1 eStr ([]:List ByteArray))] (zF 0 (zBg 32 9 1 1 eStr ([]:List ByteArray) [] [] []) zB) ?_
 refine zA (fun x2 h3=>?_)
 refine zA (fun x4 h5=>?_)
 refine J_d 28 [] [1,12,13,14] [(12,rr 3 x4),(13,iv (x4.length:Int)),(14,iv 0)] [0,3] [(3,rE 7 Term.enc x4)] (zF 2 (wT («as»:=[sl 1 (eSl false 7 Term.enc) a1.Needs]) [(.tmp 8)] [89] false [] [] (.cons (.same rfl) (.nil)) (xW.ok a1.Needs) h3 (.own 2)) (zF 5 (zIS 80 80 104 104 7 64 3 2 Term.enc (.tmp 9) (.tmp 11) h5) zB)) ?_
 refine zEc (uJ.ok x4 q _ (fun v17=>J_j ?_) (([]:List ByteArray),0))
 refine zA (fun x18 h19=>?_)
 refine J_g 30 [] [(2,rr 2 x18)] [(2,rE 1 eStr x18)] (zF 1 (wT («as»:=[rr 1 v17]) [(.tmp 24)] [32] false [(1,rE 1 eStr v17)] [1] (.cons (.rf rfl) (.nil)) (wO.ok v17) h19 (.own 2)) zB) ?_
 exact zDx (ds:=[rr 2 x18]) (ds':=[so 1 eStr x18]) (.cons (.cell (.move (.head _) (List.length_map _) (by decide) (.nil))) (.nil) (by decide)) rfl
noncomputable def c77:Code:=(Tryz.f77.body).getD .skip
theorem wQ.ok (a1:ByteArray) (a2:(List ByteArray)):Ok Tryz.prog 77 [sv a1,pp 0] [.box [sl 1 eStr a2]] ((wQ a1 a2).map fun r=>(bv r,[.box [sl 1 eStr a2]])):=by
 refine zN c77 Tryz.f77 1 7 (fun q=>?_)
 unfold wQ
 refine J_d 2 [] [] [] [] [] zB ?_
 refine zA (fun x3 h4=>?_)
 refine J_d 6 [] [0,1,3] [(3,bv x3)] [] [] (zF 2 (wW [(.tmp 4),(.tmp 5)] [32,9] (zJ.ok a2 a1) h4) zB) ?_
 exact xB rfl
noncomputable def zKO:Code:=(Tryz.f122.body).getD .skip
theorem yN.ok (a1:(List ByteArray)) (a2:(List ByteArray)) (q:Wd) (kn:Unit→Option (D×List Ent)) (hk:∀v:Unit,J (q.g Tryz.prog 122 2 19) zKO (atI zKO 7) (St.mk' [] [(0,rE 1 eStr a1),(1,.box [sl 1 eStr a2])]) (some v) kn):
  ∀s9:Int,J (q.g Tryz.prog 122 2 19) zKO (atI zKO 52) (St.mk' [(0,rr 0 a1),(1,.fn 77 [pp 1]),(7,iv (a1.length:Int)),(8,iv s9)] [(0,rE 1 eStr a1),(1,.box [sl 1 eStr a2])]) (yN a1 a2 s9) (Fl.go (fun r:Int=>some (iv r,[rE 1 eStr a1,.box [sl 1 eStr a2]])) kn):=by
 refine zAQ (fun g ih s9=>?_)
 unfold zU
 refine J_d 104 [] [9] [(9,bv (decide (s9< (a1.length:Int))))] [] [] zB ?_
 refine zG 9 (fun h10=>?_) (fun h10=>?_)
 ·refine J_d 1688 [] [5,9] [(5,iv s9)] [] [] zB ?_
  refine zA (fun x11 h12=>?_)
  refine zA (fun x13 h14=>?_)
  refine J_d 3378 [] [16] [(16,bv x13)] [] [] (zF 3 (zBf (kk:=.i64) 32 9 1 0 eStr (.tmp 12) (.tmp 13) h12) (zF 4 (zAS (d:=sv x11) 9 1 0 0 eStr (.tmp 14) h12 (by kernel_rfl)) (zF 5 (zF2 [(1,.box [sl 1 eStr a2])] [] (zFa 11 [(.tmp 15)] [9] false [(1,.box [sl 1 eStr a2])] [1] [sv x11] [pp 1] (.cons (.same rfl) (.cons (.pt rfl) (.nil))) (wQ.ok x11 a2) h14 (.same rfl rfl))) zB))) ?_
  refine zG 16 (fun h15=>?_) (fun h15=>?_)
  ·refine J_d 13516 [] [0,1,4,5,7,8,16] [(4,iv s9)] [] [] zB ?_
   exact xB rfl
  ·refine J_d 423 [] [5,8,16] [(8,iv (w64 (s9+1)))] [] [] zB ?_
   exact J_q (J_b (ih (w64 (s9+1)))) rfl
 ·exact yU (hk ()) rfl
theorem yB.ok (a1:(List ByteArray)) (a2:(List ByteArray)):Ok Tryz.prog 122 [rr 0 a1,.fn 77 [pp 1]] [rE 1 eStr a1,.box [sl 1 eStr a2]] ((yB a1 a2).map fun r=>(iv r,[rE 1 eStr a1,.box [sl 1 eStr a2]])):=by
 refine zN zKO Tryz.f122 2 19 (fun q=>?_)
 unfold yB
 refine J_g 2 [] [(0,rr 0 a1),(1,.fn 77 [pp 1])] [(0,rE 1 eStr a1),(1,.box [sl 1 eStr a2])] zB ?_
 refine J_d 12 [] [7,8] [(7,iv (a1.length:Int)),(8,iv 0)] [] [] zB ?_
 refine jU (K0:=(fun r:Int=>some (iv r,[rE 1 eStr a1,.box [sl 1 eStr a2]]))) (fun _=>rfl) (yN.ok a1 a2 q _ (fun v16=>J_j ?_) 0)
 refine J_d 14 [] [4] [(4,iv (-1))] [] [] zB ?_
 exact xB rfl
noncomputable def c75:Code:=(Tryz.f75.body).getD .skip
theorem zQ.ok (a1:(List ByteArray)) (a2:(List ByteArray)):Ok Tryz.prog 75 [rr 0 a1,.fn 77 [pp 1]] [rE 1 eStr a1,.box [sl 1 eStr a2]] ((zQ a1 a2).map fun r=>(bv r,[rE 1 eStr a1,.box [sl 1 eStr a2]])):=by
 refine zN c75 Tryz.f75 2 9 (fun q=>?_)
 unfold zQ
 refine J_d 2 [] [] [] [] [] zB ?_
 refine zA (fun x3 h4=>?_)
 refine J_d 6 [] [0,1,4] [(4,bv (decide (x3≥0)))] [] [] (zF 2 (zF2 [(0,rE 1 eStr a1),(1,.box [sl 1 eStr a2])] [] (wT («as»:=[rr 0 a1,.fn 77 [pp 1]]) [(.tmp 5),(.tmp 6)] [32,99] false [(0,rE 1 eStr a1),(1,.box [sl 1 eStr a2])] [0,1] (.cons (.rf rfl) (.cons (.fn (.cons (.pt rfl) (.nil))) (.nil))) (yB.ok a1 a2) h4 (.same rfl rfl))) zB) ?_
 exact xB rfl
noncomputable def c74:Code:=(Tryz.f74.body).getD .skip
theorem vR.ok (a1:Pack) (a2:(List ByteArray)):Ok Tryz.prog 74 [.ag (Pack.enc false a1),pp 0] [.box [sl 1 eStr a2]] ((vR a1 a2).map fun r=>(bv r,[.box [sl 1 eStr a2]])):=by
 refine zN c74 Tryz.f74 1 8 (fun q=>?_)
 unfold vR
 refine J_d 2 [(0,1)] [0,2] [(2,pp 1)] [1] [(1,.box (Pack.enc false a1))] zB ?_
 refine zA (fun x3 h4=>?_)
 refine zA (fun x5 h6=>?_)
 refine J_g 6 [] [(3,bv x5)] [(0,.box [sl 1 eStr a2])] (zF 1 (wT («as»:=[.ag (Pack.enc false a1)]) [(.tmp 4)] [91] false [] [] (.cons (.same rfl) (.nil)) (xP.ok a1) h4 (.own 2)) (zF 3 (zF2 [(2,rE 1 eStr x3),(0,.box [sl 1 eStr a2])] [] (wT («as»:=[rr 2 x3,.fn 77 [pp 0]]) [(.tmp 5),(.tmp 6)] [32,99] false [(2,rE 1 eStr x3),(0,.box [sl 1 eStr a2])] [2,0] (.cons (.rf rfl) (.cons (.fn (.cons (.pt rfl) (.nil))) (.nil))) (zQ.ok x3 a2) h6 (.same rfl rfl))) zB)) ?_
 exact xB rfl
theorem yO.ok (a1:(List Pack)) (a2:(List ByteArray)) (q:Wd) (kn:Unit→Option (D×List Ent)) (hk:∀v:Unit,J (q.g Tryz.prog 121 2 19) zJn (atI zJn 7) (St.mk' [] [(0,rE 8 (Pack.enc false) a1),(1,.box [sl 1 eStr a2])]) (some v) kn):
  ∀s9:Int,J (q.g Tryz.prog 121 2 19) zJn (atI zJn 52) (St.mk' [(0,rr 0 a1),(1,.fn 74 [pp 1]),(7,iv (a1.length:Int)),(8,iv s9)] [(0,rE 8 (Pack.enc false) a1),(1,.box [sl 1 eStr a2])]) (yO a1 a2 s9) (Fl.go (fun r:Int=>some (iv r,[rE 8 (Pack.enc false) a1,.box [sl 1 eStr a2]])) kn):=by
 refine zAQ (fun g ih s9=>?_)
 unfold zT
 refine J_d 104 [] [9] [(9,bv (decide (s9< (a1.length:Int))))] [] [] zB ?_
 refine zG 9 (fun h10=>?_) (fun h10=>?_)
 ·refine J_d 1688 [] [5,9] [(5,iv s9)] [] [] zB ?_
  refine zA (fun x11 h12=>?_)
  refine zA (fun x13 h14=>?_)
  refine J_d 3378 [] [16] [(16,bv x13)] [] [] (zF 3 (zBf (kk:=.i64) 24 91 8 0 (Pack.enc false) (.tmp 12) (.tmp 13) h12) (zF 4 (zAS (d:=.ag (Pack.enc false x11)) 91 8 0 0 (Pack.enc false) (.tmp 14) h12 (by kernel_rfl)) (zF 5 (zF2 [(1,.box [sl 1 eStr a2])] [] (zFa 11 [(.tmp 15)] [91] false [(1,.box [sl 1 eStr a2])] [1] [.ag (Pack.enc false x11)] [pp 1] (.cons (.same rfl) (.cons (.pt rfl) (.nil))) (vR.ok x11 a2) h14 (.same rfl rfl))) zB))) ?_
  refine zG 16 (fun h15=>?_) (fun h15=>?_)
  ·refine J_d 13516 [] [0,1,4,5,7,8,16] [(4,iv s9)] [] [] zB ?_
   exact xB rfl
  ·refine J_d 423 [] [5,8,16] [(8,iv (w64 (s9+1)))] [] [] zB ?_
   exact J_q (J_b (ih (w64 (s9+1)))) rfl
 ·exact yU (hk ()) rfl
theorem yC.ok (a1:(List Pack)) (a2:(List ByteArray)):Ok Tryz.prog 121 [rr 0 a1,.fn 74 [pp 1]] [rE 8 (Pack.enc false) a1,.box [sl 1 eStr a2]] ((yC a1 a2).map fun r=>(iv r,[rE 8 (Pack.enc false) a1,.box [sl 1 eStr a2]])):=by
 refine zN zJn Tryz.f121 2 19 (fun q=>?_)
 unfold yC
 refine J_g 2 [] [(0,rr 0 a1),(1,.fn 74 [pp 1])] [(0,rE 8 (Pack.enc false) a1),(1,.box [sl 1 eStr a2])] zB ?_
 refine J_d 12 [] [7,8] [(7,iv (a1.length:Int)),(8,iv 0)] [] [] zB ?_
 refine jU (K0:=(fun r:Int=>some (iv r,[rE 8 (Pack.enc false) a1,.box [sl 1 eStr a2]]))) (fun _=>rfl) (yO.ok a1 a2 q _ (fun v16=>J_j ?_) 0)
 refine J_d 14 [] [4] [(4,iv (-1))] [] [] zB ?_
 exact xB rfl
noncomputable def c72:Code:=(Tryz.f72.body).getD .skip
theorem zO.ok (a1:(List Pack)) (a2:(List ByteArray)):Ok Tryz.prog 72 [rr 0 a1,.fn 74 [pp 1]] [rE 8 (Pack.enc false) a1,.box [sl 1 eStr a2]] ((zO a1 a2).map fun r=>(bv r,[rE 8 (Pack.enc false) a1,.box [sl 1 eStr a2]])):=by
 refine zN c72 Tryz.f72 2 9 (fun q=>?_)
 unfold zO
 refine J_d 2 [] [] [] [] [] zB ?_
 refine zA (fun x3 h4=>?_)
 refine J_d 6 [] [0,1,4] [(4,bv (decide (x3≥0)))] [] [] (zF 2 (zF2 [(0,rE 8 (Pack.enc false) a1),(1,.box [sl 1 eStr a2])] [] (wT («as»:=[rr 0 a1,.fn 74 [pp 1]]) [(.tmp 5),(.tmp 6)] [24,100] false [(0,rE 8 (Pack.enc false) a1),(1,.box [sl 1 eStr a2])] [0,1] (.cons (.rf rfl) (.cons (.fn (.cons (.pt rfl) (.nil))) (.nil))) (yC.ok a1 a2) h4 (.same rfl rfl))) zB) ?_
 exact xB rfl
noncomputable def c71:Code:=(Tryz.f71.body).getD .skip
theorem xR.ok (a1:ByteArray) (a2:(List ByteArray)) (a3:(List Pack)) (a4:(List Int)) (a5:(List Int)):Ok Tryz.prog 71 [sv a1,sl 1 eStr a2,pp 0,pp 1,pp 2] [.box [sl 8 (Pack.enc false) a3],.box [sl 1 zD a4],.box [sl 1 zD a5]] ((xR a1 a2 a3 a4 a5).map fun r=>(bv r,[.box [sl 8 (Pack.enc false) a3],.box [sl 1 zD a4],.box [sl 1 zD a5]])):=by
 refine zN c71 Tryz.f71 3 15 (fun q=>?_)
 unfold xR
 refine J_d 2 [(0,3)] [1,6] [(6,pp 3)] [3] [(3,.box [sl 1 eStr a2])] zB ?_
 refine zA (fun x6 h7=>?_)
 refine zA (fun x8 h9=>?_)
 refine J_d 6 [] [0,2,3,4,6,7] [(7,bv x8)] [3] [] (zF 4 (wT («as»:=[sl 8 (Pack.enc false) a3,sl 1 zD a4,sl 1 zD a5,sv a1]) [(.tmp 8),(.tmp 9),(.tmp 10),(.tmp 11)] [24,25,25,9] false [] [] (.cons (.same rfl) (.cons (.same rfl) (.cons (.same rfl) (.cons (.same rfl) (.nil))))) (uF.ok a3 a4 a5 a1) h7 (.own 4)) (zF 6 (zF2 [(4,rE 8 (Pack.enc false) x6),(3,.box [sl 1 eStr a2])] [] (wT («as»:=[rr 4 x6,.fn 74 [pp 3]]) [(.tmp 12),(.tmp 13)] [24,100] false [(4,rE 8 (Pack.enc false) x6),(3,.box [sl 1 eStr a2])] [4,3] (.cons (.rf rfl) (.cons (.fn (.cons (.pt rfl) (.nil))) (.nil))) (zO.ok x6 a2) h9 (.same rfl rfl))) zB)) ?_
 exact xB rfl
noncomputable def c80:Code:=(Tryz.f80.body).getD .skip
theorem vP.ok (a1:Term) (a2:(List ByteArray)):Ok Tryz.prog 80 [.ag (Term.enc a1),pp 0] [.box [sl 1 eStr a2]] ((vP a1 a2).map fun r=>(bv r,[.box [sl 1 eStr a2]])):=by
 refine zN c80 Tryz.f80 1 8 (fun q=>?_)
 unfold vP
 refine J_d 2 [(0,1)] [0,2] [(2,pp 1)] [1] [(1,.box (Term.enc a1))] zB ?_
 refine zA (fun x3 h4=>?_)
 refine J_g 6 [] [(3,bv x3)] [(0,.box [sl 1 eStr a2])] (zF 3 (wW [(.tmp 4),(.tmp 6)] [32,9] (zJ.ok a2 a1.Name) h4) zB) ?_
 exact xB rfl
noncomputable def c124:Code:=(Tryz.f124.body).getD .skip
theorem yQ.ok (a1:(List Term)) (a2:(List ByteArray)) (q:Wd) (kn:Unit→Option (D×List Ent)) (hk:∀v:Unit,J (q.g Tryz.prog 124 1 19) c124 (atI c124 7) (St.mk' [] [(0,.box [sl 1 eStr a2])]) (some v) kn):
  ∀s9:Int,J (q.g Tryz.prog 124 1 19) c124 (atI c124 52) (St.mk' [(0,sl 7 Term.enc a1),(1,.fn 80 [pp 0]),(7,iv (a1.length:Int)),(8,iv s9)] [(0,.box [sl 1 eStr a2])]) (yQ a1 a2 s9) (Fl.go (fun r:Int=>some (iv r,[.box [sl 1 eStr a2]])) kn):=by
 refine zAQ (fun g ih s9=>?_)
 unfold zX
 refine J_d 104 [] [9] [(9,bv (decide (s9< (a1.length:Int))))] [] [] zB ?_
 refine zG 9 (fun h10=>?_) (fun h10=>?_)
 ·refine J_d 1688 [] [5,9] [(5,iv s9)] [] [] zB ?_
  refine zA (fun x11 h12=>?_)
  refine zA (fun x13 h14=>?_)
  refine J_d 3378 [] [16] [(16,bv x13)] [] [] (zF 3 (uY (kk:=.i64) 80 104 7 Term.enc (.tmp 12) (.tmp 13) h12) (zF 5 (zF2 [(0,.box [sl 1 eStr a2])] [] (zFa 11 [(.tmp 15)] [104] false [(0,.box [sl 1 eStr a2])] [0] [.ag (Term.enc x11)] [pp 0] (.cons (.same rfl) (.cons (.pt rfl) (.nil))) (vP.ok x11 a2) h14 (.same rfl rfl))) zB)) ?_
  refine zG 16 (fun h15=>?_) (fun h15=>?_)
  ·refine J_g 13516 [] [(4,iv s9)] [(0,.box [sl 1 eStr a2])] zB ?_
   exact xB rfl
  ·refine J_d 423 [] [5,8,16] [(8,iv (w64 (s9+1)))] [] [] zB ?_
   exact J_q (J_b (ih (w64 (s9+1)))) rfl
 ·exact yU (hk ()) rfl
theorem yG.ok (a1:(List Term)) (a2:(List ByteArray)):Ok Tryz.prog 124 [sl 7 Term.enc a1,.fn 80 [pp 0]] [.box [sl 1 eStr a2]] ((yG a1 a2).map fun r=>(iv r,[.box [sl 1 eStr a2]])):=by
 refine zN c124 Tryz.f124 1 19 (fun q=>?_)
 unfold yG
 refine J_g 2 [] [(0,sl 7 Term.enc a1),(1,.fn 80 [pp 0])] [(0,.box [sl 1 eStr a2])] zB ?_
 refine J_d 12 [] [7,8] [(7,iv (a1.length:Int)),(8,iv 0)] [] [] zB ?_
 refine jU (K0:=(fun r:Int=>some (iv r,[.box [sl 1 eStr a2]]))) (fun _=>rfl) (yQ.ok a1 a2 q _ (fun v16=>J_j ?_) 0)
 refine J_d 14 [] [4] [(4,iv (-1))] [] [] zB ?_
 exact xB rfl
noncomputable def c79:Code:=(Tryz.f79.body).getD .skip
theorem zR.ok (a1:(List Term)) (a2:(List ByteArray)):Ok Tryz.prog 79 [sl 7 Term.enc a1,.fn 80 [pp 0]] [.box [sl 1 eStr a2]] ((zR a1 a2).map fun r=>(bv r,[.box [sl 1 eStr a2]])):=by
 refine zN c79 Tryz.f79 1 9 (fun q=>?_)
 unfold zR
 refine J_d 2 [] [] [] [] [] zB ?_
 refine zA (fun x3 h4=>?_)
 refine J_d 6 [] [0,1,4] [(4,bv (decide (x3≥0)))] [] [] (zF 2 (zF2 [(0,.box [sl 1 eStr a2])] [] (wT («as»:=[sl 7 Term.enc a1,.fn 80 [pp 0]]) [(.tmp 5),(.tmp 6)] [80,105] false [(0,.box [sl 1 eStr a2])] [0] (.cons (.same rfl) (.cons (.fn (.cons (.pt rfl) (.nil))) (.nil))) (yG.ok a1 a2) h4 (.same rfl rfl))) zB) ?_
 exact xB rfl
noncomputable def c78:Code:=(Tryz.f78.body).getD .skip
theorem xQ.ok (a1:(List ByteArray)) (a2:(List Term)):Ok Tryz.prog 78 [sl 1 eStr a1,pp 0] [.box [sl 7 Term.enc a2]] ((xQ a1 a2).map fun r=>(bv r,[.box [sl 7 Term.enc a2]])):=by
 refine zN c78 Tryz.f78 1 7 (fun q=>?_)
 unfold xQ
 refine J_d 2 [(0,1)] [0,2] [(2,pp 1)] [1] [(1,.box [sl 1 eStr a1])] zB ?_
 refine zA (fun x3 h4=>?_)
 refine J_d 6 [] [1,2,3] [(3,bv x3)] [1] [] (zF 2 (zF2 [(1,.box [sl 1 eStr a1])] [] (wT («as»:=[sl 7 Term.enc a2,.fn 80 [pp 1]]) [(.tmp 4),(.tmp 5)] [80,105] false [(1,.box [sl 1 eStr a1])] [1] (.cons (.same rfl) (.cons (.fn (.cons (.pt rfl) (.nil))) (.nil))) (zR.ok a2 a1) h4 (.same rfl rfl))) zB) ?_
 exact xB rfl
noncomputable def c36:Code:=(Tryz.f36.body).getD .skip
theorem jS.ok (a1:(List Pack)) (x6:(List ByteArray)) (x8:(List ByteArray)) (x17:(List Int)) (s46:Int) (x50:Pack) (q:Wd) (kn:Unit→Option (D×List Ent)) (hk:∀v:Unit,J (q.g Tryz.prog 36 0 70) c36 (aft c36 8012) (St.mk' [(5,pp 0),(11,sl 1 eStr x6),(12,sl 1 eStr x8),(43,rr 4 x17),(44,iv (x17.length:Int)),(45,iv s46)] [(0,.box [sl 8 (Pack.enc false) a1]),(4,rE 1 zD x17)]) (some v) kn):
  ∀s62:Int,J (q.g Tryz.prog 36 0 70) c36 (atI c36 128204) (St.mk' [(5,pp 0),(11,sl 1 eStr x6),(12,sl 1 eStr x8),(43,rr 4 x17),(44,iv (x17.length:Int)),(45,iv s46),(53,sl 1 (eSl false 7 Term.enc) x50.Needs),(54,iv (x50.Needs.length:Int)),(55,iv s62)] [(0,.box [sl 8 (Pack.enc false) a1]),(4,rE 1 zD x17)]) (jS a1 x6 x8 x17 s46 x50 s62) (Fl.go (fun r:Bool=>some (bv r,[])) kn):=by
 refine zAQ (fun g ih s62=>?_)
 unfold tJ
 refine J_d 256408 [] [56] [(56,bv (decide (s62< (x50.Needs.length:Int))))] [] [] zB ?_
 refine zG 56 (fun h63=>?_) (fun h63=>?_)
 ·refine zA (fun x64 h65=>?_)
  refine J_g 4102552 [(2,5)] [(5,pp 0),(11,sl 1 eStr x6),(12,sl 1 eStr x8),(17,pp 5),(43,rr 4 x17),(44,iv (x17.length:Int)),(45,iv s46),(53,sl 1 (eSl false 7 Term.enc) x50.Needs),(54,iv (x50.Needs.length:Int)),(55,iv s62)] [(0,.box [sl 8 (Pack.enc false) a1]),(4,rE 1 zD x17),(5,.box [sl 7 Term.enc x64])] (zF 0 (uY (kk:=.i64) 89 80 1 (eSl false 7 Term.enc) (.tmp 53) (.tmp 55) h65) zB) ?_
  refine J_d 8205106 [] [17,18] [(18,.fn 78 [pp 5])] [] [] zB ?_
  refine zA (fun x66 h67=>?_)
  refine xH (atI c36 16410215) (fun v71:Bool=>St.mk' [(5,pp 0),(11,sl 1 eStr x6),(12,sl 1 eStr x8),(43,rr 4 x17),(44,iv (x17.length:Int)),(45,iv s46),(53,sl 1 (eSl false 7 Term.enc) x50.Needs),(54,iv (x50.Needs.length:Int)),(55,iv s62),(67,bv v71)] [(0,.box [sl 8 (Pack.enc false) a1]),(4,rE 1 zD x17)]) (fun v71=>?_) (fun jv71=>?_)
  ·refine zG 67 (fun h72=>?_) (fun h72=>?_)
   ·refine J_g 65640860 [] [(10,bv true)] [] zB ?_
    exact xB rfl
   ·refine J_d 1025639 [] [55,67] [(55,iv (w64 (s62+1)))] [] [] zB ?_
    exact J_q (J_b (ih (w64 (s62+1)))) rfl
  ·refine wZ (fun h68=>?_) (fun h68=>?_)
   ·refine zA (fun x69 h70=>?_)
    refine J_d 16410214 [] [18,67] [(67,bv x69)] [5] [] (zF 2 (zF2 [(5,.box [sl 7 Term.enc x64])] [] (zFa 60 [(.tmp 61)] [32] false [(5,.box [sl 7 Term.enc x64])] [5] [sl 1 eStr x6] [pp 5] (.cons (.same rfl) (.cons (.pt rfl) (.nil))) (xQ.ok x6 x64) h67 (.same rfl rfl))) (xZ 3 [(62,bv x66)] [] h68 (zBb 6 3 63 true (zF2 [(5,.box [sl 7 Term.enc x64])] [] (zFa 64 [(.tmp 65)] [32] false [(5,.box [sl 7 Term.enc x64])] [5] [sl 1 eStr x8] [pp 5] (.cons (.same rfl) (.cons (.pt rfl) (.nil))) (xQ.ok x8 x64) h70 (.same rfl rfl))) zB))) ?_
    exact yU (J_j (jv71 x69)) rfl
   ·refine J_d 16410214 [] [18,67] [(67,bv false)] [5] [] (zF 2 (zF2 [(5,.box [sl 7 Term.enc x64])] [] (zFa 60 [(.tmp 61)] [32] false [(5,.box [sl 7 Term.enc x64])] [5] [sl 1 eStr x6] [pp 5] (.cons (.same rfl) (.cons (.pt rfl) (.nil))) (xQ.ok x6 x64) h67 (.same rfl rfl))) (xZ 3 [(62,bv x66)] [] h68 zB)) ?_
    exact yU (J_j (jv71 false)) rfl
 ·exact yU (hk ()) rfl
theorem jO.ok (a1:(List Pack)) (x6:(List ByteArray)) (x8:(List ByteArray)) (x17:(List Int)) (q:Wd) (kn:Unit→Option (D×List Ent)) (hk:∀v:Unit,J (q.g Tryz.prog 36 0 70) c36 (atI c36 63) (St.mk' [] []) (some v) kn):
  ∀s46:Int,J (q.g Tryz.prog 36 0 70) c36 (atI c36 500) (St.mk' [(5,pp 0),(11,sl 1 eStr x6),(12,sl 1 eStr x8),(43,rr 4 x17),(44,iv (x17.length:Int)),(45,iv s46)] [(0,.box [sl 8 (Pack.enc false) a1]),(4,rE 1 zD x17)]) (jO a1 x6 x8 x17 s46) (Fl.go (fun r:Bool=>some (bv r,[])) kn):=by
 refine zAQ (fun g ih s46=>?_)
 unfold vQ
 refine J_d 1000 [] [46] [(46,bv (decide (s46< (x17.length:Int))))] [] [] zB ?_
 refine zG 46 (fun h47=>?_) (fun h47=>?_)
 ·refine zA (fun x48 h49=>?_)
  refine J_d 16024 [] [15,46] [(15,iv x48)] [] [] (zF 0 (zBf (kk:=.i64) 25 2 1 4 zD (.tmp 43) (.tmp 45) h49) (zF 1 (zAS (d:=iv x48) 2 1 4 0 zD (.tmp 47) h49 (by kernel_rfl)) zB)) ?_
  refine zA (fun x50 h51=>?_)
  refine J_d 32050 [] [15,53,54,55] [(53,sl 1 (eSl false 7 Term.enc) x50.Needs),(54,iv (x50.Needs.length:Int)),(55,iv 0)] [] [] (zF 2 (uY (kk:=.i64) 24 91 8 (Pack.enc false) (.tmp 49) (.tmp 50) h51) zB) ?_
  refine jU (K0:=(fun r:Bool=>some (bv r,[]))) (fun _=>rfl) (jS.ok a1 x6 x8 x17 s46 x50 q _ (fun v73=>J_j ?_) 0)
  refine J_d 4007 [] [45] [(45,iv (w64 (s46+1)))] [] [] zB ?_
  exact J_q (J_b (ih (w64 (s46+1)))) rfl
 ·exact yU (hk ()) rfl
theorem yV.ok (a1:(List Pack)) (a2:(List Int)) (a3:(List Int)) (a4:ByteArray) (a5:ByteArray):Ok Tryz.prog 36 [sl 8 (Pack.enc false) a1,sl 1 zD a2,sl 1 zD a3,sv a4,sv a5] [] ((yV a1 a2 a3 a4 a5).map fun r=>(bv r,[])):=by
 refine zN c36 Tryz.f36 0 70 (fun q=>?_)
 unfold yV
 refine J_g 2 [(0,0),(1,1),(2,2)] [(3,sv a4),(4,sv a5),(5,pp 0),(6,pp 1),(7,pp 2)] [(0,.box [sl 8 (Pack.enc false) a1]),(1,.box [sl 1 zD a2]),(2,.box [sl 1 zD a3])] zB ?_
 refine zA (fun x6 h7=>?_)
 refine zA (fun x8 h9=>?_)
 refine J_g 6 [] [(3,sv a4),(4,sv a5),(5,pp 0),(6,pp 1),(7,pp 2),(11,rr 3 x6),(12,rr 4 x8)] [(0,.box [sl 8 (Pack.enc false) a1]),(1,.box [sl 1 zD a2]),(2,.box [sl 1 zD a3]),(3,rE 1 eStr x6),(4,rE 1 eStr x8)] (zF 4 (wT («as»:=[sl 8 (Pack.enc false) a1,sl 1 zD a2,sl 1 zD a3,sv a4]) [(.tmp 19),(.tmp 20),(.tmp 21),(.tmp 22)] [24,25,25,9] false [] [] (.cons (.same rfl) (.cons (.same rfl) (.cons (.same rfl) (.cons (.same rfl) (.nil))))) (uO.ok a1 a2 a3 a4) h7 (.own 3)) (zF 9 (wT («as»:=[sl 8 (Pack.enc false) a1,sl 1 zD a2,sl 1 zD a3,sv a5]) [(.tmp 24),(.tmp 25),(.tmp 26),(.tmp 27)] [24,25,25,9] false [] [] (.cons (.same rfl) (.cons (.same rfl) (.cons (.same rfl) (.cons (.same rfl) (.nil))))) (uO.ok a1 a2 a3 a5) h9 (.own 4)) zB)) ?_
 refine J_g 14 [] [(3,sv a4),(4,sv a5),(5,pp 0),(6,pp 1),(7,pp 2),(11,rr 3 x6),(12,rr 4 x8),(13,.fn 71 [pp 0,pp 1,pp 2])] [(0,.box [sl 8 (Pack.enc false) a1]),(1,.box [sl 1 zD a2]),(2,.box [sl 1 zD a3]),(3,rE 1 eStr x6),(4,rE 1 eStr x8)] zB ?_
 refine zA (fun x10 h11=>?_)
 refine zCP [(3,sv a4),(4,sv a5),(5,pp 0),(6,pp 1),(7,pp 2),(11,rr 3 x6),(12,rr 4 x8),(13,.fn 71 [pp 0,pp 1,pp 2])] [(4,rE 1 eStr x8),(0,.box [sl 8 (Pack.enc false) a1]),(1,.box [sl 1 zD a2]),(2,.box [sl 1 zD a3]),(3,rE 1 eStr x6)] (by kernel_rfl) ?_
 refine zG2 4 (z:=1) (xs:=x8.map eStr) (tm2:=[(3,sv a4),(4,sv a5),(5,pp 0),(6,pp 1),(7,pp 2),(11,rr 3 x6),(12,sl 1 eStr x8),(13,.fn 71 [pp 0,pp 1,pp 2])]) (hp2:=[(0,.box [sl 8 (Pack.enc false) a1]),(1,.box [sl 1 zD a2]),(2,.box [sl 1 zD a3]),(3,rE 1 eStr x6)]) (.cons (.keep rfl) (.cons (.keep rfl) (.cons (.keep rfl) (.cons (.keep rfl) (.cons (.keep rfl) (.cons (.keep rfl) (.cons (.rf (by simp) (zEh (enc:=eStr) (enc':=eStr) (fun _=>rfl) x8 rfl rfl)) (.cons (.keep rfl) (.nil))))))))) (.keep rfl (.keep rfl (.keep rfl (.keep rfl (.nil))))) rfl ?_
 refine xH (atI c36 61) (fun v15:Bool=>St.mk' [(5,pp 0),(6,pp 1),(7,pp 2),(11,sl 1 eStr x6),(12,sl 1 eStr x8),(39,bv v15)] [(0,.box [sl 8 (Pack.enc false) a1]),(1,.box [sl 1 zD a2]),(2,.box [sl 1 zD a3])]) (fun v15=>?_) (fun jv15=>?_)
 ·refine zG 39 (fun h16=>?_) (fun h16=>?_)
  ·refine J_g 244 [] [(10,bv true)] [] zB ?_
   exact xB rfl
  ·refine zA (fun x17 h18=>?_)
   refine J_d 124 [] [6,7,39,43,44,45] [(43,rr 4 x17),(44,iv (x17.length:Int)),(45,iv 0)] [1,2,4] [(4,rE 1 zD x17)] (zF 2 (zBg 46 25 1 3 (eSl false 1 zD) [a2,a3] [0,1] [(.tmp 40),(.tmp 41)] [sl 1 zD a2,sl 1 zD a3]) (zF 3 (wT («as»:=[rr 3 [a2,a3]]) [(.tmp 42)] [46] true [(3,rE 1 (eSl false 1 zD) [a2,a3])] [] (.cons (zCD (.head _) (zCB (fun _=>rfl)) rfl) (.nil)) (xI.ok [a2,a3]) h18 (.own 4) (hbor:=fun _=>⟨fhN,(zCy (zDp (fun _=>(flatK yT zCJ)) _))⟩)) zB)) ?_
   refine jU (K0:=(fun r:Bool=>some (bv r,[]))) (fun _=>rfl) (jO.ok a1 x6 x8 x17 q _ (fun v74=>J_j ?_) 0)
   refine J_g 126 [] [(10,bv false)] [] zB ?_
   exact xB rfl
 ·refine wZ (fun h12=>?_) (fun h12=>?_)
  ·refine J_d 60 [] [3,4,13,39] [(39,bv true)] [] [] (zF 3 (zF2 [(0,.box [sl 8 (Pack.enc false) a1]),(1,.box [sl 1 zD a2]),(2,.box [sl 1 zD a3])] [] (zFa 30 [(.tmp 31),(.tmp 32)] [9,32] false [(0,.box [sl 8 (Pack.enc false) a1]),(1,.box [sl 1 zD a2]),(2,.box [sl 1 zD a3])] [0,1,2] [sv a4,sl 1 eStr x8] [pp 0,pp 1,pp 2] (.cons (.same rfl) (.cons (.same rfl) (.cons (.pt rfl) (.cons (.pt rfl) (.cons (.pt rfl) (.nil)))))) (xR.ok a4 x8 a1 a2 a3) h11 (.same rfl rfl))) (xZ 4 [(33,bv x10)] [] h12 zB)) ?_
   refine zCP [(5,pp 0),(6,pp 1),(7,pp 2),(11,rr 3 x6),(12,sl 1 eStr x8),(39,bv true)] [(3,rE 1 eStr x6),(0,.box [sl 8 (Pack.enc false) a1]),(1,.box [sl 1 zD a2]),(2,.box [sl 1 zD a3])] (by kernel_rfl) ?_
   refine zG2 3 (z:=1) (xs:=x6.map eStr) (tm2:=[(5,pp 0),(6,pp 1),(7,pp 2),(11,sl 1 eStr x6),(12,sl 1 eStr x8),(39,bv true)]) (hp2:=[(0,.box [sl 8 (Pack.enc false) a1]),(1,.box [sl 1 zD a2]),(2,.box [sl 1 zD a3])]) (.cons (.keep rfl) (.cons (.keep rfl) (.cons (.keep rfl) (.cons (.rf (by simp) (zEh (enc:=eStr) (enc':=eStr) (fun _=>rfl) x6 rfl rfl)) (.cons (.keep rfl) (.cons (.keep rfl) (.nil))))))) (.keep rfl (.keep rfl (.keep rfl (.nil)))) rfl ?_
   exact yU (J_j (jv15 true)) rfl
  ·refine zA (fun x13 h14=>?_)
   refine zCP [(3,sv a4),(4,sv a5),(5,pp 0),(6,pp 1),(7,pp 2),(11,rr 3 x6),(12,sl 1 eStr x8),(13,.fn 71 [pp 0,pp 1,pp 2])] [(3,rE 1 eStr x6),(0,.box [sl 8 (Pack.enc false) a1]),(1,.box [sl 1 zD a2]),(2,.box [sl 1 zD a3])] (by kernel_rfl) ?_
   refine zG2 3 (z:=1) (xs:=x6.map eStr) (tm2:=[(3,sv a4),(4,sv a5),(5,pp 0),(6,pp 1),(7,pp 2),(11,sl 1 eStr x6),(12,sl 1 eStr x8),(13,.fn 71 [pp 0,pp 1,pp 2])]) (hp2:=[(0,.box [sl 8 (Pack.enc false) a1]),(1,.box [sl 1 zD a2]),(2,.box [sl 1 zD a3])]) (.cons (.keep rfl) (.cons (.keep rfl) (.cons (.keep rfl) (.cons (.keep rfl) (.cons (.keep rfl) (.cons (.rf (by simp) (zEh (enc:=eStr) (enc':=eStr) (fun _=>rfl) x6 rfl rfl)) (.cons (.keep rfl) (.cons (.keep rfl) (.nil))))))))) (.keep rfl (.keep rfl (.keep rfl (.nil)))) rfl ?_
   refine J_d 60 [] [3,4,13,39] [(39,bv x13)] [] [] (zF 3 (zF2 [(0,.box [sl 8 (Pack.enc false) a1]),(1,.box [sl 1 zD a2]),(2,.box [sl 1 zD a3])] [] (zFa 30 [(.tmp 31),(.tmp 32)] [9,32] false [(0,.box [sl 8 (Pack.enc false) a1]),(1,.box [sl 1 zD a2]),(2,.box [sl 1 zD a3])] [0,1,2] [sv a4,sl 1 eStr x8] [pp 0,pp 1,pp 2] (.cons (.same rfl) (.cons (.same rfl) (.cons (.pt rfl) (.cons (.pt rfl) (.cons (.pt rfl) (.nil)))))) (xR.ok a4 x8 a1 a2 a3) h11 (.same rfl rfl))) (xZ 4 [(33,bv x10)] [] h12 (zBb 8 4 34 false (zF2 [(0,.box [sl 8 (Pack.enc false) a1]),(1,.box [sl 1 zD a2]),(2,.box [sl 1 zD a3])] [] (zFa 35 [(.tmp 36),(.tmp 37)] [9,32] false [(0,.box [sl 8 (Pack.enc false) a1]),(1,.box [sl 1 zD a2]),(2,.box [sl 1 zD a3])] [0,1,2] [sv a5,sl 1 eStr x6] [pp 0,pp 1,pp 2] (.cons (.same rfl) (.cons (.same rfl) (.cons (.pt rfl) (.cons (.pt rfl) (.cons (.pt rfl) (.nil)))))) (xR.ok a5 x6 a1 a2 a3) h14 (.same rfl rfl))) zB))) ?_
   exact yU (J_j (jv15 x13)) rfl
noncomputable def c31:Code:=(Tryz.f31.body).getD .skip
theorem zAd.ok (a1:(List Pack)) (a2:(List Int)) (a3:(List Int)) (s133:((List (List ByteArray))×(List ByteArray))) (s226:((List ByteArray)×(List ByteArray)×Int)) (q:Wd) (kn:((List ByteArray)×(List ByteArray))→Option (D×List Ent)) (hk:∀v:((List ByteArray)×(List ByteArray)),J (q.g Tryz.prog 31 0 64) c31 (atI c31 464531) (St.mk' [(0,sl 8 (Pack.enc false) a1),(1,sl 1 zD a2),(2,sl 1 zD a3),(7,rr 0 s133.1),(9,rr 2 v.1),(10,iv s226.2.2),(11,rr 4 v.2)] [(0,rE 1 (eSl true 1 eStr) s133.1),(2,rE 1 eStr v.1),(4,rE 1 eStr v.2)]) (some v) kn):
  ∀s241:((List ByteArray)×(List ByteArray)×Int),J (q.g Tryz.prog 31 0 64) c31 (atI c31 3716244) (St.mk' [(0,sl 8 (Pack.enc false) a1),(1,sl 1 zD a2),(2,sl 1 zD a3),(7,rr 0 s133.1),(9,rr 2 s241.1),(10,iv s226.2.2),(11,rr 4 s241.2.1),(33,rr 3 s226.1),(34,iv (s226.1.length:Int)),(35,iv s241.2.2)] [(0,rE 1 (eSl true 1 eStr) s133.1),(2,rE 1 eStr s241.1),(3,rE 1 eStr s226.1),(4,rE 1 eStr s241.2.1)]) (zAd a1 a2 a3 s133 s226 s241) kn:=by
 refine zAQ (fun g ih s241=>?_)
 unfold zAO
 refine J_d 7432488 [] [36] [(36,bv (decide (s241.2.2< (s226.1.length:Int))))] [] [] zB ?_
 refine zG 36 (fun h242=>?_) (fun h242=>?_)
 ·refine zA (fun x243 h244=>?_)
  refine J_d 118919832 [] [13,36] [(13,sv x243)] [] [] (zF 0 (zBf (kk:=.i64) 32 9 1 3 eStr (.tmp 33) (.tmp 35) h244) (zF 1 (zAS (d:=sv x243) 9 1 3 0 eStr (.tmp 37) h244 (by kernel_rfl)) zB)) ?_
  refine zA (fun x245 h246=>?_)
  refine zA (fun x247 h248=>?_)
  refine J_d 237839666 [] [47] [(47,bv x247)] [] [] (zF 5 (zBf (kk:=.i64) 32 9 1 2 eStr (.tmp 42) (.tmp 43) h246) (zF 6 (zAS (d:=sv x245) 9 1 2 0 eStr (.tmp 44) h246 (by kernel_rfl)) (zF 8 (wW [(.tmp 39),(.tmp 40),(.tmp 41),(.tmp 45),(.tmp 46)] [24,25,25,9,9] (yV.ok a1 a2 a3 x245 x243) h248) zB))) ?_
  refine xH (aft c31 59459916) (fun v254:((List ByteArray)×(List ByteArray))=>St.mk' [(0,sl 8 (Pack.enc false) a1),(1,sl 1 zD a2),(2,sl 1 zD a3),(7,rr 0 s133.1),(9,rr 6 v254.1),(10,iv s226.2.2),(11,rr 4 v254.2),(33,rr 3 s226.1),(34,iv (s226.1.length:Int)),(35,iv s241.2.2)] [(0,rE 1 (eSl true 1 eStr) s133.1),(3,rE 1 eStr s226.1),(4,rE 1 eStr v254.2),(6,rE 1 eStr v254.1)]) (fun v254=>?_) (fun jv254=>?_)
  ·refine J_d 29729959 [] [35] [(35,iv (w64 (s241.2.2+1)))] [] [] zB ?_
   refine vE 6 2 (Nat.le_of_ble_eq_true rfl) (Nat.le_of_ble_eq_true rfl) ?_
   exact J_q (J_b (ih (v254.1,v254.2,w64 (s241.2.2+1)))) rfl
  ·refine zG 47 (fun h249=>?_) (fun h249=>?_)
   ·refine zA (fun x250 h251=>?_)
    refine J_d 475679334 [] [9,13,47] [(9,rr 6 x250)] [2,6] [(6,rE 1 eStr x250)] (zF 2 (zBg 32 9 1 5 eStr [x243] [0] [(.tmp 49)] [sv x243]) (zF 3 (zDI 32 32 9 9 1 16 6 2 5 eStr (.tmp 48) (.tmp 50) h251) zB)) ?_
    exact yU (J_j (jv254 (x250,s241.2.1))) rfl
   ·refine zA (fun x252 h253=>?_)
    refine J_d 475679335 [] [11,13,47] [(11,rr 6 x252)] [4,6] [(6,rE 1 eStr x252)] (zF 2 (zBg 32 9 1 5 eStr [x243] [0] [(.tmp 53)] [sv x243]) (zF 3 (zDI 32 32 9 9 1 16 6 4 5 eStr (.tmp 52) (.tmp 54) h253) zB)) ?_
    refine vE 2 6 (Nat.le_of_ble_eq_true rfl) (Nat.le_of_ble_eq_true rfl) ?_
    refine vE 2 4 (Nat.le_of_ble_eq_true rfl) (Nat.le_of_ble_eq_true rfl) ?_
    exact yU (J_j (jv254 (s241.1,x252))) rfl
 ·exact yU (hk (s241.1,s241.2.1)) rfl
theorem zAn.ok (a1:(List Pack)) (a2:(List Int)) (a3:(List Int)) (s133:((List (List ByteArray))×(List ByteArray))) (q:Wd) (kn:((List ByteArray)×(List ByteArray))→Option (D×List Ent)) (hk:∀v:((List ByteArray)×(List ByteArray)),J (q.g Tryz.prog 31 0 64) c31 (atI c31 1815) (St.mk' [(0,sl 8 (Pack.enc false) a1),(1,sl 1 zD a2),(2,sl 1 zD a3),(7,rr 0 s133.1),(8,rr 3 v.1),(9,rr 2 v.2)] [(0,rE 1 (eSl true 1 eStr) s133.1),(2,rE 1 eStr v.2),(3,rE 1 eStr v.1)]) (some v) kn):
  ∀s226:((List ByteArray)×(List ByteArray)×Int),J (q.g Tryz.prog 31 0 64) c31 (atI c31 14516) (St.mk' [(0,sl 8 (Pack.enc false) a1),(1,sl 1 zD a2),(2,sl 1 zD a3),(7,rr 0 s133.1),(8,rr 3 s226.1),(9,rr 2 s226.2.1),(10,iv s226.2.2)] [(0,rE 1 (eSl true 1 eStr) s133.1),(2,rE 1 eStr s226.2.1),(3,rE 1 eStr s226.1)]) (zAn a1 a2 a3 s133 s226) kn:=by
 refine zAQ (fun g ih s226=>?_)
 unfold zBU
 refine J_d 58064 [] [29] [(29,bv (decide (s226.2.2< (s226.2.1.length:Int))))] [] [] zB ?_
 refine zG 29 (fun h227=>?_) (fun h227=>?_)
 ·refine J_g 232264 [] [(0,sl 8 (Pack.enc false) a1),(1,sl 1 zD a2),(2,sl 1 zD a3),(7,rr 0 s133.1),(8,rr 3 s226.1),(9,rr 2 s226.2.1),(10,iv s226.2.2),(11,rr 4 ([]:List ByteArray))] [(0,rE 1 (eSl true 1 eStr) s133.1),(2,rE 1 eStr s226.2.1),(3,rE 1 eStr s226.1),(4,rE 1 eStr ([]:List ByteArray))] (zF 0 (zBg 32 9 1 4 eStr ([]:List ByteArray) [] [] []) zB) ?_
  refine J_d 929060 [] [8,33,34,35] [(33,rr 3 s226.1),(34,iv (s226.1.length:Int)),(35,iv 0)] [] [] zB ?_
  refine zEc (zAd.ok a1 a2 a3 s133 s226 q _ (fun v255=>J_j ?_) (s226.2.1,([]:List ByteArray),0))
  refine J_g 464531 [] [(0,sl 8 (Pack.enc false) a1),(1,sl 1 zD a2),(2,sl 1 zD a3),(7,rr 0 s133.1),(8,rr 4 v255.2),(9,rr 2 v255.1),(10,iv s226.2.2)] [(0,rE 1 (eSl true 1 eStr) s133.1),(2,rE 1 eStr v255.1),(4,rE 1 eStr v255.2)] zB ?_
  refine J_d 58067 [] [10] [(10,iv (w64 (s226.2.2+1)))] [] [] zB ?_
  refine vE 4 3 (Nat.le_of_ble_eq_true rfl) (Nat.le_of_ble_eq_true rfl) ?_
  exact J_q (J_b (ih (v255.2,v255.1,w64 (s226.2.2+1)))) rfl
 ·exact yU (hk (s226.1,s226.2.1)) rfl
theorem zAe.ok (a1:(List Pack)) (a2:(List Int)) (a3:(List Int)) (s133:((List (List ByteArray))×(List ByteArray))) (x137:(List ByteArray)) (q:Wd) (kn:((List ByteArray)×(List ByteArray))→Option (D×List Ent)) (hk:∀v:((List ByteArray)×(List ByteArray)),J (q.g Tryz.prog 31 0 64) c31 (atI c31 464531) (St.mk' [(0,sl 8 (Pack.enc false) a1),(1,sl 1 zD a2),(2,sl 1 zD a3),(7,rr 0 s133.1),(9,.cw 2 v.1.length),(10,iv 0),(11,rr 3 v.2)] [(0,rE 1 (eSl true 1 eStr) s133.1),(1,rE 1 eStr s133.2),(2,.cow 1 (v.1.map eStr) 1 (s133.2.map eStr)),(3,rE 1 eStr v.2)]) (some v) kn):
  ∀s182:((List ByteArray)×(List ByteArray)×Int),J (q.g Tryz.prog 31 0 64) c31 (atI c31 3716244) (St.mk' [(0,sl 8 (Pack.enc false) a1),(1,sl 1 zD a2),(2,sl 1 zD a3),(7,rr 0 s133.1),(9,.cw 2 s182.1.length),(10,iv 0),(11,rr 3 s182.2.1),(33,.sub 1 (1:Int).toNat x137.length),(34,iv (x137.length:Int)),(35,iv s182.2.2)] [(0,rE 1 (eSl true 1 eStr) s133.1),(1,rE 1 eStr s133.2),(2,.cow 1 (s182.1.map eStr) 1 (s133.2.map eStr)),(3,rE 1 eStr s182.2.1)]) (zAe a1 a2 a3 s133 x137 s182) kn:=by
 refine zAQ (fun g ih s182=>?_)
 unfold zAI
 refine J_d 7432488 [] [36] [(36,bv (decide (s182.2.2< (x137.length:Int))))] [] [] zB ?_
 refine zG 36 (fun h183=>?_) (fun h183=>?_)
 ·refine zA (fun x184 h185=>?_)
  refine J_d 118919832 [] [13,36] [(13,sv x184)] [] [] (zF 0 (zJ1 (kk:=.i64) 32 9 1 1 eStr (.tmp 33) (.tmp 35) h185) (zF 1 (zAS (d:=sv x184) 9 1 1 0 eStr (.tmp 37) (zEP h185) (by kernel_rfl)) zB)) ?_
  refine zA (fun x186 h187=>?_)
  refine zA (fun x188 h189=>?_)
  refine J_d 237839666 [] [47] [(47,bv x188)] [] [] (zF 5 (zL3 (kk:=.i64) (ys:=s133.2) 32 9 1 2 1 eStr (.tmp 42) (.tmp 43) h187) (zF 6 (zL7 (d:=sv x186) (ys:=s133.2) 9 1 2 1 eStr (.tmp 44) h187 (by kernel_rfl)) (zF 8 (wW [(.tmp 39),(.tmp 40),(.tmp 41),(.tmp 45),(.tmp 46)] [24,25,25,9,9] (yV.ok a1 a2 a3 x186 x184) h189) zB))) ?_
  refine xH (aft c31 59459916) (fun v195:((List ByteArray)×(List ByteArray))=>St.mk' [(0,sl 8 (Pack.enc false) a1),(1,sl 1 zD a2),(2,sl 1 zD a3),(7,rr 0 s133.1),(9,.cw 5 v195.1.length),(10,iv 0),(11,rr 3 v195.2),(33,.sub 1 (1:Int).toNat x137.length),(34,iv (x137.length:Int)),(35,iv s182.2.2)] [(0,rE 1 (eSl true 1 eStr) s133.1),(1,rE 1 eStr s133.2),(3,rE 1 eStr v195.2),(5,.cow 1 (v195.1.map eStr) 1 (s133.2.map eStr))]) (fun v195=>?_) (fun jv195=>?_)
  ·refine J_d 29729959 [] [35] [(35,iv (w64 (s182.2.2+1)))] [] [] zB ?_
   refine vE 5 2 (Nat.le_of_ble_eq_true rfl) (Nat.le_of_ble_eq_true rfl) ?_
   exact J_q (J_b (ih (v195.1,v195.2,w64 (s182.2.2+1)))) rfl
  ·refine zG 47 (fun h190=>?_) (fun h190=>?_)
   ·refine zA (fun x191 h192=>?_)
    refine J_d 475679334 [] [9,13,47] [(9,rr 5 x191)] [2,5] [(5,rE 1 eStr x191)] (zF 2 (zBg 32 9 1 4 eStr [x184] [0] [(.tmp 49)] [sv x184]) (zF 3 (zL0 (rs:=s133.2) 32 32 9 9 1 16 5 2 1 4 eStr (.tmp 48) (.tmp 50) h192) zB)) ?_
    refine zCP [(0,sl 8 (Pack.enc false) a1),(1,sl 1 zD a2),(2,sl 1 zD a3),(7,rr 0 s133.1),(9,rr 5 x191),(10,iv 0),(11,rr 3 s182.2.1),(33,.sub 1 (1:Int).toNat x137.length),(34,iv (x137.length:Int)),(35,iv s182.2.2)] [(5,rE 1 eStr x191),(0,rE 1 (eSl true 1 eStr) s133.1),(1,rE 1 eStr s133.2),(3,rE 1 eStr s182.2.1)] (by kernel_rfl) ?_
    refine zLz 5 1 (xs:=x191.map eStr) (ys:=s133.2.map eStr) (tm2:=[(0,sl 8 (Pack.enc false) a1),(1,sl 1 zD a2),(2,sl 1 zD a3),(7,rr 0 s133.1),(9,.cw 5 x191.length),(10,iv 0),(11,rr 3 s182.2.1),(33,.sub 1 (1:Int).toNat x137.length),(34,iv (x137.length:Int)),(35,iv s182.2.2)]) (hp:=[(0,rE 1 (eSl true 1 eStr) s133.1),(1,rE 1 eStr s133.2),(3,rE 1 eStr s182.2.1)]) (.cons .same (.cons .same (.cons .same (.cons .same (.cons .rf (.cons .same (.cons .same (.cons .same (.cons .same (.cons .same (.nil))))))))))) rfl ?_
    refine zCP [(0,sl 8 (Pack.enc false) a1),(1,sl 1 zD a2),(2,sl 1 zD a3),(7,rr 0 s133.1),(9,.cw 5 x191.length),(10,iv 0),(11,rr 3 s182.2.1),(33,.sub 1 (1:Int).toNat x137.length),(34,iv (x137.length:Int)),(35,iv s182.2.2)] [(0,rE 1 (eSl true 1 eStr) s133.1),(1,rE 1 eStr s133.2),(3,rE 1 eStr s182.2.1),(5,.cow 1 (x191.map eStr) 1 (s133.2.map eStr))] (by kernel_rfl) ?_
    exact yU (J_j (jv195 (x191,s182.2.1))) rfl
   ·refine zA (fun x193 h194=>?_)
    refine J_d 475679335 [] [11,13,47] [(11,rr 5 x193)] [3,5] [(5,rE 1 eStr x193)] (zF 2 (zBg 32 9 1 4 eStr [x184] [0] [(.tmp 53)] [sv x184]) (zF 3 (zDI 32 32 9 9 1 16 5 3 4 eStr (.tmp 52) (.tmp 54) h194) zB)) ?_
    refine vE 2 5 (Nat.le_of_ble_eq_true rfl) (Nat.le_of_ble_eq_true rfl) ?_
    refine vE 2 3 (Nat.le_of_ble_eq_true rfl) (Nat.le_of_ble_eq_true rfl) ?_
    exact yU (J_j (jv195 (s182.1,x193))) rfl
 ·exact yU (hk (s182.1,s182.2.1)) rfl
theorem uG.ok (a1:(List Pack)) (a2:(List Int)) (a3:(List Int)) (q:Wd) (kn:(List (List ByteArray))→Option (D×List Ent)) (hk:∀v:(List (List ByteArray)),J (q.g Tryz.prog 31 0 64) c31 (atI c31 15) (St.mk' [(7,rr 0 v)] [(0,rE 1 (eSl true 1 eStr) v)]) (some v) kn):
  ∀s133:((List (List ByteArray))×(List ByteArray)),J (q.g Tryz.prog 31 0 64) c31 (atI c31 56) (St.mk' [(0,sl 8 (Pack.enc false) a1),(1,sl 1 zD a2),(2,sl 1 zD a3),(7,rr 0 s133.1),(8,rr 1 s133.2)] [(0,rE 1 (eSl true 1 eStr) s133.1),(1,rE 1 eStr s133.2)]) (uG a1 a2 a3 s133) kn:=by
 refine zAQ (fun g ih s133=>?_)
 unfold zAC
 refine J_d 224 [] [21] [(21,bv (decide ((s133.2.length:Int)>0)))] [] [] zB ?_
 refine zG 21 (fun h134=>?_) (fun h134=>?_)
 ·refine zA (fun x135 h136=>?_)
  refine J_d 452 [] [9,21] [(9,.cw 2 x135.length)] [2] [(2,.cow 1 (x135.map eStr) 1 (s133.2.map eStr))] (zF 1 (zKT (k:=1) (kk:=.i64) 32 9 1 1 2 eStr (.tmp 22) h136) zB) ?_
  refine zA (fun x137 h138=>?_)
  refine J_g 906 [] [(0,sl 8 (Pack.enc false) a1),(1,sl 1 zD a2),(2,sl 1 zD a3),(7,rr 0 s133.1),(8,.sub 1 (1:Int).toNat x137.length),(9,.cw 2 x135.length)] [(0,rE 1 (eSl true 1 eStr) s133.1),(1,rE 1 eStr s133.2),(2,.cow 1 (x135.map eStr) 1 (s133.2.map eStr))] (zF 1 (zI6 32 9 1 1 eStr (.tmp 24) (some (.const (.int .i64 1))) none h138) zB) ?_
  refine J_g 3628 [] [(0,sl 8 (Pack.enc false) a1),(1,sl 1 zD a2),(2,sl 1 zD a3),(7,rr 0 s133.1),(8,.sub 1 (1:Int).toNat x137.length),(9,.cw 2 x135.length),(10,iv 0)] [(0,rE 1 (eSl true 1 eStr) s133.1),(1,rE 1 eStr s133.2),(2,.cow 1 (x135.map eStr) 1 (s133.2.map eStr))] zB ?_
  refine J_d 58064 [] [29] [(29,bv (decide (0< (x135.length:Int))))] [] [] (zF 2 (zLl 32 9 2 x135.length (.tmp 27)) zB) ?_
  refine zG 29 (fun h168=>?_) (fun h168=>?_)
  ·refine J_g 232264 [] [(0,sl 8 (Pack.enc false) a1),(1,sl 1 zD a2),(2,sl 1 zD a3),(7,rr 0 s133.1),(8,.sub 1 (1:Int).toNat x137.length),(9,.cw 2 x135.length),(10,iv 0),(11,rr 3 ([]:List ByteArray))] [(0,rE 1 (eSl true 1 eStr) s133.1),(1,rE 1 eStr s133.2),(2,.cow 1 (x135.map eStr) 1 (s133.2.map eStr)),(3,rE 1 eStr ([]:List ByteArray))] (zF 0 (zBg 32 9 1 3 eStr ([]:List ByteArray) [] [] []) zB) ?_
   refine J_d 929060 [] [8,33,34,35] [(33,.sub 1 (1:Int).toNat x137.length),(34,iv (x137.length:Int)),(35,iv 0)] [] [] (zF 1 (zJU 32 9 1 (1:Int).toNat x137.length (.tmp 33)) zB) ?_
   refine zEc (zAe.ok a1 a2 a3 s133 x137 q _ (fun v196=>J_j ?_) (x135,([]:List ByteArray),0))
   refine J_g 464531 [] [(0,sl 8 (Pack.enc false) a1),(1,sl 1 zD a2),(2,sl 1 zD a3),(7,rr 0 s133.1),(8,rr 3 v196.2),(9,.cw 2 v196.1.length),(10,iv 0)] [(0,rE 1 (eSl true 1 eStr) s133.1),(1,rE 1 eStr s133.2),(2,.cow 1 (v196.1.map eStr) 1 (s133.2.map eStr)),(3,rE 1 eStr v196.2)] zB ?_
   refine zCP [(0,sl 8 (Pack.enc false) a1),(1,sl 1 zD a2),(2,sl 1 zD a3),(7,rr 0 s133.1),(8,rr 3 v196.2),(9,.cw 2 v196.1.length),(10,iv 0)] [(2,.cow 1 (v196.1.map eStr) 1 (s133.2.map eStr)),(1,rE 1 eStr s133.2),(0,rE 1 (eSl true 1 eStr) s133.1),(3,rE 1 eStr v196.2)] (by kernel_rfl) ?_
   refine zKZ 2 1 (z:=1) (n:=v196.1.length) (xs:=v196.1.map eStr) (ys:=s133.2.map eStr) (tm2:=[(0,sl 8 (Pack.enc false) a1),(1,sl 1 zD a2),(2,sl 1 zD a3),(7,rr 0 s133.1),(8,rr 3 v196.2),(9,rr 2 v196.1),(10,iv 0)]) (hp:=[(0,rE 1 (eSl true 1 eStr) s133.1),(3,rE 1 eStr v196.2)]) (.cons (.same rfl rfl) (.cons (.same rfl rfl) (.cons (.same rfl rfl) (.cons (.same rfl rfl) (.cons (.same rfl rfl) (.cons (.cw) (.cons (.same rfl rfl) (.nil)))))))) ⟨rfl,rfl⟩ (Nat.le_of_ble_eq_true rfl) (List.length_map _) ?_
   refine zCP [(0,sl 8 (Pack.enc false) a1),(1,sl 1 zD a2),(2,sl 1 zD a3),(7,rr 0 s133.1),(8,rr 3 v196.2),(9,rr 2 v196.1),(10,iv 0)] [(0,rE 1 (eSl true 1 eStr) s133.1),(2,rE 1 eStr v196.1),(3,rE 1 eStr v196.2)] (by kernel_rfl) ?_
   refine J_d 58067 [] [10] [(10,iv (w64 (0+1)))] [] [] zB ?_
   refine zEc (zAn.ok a1 a2 a3 s133 q _ (fun v256=>J_j ?_) (v196.2,v196.1,w64 (0+1)))
   refine zA (fun x257 h258=>?_)
   refine zA (fun x259 h260=>?_)
   refine J_d 1815 [] [7,9] [(7,rr 6 x259)] [0,2,6] [(6,rE 1 (eSl true 1 eStr) x259)] (zF 2 (wT («as»:=[rr 2 v256.2]) [(.tmp 59)] [32] false [(2,rE 1 eStr v256.2)] [2] (.cons (.rf rfl) (.nil)) (wO.ok v256.2) h258 (.own 4)) (zF 3 (zKm (ds:=[rr 4 x257]) (ts:=[4]) 28 32 1 5 (eSl true 1 eStr) [x257] [0] [(.tmp 60)] [rr 4 x257] [(4,rE 1 eStr x257)] (.move (.head _) (List.length_map _) (by decide) (.nil))) (zF 4 (zDI 28 28 32 32 1 24 6 0 5 (eSl true 1 eStr) (.tmp 58) (.tmp 61) h260) zB))) ?_
   refine vE 6 0 (Nat.le_of_ble_eq_true rfl) (Nat.le_of_ble_eq_true rfl) ?_
   refine vE 3 1 (Nat.le_of_ble_eq_true rfl) (Nat.le_of_ble_eq_true rfl) ?_
   exact J_q (J_b (ih (x259,v256.1))) rfl
  ·exact zGT
 ·exact yU (hk s133.1) rfl
theorem zBz.ok (a1:(List Pack)) (a2:(List Int)) (a3:(List Int)):Ok Tryz.prog 31 [sl 8 (Pack.enc false) a1,sl 1 zD a2,sl 1 zD a3] [] ((zBz a1 a2 a3).map fun r=>(so 1 (eSl true 1 eStr) r,[])):=by
 refine zN c31 Tryz.f31 0 64 (fun q=>?_)
 unfold zBz
 refine J_d 2 [] [] [] [] [] zB ?_
 refine zA (fun x4 h5=>?_)
 refine J_d 6 [] [7,8] [(7,rr 0 ([]:List (List ByteArray))),(8,rr 1 x4)] [0,1] [(0,rE 1 (eSl false 1 eStr) ([]:List (List ByteArray))),(1,rE 1 eStr x4)] (zF 0 (zBg 28 32 1 0 (eSl false 1 eStr) ([]:List (List ByteArray)) [] [] []) (zF 4 (wT («as»:=[sl 8 (Pack.enc false) a1,sl 1 zD a2,sl 1 zD a3]) [(.tmp 15),(.tmp 16),(.tmp 17)] [24,25,25] false [] [] (.cons (.same rfl) (.cons (.same rfl) (.cons (.same rfl) (.nil)))) (wX.ok a1 a2 a3) h5 (.own 1)) zB)) ?_
 refine zEc (uG.ok a1 a2 a3 q _ (fun v261=>J_j ?_) (([]:List (List ByteArray)),x4))
 refine J_g 30 [] [(6,rr 0 v261)] [(0,rE 1 (eSl true 1 eStr) v261)] zB ?_
 exact zDx (ds:=[rr 0 v261]) (ds':=[so 1 (eSl true 1 eStr) v261]) (.cons (.cell (.move (.head _) (List.length_map _) (by decide) (.nil))) (.nil) (by decide)) rfl
noncomputable def c9:Code:=(Tryz.f9.body).getD .skip
theorem zB0.ok (a1:(List Pack)) (a2:(List Int)) (a3:(List Int)):Ok Tryz.prog 9 [sl 8 (Pack.enc false) a1,sl 1 zD a2,sl 1 zD a3] [] ((zB0 a1 a2 a3).map fun r=>(.ag (yA.enc true r),[])):=by
 refine zN c9 Tryz.f9 0 21 (fun q=>?_)
 unfold zB0
 refine J_d 2 [(0,0)] [6] [(6,pp 0)] [0] [(0,.box [iv 0,nv])] zB ?_
 refine zA (fun x4 h5=>?_)
 refine J_g 12 [] [(0,sl 8 (Pack.enc false) a1),(1,sl 1 zD a2),(2,sl 1 zD a3),(6,pp 0),(7,iv x4)] [(0,.box [iv 0,nv])] (zF 3 (wW [(.tmp 8),(.tmp 9),(.tmp 10)] [24,25,25] (wG.ok a1 a2 a3) h5) zB) ?_
 refine J_d 26 [] [13] [(13,bv (x4 !=0))] [] [] zB ?_
 refine zG 13 (fun h6=>?_) (fun h6=>?_)
 ·refine J_g 108 [] [(6,pp 0)] [(0,.box [iv x4,nv])] zB ?_
  exact zDx (ds:=[.ag [iv x4,nv]]) (ds':=[.ag [iv x4,so 1 (eSl true 1 eStr) ([]:List (List ByteArray))]]) (.cons (.ag (.keep rfl (.nilsl true 1 (.nil)))) (.nil) (by decide)) rfl
 ·refine zA (fun x7 h8=>?_)
  refine J_g 14 [] [(6,pp 0)] [(0,.box [iv 0,rr 1 x7]),(1,rE 1 (eSl true 1 eStr) x7)] (zF 3 (wT («as»:=[sl 8 (Pack.enc false) a1,sl 1 zD a2,sl 1 zD a3]) [(.tmp 16),(.tmp 17),(.tmp 18)] [24,25,25] false [] [] (.cons (.same rfl) (.cons (.same rfl) (.cons (.same rfl) (.nil)))) (zBz.ok a1 a2 a3) h8 (.own 1)) zB) ?_
  exact zDx (ds:=[.ag [iv 0,rr 1 x7]]) (ds':=[.ag [iv 0,so 1 (eSl true 1 eStr) x7]]) (.cons (.ag (.keep rfl (.move (.tail _ (.head _)) (List.length_map _) (by decide) (.nil)))) (.nil) (by decide)) rfl
noncomputable def c39:Code:=(Tryz.f39.body).getD .skip
theorem tQ.ok (a1:(List Pack)) (a2:(List Int)):Ok Tryz.prog 39 [sl 8 (Pack.enc false) a1,sl 1 zD a2] [] ((tQ a1 a2).map fun r=>(iv r,[])):=by
 refine zN c39 Tryz.f39 0 15 (fun q=>?_)
 unfold tQ
 refine J_d 2 [] [] [] [] [] zB ?_
 refine zA (fun x3 h4=>?_)
 refine J_g 12 [] [(0,sl 8 (Pack.enc false) a1),(1,sl 1 zD a2),(5,iv x3)] [] (zF 1 (wW [(.tmp 6)] [24] (yY.ok a1) h4) zB) ?_
 refine J_d 26 [] [9] [(9,bv (x3 !=0))] [] [] zB ?_
 refine zG 9 (fun h5=>?_) (fun h5=>?_)
 ·refine J_g 108 [] [(4,iv x3)] [] zB ?_
  exact xB rfl
 ·refine zA (fun x6 h7=>?_)
  refine J_g 28 [] [(14,bv (!x6))] [] (zF 2 (wW [(.tmp 11),(.tmp 12)] [24,25] (zBa.ok a1 a2) h7) zB) ?_
  refine zG 14 (fun h8=>?_) (fun h8=>?_)
  ·refine J_g 116 [] [(4,iv 1)] [] zB ?_
   exact xB rfl
  ·refine J_g 30 [] [(4,iv 0)] [] zB ?_
   exact xB rfl
noncomputable def c81:Code:=(Tryz.f81.body).getD .skip
theorem zCt.ok (a1:(List Pack)) (a2:(List Int)) (a3:ByteArray) (q:Wd) (kn:Unit→Option (D×List Ent)) (hk:∀v:Unit,J (q.g Tryz.prog 81 0 28) c81 (atI c81 7) (St.mk' [] []) (some v) kn):
  ∀s12:Int,J (q.g Tryz.prog 81 0 28) c81 (atI c81 52) (St.mk' [(0,sl 8 (Pack.enc false) a1),(1,sl 1 zD a2),(2,sv a3),(7,iv s12)] []) (zCt a1 a2 a3 s12) (Fl.go (fun r:Int=>some (iv r,[])) kn):=by
 refine zAQ (fun g ih s12=>?_)
 unfold zBG
 refine J_d 208 [] [11] [(11,bv (decide (s12< (a2.length:Int))))] [] [] zB ?_
 refine zG 11 (fun h13=>?_) (fun h13=>?_)
 ·refine zA (fun x14 h15=>?_)
  refine zA (fun x16 h17=>?_)
  refine J_d 840 [] [11,23] [(23,bv (seq x16.Name a3))] [] [] (zF 3 (uY (kk:=.i64) 25 2 1 zD (.tmp 15) (.tmp 16) h15) (zF 5 (uY (kk:=.i64) 24 91 8 (Pack.enc false) (.tmp 14) (.tmp 18) h17) zB)) ?_
  refine zG 23 (fun h18=>?_) (fun h18=>?_)
  ·refine zA (fun x19 h20=>?_)
   refine J_g 3364 [] [(6,iv x19)] [] (zF 2 (uY (kk:=.i64) 25 2 1 zD (.tmp 24) (.tmp 25) h20) zB) ?_
   exact xB rfl
  ·refine J_d 211 [] [7,23] [(7,iv (w64 (s12+1)))] [] [] zB ?_
   exact J_q (J_b (ih (w64 (s12+1)))) rfl
 ·exact yU (hk ()) rfl
theorem jJ.ok (a1:(List Pack)) (a2:(List Int)) (a3:ByteArray):Ok Tryz.prog 81 [sl 8 (Pack.enc false) a1,sl 1 zD a2,sv a3] [] ((jJ a1 a2 a3).map fun r=>(iv r,[])):=by
 refine zN c81 Tryz.f81 0 28 (fun q=>?_)
 unfold jJ
 refine J_g 2 [] [(0,sl 8 (Pack.enc false) a1),(1,sl 1 zD a2),(2,sv a3)] [] zB ?_
 refine J_d 12 [] [7] [(7,iv 0)] [] [] zB ?_
 refine jU (K0:=(fun r:Int=>some (iv r,[]))) (fun _=>rfl) (zCt.ok a1 a2 a3 q _ (fun v21=>J_j ?_) 0)
 refine J_g 14 [] [(6,iv (-1))] [] zB ?_
 exact xB rfl
noncomputable def c63:Code:=(Tryz.f63.body).getD .skip
theorem zBk.ok (a1:(List Pack)) (a2:(List Int)) (q:Wd) (kn:Unit→Option (D×List Ent)) (hk:∀v:Unit,J (q.g Tryz.prog 63 0 28) c63 (atI c63 7) (St.mk' [] []) (some v) kn):
  ∀s13:Int,J (q.g Tryz.prog 63 0 28) c63 (atI c63 52) (St.mk' [(0,sl 8 (Pack.enc false) a1),(1,sl 1 zD a2),(5,iv s13)] []) (zBk a1 a2 s13) (Fl.go (fun r:Bool=>some (bv r,[])) kn):=by
 refine zAQ (fun g ih s13=>?_)
 unfold zAT
 refine J_d 208 [] [9] [(9,bv (decide (s13< (a2.length:Int))))] [] [] zB ?_
 refine zG 9 (fun h14=>?_) (fun h14=>?_)
 ·refine zA (fun x15 h16=>?_)
  refine zA (fun x17 h18=>?_)
  refine zA (fun x19 h20=>?_)
  refine zA (fun x21 h22=>?_)
  refine J_d 840 [] [9,27] [(27,bv (x19 !=x21))] [] [] (zF 5 (uY (kk:=.i64) 25 2 1 zD (.tmp 15) (.tmp 16) h16) (zF 7 (uY (kk:=.i64) 24 91 8 (Pack.enc false) (.tmp 14) (.tmp 18) h18) (zF 10 (wW [(.tmp 12),(.tmp 13),(.tmp 21)] [24,25,9] (jJ.ok a1 a2 x17.Name) h20) (zF 13 (uY (kk:=.i64) 25 2 1 zD (.tmp 23) (.tmp 24) h22) zB)))) ?_
  refine zG 27 (fun h23=>?_) (fun h23=>?_)
  ·refine J_g 3364 [] [(4,bv false)] [] zB ?_
   exact xB rfl
  ·refine J_d 211 [] [5,27] [(5,iv (w64 (s13+1)))] [] [] zB ?_
   exact J_q (J_b (ih (w64 (s13+1)))) rfl
 ·exact yU (hk ()) rfl
theorem jA.ok (a1:(List Pack)) (a2:(List Int)):Ok Tryz.prog 63 [sl 8 (Pack.enc false) a1,sl 1 zD a2] [] ((jA a1 a2).map fun r=>(bv r,[])):=by
 refine zN c63 Tryz.f63 0 28 (fun q=>?_)
 unfold jA
 refine J_g 2 [] [(0,sl 8 (Pack.enc false) a1),(1,sl 1 zD a2)] [] zB ?_
 refine J_d 12 [] [5] [(5,iv 0)] [] [] zB ?_
 refine jU (K0:=(fun r:Bool=>some (bv r,[]))) (fun _=>rfl) (zBk.ok a1 a2 q _ (fun v24=>J_j ?_) 0)
 refine J_g 14 [] [(4,bv true)] [] zB ?_
 exact xB rfl
noncomputable def c32:Code:=(Tryz.f32.body).getD .skip
theorem kC.ok (a1:(List Pack)) (a2:(List Int)) (a3:(List Int)):Ok Tryz.prog 32 [sl 8 (Pack.enc false) a1,sl 1 zD a2,sl 1 zD a3] [] ((kC a1 a2 a3).map fun r=>(iv r,[])):=by
 refine zN c32 Tryz.f32 0 31 (fun q=>?_)
 unfold kC
 refine J_d 2 [] [] [] [] [] zB ?_
 refine zA (fun x4 h5=>?_)
 refine J_g 12 [] [(0,sl 8 (Pack.enc false) a1),(1,sl 1 zD a2),(2,sl 1 zD a3),(7,iv x4)] [] (zF 2 (wW [(.tmp 9),(.tmp 10)] [24,25] (tQ.ok a1 a2) h5) zB) ?_
 refine J_d 26 [] [13] [(13,bv (x4 !=0))] [] [] zB ?_
 refine zG 13 (fun h6=>?_) (fun h6=>?_)
 ·refine J_g 108 [] [(6,iv x4)] [] zB ?_
  exact xB rfl
 ·refine zA (fun x7 h8=>?_)
  refine J_g 28 [] [(0,sl 8 (Pack.enc false) a1),(1,sl 1 zD a2),(2,sl 1 zD a3),(8,iv x7)] [] (zF 2 (wW [(.tmp 15),(.tmp 16)] [24,25] (tQ.ok a1 a3) h8) zB) ?_
  refine J_d 58 [] [19] [(19,bv (x7 !=0))] [] [] zB ?_
  refine zG 19 (fun h9=>?_) (fun h9=>?_)
  ·refine J_g 236 [] [(6,iv x7)] [] zB ?_
   exact xB rfl
  ·refine zA (fun x10 h11=>?_)
   refine xH (atI c32 61) (fun v15:Bool=>St.mk' [(30,bv v15)] []) (fun v15=>?_) (fun jv15=>?_)
   ·refine zG 30 (fun h16=>?_) (fun h16=>?_)
    ·refine J_g 244 [] [(6,iv 6)] [] zB ?_
     exact xB rfl
    ·refine J_g 62 [] [(6,iv 0)] [] zB ?_
     exact xB rfl
   ·refine wZ (fun h12=>?_) (fun h12=>?_)
    ·refine J_g 60 [] [(30,bv true)] [] (zF 2 (wW [(.tmp 21),(.tmp 22)] [24,25] (jA.ok a1 a2) h11) (xZ 4 [(24,bv (!x10))] [] h12 zB)) ?_
     exact yU (J_j (jv15 true)) rfl
    ·refine zA (fun x13 h14=>?_)
     refine J_g 60 [] [(30,bv (!x13))] [] (zF 2 (wW [(.tmp 21),(.tmp 22)] [24,25] (jA.ok a1 a2) h11) (xZ 4 [(24,bv (!x10))] [] h12 (zBb 7 4 25 false (wW [(.tmp 26),(.tmp 27)] [24,25] (jA.ok a1 a3) h14) zB))) ?_
     exact yU (J_j (jv15 (!x13))) rfl
noncomputable def c10:Code:=(Tryz.f10.body).getD .skip
theorem zCi.ok (a1:(List Pack)) (a2:(List Int)) (a3:(List Int)):Ok Tryz.prog 10 [sl 8 (Pack.enc false) a1,sl 1 zD a2,sl 1 zD a3] [] ((zCi a1 a2 a3).map fun r=>(.ag (yA.enc true r),[])):=by
 refine zN c10 Tryz.f10 0 21 (fun q=>?_)
 unfold zCi
 refine J_d 2 [(0,0)] [6] [(6,pp 0)] [0] [(0,.box [iv 0,nv])] zB ?_
 refine zA (fun x4 h5=>?_)
 refine J_g 12 [] [(0,sl 8 (Pack.enc false) a1),(1,sl 1 zD a2),(2,sl 1 zD a3),(6,pp 0),(7,iv x4)] [(0,.box [iv 0,nv])] (zF 3 (wW [(.tmp 8),(.tmp 9),(.tmp 10)] [24,25,25] (kC.ok a1 a2 a3) h5) zB) ?_
 refine J_d 26 [] [13] [(13,bv (x4 !=0))] [] [] zB ?_
 refine zG 13 (fun h6=>?_) (fun h6=>?_)
 ·refine J_g 108 [] [(6,pp 0)] [(0,.box [iv x4,nv])] zB ?_
  exact zDx (ds:=[.ag [iv x4,nv]]) (ds':=[.ag [iv x4,so 1 (eSl true 1 eStr) ([]:List (List ByteArray))]]) (.cons (.ag (.keep rfl (.nilsl true 1 (.nil)))) (.nil) (by decide)) rfl
 ·exact zGT
noncomputable def c11:Code:=(Tryz.f11.body).getD .skip
theorem uD.ok (a1:(List Pack)) (a2:(List Int)) (a3:(List Int)):Ok Tryz.prog 11 [sl 8 (Pack.enc false) a1,sl 1 zD a2,sl 1 zD a3] [] ((uD a1 a2 a3).map fun r=>(.ag [iv r.Code,so 1 eStr r.Names],[])):=by
 refine zN c11 Tryz.f11 0 21 (fun q=>?_)
 unfold uD
 refine J_d 2 [(0,0)] [6] [(6,pp 0)] [0] [(0,.box [iv 0,nv])] zB ?_
 refine zA (fun x4 h5=>?_)
 refine J_g 12 [] [(0,sl 8 (Pack.enc false) a1),(1,sl 1 zD a2),(2,sl 1 zD a3),(6,pp 0),(7,iv x4)] [(0,.box [iv 0,nv])] (zF 3 (wW [(.tmp 8),(.tmp 9),(.tmp 10)] [24,25,25] (wG.ok a1 a2 a3) h5) zB) ?_
 refine J_d 26 [] [13] [(13,bv (x4 !=0))] [] [] zB ?_
 refine zG 13 (fun h6=>?_) (fun h6=>?_)
 ·refine J_g 108 [] [(6,pp 0)] [(0,.box [iv x4,nv])] zB ?_
  exact zDx (ds:=[.ag [iv x4,nv]]) (ds':=[.ag [iv x4,so 1 eStr ([]:List ByteArray)]]) (.cons (.ag (.keep rfl (.nilsl true 1 (.nil)))) (.nil) (by decide)) rfl
 ·refine zA (fun x7 h8=>?_)
  refine J_g 14 [] [(6,pp 0)] [(0,.box [iv 0,rr 1 x7]),(1,rE 1 eStr x7)] (zF 3 (wT («as»:=[sl 8 (Pack.enc false) a1,sl 1 zD a2,sl 1 zD a3]) [(.tmp 16),(.tmp 17),(.tmp 18)] [24,25,25] false [] [] (.cons (.same rfl) (.cons (.same rfl) (.cons (.same rfl) (.nil)))) (wX.ok a1 a2 a3) h8 (.own 1)) zB) ?_
  exact zDx (ds:=[.ag [iv 0,rr 1 x7]]) (ds':=[.ag [iv 0,so 1 eStr x7]]) (.cons (.ag (.keep rfl (.move (.tail _ (.head _)) (List.length_map _) (by decide) (.nil)))) (.nil) (by decide)) rfl
noncomputable def c12:Code:=(Tryz.f12.body).getD .skip
theorem zBn.ok (a1:(List ByteArray)) (a2:ByteArray) (q:Wd) (kn:Unit→Option (D×List Ent)) (hk:∀v:Unit,J (q.g Tryz.prog 12 0 18) c12 (atI c12 7) (St.mk' [] []) (some v) kn):
  ∀s7:Int,J (q.g Tryz.prog 12 0 18) c12 (atI c12 52) (St.mk' [(0,sl 1 eStr a1),(1,sv a2),(5,iv s7)] []) (zBn a1 a2 s7) (Fl.go (fun r:Bool=>some (bv r,[])) kn):=by
 refine zAQ (fun g ih s7=>?_)
 unfold zAF
 refine J_d 208 [] [9] [(9,bv (decide (s7< (a1.length:Int))))] [] [] zB ?_
 refine zG 9 (fun h8=>?_) (fun h8=>?_)
 ·refine zA (fun x9 h10=>?_)
  refine J_d 840 [] [9,17] [(17,bv (seq x9 a2))] [] [] (zF 2 (uY (kk:=.i64) 32 9 1 eStr (.tmp 12) (.tmp 13) h10) zB) ?_
  refine zG 17 (fun h11=>?_) (fun h11=>?_)
  ·refine J_g 3364 [] [(4,bv true)] [] zB ?_
   exact xB rfl
  ·refine J_d 211 [] [5,17] [(5,iv (w64 (s7+1)))] [] [] zB ?_
   exact J_q (J_b (ih (w64 (s7+1)))) rfl
 ·exact yU (hk ()) rfl
theorem zBi.ok (a1:(List ByteArray)) (a2:ByteArray):Ok Tryz.prog 12 [sl 1 eStr a1,sv a2] [] ((zBi a1 a2).map fun r=>(bv r,[])):=by
 refine zN c12 Tryz.f12 0 18 (fun q=>?_)
 unfold zBi
 refine J_g 2 [] [(0,sl 1 eStr a1),(1,sv a2)] [] zB ?_
 refine J_d 12 [] [5] [(5,iv 0)] [] [] zB ?_
 refine jU (K0:=(fun r:Bool=>some (bv r,[]))) (fun _=>rfl) (zBn.ok a1 a2 q _ (fun v12=>J_j ?_) 0)
 refine J_g 14 [] [(4,bv false)] [] zB ?_
 exact xB rfl
noncomputable def c13:Code:=(Tryz.f13.body).getD .skip
theorem uV.ok (a1:(List Pack)) (a2:(List Int)) (a3:(List Int)) (a4:ByteArray) (a5:ByteArray):Ok Tryz.prog 13 [sl 8 (Pack.enc false) a1,sl 1 zD a2,sl 1 zD a3,sv a4,sv a5] [] ((uV a1 a2 a3 a4 a5).map fun r=>(bv r,[])):=by
 refine zN c13 Tryz.f13 0 42 (fun q=>?_)
 unfold uV
 refine J_d 2 [] [] [] [] [] zB ?_
 refine zA (fun x6 h7=>?_)
 refine xH (atI c13 13) (fun v9:Bool=>St.mk' [(0,sl 8 (Pack.enc false) a1),(1,sl 1 zD a2),(2,sl 1 zD a3),(3,sv a4),(4,sv a5),(21,bv v9)] []) (fun v9=>?_) (fun jv9=>?_)
 ·refine zG 21 (fun h10=>?_) (fun h10=>?_)
  ·refine J_g 52 [] [(10,bv false)] [] zB ?_
   exact xB rfl
  ·refine zA (fun x11 h12=>?_)
   refine J_d 14 [] [11,21] [(11,rr 0 x11)] [0] [(0,rE 1 eStr x11)] (zF 3 (wT («as»:=[sl 8 (Pack.enc false) a1,sl 1 zD a2,sl 1 zD a3]) [(.tmp 22),(.tmp 23),(.tmp 24)] [24,25,25] false [] [] (.cons (.same rfl) (.cons (.same rfl) (.cons (.same rfl) (.nil)))) (wX.ok a1 a2 a3) h12 (.own 0)) zB) ?_
   refine zA (fun x13 h14=>?_)
   refine wZ (fun h15=>?_) (fun h15=>?_)
   ·refine zA (fun x16 h17=>?_)
    refine wZ (fun h18=>?_) (fun h18=>?_)
    ·refine zA (fun x19 h20=>?_)
     refine J_g 30 [] [(10,bv x19)] [] (zF 2 (wT («as»:=[rr 0 x11,sv a4]) [(.tmp 26),(.tmp 27)] [32,9] true [(0,rE 1 eStr x11)] [] (.cons (zCD (.head _) (fun _=>rfl) rfl) (.cons (.same rfl) (.nil))) (zJ.ok x11 a4) h14 (.same rfl rfl) (hbor:=fun _=>⟨fhN,yT⟩)) (xZ 3 [(28,bv x13)] [] h15 (zBb 6 3 29 true (wT («as»:=[rr 0 x11,sv a5]) [(.tmp 30),(.tmp 31)] [32,9] true [(0,rE 1 eStr x11)] [] (.cons (zCD (.head _) (fun _=>rfl) rfl) (.cons (.same rfl) (.nil))) (zJ.ok x11 a5) h17 (.same rfl rfl) (hbor:=fun _=>⟨fhN,yT⟩)) (xZ 8 [(33,bv x16)] [] h18 (zBb 14 8 34 true (wW [(.tmp 35),(.tmp 36),(.tmp 37),(.tmp 38),(.tmp 39)] [24,25,25,9,9] (yV.ok a1 a2 a3 a4 a5) h20) zB))))) ?_
     exact xB rfl
    ·refine J_g 30 [] [(10,bv false)] [] (zF 2 (wT («as»:=[rr 0 x11,sv a4]) [(.tmp 26),(.tmp 27)] [32,9] true [(0,rE 1 eStr x11)] [] (.cons (zCD (.head _) (fun _=>rfl) rfl) (.cons (.same rfl) (.nil))) (zJ.ok x11 a4) h14 (.same rfl rfl) (hbor:=fun _=>⟨fhN,yT⟩)) (xZ 3 [(28,bv x13)] [] h15 (zBb 6 3 29 true (wT («as»:=[rr 0 x11,sv a5]) [(.tmp 30),(.tmp 31)] [32,9] true [(0,rE 1 eStr x11)] [] (.cons (zCD (.head _) (fun _=>rfl) rfl) (.cons (.same rfl) (.nil))) (zJ.ok x11 a5) h17 (.same rfl rfl) (hbor:=fun _=>⟨fhN,yT⟩)) (xZ 8 [(33,bv x16)] [] h18 zB)))) ?_
     exact xB rfl
   ·refine J_g 30 [] [(10,bv false)] [] (zF 2 (wT («as»:=[rr 0 x11,sv a4]) [(.tmp 26),(.tmp 27)] [32,9] true [(0,rE 1 eStr x11)] [] (.cons (zCD (.head _) (fun _=>rfl) rfl) (.cons (.same rfl) (.nil))) (zJ.ok x11 a4) h14 (.same rfl rfl) (hbor:=fun _=>⟨fhN,yT⟩)) (xZ 3 [(28,bv x13)] [] h15 zB)) ?_
    exact xB rfl
 ·refine wZ (fun h8=>?_) (fun h8=>?_)
  ·refine J_d 12 [] [21] [(21,bv true)] [] [] (zF 3 (wW [(.tmp 12),(.tmp 13),(.tmp 14)] [24,25,25] (wG.ok a1 a2 a3) h7) (xZ 5 [(16,bv (x6 !=0))] [] h8 zB)) ?_
   exact yU (J_j (jv9 true)) rfl
  ·refine J_d 12 [] [21] [(21,bv (seq a4 a5))] [] [] (zF 3 (wW [(.tmp 12),(.tmp 13),(.tmp 14)] [24,25,25] (wG.ok a1 a2 a3) h7) (xZ 5 [(16,bv (x6 !=0))] [] h8 zB)) ?_
   exact yU (J_j (jv9 (seq a4 a5))) rfl
noncomputable def c66:Code:=(Tryz.f66.body).getD .skip
theorem zBH.ok (a1:(List ByteArray)) (a2:ByteArray) (q:Wd) (kn:((List ByteArray)×Bool)→Option (D×List Ent)) (hk:∀v:((List ByteArray)×Bool),J (q.g Tryz.prog 66 1 50) c66 (atI c66 31) (St.mk' [(1,sv a2),(5,rr 1 v.1),(6,bv v.2)] [(0,rE 1 eStr a1),(1,rE 1 eStr v.1)]) (some v) kn):
  ∀s19:((List ByteArray)×Bool×Int),J (q.g Tryz.prog 66 1 50) c66 (atI c66 244) (St.mk' [(0,rr 0 a1),(1,sv a2),(5,rr 1 s19.1),(6,bv s19.2.1),(7,iv s19.2.2)] [(0,rE 1 eStr a1),(1,rE 1 eStr s19.1)]) (zBH a1 a2 s19) (Fl.go (fun r:(List ByteArray)=>some (so 1 eStr r,[])) kn):=by
 refine zAQ (fun g ih s19=>?_)
 unfold zB5
 refine J_d 976 [] [12] [(12,bv (decide (s19.2.2< (a1.length:Int))))] [] [] zB ?_
 refine zG 12 (fun h20=>?_) (fun h20=>?_)
 ·refine zA (fun x21 h22=>?_)
  refine J_d 7824 [] [12,20] [(20,bv (seq x21 a2))] [] [] (zF 2 (zBf (kk:=.i64) 32 9 1 0 eStr (.tmp 15) (.tmp 16) h22) (zF 3 (zAS (d:=sv x21) 9 1 0 0 eStr (.tmp 17) h22 (by kernel_rfl)) zB)) ?_
  refine zG 20 (fun h23=>?_) (fun h23=>?_)
  ·refine J_g 31300 [] [(4,rr 0 a1)] [(0,rE 1 eStr a1)] zB ?_
   exact zDx (ds:=[rr 0 a1]) (ds':=[so 1 eStr a1]) (.cons (.cell (.move (.head _) (List.length_map _) (by decide) (.nil))) (.nil) (by decide)) rfl
  ·refine zA (fun x24 h25=>?_)
   refine xH (atI c66 15653) (fun v27:Bool=>St.mk' [(0,rr 0 a1),(1,sv a2),(5,rr 1 s19.1),(6,bv s19.2.1),(7,iv s19.2.2),(31,bv v27)] [(0,rE 1 eStr a1),(1,rE 1 eStr s19.1)]) (fun v27=>?_) (fun jv27=>?_)
   ·refine xH (atI c66 7827) (fun v31:((List ByteArray)×Bool)=>St.mk' [(0,rr 0 a1),(1,sv a2),(5,rr 3 v31.1),(6,bv v31.2),(7,iv s19.2.2)] [(0,rE 1 eStr a1),(3,rE 1 eStr v31.1)]) (fun v31=>?_) (fun jv31=>?_)
    ·refine zA (fun x32 h33=>?_)
     refine zA (fun x34 h35=>?_)
     refine J_g 7827 [] [(0,rr 0 a1),(1,sv a2),(5,rr 5 x34),(6,bv v31.2),(7,iv s19.2.2)] [(0,rE 1 eStr a1),(5,rE 1 eStr x34)] (zF 3 (zBf (kk:=.i64) 32 9 1 0 eStr (.tmp 37) (.tmp 38) h33) (zF 4 (zAS (d:=sv x32) 9 1 0 0 eStr (.tmp 39) h33 (by kernel_rfl)) (zF 5 (zBg 32 9 1 4 eStr [x32] [0] [(.tmp 40)] [sv x32]) (zF 6 (zDI 32 32 9 9 1 16 5 3 4 eStr (.tmp 36) (.tmp 41) h35) zB)))) ?_
     refine J_d 979 [] [7] [(7,iv (w64 (s19.2.2+1)))] [] [] zB ?_
     refine vE 5 1 (Nat.le_of_ble_eq_true rfl) (Nat.le_of_ble_eq_true rfl) ?_
     exact J_q (J_b (ih (x34,v31.2,w64 (s19.2.2+1)))) rfl
    ·refine zG 31 (fun h28=>?_) (fun h28=>?_)
     ·refine zA (fun x29 h30=>?_)
      refine J_g 62612 [] [(0,rr 0 a1),(1,sv a2),(5,rr 3 x29),(7,iv s19.2.2)] [(0,rE 1 eStr a1),(3,rE 1 eStr x29)] (zF 2 (zBg 32 9 1 2 eStr [a2] [0] [(.tmp 33)] [sv a2]) (zF 3 (zDI 32 32 9 9 1 16 3 1 2 eStr (.tmp 32) (.tmp 34) h30) zB)) ?_
      refine J_d 62613 [] [6] [(6,bv true)] [] [] zB ?_
      exact yU (J_j (jv31 (x29,true))) rfl
     ·refine vE 1 3 (Nat.le_of_ble_eq_true rfl) (Nat.le_of_ble_eq_true rfl) ?_
      exact yU (J_j (jv31 (s19.1,s19.2.1))) rfl
   ·refine wZ (fun h26=>?_) (fun h26=>?_)
    ·refine J_d 15652 [] [20,31] [(31,bv (!s19.2.1))] [] [] (zF 2 (zBf (kk:=.i64) 32 9 1 0 eStr (.tmp 22) (.tmp 23) h25) (zF 3 (zAS (d:=sv x24) 9 1 0 0 eStr (.tmp 24) h25 (by kernel_rfl)) (xZ 6 [(27,bv (!(slt x24 a2||seq x24 a2)))] [] h26 zB))) ?_
     exact yU (J_j (jv27 (!s19.2.1))) rfl
    ·refine J_d 15652 [] [20,31] [(31,bv false)] [] [] (zF 2 (zBf (kk:=.i64) 32 9 1 0 eStr (.tmp 22) (.tmp 23) h25) (zF 3 (zAS (d:=sv x24) 9 1 0 0 eStr (.tmp 24) h25 (by kernel_rfl)) (xZ 6 [(27,bv (!(slt x24 a2||seq x24 a2)))] [] h26 zB))) ?_
     exact yU (J_j (jv27 false)) rfl
 ·exact yU (hk (s19.1,s19.2.1)) rfl
theorem tC.ok (a1:(List ByteArray)) (a2:ByteArray):Ok Tryz.prog 66 [rr 0 a1,sv a2] [rE 1 eStr a1] ((tC a1 a2).map fun r=>(so 1 eStr r,[])):=by
 refine zN c66 Tryz.f66 1 50 (fun q=>?_)
 unfold tC
 refine J_g 2 [] [(0,rr 0 a1),(1,sv a2)] [(0,rE 1 eStr a1)] zB ?_
 refine J_g 6 [] [(0,rr 0 a1),(1,sv a2),(5,rr 1 ([]:List ByteArray))] [(0,rE 1 eStr a1),(1,rE 1 eStr ([]:List ByteArray))] (zF 0 (zBg 32 9 1 1 eStr ([]:List ByteArray) [] [] []) zB) ?_
 refine J_g 14 [] [(0,rr 0 a1),(1,sv a2),(5,rr 1 ([]:List ByteArray)),(6,bv false)] [(0,rE 1 eStr a1),(1,rE 1 eStr ([]:List ByteArray))] zB ?_
 refine J_d 60 [] [7] [(7,iv 0)] [] [] zB ?_
 refine jU (K0:=(fun r:(List ByteArray)=>some (so 1 eStr r,[]))) (fun _=>rfl) (zBH.ok a1 a2 q _ (fun v36=>J_j ?_) (([]:List ByteArray),false,0))
 refine J_d 124 [] [6,44] [(44,bv (!v36.2))] [] [] zB ?_
 refine xH (atI c66 63) (fun v40:(List ByteArray)=>St.mk' [(5,rr 3 v40)] [(0,rE 1 eStr a1),(3,rE 1 eStr v40)]) (fun v40=>?_) (fun jv40=>?_)
 ·refine J_g 126 [] [(4,rr 3 v40)] [(0,rE 1 eStr a1),(3,rE 1 eStr v40)] zB ?_
  exact zDx (ds:=[rr 3 v40]) (ds':=[so 1 eStr v40]) (.cons (.cell (.move (.tail _ (.head _)) (List.length_map _) (by decide) (.nil))) (.nil) (by decide)) rfl
 ·refine zG 44 (fun h37=>?_) (fun h37=>?_)
  ·refine zA (fun x38 h39=>?_)
   refine J_g 250 [] [(5,rr 3 x38)] [(0,rE 1 eStr a1),(3,rE 1 eStr x38)] (zF 2 (zBg 32 9 1 2 eStr [a2] [0] [(.tmp 46)] [sv a2]) (zF 3 (zDI 32 32 9 9 1 16 3 1 2 eStr (.tmp 45) (.tmp 47) h39) zB)) ?_
   exact yU (J_j (jv40 x38)) rfl
  ·refine vE 1 3 (Nat.le_of_ble_eq_true rfl) (Nat.le_of_ble_eq_true rfl) ?_
   exact yU (J_j (jv40 v36.1)) rfl
noncomputable def c37:Code:=(Tryz.f37.body).getD .skip
theorem zAv.ok (a1:(List Pack)) (a2:(List Int)) (a3:(List Int)) (q:Wd) (kn:(List ByteArray)→Option (D×List Ent)) (hk:∀v:(List ByteArray),J (q.g Tryz.prog 37 0 35) c37 (atI c37 15) (St.mk' [(7,rr 0 v)] [(0,rE 1 eStr v)]) (some v) kn):
  ∀s15:((List ByteArray)×Int),J (q.g Tryz.prog 37 0 35) c37 (atI c37 116) (St.mk' [(0,sl 8 (Pack.enc false) a1),(1,sl 1 zD a2),(2,sl 1 zD a3),(7,rr 0 s15.1),(8,iv s15.2)] [(0,rE 1 eStr s15.1)]) (zAv a1 a2 a3 s15) kn:=by
 refine zAQ (fun g ih s15=>?_)
 unfold kP
 refine J_d 464 [] [14] [(14,bv (decide (s15.2< (a1.length:Int))))] [] [] zB ?_
 refine zG 14 (fun h16=>?_) (fun h16=>?_)
 ·refine zA (fun x17 h18=>?_)
  refine J_d 1864 [] [9,14] [(9,sv x17.Name)] [] [] (zF 2 (uY (kk:=.i64) 24 91 8 (Pack.enc false) (.tmp 17) (.tmp 18) h18) zB) ?_
  refine zA (fun x19 h20=>?_)
  refine zA (fun x21 h22=>?_)
  refine J_d 3730 [] [30] [(30,bv (x19 !=x21))] [] [] (zF 3 (wW [(.tmp 22),(.tmp 23),(.tmp 24)] [24,25,9] (jJ.ok a1 a2 x17.Name) h20) (zF 7 (wW [(.tmp 26),(.tmp 27),(.tmp 28)] [24,25,9] (jJ.ok a1 a3 x17.Name) h22) zB)) ?_
  refine xH (aft c37 932) (fun v26:(List ByteArray)=>St.mk' [(0,sl 8 (Pack.enc false) a1),(1,sl 1 zD a2),(2,sl 1 zD a3),(7,rr 1 v26),(8,iv s15.2)] [(1,rE 1 eStr v26)]) (fun v26=>?_) (fun jv26=>?_)
  ·refine J_d 467 [] [8] [(8,iv (w64 (s15.2+1)))] [] [] zB ?_
   refine vE 1 0 (Nat.le_of_ble_eq_true rfl) (Nat.le_of_ble_eq_true rfl) ?_
   exact J_q (J_b (ih (v26,w64 (s15.2+1)))) rfl
  ·refine zG 30 (fun h23=>?_) (fun h23=>?_)
   ·refine zA (fun x24 h25=>?_)
    refine J_d 7462 [] [7,9,30] [(7,rr 1 x24)] [0,1] [(1,rE 1 eStr x24)] (zF 2 (wT («as»:=[rr 0 s15.1,sv x17.Name]) [(.tmp 31),(.tmp 32)] [32,9] false [(0,rE 1 eStr s15.1)] [0] (.cons (.rf rfl) (.cons (.same rfl) (.nil))) (tC.ok s15.1 x17.Name) h25 (.own 1)) zB) ?_
    exact yU (J_j (jv26 x24)) rfl
   ·refine vE 0 1 (Nat.le_of_ble_eq_true rfl) (Nat.le_of_ble_eq_true rfl) ?_
    exact yU (J_j (jv26 s15.1)) rfl
 ·exact yU (hk s15.1) rfl
theorem uE.ok (a1:(List Pack)) (a2:(List Int)) (a3:(List Int)):Ok Tryz.prog 37 [sl 8 (Pack.enc false) a1,sl 1 zD a2,sl 1 zD a3] [] ((uE a1 a2 a3).map fun r=>(so 1 eStr r,[])):=by
 refine zN c37 Tryz.f37 0 35 (fun q=>?_)
 unfold uE
 refine J_g 2 [] [(0,sl 8 (Pack.enc false) a1),(1,sl 1 zD a2),(2,sl 1 zD a3)] [] zB ?_
 refine J_g 6 [] [(0,sl 8 (Pack.enc false) a1),(1,sl 1 zD a2),(2,sl 1 zD a3),(7,rr 0 ([]:List ByteArray))] [(0,rE 1 eStr ([]:List ByteArray))] (zF 0 (zBg 32 9 1 0 eStr ([]:List ByteArray) [] [] []) zB) ?_
 refine J_d 28 [] [8] [(8,iv 0)] [] [] zB ?_
 refine zEc (zAv.ok a1 a2 a3 q _ (fun v27=>J_j ?_) (([]:List ByteArray),0))
 refine J_g 30 [] [(6,rr 0 v27)] [(0,rE 1 eStr v27)] zB ?_
 exact zDx (ds:=[rr 0 v27]) (ds':=[so 1 eStr v27]) (.cons (.cell (.move (.head _) (List.length_map _) (by decide) (.nil))) (.nil) (by decide)) rfl
noncomputable def c14:Code:=(Tryz.f14.body).getD .skip
theorem vV.ok (a1:(List Pack)) (a2:(List Int)) (a3:(List Int)):Ok Tryz.prog 14 [sl 8 (Pack.enc false) a1,sl 1 zD a2,sl 1 zD a3] [] ((vV a1 a2 a3).map fun r=>(.ag [iv r.Code,so 1 eStr r.Names],[])):=by
 refine zN c14 Tryz.f14 0 21 (fun q=>?_)
 unfold vV
 refine J_d 2 [(0,0)] [6] [(6,pp 0)] [0] [(0,.box [iv 0,nv])] zB ?_
 refine zA (fun x4 h5=>?_)
 refine J_g 12 [] [(0,sl 8 (Pack.enc false) a1),(1,sl 1 zD a2),(2,sl 1 zD a3),(6,pp 0),(7,iv x4)] [(0,.box [iv 0,nv])] (zF 3 (wW [(.tmp 8),(.tmp 9),(.tmp 10)] [24,25,25] (kC.ok a1 a2 a3) h5) zB) ?_
 refine J_d 26 [] [13] [(13,bv (x4 !=0))] [] [] zB ?_
 refine zG 13 (fun h6=>?_) (fun h6=>?_)
 ·refine J_g 108 [] [(6,pp 0)] [(0,.box [iv x4,nv])] zB ?_
  exact zDx (ds:=[.ag [iv x4,nv]]) (ds':=[.ag [iv x4,so 1 eStr ([]:List ByteArray)]]) (.cons (.ag (.keep rfl (.nilsl true 1 (.nil)))) (.nil) (by decide)) rfl
 ·refine zA (fun x7 h8=>?_)
  refine J_g 14 [] [(6,pp 0)] [(0,.box [iv 0,rr 1 x7]),(1,rE 1 eStr x7)] (zF 3 (wT («as»:=[sl 8 (Pack.enc false) a1,sl 1 zD a2,sl 1 zD a3]) [(.tmp 16),(.tmp 17),(.tmp 18)] [24,25,25] false [] [] (.cons (.same rfl) (.cons (.same rfl) (.cons (.same rfl) (.nil)))) (uE.ok a1 a2 a3) h8 (.own 1)) zB) ?_
  exact zDx (ds:=[.ag [iv 0,rr 1 x7]]) (ds':=[.ag [iv 0,so 1 eStr x7]]) (.cons (.ag (.keep rfl (.move (.tail _ (.head _)) (List.length_map _) (by decide) (.nil)))) (.nil) (by decide)) rfl
noncomputable def c3:Code:=(Tryz.f3.body).getD .skip
theorem zAg.ok (x5:((List Pack)×(List Int)×(List Int))) (x7:yA) (x12:yE) (s394:(Int×Int)) (x396:(List ByteArray)) (s472:Int) (s514:Int) (q:Wd) (kn:Unit→Option (D×List Ent)) (hk:∀v:Unit,J (q.g Tryz.prog 3 0 127) c3 (aft c3 535376484) (St.mk' [(3,rr 0 x5.1),(4,rr 1 x5.2.1),(5,rr 2 x5.2.2),(6,pp 4),(7,iv (w64 (s394.1+(x396.length:Int)))),(8,rr 5 x12.Names),(9,iv s394.2),(10,iv s472),(11,iv s514)] [(0,rE 8 (Pack.enc false) x5.1),(1,rE 1 zD x5.2.1),(2,rE 1 zD x5.2.2),(3,rE 1 (eSl false 1 eStr) x7.Parts),(4,.box [iv x7.Code,rr 3 x7.Parts]),(5,rE 1 eStr x12.Names)]) (some v) kn):
  ∀s530:Int,J (q.g Tryz.prog 3 0 127) c3 (atI c3 4283011876) (St.mk' [(3,rr 0 x5.1),(4,rr 1 x5.2.1),(5,rr 2 x5.2.2),(6,pp 4),(7,iv (w64 (s394.1+(x396.length:Int)))),(8,rr 5 x12.Names),(9,iv s394.2),(10,iv s472),(11,iv s514),(12,iv s530)] [(0,rE 8 (Pack.enc false) x5.1),(1,rE 1 zD x5.2.1),(2,rE 1 zD x5.2.2),(3,rE 1 (eSl false 1 eStr) x7.Parts),(4,.box [iv x7.Code,rr 3 x7.Parts]),(5,rE 1 eStr x12.Names)]) (zAg x5 x7 x12 s394 x396 s472 s514 s530) (Fl.go (fun r:Bool=>some (bv r,[])) kn):=by
 refine zAQ (fun g ih s530=>?_)
 unfold zCa
 refine zA (fun x531 h532=>?_)
 refine J_d 17132047504 [] [89] [(89,bv (decide (s530< (x531.length:Int))))] [] [] (zF 4 (zBf (kk:=.i64) 28 32 1 3 (eSl false 1 eStr) (.tmp 84) (.tmp 85) h532) (zF 5 (zAS (d:=sl 1 eStr x531) 32 1 3 0 (eSl false 1 eStr) (.tmp 86) h532 (by kernel_rfl)) zB)) ?_
 refine zG 89 (fun h533=>?_) (fun h533=>?_)
 ·refine zA (fun x534 h535=>?_)
  refine zA (fun x536 h537=>?_)
  refine zA (fun x538 h539=>?_)
  refine zA (fun x540 h541=>?_)
  refine zA (fun x542 h543=>?_)
  refine J_d 68528190024 [] [89,111] [(111,bv x542)] [] [] (zF 6 (zBf (kk:=.i64) 28 32 1 3 (eSl false 1 eStr) (.tmp 96) (.tmp 97) h535) (zF 7 (zAS (d:=sl 1 eStr x534) 32 1 3 0 (eSl false 1 eStr) (.tmp 98) h535 (by kernel_rfl)) (zF 9 (uY (kk:=.i64) 32 9 1 eStr (.tmp 99) (.tmp 100) h537) (zF 14 (zBf (kk:=.i64) 28 32 1 3 (eSl false 1 eStr) (.tmp 104) (.tmp 105) h539) (zF 15 (zAS (d:=sl 1 eStr x538) 32 1 3 0 (eSl false 1 eStr) (.tmp 106) h539 (by kernel_rfl)) (zF 17 (uY (kk:=.i64) 32 9 1 eStr (.tmp 107) (.tmp 108) h541) (zF 19 (wT («as»:=[rr 0 x5.1,rr 1 x5.2.1,rr 2 x5.2.2,sv x536,sv x540]) [(.tmp 92),(.tmp 93),(.tmp 94),(.tmp 102),(.tmp 110)] [24,25,25,9,9] true [(0,rE 8 (Pack.enc false) x5.1),(1,rE 1 zD x5.2.1),(2,rE 1 zD x5.2.2)] [] (.cons (zCD (.head _) (Pack.ro false) rfl) (.cons (zCD (.tail _ (.head _)) (fun _=>rfl) rfl) (.cons (zCD (.tail _ (.tail _ (.head _))) (fun _=>rfl) rfl) (.cons (.same rfl) (.cons (.same rfl) (.nil)))))) (uV.ok x5.1 x5.2.1 x5.2.2 x536 x540) h543 (.same rfl rfl) (hbor:=fun _=>⟨fhN,yT⟩)) zB))))))) ?_
  refine zG 111 (fun h544=>?_) (fun h544=>?_)
  ·refine J_g 274112760100 [] [(2,bv false)] [] zB ?_
   exact xB rfl
  ·refine J_d 17132047507 [] [12,111] [(12,iv (w64 (s530+1)))] [] [] zB ?_
   exact J_q (J_b (ih (w64 (s530+1)))) rfl
 ·exact yU (hk ()) rfl
theorem zAo.ok (x5:((List Pack)×(List Int)×(List Int))) (x7:yA) (x12:yE) (s394:(Int×Int)) (x396:(List ByteArray)) (s472:Int) (q:Wd) (kn:Unit→Option (D×List Ent)) (hk:∀v:Unit,J (q.g Tryz.prog 3 0 127) c3 (aft c3 4182628) (St.mk' [(3,rr 0 x5.1),(4,rr 1 x5.2.1),(5,rr 2 x5.2.2),(6,pp 4),(7,iv (w64 (s394.1+(x396.length:Int)))),(8,rr 5 x12.Names),(9,iv s394.2),(10,iv s472)] [(0,rE 8 (Pack.enc false) x5.1),(1,rE 1 zD x5.2.1),(2,rE 1 zD x5.2.2),(3,rE 1 (eSl false 1 eStr) x7.Parts),(4,.box [iv x7.Code,rr 3 x7.Parts]),(5,rE 1 eStr x12.Names)]) (some v) kn):
  ∀s514:Int,J (q.g Tryz.prog 3 0 127) c3 (atI c3 66922060) (St.mk' [(3,rr 0 x5.1),(4,rr 1 x5.2.1),(5,rr 2 x5.2.2),(6,pp 4),(7,iv (w64 (s394.1+(x396.length:Int)))),(8,rr 5 x12.Names),(9,iv s394.2),(10,iv s472),(11,iv s514)] [(0,rE 8 (Pack.enc false) x5.1),(1,rE 1 zD x5.2.1),(2,rE 1 zD x5.2.2),(3,rE 1 (eSl false 1 eStr) x7.Parts),(4,.box [iv x7.Code,rr 3 x7.Parts]),(5,rE 1 eStr x12.Names)]) (zAo x5 x7 x12 s394 x396 s472 s514) (Fl.go (fun r:Bool=>some (bv r,[])) kn):=by
 refine zAQ (fun g ih s514=>?_)
 unfold zBT
 refine J_d 267688240 [] [79] [(79,bv (decide (s514<s394.2)))] [] [] zB ?_
 refine zG 79 (fun h515=>?_) (fun h515=>?_)
 ·refine J_d 1070752968 [] [12,79] [(12,iv 0)] [] [] zB ?_
  refine jU (K0:=(fun r:Bool=>some (bv r,[]))) (fun _=>rfl) (zAg.ok x5 x7 x12 s394 x396 s472 s514 q _ (fun v545=>J_j ?_) 0)
  refine J_d 267688243 [] [11] [(11,iv (w64 (s514+1)))] [] [] zB ?_
  exact J_q (J_b (ih (w64 (s514+1)))) rfl
 ·exact yU (hk ()) rfl
theorem zAf.ok (x5:((List Pack)×(List Int)×(List Int))) (x7:yA) (x12:yE) (s394:(Int×Int)) (x396:(List ByteArray)) (q:Wd) (kn:Unit→Option (D×List Ent)) (hk:∀v:Unit,J (q.g Tryz.prog 3 0 127) c3 (aft c3 32676) (St.mk' [(3,rr 0 x5.1),(4,rr 1 x5.2.1),(5,rr 2 x5.2.2),(6,pp 4),(7,iv (w64 (s394.1+(x396.length:Int)))),(8,rr 5 x12.Names),(9,iv s394.2)] [(0,rE 8 (Pack.enc false) x5.1),(1,rE 1 zD x5.2.1),(2,rE 1 zD x5.2.2),(3,rE 1 (eSl false 1 eStr) x7.Parts),(4,.box [iv x7.Code,rr 3 x7.Parts]),(5,rE 1 eStr x12.Names)]) (some v) kn):
  ∀s472:Int,J (q.g Tryz.prog 3 0 127) c3 (atI c3 522828) (St.mk' [(3,rr 0 x5.1),(4,rr 1 x5.2.1),(5,rr 2 x5.2.2),(6,pp 4),(7,iv (w64 (s394.1+(x396.length:Int)))),(8,rr 5 x12.Names),(9,iv s394.2),(10,iv s472)] [(0,rE 8 (Pack.enc false) x5.1),(1,rE 1 zD x5.2.1),(2,rE 1 zD x5.2.2),(3,rE 1 (eSl false 1 eStr) x7.Parts),(4,.box [iv x7.Code,rr 3 x7.Parts]),(5,rE 1 eStr x12.Names)]) (zAf x5 x7 x12 s394 x396 s472) (Fl.go (fun r:Bool=>some (bv r,[])) kn):=by
 refine zAQ (fun g ih s472=>?_)
 unfold zBQ
 refine zA (fun x473 h474=>?_)
 refine J_d 2091312 [] [63] [(63,bv (decide (s472< (x473.length:Int))))] [] [] (zF 4 (zBf (kk:=.i64) 28 32 1 3 (eSl false 1 eStr) (.tmp 58) (.tmp 59) h474) (zF 5 (zAS (d:=sl 1 eStr x473) 32 1 3 0 (eSl false 1 eStr) (.tmp 60) h474 (by kernel_rfl)) zB)) ?_
 refine zG 63 (fun h475=>?_) (fun h475=>?_)
 ·refine zA (fun x476 h477=>?_)
  refine zA (fun x478 h479=>?_)
  refine zA (fun x480 h481=>?_)
  refine J_d 16730512 [] [63,76] [(76,bv (!x480))] [] [] (zF 4 (zBf (kk:=.i64) 28 32 1 3 (eSl false 1 eStr) (.tmp 68) (.tmp 69) h477) (zF 5 (zAS (d:=sl 1 eStr x476) 32 1 3 0 (eSl false 1 eStr) (.tmp 70) h477 (by kernel_rfl)) (zF 7 (uY (kk:=.i64) 32 9 1 eStr (.tmp 71) (.tmp 72) h479) (zF 9 (wT («as»:=[rr 5 x12.Names,sv x478]) [(.tmp 66),(.tmp 74)] [32,9] true [(5,rE 1 eStr x12.Names)] [] (.cons (zCD (.head _) (fun _=>rfl) rfl) (.cons (.same rfl) (.nil))) (zBi.ok x12.Names x478) h481 (.same rfl rfl) (hbor:=fun _=>⟨fhN,yT⟩)) zB)))) ?_
  refine zG 76 (fun h482=>?_) (fun h482=>?_)
  ·refine J_g 66922052 [] [(2,bv false)] [] zB ?_
   exact xB rfl
  ·refine J_d 16730514 [] [11,76] [(11,iv 0)] [] [] zB ?_
   refine jU (K0:=(fun r:Bool=>some (bv r,[]))) (fun _=>rfl) (zAo.ok x5 x7 x12 s394 x396 s472 q _ (fun v546=>J_j ?_) 0)
   refine J_d 2091315 [] [10] [(10,iv (w64 (s472+1)))] [] [] zB ?_
   exact J_q (J_b (ih (w64 (s472+1)))) rfl
 ·exact yU (hk ()) rfl
theorem zBx.ok (x5:((List Pack)×(List Int)×(List Int))) (x7:yA) (x12:yE) (q:Wd) (kn:Int→Option (D×List Ent)) (hk:∀v:Int,J (q.g Tryz.prog 3 0 127) c3 (atI c3 511) (St.mk' [(3,rr 0 x5.1),(4,rr 1 x5.2.1),(5,rr 2 x5.2.2),(7,iv v),(8,rr 5 x12.Names)] [(0,rE 8 (Pack.enc false) x5.1),(1,rE 1 zD x5.2.1),(2,rE 1 zD x5.2.2),(5,rE 1 eStr x12.Names)]) (some v) kn):
  ∀s394:(Int×Int),J (q.g Tryz.prog 3 0 127) c3 (atI c3 4084) (St.mk' [(3,rr 0 x5.1),(4,rr 1 x5.2.1),(5,rr 2 x5.2.2),(6,pp 4),(7,iv s394.1),(8,rr 5 x12.Names),(9,iv s394.2)] [(0,rE 8 (Pack.enc false) x5.1),(1,rE 1 zD x5.2.1),(2,rE 1 zD x5.2.2),(3,rE 1 (eSl false 1 eStr) x7.Parts),(4,.box [iv x7.Code,rr 3 x7.Parts]),(5,rE 1 eStr x12.Names)]) (zBx x5 x7 x12 s394) (Fl.go (fun r:Bool=>some (bv r,[])) kn):=by
 refine zAQ (fun g ih s394=>?_)
 unfold zAX
 refine J_d 16336 [] [45] [(45,bv (decide (s394.2< (x7.Parts.length:Int))))] [] [] zB ?_
 refine zG 45 (fun h395=>?_) (fun h395=>?_)
 ·refine zA (fun x396 h397=>?_)
  refine J_g 65352 [] [(3,rr 0 x5.1),(4,rr 1 x5.2.1),(5,rr 2 x5.2.2),(6,pp 4),(7,iv (w64 (s394.1+(x396.length:Int)))),(8,rr 5 x12.Names),(9,iv s394.2)] [(0,rE 8 (Pack.enc false) x5.1),(1,rE 1 zD x5.2.1),(2,rE 1 zD x5.2.2),(3,rE 1 (eSl false 1 eStr) x7.Parts),(4,.box [iv x7.Code,rr 3 x7.Parts]),(5,rE 1 eStr x12.Names)] (zF 4 (zBf (kk:=.i64) 28 32 1 3 (eSl false 1 eStr) (.tmp 50) (.tmp 51) h397) (zF 5 (zAS (d:=sl 1 eStr x396) 32 1 3 0 (eSl false 1 eStr) (.tmp 52) h397 (by kernel_rfl)) zB)) ?_
  refine J_d 130706 [] [10] [(10,iv 0)] [] [] zB ?_
  refine jU (K0:=(fun r:Bool=>some (bv r,[]))) (fun _=>rfl) (zAf.ok x5 x7 x12 s394 x396 q _ (fun v547=>J_j ?_) 0)
  refine J_d 16339 [] [9] [(9,iv (w64 (s394.2+1)))] [] [] zB ?_
  exact J_q (J_b (ih (w64 (s394.1+(x396.length:Int)),w64 (s394.2+1)))) rfl
 ·exact yU (hk s394.1) rfl
theorem zAz.ok (a1:(List Int)):Ok Tryz.prog 3 [sl 1 eU8 a1] [] ((zAz a1).map fun r=>(bv r,[])):=by
 refine zN c3 Tryz.f3 0 127 (fun q=>?_)
 unfold zAz
 refine J_g 2 [] [(0,sl 1 eU8 a1)] [] zB ?_
 refine zA (fun x2 h3=>?_)
 refine J_g 12 [] [(0,sl 1 eU8 a1),(14,bv x2)] [] (zF 1 (wW [(.tmp 13)] [22] (zCg.ok a1) h3) zB) ?_
 refine zG 14 (fun h4=>?_) (fun h4=>?_)
 ·refine J_g 52 [] [(2,bv true)] [] zB ?_
  exact xB rfl
 ·refine zA (fun x5 h6=>?_)
  refine J_g 14 [] [(3,rr 0 x5.1),(4,rr 1 x5.2.1),(5,rr 2 x5.2.2)] [(0,rE 8 (Pack.enc false) x5.1),(1,rE 1 zD x5.2.1),(2,rE 1 zD x5.2.2)] (zF 1 (wT («as»:=[sl 1 eU8 a1]) [(.tmp 16)] [22] false [] [] (.cons (.same rfl) (.nil)) (uX.ok a1) h6 (.tu (.cons (.own 0) (.cons (.own 1) (.cons (.own 2) (.nil)))))) zB) ?_
  refine zA (fun x7 h8=>?_)
  refine J_g 30 [(4,4)] [(3,rr 0 x5.1),(4,rr 1 x5.2.1),(5,rr 2 x5.2.2),(6,pp 4)] [(0,rE 8 (Pack.enc false) x5.1),(1,rE 1 zD x5.2.1),(2,rE 1 zD x5.2.2),(3,rE 1 (eSl true 1 eStr) x7.Parts),(4,.box [iv x7.Code,rr 3 x7.Parts])] (zF 3 (wT («as»:=[rr 0 x5.1,rr 1 x5.2.1,rr 2 x5.2.2]) [(.tmp 21),(.tmp 22),(.tmp 23)] [24,25,25] true [(0,rE 8 (Pack.enc false) x5.1),(1,rE 1 zD x5.2.1),(2,rE 1 zD x5.2.2)] [] (.cons (zCD (.head _) (Pack.ro false) rfl) (.cons (zCD (.tail _ (.head _)) (fun _=>rfl) rfl) (.cons (zCD (.tail _ (.tail _ (.head _))) (fun _=>rfl) rfl) (.nil)))) (zB0.ok x5.1 x5.2.1 x5.2.2) h8 (.ag (.cons (.same rfl rfl) (.cons (.own 3) (.nil)))) (hbor:=fun _=>⟨fhN,(zFk (yA.fl _))⟩)) zB) ?_
  refine J_d 124 [] [27] [(27,bv (x7.Code !=0))] [] [] zB ?_
  refine zG 27 (fun h9=>?_) (fun h9=>?_)
  ·refine zA (fun x10 h11=>?_)
   refine J_g 500 [] [(2,bv (x10.Code==x7.Code))] [] (zF 3 (wT («as»:=[rr 0 x5.1,rr 1 x5.2.1,rr 2 x5.2.2]) [(.tmp 28),(.tmp 29),(.tmp 30)] [24,25,25] true [(0,rE 8 (Pack.enc false) x5.1),(1,rE 1 zD x5.2.1),(2,rE 1 zD x5.2.2)] [] (.cons (zCD (.head _) (Pack.ro false) rfl) (.cons (zCD (.tail _ (.head _)) (fun _=>rfl) rfl) (.cons (zCD (.tail _ (.tail _ (.head _))) (fun _=>rfl) rfl) (.nil)))) (zCi.ok x5.1 x5.2.1 x5.2.2) h11 (.ag (.cons (.same rfl rfl) (.cons (.own 5) (.nil)))) (hbor:=fun _=>⟨fhN,(zFk (yA.fl _))⟩)) zB) ?_
   exact xB rfl
  ·refine J_d 126 [] [7,27] [(7,iv 0)] [] [] zB ?_
   refine zA (fun x12 h13=>?_)
   refine J_g 254 [] [(3,rr 0 x5.1),(4,rr 1 x5.2.1),(5,rr 2 x5.2.2),(6,pp 4),(7,iv 0),(8,rr 5 x12.Names)] [(0,rE 8 (Pack.enc false) x5.1),(1,rE 1 zD x5.2.1),(2,rE 1 zD x5.2.2),(3,rE 1 (eSl true 1 eStr) x7.Parts),(4,.box [iv x7.Code,rr 3 x7.Parts]),(5,rE 1 eStr x12.Names)] (zF 3 (wT («as»:=[rr 0 x5.1,rr 1 x5.2.1,rr 2 x5.2.2]) [(.tmp 36),(.tmp 37),(.tmp 38)] [24,25,25] true [(0,rE 8 (Pack.enc false) x5.1),(1,rE 1 zD x5.2.1),(2,rE 1 zD x5.2.2)] [] (.cons (zCD (.head _) (Pack.ro false) rfl) (.cons (zCD (.tail _ (.head _)) (fun _=>rfl) rfl) (.cons (zCD (.tail _ (.tail _ (.head _))) (fun _=>rfl) rfl) (.nil)))) (uD.ok x5.1 x5.2.1 x5.2.2) h13 (.ag (.cons (.same rfl rfl) (.cons (.own 5) (.nil)))) (hbor:=fun _=>⟨fhN,(zFk (yE.fl _))⟩)) zB) ?_
   refine J_d 1020 [] [9] [(9,iv 0)] [] [] zB ?_
   refine zCP [(3,rr 0 x5.1),(4,rr 1 x5.2.1),(5,rr 2 x5.2.2),(6,pp 4),(7,iv 0),(8,rr 5 x12.Names),(9,iv 0)] [(3,rE 1 (eSl true 1 eStr) x7.Parts),(0,rE 8 (Pack.enc false) x5.1),(1,rE 1 zD x5.2.1),(2,rE 1 zD x5.2.2),(4,.box [iv x7.Code,rr 3 x7.Parts]),(5,rE 1 eStr x12.Names)] (by kernel_rfl) ?_
   refine zDS 3 (uZ (enc:=(eSl true 1 eStr)) (enc':=(eSl false 1 eStr)) (zCB (fun _=>rfl)) _) ?_
   refine zCP [(3,rr 0 x5.1),(4,rr 1 x5.2.1),(5,rr 2 x5.2.2),(6,pp 4),(7,iv 0),(8,rr 5 x12.Names),(9,iv 0)] [(0,rE 8 (Pack.enc false) x5.1),(1,rE 1 zD x5.2.1),(2,rE 1 zD x5.2.2),(3,rE 1 (eSl false 1 eStr) x7.Parts),(4,.box [iv x7.Code,rr 3 x7.Parts]),(5,rE 1 eStr x12.Names)] (by kernel_rfl) ?_
   refine jU (K0:=(fun r:Bool=>some (bv r,[]))) (fun _=>rfl) (zBx.ok x5 x7 x12 q _ (fun v548=>J_j ?_) (0,0))
   refine wZ (fun h549=>?_) (fun h549=>?_)
   ·refine zA (fun x550 h551=>?_)
    refine J_g 1022 [] [(2,bv ((x12.Names.length:Int)==(x550.Names.length:Int)))] [] (xZ 4 [(115,bv (v548==(x12.Names.length:Int)))] [] h549 (zBb 10 4 116 true (wT («as»:=[rr 0 x5.1,rr 1 x5.2.1,rr 2 x5.2.2]) [(.tmp 119),(.tmp 120),(.tmp 121)] [24,25,25] true [(0,rE 8 (Pack.enc false) x5.1),(1,rE 1 zD x5.2.1),(2,rE 1 zD x5.2.2)] [] (.cons (zCD (.head _) (Pack.ro false) rfl) (.cons (zCD (.tail _ (.head _)) (fun _=>rfl) rfl) (.cons (zCD (.tail _ (.tail _ (.head _))) (fun _=>rfl) rfl) (.nil)))) (vV.ok x5.1 x5.2.1 x5.2.2) h551 (.ag (.cons (.same rfl rfl) (.cons (.own 6) (.nil)))) (hbor:=fun _=>⟨fhN,(zFk (yE.fl _))⟩)) zB)) ?_
    exact xB rfl
   ·refine J_g 1022 [] [(2,bv false)] [] (xZ 4 [(115,bv (v548==(x12.Names.length:Int)))] [] h549 zB) ?_
    exact xB rfl
end Go.Told

import Derived.Test.YtdeihchdibglaaaGreatOkFnPlansx1
set_option linter.unusedVariables false
set_option maxRecDepth 4000
namespace Go.Told
open Go Go.Im Go.Proofs
noncomputable def zMQ:Code:=(Tryz.f121.body).getD .skip
theorem wJ.ok (a1:(List Pack)) (a2:ByteArray) (a3:Version) (q:Wd) (kn:Unit→Option (D×List Ent)) (hk:∀v:Unit,J (q.g Tryz.prog 121 2 19) zMQ (atI zMQ 7) (St.mk' [] [(0,.box [sv a2]),(1,.box (Version.enc a3))]) (some v) kn):
  ∀s10:Int,J (q.g Tryz.prog 121 2 19) zMQ (atI zMQ 52) (St.mk' [(0,sl 8 (Pack.enc false) a1),(1,.fn 166 [pp 0,pp 1]),(7,iv (a1.length:Int)),(8,iv s10)] [(0,.box [sv a2]),(1,.box (Version.enc a3))]) (wJ a1 a2 a3 s10) (Fl.go (fun r:Int=>some (iv r,[.box [sv a2],.box (Version.enc a3)])) kn):=by
 refine zAC (fun g ih s10=>?_)
 unfold wF
 refine J_d 104 [] [9] [(9,bv (decide (s10< (a1.length:Int))))] [] [] zB ?_
 refine zG 9 (fun h11=>?_) (fun h11=>?_)
 ·refine J_d 1688 [] [5,9] [(5,iv s10)] [] [] zB ?_
  refine zA (fun x12 h13=>?_)
  refine zA (fun x14 h15=>?_)
  refine J_d 3378 [] [16] [(16,bv x14)] [] [] (zF 3 (kD (kk:=.i64) 24 91 8 (Pack.enc false) (.tmp 12) (.tmp 13) h13) (zF 5 (zE6 [(0,.box [sv a2]),(1,.box (Version.enc a3))] [] (zEr 11 [(.tmp 15)] [91] false [(0,.box [sv a2]),(1,.box (Version.enc a3))] [0,1] [.ag (Pack.enc false x12)] [pp 0,pp 1] (.cons (.same rfl) (.cons (.pt rfl) (.cons (.pt rfl) (.nil)))) (zEb.ok x12 a2 a3) h15 (.same rfl rfl))) zB)) ?_
  refine zG 16 (fun h16=>?_) (fun h16=>?_)
  ·refine J_d 13516 [] [0,1,4,5,7,8,16] [(4,iv s10)] [] [] zB ?_
   exact xJ rfl
  ·refine J_d 423 [] [5,8,16] [(8,iv (w64 (s10+1)))] [] [] zB ?_
   exact J_q (J_b (ih (w64 (s10+1)))) rfl
 ·exact xA (hk ()) rfl
theorem xW.ok (a1:(List Pack)) (a2:ByteArray) (a3:Version):Ok Tryz.prog 121 [sl 8 (Pack.enc false) a1,.fn 166 [pp 0,pp 1]] [.box [sv a2],.box (Version.enc a3)] ((xW a1 a2 a3).map fun r=>(iv r,[.box [sv a2],.box (Version.enc a3)])):=by
 refine zJ zMQ Tryz.f121 2 19 (fun q=>?_)
 unfold xW
 refine J_g 2 [] [(0,sl 8 (Pack.enc false) a1),(1,.fn 166 [pp 0,pp 1])] [(0,.box [sv a2]),(1,.box (Version.enc a3))] zB ?_
 refine J_d 12 [] [7,8] [(7,iv (a1.length:Int)),(8,iv 0)] [] [] zB ?_
 refine jW (K0:=(fun r:Int=>some (iv r,[.box [sv a2],.box (Version.enc a3)]))) (fun _=>rfl) (wJ.ok a1 a2 a3 q _ (fun v17=>J_j ?_) 0)
 refine J_d 14 [] [4] [(4,iv (-1))] [] [] zB ?_
 exact xJ rfl
noncomputable def zQf:Code:=(Tryz.f128.body).getD .skip
theorem zEm.ok (a1:(List Pack)) (a2:ByteArray) (a3:Version):Ok Tryz.prog 128 [sl 8 (Pack.enc false) a1,sv a2,.ag (Version.enc a3)] [] ((zEm a1 a2 a3).map fun r=>(iv r,[])):=by
 refine zJ zQf Tryz.f128 0 10 (fun q=>?_)
 unfold zEm
 refine J_d 2 [(0,0),(1,1)] [1,2,4,5] [(4,pp 0),(5,pp 1)] [0,1] [(0,.box [sv a2]),(1,.box (Version.enc a3))] zB ?_
 refine zA (fun x4 h5=>?_)
 refine J_g 6 [] [(6,iv x4)] [] (zF 2 (zE6 [(0,.box [sv a2]),(1,.box (Version.enc a3))] [] (vJ («as»:=[sl 8 (Pack.enc false) a1,.fn 166 [pp 0,pp 1]]) [(.tmp 7),(.tmp 8)] [24,100] false [(0,.box [sv a2]),(1,.box (Version.enc a3))] [0,1] (.cons (.same rfl) (.cons (.fn (.cons (.pt rfl) (.cons (.pt rfl) (.nil)))) (.nil))) (xW.ok a1 a2 a3) h5 (.same rfl rfl))) zB) ?_
 exact xJ rfl
noncomputable def c84:Code:=(Tryz.f84.body).getD .skip
theorem zAf.ok (a1:(List Pack)) (q:Wd) (kn:Unit→Option (D×List Ent)) (hk:∀v:Unit,J (q.g Tryz.prog 84 0 31) c84 (atI c84 15) (St.mk' [] []) (some v) kn):
  ∀s14:Int,J (q.g Tryz.prog 84 0 31) c84 (atI c84 116) (St.mk' [(0,sl 8 (Pack.enc false) a1),(9,sl 8 (Pack.enc false) a1),(10,iv (a1.length:Int)),(11,iv s14)] []) (zAf a1 s14) (Fl.go (fun r:Int=>some (iv r,[])) kn):=by
 refine zAC (fun g ih s14=>?_)
 unfold kQ
 refine J_d 232 [] [12] [(12,bv (decide (s14< (a1.length:Int))))] [] [] zB ?_
 refine zG 12 (fun h15=>?_) (fun h15=>?_)
 ·refine zA (fun x16 h17=>?_)
  refine J_d 3736 [(3,0)] [3,4,12] [(3,iv s14),(4,pp 0)] [0] [(0,.box (Pack.enc false x16))] (zF 1 (kD (kk:=.i64) 24 91 8 (Pack.enc false) (.tmp 9) (.tmp 11) h17) zB) ?_
  refine zA (fun x18 h19=>?_)
  refine J_g 14948 [] [(0,sl 8 (Pack.enc false) a1),(3,iv s14),(4,pp 0),(5,iv x18),(9,sl 8 (Pack.enc false) a1),(10,iv (a1.length:Int)),(11,iv s14)] [(0,.box (Pack.enc false x16))] (zF 1 (vZ [(.tmp 16)] [91] (zBp.ok x16) h19) zB) ?_
  refine J_d 29898 [] [19] [(19,bv (x18 !=0))] [] [] zB ?_
  refine zG 19 (fun h20=>?_) (fun h20=>?_)
  ·refine J_g 119596 [] [(2,iv x18)] [] zB ?_
   exact xJ rfl
  ·refine zA (fun x21 h22=>?_)
   refine zA (fun x23 h24=>?_)
   refine J_d 14950 [] [3,4,5,19,29] [(29,bv (decide (x23≥0)))] [0] [] (zF 2 (zNA 24 91 8 (Pack.enc false) (.tmp 21) none (some (.tmp 22)) h22) (zF 7 (vZ [(.tmp 23),(.tmp 25),(.tmp 27)] [24,9,88] (zEm.ok x21 x16.Name x16.Version) h24) zB)) ?_
   refine zG 29 (fun h25=>?_) (fun h25=>?_)
   ·refine J_g 59804 [] [(2,iv 6)] [] zB ?_
    exact xJ rfl
   ·refine J_d 935 [] [11,29] [(11,iv (w64 (s14+1)))] [] [] zB ?_
    exact J_q (J_b (ih (w64 (s14+1)))) rfl
 ·exact xA (hk ()) rfl
theorem jY.ok (a1:(List Pack)):Ok Tryz.prog 84 [sl 8 (Pack.enc false) a1] [] ((jY a1).map fun r=>(iv r,[])):=by
 refine zJ c84 Tryz.f84 0 31 (fun q=>?_)
 unfold jY
 refine J_g 2 [] [(0,sl 8 (Pack.enc false) a1)] [] zB ?_
 refine J_d 12 [] [8] [(8,bv (decide ((a1.length:Int)>24)))] [] [] zB ?_
 refine zG 8 (fun h2=>?_) (fun h2=>?_)
 ·refine J_g 52 [] [(2,iv 2)] [] zB ?_
  exact xJ rfl
 ·refine J_d 28 [] [8,9,10,11] [(9,sl 8 (Pack.enc false) a1),(10,iv (a1.length:Int)),(11,iv 0)] [] [] zB ?_
  refine jW (K0:=(fun r:Int=>some (iv r,[]))) (fun _=>rfl) (zAf.ok a1 q _ (fun v26=>J_j ?_) 0)
  refine J_g 30 [] [(2,iv 0)] [] zB ?_
  exact xJ rfl
noncomputable def c130:Code:=(Tryz.f130.body).getD .skip
theorem zAG.ok (a1:Int) (a2:(List Pack)):Ok Tryz.prog 130 [iv a1,pp 0] [.box [sl 8 (Pack.enc false) a2]] ((zAG a1 a2).map fun r=>(bv r,[.box [sl 8 (Pack.enc false) a2]])):=by
 refine zJ c130 Tryz.f130 1 10 (fun q=>?_)
 unfold zAG
 refine J_d 2 [] [] [] [] [] zB ?_
 refine zA (fun x3 h4=>?_)
 refine J_d 6 [] [0,1,3] [(3,bv (!x3))] [] [] (zF 4 (vZ [(.tmp 4),(.const (.int .i64 0)),(.tmp 7)] [2,2,2] (uG.ok a1 0 (w64 ((a2.length:Int)-1))) h4) zB) ?_
 exact xJ rfl
noncomputable def c167:Code:=(Tryz.f167.body).getD .skip
theorem wB.ok (a1:(List Int)) (a2:(List Pack)) (q:Wd) (kn:Unit→Option (D×List Ent)) (hk:∀v:Unit,J (q.g Tryz.prog 167 1 19) c167 (atI c167 7) (St.mk' [] [(0,.box [sl 8 (Pack.enc false) a2])]) (some v) kn):
  ∀s9:Int,J (q.g Tryz.prog 167 1 19) c167 (atI c167 52) (St.mk' [(0,sl 1 zC a1),(1,.fn 130 [pp 0]),(7,iv (a1.length:Int)),(8,iv s9)] [(0,.box [sl 8 (Pack.enc false) a2])]) (wB a1 a2 s9) (Fl.go (fun r:Int=>some (iv r,[.box [sl 8 (Pack.enc false) a2]])) kn):=by
 refine zAC (fun g ih s9=>?_)
 unfold xV
 refine J_d 104 [] [9] [(9,bv (decide (s9< (a1.length:Int))))] [] [] zB ?_
 refine zG 9 (fun h10=>?_) (fun h10=>?_)
 ·refine J_d 1688 [] [5,9] [(5,iv s9)] [] [] zB ?_
  refine zA (fun x11 h12=>?_)
  refine zA (fun x13 h14=>?_)
  refine J_d 3378 [] [16] [(16,bv x13)] [] [] (zF 3 (kD (kk:=.i64) 25 2 1 zC (.tmp 12) (.tmp 13) h12) (zF 5 (zE6 [(0,.box [sl 8 (Pack.enc false) a2])] [] (zEr 11 [(.tmp 15)] [2] false [(0,.box [sl 8 (Pack.enc false) a2])] [0] [iv x11] [pp 0] (.cons (.same rfl) (.cons (.pt rfl) (.nil))) (zAG.ok x11 a2) h14 (.same rfl rfl))) zB)) ?_
  refine zG 16 (fun h15=>?_) (fun h15=>?_)
  ·refine J_g 13516 [] [(4,iv s9)] [(0,.box [sl 8 (Pack.enc false) a2])] zB ?_
   exact xJ rfl
  ·refine J_d 423 [] [5,8,16] [(8,iv (w64 (s9+1)))] [] [] zB ?_
   exact J_q (J_b (ih (w64 (s9+1)))) rfl
 ·exact xA (hk ()) rfl
theorem xI.ok (a1:(List Int)) (a2:(List Pack)):Ok Tryz.prog 167 [sl 1 zC a1,.fn 130 [pp 0]] [.box [sl 8 (Pack.enc false) a2]] ((xI a1 a2).map fun r=>(iv r,[.box [sl 8 (Pack.enc false) a2]])):=by
 refine zJ c167 Tryz.f167 1 19 (fun q=>?_)
 unfold xI
 refine J_g 2 [] [(0,sl 1 zC a1),(1,.fn 130 [pp 0])] [(0,.box [sl 8 (Pack.enc false) a2])] zB ?_
 refine J_d 12 [] [7,8] [(7,iv (a1.length:Int)),(8,iv 0)] [] [] zB ?_
 refine jW (K0:=(fun r:Int=>some (iv r,[.box [sl 8 (Pack.enc false) a2]]))) (fun _=>rfl) (wB.ok a1 a2 q _ (fun v16=>J_j ?_) 0)
 refine J_d 14 [] [4] [(4,iv (-1))] [] [] zB ?_
 exact xJ rfl
noncomputable def zPK:Code:=(Tryz.f129.body).getD .skip
theorem yT.ok (a1:(List Int)) (a2:(List Pack)):Ok Tryz.prog 129 [sl 1 zC a1,.fn 130 [pp 0]] [.box [sl 8 (Pack.enc false) a2]] ((yT a1 a2).map fun r=>(bv r,[.box [sl 8 (Pack.enc false) a2]])):=by
 refine zJ zPK Tryz.f129 1 9 (fun q=>?_)
 unfold yT
 refine J_d 2 [] [] [] [] [] zB ?_
 refine zA (fun x3 h4=>?_)
 refine J_d 6 [] [0,1,4] [(4,bv (decide (x3≥0)))] [] [] (zF 2 (zE6 [(0,.box [sl 8 (Pack.enc false) a2])] [] (vJ («as»:=[sl 1 zC a1,.fn 130 [pp 0]]) [(.tmp 5),(.tmp 6)] [25,110] false [(0,.box [sl 8 (Pack.enc false) a2])] [0] (.cons (.same rfl) (.cons (.fn (.cons (.pt rfl) (.nil))) (.nil))) (xI.ok a1 a2) h4 (.same rfl rfl))) zB) ?_
 exact xJ rfl
noncomputable def c85:Code:=(Tryz.f85.body).getD .skip
theorem zBu.ok (a1:(List Pack)) (a2:(List Int)):Ok Tryz.prog 85 [sl 8 (Pack.enc false) a1,sl 1 zC a2] [] ((zBu a1 a2).map fun r=>(bv r,[])):=by
 refine zJ c85 Tryz.f85 0 9 (fun q=>?_)
 unfold zBu
 refine J_g 2 [(0,0)] [(1,sl 1 zC a2),(2,pp 0)] [(0,.box [sl 8 (Pack.enc false) a1])] zB ?_
 refine zA (fun x3 h4=>?_)
 refine J_g 6 [] [(4,bv (!x3))] [] (zF 2 (zE6 [(0,.box [sl 8 (Pack.enc false) a1])] [] (vJ («as»:=[sl 1 zC a2,.fn 130 [pp 0]]) [(.tmp 5),(.tmp 6)] [25,110] false [(0,.box [sl 8 (Pack.enc false) a1])] [0] (.cons (.same rfl) (.cons (.fn (.cons (.pt rfl) (.nil))) (.nil))) (yT.ok a2 a1) h4 (.same rfl rfl))) zB) ?_
 exact xJ rfl
noncomputable def c41:Code:=(Tryz.f41.body).getD .skip
theorem zAI.ok (a1:(List Pack)) (a2:(List Int)) (q:Wd) (kn:Unit→Option (D×List Ent)) (hk:∀v:Unit,J (q.g Tryz.prog 41 0 32) c41 (atI c41 15) (St.mk' [(0,sl 8 (Pack.enc false) a1),(1,sl 1 zC a2)] []) (some v) kn):
  ∀s12:Int,J (q.g Tryz.prog 41 0 32) c41 (atI c41 116) (St.mk' [(0,sl 8 (Pack.enc false) a1),(1,sl 1 zC a2),(6,iv s12)] []) (zAI a1 a2 s12) (Fl.go (fun r:Int=>some (iv r,[])) kn):=by
 refine zAC (fun g ih s12=>?_)
 unfold tV
 refine J_d 464 [] [15] [(15,bv (decide (s12< (a2.length:Int))))] [] [] zB ?_
 refine zG 15 (fun h13=>?_) (fun h13=>?_)
 ·refine zA (fun x14 h15=>?_)
  refine zA (fun x16 h17=>?_)
  refine J_d 1864 [] [15,27] [(27,bv (decide (x14≤x16)))] [] [] (zF 2 (kD (kk:=.i64) 25 2 1 zC (.tmp 18) (.tmp 19) h15) (zF 7 (kD (kk:=.i64) 25 2 1 zC (.tmp 22) (.tmp 24) h17) zB)) ?_
  refine zG 27 (fun h18=>?_) (fun h18=>?_)
  ·refine J_g 7460 [] [(4,iv 1)] [] zB ?_
   exact xJ rfl
  ·refine J_d 467 [] [6,27] [(6,iv (w64 (s12+1)))] [] [] zB ?_
   exact J_q (J_b (ih (w64 (s12+1)))) rfl
 ·exact xA (hk ()) rfl
theorem xS.ok (a1:(List Pack)) (a2:(List Int)):Ok Tryz.prog 41 [sl 8 (Pack.enc false) a1,sl 1 zC a2] [] ((xS a1 a2).map fun r=>(iv r,[])):=by
 refine zJ c41 Tryz.f41 0 32 (fun q=>?_)
 unfold xS
 refine J_d 2 [] [] [] [] [] zB ?_
 refine zA (fun x3 h4=>?_)
 refine J_g 12 [] [(0,sl 8 (Pack.enc false) a1),(1,sl 1 zC a2),(5,iv x3)] [] (zF 1 (vZ [(.tmp 7)] [24] (jY.ok a1) h4) zB) ?_
 refine J_d 26 [] [10] [(10,bv (x3 !=0))] [] [] zB ?_
 refine zG 10 (fun h5=>?_) (fun h5=>?_)
 ·refine J_g 108 [] [(4,iv x3)] [] zB ?_
  exact xJ rfl
 ·refine J_d 28 [] [5,6,10] [(6,iv 1)] [] [] zB ?_
  refine jW (K0:=(fun r:Int=>some (iv r,[]))) (fun _=>rfl) (zAI.ok a1 a2 q _ (fun v19=>J_j ?_) 1)
  refine zA (fun x20 h21=>?_)
  refine J_g 60 [] [(31,bv (!x20))] [] (zF 2 (vZ [(.tmp 28),(.tmp 29)] [24,25] (zBu.ok a1 a2) h21) zB) ?_
  refine zG 31 (fun h22=>?_) (fun h22=>?_)
  ·refine J_g 244 [] [(4,iv 1)] [] zB ?_
   exact xJ rfl
  ·refine J_g 62 [] [(4,iv 0)] [] zB ?_
   exact xJ rfl
noncomputable def c68:Code:=(Tryz.f68.body).getD .skip
theorem zDc.ok (a1:(List Pack)) (a2:(List Int)) (a3:ByteArray) (q:Wd) (kn:Unit→Option (D×List Ent)) (hk:∀v:Unit,J (q.g Tryz.prog 68 0 24) c68 (atI c68 7) (St.mk' [] []) (some v) kn):
  ∀s10:Int,J (q.g Tryz.prog 68 0 24) c68 (atI c68 52) (St.mk' [(0,sl 8 (Pack.enc false) a1),(2,sv a3),(9,sl 1 zC a2),(10,iv (a2.length:Int)),(11,iv s10)] []) (zDc a1 a2 a3 s10) (Fl.go (fun r:Int=>some (iv r,[])) kn):=by
 refine zAC (fun g ih s10=>?_)
 unfold zAl
 refine J_d 104 [] [12] [(12,bv (decide (s10< (a2.length:Int))))] [] [] zB ?_
 refine zG 12 (fun h11=>?_) (fun h11=>?_)
 ·refine zA (fun x12 h13=>?_)
  refine J_d 1688 [] [8,12] [(8,iv x12)] [] [] (zF 0 (kD (kk:=.i64) 25 2 1 zC (.tmp 9) (.tmp 11) h13) zB) ?_
  refine zA (fun x14 h15=>?_)
  refine J_d 3378 [] [21] [(21,bv (seq x14.Name a3))] [] [] (zF 2 (kD (kk:=.i64) 24 91 8 (Pack.enc false) (.tmp 15) (.tmp 16) h15) zB) ?_
  refine zG 21 (fun h16=>?_) (fun h16=>?_)
  ·refine J_g 13516 [] [(6,iv x12)] [] zB ?_
   exact xJ rfl
  ·refine J_d 423 [] [8,11,21] [(11,iv (w64 (s10+1)))] [] [] zB ?_
   exact J_q (J_b (ih (w64 (s10+1)))) rfl
 ·exact xA (hk ()) rfl
theorem uP.ok (a1:(List Pack)) (a2:(List Int)) (a3:ByteArray):Ok Tryz.prog 68 [sl 8 (Pack.enc false) a1,sl 1 zC a2,sv a3] [] ((uP a1 a2 a3).map fun r=>(iv r,[])):=by
 refine zJ c68 Tryz.f68 0 24 (fun q=>?_)
 unfold uP
 refine J_g 2 [] [(0,sl 8 (Pack.enc false) a1),(1,sl 1 zC a2),(2,sv a3)] [] zB ?_
 refine J_d 12 [] [1,9,10,11] [(9,sl 1 zC a2),(10,iv (a2.length:Int)),(11,iv 0)] [] [] zB ?_
 refine jW (K0:=(fun r:Int=>some (iv r,[]))) (fun _=>rfl) (zDc.ok a1 a2 a3 q _ (fun v17=>J_j ?_) 0)
 refine J_g 14 [] [(6,iv (-1))] [] zB ?_
 exact xJ rfl
noncomputable def c168:Code:=(Tryz.f168.body).getD .skip
theorem zBG.ok (a1:Pack):Ok Tryz.prog 168 [.ag (Pack.enc false a1)] [] ((zBG a1).map fun r=>(so 1 eStr r,[])):=by
 refine zJ c168 Tryz.f168 0 9 (fun q=>?_)
 unfold zBG
 refine J_g 2 [(0,0)] [(1,pp 0)] [(0,.box (Pack.enc false a1))] zB ?_
 refine zA (fun x2 h3=>?_)
 refine J_g 6 [] [(2,rr 2 x2)] [(2,rE 1 eStr x2)] (zF 2 (zBw 32 9 1 1 eStr [a1.Name] [0] [(.tmp 4)] [sv a1.Name]) (zF 5 (zJC 32 32 9 9 1 16 2 1 eStr (.tmp 5) (.tmp 7) h3) zB)) ?_
 exact zDZ (ds:=[rr 2 x2]) (ds':=[so 1 eStr x2]) (.cons (.cell (.move (.head _) (List.length_map _) (by decide) (.nil))) (.nil) (by decide)) rfl
noncomputable def zQx:Code:=(Tryz.f170.body).getD .skip
theorem zBZ.ok (a1:Term) (a2:ByteArray) (a3:Version):Ok Tryz.prog 170 [.ag (Term.enc a1),sv a2,.ag (Version.enc a3)] [] ((zBZ a1 a2 a3).map fun r=>(bv r,[])):=by
 refine zJ zQx Tryz.f170 0 25 (fun q=>?_)
 unfold zBZ
 refine J_g 2 [(0,0),(1,1)] [(1,sv a2),(3,pp 0),(5,pp 1)] [(0,.box (Term.enc a1)),(1,.box (Version.enc a3))] zB ?_
 refine uN (fun h4=>?_) (fun h4=>?_)
 ·refine zA (fun x5 h6=>?_)
  refine uN (fun h7=>?_) (fun h7=>?_)
  ·refine zA (fun x8 h9=>?_)
   refine J_g 6 [] [(6,bv (decide (x8<0)))] [] (vV 4 [(10,bv (seq a1.Name a2))] [] h4 (zAR 8 4 11 true (vZ [(.tmp 13),(.tmp 14)] [88,88] (jU.ok a1.Low a3) h6) (vV 11 [(17,bv (decide (x5≤0)))] [] h7 (zAR 15 11 18 true (vZ [(.tmp 19),(.tmp 21)] [88,88] (jU.ok a3 a1.High) h9) zB)))) ?_
   exact xJ rfl
  ·refine J_g 6 [] [(6,bv false)] [] (vV 4 [(10,bv (seq a1.Name a2))] [] h4 (zAR 8 4 11 true (vZ [(.tmp 13),(.tmp 14)] [88,88] (jU.ok a1.Low a3) h6) (vV 11 [(17,bv (decide (x5≤0)))] [] h7 zB))) ?_
   exact xJ rfl
 ·refine J_g 6 [] [(6,bv false)] [] (vV 4 [(10,bv (seq a1.Name a2))] [] h4 zB) ?_
  exact xJ rfl
noncomputable def zQ8:Code:=(Tryz.f169.body).getD .skip
theorem zAp.ok (a1:ByteArray) (a2:Term) (a3:Pack):Ok Tryz.prog 169 [sv a1,pp 0,pp 1] [.box (Term.enc a2),.box (Pack.enc false a3)] ((zAp a1 a2 a3).map fun r=>(bv r,[.box (Term.enc a2),.box (Pack.enc false a3)])):=by
 refine zJ zQ8 Tryz.f169 2 10 (fun q=>?_)
 unfold zAp
 refine J_d 2 [] [] [] [] [] zB ?_
 refine zA (fun x4 h5=>?_)
 refine J_d 6 [] [0,1,2,4] [(4,bv x4)] [] [] (zF 4 (vZ [(.tmp 5),(.tmp 6),(.tmp 8)] [104,9,88] (zBZ.ok a2 a1 a3.Version) h5) zB) ?_
 exact xJ rfl
noncomputable def zKc:Code:=(Tryz.f122.body).getD .skip
theorem xM.ok (a1:(List ByteArray)) (a2:Term) (a3:Pack) (q:Wd) (kn:Unit→Option (D×List Ent)) (hk:∀v:Unit,J (q.g Tryz.prog 122 3 19) zKc (atI zKc 7) (St.mk' [] [(0,rE 1 eStr a1),(1,.box (Term.enc a2)),(2,.box (Pack.enc false a3))]) (some v) kn):
  ∀s10:Int,J (q.g Tryz.prog 122 3 19) zKc (atI zKc 52) (St.mk' [(0,rr 0 a1),(1,.fn 169 [pp 1,pp 2]),(7,iv (a1.length:Int)),(8,iv s10)] [(0,rE 1 eStr a1),(1,.box (Term.enc a2)),(2,.box (Pack.enc false a3))]) (xM a1 a2 a3 s10) (Fl.go (fun r:Int=>some (iv r,[rE 1 eStr a1,.box (Term.enc a2),.box (Pack.enc false a3)])) kn):=by
 refine zAC (fun g ih s10=>?_)
 unfold xC
 refine J_d 104 [] [9] [(9,bv (decide (s10< (a1.length:Int))))] [] [] zB ?_
 refine zG 9 (fun h11=>?_) (fun h11=>?_)
 ·refine J_d 1688 [] [5,9] [(5,iv s10)] [] [] zB ?_
  refine zA (fun x12 h13=>?_)
  refine zA (fun x14 h15=>?_)
  refine J_d 3378 [] [16] [(16,bv x14)] [] [] (zF 3 (zB5 (kk:=.i64) 32 9 1 0 eStr (.tmp 12) (.tmp 13) h13) (zF 4 (zBU (d:=sv x12) 9 1 0 0 eStr (.tmp 14) h13 (by kernel_rfl)) (zF 5 (zE6 [(1,.box (Term.enc a2)),(2,.box (Pack.enc false a3))] [] (zEr 11 [(.tmp 15)] [9] false [(1,.box (Term.enc a2)),(2,.box (Pack.enc false a3))] [1,2] [sv x12] [pp 1,pp 2] (.cons (.same rfl) (.cons (.pt rfl) (.cons (.pt rfl) (.nil)))) (zAp.ok x12 a2 a3) h15 (.same rfl rfl))) zB))) ?_
  refine zG 16 (fun h16=>?_) (fun h16=>?_)
  ·refine J_d 13516 [] [0,1,4,5,7,8,16] [(4,iv s10)] [] [] zB ?_
   exact xJ rfl
  ·refine J_d 423 [] [5,8,16] [(8,iv (w64 (s10+1)))] [] [] zB ?_
   exact J_q (J_b (ih (w64 (s10+1)))) rfl
 ·exact xA (hk ()) rfl
theorem yR.ok (a1:(List ByteArray)) (a2:Term) (a3:Pack):Ok Tryz.prog 122 [rr 0 a1,.fn 169 [pp 1,pp 2]] [rE 1 eStr a1,.box (Term.enc a2),.box (Pack.enc false a3)] ((yR a1 a2 a3).map fun r=>(iv r,[rE 1 eStr a1,.box (Term.enc a2),.box (Pack.enc false a3)])):=by
 refine zJ zKc Tryz.f122 3 19 (fun q=>?_)
 unfold yR
 refine J_g 2 [] [(0,rr 0 a1),(1,.fn 169 [pp 1,pp 2])] [(0,rE 1 eStr a1),(1,.box (Term.enc a2)),(2,.box (Pack.enc false a3))] zB ?_
 refine J_d 12 [] [7,8] [(7,iv (a1.length:Int)),(8,iv 0)] [] [] zB ?_
 refine jW (K0:=(fun r:Int=>some (iv r,[rE 1 eStr a1,.box (Term.enc a2),.box (Pack.enc false a3)]))) (fun _=>rfl) (xM.ok a1 a2 a3 q _ (fun v17=>J_j ?_) 0)
 refine J_d 14 [] [4] [(4,iv (-1))] [] [] zB ?_
 exact xJ rfl
noncomputable def c75:Code:=(Tryz.f75.body).getD .skip
theorem yG.ok (a1:(List ByteArray)) (a2:Term) (a3:Pack):Ok Tryz.prog 75 [rr 0 a1,.fn 169 [pp 1,pp 2]] [rE 1 eStr a1,.box (Term.enc a2),.box (Pack.enc false a3)] ((yG a1 a2 a3).map fun r=>(bv r,[rE 1 eStr a1,.box (Term.enc a2),.box (Pack.enc false a3)])):=by
 refine zJ c75 Tryz.f75 3 9 (fun q=>?_)
 unfold yG
 refine J_d 2 [] [] [] [] [] zB ?_
 refine zA (fun x4 h5=>?_)
 refine J_d 6 [] [0,1,4] [(4,bv (decide (x4≥0)))] [] [] (zF 2 (zE6 [(0,rE 1 eStr a1),(1,.box (Term.enc a2)),(2,.box (Pack.enc false a3))] [] (vJ («as»:=[rr 0 a1,.fn 169 [pp 1,pp 2]]) [(.tmp 5),(.tmp 6)] [32,99] false [(0,rE 1 eStr a1),(1,.box (Term.enc a2)),(2,.box (Pack.enc false a3))] [0,1,2] (.cons (.rf rfl) (.cons (.fn (.cons (.pt rfl) (.cons (.pt rfl) (.nil)))) (.nil))) (yR.ok a1 a2 a3) h5 (.same rfl rfl))) zB) ?_
 exact xJ rfl
noncomputable def zQo:Code:=(Tryz.f135.body).getD .skip
theorem jN.ok (a1:Pack) (a2:Term):Ok Tryz.prog 135 [.ag (Pack.enc false a1),.ag (Term.enc a2)] [] ((jN a1 a2).map fun r=>(bv r,[])):=by
 refine zJ zQo Tryz.f135 0 9 (fun q=>?_)
 unfold jN
 refine J_g 2 [(0,0),(1,1)] [(2,pp 0),(3,pp 1)] [(0,.box (Pack.enc false a1)),(1,.box (Term.enc a2))] zB ?_
 refine zA (fun x3 h4=>?_)
 refine zA (fun x5 h6=>?_)
 refine J_g 6 [] [(4,bv x5)] [] (zF 1 (vJ («as»:=[.ag (Pack.enc false a1)]) [(.tmp 5)] [91] false [] [] (.cons (.same rfl) (.nil)) (zBG.ok a1) h4 (.own 2)) (zF 3 (zE6 [(2,rE 1 eStr x3),(1,.box (Term.enc a2)),(0,.box (Pack.enc false a1))] [] (vJ («as»:=[rr 2 x3,.fn 169 [pp 1,pp 0]]) [(.tmp 6),(.tmp 7)] [32,99] false [(2,rE 1 eStr x3),(1,.box (Term.enc a2)),(0,.box (Pack.enc false a1))] [2,1,0] (.cons (.rf rfl) (.cons (.fn (.cons (.pt rfl) (.cons (.pt rfl) (.nil)))) (.nil))) (yG.ok x3 a2 a1) h6 (.same rfl rfl))) zB)) ?_
 exact xJ rfl
noncomputable def c124:Code:=(Tryz.f124.body).getD .skip
theorem xP.ok (a1:(List Term)) (a2:Pack) (q:Wd) (kn:Unit→Option (D×List Ent)) (hk:∀v:Unit,J (q.g Tryz.prog 124 0 19) c124 (atI c124 7) (St.mk' [] []) (some v) kn):
  ∀s9:Int,J (q.g Tryz.prog 124 0 19) c124 (atI c124 52) (St.mk' [(0,sl 7 Term.enc a1),(1,.fb 135 [.ag (Pack.enc false a2)]),(7,iv (a1.length:Int)),(8,iv s9)] []) (xP a1 a2 s9) (Fl.go (fun r:Int=>some (iv r,[])) kn):=by
 refine zAC (fun g ih s9=>?_)
 unfold xL
 refine J_d 104 [] [9] [(9,bv (decide (s9< (a1.length:Int))))] [] [] zB ?_
 refine zG 9 (fun h10=>?_) (fun h10=>?_)
 ·refine J_d 1688 [] [5,9] [(5,iv s9)] [] [] zB ?_
  refine zA (fun x11 h12=>?_)
  refine zA (fun x13 h14=>?_)
  refine J_d 3378 [] [16] [(16,bv x13)] [] [] (zF 3 (kD (kk:=.i64) 80 104 7 Term.enc (.tmp 12) (.tmp 13) h12) (zF 5 (zPT («as»:=[.ag (Term.enc x11)]) (caps:=[.ag (Pack.enc false a2)]) 11 [(.tmp 15)] [104] (jN.ok a2 x11) h14) zB)) ?_
  refine zG 16 (fun h15=>?_) (fun h15=>?_)
  ·refine J_g 13516 [] [(4,iv s9)] [] zB ?_
   exact xJ rfl
  ·refine J_d 423 [] [5,8,16] [(8,iv (w64 (s9+1)))] [] [] zB ?_
   exact J_q (J_b (ih (w64 (s9+1)))) rfl
 ·exact xA (hk ()) rfl
theorem yU.ok (a1:(List Term)) (a2:Pack):Ok Tryz.prog 124 [sl 7 Term.enc a1,.fb 135 [.ag (Pack.enc false a2)]] [] ((yU a1 a2).map fun r=>(iv r,[])):=by
 refine zJ c124 Tryz.f124 0 19 (fun q=>?_)
 unfold yU
 refine J_g 2 [] [(0,sl 7 Term.enc a1),(1,.fb 135 [.ag (Pack.enc false a2)])] [] zB ?_
 refine J_d 12 [] [7,8] [(7,iv (a1.length:Int)),(8,iv 0)] [] [] zB ?_
 refine jW (K0:=(fun r:Int=>some (iv r,[]))) (fun _=>rfl) (xP.ok a1 a2 q _ (fun v16=>J_j ?_) 0)
 refine J_g 14 [] [(4,iv (-1))] [] zB ?_
 exact xJ rfl
noncomputable def c79:Code:=(Tryz.f79.body).getD .skip
theorem yL.ok (a1:(List Term)) (a2:Pack):Ok Tryz.prog 79 [sl 7 Term.enc a1,.fb 135 [.ag (Pack.enc false a2)]] [] ((yL a1 a2).map fun r=>(bv r,[])):=by
 refine zJ c79 Tryz.f79 0 9 (fun q=>?_)
 unfold yL
 refine J_d 2 [] [] [] [] [] zB ?_
 refine zA (fun x3 h4=>?_)
 refine J_g 6 [] [(4,bv (decide (x3≥0)))] [] (zF 2 (vJ («as»:=[sl 7 Term.enc a1,.fb 135 [.ag (Pack.enc false a2)]]) [(.tmp 5),(.tmp 6)] [80,105] false [] [] (.cons (.same rfl) (.cons (.fb (.cons (.same rfl) (.nil))) (.nil))) (yU.ok a1 a2) h4 (.same rfl rfl)) zB) ?_
 exact xJ rfl
noncomputable def zQc:Code:=(Tryz.f133.body).getD .skip
theorem jD.ok (a1:Pack) (a2:(List Term)):Ok Tryz.prog 133 [.ag (Pack.enc false a1),sl 7 Term.enc a2] [] ((jD a1 a2).map fun r=>(bv r,[])):=by
 refine zJ zQc Tryz.f133 0 9 (fun q=>?_)
 unfold jD
 refine J_d 2 [(0,0)] [0,2] [(2,pp 0)] [0] [(0,.box (Pack.enc false a1))] zB ?_
 refine zA (fun x3 h4=>?_)
 refine J_g 6 [] [(4,bv x3)] [] (zF 2 (zPU 135 [(.tmp 6)] [.ag (Pack.enc false a1)]) (zF 3 (vJ («as»:=[sl 7 Term.enc a2,.fb 135 [.ag (Pack.enc false a1)]]) [(.tmp 5),(.tmp 7)] [80,105] false [] [] (.cons (.same rfl) (.cons (.fb (.cons (.same rfl) (.nil))) (.nil))) (yL.ok a2 a1) h4 (.same rfl rfl)) zB)) ?_
 exact xJ rfl
noncomputable def zQp:Code:=(Tryz.f132.body).getD .skip
theorem zDg.ok (a1:Int) (a2:(List Pack)) (a3:(List Term)):Ok Tryz.prog 132 [iv a1,pp 0,pp 1] [.box [sl 8 (Pack.enc false) a2],.box [sl 7 Term.enc a3]] ((zDg a1 a2 a3).map fun r=>(bv r,[.box [sl 8 (Pack.enc false) a2],.box [sl 7 Term.enc a3]])):=by
 refine zJ zQp Tryz.f132 2 11 (fun q=>?_)
 unfold zDg
 refine J_d 2 [] [] [] [] [] zB ?_
 refine zA (fun x4 h5=>?_)
 refine zA (fun x6 h7=>?_)
 refine J_d 6 [] [0,1,2,4] [(4,bv x6)] [] [] (zF 2 (kD (kk:=.i64) 24 91 8 (Pack.enc false) (.tmp 5) (.tmp 6) h5) (zF 5 (vZ [(.tmp 8),(.tmp 9)] [91,80] (jD.ok x4 a3) h7) zB)) ?_
 exact xJ rfl
theorem wM.ok (a1:(List Int)) (a2:(List Pack)) (a3:(List Term)) (q:Wd) (kn:Unit→Option (D×List Ent)) (hk:∀v:Unit,J (q.g Tryz.prog 167 2 19) c167 (atI c167 7) (St.mk' [] [(0,.box [sl 8 (Pack.enc false) a2]),(1,.box [sl 7 Term.enc a3])]) (some v) kn):
  ∀s10:Int,J (q.g Tryz.prog 167 2 19) c167 (atI c167 52) (St.mk' [(0,sl 1 zC a1),(1,.fn 132 [pp 0,pp 1]),(7,iv (a1.length:Int)),(8,iv s10)] [(0,.box [sl 8 (Pack.enc false) a2]),(1,.box [sl 7 Term.enc a3])]) (wM a1 a2 a3 s10) (Fl.go (fun r:Int=>some (iv r,[.box [sl 8 (Pack.enc false) a2],.box [sl 7 Term.enc a3]])) kn):=by
 refine zAC (fun g ih s10=>?_)
 unfold wI
 refine J_d 104 [] [9] [(9,bv (decide (s10< (a1.length:Int))))] [] [] zB ?_
 refine zG 9 (fun h11=>?_) (fun h11=>?_)
 ·refine J_d 1688 [] [5,9] [(5,iv s10)] [] [] zB ?_
  refine zA (fun x12 h13=>?_)
  refine zA (fun x14 h15=>?_)
  refine J_d 3378 [] [16] [(16,bv x14)] [] [] (zF 3 (kD (kk:=.i64) 25 2 1 zC (.tmp 12) (.tmp 13) h13) (zF 5 (zE6 [(0,.box [sl 8 (Pack.enc false) a2]),(1,.box [sl 7 Term.enc a3])] [] (zEr 11 [(.tmp 15)] [2] false [(0,.box [sl 8 (Pack.enc false) a2]),(1,.box [sl 7 Term.enc a3])] [0,1] [iv x12] [pp 0,pp 1] (.cons (.same rfl) (.cons (.pt rfl) (.cons (.pt rfl) (.nil)))) (zDg.ok x12 a2 a3) h15 (.same rfl rfl))) zB)) ?_
  refine zG 16 (fun h16=>?_) (fun h16=>?_)
  ·refine J_d 13516 [] [0,1,4,5,7,8,16] [(4,iv s10)] [] [] zB ?_
   exact xJ rfl
  ·refine J_d 423 [] [5,8,16] [(8,iv (w64 (s10+1)))] [] [] zB ?_
   exact J_q (J_b (ih (w64 (s10+1)))) rfl
 ·exact xA (hk ()) rfl
theorem wC.ok (a1:(List Int)) (a2:(List Pack)) (a3:(List Term)):Ok Tryz.prog 167 [sl 1 zC a1,.fn 132 [pp 0,pp 1]] [.box [sl 8 (Pack.enc false) a2],.box [sl 7 Term.enc a3]] ((wC a1 a2 a3).map fun r=>(iv r,[.box [sl 8 (Pack.enc false) a2],.box [sl 7 Term.enc a3]])):=by
 refine zJ c167 Tryz.f167 2 19 (fun q=>?_)
 unfold wC
 refine J_g 2 [] [(0,sl 1 zC a1),(1,.fn 132 [pp 0,pp 1])] [(0,.box [sl 8 (Pack.enc false) a2]),(1,.box [sl 7 Term.enc a3])] zB ?_
 refine J_d 12 [] [7,8] [(7,iv (a1.length:Int)),(8,iv 0)] [] [] zB ?_
 refine jW (K0:=(fun r:Int=>some (iv r,[.box [sl 8 (Pack.enc false) a2],.box [sl 7 Term.enc a3]]))) (fun _=>rfl) (wM.ok a1 a2 a3 q _ (fun v17=>J_j ?_) 0)
 refine J_d 14 [] [4] [(4,iv (-1))] [] [] zB ?_
 exact xJ rfl
theorem yI.ok (a1:(List Int)) (a2:(List Pack)) (a3:(List Term)):Ok Tryz.prog 129 [sl 1 zC a1,.fn 132 [pp 0,pp 1]] [.box [sl 8 (Pack.enc false) a2],.box [sl 7 Term.enc a3]] ((yI a1 a2 a3).map fun r=>(bv r,[.box [sl 8 (Pack.enc false) a2],.box [sl 7 Term.enc a3]])):=by
 refine zJ zPK Tryz.f129 2 9 (fun q=>?_)
 unfold yI
 refine J_d 2 [] [] [] [] [] zB ?_
 refine zA (fun x4 h5=>?_)
 refine J_d 6 [] [0,1,4] [(4,bv (decide (x4≥0)))] [] [] (zF 2 (zE6 [(0,.box [sl 8 (Pack.enc false) a2]),(1,.box [sl 7 Term.enc a3])] [] (vJ («as»:=[sl 1 zC a1,.fn 132 [pp 0,pp 1]]) [(.tmp 5),(.tmp 6)] [25,110] false [(0,.box [sl 8 (Pack.enc false) a2]),(1,.box [sl 7 Term.enc a3])] [0,1] (.cons (.same rfl) (.cons (.fn (.cons (.pt rfl) (.cons (.pt rfl) (.nil)))) (.nil))) (wC.ok a1 a2 a3) h5 (.same rfl rfl))) zB) ?_
 exact xJ rfl
noncomputable def zQw:Code:=(Tryz.f134.body).getD .skip
theorem zDj.ok (a1:Int) (a2:Int) (a3:(List Pack)) (a4:Term):Ok Tryz.prog 134 [iv a1,pp 0,pp 1,pp 2] [.box [iv a2],.box [sl 8 (Pack.enc false) a3],.box (Term.enc a4)] ((zDj a1 a2 a3 a4).map fun r=>(bv r,[.box [iv a2],.box [sl 8 (Pack.enc false) a3],.box (Term.enc a4)])):=by
 refine zJ zQw Tryz.f134 3 17 (fun q=>?_)
 unfold zDj
 refine J_d 2 [] [] [] [] [] zB ?_
 refine uN (fun h5=>?_) (fun h5=>?_)
 ·refine zA (fun x6 h7=>?_)
  refine zA (fun x8 h9=>?_)
  refine J_d 6 [] [0,1,2,3,5] [(5,bv x8)] [] [] (vV 3 [(8,bv (a1 !=a2))] [] h5 (zAR 6 3 9 true (kD (kk:=.i64) 24 91 8 (Pack.enc false) (.tmp 10) (.tmp 11) h7) (zAR 9 3 9 true (vZ [(.tmp 13),(.tmp 14)] [91,104] (jN.ok x6 a4) h9) zB))) ?_
  exact xJ rfl
 ·refine J_d 6 [] [0,1,2,3,5] [(5,bv false)] [] [] (vV 3 [(8,bv (a1 !=a2))] [] h5 zB) ?_
  exact xJ rfl
theorem wL.ok (a1:(List Int)) (a2:Int) (a3:(List Pack)) (a4:Term) (q:Wd) (kn:Unit→Option (D×List Ent)) (hk:∀v:Unit,J (q.g Tryz.prog 167 3 19) c167 (atI c167 7) (St.mk' [] [(0,.box [iv a2]),(1,.box [sl 8 (Pack.enc false) a3]),(2,.box (Term.enc a4))]) (some v) kn):
  ∀s11:Int,J (q.g Tryz.prog 167 3 19) c167 (atI c167 52) (St.mk' [(0,sl 1 zC a1),(1,.fn 134 [pp 0,pp 1,pp 2]),(7,iv (a1.length:Int)),(8,iv s11)] [(0,.box [iv a2]),(1,.box [sl 8 (Pack.enc false) a3]),(2,.box (Term.enc a4))]) (wL a1 a2 a3 a4 s11) (Fl.go (fun r:Int=>some (iv r,[.box [iv a2],.box [sl 8 (Pack.enc false) a3],.box (Term.enc a4)])) kn):=by
 refine zAC (fun g ih s11=>?_)
 unfold wH
 refine J_d 104 [] [9] [(9,bv (decide (s11< (a1.length:Int))))] [] [] zB ?_
 refine zG 9 (fun h12=>?_) (fun h12=>?_)
 ·refine J_d 1688 [] [5,9] [(5,iv s11)] [] [] zB ?_
  refine zA (fun x13 h14=>?_)
  refine zA (fun x15 h16=>?_)
  refine J_d 3378 [] [16] [(16,bv x15)] [] [] (zF 3 (kD (kk:=.i64) 25 2 1 zC (.tmp 12) (.tmp 13) h14) (zF 5 (zE6 [(0,.box [iv a2]),(1,.box [sl 8 (Pack.enc false) a3]),(2,.box (Term.enc a4))] [] (zEr 11 [(.tmp 15)] [2] false [(0,.box [iv a2]),(1,.box [sl 8 (Pack.enc false) a3]),(2,.box (Term.enc a4))] [0,1,2] [iv x13] [pp 0,pp 1,pp 2] (.cons (.same rfl) (.cons (.pt rfl) (.cons (.pt rfl) (.cons (.pt rfl) (.nil))))) (zDj.ok x13 a2 a3 a4) h16 (.same rfl rfl))) zB)) ?_
  refine zG 16 (fun h17=>?_) (fun h17=>?_)
  ·refine J_d 13516 [] [0,1,4,5,7,8,16] [(4,iv s11)] [] [] zB ?_
   exact xJ rfl
  ·refine J_d 423 [] [5,8,16] [(8,iv (w64 (s11+1)))] [] [] zB ?_
   exact J_q (J_b (ih (w64 (s11+1)))) rfl
 ·exact xA (hk ()) rfl
theorem wD.ok (a1:(List Int)) (a2:Int) (a3:(List Pack)) (a4:Term):Ok Tryz.prog 167 [sl 1 zC a1,.fn 134 [pp 0,pp 1,pp 2]] [.box [iv a2],.box [sl 8 (Pack.enc false) a3],.box (Term.enc a4)] ((wD a1 a2 a3 a4).map fun r=>(iv r,[.box [iv a2],.box [sl 8 (Pack.enc false) a3],.box (Term.enc a4)])):=by
 refine zJ c167 Tryz.f167 3 19 (fun q=>?_)
 unfold wD
 refine J_g 2 [] [(0,sl 1 zC a1),(1,.fn 134 [pp 0,pp 1,pp 2])] [(0,.box [iv a2]),(1,.box [sl 8 (Pack.enc false) a3]),(2,.box (Term.enc a4))] zB ?_
 refine J_d 12 [] [7,8] [(7,iv (a1.length:Int)),(8,iv 0)] [] [] zB ?_
 refine jW (K0:=(fun r:Int=>some (iv r,[.box [iv a2],.box [sl 8 (Pack.enc false) a3],.box (Term.enc a4)]))) (fun _=>rfl) (wL.ok a1 a2 a3 a4 q _ (fun v18=>J_j ?_) 0)
 refine J_d 14 [] [4] [(4,iv (-1))] [] [] zB ?_
 exact xJ rfl
theorem yH.ok (a1:(List Int)) (a2:Int) (a3:(List Pack)) (a4:Term):Ok Tryz.prog 129 [sl 1 zC a1,.fn 134 [pp 0,pp 1,pp 2]] [.box [iv a2],.box [sl 8 (Pack.enc false) a3],.box (Term.enc a4)] ((yH a1 a2 a3 a4).map fun r=>(bv r,[.box [iv a2],.box [sl 8 (Pack.enc false) a3],.box (Term.enc a4)])):=by
 refine zJ zPK Tryz.f129 3 9 (fun q=>?_)
 unfold yH
 refine J_d 2 [] [] [] [] [] zB ?_
 refine zA (fun x5 h6=>?_)
 refine J_d 6 [] [0,1,4] [(4,bv (decide (x5≥0)))] [] [] (zF 2 (zE6 [(0,.box [iv a2]),(1,.box [sl 8 (Pack.enc false) a3]),(2,.box (Term.enc a4))] [] (vJ («as»:=[sl 1 zC a1,.fn 134 [pp 0,pp 1,pp 2]]) [(.tmp 5),(.tmp 6)] [25,110] false [(0,.box [iv a2]),(1,.box [sl 8 (Pack.enc false) a3]),(2,.box (Term.enc a4))] [0,1,2] (.cons (.same rfl) (.cons (.fn (.cons (.pt rfl) (.cons (.pt rfl) (.cons (.pt rfl) (.nil))))) (.nil))) (wD.ok a1 a2 a3 a4) h6 (.same rfl rfl))) zB) ?_
 exact xJ rfl
noncomputable def c86:Code:=(Tryz.f86.body).getD .skip
theorem zDv.ok (a1:(List Pack)) (a2:(List Int)) (s56:((List zO)×Int)) (x58:Int) (x60:Pack) (q:Wd) (kn:(List zO)→Option (D×List Ent)) (hk:∀v:(List zO),J (q.g Tryz.prog 86 0 77) c86 (aft c86 1868) (St.mk' [(1,sl 1 zC a2),(2,pp 0),(5,rr 5 v),(14,sl 1 zC a2),(15,iv (a2.length:Int)),(16,iv s56.2)] [(0,.box [sl 8 (Pack.enc false) a1]),(5,rE 3 zO.enc v)]) (some v) kn):
  ∀s99:((List zO)×Int),J (q.g Tryz.prog 86 0 77) c86 (atI c86 239228) (St.mk' [(1,sl 1 zC a2),(2,pp 0),(5,rr 5 s99.1),(7,pp 2),(14,sl 1 zC a2),(15,iv (a2.length:Int)),(16,iv s56.2),(58,sl 7 Term.enc x60.Bars),(59,iv (x60.Bars.length:Int)),(60,iv s99.2)] [(0,.box [sl 8 (Pack.enc false) a1]),(2,.box [iv x58]),(5,rE 3 zO.enc s99.1)]) (zDv a1 a2 s56 x58 x60 s99) kn:=by
 refine zAC (fun g ih s99=>?_)
 unfold zCC
 refine J_d 478456 [] [61] [(61,bv (decide (s99.2< (x60.Bars.length:Int))))] [] [] zB ?_
 refine zG 61 (fun h100=>?_) (fun h100=>?_)
 ·refine zA (fun x101 h102=>?_)
  refine J_d 7655320 [(3,6)] [11,12,61] [(11,iv s99.2),(12,pp 6)] [6] [(6,.box (Term.enc x101))] (zF 1 (kD (kk:=.i64) 80 104 7 Term.enc (.tmp 58) (.tmp 60) h102) zB) ?_
  refine zA (fun x103 h104=>?_)
  refine J_d 15310642 [] [12,67] [(67,bv x103)] [6] [] (zF 2 (zE6 [(2,.box [iv x58]),(0,.box [sl 8 (Pack.enc false) a1]),(6,.box (Term.enc x101))] [] (vJ («as»:=[sl 1 zC a2,.fn 134 [pp 2,pp 0,pp 6]]) [(.tmp 65),(.tmp 66)] [25,110] false [(2,.box [iv x58]),(0,.box [sl 8 (Pack.enc false) a1]),(6,.box (Term.enc x101))] [2,0,6] (.cons (.same rfl) (.cons (.fn (.cons (.pt rfl) (.cons (.pt rfl) (.cons (.pt rfl) (.nil))))) (.nil))) (yH.ok a2 x58 a1 x101) h104 (.same rfl rfl))) zB) ?_
  refine wU (aft c86 3827660) (fun v108:(List zO)=>St.mk' [(1,sl 1 zC a2),(2,pp 0),(5,rr 7 v108),(7,pp 2),(14,sl 1 zC a2),(15,iv (a2.length:Int)),(16,iv s56.2),(58,sl 7 Term.enc x60.Bars),(59,iv (x60.Bars.length:Int)),(60,iv s99.2)] [(0,.box [sl 8 (Pack.enc false) a1]),(2,.box [iv x58]),(7,rE 3 zO.enc v108)]) (fun v108=>?_) (fun jv108=>?_)
  ·refine J_d 1913831 [] [60] [(60,iv (w64 (s99.2+1)))] [] [] zB ?_
   refine uX 7 5 (Nat.le_of_ble_eq_true rfl) (Nat.le_of_ble_eq_true rfl) ?_
   exact J_q (J_b (ih (v108,w64 (s99.2+1)))) rfl
  ·refine zG 67 (fun h105=>?_) (fun h105=>?_)
   ·refine zA (fun x106 h107=>?_)
    refine J_d 30621286 [] [5,11,67] [(5,rr 7 x106)] [5,7] [(7,rE 3 zO.enc x106)] (zF 4 (zBw 108 125 3 6 zO.enc [({Kind:=3,Pack:=x58,At:=s99.2}:zO)] [0] [(.tmp 71)] [.ag [iv 3,iv x58,iv s99.2]]) (zF 5 (zFg 108 108 125 125 3 24 7 5 6 zO.enc (.tmp 68) (.tmp 72) h107) zB)) ?_
    exact xA (J_j (jv108 x106)) rfl
   ·refine uX 5 7 (Nat.le_of_ble_eq_true rfl) (Nat.le_of_ble_eq_true rfl) ?_
    exact xA (J_j (jv108 s99.1)) rfl
 ·exact xA (hk s99.1) rfl
theorem zDy.ok (a1:(List Pack)) (a2:(List Int)) (s56:((List zO)×Int)) (x58:Int) (x60:Pack) (q:Wd) (kn:(List zO)→Option (D×List Ent)) (hk:∀v:(List zO),J (q.g Tryz.prog 86 0 77) c86 (atI c86 29903) (St.mk' [(1,sl 1 zC a2),(2,pp 0),(5,rr 5 v),(7,pp 2),(8,pp 3),(14,sl 1 zC a2),(15,iv (a2.length:Int)),(16,iv s56.2)] [(0,.box [sl 8 (Pack.enc false) a1]),(2,.box [iv x58]),(3,.box (Pack.enc false x60)),(5,rE 3 zO.enc v)]) (some v) kn):
  ∀s79:((List zO)×Int),J (q.g Tryz.prog 86 0 77) c86 (atI c86 239220) (St.mk' [(1,sl 1 zC a2),(2,pp 0),(5,rr 5 s79.1),(7,pp 2),(8,pp 3),(14,sl 1 zC a2),(15,iv (a2.length:Int)),(16,iv s56.2),(39,sl 1 (eSl false 7 Term.enc) x60.Needs),(40,iv (x60.Needs.length:Int)),(41,iv s79.2)] [(0,.box [sl 8 (Pack.enc false) a1]),(2,.box [iv x58]),(3,.box (Pack.enc false x60)),(5,rE 3 zO.enc s79.1)]) (zDy a1 a2 s56 x58 x60 s79) kn:=by
 refine zAC (fun g ih s79=>?_)
 unfold zCR
 refine J_d 478440 [] [42] [(42,bv (decide (s79.2< (x60.Needs.length:Int))))] [] [] zB ?_
 refine zG 42 (fun h80=>?_) (fun h80=>?_)
 ·refine zA (fun x81 h82=>?_)
  refine J_d 7655064 [(3,6)] [9,10,42] [(9,iv s79.2),(10,pp 6)] [6] [(6,.box [sl 7 Term.enc x81])] (zF 1 (kD (kk:=.i64) 89 80 1 (eSl false 7 Term.enc) (.tmp 39) (.tmp 41) h82) zB) ?_
  refine zA (fun x83 h84=>?_)
  refine J_d 15310130 [] [10,49] [(49,bv (!x83))] [6] [] (zF 2 (zE6 [(0,.box [sl 8 (Pack.enc false) a1]),(6,.box [sl 7 Term.enc x81])] [] (vJ («as»:=[sl 1 zC a2,.fn 132 [pp 0,pp 6]]) [(.tmp 46),(.tmp 47)] [25,110] false [(0,.box [sl 8 (Pack.enc false) a1]),(6,.box [sl 7 Term.enc x81])] [0,6] (.cons (.same rfl) (.cons (.fn (.cons (.pt rfl) (.cons (.pt rfl) (.nil)))) (.nil))) (yI.ok a2 a1 x81) h84 (.same rfl rfl))) zB) ?_
  refine wU (aft c86 3827532) (fun v88:(List zO)=>St.mk' [(1,sl 1 zC a2),(2,pp 0),(5,rr 7 v88),(7,pp 2),(8,pp 3),(14,sl 1 zC a2),(15,iv (a2.length:Int)),(16,iv s56.2),(39,sl 1 (eSl false 7 Term.enc) x60.Needs),(40,iv (x60.Needs.length:Int)),(41,iv s79.2)] [(0,.box [sl 8 (Pack.enc false) a1]),(2,.box [iv x58]),(3,.box (Pack.enc false x60)),(7,rE 3 zO.enc v88)]) (fun v88=>?_) (fun jv88=>?_)
  ·refine J_d 1913767 [] [41] [(41,iv (w64 (s79.2+1)))] [] [] zB ?_
   refine uX 7 5 (Nat.le_of_ble_eq_true rfl) (Nat.le_of_ble_eq_true rfl) ?_
   exact J_q (J_b (ih (v88,w64 (s79.2+1)))) rfl
  ·refine zG 49 (fun h85=>?_) (fun h85=>?_)
   ·refine zA (fun x86 h87=>?_)
    refine J_d 30620262 [] [5,9,49] [(5,rr 7 x86)] [5,7] [(7,rE 3 zO.enc x86)] (zF 4 (zBw 108 125 3 6 zO.enc [({Kind:=2,Pack:=x58,At:=s79.2}:zO)] [0] [(.tmp 53)] [.ag [iv 2,iv x58,iv s79.2]]) (zF 5 (zFg 108 108 125 125 3 24 7 5 6 zO.enc (.tmp 50) (.tmp 54) h87) zB)) ?_
    exact xA (J_j (jv88 x86)) rfl
   ·refine uX 5 7 (Nat.le_of_ble_eq_true rfl) (Nat.le_of_ble_eq_true rfl) ?_
    exact xA (J_j (jv88 s79.1)) rfl
 ·exact xA (hk s79.1) rfl
theorem zDx.ok (a1:(List Pack)) (a2:(List Int)) (q:Wd) (kn:(List zO)→Option (D×List Ent)) (hk:∀v:(List zO),J (q.g Tryz.prog 86 0 77) c86 (atI c86 15) (St.mk' [(5,rr 1 v)] [(1,rE 3 zO.enc v)]) (some v) kn):
  ∀s56:((List zO)×Int),J (q.g Tryz.prog 86 0 77) c86 (atI c86 116) (St.mk' [(1,sl 1 zC a2),(2,pp 0),(5,rr 1 s56.1),(14,sl 1 zC a2),(15,iv (a2.length:Int)),(16,iv s56.2)] [(0,.box [sl 8 (Pack.enc false) a1]),(1,rE 3 zO.enc s56.1)]) (zDx a1 a2 s56) kn:=by
 refine zAC (fun g ih s56=>?_)
 unfold zCL
 refine J_d 232 [] [17] [(17,bv (decide (s56.2< (a2.length:Int))))] [] [] zB ?_
 refine zG 17 (fun h57=>?_) (fun h57=>?_)
 ·refine zA (fun x58 h59=>?_)
  refine J_d 3736 [(3,2)] [6,7,17] [(6,iv s56.2),(7,pp 2)] [2] [(2,.box [iv x58])] (zF 1 (kD (kk:=.i64) 25 2 1 zC (.tmp 14) (.tmp 16) h59) zB) ?_
  refine zA (fun x60 h61=>?_)
  refine J_d 7474 [(4,3)] [8] [(8,pp 3)] [3] [(3,.box (Pack.enc false x60))] (zF 2 (kD (kk:=.i64) 24 91 8 (Pack.enc false) (.tmp 21) (.tmp 22) h61) zB) ?_
  refine zA (fun x62 h63=>?_)
  refine zA (fun x64 h65=>?_)
  refine J_d 29900 [] [6,32] [(32,bv (decide (x64≥0)))] [] [] (zF 3 (zNA 25 2 1 zC (.tmp 26) none (some (.tmp 27)) h63) (zF 6 (vZ [(.tmp 25),(.tmp 28),(.tmp 30)] [24,25,9] (uP.ok a1 x62 x60.Name) h65) zB)) ?_
  refine wU (atI c86 14951) (fun v69:(List zO)=>St.mk' [(1,sl 1 zC a2),(2,pp 0),(5,rr 5 v69),(7,pp 2),(8,pp 3),(14,sl 1 zC a2),(15,iv (a2.length:Int)),(16,iv s56.2)] [(0,.box [sl 8 (Pack.enc false) a1]),(2,.box [iv x58]),(3,.box (Pack.enc false x60)),(5,rE 3 zO.enc v69)]) (fun v69=>?_) (fun jv69=>?_)
  ·refine J_d 59804 [] [39,40,41] [(39,sl 1 (eSl false 7 Term.enc) x60.Needs),(40,iv (x60.Needs.length:Int)),(41,iv 0)] [] [] zB ?_
   refine zFv (zDy.ok a1 a2 s56 x58 x60 q _ (fun v89=>J_j ?_) (v69,0))
   refine J_d 59806 [] [8,58,59,60] [(58,sl 7 Term.enc x60.Bars),(59,iv (x60.Bars.length:Int)),(60,iv 0)] [3] [] zB ?_
   refine zFv (zDv.ok a1 a2 s56 x58 x60 q _ (fun v109=>J_j ?_) (v89,0))
   refine J_d 935 [] [16] [(16,iv (w64 (s56.2+1)))] [] [] zB ?_
   refine uX 5 1 (Nat.le_of_ble_eq_true rfl) (Nat.le_of_ble_eq_true rfl) ?_
   exact J_q (J_b (ih (v109,w64 (s56.2+1)))) rfl
  ·refine zG 32 (fun h66=>?_) (fun h66=>?_)
   ·refine zA (fun x67 h68=>?_)
    refine J_d 59802 [] [5,32] [(5,rr 5 x67)] [1,5] [(5,rE 3 zO.enc x67)] (zF 3 (zBw 108 125 3 4 zO.enc [({Kind:=1,Pack:=x58,At:=0}:zO)] [0] [(.tmp 35)] [.ag [iv 1,iv x58,iv 0]]) (zF 4 (zFg 108 108 125 125 3 24 5 1 4 zO.enc (.tmp 33) (.tmp 36) h68) zB)) ?_
    exact xA (J_j (jv69 x67)) rfl
   ·refine uX 1 5 (Nat.le_of_ble_eq_true rfl) (Nat.le_of_ble_eq_true rfl) ?_
    exact xA (J_j (jv69 s56.1)) rfl
 ·exact xA (hk s56.1) rfl
theorem zDA.ok (a1:(List Pack)) (a2:(List Int)):Ok Tryz.prog 86 [sl 8 (Pack.enc false) a1,sl 1 zC a2] [] ((zDA a1 a2).map fun r=>(so 3 zO.enc r,[])):=by
 refine zJ c86 Tryz.f86 0 77 (fun q=>?_)
 unfold zDA
 refine J_g 2 [(0,0)] [(1,sl 1 zC a2),(2,pp 0)] [(0,.box [sl 8 (Pack.enc false) a1])] zB ?_
 refine J_g 6 [] [(1,sl 1 zC a2),(2,pp 0),(5,rr 1 ([]:List zO))] [(0,.box [sl 8 (Pack.enc false) a1]),(1,rE 3 zO.enc ([]:List zO))] (zF 0 (zBw 108 125 3 1 zO.enc ([]:List zO) [] [] []) zB) ?_
 refine J_d 28 [] [14,15,16] [(14,sl 1 zC a2),(15,iv (a2.length:Int)),(16,iv 0)] [] [] zB ?_
 refine zFv (zDx.ok a1 a2 q _ (fun v110=>J_j ?_) (([]:List zO),0))
 refine J_g 30 [] [(4,rr 1 v110)] [(1,rE 3 zO.enc v110)] zB ?_
 exact zDZ (ds:=[rr 1 v110]) (ds':=[so 3 zO.enc v110]) (.cons (.cell (.move (.head _) (List.length_map _) (by decide) (.nil))) (.nil) (by decide)) rfl
noncomputable def c42:Code:=(Tryz.f42.body).getD .skip
theorem xQ.ok (a1:(List Pack)) (a2:(List Int)):Ok Tryz.prog 42 [sl 8 (Pack.enc false) a1,sl 1 zC a2] [] ((xQ a1 a2).map fun r=>(bv r,[])):=by
 refine zJ c42 Tryz.f42 0 10 (fun q=>?_)
 unfold xQ
 refine J_d 2 [] [] [] [] [] zB ?_
 refine zA (fun x3 h4=>?_)
 refine J_g 6 [] [(4,bv ((x3.length:Int)==0))] [] (zF 2 (vJ («as»:=[sl 8 (Pack.enc false) a1,sl 1 zC a2]) [(.tmp 5),(.tmp 6)] [24,25] false [] [] (.cons (.same rfl) (.cons (.same rfl) (.nil))) (zDA.ok a1 a2) h4 (.own 0)) zB) ?_
 exact xJ rfl
noncomputable def zP4:Code:=(Tryz.f100.body).getD .skip
theorem zBW.ok (a1:(List Pack)) (a2:(List Int)) (a3:(List Int)):Ok Tryz.prog 100 [sl 8 (Pack.enc false) a1,sl 1 zC a2,sl 1 zC a3] [] ((zBW a1 a2 a3).map fun r=>(iv r,[])):=by
 refine zJ zP4 Tryz.f100 0 31 (fun q=>?_)
 unfold zBW
 refine J_d 2 [] [] [] [] [] zB ?_
 refine zA (fun x4 h5=>?_)
 refine zA (fun x6 h7=>?_)
 refine zA (fun x8 h9=>?_)
 refine J_d 6 [] [7] [(7,iv x8)] [] [] (zF 2 (vZ [(.tmp 8),(.tmp 9)] [24,25] (xS.ok a1 a2) h5) (zF 5 (vZ [(.tmp 11),(.tmp 12)] [24,25] (xS.ok a1 a3) h7) (zF 6 (zBw 25 2 1 0 zC [x4,x6] [0,1] [(.tmp 10),(.tmp 13)] [iv x4,iv x6]) (zF 7 (vJ («as»:=[rr 0 [x4,x6]]) [(.tmp 14)] [25] true [(0,rE 1 zC [x4,x6])] [] (.cons (zDY (.head _) (fun _=>rfl) rfl) (.nil)) (vH.ok [x4,x6]) h9 (.same rfl rfl) (hbor:=fun _=>⟨fhN,yV⟩)) zB)))) ?_
 refine wU (atI zP4 29) (fun v16:Bool=>St.mk' [(7,iv x8),(29,bv v16)] []) (fun v16=>?_) (fun jv16=>?_)
 ·refine wU (atI zP4 15) (fun v18:Int=>St.mk' [(7,iv v18)] []) (fun v18=>?_) (fun jv18=>?_)
  ·refine J_g 30 [] [(6,iv v18)] [] zB ?_
   exact xJ rfl
  ·refine zG 29 (fun h17=>?_) (fun h17=>?_)
   ·refine J_g 58 [] [(7,iv 1)] [] zB ?_
    exact xA (J_j (jv18 1)) rfl
   ·exact xA (J_j (jv18 x8)) rfl
 ·refine uN (fun h10=>?_) (fun h10=>?_)
  ·refine zA (fun x11 h12=>?_)
   refine uN (fun h13=>?_) (fun h13=>?_)
   ·refine J_g 28 [] [(7,iv x8),(29,bv true)] [] (vV 2 [(17,bv (x8==0))] [] h10 (zAR 5 2 18 true (vZ [(.tmp 19),(.tmp 20)] [24,25] (xQ.ok a1 a2) h12) (zGQ 7 2 18 true [(22,bv (!x11))] [] h13 zB))) ?_
    exact xA (J_j (jv16 true)) rfl
   ·refine zA (fun x14 h15=>?_)
    refine J_g 28 [] [(7,iv x8),(29,bv (!x14))] [] (vV 2 [(17,bv (x8==0))] [] h10 (zAR 5 2 18 true (vZ [(.tmp 19),(.tmp 20)] [24,25] (xQ.ok a1 a2) h12) (zGQ 7 2 18 true [(22,bv (!x11))] [] h13 (zAR 10 7 23 false (vZ [(.tmp 24),(.tmp 25)] [24,25] (xQ.ok a1 a3) h15) zB)))) ?_
    exact xA (J_j (jv16 (!x14))) rfl
  ·refine J_g 28 [] [(7,iv x8),(29,bv false)] [] (vV 2 [(17,bv (x8==0))] [] h10 (zHI 7 (zHP (i:=7) (g:=2) (t:=18) (b:=true) (v:=(.bool false)) (.inl rfl) (by kernel_rfl) (by kernel_rfl)) (zHI 8 (zHP (i:=8) (g:=7) (t:=23) (b:=false) (v:=undef) (.inr rfl) (by kernel_rfl) (by kernel_rfl)) (zHI 9 (zHP (i:=9) (g:=7) (t:=23) (b:=false) (v:=undef) (.inr rfl) (by kernel_rfl) (by kernel_rfl)) (zHI 10 (zHP (i:=10) (g:=7) (t:=23) (b:=false) (v:=undef) (.inr rfl) (by kernel_rfl) (by kernel_rfl)) (zHI 11 (zHP (i:=11) (g:=7) (t:=23) (b:=false) (v:=undef) (.inr rfl) (by kernel_rfl) (by kernel_rfl)) zB)))))) ?_
   exact xA (J_j (jv16 false)) rfl
theorem zFQ (k:Nat) (w:World) (hk:0<k) (h1:k*8≤140737488355328) (h2:k≤4611686018427387904):Calls Tryz.prog 120 #[.slice none 0 0,.int .i64 (k:Int)] w fun e w'=>∃G,k≤G∧e= .returned (.slice (some ⟨w.heap.size,0,none⟩) 0 G)∧w'=w.drew.alloc (.cells (Builtin.zeroCells (.int .i64 0:Value).cells k++Builtin.zeroCells (.int .i64 0:Value).cells (G-k)) 2):=by
 have hinfo:(Tryz.prog.info? 2).map (fun i=>(i.zero,i.size,i.bytes))=some (some (.int .i64 0:Value),1,8):=by kernel_rfl
 obtain ⟨i0,hi0,hq⟩:=Option.map_eq_some_iff.1 hinfo
 simp only [Prod.mk.injEq] at hq
 obtain ⟨hz0,hs,hb⟩:=hq
 have h:=Any8.slices_Grow_grow Tryz.grow120 i0 (.int .i64 0:Value) hi0 hz0 (by omega) none 0 0 k [] w (Nat.le_refl _) (by omega) (by rw [hb]; omega) (by omega) (by simp) (fun _=>rfl) (fun a h=>by cases h)
 refine Calls.mono h ?_
 rintro e w' ⟨he,hw⟩
 refine ⟨_,?_,he,?_⟩
 ·exact Nat.le_trans (Nat.le_of_eq (Nat.zero_add k).symm) (grownCap_ge w (0+k) 0 2)
 ·rw [hw]
  simp
  rfl
theorem zA7.ok (a1:Int):Ok Tryz.prog 120 [nv,iv a1] [] ((zA7 a1).map fun r=>(so 1 zC r,[])):=by
 unfold zA7
 split
 ·rename_i h
  obtain ⟨h0,h1,h2⟩:=h
  obtain ⟨k,rfl⟩:=Int.eq_ofNat_of_zero_le h0
  exact zKC (el:=2) (z:=1) (zv:=.int .i64 0) h0 rfl (fun hn w=>by
   have h:=Any8.slices_Grow_room Tryz.grow120 none 0 0 k w (Nat.le_refl _) (by omega) (by omega) (by omega)
   exact h) (fun hp w=>zFQ k w (by omega) (by omega) (by omega))
 ·exact fun _ h=>by cases h
noncomputable def c67:Code:=(Tryz.f67.body).getD .skip
theorem jF.ok (a1:(List (List Int))) (q:Wd) (kn:(List Int)→Option (D×List Ent)) (hk:∀v:(List Int),J (q.g Tryz.prog 67 0 36) c67 (atI c67 63) (St.mk' [(6,rr 0 v)] [(0,rE 1 zC v)]) (some v) kn):
  ∀s19:((List Int)×Int),J (q.g Tryz.prog 67 0 36) c67 (atI c67 500) (St.mk' [(6,rr 0 s19.1),(25,sl 1 (eSl false 1 zC) a1),(26,iv (a1.length:Int)),(27,iv s19.2)] [(0,rE 1 zC s19.1)]) (jF a1 s19) kn:=by
 refine zAC (fun g ih s19=>?_)
 unfold vD
 refine J_d 1000 [] [28] [(28,bv (decide (s19.2< (a1.length:Int))))] [] [] zB ?_
 refine zG 28 (fun h20=>?_) (fun h20=>?_)
 ·refine zA (fun x21 h22=>?_)
  refine J_d 16024 [] [8,28] [(8,sl 1 zC x21)] [] [] (zF 0 (kD (kk:=.i64) 46 25 1 (eSl false 1 zC) (.tmp 25) (.tmp 27) h22) zB) ?_
  refine zA (fun x23 h24=>?_)
  refine J_g 16025 [] [(6,rr 1 x23),(25,sl 1 (eSl false 1 zC) a1),(26,iv (a1.length:Int)),(27,iv s19.2)] [(1,rE 1 zC x23)] (zF 2 (zJC 25 25 2 2 1 8 1 0 zC (.tmp 31) (.tmp 32) h24) zB) ?_
  refine J_d 4007 [] [27] [(27,iv (w64 (s19.2+1)))] [] [] zB ?_
  refine uX 1 0 (Nat.le_of_ble_eq_true rfl) (Nat.le_of_ble_eq_true rfl) ?_
  exact J_q (J_b (ih (x23,w64 (s19.2+1)))) rfl
 ·exact xA (hk s19.1) rfl
theorem jH.ok (a1:(List (List Int))) (q:Wd) (kn:Int→Option (D×List Ent)) (hk:∀v:Int,J (q.g Tryz.prog 67 0 36) c67 (atI c67 15) (St.mk' [(0,sl 1 (eSl false 1 zC) a1),(3,iv v)] []) (some v) kn):
  ∀s6:(Int×Int),J (q.g Tryz.prog 67 0 36) c67 (atI c67 116) (St.mk' [(0,sl 1 (eSl false 1 zC) a1),(3,iv s6.1),(9,sl 1 (eSl false 1 zC) a1),(10,iv (a1.length:Int)),(11,iv s6.2)] []) (jH a1 s6) kn:=by
 refine zAC (fun g ih s6=>?_)
 unfold wT
 refine J_d 232 [] [12] [(12,bv (decide (s6.2< (a1.length:Int))))] [] [] zB ?_
 refine zG 12 (fun h7=>?_) (fun h7=>?_)
 ·refine zA (fun x8 h9=>?_)
  refine J_g 3736 [] [(0,sl 1 (eSl false 1 zC) a1),(3,iv s6.1),(5,sl 1 zC x8),(9,sl 1 (eSl false 1 zC) a1),(10,iv (a1.length:Int)),(11,iv s6.2)] [] (zF 0 (kD (kk:=.i64) 46 25 1 (eSl false 1 zC) (.tmp 9) (.tmp 11) h9) zB) ?_
  refine J_g 7474 [] [(0,sl 1 (eSl false 1 zC) a1),(3,iv (w64 (s6.1+(x8.length:Int)))),(9,sl 1 (eSl false 1 zC) a1),(10,iv (a1.length:Int)),(11,iv s6.2)] [] zB ?_
  refine J_d 14950 [] [20] [(20,bv (decide ((w64 (s6.1+(x8.length:Int)))<0)))] [] [] zB ?_
  refine zG 20 (fun h10=>?_) (fun h10=>?_)
  ·exact zJ4
  ·refine J_d 935 [] [11,20] [(11,iv (w64 (s6.2+1)))] [] [] zB ?_
   exact J_q (J_b (ih (w64 (s6.1+(x8.length:Int)),w64 (s6.2+1)))) rfl
 ·exact xA (hk s6.1) rfl
theorem vK.ok (a1:(List (List Int))):Ok Tryz.prog 67 [sl 1 (eSl false 1 zC) a1] [] ((vK a1).map fun r=>(so 1 zC r,[])):=by
 refine zJ c67 Tryz.f67 0 36 (fun q=>?_)
 unfold vK
 refine J_g 2 [] [(0,sl 1 (eSl false 1 zC) a1)] [] zB ?_
 refine J_g 6 [] [(0,sl 1 (eSl false 1 zC) a1),(3,iv 0)] [] zB ?_
 refine J_d 28 [] [9,10,11] [(9,sl 1 (eSl false 1 zC) a1),(10,iv (a1.length:Int)),(11,iv 0)] [] [] zB ?_
 refine zFv (jH.ok a1 q _ (fun v11=>J_j ?_) (0,0))
 refine zA (fun x12 h13=>?_)
 refine J_g 30 [] [(0,sl 1 (eSl false 1 zC) a1),(6,rr 0 x12)] [(0,rE 1 zC x12)] (zF 1 (vJ («as»:=[nv,iv v11]) [(.const (.slice none 0 0)),(.tmp 23)] [25,3] false [] [] (.cons (.same rfl) (.cons (.same rfl) (.nil))) (zA7.ok v11) h13 (.own 0)) zB) ?_
 refine J_d 124 [] [0,25,26,27] [(25,sl 1 (eSl false 1 zC) a1),(26,iv (a1.length:Int)),(27,iv 0)] [] [] zB ?_
 refine zFv (jF.ok a1 q _ (fun v25=>J_j ?_) (x12,0))
 refine J_g 126 [] [(2,rr 0 v25)] [(0,rE 1 zC v25)] zB ?_
 exact zDZ (ds:=[rr 0 v25]) (ds':=[so 1 zC v25]) (.cons (.cell (.move (.head _) (List.length_map _) (by decide) (.nil))) (.nil) (by decide)) rfl
theorem uV.ok (a1:List ByteArray):Ok Tryz.prog 115 [rr 0 a1] [rE 1 eStr a1] ((uV a1).map fun r=>(.tu [],[rE 1 eStr r])):=by
 unfold uV
 split
 ·refine zN1 (fun blk off cap w hH hb=>?_) (fun p cap w=>Tryz.slices_Sort_string_none p cap w)
  have k:=Tryz.slices_Sort_string blk off cap (a1.map (·.data.toList)) w hH hb (by rw [List.length_map]; omega)
  rw [List.length_map] at k
  exact k
 ·exact fun _ h=>by cases h
noncomputable def c116:Code:=(Tryz.f116.body).getD .skip
theorem vU.ok (s41:Int) (x48:(List ByteArray)) (q:Wd) (kn:((List ByteArray)×Int)→Option (D×List Ent)) (hk:∀v:((List ByteArray)×Int),J (q.g Tryz.prog 116 1 61) c116 (atI c116 14923) (St.mk' [(0,rr 0 v.1),(3,iv v.2)] [(0,rE 1 eStr v.1)]) (some v) kn):
  ∀s61:((List ByteArray)×Int×Int),J (q.g Tryz.prog 116 1 61) c116 (atI c116 119380) (St.mk' [(0,rr 0 s61.1),(3,iv s61.2.1),(4,.sub 0 s41.toNat x48.length),(5,iv s61.2.2)] [(0,rE 1 eStr s61.1)]) (vU s41 x48 s61) kn:=by
 refine zAC (fun g ih s61=>?_)
 unfold uL
 refine J_d 477520 [] [32] [(32,bv (decide (s61.2.2< (x48.length:Int))))] [] [] (zF 2 (zNM 32 9 0 s41.toNat x48.length (.tmp 30)) zB) ?_
 refine zG 32 (fun h62=>?_) (fun h62=>?_)
 ·refine zA (fun x63 h64=>?_)
  refine zA (fun x65 h66=>?_)
  refine J_d 1910088 [] [32,44] [(44,bv (!(seq x63 x65)))] [] [] (zF 2 (zNk (kk:=.i64) 32 9 1 0 eStr (.tmp 35) (.tmp 36) h64) (zF 3 (zBU (d:=sv x63) 9 1 0 0 eStr (.tmp 37) (zHa h64) (by kernel_rfl)) (zF 7 (zNk (kk:=.i64) 32 9 1 0 eStr (.tmp 39) (.tmp 41) h66) (zF 8 (zBU (d:=sv x65) 9 1 0 0 eStr (.tmp 42) (zHa h66) (by kernel_rfl)) zB)))) ?_
  refine wU (aft c116 955044) (fun v72:((List ByteArray)×Int)=>St.mk' [(0,rr 0 v72.1),(3,iv v72.2),(4,.sub 0 s41.toNat x48.length),(5,iv s61.2.2)] [(0,rE 1 eStr v72.1)]) (fun v72=>?_) (fun jv72=>?_)
  ·refine J_d 477523 [] [5] [(5,iv (w64 (s61.2.2+1)))] [] [] zB ?_
   exact J_q (J_b (ih (v72.1,v72.2,w64 (s61.2.2+1)))) rfl
  ·refine zG 44 (fun h67=>?_) (fun h67=>?_)
   ·refine zA (fun x68 h69=>?_)
    refine zA (fun x70 h71=>?_)
    refine J_g 7640356 [] [(0,rr 0 s61.1),(3,iv s61.2.1),(4,.sub 0 s41.toNat x48.length),(5,iv s61.2.2)] [(0,rE 1 eStr (s61.1.set s61.2.1.toNat x68))] (zF 4 (zNk (kk:=.i64) 32 9 1 0 eStr (.tmp 47) (.tmp 48) h69) (zF 5 (zBU (d:=sv x68) 9 1 0 0 eStr (.tmp 49) (zHa h69) (by kernel_rfl)) (zF 6 (zB5 (kk:=.i64) 32 9 1 0 eStr (.tmp 45) (.tmp 46) h71) (zNz 7 (zOT (b:=x68) 9 1 0 0 eStr (sv x68) (.tmp 51) (.tmp 50) h71 rfl) zB)))) ?_
    refine zKv (σ':=St.mk' [(0,rr 0 (s61.1.set s61.2.1.toNat x68)),(3,iv s61.2.1),(4,.sub 0 s41.toNat x48.length),(5,iv s61.2.2)] [(0,rE 1 eStr (s61.1.set s61.2.1.toNat x68))]) (by simp only [rr,List.length_set]) ?_
    refine J_d 7640357 [] [3] [(3,iv (w64 (s61.2.1+1)))] [] [] zB ?_
    exact xA (J_j (jv72 (s61.1.set s61.2.1.toNat x68,w64 (s61.2.1+1)))) rfl
   ·exact xA (J_j (jv72 (s61.1,s61.2.1))) rfl
 ·exact xA (hk (s61.1,s61.2.1)) rfl
theorem uS.ok (a1:(List ByteArray)) (q:Wd) (kn:Unit→Option (D×List Ent)) (hk:∀v:Unit,J (q.g Tryz.prog 116 1 61) c116 (atI c116 15) (St.mk' [(0,rr 0 a1)] [(0,rE 1 eStr a1)]) (some v) kn):
  ∀s41:Int,J (q.g Tryz.prog 116 1 61) c116 (atI c116 116) (St.mk' [(0,rr 0 a1),(3,iv s41)] [(0,rE 1 eStr a1)]) (uS a1 s41) (Fl.go (fun r:(List ByteArray)=>some (so 1 eStr r,[])) kn):=by
 refine zAC (fun g ih s41=>?_)
 unfold vB
 refine J_d 464 [] [13] [(13,bv (decide (s41< (a1.length:Int))))] [] [] zB ?_
 refine zG 13 (fun h42=>?_) (fun h42=>?_)
 ·refine zA (fun x43 h44=>?_)
  refine zA (fun x45 h46=>?_)
  refine J_d 1864 [] [13,25] [(25,bv (seq x43 x45))] [] [] (zF 2 (zB5 (kk:=.i64) 32 9 1 0 eStr (.tmp 16) (.tmp 17) h44) (zF 3 (zBU (d:=sv x43) 9 1 0 0 eStr (.tmp 18) h44 (by kernel_rfl)) (zF 7 (zB5 (kk:=.i64) 32 9 1 0 eStr (.tmp 20) (.tmp 22) h46) (zF 8 (zBU (d:=sv x45) 9 1 0 0 eStr (.tmp 23) h46 (by kernel_rfl)) zB)))) ?_
  refine zG 25 (fun h47=>?_) (fun h47=>?_)
  ·refine zA (fun x48 h49=>?_)
   refine J_g 7460 [] [(0,rr 0 a1),(3,iv s41),(4,.sub 0 s41.toNat x48.length)] [(0,rE 1 eStr a1)] (zF 2 (zJb 32 9 1 0 eStr (.tmp 26) (some (.tmp 27)) none h49) zB) ?_
   refine J_d 29844 [] [5] [(5,iv 1)] [] [] zB ?_
   refine zFv (vU.ok s41 x48 q _ (fun v73=>J_j ?_) (a1,s41,1))
   refine zA (fun x74 h75=>?_)
   refine zA (fun x76 h77=>?_)
   refine J_g 29846 [] [(0,rr 0 v73.1),(3,iv v73.2)] [(0,rE 1 eStr x76)] (zF 2 (zJb 32 9 1 0 eStr (.tmp 54) (some (.tmp 55)) none h75) (zNz 3 (zNa (l:=v73.2) (a:=ByteArray.empty) 32 9 1 0 eStr (.tmp 56) h77 (.keep rfl (.nil))) zB)) ?_
   refine zKv (σ':=St.mk' [(0,rr 0 x76),(3,iv v73.2)] [(0,rE 1 eStr x76)]) (by simp only [rr,zHd h77]) ?_
   refine zA (fun x78 h79=>?_)
   refine J_g 59694 [] [(2,rr 1 x78)] [(1,rE 1 eStr x78)] (zF 2 (zLP 32 9 1 0 1 eStr (.tmp 57) none (some (.tmp 58)) h79) zB) ?_
   exact zDZ (ds:=[rr 1 x78]) (ds':=[so 1 eStr x78]) (.cons (.cell (.move (.head _) (List.length_map _) (by decide) (.nil))) (.nil) (by decide)) rfl
  ·refine J_d 467 [] [3,25] [(3,iv (w64 (s41+1)))] [] [] zB ?_
   exact J_q (J_b (ih (w64 (s41+1)))) rfl
 ·exact xA (hk ()) rfl
theorem vX.ok (a1:(List ByteArray)):Ok Tryz.prog 116 [rr 0 a1] [rE 1 eStr a1] ((vX a1).map fun r=>(so 1 eStr r,[])):=by
 refine zJ c116 Tryz.f116 1 61 (fun q=>?_)
 unfold vX
 refine J_g 2 [] [(0,rr 0 a1)] [(0,rE 1 eStr a1)] zB ?_
 refine J_d 12 [] [8] [(8,bv (decide ((a1.length:Int)<2)))] [] [] zB ?_
 refine zG 8 (fun h2=>?_) (fun h2=>?_)
 ·refine J_g 52 [] [(2,rr 0 a1)] [(0,rE 1 eStr a1)] zB ?_
  exact zDZ (ds:=[rr 0 a1]) (ds':=[so 1 eStr a1]) (.cons (.cell (.move (.head _) (List.length_map _) (by decide) (.nil))) (.nil) (by decide)) rfl
 ·refine J_d 28 [] [3,8] [(3,iv 1)] [] [] zB ?_
  refine jW (K0:=(fun r:(List ByteArray)=>some (so 1 eStr r,[]))) (fun _=>rfl) (uS.ok a1 q _ (fun v80=>J_j ?_) 1)
  refine J_g 30 [] [(2,rr 0 a1)] [(0,rE 1 eStr a1)] zB ?_
  exact zDZ (ds:=[rr 0 a1]) (ds':=[so 1 eStr a1]) (.cons (.cell (.move (.head _) (List.length_map _) (by decide) (.nil))) (.nil) (by decide)) rfl
noncomputable def c62:Code:=(Tryz.f62.body).getD .skip
theorem uZ.ok (a1:(List ByteArray)):Ok Tryz.prog 62 [rr 0 a1] [rE 1 eStr a1] ((uZ a1).map fun r=>(so 1 eStr r,[])):=by
 refine zJ c62 Tryz.f62 1 7 (fun q=>?_)
 unfold uZ
 refine J_d 2 [] [] [] [] [] zB ?_
 refine zA (fun x2 h3=>?_)
 refine J_g 6 [] [(0,rr 0 a1)] [(0,rE 1 eStr x2)] (zF 1 (vJ («as»:=[rr 0 a1]) [(.tmp 3)] [32] false [(0,rE 1 eStr a1)] [0] (.cons (.rf rfl) (.nil)) (uV.ok a1) h3 (.tu (.nil))) zB) ?_
 refine zA (fun u4 h5=>?_)
 refine zKv (σ':=St.mk' [(0,rr 0 x2)] [(0,rE 1 eStr x2)]) (by simp only [rr,zIH h5]) ?_
 refine zA (fun x6 h7=>?_)
 refine J_g 14 [] [(2,rr 1 x6)] [(1,rE 1 eStr x6)] (zF 1 (vJ («as»:=[rr 0 x2]) [(.tmp 5)] [32] false [(0,rE 1 eStr x2)] [0] (.cons (.rf rfl) (.nil)) (vX.ok x2) h7 (.own 1)) zB) ?_
 exact zDZ (ds:=[rr 1 x6]) (ds':=[so 1 eStr x6]) (.cons (.cell (.move (.head _) (List.length_map _) (by decide) (.nil))) (.nil) (by decide)) rfl
noncomputable def c34:Code:=(Tryz.f34.body).getD .skip
theorem zCK.ok (a1:(List Pack)) (a2:(List Int)) (a3:(List Int)) (x4:(List Int)) (q:Wd) (kn:(List ByteArray)→Option (D×List Ent)) (hk:∀v:(List ByteArray),J (q.g Tryz.prog 34 0 42) c34 (atI c34 15) (St.mk' [(7,rr 0 v)] [(0,rE 1 eStr v)]) (some v) kn):
  ∀s19:((List ByteArray)×Int),J (q.g Tryz.prog 34 0 42) c34 (atI c34 116) (St.mk' [(0,sl 8 (Pack.enc false) a1),(1,sl 1 zC a2),(2,sl 1 zC a3),(7,rr 0 s19.1),(15,rr 2 x4),(16,iv (x4.length:Int)),(17,iv s19.2)] [(0,rE 1 eStr s19.1),(2,rE 1 zC x4)]) (zCK a1 a2 a3 x4 s19) kn:=by
 refine zAC (fun g ih s19=>?_)
 unfold zCu
 refine J_d 232 [] [18] [(18,bv (decide (s19.2< (x4.length:Int))))] [] [] zB ?_
 refine zG 18 (fun h20=>?_) (fun h20=>?_)
 ·refine zA (fun x21 h22=>?_)
  refine J_d 3736 [] [9,18] [(9,iv x21)] [] [] (zF 0 (zB5 (kk:=.i64) 25 2 1 2 zC (.tmp 15) (.tmp 17) h22) (zF 1 (zBU (d:=iv x21) 2 1 2 0 zC (.tmp 19) h22 (by kernel_rfl)) zB)) ?_
  refine zA (fun x23 h24=>?_)
  refine J_d 7474 [] [9,10] [(10,sv x23.Name)] [] [] (zF 2 (kD (kk:=.i64) 24 91 8 (Pack.enc false) (.tmp 21) (.tmp 22) h24) zB) ?_
  refine zA (fun x25 h26=>?_)
  refine zA (fun x27 h28=>?_)
  refine J_d 14950 [] [34] [(34,bv (x25 !=x27))] [] [] (zF 3 (vZ [(.tmp 26),(.tmp 27),(.tmp 28)] [24,25,9] (uP.ok a1 a2 x23.Name) h26) (zF 7 (vZ [(.tmp 30),(.tmp 31),(.tmp 32)] [24,25,9] (uP.ok a1 a3 x23.Name) h28) zB)) ?_
  refine wU (aft c34 1868) (fun v32:(List ByteArray)=>St.mk' [(0,sl 8 (Pack.enc false) a1),(1,sl 1 zC a2),(2,sl 1 zC a3),(7,rr 4 v32),(15,rr 2 x4),(16,iv (x4.length:Int)),(17,iv s19.2)] [(2,rE 1 zC x4),(4,rE 1 eStr v32)]) (fun v32=>?_) (fun jv32=>?_)
  ·refine J_d 935 [] [17] [(17,iv (w64 (s19.2+1)))] [] [] zB ?_
   refine uX 4 0 (Nat.le_of_ble_eq_true rfl) (Nat.le_of_ble_eq_true rfl) ?_
   exact J_q (J_b (ih (v32,w64 (s19.2+1)))) rfl
  ·refine zG 34 (fun h29=>?_) (fun h29=>?_)
   ·refine zA (fun x30 h31=>?_)
    refine J_d 29902 [] [7,10,34] [(7,rr 4 x30)] [0,4] [(4,rE 1 eStr x30)] (zF 2 (zBw 32 9 1 3 eStr [x23.Name] [0] [(.tmp 36)] [sv x23.Name]) (zF 3 (zFg 32 32 9 9 1 16 4 0 3 eStr (.tmp 35) (.tmp 37) h31) zB)) ?_
    exact xA (J_j (jv32 x30)) rfl
   ·refine uX 0 4 (Nat.le_of_ble_eq_true rfl) (Nat.le_of_ble_eq_true rfl) ?_
    exact xA (J_j (jv32 s19.1)) rfl
 ·exact xA (hk s19.1) rfl
theorem zAY.ok (a1:(List Pack)) (a2:(List Int)) (a3:(List Int)):Ok Tryz.prog 34 [sl 8 (Pack.enc false) a1,sl 1 zC a2,sl 1 zC a3] [] ((zAY a1 a2 a3).map fun r=>(so 1 eStr r,[])):=by
 refine zJ c34 Tryz.f34 0 42 (fun q=>?_)
 unfold zAY
 refine J_g 2 [] [(0,sl 8 (Pack.enc false) a1),(1,sl 1 zC a2),(2,sl 1 zC a3)] [] zB ?_
 refine J_d 6 [] [7] [(7,rr 0 ([]:List ByteArray))] [0] [(0,rE 1 eStr ([]:List ByteArray))] (zF 0 (zBw 32 9 1 0 eStr ([]:List ByteArray) [] [] []) zB) ?_
 refine zA (fun x4 h5=>?_)
 refine J_d 28 [] [15,16,17] [(15,rr 2 x4),(16,iv (x4.length:Int)),(17,iv 0)] [2] [(2,rE 1 zC x4)] (zF 2 (zBw 46 25 1 1 (eSl false 1 zC) [a2,a3] [0,1] [(.tmp 12),(.tmp 13)] [sl 1 zC a2,sl 1 zC a3]) (zF 3 (vJ («as»:=[rr 1 [a2,a3]]) [(.tmp 14)] [46] true [(1,rE 1 (eSl false 1 zC) [a2,a3])] [] (.cons (zDY (.head _) (zDE (fun _=>rfl)) rfl) (.nil)) (vK.ok [a2,a3]) h5 (.own 2) (hbor:=fun _=>⟨fhN,(zC7 (zEp (fun _=>(flatK yV zDq)) _))⟩)) zB)) ?_
 refine zFv (zCK.ok a1 a2 a3 x4 q _ (fun v33=>J_j ?_) (([]:List ByteArray),0))
 refine zA (fun x34 h35=>?_)
 refine J_g 30 [] [(6,rr 1 x34)] [(1,rE 1 eStr x34)] (zF 1 (vJ («as»:=[rr 0 v33]) [(.tmp 40)] [32] false [(0,rE 1 eStr v33)] [0] (.cons (.rf rfl) (.nil)) (uZ.ok v33) h35 (.own 1)) zB) ?_
 exact zDZ (ds:=[rr 1 x34]) (ds':=[so 1 eStr x34]) (.cons (.cell (.move (.head _) (List.length_map _) (by decide) (.nil))) (.nil) (by decide)) rfl
noncomputable def c73:Code:=(Tryz.f73.body).getD .skip
theorem zB0.ok (a1:(List Pack)) (x5:Int) (x7:Int) (q:Wd) (kn:(List Pack)→Option (D×List Ent)) (hk:∀v:(List Pack),J (q.g Tryz.prog 73 0 38) c73 (atI c73 15) (St.mk' [(9,rr 0 v)] [(0,rE 8 (Pack.enc false) v)]) (some v) kn):
  ∀s18:((List Pack)×Int),J (q.g Tryz.prog 73 0 38) c73 (atI c73 116) (St.mk' [(0,sl 8 (Pack.enc false) a1),(9,rr 0 s18.1),(21,rr 1 [x5,x7]),(22,iv ([x5,x7].length :Int)),(23,iv s18.2)] [(0,rE 8 (Pack.enc false) s18.1),(1,rE 1 zC [x5,x7])]) (zB0 a1 x5 x7 s18) kn:=by
 refine zAC (fun g ih s18=>?_)
 unfold jK
 refine J_d 232 [] [24] [(24,bv (decide (s18.2< ([x5,x7].length :Int))))] [] [] zB ?_
 refine zG 24 (fun h19=>?_) (fun h19=>?_)
 ·refine zA (fun x20 h21=>?_)
  refine J_g 3736 [] [(0,sl 8 (Pack.enc false) a1),(9,rr 0 s18.1),(11,iv x20),(21,rr 1 [x5,x7]),(22,iv ([x5,x7].length :Int)),(23,iv s18.2)] [(0,rE 8 (Pack.enc false) s18.1),(1,rE 1 zC [x5,x7])] (zF 0 (zB5 (kk:=.i64) 25 2 1 1 zC (.tmp 21) (.tmp 23) h21) (zF 1 (zBU (d:=iv x20) 2 1 1 0 zC (.tmp 25) h21 (by kernel_rfl)) zB)) ?_
  refine J_d 7474 [] [28] [(28,bv (decide (x20≥0)))] [] [] zB ?_
  refine wU (aft c73 1868) (fun v27:(List Pack)=>St.mk' [(0,sl 8 (Pack.enc false) a1),(9,rr 3 v27),(21,rr 1 [x5,x7]),(22,iv ([x5,x7].length :Int)),(23,iv s18.2)] [(1,rE 1 zC [x5,x7]),(3,rE 8 (Pack.enc false) v27)]) (fun v27=>?_) (fun jv27=>?_)
  ·refine J_d 935 [] [23] [(23,iv (w64 (s18.2+1)))] [] [] zB ?_
   refine uX 3 0 (Nat.le_of_ble_eq_true rfl) (Nat.le_of_ble_eq_true rfl) ?_
   exact J_q (J_b (ih (v27,w64 (s18.2+1)))) rfl
  ·refine zG 28 (fun h22=>?_) (fun h22=>?_)
   ·refine zA (fun x23 h24=>?_)
    refine zA (fun x25 h26=>?_)
    refine J_d 14950 [] [9,11,28] [(9,rr 3 x25)] [0,3] [(3,rE 8 (Pack.enc false) x25)] (zF 3 (kD (kk:=.i64) 24 91 8 (Pack.enc false) (.tmp 30) (.tmp 31) h24) (zF 5 (zBw 24 91 8 2 (Pack.enc false) [x23] [0] [(.tmp 33)] [.ag (Pack.enc false x23)]) (zF 6 (zFg 24 24 91 91 8 120 3 0 2 (Pack.enc false) (.tmp 29) (.tmp 34) h26) zB))) ?_
    exact xA (J_j (jv27 x25)) rfl
   ·refine uX 0 3 (Nat.le_of_ble_eq_true rfl) (Nat.le_of_ble_eq_true rfl) ?_
    exact xA (J_j (jv27 s18.1)) rfl
 ·exact xA (hk s18.1) rfl
theorem kI.ok (a1:(List Pack)) (a2:(List Int)) (a3:(List Int)) (a4:ByteArray):Ok Tryz.prog 73 [sl 8 (Pack.enc false) a1,sl 1 zC a2,sl 1 zC a3,sv a4] [] ((kI a1 a2 a3 a4).map fun r=>(so 8 (Pack.enc false) r,[])):=by
 refine zJ c73 Tryz.f73 0 38 (fun q=>?_)
 unfold kI
 refine J_g 2 [] [(0,sl 8 (Pack.enc false) a1),(1,sl 1 zC a2),(2,sl 1 zC a3),(3,sv a4)] [] zB ?_
 refine J_d 6 [] [9] [(9,rr 0 ([]:List Pack))] [0] [(0,rE 8 (Pack.enc false) ([]:List Pack))] (zF 0 (zBw 24 91 8 0 (Pack.enc false) ([]:List Pack) [] [] []) zB) ?_
 refine zA (fun x5 h6=>?_)
 refine zA (fun x7 h8=>?_)
 refine J_d 28 [] [1,2,3,21,22,23] [(21,rr 1 [x5,x7]),(22,iv ([x5,x7].length :Int)),(23,iv 0)] [1] [(1,rE 1 zC [x5,x7])] (zF 3 (vZ [(.tmp 13),(.tmp 14),(.tmp 15)] [24,25,9] (uP.ok a1 a2 a4) h6) (zF 7 (vZ [(.tmp 17),(.tmp 18),(.tmp 19)] [24,25,9] (uP.ok a1 a3 a4) h8) (zF 8 (zBw 25 2 1 1 zC [x5,x7] [0,1] [(.tmp 16),(.tmp 20)] [iv x5,iv x7]) zB))) ?_
 refine zFv (zB0.ok a1 x5 x7 q _ (fun v28=>J_j ?_) (([]:List Pack),0))
 refine J_g 30 [] [(8,rr 0 v28)] [(0,rE 8 (Pack.enc false) v28)] zB ?_
 exact zDZ (ds:=[rr 0 v28]) (ds':=[so 8 (Pack.enc false) v28]) (.cons (.cell (.move (.head _) (List.length_map _) (by decide) (.nil))) (.nil) (by decide)) rfl
noncomputable def c70:Code:=(Tryz.f70.body).getD .skip
theorem zCT.ok (x5:(List Pack)) (q:Wd) (kn:(List ByteArray)→Option (D×List Ent)) (hk:∀v:(List ByteArray),J (q.g Tryz.prog 70 0 31) c70 (atI c70 15) (St.mk' [(9,rr 0 v)] [(0,rE 1 eStr v)]) (some v) kn):
  ∀s12:((List ByteArray)×Int),J (q.g Tryz.prog 70 0 31) c70 (atI c70 116) (St.mk' [(9,rr 0 s12.1),(18,rr 1 x5),(19,iv (x5.length:Int)),(20,iv s12.2)] [(0,rE 1 eStr s12.1),(1,rE 8 (Pack.enc false) x5)]) (zCT x5 s12) kn:=by
 refine zAC (fun g ih s12=>?_)
 unfold zCs
 refine J_d 232 [] [21] [(21,bv (decide (s12.2< (x5.length:Int))))] [] [] zB ?_
 refine zG 21 (fun h13=>?_) (fun h13=>?_)
 ·refine zA (fun x14 h15=>?_)
  refine J_d 3736 [(2,2)] [11,21] [(11,pp 2)] [2] [(2,.box (Pack.enc false x14))] (zF 0 (zB5 (kk:=.i64) 24 91 8 1 (Pack.enc false) (.tmp 18) (.tmp 20) h15) (zF 1 (zBU (d:=.ag (Pack.enc false x14)) 91 8 1 0 (Pack.enc false) (.tmp 22) h15 (by kernel_rfl)) zB)) ?_
  refine zA (fun x16 h17=>?_)
  refine J_g 3737 [] [(9,rr 3 x16),(18,rr 1 x5),(19,iv (x5.length:Int)),(20,iv s12.2)] [(1,rE 8 (Pack.enc false) x5),(3,rE 1 eStr x16)] (zF 3 (zJC 32 32 9 9 1 16 3 0 eStr (.tmp 24) (.tmp 26) h17) zB) ?_
  refine J_d 935 [] [20] [(20,iv (w64 (s12.2+1)))] [] [] zB ?_
  refine uX 3 0 (Nat.le_of_ble_eq_true rfl) (Nat.le_of_ble_eq_true rfl) ?_
  exact J_q (J_b (ih (x16,w64 (s12.2+1)))) rfl
 ·exact xA (hk s12.1) rfl
theorem kT.ok (a1:(List Pack)) (a2:(List Int)) (a3:(List Int)) (a4:ByteArray):Ok Tryz.prog 70 [sl 8 (Pack.enc false) a1,sl 1 zC a2,sl 1 zC a3,sv a4] [] ((kT a1 a2 a3 a4).map fun r=>(so 1 eStr r,[])):=by
 refine zJ c70 Tryz.f70 0 31 (fun q=>?_)
 unfold kT
 refine J_g 2 [] [(0,sl 8 (Pack.enc false) a1),(1,sl 1 zC a2),(2,sl 1 zC a3),(3,sv a4)] [] zB ?_
 refine J_d 6 [] [9] [(9,rr 0 [a4])] [0] [(0,rE 1 eStr [a4])] (zF 1 (zBw 32 9 1 0 eStr [a4] [0] [(.tmp 12)] [sv a4]) zB) ?_
 refine zA (fun x5 h6=>?_)
 refine J_g 28 [] [(9,rr 0 [a4]),(18,rr 1 x5),(19,iv (x5.length:Int)),(20,iv 0)] [(0,rE 1 eStr [a4]),(1,rE 8 (Pack.enc false) x5)] (zF 4 (vJ («as»:=[sl 8 (Pack.enc false) a1,sl 1 zC a2,sl 1 zC a3,sv a4]) [(.tmp 14),(.tmp 15),(.tmp 16),(.tmp 17)] [24,25,25,9] false [] [] (.cons (.same rfl) (.cons (.same rfl) (.cons (.same rfl) (.cons (.same rfl) (.nil))))) (kI.ok a1 a2 a3 a4) h6 (.own 1)) zB) ?_
 refine zFv (zCT.ok x5 q _ (fun v18=>J_j ?_) ([a4],0))
 refine zA (fun x19 h20=>?_)
 refine J_g 30 [] [(8,rr 1 x19)] [(1,rE 1 eStr x19)] (zF 1 (vJ («as»:=[rr 0 v18]) [(.tmp 29)] [32] false [(0,rE 1 eStr v18)] [0] (.cons (.rf rfl) (.nil)) (uZ.ok v18) h20 (.own 1)) zB) ?_
 exact zDZ (ds:=[rr 1 x19]) (ds':=[so 1 eStr x19]) (.cons (.cell (.move (.head _) (List.length_map _) (by decide) (.nil))) (.nil) (by decide)) rfl
theorem zF8 (k:Nat) (w:World) (hk:0<k) (h1:k*64≤140737488355328) (h2:k≤4611686018427387904):Calls Tryz.prog 160 #[.slice none 0 0,.int .i64 (k:Int)] w fun e w'=>∃G,k≤G∧e= .returned (.slice (some ⟨w.heap.size,0,none⟩) 0 G)∧w'=w.drew.alloc (.cells (Builtin.zeroCells (.agg #[.string ByteArray.empty,.int .i64 0,.int .i64 0,.int .i64 0,.int .i64 0,.int .i64 0,.int .i64 0]:Value).cells k++Builtin.zeroCells (.agg #[.string ByteArray.empty,.int .i64 0,.int .i64 0,.int .i64 0,.int .i64 0,.int .i64 0,.int .i64 0]:Value).cells (G-k)) 104):=by
 have hinfo:(Tryz.prog.info? 104).map (fun i=>(i.zero,i.size,i.bytes))=some (some (.agg #[.string ByteArray.empty,.int .i64 0,.int .i64 0,.int .i64 0,.int .i64 0,.int .i64 0,.int .i64 0]:Value),7,64):=by kernel_rfl
 obtain ⟨i0,hi0,hq⟩:=Option.map_eq_some_iff.1 hinfo
 simp only [Prod.mk.injEq] at hq
 obtain ⟨hz0,hs,hb⟩:=hq
 have h:=Any8.slices_Grow_grow Tryz.grow160 i0 (.agg #[.string ByteArray.empty,.int .i64 0,.int .i64 0,.int .i64 0,.int .i64 0,.int .i64 0,.int .i64 0]:Value) hi0 hz0 (by omega) none 0 0 k [] w (Nat.le_refl _) (by omega) (by rw [hb]; omega) (by omega) (by simp) (fun _=>rfl) (fun a h=>by cases h)
 refine Calls.mono h ?_
 rintro e w' ⟨he,hw⟩
 refine ⟨_,?_,he,?_⟩
 ·exact Nat.le_trans (Nat.le_of_eq (Nat.zero_add k).symm) (grownCap_ge w (0+k) 0 104)
 ·rw [hw]
  simp
  rfl
theorem kZ.ok (a1:Int):Ok Tryz.prog 160 [nv,iv a1] [] ((kZ a1).map fun r=>(so 7 Term.enc r,[])):=by
 unfold kZ
 split
 ·rename_i h
  obtain ⟨h0,h1,h2⟩:=h
  obtain ⟨k,rfl⟩:=Int.eq_ofNat_of_zero_le h0
  exact zKC (el:=104) (z:=7) (zv:=.agg #[.string ByteArray.empty,.int .i64 0,.int .i64 0,.int .i64 0,.int .i64 0,.int .i64 0,.int .i64 0]) h0 rfl (fun hn w=>by
   have h:=Any8.slices_Grow_room Tryz.grow160 none 0 0 k w (Nat.le_refl _) (by omega) (by omega) (by omega)
   exact h) (fun hp w=>zF8 k w (by omega) (by omega) (by omega))
 ·exact fun _ h=>by cases h
noncomputable def zNd:Code:=(Tryz.f123.body).getD .skip
theorem uR.ok (a1:(List (List Term))) (q:Wd) (kn:(List Term)→Option (D×List Ent)) (hk:∀v:(List Term),J (q.g Tryz.prog 123 0 36) zNd (atI zNd 63) (St.mk' [(6,rr 0 v)] [(0,rE 7 Term.enc v)]) (some v) kn):
  ∀s19:((List Term)×Int),J (q.g Tryz.prog 123 0 36) zNd (atI zNd 500) (St.mk' [(6,rr 0 s19.1),(25,sl 1 (eSl false 7 Term.enc) a1),(26,iv (a1.length:Int)),(27,iv s19.2)] [(0,rE 7 Term.enc s19.1)]) (uR a1 s19) kn:=by
 refine zAC (fun g ih s19=>?_)
 unfold uJ
 refine J_d 1000 [] [28] [(28,bv (decide (s19.2< (a1.length:Int))))] [] [] zB ?_
 refine zG 28 (fun h20=>?_) (fun h20=>?_)
 ·refine zA (fun x21 h22=>?_)
  refine J_d 16024 [] [8,28] [(8,sl 7 Term.enc x21)] [] [] (zF 0 (kD (kk:=.i64) 89 80 1 (eSl false 7 Term.enc) (.tmp 25) (.tmp 27) h22) zB) ?_
  refine zA (fun x23 h24=>?_)
  refine J_g 16025 [] [(6,rr 1 x23),(25,sl 1 (eSl false 7 Term.enc) a1),(26,iv (a1.length:Int)),(27,iv s19.2)] [(1,rE 7 Term.enc x23)] (zF 2 (zJC 80 80 104 104 7 64 1 0 Term.enc (.tmp 31) (.tmp 32) h24) zB) ?_
  refine J_d 4007 [] [27] [(27,iv (w64 (s19.2+1)))] [] [] zB ?_
  refine uX 1 0 (Nat.le_of_ble_eq_true rfl) (Nat.le_of_ble_eq_true rfl) ?_
  exact J_q (J_b (ih (x23,w64 (s19.2+1)))) rfl
 ·exact xA (hk s19.1) rfl
theorem uT.ok (a1:(List (List Term))) (q:Wd) (kn:Int→Option (D×List Ent)) (hk:∀v:Int,J (q.g Tryz.prog 123 0 36) zNd (atI zNd 15) (St.mk' [(0,sl 1 (eSl false 7 Term.enc) a1),(3,iv v)] []) (some v) kn):
  ∀s6:(Int×Int),J (q.g Tryz.prog 123 0 36) zNd (atI zNd 116) (St.mk' [(0,sl 1 (eSl false 7 Term.enc) a1),(3,iv s6.1),(9,sl 1 (eSl false 7 Term.enc) a1),(10,iv (a1.length:Int)),(11,iv s6.2)] []) (uT a1 s6) kn:=by
 refine zAC (fun g ih s6=>?_)
 unfold uK
 refine J_d 232 [] [12] [(12,bv (decide (s6.2< (a1.length:Int))))] [] [] zB ?_
 refine zG 12 (fun h7=>?_) (fun h7=>?_)
 ·refine zA (fun x8 h9=>?_)
  refine J_g 3736 [] [(0,sl 1 (eSl false 7 Term.enc) a1),(3,iv s6.1),(5,sl 7 Term.enc x8),(9,sl 1 (eSl false 7 Term.enc) a1),(10,iv (a1.length:Int)),(11,iv s6.2)] [] (zF 0 (kD (kk:=.i64) 89 80 1 (eSl false 7 Term.enc) (.tmp 9) (.tmp 11) h9) zB) ?_
  refine J_g 7474 [] [(0,sl 1 (eSl false 7 Term.enc) a1),(3,iv (w64 (s6.1+(x8.length:Int)))),(9,sl 1 (eSl false 7 Term.enc) a1),(10,iv (a1.length:Int)),(11,iv s6.2)] [] zB ?_
  refine J_d 14950 [] [20] [(20,bv (decide ((w64 (s6.1+(x8.length:Int)))<0)))] [] [] zB ?_
  refine zG 20 (fun h10=>?_) (fun h10=>?_)
  ·exact zJ4
  ·refine J_d 935 [] [11,20] [(11,iv (w64 (s6.2+1)))] [] [] zB ?_
   exact J_q (J_b (ih (w64 (s6.1+(x8.length:Int)),w64 (s6.2+1)))) rfl
 ·exact xA (hk s6.1) rfl
theorem vY.ok (a1:(List (List Term))):Ok Tryz.prog 123 [sl 1 (eSl false 7 Term.enc) a1] [] ((vY a1).map fun r=>(so 7 Term.enc r,[])):=by
 refine zJ zNd Tryz.f123 0 36 (fun q=>?_)
 unfold vY
 refine J_g 2 [] [(0,sl 1 (eSl false 7 Term.enc) a1)] [] zB ?_
 refine J_g 6 [] [(0,sl 1 (eSl false 7 Term.enc) a1),(3,iv 0)] [] zB ?_
 refine J_d 28 [] [9,10,11] [(9,sl 1 (eSl false 7 Term.enc) a1),(10,iv (a1.length:Int)),(11,iv 0)] [] [] zB ?_
 refine zFv (uT.ok a1 q _ (fun v11=>J_j ?_) (0,0))
 refine zA (fun x12 h13=>?_)
 refine J_g 30 [] [(0,sl 1 (eSl false 7 Term.enc) a1),(6,rr 0 x12)] [(0,rE 7 Term.enc x12)] (zF 1 (vJ («as»:=[nv,iv v11]) [(.const (.slice none 0 0)),(.tmp 23)] [80,3] false [] [] (.cons (.same rfl) (.cons (.same rfl) (.nil))) (kZ.ok v11) h13 (.own 0)) zB) ?_
 refine J_d 124 [] [0,25,26,27] [(25,sl 1 (eSl false 7 Term.enc) a1),(26,iv (a1.length:Int)),(27,iv 0)] [] [] zB ?_
 refine zFv (uR.ok a1 q _ (fun v25=>J_j ?_) (x12,0))
 refine J_g 126 [] [(2,rr 0 v25)] [(0,rE 7 Term.enc v25)] zB ?_
 exact zDZ (ds:=[rr 0 v25]) (ds':=[so 7 Term.enc v25]) (.cons (.cell (.move (.head _) (List.length_map _) (by decide) (.nil))) (.nil) (by decide)) rfl
noncomputable def c76:Code:=(Tryz.f76.body).getD .skip
theorem kP.ok (x4:(List Term)) (q:Wd) (kn:(List ByteArray)→Option (D×List Ent)) (hk:∀v:(List ByteArray),J (q.g Tryz.prog 76 0 26) c76 (atI c76 15) (St.mk' [(3,rr 1 v)] [(1,rE 1 eStr v)]) (some v) kn):
  ∀s11:((List ByteArray)×Int),J (q.g Tryz.prog 76 0 26) c76 (atI c76 116) (St.mk' [(3,rr 1 s11.1),(12,rr 3 x4),(13,iv (x4.length:Int)),(14,iv s11.2)] [(1,rE 1 eStr s11.1),(3,rE 7 Term.enc x4)]) (kP x4 s11) kn:=by
 refine zAC (fun g ih s11=>?_)
 unfold jX
 refine J_d 232 [] [15] [(15,bv (decide (s11.2< (x4.length:Int))))] [] [] zB ?_
 refine zG 15 (fun h12=>?_) (fun h12=>?_)
 ·refine zA (fun x13 h14=>?_)
  refine J_d 3736 [(2,4)] [5,15] [(5,pp 4)] [4] [(4,.box (Term.enc x13))] (zF 0 (zB5 (kk:=.i64) 80 104 7 3 Term.enc (.tmp 12) (.tmp 14) h14) (zF 1 (zBU (d:=.ag (Term.enc x13)) 104 7 3 0 Term.enc (.tmp 16) h14 (by kernel_rfl)) zB)) ?_
  refine zA (fun x15 h16=>?_)
  refine J_g 3737 [] [(3,rr 6 x15),(12,rr 3 x4),(13,iv (x4.length:Int)),(14,iv s11.2)] [(3,rE 7 Term.enc x4),(6,rE 1 eStr x15)] (zF 3 (zBw 32 9 1 5 eStr [x13.Name] [0] [(.tmp 20)] [sv x13.Name]) (zF 4 (zFg 32 32 9 9 1 16 6 1 5 eStr (.tmp 18) (.tmp 21) h16) zB)) ?_
  refine J_d 935 [] [14] [(14,iv (w64 (s11.2+1)))] [] [] zB ?_
  refine uX 6 1 (Nat.le_of_ble_eq_true rfl) (Nat.le_of_ble_eq_true rfl) ?_
  exact J_q (J_b (ih (x15,w64 (s11.2+1)))) rfl
 ·exact xA (hk s11.1) rfl
theorem vT.ok (a1:Pack):Ok Tryz.prog 76 [.ag (Pack.enc false a1)] [] ((vT a1).map fun r=>(so 1 eStr r,[])):=by
 refine zJ c76 Tryz.f76 0 26 (fun q=>?_)
 unfold vT
 refine J_g 2 [(0,0)] [(1,pp 0)] [(0,.box (Pack.enc false a1))] zB ?_
 refine J_d 6 [] [3] [(3,rr 1 ([]:List ByteArray))] [1] [(1,rE 1 eStr ([]:List ByteArray))] (zF 0 (zBw 32 9 1 1 eStr ([]:List ByteArray) [] [] []) zB) ?_
 refine zA (fun x2 h3=>?_)
 refine zA (fun x4 h5=>?_)
 refine J_d 28 [] [1,12,13,14] [(12,rr 3 x4),(13,iv (x4.length:Int)),(14,iv 0)] [0,3] [(3,rE 7 Term.enc x4)] (zF 2 (vJ («as»:=[sl 1 (eSl false 7 Term.enc) a1.Needs]) [(.tmp 8)] [89] false [] [] (.cons (.same rfl) (.nil)) (vY.ok a1.Needs) h3 (.own 2)) (zF 5 (zJC 80 80 104 104 7 64 3 2 Term.enc (.tmp 9) (.tmp 11) h5) zB)) ?_
 refine zFv (kP.ok x4 q _ (fun v17=>J_j ?_) (([]:List ByteArray),0))
 refine zA (fun x18 h19=>?_)
 refine J_g 30 [] [(2,rr 2 x18)] [(2,rE 1 eStr x18)] (zF 1 (vJ («as»:=[rr 1 v17]) [(.tmp 24)] [32] false [(1,rE 1 eStr v17)] [1] (.cons (.rf rfl) (.nil)) (uZ.ok v17) h19 (.own 2)) zB) ?_
 exact zDZ (ds:=[rr 2 x18]) (ds':=[so 1 eStr x18]) (.cons (.cell (.move (.head _) (List.length_map _) (by decide) (.nil))) (.nil) (by decide)) rfl
noncomputable def c77:Code:=(Tryz.f77.body).getD .skip
theorem tC.ok (a1:ByteArray) (a2:(List ByteArray)):Ok Tryz.prog 77 [sv a1,pp 0] [.box [sl 1 eStr a2]] ((tC a1 a2).map fun r=>(bv r,[.box [sl 1 eStr a2]])):=by
 refine zJ c77 Tryz.f77 1 7 (fun q=>?_)
 unfold tC
 refine J_d 2 [] [] [] [] [] zB ?_
 refine zA (fun x3 h4=>?_)
 refine J_d 6 [] [0,1,3] [(3,bv x3)] [] [] (zF 2 (vZ [(.tmp 4),(.tmp 5)] [32,9] (yA.ok a2 a1) h4) zB) ?_
 exact xJ rfl
theorem xZ.ok (a1:(List ByteArray)) (a2:(List ByteArray)) (q:Wd) (kn:Unit→Option (D×List Ent)) (hk:∀v:Unit,J (q.g Tryz.prog 122 2 19) zKc (atI zKc 7) (St.mk' [] [(0,rE 1 eStr a1),(1,.box [sl 1 eStr a2])]) (some v) kn):
  ∀s9:Int,J (q.g Tryz.prog 122 2 19) zKc (atI zKc 52) (St.mk' [(0,rr 0 a1),(1,.fn 77 [pp 1]),(7,iv (a1.length:Int)),(8,iv s9)] [(0,rE 1 eStr a1),(1,.box [sl 1 eStr a2])]) (xZ a1 a2 s9) (Fl.go (fun r:Int=>some (iv r,[rE 1 eStr a1,.box [sl 1 eStr a2]])) kn):=by
 refine zAC (fun g ih s9=>?_)
 unfold yJ
 refine J_d 104 [] [9] [(9,bv (decide (s9< (a1.length:Int))))] [] [] zB ?_
 refine zG 9 (fun h10=>?_) (fun h10=>?_)
 ·refine J_d 1688 [] [5,9] [(5,iv s9)] [] [] zB ?_
  refine zA (fun x11 h12=>?_)
  refine zA (fun x13 h14=>?_)
  refine J_d 3378 [] [16] [(16,bv x13)] [] [] (zF 3 (zB5 (kk:=.i64) 32 9 1 0 eStr (.tmp 12) (.tmp 13) h12) (zF 4 (zBU (d:=sv x11) 9 1 0 0 eStr (.tmp 14) h12 (by kernel_rfl)) (zF 5 (zE6 [(1,.box [sl 1 eStr a2])] [] (zEr 11 [(.tmp 15)] [9] false [(1,.box [sl 1 eStr a2])] [1] [sv x11] [pp 1] (.cons (.same rfl) (.cons (.pt rfl) (.nil))) (tC.ok x11 a2) h14 (.same rfl rfl))) zB))) ?_
  refine zG 16 (fun h15=>?_) (fun h15=>?_)
  ·refine J_d 13516 [] [0,1,4,5,7,8,16] [(4,iv s9)] [] [] zB ?_
   exact xJ rfl
  ·refine J_d 423 [] [5,8,16] [(8,iv (w64 (s9+1)))] [] [] zB ?_
   exact J_q (J_b (ih (w64 (s9+1)))) rfl
 ·exact xA (hk ()) rfl
theorem yX.ok (a1:(List ByteArray)) (a2:(List ByteArray)):Ok Tryz.prog 122 [rr 0 a1,.fn 77 [pp 1]] [rE 1 eStr a1,.box [sl 1 eStr a2]] ((yX a1 a2).map fun r=>(iv r,[rE 1 eStr a1,.box [sl 1 eStr a2]])):=by
 refine zJ zKc Tryz.f122 2 19 (fun q=>?_)
 unfold yX
 refine J_g 2 [] [(0,rr 0 a1),(1,.fn 77 [pp 1])] [(0,rE 1 eStr a1),(1,.box [sl 1 eStr a2])] zB ?_
 refine J_d 12 [] [7,8] [(7,iv (a1.length:Int)),(8,iv 0)] [] [] zB ?_
 refine jW (K0:=(fun r:Int=>some (iv r,[rE 1 eStr a1,.box [sl 1 eStr a2]]))) (fun _=>rfl) (xZ.ok a1 a2 q _ (fun v16=>J_j ?_) 0)
 refine J_d 14 [] [4] [(4,iv (-1))] [] [] zB ?_
 exact xJ rfl
theorem zW.ok (a1:(List ByteArray)) (a2:(List ByteArray)):Ok Tryz.prog 75 [rr 0 a1,.fn 77 [pp 1]] [rE 1 eStr a1,.box [sl 1 eStr a2]] ((zW a1 a2).map fun r=>(bv r,[rE 1 eStr a1,.box [sl 1 eStr a2]])):=by
 refine zJ c75 Tryz.f75 2 9 (fun q=>?_)
 unfold zW
 refine J_d 2 [] [] [] [] [] zB ?_
 refine zA (fun x3 h4=>?_)
 refine J_d 6 [] [0,1,4] [(4,bv (decide (x3≥0)))] [] [] (zF 2 (zE6 [(0,rE 1 eStr a1),(1,.box [sl 1 eStr a2])] [] (vJ («as»:=[rr 0 a1,.fn 77 [pp 1]]) [(.tmp 5),(.tmp 6)] [32,99] false [(0,rE 1 eStr a1),(1,.box [sl 1 eStr a2])] [0,1] (.cons (.rf rfl) (.cons (.fn (.cons (.pt rfl) (.nil))) (.nil))) (yX.ok a1 a2) h4 (.same rfl rfl))) zB) ?_
 exact xJ rfl
noncomputable def c74:Code:=(Tryz.f74.body).getD .skip
theorem jQ.ok (a1:Pack) (a2:(List ByteArray)):Ok Tryz.prog 74 [.ag (Pack.enc false a1),pp 0] [.box [sl 1 eStr a2]] ((jQ a1 a2).map fun r=>(bv r,[.box [sl 1 eStr a2]])):=by
 refine zJ c74 Tryz.f74 1 8 (fun q=>?_)
 unfold jQ
 refine J_d 2 [(0,1)] [0,2] [(2,pp 1)] [1] [(1,.box (Pack.enc false a1))] zB ?_
 refine zA (fun x3 h4=>?_)
 refine zA (fun x5 h6=>?_)
 refine J_g 6 [] [(3,bv x5)] [(0,.box [sl 1 eStr a2])] (zF 1 (vJ («as»:=[.ag (Pack.enc false a1)]) [(.tmp 4)] [91] false [] [] (.cons (.same rfl) (.nil)) (vT.ok a1) h4 (.own 2)) (zF 3 (zE6 [(2,rE 1 eStr x3),(0,.box [sl 1 eStr a2])] [] (vJ («as»:=[rr 2 x3,.fn 77 [pp 0]]) [(.tmp 5),(.tmp 6)] [32,99] false [(2,rE 1 eStr x3),(0,.box [sl 1 eStr a2])] [2,0] (.cons (.rf rfl) (.cons (.fn (.cons (.pt rfl) (.nil))) (.nil))) (zW.ok x3 a2) h6 (.same rfl rfl))) zB)) ?_
 exact xJ rfl
theorem xY.ok (a1:(List Pack)) (a2:(List ByteArray)) (q:Wd) (kn:Unit→Option (D×List Ent)) (hk:∀v:Unit,J (q.g Tryz.prog 121 2 19) zMQ (atI zMQ 7) (St.mk' [] [(0,rE 8 (Pack.enc false) a1),(1,.box [sl 1 eStr a2])]) (some v) kn):
  ∀s9:Int,J (q.g Tryz.prog 121 2 19) zMQ (atI zMQ 52) (St.mk' [(0,rr 0 a1),(1,.fn 74 [pp 1]),(7,iv (a1.length:Int)),(8,iv s9)] [(0,rE 8 (Pack.enc false) a1),(1,.box [sl 1 eStr a2])]) (xY a1 a2 s9) (Fl.go (fun r:Int=>some (iv r,[rE 8 (Pack.enc false) a1,.box [sl 1 eStr a2]])) kn):=by
 refine zAC (fun g ih s9=>?_)
 unfold yK
 refine J_d 104 [] [9] [(9,bv (decide (s9< (a1.length:Int))))] [] [] zB ?_
 refine zG 9 (fun h10=>?_) (fun h10=>?_)
 ·refine J_d 1688 [] [5,9] [(5,iv s9)] [] [] zB ?_
  refine zA (fun x11 h12=>?_)
  refine zA (fun x13 h14=>?_)
  refine J_d 3378 [] [16] [(16,bv x13)] [] [] (zF 3 (zB5 (kk:=.i64) 24 91 8 0 (Pack.enc false) (.tmp 12) (.tmp 13) h12) (zF 4 (zBU (d:=.ag (Pack.enc false x11)) 91 8 0 0 (Pack.enc false) (.tmp 14) h12 (by kernel_rfl)) (zF 5 (zE6 [(1,.box [sl 1 eStr a2])] [] (zEr 11 [(.tmp 15)] [91] false [(1,.box [sl 1 eStr a2])] [1] [.ag (Pack.enc false x11)] [pp 1] (.cons (.same rfl) (.cons (.pt rfl) (.nil))) (jQ.ok x11 a2) h14 (.same rfl rfl))) zB))) ?_
  refine zG 16 (fun h15=>?_) (fun h15=>?_)
  ·refine J_d 13516 [] [0,1,4,5,7,8,16] [(4,iv s9)] [] [] zB ?_
   exact xJ rfl
  ·refine J_d 423 [] [5,8,16] [(8,iv (w64 (s9+1)))] [] [] zB ?_
   exact J_q (J_b (ih (w64 (s9+1)))) rfl
 ·exact xA (hk ()) rfl
theorem yZ.ok (a1:(List Pack)) (a2:(List ByteArray)):Ok Tryz.prog 121 [rr 0 a1,.fn 74 [pp 1]] [rE 8 (Pack.enc false) a1,.box [sl 1 eStr a2]] ((yZ a1 a2).map fun r=>(iv r,[rE 8 (Pack.enc false) a1,.box [sl 1 eStr a2]])):=by
 refine zJ zMQ Tryz.f121 2 19 (fun q=>?_)
 unfold yZ
 refine J_g 2 [] [(0,rr 0 a1),(1,.fn 74 [pp 1])] [(0,rE 8 (Pack.enc false) a1),(1,.box [sl 1 eStr a2])] zB ?_
 refine J_d 12 [] [7,8] [(7,iv (a1.length:Int)),(8,iv 0)] [] [] zB ?_
 refine jW (K0:=(fun r:Int=>some (iv r,[rE 8 (Pack.enc false) a1,.box [sl 1 eStr a2]]))) (fun _=>rfl) (xY.ok a1 a2 q _ (fun v16=>J_j ?_) 0)
 refine J_d 14 [] [4] [(4,iv (-1))] [] [] zB ?_
 exact xJ rfl
noncomputable def c72:Code:=(Tryz.f72.body).getD .skip
theorem zX.ok (a1:(List Pack)) (a2:(List ByteArray)):Ok Tryz.prog 72 [rr 0 a1,.fn 74 [pp 1]] [rE 8 (Pack.enc false) a1,.box [sl 1 eStr a2]] ((zX a1 a2).map fun r=>(bv r,[rE 8 (Pack.enc false) a1,.box [sl 1 eStr a2]])):=by
 refine zJ c72 Tryz.f72 2 9 (fun q=>?_)
 unfold zX
 refine J_d 2 [] [] [] [] [] zB ?_
 refine zA (fun x3 h4=>?_)
 refine J_d 6 [] [0,1,4] [(4,bv (decide (x3≥0)))] [] [] (zF 2 (zE6 [(0,rE 8 (Pack.enc false) a1),(1,.box [sl 1 eStr a2])] [] (vJ («as»:=[rr 0 a1,.fn 74 [pp 1]]) [(.tmp 5),(.tmp 6)] [24,100] false [(0,rE 8 (Pack.enc false) a1),(1,.box [sl 1 eStr a2])] [0,1] (.cons (.rf rfl) (.cons (.fn (.cons (.pt rfl) (.nil))) (.nil))) (yZ.ok a1 a2) h4 (.same rfl rfl))) zB) ?_
 exact xJ rfl
noncomputable def c71:Code:=(Tryz.f71.body).getD .skip
theorem vR.ok (a1:ByteArray) (a2:(List ByteArray)) (a3:(List Pack)) (a4:(List Int)) (a5:(List Int)):Ok Tryz.prog 71 [sv a1,sl 1 eStr a2,pp 0,pp 1,pp 2] [.box [sl 8 (Pack.enc false) a3],.box [sl 1 zC a4],.box [sl 1 zC a5]] ((vR a1 a2 a3 a4 a5).map fun r=>(bv r,[.box [sl 8 (Pack.enc false) a3],.box [sl 1 zC a4],.box [sl 1 zC a5]])):=by
 refine zJ c71 Tryz.f71 3 15 (fun q=>?_)
 unfold vR
 refine J_d 2 [(0,3)] [1,6] [(6,pp 3)] [3] [(3,.box [sl 1 eStr a2])] zB ?_
 refine zA (fun x6 h7=>?_)
 refine zA (fun x8 h9=>?_)
 refine J_d 6 [] [0,2,3,4,6,7] [(7,bv x8)] [3] [] (zF 4 (vJ («as»:=[sl 8 (Pack.enc false) a3,sl 1 zC a4,sl 1 zC a5,sv a1]) [(.tmp 8),(.tmp 9),(.tmp 10),(.tmp 11)] [24,25,25,9] false [] [] (.cons (.same rfl) (.cons (.same rfl) (.cons (.same rfl) (.cons (.same rfl) (.nil))))) (kI.ok a3 a4 a5 a1) h7 (.own 4)) (zF 6 (zE6 [(4,rE 8 (Pack.enc false) x6),(3,.box [sl 1 eStr a2])] [] (vJ («as»:=[rr 4 x6,.fn 74 [pp 3]]) [(.tmp 12),(.tmp 13)] [24,100] false [(4,rE 8 (Pack.enc false) x6),(3,.box [sl 1 eStr a2])] [4,3] (.cons (.rf rfl) (.cons (.fn (.cons (.pt rfl) (.nil))) (.nil))) (zX.ok x6 a2) h9 (.same rfl rfl))) zB)) ?_
 exact xJ rfl
noncomputable def c80:Code:=(Tryz.f80.body).getD .skip
theorem jR.ok (a1:Term) (a2:(List ByteArray)):Ok Tryz.prog 80 [.ag (Term.enc a1),pp 0] [.box [sl 1 eStr a2]] ((jR a1 a2).map fun r=>(bv r,[.box [sl 1 eStr a2]])):=by
 refine zJ c80 Tryz.f80 1 8 (fun q=>?_)
 unfold jR
 refine J_d 2 [(0,1)] [0,2] [(2,pp 1)] [1] [(1,.box (Term.enc a1))] zB ?_
 refine zA (fun x3 h4=>?_)
 refine J_g 6 [] [(3,bv x3)] [(0,.box [sl 1 eStr a2])] (zF 3 (vZ [(.tmp 4),(.tmp 6)] [32,9] (yA.ok a2 a1.Name) h4) zB) ?_
 exact xJ rfl
theorem wE.ok (a1:(List Term)) (a2:(List ByteArray)) (q:Wd) (kn:Unit→Option (D×List Ent)) (hk:∀v:Unit,J (q.g Tryz.prog 124 1 19) c124 (atI c124 7) (St.mk' [] [(0,.box [sl 1 eStr a2])]) (some v) kn):
  ∀s9:Int,J (q.g Tryz.prog 124 1 19) c124 (atI c124 52) (St.mk' [(0,sl 7 Term.enc a1),(1,.fn 80 [pp 0]),(7,iv (a1.length:Int)),(8,iv s9)] [(0,.box [sl 1 eStr a2])]) (wE a1 a2 s9) (Fl.go (fun r:Int=>some (iv r,[.box [sl 1 eStr a2]])) kn):=by
 refine zAC (fun g ih s9=>?_)
 unfold yN
 refine J_d 104 [] [9] [(9,bv (decide (s9< (a1.length:Int))))] [] [] zB ?_
 refine zG 9 (fun h10=>?_) (fun h10=>?_)
 ·refine J_d 1688 [] [5,9] [(5,iv s9)] [] [] zB ?_
  refine zA (fun x11 h12=>?_)
  refine zA (fun x13 h14=>?_)
  refine J_d 3378 [] [16] [(16,bv x13)] [] [] (zF 3 (kD (kk:=.i64) 80 104 7 Term.enc (.tmp 12) (.tmp 13) h12) (zF 5 (zE6 [(0,.box [sl 1 eStr a2])] [] (zEr 11 [(.tmp 15)] [104] false [(0,.box [sl 1 eStr a2])] [0] [.ag (Term.enc x11)] [pp 0] (.cons (.same rfl) (.cons (.pt rfl) (.nil))) (jR.ok x11 a2) h14 (.same rfl rfl))) zB)) ?_
  refine zG 16 (fun h15=>?_) (fun h15=>?_)
  ·refine J_g 13516 [] [(4,iv s9)] [(0,.box [sl 1 eStr a2])] zB ?_
   exact xJ rfl
  ·refine J_d 423 [] [5,8,16] [(8,iv (w64 (s9+1)))] [] [] zB ?_
   exact J_q (J_b (ih (w64 (s9+1)))) rfl
 ·exact xA (hk ()) rfl
theorem xE.ok (a1:(List Term)) (a2:(List ByteArray)):Ok Tryz.prog 124 [sl 7 Term.enc a1,.fn 80 [pp 0]] [.box [sl 1 eStr a2]] ((xE a1 a2).map fun r=>(iv r,[.box [sl 1 eStr a2]])):=by
 refine zJ c124 Tryz.f124 1 19 (fun q=>?_)
 unfold xE
 refine J_g 2 [] [(0,sl 7 Term.enc a1),(1,.fn 80 [pp 0])] [(0,.box [sl 1 eStr a2])] zB ?_
 refine J_d 12 [] [7,8] [(7,iv (a1.length:Int)),(8,iv 0)] [] [] zB ?_
 refine jW (K0:=(fun r:Int=>some (iv r,[.box [sl 1 eStr a2]]))) (fun _=>rfl) (wE.ok a1 a2 q _ (fun v16=>J_j ?_) 0)
 refine J_d 14 [] [4] [(4,iv (-1))] [] [] zB ?_
 exact xJ rfl
theorem zY.ok (a1:(List Term)) (a2:(List ByteArray)):Ok Tryz.prog 79 [sl 7 Term.enc a1,.fn 80 [pp 0]] [.box [sl 1 eStr a2]] ((zY a1 a2).map fun r=>(bv r,[.box [sl 1 eStr a2]])):=by
 refine zJ c79 Tryz.f79 1 9 (fun q=>?_)
 unfold zY
 refine J_d 2 [] [] [] [] [] zB ?_
 refine zA (fun x3 h4=>?_)
 refine J_d 6 [] [0,1,4] [(4,bv (decide (x3≥0)))] [] [] (zF 2 (zE6 [(0,.box [sl 1 eStr a2])] [] (vJ («as»:=[sl 7 Term.enc a1,.fn 80 [pp 0]]) [(.tmp 5),(.tmp 6)] [80,105] false [(0,.box [sl 1 eStr a2])] [0] (.cons (.same rfl) (.cons (.fn (.cons (.pt rfl) (.nil))) (.nil))) (xE.ok a1 a2) h4 (.same rfl rfl))) zB) ?_
 exact xJ rfl
noncomputable def c78:Code:=(Tryz.f78.body).getD .skip
theorem vS.ok (a1:(List ByteArray)) (a2:(List Term)):Ok Tryz.prog 78 [sl 1 eStr a1,pp 0] [.box [sl 7 Term.enc a2]] ((vS a1 a2).map fun r=>(bv r,[.box [sl 7 Term.enc a2]])):=by
 refine zJ c78 Tryz.f78 1 7 (fun q=>?_)
 unfold vS
 refine J_d 2 [(0,1)] [0,2] [(2,pp 1)] [1] [(1,.box [sl 1 eStr a1])] zB ?_
 refine zA (fun x3 h4=>?_)
 refine J_d 6 [] [1,2,3] [(3,bv x3)] [1] [] (zF 2 (zE6 [(1,.box [sl 1 eStr a1])] [] (vJ («as»:=[sl 7 Term.enc a2,.fn 80 [pp 1]]) [(.tmp 4),(.tmp 5)] [80,105] false [(1,.box [sl 1 eStr a1])] [1] (.cons (.same rfl) (.cons (.fn (.cons (.pt rfl) (.nil))) (.nil))) (zY.ok a2 a1) h4 (.same rfl rfl))) zB) ?_
 exact xJ rfl
noncomputable def c36:Code:=(Tryz.f36.body).getD .skip
theorem zA2.ok (a1:(List Pack)) (x6:(List ByteArray)) (x8:(List ByteArray)) (x17:(List Int)) (s46:Int) (x50:Pack) (q:Wd) (kn:Unit→Option (D×List Ent)) (hk:∀v:Unit,J (q.g Tryz.prog 36 0 70) c36 (aft c36 8012) (St.mk' [(5,pp 0),(11,sl 1 eStr x6),(12,sl 1 eStr x8),(43,rr 4 x17),(44,iv (x17.length:Int)),(45,iv s46)] [(0,.box [sl 8 (Pack.enc false) a1]),(4,rE 1 zC x17)]) (some v) kn):
  ∀s62:Int,J (q.g Tryz.prog 36 0 70) c36 (atI c36 128204) (St.mk' [(5,pp 0),(11,sl 1 eStr x6),(12,sl 1 eStr x8),(43,rr 4 x17),(44,iv (x17.length:Int)),(45,iv s46),(53,sl 1 (eSl false 7 Term.enc) x50.Needs),(54,iv (x50.Needs.length:Int)),(55,iv s62)] [(0,.box [sl 8 (Pack.enc false) a1]),(4,rE 1 zC x17)]) (zA2 a1 x6 x8 x17 s46 x50 s62) (Fl.go (fun r:Bool=>some (bv r,[])) kn):=by
 refine zAC (fun g ih s62=>?_)
 unfold zAb
 refine J_d 256408 [] [56] [(56,bv (decide (s62< (x50.Needs.length:Int))))] [] [] zB ?_
 refine zG 56 (fun h63=>?_) (fun h63=>?_)
 ·refine zA (fun x64 h65=>?_)
  refine J_g 4102552 [(2,5)] [(5,pp 0),(11,sl 1 eStr x6),(12,sl 1 eStr x8),(17,pp 5),(43,rr 4 x17),(44,iv (x17.length:Int)),(45,iv s46),(53,sl 1 (eSl false 7 Term.enc) x50.Needs),(54,iv (x50.Needs.length:Int)),(55,iv s62)] [(0,.box [sl 8 (Pack.enc false) a1]),(4,rE 1 zC x17),(5,.box [sl 7 Term.enc x64])] (zF 0 (kD (kk:=.i64) 89 80 1 (eSl false 7 Term.enc) (.tmp 53) (.tmp 55) h65) zB) ?_
  refine J_d 8205106 [] [17,18] [(18,.fn 78 [pp 5])] [] [] zB ?_
  refine zA (fun x66 h67=>?_)
  refine wU (atI c36 16410215) (fun v71:Bool=>St.mk' [(5,pp 0),(11,sl 1 eStr x6),(12,sl 1 eStr x8),(43,rr 4 x17),(44,iv (x17.length:Int)),(45,iv s46),(53,sl 1 (eSl false 7 Term.enc) x50.Needs),(54,iv (x50.Needs.length:Int)),(55,iv s62),(67,bv v71)] [(0,.box [sl 8 (Pack.enc false) a1]),(4,rE 1 zC x17)]) (fun v71=>?_) (fun jv71=>?_)
  ·refine zG 67 (fun h72=>?_) (fun h72=>?_)
   ·refine J_g 65640860 [] [(10,bv true)] [] zB ?_
    exact xJ rfl
   ·refine J_d 1025639 [] [55,67] [(55,iv (w64 (s62+1)))] [] [] zB ?_
    exact J_q (J_b (ih (w64 (s62+1)))) rfl
  ·refine uN (fun h68=>?_) (fun h68=>?_)
   ·refine zA (fun x69 h70=>?_)
    refine J_d 16410214 [] [18,67] [(67,bv x69)] [5] [] (zF 2 (zE6 [(5,.box [sl 7 Term.enc x64])] [] (zEr 60 [(.tmp 61)] [32] false [(5,.box [sl 7 Term.enc x64])] [5] [sl 1 eStr x6] [pp 5] (.cons (.same rfl) (.cons (.pt rfl) (.nil))) (vS.ok x6 x64) h67 (.same rfl rfl))) (vV 3 [(62,bv x66)] [] h68 (zAR 6 3 63 true (zE6 [(5,.box [sl 7 Term.enc x64])] [] (zEr 64 [(.tmp 65)] [32] false [(5,.box [sl 7 Term.enc x64])] [5] [sl 1 eStr x8] [pp 5] (.cons (.same rfl) (.cons (.pt rfl) (.nil))) (vS.ok x8 x64) h70 (.same rfl rfl))) zB))) ?_
    exact xA (J_j (jv71 x69)) rfl
   ·refine J_d 16410214 [] [18,67] [(67,bv false)] [5] [] (zF 2 (zE6 [(5,.box [sl 7 Term.enc x64])] [] (zEr 60 [(.tmp 61)] [32] false [(5,.box [sl 7 Term.enc x64])] [5] [sl 1 eStr x6] [pp 5] (.cons (.same rfl) (.cons (.pt rfl) (.nil))) (vS.ok x6 x64) h67 (.same rfl rfl))) (vV 3 [(62,bv x66)] [] h68 zB)) ?_
    exact xA (J_j (jv71 false)) rfl
 ·exact xA (hk ()) rfl
theorem zA3.ok (a1:(List Pack)) (x6:(List ByteArray)) (x8:(List ByteArray)) (x17:(List Int)) (q:Wd) (kn:Unit→Option (D×List Ent)) (hk:∀v:Unit,J (q.g Tryz.prog 36 0 70) c36 (atI c36 63) (St.mk' [] []) (some v) kn):
  ∀s46:Int,J (q.g Tryz.prog 36 0 70) c36 (atI c36 500) (St.mk' [(5,pp 0),(11,sl 1 eStr x6),(12,sl 1 eStr x8),(43,rr 4 x17),(44,iv (x17.length:Int)),(45,iv s46)] [(0,.box [sl 8 (Pack.enc false) a1]),(4,rE 1 zC x17)]) (zA3 a1 x6 x8 x17 s46) (Fl.go (fun r:Bool=>some (bv r,[])) kn):=by
 refine zAC (fun g ih s46=>?_)
 unfold jT
 refine J_d 1000 [] [46] [(46,bv (decide (s46< (x17.length:Int))))] [] [] zB ?_
 refine zG 46 (fun h47=>?_) (fun h47=>?_)
 ·refine zA (fun x48 h49=>?_)
  refine J_d 16024 [] [15,46] [(15,iv x48)] [] [] (zF 0 (zB5 (kk:=.i64) 25 2 1 4 zC (.tmp 43) (.tmp 45) h49) (zF 1 (zBU (d:=iv x48) 2 1 4 0 zC (.tmp 47) h49 (by kernel_rfl)) zB)) ?_
  refine zA (fun x50 h51=>?_)
  refine J_d 32050 [] [15,53,54,55] [(53,sl 1 (eSl false 7 Term.enc) x50.Needs),(54,iv (x50.Needs.length:Int)),(55,iv 0)] [] [] (zF 2 (kD (kk:=.i64) 24 91 8 (Pack.enc false) (.tmp 49) (.tmp 50) h51) zB) ?_
  refine jW (K0:=(fun r:Bool=>some (bv r,[]))) (fun _=>rfl) (zA2.ok a1 x6 x8 x17 s46 x50 q _ (fun v73=>J_j ?_) 0)
  refine J_d 4007 [] [45] [(45,iv (w64 (s46+1)))] [] [] zB ?_
  exact J_q (J_b (ih (w64 (s46+1)))) rfl
 ·exact xA (hk ()) rfl
theorem wZ.ok (a1:(List Pack)) (a2:(List Int)) (a3:(List Int)) (a4:ByteArray) (a5:ByteArray):Ok Tryz.prog 36 [sl 8 (Pack.enc false) a1,sl 1 zC a2,sl 1 zC a3,sv a4,sv a5] [] ((wZ a1 a2 a3 a4 a5).map fun r=>(bv r,[])):=by
 refine zJ c36 Tryz.f36 0 70 (fun q=>?_)
 unfold wZ
 refine J_g 2 [(0,0),(1,1),(2,2)] [(3,sv a4),(4,sv a5),(5,pp 0),(6,pp 1),(7,pp 2)] [(0,.box [sl 8 (Pack.enc false) a1]),(1,.box [sl 1 zC a2]),(2,.box [sl 1 zC a3])] zB ?_
 refine zA (fun x6 h7=>?_)
 refine zA (fun x8 h9=>?_)
 refine J_g 6 [] [(3,sv a4),(4,sv a5),(5,pp 0),(6,pp 1),(7,pp 2),(11,rr 3 x6),(12,rr 4 x8)] [(0,.box [sl 8 (Pack.enc false) a1]),(1,.box [sl 1 zC a2]),(2,.box [sl 1 zC a3]),(3,rE 1 eStr x6),(4,rE 1 eStr x8)] (zF 4 (vJ («as»:=[sl 8 (Pack.enc false) a1,sl 1 zC a2,sl 1 zC a3,sv a4]) [(.tmp 19),(.tmp 20),(.tmp 21),(.tmp 22)] [24,25,25,9] false [] [] (.cons (.same rfl) (.cons (.same rfl) (.cons (.same rfl) (.cons (.same rfl) (.nil))))) (kT.ok a1 a2 a3 a4) h7 (.own 3)) (zF 9 (vJ («as»:=[sl 8 (Pack.enc false) a1,sl 1 zC a2,sl 1 zC a3,sv a5]) [(.tmp 24),(.tmp 25),(.tmp 26),(.tmp 27)] [24,25,25,9] false [] [] (.cons (.same rfl) (.cons (.same rfl) (.cons (.same rfl) (.cons (.same rfl) (.nil))))) (kT.ok a1 a2 a3 a5) h9 (.own 4)) zB)) ?_
 refine J_g 14 [] [(3,sv a4),(4,sv a5),(5,pp 0),(6,pp 1),(7,pp 2),(11,rr 3 x6),(12,rr 4 x8),(13,.fn 71 [pp 0,pp 1,pp 2])] [(0,.box [sl 8 (Pack.enc false) a1]),(1,.box [sl 1 zC a2]),(2,.box [sl 1 zC a3]),(3,rE 1 eStr x6),(4,rE 1 eStr x8)] zB ?_
 refine zA (fun x10 h11=>?_)
 refine zBv [(3,sv a4),(4,sv a5),(5,pp 0),(6,pp 1),(7,pp 2),(11,rr 3 x6),(12,rr 4 x8),(13,.fn 71 [pp 0,pp 1,pp 2])] [(4,rE 1 eStr x8),(0,.box [sl 8 (Pack.enc false) a1]),(1,.box [sl 1 zC a2]),(2,.box [sl 1 zC a3]),(3,rE 1 eStr x6)] (by kernel_rfl) ?_
 refine zGu 4 (z:=1) (xs:=x8.map eStr) (tm2:=[(3,sv a4),(4,sv a5),(5,pp 0),(6,pp 1),(7,pp 2),(11,rr 3 x6),(12,sl 1 eStr x8),(13,.fn 71 [pp 0,pp 1,pp 2])]) (hp2:=[(0,.box [sl 8 (Pack.enc false) a1]),(1,.box [sl 1 zC a2]),(2,.box [sl 1 zC a3]),(3,rE 1 eStr x6)]) (.cons (.keep rfl) (.cons (.keep rfl) (.cons (.keep rfl) (.cons (.keep rfl) (.cons (.keep rfl) (.cons (.keep rfl) (.cons (.rf (by simp) (zEw (enc:=eStr) (enc':=eStr) (fun _=>rfl) x8 rfl rfl)) (.cons (.keep rfl) (.nil))))))))) (.keep rfl (.keep rfl (.keep rfl (.keep rfl (.nil))))) rfl ?_
 refine wU (atI c36 61) (fun v15:Bool=>St.mk' [(5,pp 0),(6,pp 1),(7,pp 2),(11,sl 1 eStr x6),(12,sl 1 eStr x8),(39,bv v15)] [(0,.box [sl 8 (Pack.enc false) a1]),(1,.box [sl 1 zC a2]),(2,.box [sl 1 zC a3])]) (fun v15=>?_) (fun jv15=>?_)
 ·refine zG 39 (fun h16=>?_) (fun h16=>?_)
  ·refine J_g 244 [] [(10,bv true)] [] zB ?_
   exact xJ rfl
  ·refine zA (fun x17 h18=>?_)
   refine J_d 124 [] [6,7,39,43,44,45] [(43,rr 4 x17),(44,iv (x17.length:Int)),(45,iv 0)] [1,2,4] [(4,rE 1 zC x17)] (zF 2 (zBw 46 25 1 3 (eSl false 1 zC) [a2,a3] [0,1] [(.tmp 40),(.tmp 41)] [sl 1 zC a2,sl 1 zC a3]) (zF 3 (vJ («as»:=[rr 3 [a2,a3]]) [(.tmp 42)] [46] true [(3,rE 1 (eSl false 1 zC) [a2,a3])] [] (.cons (zDY (.head _) (zDE (fun _=>rfl)) rfl) (.nil)) (vK.ok [a2,a3]) h18 (.own 4) (hbor:=fun _=>⟨fhN,(zC7 (zEp (fun _=>(flatK yV zDq)) _))⟩)) zB)) ?_
   refine jW (K0:=(fun r:Bool=>some (bv r,[]))) (fun _=>rfl) (zA3.ok a1 x6 x8 x17 q _ (fun v74=>J_j ?_) 0)
   refine J_g 126 [] [(10,bv false)] [] zB ?_
   exact xJ rfl
 ·refine uN (fun h12=>?_) (fun h12=>?_)
  ·refine J_d 60 [] [3,4,13,39] [(39,bv true)] [] [] (zF 3 (zE6 [(0,.box [sl 8 (Pack.enc false) a1]),(1,.box [sl 1 zC a2]),(2,.box [sl 1 zC a3])] [] (zEr 30 [(.tmp 31),(.tmp 32)] [9,32] false [(0,.box [sl 8 (Pack.enc false) a1]),(1,.box [sl 1 zC a2]),(2,.box [sl 1 zC a3])] [0,1,2] [sv a4,sl 1 eStr x8] [pp 0,pp 1,pp 2] (.cons (.same rfl) (.cons (.same rfl) (.cons (.pt rfl) (.cons (.pt rfl) (.cons (.pt rfl) (.nil)))))) (vR.ok a4 x8 a1 a2 a3) h11 (.same rfl rfl))) (vV 4 [(33,bv x10)] [] h12 zB)) ?_
   refine zBv [(5,pp 0),(6,pp 1),(7,pp 2),(11,rr 3 x6),(12,sl 1 eStr x8),(39,bv true)] [(3,rE 1 eStr x6),(0,.box [sl 8 (Pack.enc false) a1]),(1,.box [sl 1 zC a2]),(2,.box [sl 1 zC a3])] (by kernel_rfl) ?_
   refine zGu 3 (z:=1) (xs:=x6.map eStr) (tm2:=[(5,pp 0),(6,pp 1),(7,pp 2),(11,sl 1 eStr x6),(12,sl 1 eStr x8),(39,bv true)]) (hp2:=[(0,.box [sl 8 (Pack.enc false) a1]),(1,.box [sl 1 zC a2]),(2,.box [sl 1 zC a3])]) (.cons (.keep rfl) (.cons (.keep rfl) (.cons (.keep rfl) (.cons (.rf (by simp) (zEw (enc:=eStr) (enc':=eStr) (fun _=>rfl) x6 rfl rfl)) (.cons (.keep rfl) (.cons (.keep rfl) (.nil))))))) (.keep rfl (.keep rfl (.keep rfl (.nil)))) rfl ?_
   exact xA (J_j (jv15 true)) rfl
  ·refine zA (fun x13 h14=>?_)
   refine zBv [(3,sv a4),(4,sv a5),(5,pp 0),(6,pp 1),(7,pp 2),(11,rr 3 x6),(12,sl 1 eStr x8),(13,.fn 71 [pp 0,pp 1,pp 2])] [(3,rE 1 eStr x6),(0,.box [sl 8 (Pack.enc false) a1]),(1,.box [sl 1 zC a2]),(2,.box [sl 1 zC a3])] (by kernel_rfl) ?_
   refine zGu 3 (z:=1) (xs:=x6.map eStr) (tm2:=[(3,sv a4),(4,sv a5),(5,pp 0),(6,pp 1),(7,pp 2),(11,sl 1 eStr x6),(12,sl 1 eStr x8),(13,.fn 71 [pp 0,pp 1,pp 2])]) (hp2:=[(0,.box [sl 8 (Pack.enc false) a1]),(1,.box [sl 1 zC a2]),(2,.box [sl 1 zC a3])]) (.cons (.keep rfl) (.cons (.keep rfl) (.cons (.keep rfl) (.cons (.keep rfl) (.cons (.keep rfl) (.cons (.rf (by simp) (zEw (enc:=eStr) (enc':=eStr) (fun _=>rfl) x6 rfl rfl)) (.cons (.keep rfl) (.cons (.keep rfl) (.nil))))))))) (.keep rfl (.keep rfl (.keep rfl (.nil)))) rfl ?_
   refine J_d 60 [] [3,4,13,39] [(39,bv x13)] [] [] (zF 3 (zE6 [(0,.box [sl 8 (Pack.enc false) a1]),(1,.box [sl 1 zC a2]),(2,.box [sl 1 zC a3])] [] (zEr 30 [(.tmp 31),(.tmp 32)] [9,32] false [(0,.box [sl 8 (Pack.enc false) a1]),(1,.box [sl 1 zC a2]),(2,.box [sl 1 zC a3])] [0,1,2] [sv a4,sl 1 eStr x8] [pp 0,pp 1,pp 2] (.cons (.same rfl) (.cons (.same rfl) (.cons (.pt rfl) (.cons (.pt rfl) (.cons (.pt rfl) (.nil)))))) (vR.ok a4 x8 a1 a2 a3) h11 (.same rfl rfl))) (vV 4 [(33,bv x10)] [] h12 (zAR 8 4 34 false (zE6 [(0,.box [sl 8 (Pack.enc false) a1]),(1,.box [sl 1 zC a2]),(2,.box [sl 1 zC a3])] [] (zEr 35 [(.tmp 36),(.tmp 37)] [9,32] false [(0,.box [sl 8 (Pack.enc false) a1]),(1,.box [sl 1 zC a2]),(2,.box [sl 1 zC a3])] [0,1,2] [sv a5,sl 1 eStr x6] [pp 0,pp 1,pp 2] (.cons (.same rfl) (.cons (.same rfl) (.cons (.pt rfl) (.cons (.pt rfl) (.cons (.pt rfl) (.nil)))))) (vR.ok a5 x6 a1 a2 a3) h14 (.same rfl rfl))) zB))) ?_
   exact xA (J_j (jv15 x13)) rfl
noncomputable def c31:Code:=(Tryz.f31.body).getD .skip
theorem zBH.ok (a1:(List Pack)) (a2:(List Int)) (a3:(List Int)) (s133:((List (List ByteArray))×(List ByteArray))) (s226:((List ByteArray)×(List ByteArray)×Int)) (q:Wd) (kn:((List ByteArray)×(List ByteArray))→Option (D×List Ent)) (hk:∀v:((List ByteArray)×(List ByteArray)),J (q.g Tryz.prog 31 0 64) c31 (atI c31 464531) (St.mk' [(0,sl 8 (Pack.enc false) a1),(1,sl 1 zC a2),(2,sl 1 zC a3),(7,rr 0 s133.1),(9,rr 2 v.1),(10,iv s226.2.2),(11,rr 4 v.2)] [(0,rE 1 (eSl true 1 eStr) s133.1),(2,rE 1 eStr v.1),(4,rE 1 eStr v.2)]) (some v) kn):
  ∀s241:((List ByteArray)×(List ByteArray)×Int),J (q.g Tryz.prog 31 0 64) c31 (atI c31 3716244) (St.mk' [(0,sl 8 (Pack.enc false) a1),(1,sl 1 zC a2),(2,sl 1 zC a3),(7,rr 0 s133.1),(9,rr 2 s241.1),(10,iv s226.2.2),(11,rr 4 s241.2.1),(33,rr 3 s226.1),(34,iv (s226.1.length:Int)),(35,iv s241.2.2)] [(0,rE 1 (eSl true 1 eStr) s133.1),(2,rE 1 eStr s241.1),(3,rE 1 eStr s226.1),(4,rE 1 eStr s241.2.1)]) (zBH a1 a2 a3 s133 s226 s241) kn:=by
 refine zAC (fun g ih s241=>?_)
 unfold zCy
 refine J_d 7432488 [] [36] [(36,bv (decide (s241.2.2< (s226.1.length:Int))))] [] [] zB ?_
 refine zG 36 (fun h242=>?_) (fun h242=>?_)
 ·refine zA (fun x243 h244=>?_)
  refine J_d 118919832 [] [13,36] [(13,sv x243)] [] [] (zF 0 (zB5 (kk:=.i64) 32 9 1 3 eStr (.tmp 33) (.tmp 35) h244) (zF 1 (zBU (d:=sv x243) 9 1 3 0 eStr (.tmp 37) h244 (by kernel_rfl)) zB)) ?_
  refine zA (fun x245 h246=>?_)
  refine zA (fun x247 h248=>?_)
  refine J_d 237839666 [] [47] [(47,bv x247)] [] [] (zF 5 (zB5 (kk:=.i64) 32 9 1 2 eStr (.tmp 42) (.tmp 43) h246) (zF 6 (zBU (d:=sv x245) 9 1 2 0 eStr (.tmp 44) h246 (by kernel_rfl)) (zF 8 (vZ [(.tmp 39),(.tmp 40),(.tmp 41),(.tmp 45),(.tmp 46)] [24,25,25,9,9] (wZ.ok a1 a2 a3 x245 x243) h248) zB))) ?_
  refine wU (aft c31 59459916) (fun v254:((List ByteArray)×(List ByteArray))=>St.mk' [(0,sl 8 (Pack.enc false) a1),(1,sl 1 zC a2),(2,sl 1 zC a3),(7,rr 0 s133.1),(9,rr 6 v254.1),(10,iv s226.2.2),(11,rr 4 v254.2),(33,rr 3 s226.1),(34,iv (s226.1.length:Int)),(35,iv s241.2.2)] [(0,rE 1 (eSl true 1 eStr) s133.1),(3,rE 1 eStr s226.1),(4,rE 1 eStr v254.2),(6,rE 1 eStr v254.1)]) (fun v254=>?_) (fun jv254=>?_)
  ·refine J_d 29729959 [] [35] [(35,iv (w64 (s241.2.2+1)))] [] [] zB ?_
   refine uX 6 2 (Nat.le_of_ble_eq_true rfl) (Nat.le_of_ble_eq_true rfl) ?_
   exact J_q (J_b (ih (v254.1,v254.2,w64 (s241.2.2+1)))) rfl
  ·refine zG 47 (fun h249=>?_) (fun h249=>?_)
   ·refine zA (fun x250 h251=>?_)
    refine J_d 475679334 [] [9,13,47] [(9,rr 6 x250)] [2,6] [(6,rE 1 eStr x250)] (zF 2 (zBw 32 9 1 5 eStr [x243] [0] [(.tmp 49)] [sv x243]) (zF 3 (zFg 32 32 9 9 1 16 6 2 5 eStr (.tmp 48) (.tmp 50) h251) zB)) ?_
    exact xA (J_j (jv254 (x250,s241.2.1))) rfl
   ·refine zA (fun x252 h253=>?_)
    refine J_d 475679335 [] [11,13,47] [(11,rr 6 x252)] [4,6] [(6,rE 1 eStr x252)] (zF 2 (zBw 32 9 1 5 eStr [x243] [0] [(.tmp 53)] [sv x243]) (zF 3 (zFg 32 32 9 9 1 16 6 4 5 eStr (.tmp 52) (.tmp 54) h253) zB)) ?_
    refine uX 2 6 (Nat.le_of_ble_eq_true rfl) (Nat.le_of_ble_eq_true rfl) ?_
    refine uX 2 4 (Nat.le_of_ble_eq_true rfl) (Nat.le_of_ble_eq_true rfl) ?_
    exact xA (J_j (jv254 (s241.1,x252))) rfl
 ·exact xA (hk (s241.1,s241.2.1)) rfl
theorem zB2.ok (a1:(List Pack)) (a2:(List Int)) (a3:(List Int)) (s133:((List (List ByteArray))×(List ByteArray))) (q:Wd) (kn:((List ByteArray)×(List ByteArray))→Option (D×List Ent)) (hk:∀v:((List ByteArray)×(List ByteArray)),J (q.g Tryz.prog 31 0 64) c31 (atI c31 1815) (St.mk' [(0,sl 8 (Pack.enc false) a1),(1,sl 1 zC a2),(2,sl 1 zC a3),(7,rr 0 s133.1),(8,rr 3 v.1),(9,rr 2 v.2)] [(0,rE 1 (eSl true 1 eStr) s133.1),(2,rE 1 eStr v.2),(3,rE 1 eStr v.1)]) (some v) kn):
  ∀s226:((List ByteArray)×(List ByteArray)×Int),J (q.g Tryz.prog 31 0 64) c31 (atI c31 14516) (St.mk' [(0,sl 8 (Pack.enc false) a1),(1,sl 1 zC a2),(2,sl 1 zC a3),(7,rr 0 s133.1),(8,rr 3 s226.1),(9,rr 2 s226.2.1),(10,iv s226.2.2)] [(0,rE 1 (eSl true 1 eStr) s133.1),(2,rE 1 eStr s226.2.1),(3,rE 1 eStr s226.1)]) (zB2 a1 a2 a3 s133 s226) kn:=by
 refine zAC (fun g ih s226=>?_)
 unfold zD3
 refine J_d 58064 [] [29] [(29,bv (decide (s226.2.2< (s226.2.1.length:Int))))] [] [] zB ?_
 refine zG 29 (fun h227=>?_) (fun h227=>?_)
 ·refine J_g 232264 [] [(0,sl 8 (Pack.enc false) a1),(1,sl 1 zC a2),(2,sl 1 zC a3),(7,rr 0 s133.1),(8,rr 3 s226.1),(9,rr 2 s226.2.1),(10,iv s226.2.2),(11,rr 4 ([]:List ByteArray))] [(0,rE 1 (eSl true 1 eStr) s133.1),(2,rE 1 eStr s226.2.1),(3,rE 1 eStr s226.1),(4,rE 1 eStr ([]:List ByteArray))] (zF 0 (zBw 32 9 1 4 eStr ([]:List ByteArray) [] [] []) zB) ?_
  refine J_d 929060 [] [8,33,34,35] [(33,rr 3 s226.1),(34,iv (s226.1.length:Int)),(35,iv 0)] [] [] zB ?_
  refine zFv (zBH.ok a1 a2 a3 s133 s226 q _ (fun v255=>J_j ?_) (s226.2.1,([]:List ByteArray),0))
  refine J_g 464531 [] [(0,sl 8 (Pack.enc false) a1),(1,sl 1 zC a2),(2,sl 1 zC a3),(7,rr 0 s133.1),(8,rr 4 v255.2),(9,rr 2 v255.1),(10,iv s226.2.2)] [(0,rE 1 (eSl true 1 eStr) s133.1),(2,rE 1 eStr v255.1),(4,rE 1 eStr v255.2)] zB ?_
  refine J_d 58067 [] [10] [(10,iv (w64 (s226.2.2+1)))] [] [] zB ?_
  refine uX 4 3 (Nat.le_of_ble_eq_true rfl) (Nat.le_of_ble_eq_true rfl) ?_
  exact J_q (J_b (ih (v255.2,v255.1,w64 (s226.2.2+1)))) rfl
 ·exact xA (hk (s226.1,s226.2.1)) rfl
theorem zBA.ok (a1:(List Pack)) (a2:(List Int)) (a3:(List Int)) (s133:((List (List ByteArray))×(List ByteArray))) (x137:(List ByteArray)) (q:Wd) (kn:((List ByteArray)×(List ByteArray))→Option (D×List Ent)) (hk:∀v:((List ByteArray)×(List ByteArray)),J (q.g Tryz.prog 31 0 64) c31 (atI c31 464531) (St.mk' [(0,sl 8 (Pack.enc false) a1),(1,sl 1 zC a2),(2,sl 1 zC a3),(7,rr 0 s133.1),(9,.cw 2 v.1.length),(10,iv 0),(11,rr 3 v.2)] [(0,rE 1 (eSl true 1 eStr) s133.1),(1,rE 1 eStr s133.2),(2,.cow 1 (v.1.map eStr) 1 (s133.2.map eStr)),(3,rE 1 eStr v.2)]) (some v) kn):
  ∀s182:((List ByteArray)×(List ByteArray)×Int),J (q.g Tryz.prog 31 0 64) c31 (atI c31 3716244) (St.mk' [(0,sl 8 (Pack.enc false) a1),(1,sl 1 zC a2),(2,sl 1 zC a3),(7,rr 0 s133.1),(9,.cw 2 s182.1.length),(10,iv 0),(11,rr 3 s182.2.1),(33,.sub 1 (1:Int).toNat x137.length),(34,iv (x137.length:Int)),(35,iv s182.2.2)] [(0,rE 1 (eSl true 1 eStr) s133.1),(1,rE 1 eStr s133.2),(2,.cow 1 (s182.1.map eStr) 1 (s133.2.map eStr)),(3,rE 1 eStr s182.2.1)]) (zBA a1 a2 a3 s133 x137 s182) kn:=by
 refine zAC (fun g ih s182=>?_)
 unfold zCm
 refine J_d 7432488 [] [36] [(36,bv (decide (s182.2.2< (x137.length:Int))))] [] [] zB ?_
 refine zG 36 (fun h183=>?_) (fun h183=>?_)
 ·refine zA (fun x184 h185=>?_)
  refine J_d 118919832 [] [13,36] [(13,sv x184)] [] [] (zF 0 (zNk (kk:=.i64) 32 9 1 1 eStr (.tmp 33) (.tmp 35) h185) (zF 1 (zBU (d:=sv x184) 9 1 1 0 eStr (.tmp 37) (zHa h185) (by kernel_rfl)) zB)) ?_
  refine zA (fun x186 h187=>?_)
  refine zA (fun x188 h189=>?_)
  refine J_d 237839666 [] [47] [(47,bv x188)] [] [] (zF 5 (zP7 (kk:=.i64) (ys:=s133.2) 32 9 1 2 1 eStr (.tmp 42) (.tmp 43) h187) (zF 6 (zP1 (d:=sv x186) (ys:=s133.2) 9 1 2 1 eStr (.tmp 44) h187 (by kernel_rfl)) (zF 8 (vZ [(.tmp 39),(.tmp 40),(.tmp 41),(.tmp 45),(.tmp 46)] [24,25,25,9,9] (wZ.ok a1 a2 a3 x186 x184) h189) zB))) ?_
  refine wU (aft c31 59459916) (fun v195:((List ByteArray)×(List ByteArray))=>St.mk' [(0,sl 8 (Pack.enc false) a1),(1,sl 1 zC a2),(2,sl 1 zC a3),(7,rr 0 s133.1),(9,.cw 5 v195.1.length),(10,iv 0),(11,rr 3 v195.2),(33,.sub 1 (1:Int).toNat x137.length),(34,iv (x137.length:Int)),(35,iv s182.2.2)] [(0,rE 1 (eSl true 1 eStr) s133.1),(1,rE 1 eStr s133.2),(3,rE 1 eStr v195.2),(5,.cow 1 (v195.1.map eStr) 1 (s133.2.map eStr))]) (fun v195=>?_) (fun jv195=>?_)
  ·refine J_d 29729959 [] [35] [(35,iv (w64 (s182.2.2+1)))] [] [] zB ?_
   refine uX 5 2 (Nat.le_of_ble_eq_true rfl) (Nat.le_of_ble_eq_true rfl) ?_
   exact J_q (J_b (ih (v195.1,v195.2,w64 (s182.2.2+1)))) rfl
  ·refine zG 47 (fun h190=>?_) (fun h190=>?_)
   ·refine zA (fun x191 h192=>?_)
    refine J_d 475679334 [] [9,13,47] [(9,rr 5 x191)] [2,5] [(5,rE 1 eStr x191)] (zF 2 (zBw 32 9 1 4 eStr [x184] [0] [(.tmp 49)] [sv x184]) (zF 3 (zPN (rs:=s133.2) 32 32 9 9 1 16 5 2 1 4 eStr (.tmp 48) (.tmp 50) h192) zB)) ?_
    refine zBv [(0,sl 8 (Pack.enc false) a1),(1,sl 1 zC a2),(2,sl 1 zC a3),(7,rr 0 s133.1),(9,rr 5 x191),(10,iv 0),(11,rr 3 s182.2.1),(33,.sub 1 (1:Int).toNat x137.length),(34,iv (x137.length:Int)),(35,iv s182.2.2)] [(5,rE 1 eStr x191),(0,rE 1 (eSl true 1 eStr) s133.1),(1,rE 1 eStr s133.2),(3,rE 1 eStr s182.2.1)] (by kernel_rfl) ?_
    refine zPI 5 1 (xs:=x191.map eStr) (ys:=s133.2.map eStr) (tm2:=[(0,sl 8 (Pack.enc false) a1),(1,sl 1 zC a2),(2,sl 1 zC a3),(7,rr 0 s133.1),(9,.cw 5 x191.length),(10,iv 0),(11,rr 3 s182.2.1),(33,.sub 1 (1:Int).toNat x137.length),(34,iv (x137.length:Int)),(35,iv s182.2.2)]) (hp:=[(0,rE 1 (eSl true 1 eStr) s133.1),(1,rE 1 eStr s133.2),(3,rE 1 eStr s182.2.1)]) (.cons .same (.cons .same (.cons .same (.cons .same (.cons .rf (.cons .same (.cons .same (.cons .same (.cons .same (.cons .same (.nil))))))))))) rfl ?_
    refine zBv [(0,sl 8 (Pack.enc false) a1),(1,sl 1 zC a2),(2,sl 1 zC a3),(7,rr 0 s133.1),(9,.cw 5 x191.length),(10,iv 0),(11,rr 3 s182.2.1),(33,.sub 1 (1:Int).toNat x137.length),(34,iv (x137.length:Int)),(35,iv s182.2.2)] [(0,rE 1 (eSl true 1 eStr) s133.1),(1,rE 1 eStr s133.2),(3,rE 1 eStr s182.2.1),(5,.cow 1 (x191.map eStr) 1 (s133.2.map eStr))] (by kernel_rfl) ?_
    exact xA (J_j (jv195 (x191,s182.2.1))) rfl
   ·refine zA (fun x193 h194=>?_)
    refine J_d 475679335 [] [11,13,47] [(11,rr 5 x193)] [3,5] [(5,rE 1 eStr x193)] (zF 2 (zBw 32 9 1 4 eStr [x184] [0] [(.tmp 53)] [sv x184]) (zF 3 (zFg 32 32 9 9 1 16 5 3 4 eStr (.tmp 52) (.tmp 54) h194) zB)) ?_
    refine uX 2 5 (Nat.le_of_ble_eq_true rfl) (Nat.le_of_ble_eq_true rfl) ?_
    refine uX 2 3 (Nat.le_of_ble_eq_true rfl) (Nat.le_of_ble_eq_true rfl) ?_
    exact xA (J_j (jv195 (s182.1,x193))) rfl
 ·exact xA (hk (s182.1,s182.2.1)) rfl
theorem kU.ok (a1:(List Pack)) (a2:(List Int)) (a3:(List Int)) (q:Wd) (kn:(List (List ByteArray))→Option (D×List Ent)) (hk:∀v:(List (List ByteArray)),J (q.g Tryz.prog 31 0 64) c31 (atI c31 15) (St.mk' [(7,rr 0 v)] [(0,rE 1 (eSl true 1 eStr) v)]) (some v) kn):
  ∀s133:((List (List ByteArray))×(List ByteArray)),J (q.g Tryz.prog 31 0 64) c31 (atI c31 56) (St.mk' [(0,sl 8 (Pack.enc false) a1),(1,sl 1 zC a2),(2,sl 1 zC a3),(7,rr 0 s133.1),(8,rr 1 s133.2)] [(0,rE 1 (eSl true 1 eStr) s133.1),(1,rE 1 eStr s133.2)]) (kU a1 a2 a3 s133) kn:=by
 refine zAC (fun g ih s133=>?_)
 unfold zCq
 refine J_d 224 [] [21] [(21,bv (decide ((s133.2.length:Int)>0)))] [] [] zB ?_
 refine zG 21 (fun h134=>?_) (fun h134=>?_)
 ·refine zA (fun x135 h136=>?_)
  refine J_d 452 [] [9,21] [(9,.cw 2 x135.length)] [2] [(2,.cow 1 (x135.map eStr) 1 (s133.2.map eStr))] (zF 1 (zPc (k:=1) (kk:=.i64) 32 9 1 1 2 eStr (.tmp 22) h136) zB) ?_
  refine zA (fun x137 h138=>?_)
  refine J_g 906 [] [(0,sl 8 (Pack.enc false) a1),(1,sl 1 zC a2),(2,sl 1 zC a3),(7,rr 0 s133.1),(8,.sub 1 (1:Int).toNat x137.length),(9,.cw 2 x135.length)] [(0,rE 1 (eSl true 1 eStr) s133.1),(1,rE 1 eStr s133.2),(2,.cow 1 (x135.map eStr) 1 (s133.2.map eStr))] (zF 1 (zJb 32 9 1 1 eStr (.tmp 24) (some (.const (.int .i64 1))) none h138) zB) ?_
  refine J_g 3628 [] [(0,sl 8 (Pack.enc false) a1),(1,sl 1 zC a2),(2,sl 1 zC a3),(7,rr 0 s133.1),(8,.sub 1 (1:Int).toNat x137.length),(9,.cw 2 x135.length),(10,iv 0)] [(0,rE 1 (eSl true 1 eStr) s133.1),(1,rE 1 eStr s133.2),(2,.cow 1 (x135.map eStr) 1 (s133.2.map eStr))] zB ?_
  refine J_d 58064 [] [29] [(29,bv (decide (0< (x135.length:Int))))] [] [] (zF 2 (zOR 32 9 2 x135.length (.tmp 27)) zB) ?_
  refine zG 29 (fun h168=>?_) (fun h168=>?_)
  ·refine J_g 232264 [] [(0,sl 8 (Pack.enc false) a1),(1,sl 1 zC a2),(2,sl 1 zC a3),(7,rr 0 s133.1),(8,.sub 1 (1:Int).toNat x137.length),(9,.cw 2 x135.length),(10,iv 0),(11,rr 3 ([]:List ByteArray))] [(0,rE 1 (eSl true 1 eStr) s133.1),(1,rE 1 eStr s133.2),(2,.cow 1 (x135.map eStr) 1 (s133.2.map eStr)),(3,rE 1 eStr ([]:List ByteArray))] (zF 0 (zBw 32 9 1 3 eStr ([]:List ByteArray) [] [] []) zB) ?_
   refine J_d 929060 [] [8,33,34,35] [(33,.sub 1 (1:Int).toNat x137.length),(34,iv (x137.length:Int)),(35,iv 0)] [] [] (zF 1 (zNM 32 9 1 (1:Int).toNat x137.length (.tmp 33)) zB) ?_
   refine zFv (zBA.ok a1 a2 a3 s133 x137 q _ (fun v196=>J_j ?_) (x135,([]:List ByteArray),0))
   refine J_g 464531 [] [(0,sl 8 (Pack.enc false) a1),(1,sl 1 zC a2),(2,sl 1 zC a3),(7,rr 0 s133.1),(8,rr 3 v196.2),(9,.cw 2 v196.1.length),(10,iv 0)] [(0,rE 1 (eSl true 1 eStr) s133.1),(1,rE 1 eStr s133.2),(2,.cow 1 (v196.1.map eStr) 1 (s133.2.map eStr)),(3,rE 1 eStr v196.2)] zB ?_
   refine zBv [(0,sl 8 (Pack.enc false) a1),(1,sl 1 zC a2),(2,sl 1 zC a3),(7,rr 0 s133.1),(8,rr 3 v196.2),(9,.cw 2 v196.1.length),(10,iv 0)] [(2,.cow 1 (v196.1.map eStr) 1 (s133.2.map eStr)),(1,rE 1 eStr s133.2),(0,rE 1 (eSl true 1 eStr) s133.1),(3,rE 1 eStr v196.2)] (by kernel_rfl) ?_
   refine zOQ 2 1 (z:=1) (n:=v196.1.length) (xs:=v196.1.map eStr) (ys:=s133.2.map eStr) (tm2:=[(0,sl 8 (Pack.enc false) a1),(1,sl 1 zC a2),(2,sl 1 zC a3),(7,rr 0 s133.1),(8,rr 3 v196.2),(9,rr 2 v196.1),(10,iv 0)]) (hp:=[(0,rE 1 (eSl true 1 eStr) s133.1),(3,rE 1 eStr v196.2)]) (.cons (.same rfl rfl) (.cons (.same rfl rfl) (.cons (.same rfl rfl) (.cons (.same rfl rfl) (.cons (.same rfl rfl) (.cons (.cw) (.cons (.same rfl rfl) (.nil)))))))) ⟨rfl,rfl⟩ (Nat.le_of_ble_eq_true rfl) (List.length_map _) ?_
   refine zBv [(0,sl 8 (Pack.enc false) a1),(1,sl 1 zC a2),(2,sl 1 zC a3),(7,rr 0 s133.1),(8,rr 3 v196.2),(9,rr 2 v196.1),(10,iv 0)] [(0,rE 1 (eSl true 1 eStr) s133.1),(2,rE 1 eStr v196.1),(3,rE 1 eStr v196.2)] (by kernel_rfl) ?_
   refine J_d 58067 [] [10] [(10,iv (w64 (0+1)))] [] [] zB ?_
   refine zFv (zB2.ok a1 a2 a3 s133 q _ (fun v256=>J_j ?_) (v196.2,v196.1,w64 (0+1)))
   refine zA (fun x257 h258=>?_)
   refine zA (fun x259 h260=>?_)
   refine J_d 1815 [] [7,9] [(7,rr 6 x259)] [0,2,6] [(6,rE 1 (eSl true 1 eStr) x259)] (zF 2 (vJ («as»:=[rr 2 v256.2]) [(.tmp 59)] [32] false [(2,rE 1 eStr v256.2)] [2] (.cons (.rf rfl) (.nil)) (uZ.ok v256.2) h258 (.own 4)) (zF 3 (zMU (ds:=[rr 4 x257]) (ts:=[4]) 28 32 1 5 (eSl true 1 eStr) [x257] [0] [(.tmp 60)] [rr 4 x257] [(4,rE 1 eStr x257)] (.move (.head _) (List.length_map _) (by decide) (.nil))) (zF 4 (zFg 28 28 32 32 1 24 6 0 5 (eSl true 1 eStr) (.tmp 58) (.tmp 61) h260) zB))) ?_
   refine uX 6 0 (Nat.le_of_ble_eq_true rfl) (Nat.le_of_ble_eq_true rfl) ?_
   refine uX 3 1 (Nat.le_of_ble_eq_true rfl) (Nat.le_of_ble_eq_true rfl) ?_
   exact J_q (J_b (ih (x259,v256.1))) rfl
  ·exact zJ4
 ·exact xA (hk s133.1) rfl
theorem kM.ok (a1:(List Pack)) (a2:(List Int)) (a3:(List Int)):Ok Tryz.prog 31 [sl 8 (Pack.enc false) a1,sl 1 zC a2,sl 1 zC a3] [] ((kM a1 a2 a3).map fun r=>(so 1 (eSl true 1 eStr) r,[])):=by
 refine zJ c31 Tryz.f31 0 64 (fun q=>?_)
 unfold kM
 refine J_d 2 [] [] [] [] [] zB ?_
 refine zA (fun x4 h5=>?_)
 refine J_d 6 [] [7,8] [(7,rr 0 ([]:List (List ByteArray))),(8,rr 1 x4)] [0,1] [(0,rE 1 (eSl false 1 eStr) ([]:List (List ByteArray))),(1,rE 1 eStr x4)] (zF 0 (zBw 28 32 1 0 (eSl false 1 eStr) ([]:List (List ByteArray)) [] [] []) (zF 4 (vJ («as»:=[sl 8 (Pack.enc false) a1,sl 1 zC a2,sl 1 zC a3]) [(.tmp 15),(.tmp 16),(.tmp 17)] [24,25,25] false [] [] (.cons (.same rfl) (.cons (.same rfl) (.cons (.same rfl) (.nil)))) (zAY.ok a1 a2 a3) h5 (.own 1)) zB)) ?_
 refine zFv (kU.ok a1 a2 a3 q _ (fun v261=>J_j ?_) (([]:List (List ByteArray)),x4))
 refine J_g 30 [] [(6,rr 0 v261)] [(0,rE 1 (eSl true 1 eStr) v261)] zB ?_
 exact zDZ (ds:=[rr 0 v261]) (ds':=[so 1 (eSl true 1 eStr) v261]) (.cons (.cell (.move (.head _) (List.length_map _) (by decide) (.nil))) (.nil) (by decide)) rfl
noncomputable def zQh:Code:=(Tryz.f103.body).getD .skip
theorem wK.ok (a1:(List Int)):Ok Tryz.prog 103 [sl 1 zC a1] [] ((wK a1).map fun r=>(so 1 zC r,[])):=by
 refine zJ zQh Tryz.f103 0 8 (fun q=>?_)
 unfold wK
 refine J_g 2 [] [(0,sl 1 zC a1)] [] zB ?_
 refine J_d 12 [] [4] [(4,.nb a1.length)] [] [] (zF 1 (zM8 (xs:=a1) 25 2 25 1 zC (.tmp 3)) zB) ?_
 refine zPZ 4 rfl (fun h2=>?_) ?_
 ·obtain rfl:a1=[]:=List.eq_nil_of_length_eq_zero h2
  refine zNI (e':=some ([]:List Int)) (by kernel_rfl) ?_
  refine J_g 52 [] [(2,nv)] [] zB ?_
  exact zDZ (ds:=[nv]) (ds':=[so 1 zC ([]:List Int)]) (.cons (.cell (.nilsl true 1 (.nil))) (.nil) (by decide)) rfl
 ·refine zA (fun x3 h4=>?_)
  refine J_g 14 [] [(2,rr 1 x3)] [(1,rE 1 zC x3)] (zF 0 (zBw 25 2 1 0 zC ([]:List Int) [] [] []) (zF 2 (zJC 25 25 2 2 1 8 1 0 zC (.tmp 5) (.tmp 6) h4) zB)) ?_
  exact zDZ (ds:=[rr 1 x3]) (ds':=[so 1 zC x3]) (.cons (.cell (.move (.head _) (List.length_map _) (by decide) (.nil))) (.nil) (by decide)) rfl
noncomputable def c87:Code:=(Tryz.f87.body).getD .skip
theorem zAZ.ok (a1:Int) (a2:(List ByteArray)) (a3:(List Pack)):Ok Tryz.prog 87 [iv a1,pp 0,pp 1] [.box [sl 1 eStr a2],.box [sl 8 (Pack.enc false) a3]] ((zAZ a1 a2 a3).map fun r=>(bv r,[.box [sl 1 eStr a2],.box [sl 8 (Pack.enc false) a3]])):=by
 refine zJ c87 Tryz.f87 2 12 (fun q=>?_)
 unfold zAZ
 refine J_d 2 [] [] [] [] [] zB ?_
 refine zA (fun x4 h5=>?_)
 refine zA (fun x6 h7=>?_)
 refine J_d 6 [] [0,1,2,4] [(4,bv x6)] [] [] (zF 3 (kD (kk:=.i64) 24 91 8 (Pack.enc false) (.tmp 6) (.tmp 7) h5) (zF 6 (vZ [(.tmp 5),(.tmp 10)] [32,9] (yA.ok a2 x4.Name) h7) zB)) ?_
 exact xJ rfl
noncomputable def c89:Code:=(Tryz.f89.body).getD .skip
theorem uD.ok (a1:Int) (a2:(List ByteArray)) (a3:(List Pack)):Ok Tryz.prog 89 [iv a1,.pb [.fn 87 [pp 0,pp 1]]] [.box [sl 1 eStr a2],.box [sl 8 (Pack.enc false) a3]] ((uD a1 a2 a3).map fun r=>(bv r,[.box [sl 1 eStr a2],.box [sl 8 (Pack.enc false) a3]])):=by
 refine zJ c89 Tryz.f89 2 8 (fun q=>?_)
 unfold uD
 refine J_d 2 [] [] [] [] [] zB ?_
 refine zA (fun x4 h5=>?_)
 refine J_d 6 [] [0,1,3] [(3,bv (!x4))] [] [] (zF 0 (zK5 (d:=.fn 87 [pp 0,pp 1]) 110 (.tmp 1) [.fn 87 [pp 0,pp 1]]) (zF 2 (zE6 [(0,.box [sl 1 eStr a2]),(1,.box [sl 8 (Pack.enc false) a3])] [] (zEr 4 [(.tmp 5)] [2] false [(0,.box [sl 1 eStr a2]),(1,.box [sl 8 (Pack.enc false) a3])] [0,1] [iv a1] [pp 0,pp 1] (.cons (.same rfl) (.cons (.pt rfl) (.cons (.pt rfl) (.nil)))) (zAZ.ok a1 a2 a3) h5 (.same rfl rfl))) zB)) ?_
 exact xJ rfl
noncomputable def zQb:Code:=(Tryz.f137.body).getD .skip
theorem zT.ok (a1:Int) (a2:(List ByteArray)) (a3:(List Pack)):Ok Tryz.prog 137 [iv a1,.pb [.fn 89 [.pb [.fn 87 [pp 0,pp 1]]]]] [.box [sl 1 eStr a2],.box [sl 8 (Pack.enc false) a3]] ((zT a1 a2 a3).map fun r=>(bv r,[.box [sl 1 eStr a2],.box [sl 8 (Pack.enc false) a3]])):=by
 refine zJ zQb Tryz.f137 2 8 (fun q=>?_)
 unfold zT
 refine J_d 2 [] [] [] [] [] zB ?_
 refine zA (fun x4 h5=>?_)
 refine J_d 6 [] [0,1,3] [(3,bv (!x4))] [] [] (zF 0 (zK5 (d:=.fn 89 [.pb [.fn 87 [pp 0,pp 1]]]) 110 (.tmp 1) [.fn 89 [.pb [.fn 87 [pp 0,pp 1]]]]) (zF 2 (zE6 [(0,.box [sl 1 eStr a2]),(1,.box [sl 8 (Pack.enc false) a3])] [] (zEr 4 [(.tmp 5)] [2] false [(0,.box [sl 1 eStr a2]),(1,.box [sl 8 (Pack.enc false) a3])] [0,1] [iv a1] [.pb [.fn 87 [pp 0,pp 1]]] (.cons (.same rfl) (.cons (.pb (.cons (.fn (.cons (.pt rfl) (.cons (.pt rfl) (.nil)))) (.nil))) (.nil))) (uD.ok a1 a2 a3) h5 (.same rfl rfl))) zB)) ?_
 exact xJ rfl
theorem yC.ok (a1:(List Int)) (a2:(List ByteArray)) (a3:(List Pack)) (q:Wd) (kn:Unit→Option (D×List Ent)) (hk:∀v:Unit,J (q.g Tryz.prog 167 3 19) c167 (atI c167 7) (St.mk' [] [(0,rE 1 zC a1),(1,.box [sl 1 eStr a2]),(2,.box [sl 8 (Pack.enc false) a3])]) (some v) kn):
  ∀s10:Int,J (q.g Tryz.prog 167 3 19) c167 (atI c167 52) (St.mk' [(0,rr 0 a1),(1,.fn 137 [.pb [.fn 89 [.pb [.fn 87 [pp 1,pp 2]]]]]),(7,iv (a1.length:Int)),(8,iv s10)] [(0,rE 1 zC a1),(1,.box [sl 1 eStr a2]),(2,.box [sl 8 (Pack.enc false) a3])]) (yC a1 a2 a3 s10) (Fl.go (fun r:Int=>some (iv r,[rE 1 zC a1,.box [sl 1 eStr a2],.box [sl 8 (Pack.enc false) a3]])) kn):=by
 refine zAC (fun g ih s10=>?_)
 unfold zQ
 refine J_d 104 [] [9] [(9,bv (decide (s10< (a1.length:Int))))] [] [] zB ?_
 refine zG 9 (fun h11=>?_) (fun h11=>?_)
 ·refine J_d 1688 [] [5,9] [(5,iv s10)] [] [] zB ?_
  refine zA (fun x12 h13=>?_)
  refine zA (fun x14 h15=>?_)
  refine J_d 3378 [] [16] [(16,bv x14)] [] [] (zF 3 (zB5 (kk:=.i64) 25 2 1 0 zC (.tmp 12) (.tmp 13) h13) (zF 4 (zBU (d:=iv x12) 2 1 0 0 zC (.tmp 14) h13 (by kernel_rfl)) (zF 5 (zE6 [(1,.box [sl 1 eStr a2]),(2,.box [sl 8 (Pack.enc false) a3])] [] (zEr 11 [(.tmp 15)] [2] false [(1,.box [sl 1 eStr a2]),(2,.box [sl 8 (Pack.enc false) a3])] [1,2] [iv x12] [.pb [.fn 89 [.pb [.fn 87 [pp 1,pp 2]]]]] (.cons (.same rfl) (.cons (.pb (.cons (.fn (.cons (.pb (.cons (.fn (.cons (.pt rfl) (.cons (.pt rfl) (.nil)))) (.nil))) (.nil))) (.nil))) (.nil))) (zT.ok x12 a2 a3) h15 (.same rfl rfl))) zB))) ?_
  refine zG 16 (fun h16=>?_) (fun h16=>?_)
  ·refine J_d 13516 [] [0,1,4,5,7,8,16] [(4,iv s10)] [] [] zB ?_
   exact xJ rfl
  ·refine J_d 423 [] [5,8,16] [(8,iv (w64 (s10+1)))] [] [] zB ?_
   exact J_q (J_b (ih (w64 (s10+1)))) rfl
 ·exact xA (hk ()) rfl
theorem zR.ok (a1:(List Int)) (a2:(List ByteArray)) (a3:(List Pack)):Ok Tryz.prog 167 [rr 0 a1,.fn 137 [.pb [.fn 89 [.pb [.fn 87 [pp 1,pp 2]]]]]] [rE 1 zC a1,.box [sl 1 eStr a2],.box [sl 8 (Pack.enc false) a3]] ((zR a1 a2 a3).map fun r=>(iv r,[rE 1 zC a1,.box [sl 1 eStr a2],.box [sl 8 (Pack.enc false) a3]])):=by
 refine zJ c167 Tryz.f167 3 19 (fun q=>?_)
 unfold zR
 refine J_g 2 [] [(0,rr 0 a1),(1,.fn 137 [.pb [.fn 89 [.pb [.fn 87 [pp 1,pp 2]]]]])] [(0,rE 1 zC a1),(1,.box [sl 1 eStr a2]),(2,.box [sl 8 (Pack.enc false) a3])] zB ?_
 refine J_d 12 [] [7,8] [(7,iv (a1.length:Int)),(8,iv 0)] [] [] zB ?_
 refine jW (K0:=(fun r:Int=>some (iv r,[rE 1 zC a1,.box [sl 1 eStr a2],.box [sl 8 (Pack.enc false) a3]]))) (fun _=>rfl) (yC.ok a1 a2 a3 q _ (fun v17=>J_j ?_) 0)
 refine J_d 14 [] [4] [(4,iv (-1))] [] [] zB ?_
 exact xJ rfl
noncomputable def zLF:Code:=(Tryz.f136.body).getD .skip
theorem zZ.ok (a2:(List ByteArray)) (a3:(List Pack)) (q:Wd) (kn:((List Int)×Int)→Option (D×List Ent)) (hk:∀v:((List Int)×Int),J (q.g Tryz.prog 136 3 42) zLF (atI zLF 31) (St.mk' [(0,rr 2 v.1),(5,iv v.2)] [(0,.box [sl 1 eStr a2]),(1,.box [sl 8 (Pack.enc false) a3]),(2,rE 1 zC v.1)]) (some v) kn):
  ∀s16:((List Int)×Int×Int),J (q.g Tryz.prog 136 3 42) zLF (atI zLF 244) (St.mk' [(0,rr 2 s16.1),(1,.fn 137 [.pb [.fn 89 [.pb [.fn 87 [pp 0,pp 1]]]]]),(5,iv s16.2.1),(6,iv s16.2.2)] [(0,.box [sl 1 eStr a2]),(1,.box [sl 8 (Pack.enc false) a3]),(2,rE 1 zC s16.1)]) (zZ a2 a3 s16) kn:=by
 refine zAC (fun g ih s16=>?_)
 unfold zN
 refine J_d 976 [] [19] [(19,bv (decide (s16.2.2< (s16.1.length:Int))))] [] [] zB ?_
 refine zG 19 (fun h17=>?_) (fun h17=>?_)
 ·refine zA (fun x18 h19=>?_)
  refine J_d 3912 [] [7,19] [(7,iv x18)] [] [] (zF 2 (zB5 (kk:=.i64) 25 2 1 2 zC (.tmp 22) (.tmp 23) h19) (zF 3 (zBU (d:=iv x18) 2 1 2 0 zC (.tmp 24) h19 (by kernel_rfl)) zB)) ?_
  refine zA (fun x20 h21=>?_)
  refine J_d 7826 [] [29] [(29,bv (!x20))] [] [] (zF 2 (zE6 [(0,.box [sl 1 eStr a2]),(1,.box [sl 8 (Pack.enc false) a3])] [] (zEr 26 [(.tmp 27)] [2] false [(0,.box [sl 1 eStr a2]),(1,.box [sl 8 (Pack.enc false) a3])] [0,1] [iv x18] [.pb [.fn 89 [.pb [.fn 87 [pp 0,pp 1]]]]] (.cons (.same rfl) (.cons (.pb (.cons (.fn (.cons (.pb (.cons (.fn (.cons (.pt rfl) (.cons (.pt rfl) (.nil)))) (.nil))) (.nil))) (.nil))) (.nil))) (zT.ok x18 a2 a3) h21 (.same rfl rfl))) zB) ?_
  refine wU (aft zLF 1956) (fun v25:((List Int)×Int)=>St.mk' [(0,rr 2 v25.1),(1,.fn 137 [.pb [.fn 89 [.pb [.fn 87 [pp 0,pp 1]]]]]),(5,iv v25.2),(6,iv s16.2.2)] [(0,.box [sl 1 eStr a2]),(1,.box [sl 8 (Pack.enc false) a3]),(2,rE 1 zC v25.1)]) (fun v25=>?_) (fun jv25=>?_)
  ·refine J_d 979 [] [6] [(6,iv (w64 (s16.2.2+1)))] [] [] zB ?_
   exact J_q (J_b (ih (v25.1,v25.2,w64 (s16.2.2+1)))) rfl
  ·refine zG 29 (fun h22=>?_) (fun h22=>?_)
   ·refine zA (fun x23 h24=>?_)
    refine J_g 31308 [] [(0,rr 2 s16.1),(1,.fn 137 [.pb [.fn 89 [.pb [.fn 87 [pp 0,pp 1]]]]]),(5,iv s16.2.1),(6,iv s16.2.2)] [(0,.box [sl 1 eStr a2]),(1,.box [sl 8 (Pack.enc false) a3]),(2,rE 1 zC (s16.1.set s16.2.1.toNat x18))] (zF 3 (zB5 (kk:=.i64) 25 2 1 2 zC (.tmp 30) (.tmp 31) h24) (zNz 4 (zOT (b:=x18) 2 1 2 0 zC (iv x18) (.tmp 33) (.tmp 32) h24 rfl) zB)) ?_
    refine zKv (σ':=St.mk' [(0,rr 2 (s16.1.set s16.2.1.toNat x18)),(1,.fn 137 [.pb [.fn 89 [.pb [.fn 87 [pp 0,pp 1]]]]]),(5,iv s16.2.1),(6,iv s16.2.2)] [(0,.box [sl 1 eStr a2]),(1,.box [sl 8 (Pack.enc false) a3]),(2,rE 1 zC (s16.1.set s16.2.1.toNat x18))]) (by simp only [rr,List.length_set]) ?_
    refine J_d 31309 [] [5] [(5,iv (w64 (s16.2.1+1)))] [] [] zB ?_
    exact xA (J_j (jv25 (s16.1.set s16.2.1.toNat x18,w64 (s16.2.1+1)))) rfl
   ·exact xA (J_j (jv25 (s16.1,s16.2.1))) rfl
 ·exact xA (hk (s16.1,s16.2.1)) rfl
theorem zK.ok (a1:(List Int)) (a2:(List ByteArray)) (a3:(List Pack)):Ok Tryz.prog 136 [rr 2 a1,.fn 137 [.pb [.fn 89 [.pb [.fn 87 [pp 0,pp 1]]]]]] [.box [sl 1 eStr a2],.box [sl 8 (Pack.enc false) a3],rE 1 zC a1] ((zK a1 a2 a3).map fun r=>(so 1 zC r,[.box [sl 1 eStr a2],.box [sl 8 (Pack.enc false) a3]])):=by
 refine zJ zLF Tryz.f136 3 42 (fun q=>?_)
 unfold zK
 refine J_d 2 [] [] [] [] [] zB ?_
 refine zA (fun x4 h5=>?_)
 refine J_g 6 [] [(0,rr 2 a1),(1,.fn 137 [.pb [.fn 89 [.pb [.fn 87 [pp 0,pp 1]]]]]),(5,iv x4)] [(0,.box [sl 1 eStr a2]),(1,.box [sl 8 (Pack.enc false) a3]),(2,rE 1 zC a1)] (zF 2 (zE6 [(2,rE 1 zC a1),(0,.box [sl 1 eStr a2]),(1,.box [sl 8 (Pack.enc false) a3])] [] (vJ («as»:=[rr 2 a1,.fn 137 [.pb [.fn 89 [.pb [.fn 87 [pp 0,pp 1]]]]]]) [(.tmp 8),(.tmp 9)] [25,110] false [(2,rE 1 zC a1),(0,.box [sl 1 eStr a2]),(1,.box [sl 8 (Pack.enc false) a3])] [2,0,1] (.cons (.rf rfl) (.cons (.fn (.cons (.pb (.cons (.fn (.cons (.pb (.cons (.fn (.cons (.pt rfl) (.cons (.pt rfl) (.nil)))) (.nil))) (.nil))) (.nil))) (.nil))) (.nil))) (zR.ok a1 a2 a3) h5 (.same rfl rfl))) zB) ?_
 refine J_d 28 [] [12] [(12,bv (x4==(-1)))] [] [] zB ?_
 refine zG 12 (fun h6=>?_) (fun h6=>?_)
 ·refine J_g 116 [] [(4,rr 2 a1)] [(0,.box [sl 1 eStr a2]),(1,.box [sl 8 (Pack.enc false) a3]),(2,rE 1 zC a1)] zB ?_
  exact zDZ (ds:=[rr 2 a1]) (ds':=[so 1 zC a1]) (.cons (.cell (.move (.tail _ (.tail _ (.head _))) (List.length_map _) (by decide) (.nil))) (.nil) (by decide)) rfl
 ·refine J_d 60 [] [6,12] [(6,iv (w64 (x4+1)))] [] [] zB ?_
  refine zFv (zZ.ok a2 a3 q _ (fun v26=>J_j ?_) (a1,x4,w64 (x4+1)))
  refine zA (fun x27 h28=>?_)
  refine zA (fun x29 h30=>?_)
  refine J_g 62 [] [(0,rr 2 v26.1),(5,iv v26.2)] [(0,.box [sl 1 eStr a2]),(1,.box [sl 8 (Pack.enc false) a3]),(2,rE 1 zC x29)] (zF 2 (zJb 25 2 1 2 zC (.tmp 36) (some (.tmp 37)) none h28) (zNz 3 (zNa (l:=v26.2) (a:=0) 25 2 1 2 zC (.tmp 38) h30 (.keep rfl (.nil))) zB)) ?_
  refine zKv (σ':=St.mk' [(0,rr 2 x29),(5,iv v26.2)] [(0,.box [sl 1 eStr a2]),(1,.box [sl 8 (Pack.enc false) a3]),(2,rE 1 zC x29)]) (by simp only [rr,zHd h30]) ?_
  refine zA (fun x31 h32=>?_)
  refine J_g 126 [] [(4,rr 3 x31)] [(0,.box [sl 1 eStr a2]),(1,.box [sl 8 (Pack.enc false) a3]),(3,rE 1 zC x31)] (zF 2 (zLP 25 2 1 2 3 zC (.tmp 39) none (some (.tmp 40)) h32) zB) ?_
  exact zDZ (ds:=[rr 3 x31]) (ds':=[so 1 zC x31]) (.cons (.cell (.move (.tail _ (.tail _ (.head _))) (List.length_map _) (by decide) (.nil))) (.nil) (by decide)) rfl
noncomputable def c88:Code:=(Tryz.f88.body).getD .skip
theorem xB.ok (a1:(List Int)) (a2:(List ByteArray)) (a3:(List Pack)):Ok Tryz.prog 88 [sl 1 zC a1,.fn 89 [.pb [.fn 87 [pp 0,pp 1]]]] [.box [sl 1 eStr a2],.box [sl 8 (Pack.enc false) a3]] ((xB a1 a2 a3).map fun r=>(so 1 zC r,[.box [sl 1 eStr a2],.box [sl 8 (Pack.enc false) a3]])):=by
 refine zJ c88 Tryz.f88 2 9 (fun q=>?_)
 unfold xB
 refine J_d 2 [] [1,3] [(3,.pb [.fn 89 [.pb [.fn 87 [pp 0,pp 1]]]])] [] [] (zF 0 (zMe 110 (.tmp 1) (.fn 89 [.pb [.fn 87 [pp 0,pp 1]]])) zB) ?_
 refine zA (fun x4 h5=>?_)
 refine zA (fun x6 h7=>?_)
 refine J_g 6 [] [(4,rr 3 x6)] [(0,.box [sl 1 eStr a2]),(1,.box [sl 8 (Pack.enc false) a3]),(3,rE 1 zC x6)] (zF 1 (vJ («as»:=[sl 1 zC a1]) [(.tmp 5)] [25] false [] [] (.cons (.same rfl) (.nil)) (wK.ok a1) h5 (.own 2)) (zF 3 (vJ («as»:=[rr 2 x4,.fn 137 [.pb [.fn 89 [.pb [.fn 87 [pp 0,pp 1]]]]]]) [(.tmp 6),(.tmp 7)] [25,110] false [(0,.box [sl 1 eStr a2]),(1,.box [sl 8 (Pack.enc false) a3]),(2,rE 1 zC x4)] [0,1,2] (.cons (.rf rfl) (.cons (.fn (.cons (.pb (.cons (.fn (.cons (.pb (.cons (.fn (.cons (.pt rfl) (.cons (.pt rfl) (.nil)))) (.nil))) (.nil))) (.nil))) (.nil))) (.nil))) (zK.ok x4 a2 a3) h7 (.own 3)) zB)) ?_
 exact zDZ (ds:=[rr 3 x6]) (ds':=[so 1 zC x6]) (.cons (.cell (.move (.tail _ (.tail _ (.head _))) (List.length_map _) (by decide) (.nil))) (.nil) (by decide)) rfl
theorem wO.ok (a1:Int) (a2:(List ByteArray)) (a3:(List Pack)):Ok Tryz.prog 137 [iv a1,.pb [.fn 87 [pp 0,pp 1]]] [.box [sl 1 eStr a2],.box [sl 8 (Pack.enc false) a3]] ((wO a1 a2 a3).map fun r=>(bv r,[.box [sl 1 eStr a2],.box [sl 8 (Pack.enc false) a3]])):=by
 refine zJ zQb Tryz.f137 2 8 (fun q=>?_)
 unfold wO
 refine J_d 2 [] [] [] [] [] zB ?_
 refine zA (fun x4 h5=>?_)
 refine J_d 6 [] [0,1,3] [(3,bv (!x4))] [] [] (zF 0 (zK5 (d:=.fn 87 [pp 0,pp 1]) 110 (.tmp 1) [.fn 87 [pp 0,pp 1]]) (zF 2 (zE6 [(0,.box [sl 1 eStr a2]),(1,.box [sl 8 (Pack.enc false) a3])] [] (zEr 4 [(.tmp 5)] [2] false [(0,.box [sl 1 eStr a2]),(1,.box [sl 8 (Pack.enc false) a3])] [0,1] [iv a1] [pp 0,pp 1] (.cons (.same rfl) (.cons (.pt rfl) (.cons (.pt rfl) (.nil)))) (zAZ.ok a1 a2 a3) h5 (.same rfl rfl))) zB)) ?_
 exact xJ rfl
theorem xU.ok (a1:(List Int)) (a2:(List ByteArray)) (a3:(List Pack)) (q:Wd) (kn:Unit→Option (D×List Ent)) (hk:∀v:Unit,J (q.g Tryz.prog 167 3 19) c167 (atI c167 7) (St.mk' [] [(0,rE 1 zC a1),(1,.box [sl 1 eStr a2]),(2,.box [sl 8 (Pack.enc false) a3])]) (some v) kn):
  ∀s10:Int,J (q.g Tryz.prog 167 3 19) c167 (atI c167 52) (St.mk' [(0,rr 0 a1),(1,.fn 137 [.pb [.fn 87 [pp 1,pp 2]]]),(7,iv (a1.length:Int)),(8,iv s10)] [(0,rE 1 zC a1),(1,.box [sl 1 eStr a2]),(2,.box [sl 8 (Pack.enc false) a3])]) (xU a1 a2 a3 s10) (Fl.go (fun r:Int=>some (iv r,[rE 1 zC a1,.box [sl 1 eStr a2],.box [sl 8 (Pack.enc false) a3]])) kn):=by
 refine zAC (fun g ih s10=>?_)
 unfold yF
 refine J_d 104 [] [9] [(9,bv (decide (s10< (a1.length:Int))))] [] [] zB ?_
 refine zG 9 (fun h11=>?_) (fun h11=>?_)
 ·refine J_d 1688 [] [5,9] [(5,iv s10)] [] [] zB ?_
  refine zA (fun x12 h13=>?_)
  refine zA (fun x14 h15=>?_)
  refine J_d 3378 [] [16] [(16,bv x14)] [] [] (zF 3 (zB5 (kk:=.i64) 25 2 1 0 zC (.tmp 12) (.tmp 13) h13) (zF 4 (zBU (d:=iv x12) 2 1 0 0 zC (.tmp 14) h13 (by kernel_rfl)) (zF 5 (zE6 [(1,.box [sl 1 eStr a2]),(2,.box [sl 8 (Pack.enc false) a3])] [] (zEr 11 [(.tmp 15)] [2] false [(1,.box [sl 1 eStr a2]),(2,.box [sl 8 (Pack.enc false) a3])] [1,2] [iv x12] [.pb [.fn 87 [pp 1,pp 2]]] (.cons (.same rfl) (.cons (.pb (.cons (.fn (.cons (.pt rfl) (.cons (.pt rfl) (.nil)))) (.nil))) (.nil))) (wO.ok x12 a2 a3) h15 (.same rfl rfl))) zB))) ?_
  refine zG 16 (fun h16=>?_) (fun h16=>?_)
  ·refine J_d 13516 [] [0,1,4,5,7,8,16] [(4,iv s10)] [] [] zB ?_
   exact xJ rfl
  ·refine J_d 423 [] [5,8,16] [(8,iv (w64 (s10+1)))] [] [] zB ?_
   exact J_q (J_b (ih (w64 (s10+1)))) rfl
 ·exact xA (hk ()) rfl
theorem yQ.ok (a1:(List Int)) (a2:(List ByteArray)) (a3:(List Pack)):Ok Tryz.prog 167 [rr 0 a1,.fn 137 [.pb [.fn 87 [pp 1,pp 2]]]] [rE 1 zC a1,.box [sl 1 eStr a2],.box [sl 8 (Pack.enc false) a3]] ((yQ a1 a2 a3).map fun r=>(iv r,[rE 1 zC a1,.box [sl 1 eStr a2],.box [sl 8 (Pack.enc false) a3]])):=by
 refine zJ c167 Tryz.f167 3 19 (fun q=>?_)
 unfold yQ
 refine J_g 2 [] [(0,rr 0 a1),(1,.fn 137 [.pb [.fn 87 [pp 1,pp 2]]])] [(0,rE 1 zC a1),(1,.box [sl 1 eStr a2]),(2,.box [sl 8 (Pack.enc false) a3])] zB ?_
 refine J_d 12 [] [7,8] [(7,iv (a1.length:Int)),(8,iv 0)] [] [] zB ?_
 refine jW (K0:=(fun r:Int=>some (iv r,[rE 1 zC a1,.box [sl 1 eStr a2],.box [sl 8 (Pack.enc false) a3]]))) (fun _=>rfl) (xU.ok a1 a2 a3 q _ (fun v17=>J_j ?_) 0)
 refine J_d 14 [] [4] [(4,iv (-1))] [] [] zB ?_
 exact xJ rfl
theorem xO.ok (a2:(List ByteArray)) (a3:(List Pack)) (q:Wd) (kn:((List Int)×Int)→Option (D×List Ent)) (hk:∀v:((List Int)×Int),J (q.g Tryz.prog 136 3 42) zLF (atI zLF 31) (St.mk' [(0,rr 2 v.1),(5,iv v.2)] [(0,.box [sl 1 eStr a2]),(1,.box [sl 8 (Pack.enc false) a3]),(2,rE 1 zC v.1)]) (some v) kn):
  ∀s16:((List Int)×Int×Int),J (q.g Tryz.prog 136 3 42) zLF (atI zLF 244) (St.mk' [(0,rr 2 s16.1),(1,.fn 137 [.pb [.fn 87 [pp 0,pp 1]]]),(5,iv s16.2.1),(6,iv s16.2.2)] [(0,.box [sl 1 eStr a2]),(1,.box [sl 8 (Pack.enc false) a3]),(2,rE 1 zC s16.1)]) (xO a2 a3 s16) kn:=by
 refine zAC (fun g ih s16=>?_)
 unfold yD
 refine J_d 976 [] [19] [(19,bv (decide (s16.2.2< (s16.1.length:Int))))] [] [] zB ?_
 refine zG 19 (fun h17=>?_) (fun h17=>?_)
 ·refine zA (fun x18 h19=>?_)
  refine J_d 3912 [] [7,19] [(7,iv x18)] [] [] (zF 2 (zB5 (kk:=.i64) 25 2 1 2 zC (.tmp 22) (.tmp 23) h19) (zF 3 (zBU (d:=iv x18) 2 1 2 0 zC (.tmp 24) h19 (by kernel_rfl)) zB)) ?_
  refine zA (fun x20 h21=>?_)
  refine J_d 7826 [] [29] [(29,bv (!x20))] [] [] (zF 2 (zE6 [(0,.box [sl 1 eStr a2]),(1,.box [sl 8 (Pack.enc false) a3])] [] (zEr 26 [(.tmp 27)] [2] false [(0,.box [sl 1 eStr a2]),(1,.box [sl 8 (Pack.enc false) a3])] [0,1] [iv x18] [.pb [.fn 87 [pp 0,pp 1]]] (.cons (.same rfl) (.cons (.pb (.cons (.fn (.cons (.pt rfl) (.cons (.pt rfl) (.nil)))) (.nil))) (.nil))) (wO.ok x18 a2 a3) h21 (.same rfl rfl))) zB) ?_
  refine wU (aft zLF 1956) (fun v25:((List Int)×Int)=>St.mk' [(0,rr 2 v25.1),(1,.fn 137 [.pb [.fn 87 [pp 0,pp 1]]]),(5,iv v25.2),(6,iv s16.2.2)] [(0,.box [sl 1 eStr a2]),(1,.box [sl 8 (Pack.enc false) a3]),(2,rE 1 zC v25.1)]) (fun v25=>?_) (fun jv25=>?_)
  ·refine J_d 979 [] [6] [(6,iv (w64 (s16.2.2+1)))] [] [] zB ?_
   exact J_q (J_b (ih (v25.1,v25.2,w64 (s16.2.2+1)))) rfl
  ·refine zG 29 (fun h22=>?_) (fun h22=>?_)
   ·refine zA (fun x23 h24=>?_)
    refine J_g 31308 [] [(0,rr 2 s16.1),(1,.fn 137 [.pb [.fn 87 [pp 0,pp 1]]]),(5,iv s16.2.1),(6,iv s16.2.2)] [(0,.box [sl 1 eStr a2]),(1,.box [sl 8 (Pack.enc false) a3]),(2,rE 1 zC (s16.1.set s16.2.1.toNat x18))] (zF 3 (zB5 (kk:=.i64) 25 2 1 2 zC (.tmp 30) (.tmp 31) h24) (zNz 4 (zOT (b:=x18) 2 1 2 0 zC (iv x18) (.tmp 33) (.tmp 32) h24 rfl) zB)) ?_
    refine zKv (σ':=St.mk' [(0,rr 2 (s16.1.set s16.2.1.toNat x18)),(1,.fn 137 [.pb [.fn 87 [pp 0,pp 1]]]),(5,iv s16.2.1),(6,iv s16.2.2)] [(0,.box [sl 1 eStr a2]),(1,.box [sl 8 (Pack.enc false) a3]),(2,rE 1 zC (s16.1.set s16.2.1.toNat x18))]) (by simp only [rr,List.length_set]) ?_
    refine J_d 31309 [] [5] [(5,iv (w64 (s16.2.1+1)))] [] [] zB ?_
    exact xA (J_j (jv25 (s16.1.set s16.2.1.toNat x18,w64 (s16.2.1+1)))) rfl
   ·exact xA (J_j (jv25 (s16.1,s16.2.1))) rfl
 ·exact xA (hk (s16.1,s16.2.1)) rfl
theorem zV.ok (a1:(List Int)) (a2:(List ByteArray)) (a3:(List Pack)):Ok Tryz.prog 136 [rr 2 a1,.fn 137 [.pb [.fn 87 [pp 0,pp 1]]]] [.box [sl 1 eStr a2],.box [sl 8 (Pack.enc false) a3],rE 1 zC a1] ((zV a1 a2 a3).map fun r=>(so 1 zC r,[.box [sl 1 eStr a2],.box [sl 8 (Pack.enc false) a3]])):=by
 refine zJ zLF Tryz.f136 3 42 (fun q=>?_)
 unfold zV
 refine J_d 2 [] [] [] [] [] zB ?_
 refine zA (fun x4 h5=>?_)
 refine J_g 6 [] [(0,rr 2 a1),(1,.fn 137 [.pb [.fn 87 [pp 0,pp 1]]]),(5,iv x4)] [(0,.box [sl 1 eStr a2]),(1,.box [sl 8 (Pack.enc false) a3]),(2,rE 1 zC a1)] (zF 2 (zE6 [(2,rE 1 zC a1),(0,.box [sl 1 eStr a2]),(1,.box [sl 8 (Pack.enc false) a3])] [] (vJ («as»:=[rr 2 a1,.fn 137 [.pb [.fn 87 [pp 0,pp 1]]]]) [(.tmp 8),(.tmp 9)] [25,110] false [(2,rE 1 zC a1),(0,.box [sl 1 eStr a2]),(1,.box [sl 8 (Pack.enc false) a3])] [2,0,1] (.cons (.rf rfl) (.cons (.fn (.cons (.pb (.cons (.fn (.cons (.pt rfl) (.cons (.pt rfl) (.nil)))) (.nil))) (.nil))) (.nil))) (yQ.ok a1 a2 a3) h5 (.same rfl rfl))) zB) ?_
 refine J_d 28 [] [12] [(12,bv (x4==(-1)))] [] [] zB ?_
 refine zG 12 (fun h6=>?_) (fun h6=>?_)
 ·refine J_g 116 [] [(4,rr 2 a1)] [(0,.box [sl 1 eStr a2]),(1,.box [sl 8 (Pack.enc false) a3]),(2,rE 1 zC a1)] zB ?_
  exact zDZ (ds:=[rr 2 a1]) (ds':=[so 1 zC a1]) (.cons (.cell (.move (.tail _ (.tail _ (.head _))) (List.length_map _) (by decide) (.nil))) (.nil) (by decide)) rfl
 ·refine J_d 60 [] [6,12] [(6,iv (w64 (x4+1)))] [] [] zB ?_
  refine zFv (xO.ok a2 a3 q _ (fun v26=>J_j ?_) (a1,x4,w64 (x4+1)))
  refine zA (fun x27 h28=>?_)
  refine zA (fun x29 h30=>?_)
  refine J_g 62 [] [(0,rr 2 v26.1),(5,iv v26.2)] [(0,.box [sl 1 eStr a2]),(1,.box [sl 8 (Pack.enc false) a3]),(2,rE 1 zC x29)] (zF 2 (zJb 25 2 1 2 zC (.tmp 36) (some (.tmp 37)) none h28) (zNz 3 (zNa (l:=v26.2) (a:=0) 25 2 1 2 zC (.tmp 38) h30 (.keep rfl (.nil))) zB)) ?_
  refine zKv (σ':=St.mk' [(0,rr 2 x29),(5,iv v26.2)] [(0,.box [sl 1 eStr a2]),(1,.box [sl 8 (Pack.enc false) a3]),(2,rE 1 zC x29)]) (by simp only [rr,zHd h30]) ?_
  refine zA (fun x31 h32=>?_)
  refine J_g 126 [] [(4,rr 3 x31)] [(0,.box [sl 1 eStr a2]),(1,.box [sl 8 (Pack.enc false) a3]),(3,rE 1 zC x31)] (zF 2 (zLP 25 2 1 2 3 zC (.tmp 39) none (some (.tmp 40)) h32) zB) ?_
  exact zDZ (ds:=[rr 3 x31]) (ds':=[so 1 zC x31]) (.cons (.cell (.move (.tail _ (.tail _ (.head _))) (List.length_map _) (by decide) (.nil))) (.nil) (by decide)) rfl
theorem vW.ok (a1:(List Int)) (a2:(List ByteArray)) (a3:(List Pack)):Ok Tryz.prog 88 [sl 1 zC a1,.fn 87 [pp 0,pp 1]] [.box [sl 1 eStr a2],.box [sl 8 (Pack.enc false) a3]] ((vW a1 a2 a3).map fun r=>(so 1 zC r,[.box [sl 1 eStr a2],.box [sl 8 (Pack.enc false) a3]])):=by
 refine zJ c88 Tryz.f88 2 9 (fun q=>?_)
 unfold vW
 refine J_d 2 [] [1,3] [(3,.pb [.fn 87 [pp 0,pp 1]])] [] [] (zF 0 (zMe 110 (.tmp 1) (.fn 87 [pp 0,pp 1])) zB) ?_
 refine zA (fun x4 h5=>?_)
 refine zA (fun x6 h7=>?_)
 refine J_g 6 [] [(4,rr 3 x6)] [(0,.box [sl 1 eStr a2]),(1,.box [sl 8 (Pack.enc false) a3]),(3,rE 1 zC x6)] (zF 1 (vJ («as»:=[sl 1 zC a1]) [(.tmp 5)] [25] false [] [] (.cons (.same rfl) (.nil)) (wK.ok a1) h5 (.own 2)) (zF 3 (vJ («as»:=[rr 2 x4,.fn 137 [.pb [.fn 87 [pp 0,pp 1]]]]) [(.tmp 6),(.tmp 7)] [25,110] false [(0,.box [sl 1 eStr a2]),(1,.box [sl 8 (Pack.enc false) a3]),(2,rE 1 zC x4)] [0,1,2] (.cons (.rf rfl) (.cons (.fn (.cons (.pb (.cons (.fn (.cons (.pt rfl) (.cons (.pt rfl) (.nil)))) (.nil))) (.nil))) (.nil))) (zV.ok x4 a2 a3) h7 (.own 3)) zB)) ?_
 exact zDZ (ds:=[rr 3 x6]) (ds':=[so 1 zC x6]) (.cons (.cell (.move (.tail _ (.tail _ (.head _))) (List.length_map _) (by decide) (.nil))) (.nil) (by decide)) rfl
theorem tO.ok (a1:List Int):Ok Tryz.prog 90 [rr 0 a1] [rE 1 zC a1] ((tO a1).map fun r=>(.tu [],[rE 1 zC r])):=by
 unfold tO
 split
 ·exact zMA (enc:=Value.int .i64) (by simp [List.length_mergeSort]) (fun blk off cap w hH hb=>Tryz.slices_Sort_int blk off cap a1 w hH hb (by omega)) (fun _ p cap w=>Tryz.slices_Sort_int_none p cap w)
 ·exact fun _ h=>by cases h
noncomputable def c44:Code:=(Tryz.f44.body).getD .skip
theorem jZ.ok (a1:(List Pack)) (a2:(List Int)) (a3:(List Int)) (a4:(List ByteArray)):Ok Tryz.prog 44 [sl 8 (Pack.enc false) a1,sl 1 zC a2,sl 1 zC a3,sl 1 eStr a4] [] ((jZ a1 a2 a3 a4).map fun r=>(so 1 zC r,[])):=by
 refine zJ c44 Tryz.f44 0 22 (fun q=>?_)
 unfold jZ
 refine J_g 2 [(0,0),(1,1)] [(1,sl 1 zC a2),(2,sl 1 zC a3),(4,pp 0),(7,pp 1)] [(0,.box [sl 8 (Pack.enc false) a1]),(1,.box [sl 1 eStr a4])] zB ?_
 refine J_g 6 [(1,2)] [(1,sl 1 zC a2),(2,sl 1 zC a3),(9,pp 2)] [(0,.box [sl 8 (Pack.enc false) a1]),(1,.box [sl 1 eStr a4]),(2,.box [.fn 87 [pp 1,pp 0]])] zB ?_
 refine zBv [(1,sl 1 zC a2),(2,sl 1 zC a3),(9,pp 2)] [(2,.box [.fn 87 [pp 1,pp 0]]),(0,.box [sl 8 (Pack.enc false) a1]),(1,.box [sl 1 eStr a4])] (by kernel_rfl) ?_
 refine zP6 2 (tm2:=[(1,sl 1 zC a2),(2,sl 1 zC a3),(9,.pb [.fn 87 [pp 1,pp 0]])]) (hp1:=[(0,.box [sl 8 (Pack.enc false) a1]),(1,.box [sl 1 eStr a4])]) (.keep (by kernel_rfl) (.keep (by kernel_rfl) (.pt (.nil)))) (by kernel_rfl) ?_
 refine zA (fun x5 h6=>?_)
 refine zA (fun x7 h8=>?_)
 refine zA (fun x9 h10=>?_)
 refine J_g 14 [] [(10,rr 4 x9)] [(4,rE 1 zC x9)] (zF 2 (zE6 [(1,.box [sl 1 eStr a4]),(0,.box [sl 8 (Pack.enc false) a1])] [(2,rE 1 zC x5)] (vJ («as»:=[sl 1 zC a2,.fn 89 [.pb [.fn 87 [pp 1,pp 0]]]]) [(.tmp 12),(.tmp 13)] [25,110] false [(1,.box [sl 1 eStr a4]),(0,.box [sl 8 (Pack.enc false) a1])] [1,0] (.cons (.same rfl) (.cons (.fn (.cons (.pb (.cons (.fn (.cons (.pt rfl) (.cons (.pt rfl) (.nil)))) (.nil))) (.nil))) (.nil))) (xB.ok a2 a4 a1) h6 (.own 2))) (zF 4 (zK5 (d:=.fn 87 [pp 1,pp 0]) 110 (.tmp 9) [.fn 87 [pp 1,pp 0]]) (zF 5 (zE6 [(1,.box [sl 1 eStr a4]),(0,.box [sl 8 (Pack.enc false) a1])] [(3,rE 1 zC x7)] (vJ («as»:=[sl 1 zC a3,.fn 87 [pp 1,pp 0]]) [(.tmp 15),(.tmp 16)] [25,110] false [(1,.box [sl 1 eStr a4]),(0,.box [sl 8 (Pack.enc false) a1])] [1,0] (.cons (.same rfl) (.cons (.fn (.cons (.pt rfl) (.cons (.pt rfl) (.nil)))) (.nil))) (vW.ok a3 a4 a1) h8 (.own 3))) (zF 6 (zFg 25 25 2 2 1 8 4 2 3 zC (.tmp 14) (.tmp 17) h10) zB)))) ?_
 refine zA (fun x11 h12=>?_)
 refine J_g 30 [] [(10,rr 4 x9)] [(4,rE 1 zC x11)] (zF 1 (vJ («as»:=[rr 4 x9]) [(.tmp 19)] [25] false [(4,rE 1 zC x9)] [4] (.cons (.rf rfl) (.nil)) (tO.ok x9) h12 (.tu (.nil))) zB) ?_
 refine zA (fun u13 h14=>?_)
 refine zKv (σ':=St.mk' [(10,rr 4 x11)] [(4,rE 1 zC x11)]) (by simp only [rr,zIH h14]) ?_
 refine J_g 62 [] [(8,rr 4 x11)] [(4,rE 1 zC x11)] zB ?_
 exact zDZ (ds:=[rr 4 x11]) (ds':=[so 1 zC x11]) (.cons (.cell (.move (.head _) (List.length_map _) (by decide) (.nil))) (.nil) (by decide)) rfl
noncomputable def c92:Code:=(Tryz.f92.body).getD .skip
theorem zAF.ok (a1:(List ByteArray)) (a2:(List Pack)) (a3:(List Int)) (a4:(List Int)):Ok Tryz.prog 92 [sl 1 eStr a1,pp 0,pp 1,pp 2] [.box [sl 8 (Pack.enc false) a2],.box [sl 1 zC a3],.box [sl 1 zC a4]] ((zAF a1 a2 a3 a4).map fun r=>(bv r,[.box [sl 8 (Pack.enc false) a2],.box [sl 1 zC a3],.box [sl 1 zC a4]])):=by
 refine zJ c92 Tryz.f92 3 18 (fun q=>?_)
 unfold zAF
 refine J_d 2 [] [] [] [] [] zB ?_
 refine uN (fun h5=>?_) (fun h5=>?_)
 ·refine zA (fun x6 h7=>?_)
  refine zA (fun x8 h9=>?_)
  refine J_d 6 [] [0,1,2,3,5] [(5,bv x8)] [] [] (vV 3 [(8,bv (decide ((a1.length:Int)≤24)))] [] h5 (zAR 9 3 9 true (vJ («as»:=[sl 8 (Pack.enc false) a2,sl 1 zC a3,sl 1 zC a4,sl 1 eStr a1]) [(.tmp 11),(.tmp 12),(.tmp 13),(.tmp 14)] [24,25,25,32] false [] [] (.cons (.same rfl) (.cons (.same rfl) (.cons (.same rfl) (.cons (.same rfl) (.nil))))) (jZ.ok a2 a3 a4 a1) h7 (.own 3)) (zAR 10 3 9 true (vJ («as»:=[sl 8 (Pack.enc false) a2,rr 3 x6]) [(.tmp 10),(.tmp 15)] [24,25] true [(3,rE 1 zC x6)] [] (.cons (.same rfl) (.cons (zDY (.head _) (fun _=>rfl) rfl) (.nil))) (xQ.ok a2 x6) h9 (.same rfl rfl) (hbor:=fun _=>⟨fhN,yV⟩)) zB))) ?_
  exact xJ rfl
 ·refine J_d 6 [] [0,1,2,3,5] [(5,bv false)] [] [] (vV 3 [(8,bv (decide ((a1.length:Int)≤24)))] [] h5 zB) ?_
  exact xJ rfl
noncomputable def c93:Code:=(Tryz.f93.body).getD .skip
theorem vL.ok (a1:(List ByteArray)):Ok Tryz.prog 93 [sl 1 eStr a1] [] ((vL a1).map fun r=>(so 1 eStr r,[])):=by
 refine zJ c93 Tryz.f93 0 8 (fun q=>?_)
 unfold vL
 refine J_g 2 [] [(0,sl 1 eStr a1)] [] zB ?_
 refine J_d 12 [] [4] [(4,.nb a1.length)] [] [] (zF 1 (zM8 (xs:=a1) 32 9 32 1 eStr (.tmp 3)) zB) ?_
 refine zPZ 4 rfl (fun h2=>?_) ?_
 ·obtain rfl:a1=[]:=List.eq_nil_of_length_eq_zero h2
  refine zNI (e':=some ([]:List ByteArray)) (by kernel_rfl) ?_
  refine J_g 52 [] [(2,nv)] [] zB ?_
  exact zDZ (ds:=[nv]) (ds':=[so 1 eStr ([]:List ByteArray)]) (.cons (.cell (.nilsl true 1 (.nil))) (.nil) (by decide)) rfl
 ·refine zA (fun x3 h4=>?_)
  refine J_g 14 [] [(2,rr 1 x3)] [(1,rE 1 eStr x3)] (zF 0 (zBw 32 9 1 0 eStr ([]:List ByteArray) [] [] []) (zF 2 (zJC 32 32 9 9 1 16 1 0 eStr (.tmp 5) (.tmp 6) h4) zB)) ?_
  exact zDZ (ds:=[rr 1 x3]) (ds':=[so 1 eStr x3]) (.cons (.cell (.move (.head _) (List.length_map _) (by decide) (.nil))) (.nil) (by decide)) rfl
noncomputable def zQ2:Code:=(Tryz.f190.body).getD .skip
theorem cmp_isNaN_string.ok (a1:ByteArray):Ok Tryz.prog 190 [sv a1] [] ((cmp_isNaN_string a1).map fun r=>(bv r,[])):=by
 refine zJ zQ2 Tryz.f190 0 6 (fun q=>?_)
 unfold cmp_isNaN_string
 refine J_g 2 [] [(0,sv a1)] [] zB ?_
 refine J_g 6 [] [(2,bv (!(seq a1 a1)))] [] zB ?_
 exact xJ rfl
noncomputable def c141:Code:=(Tryz.f141.body).getD .skip
theorem jP.ok (a1:ByteArray) (a2:ByteArray):Ok Tryz.prog 141 [sv a1,sv a2] [] ((jP a1 a2).map fun r=>(iv r,[])):=by
 refine zJ c141 Tryz.f141 0 20 (fun q=>?_)
 unfold jP
 refine J_d 2 [] [] [] [] [] zB ?_
 refine zA (fun x3 h4=>?_)
 refine J_d 6 [] [5] [(5,bv x3)] [] [] (zF 1 (vZ [(.tmp 7)] [9] (cmp_isNaN_string.ok a1) h4) zB) ?_
 refine zA (fun x5 h6=>?_)
 refine J_g 14 [] [(0,sv a1),(1,sv a2),(5,bv x3),(6,bv x5)] [] (zF 1 (vZ [(.tmp 9)] [9] (cmp_isNaN_string.ok a2) h6) zB) ?_
 refine J_d 60 [] [5,11] [(11,bv x3)] [] [] zB ?_
 refine zG 11 (fun h7=>?_) (fun h7=>?_)
 ·refine J_g 488 [] [(12,bv x5)] [] zB ?_
  refine zG 12 (fun h8=>?_) (fun h8=>?_)
  ·refine J_g 1956 [] [(4,iv 0)] [] zB ?_
   exact xJ rfl
  ·refine J_g 490 [] [(4,iv (-1))] [] zB ?_
   exact xJ rfl
 ·refine J_g 124 [] [(0,sv a1),(1,sv a2),(13,bv x5)] [] zB ?_
  refine zG 13 (fun h9=>?_) (fun h9=>?_)
  ·refine J_g 500 [] [(4,iv 1)] [] zB ?_
   exact xJ rfl
  ·refine J_d 252 [] [13,16] [(16,bv (slt a1 a2))] [] [] zB ?_
   refine zG 16 (fun h10=>?_) (fun h10=>?_)
   ·refine J_g 1012 [] [(4,iv (-1))] [] zB ?_
    exact xJ rfl
   ·refine J_g 508 [] [(19,bv (!(slt a1 a2||seq a1 a2)))] [] zB ?_
    refine zG 19 (fun h11=>?_) (fun h11=>?_)
    ·refine J_g 2036 [] [(4,iv 1)] [] zB ?_
     exact xJ rfl
    ·refine J_g 510 [] [(4,iv 0)] [] zB ?_
     exact xJ rfl
noncomputable def c96:Code:=(Tryz.f96.body).getD .skip
theorem tN.ok (a1:(List ByteArray)) (a2:(List ByteArray)) (q:Wd) (kn:Unit→Option (D×List Ent)) (hk:∀v:Unit,J (q.g Tryz.prog 96 0 36) c96 (atI c96 7) (St.mk' [(0,sl 1 eStr a1),(1,sl 1 eStr a2)] []) (some v) kn):
  ∀s12:Int,J (q.g Tryz.prog 96 0 36) c96 (atI c96 52) (St.mk' [(0,sl 1 eStr a1),(1,sl 1 eStr a2),(9,sl 1 eStr a1),(10,iv (a1.length:Int)),(11,iv s12)] []) (tN a1 a2 s12) (Fl.go (fun r:Int=>some (iv r,[])) kn):=by
 refine zAC (fun g ih s12=>?_)
 unfold uQ
 refine J_d 104 [] [12] [(12,bv (decide (s12< (a1.length:Int))))] [] [] zB ?_
 refine zG 12 (fun h13=>?_) (fun h13=>?_)
 ·refine zA (fun x14 h15=>?_)
  refine J_g 1688 [] [(0,sl 1 eStr a1),(1,sl 1 eStr a2),(5,iv s12),(6,sv x14),(9,sl 1 eStr a1),(10,iv (a1.length:Int)),(11,iv s12)] [] (zF 1 (kD (kk:=.i64) 32 9 1 eStr (.tmp 9) (.tmp 11) h15) zB) ?_
  refine J_d 6756 [] [19] [(19,bv (decide (s12≥(a2.length:Int))))] [] [] zB ?_
  refine zG 19 (fun h16=>?_) (fun h16=>?_)
  ·refine J_g 27028 [] [(4,iv 1)] [] zB ?_
   exact xJ rfl
  ·refine zA (fun x17 h18=>?_)
   refine J_d 6758 [] [5,7,19] [(7,sv x17)] [] [] (zF 2 (kD (kk:=.i64) 32 9 1 eStr (.tmp 20) (.tmp 21) h18) zB) ?_
   refine zA (fun x19 h20=>?_)
   refine J_g 13518 [] [(0,sl 1 eStr a1),(1,sl 1 eStr a2),(8,iv x19),(9,sl 1 eStr a1),(10,iv (a1.length:Int)),(11,iv s12)] [] (zF 2 (vZ [(.tmp 24),(.tmp 25)] [9,9] (jP.ok x14 x17) h20) zB) ?_
   refine J_d 27038 [] [28] [(28,bv (x19 !=0))] [] [] zB ?_
   refine zG 28 (fun h21=>?_) (fun h21=>?_)
   ·refine J_g 108156 [] [(4,iv x19)] [] zB ?_
    exact xJ rfl
   ·refine J_d 423 [] [8,11,28] [(11,iv (w64 (s12+1)))] [] [] zB ?_
    exact J_q (J_b (ih (w64 (s12+1)))) rfl
 ·exact xA (hk ()) rfl
theorem uE.ok (a1:(List ByteArray)) (a2:(List ByteArray)):Ok Tryz.prog 96 [sl 1 eStr a1,sl 1 eStr a2] [] ((uE a1 a2).map fun r=>(iv r,[])):=by
 refine zJ c96 Tryz.f96 0 36 (fun q=>?_)
 unfold uE
 refine J_g 2 [] [(0,sl 1 eStr a1),(1,sl 1 eStr a2)] [] zB ?_
 refine J_d 12 [] [9,10,11] [(9,sl 1 eStr a1),(10,iv (a1.length:Int)),(11,iv 0)] [] [] zB ?_
 refine jW (K0:=(fun r:Int=>some (iv r,[]))) (fun _=>rfl) (tN.ok a1 a2 q _ (fun v22=>J_j ?_) 0)
 refine J_g 28 [] [(35,bv (decide ((a1.length:Int)< (a2.length:Int))))] [] zB ?_
 refine zG 35 (fun h23=>?_) (fun h23=>?_)
 ·refine J_g 116 [] [(4,iv (-1))] [] zB ?_
  exact xJ rfl
 ·refine J_g 30 [] [(4,iv 0)] [] zB ?_
  exact xJ rfl
noncomputable def c95:Code:=(Tryz.f95.body).getD .skip
theorem wV.ok (a1:(List ByteArray)) (a2:(List ByteArray)):Ok Tryz.prog 95 [sl 1 eStr a1,sl 1 eStr a2] [] ((wV a1 a2).map fun r=>(iv r,[])):=by
 refine zJ c95 Tryz.f95 0 18 (fun q=>?_)
 unfold wV
 refine J_g 2 [] [(0,sl 1 eStr a1),(1,sl 1 eStr a2)] [] zB ?_
 refine J_d 12 [] [9] [(9,bv ((a1.length:Int) !=(a2.length:Int)))] [] [] zB ?_
 refine zG 9 (fun h3=>?_) (fun h3=>?_)
 ·refine J_g 52 [] [(4,iv (w64 ((a1.length:Int)-(a2.length:Int))))] [] zB ?_
  exact xJ rfl
 ·refine zA (fun x4 h5=>?_)
  refine J_g 14 [] [(4,iv x4)] [] (zF 2 (vZ [(.tmp 15),(.tmp 16)] [32,32] (uE.ok a1 a2) h5) zB) ?_
  exact xJ rfl
theorem wX.ok (a1:(List (List ByteArray))):Ok Tryz.prog 94 [rr 0 a1,.fn 95 []] [rE 1 (eSl true 1 eStr) a1] ((wX a1).map fun r=>(.tu [],[rE 1 (eSl true 1 eStr) r])):=by
 unfold wX
 cases h:zJd wV a1 with
 |none=>exact fun _ h=>by cases h
 |some ys=>exact zNs wV.ok h (fun n _ enc h1 cf hO blk off cap d w hc hH hb hs hT=>Any.slices_SortFunc_total Tryz.sort94 enc h1 cf hO 95 #[] blk off cap d w (fun args w=>zL _ _ w (by kernel_rfl)) hc hH hb hs hT) (fun p cap fv w=>AnyF.slices_SortFunc_none {Tryz.sort94 with} p cap fv w)
theorem zAx.ok (a1:(List ByteArray)) (a2:(List Pack)) (a3:(List Int)) (a4:(List Int)):Ok Tryz.prog 92 [rr 0 a1,pp 1,pp 2,pp 3] [rE 1 eStr a1,.box [sl 8 (Pack.enc false) a2],.box [sl 1 zC a3],.box [sl 1 zC a4]] ((zAx a1 a2 a3 a4).map fun r=>(bv r,[rE 1 eStr a1,.box [sl 8 (Pack.enc false) a2],.box [sl 1 zC a3],.box [sl 1 zC a4]])):=by
 refine zJ c92 Tryz.f92 4 18 (fun q=>?_)
 unfold zAx
 refine J_d 2 [] [] [] [] [] zB ?_
 refine uN (fun h5=>?_) (fun h5=>?_)
 ·refine zA (fun x6 h7=>?_)
  refine zA (fun x8 h9=>?_)
  refine J_d 6 [] [0,1,2,3,5] [(5,bv x8)] [] [] (vV 3 [(8,bv (decide ((a1.length:Int)≤24)))] [] h5 (zAR 9 3 9 true (vJ («as»:=[sl 8 (Pack.enc false) a2,sl 1 zC a3,sl 1 zC a4,rr 0 a1]) [(.tmp 11),(.tmp 12),(.tmp 13),(.tmp 14)] [24,25,25,32] true [(0,rE 1 eStr a1)] [] (.cons (.same rfl) (.cons (.same rfl) (.cons (.same rfl) (.cons (zDY (.head _) (fun _=>rfl) rfl) (.nil))))) (jZ.ok a2 a3 a4 a1) h7 (.own 4) (hbor:=fun _=>⟨fhN,(zC7 (zEp (fun _=>(flatK yV zDq)) _))⟩)) (zAR 10 3 9 true (vJ («as»:=[sl 8 (Pack.enc false) a2,rr 4 x6]) [(.tmp 10),(.tmp 15)] [24,25] true [(4,rE 1 zC x6)] [] (.cons (.same rfl) (.cons (zDY (.head _) (fun _=>rfl) rfl) (.nil))) (xQ.ok a2 x6) h9 (.same rfl rfl) (hbor:=fun _=>⟨fhN,yV⟩)) zB))) ?_
  exact xJ rfl
 ·refine J_d 6 [] [0,1,2,3,5] [(5,bv false)] [] [] (vV 3 [(8,bv (decide ((a1.length:Int)≤24)))] [] h5 zB) ?_
  exact xJ rfl
noncomputable def c97:Code:=(Tryz.f97.body).getD .skip
theorem xK.ok (a1:(List (List ByteArray))) (a2:(List Pack)) (a3:(List Int)) (a4:(List Int)) (q:Wd) (kn:Unit→Option (D×List Ent)) (hk:∀v:Unit,J (q.g Tryz.prog 97 4 19) c97 (atI c97 7) (St.mk' [] [(0,rE 1 (eSl true 1 eStr) a1),(1,.box [sl 8 (Pack.enc false) a2]),(2,.box [sl 1 zC a3]),(3,.box [sl 1 zC a4])]) (some v) kn):
  ∀s11:Int,J (q.g Tryz.prog 97 4 19) c97 (atI c97 52) (St.mk' [(0,rr 0 a1),(1,.fn 92 [pp 1,pp 2,pp 3]),(7,iv (a1.length:Int)),(8,iv s11)] [(0,rE 1 (eSl true 1 eStr) a1),(1,.box [sl 8 (Pack.enc false) a2]),(2,.box [sl 1 zC a3]),(3,.box [sl 1 zC a4])]) (xK a1 a2 a3 a4 s11) (Fl.go (fun r:Int=>some (iv r,[rE 1 (eSl true 1 eStr) a1,.box [sl 8 (Pack.enc false) a2],.box [sl 1 zC a3],.box [sl 1 zC a4]])) kn):=by
 refine zAC (fun g ih s11=>?_)
 unfold xD
 refine J_d 104 [] [9] [(9,bv (decide (s11< (a1.length:Int))))] [] [] zB ?_
 refine zG 9 (fun h12=>?_) (fun h12=>?_)
 ·refine J_g 1688 [] [(0,rr 0 a1),(1,.fn 92 [pp 1,pp 2,pp 3]),(5,iv s11),(7,iv (a1.length:Int)),(8,iv s11)] [(0,rE 1 (eSl true 1 eStr) a1),(1,.box [sl 8 (Pack.enc false) a2]),(2,.box [sl 1 zC a3]),(3,.box [sl 1 zC a4])] zB ?_
  refine zA (fun x13 h14=>?_)
  refine zF5 (ix:=s11) (enc:=(eSl true 1 eStr)) 0 0 4 h14 rfl rfl (by kernel_rfl) ?_
  refine zBv [(0,rr 0 a1),(1,.fn 92 [pp 1,pp 2,pp 3]),(5,iv s11),(7,iv (a1.length:Int)),(8,iv s11)] [(0,.lent 1 (a1.map (eSl true 1 eStr)) s11.toNat 0 4 x13.length),(1,.box [sl 8 (Pack.enc false) a2]),(2,.box [sl 1 zC a3]),(3,.box [sl 1 zC a4]),(4,rE 1 eStr x13)] (by kernel_rfl) ?_
  refine zA (fun x15 h16=>?_)
  refine J_g 3378 [] [(0,rr 0 a1),(1,.fn 92 [pp 1,pp 2,pp 3]),(5,iv s11),(7,iv (a1.length:Int)),(8,iv s11),(16,bv x15)] [(0,.lent 1 (a1.map (eSl true 1 eStr)) s11.toNat 0 4 x13.length),(1,.box [sl 8 (Pack.enc false) a2]),(2,.box [sl 1 zC a3]),(3,.box [sl 1 zC a4]),(4,rE 1 eStr x13)] (zF 3 (zJ5 (kk:=.i64) 28 32 1 0 (eSl true 1 eStr) (.tmp 12) (.tmp 13) s11.toNat 0 4 x13.length h14) (zF 4 (zIQ 32 0 (.tmp 14) 1 (eSl true 1 eStr) a1 s11.toNat 0 4 x13.length) (zF 5 (zE6 [(4,rE 1 eStr x13),(1,.box [sl 8 (Pack.enc false) a2]),(2,.box [sl 1 zC a3]),(3,.box [sl 1 zC a4])] [] (zEr 11 [(.tmp 15)] [32] false [(4,rE 1 eStr x13),(1,.box [sl 8 (Pack.enc false) a2]),(2,.box [sl 1 zC a3]),(3,.box [sl 1 zC a4])] [4,1,2,3] [rr 4 x13] [pp 1,pp 2,pp 3] (.cons (.rf rfl) (.cons (.pt rfl) (.cons (.pt rfl) (.cons (.pt rfl) (.nil))))) (zAx.ok x13 a2 a3 a4) h16 (.same rfl rfl))) zB))) ?_
  refine zG6 (ix:=s11) (enc:=(eSl true 1 eStr)) (b:=x13) 0 0 4 h14 rfl rfl rfl rfl rfl (Nat.le_of_ble_eq_true rfl) (List.length_map _) ?_
  rw [zFK h14]
  refine zBv [(0,rr 0 a1),(1,.fn 92 [pp 1,pp 2,pp 3]),(5,iv s11),(7,iv (a1.length:Int)),(8,iv s11),(16,bv x15)] [(0,rE 1 (eSl true 1 eStr) a1),(1,.box [sl 8 (Pack.enc false) a2]),(2,.box [sl 1 zC a3]),(3,.box [sl 1 zC a4])] (by kernel_rfl) ?_
  refine zG 16 (fun h17=>?_) (fun h17=>?_)
  ·refine J_d 13516 [] [0,1,4,5,7,8,16] [(4,iv s11)] [] [] zB ?_
   exact xJ rfl
  ·refine J_d 423 [] [5,8,16] [(8,iv (w64 (s11+1)))] [] [] zB ?_
   exact J_q (J_b (ih (w64 (s11+1)))) rfl
 ·exact xA (hk ()) rfl
theorem yS.ok (a1:(List (List ByteArray))) (a2:(List Pack)) (a3:(List Int)) (a4:(List Int)):Ok Tryz.prog 97 [rr 0 a1,.fn 92 [pp 1,pp 2,pp 3]] [rE 1 (eSl true 1 eStr) a1,.box [sl 8 (Pack.enc false) a2],.box [sl 1 zC a3],.box [sl 1 zC a4]] ((yS a1 a2 a3 a4).map fun r=>(iv r,[rE 1 (eSl true 1 eStr) a1,.box [sl 8 (Pack.enc false) a2],.box [sl 1 zC a3],.box [sl 1 zC a4]])):=by
 refine zJ c97 Tryz.f97 4 19 (fun q=>?_)
 unfold yS
 refine J_g 2 [] [(0,rr 0 a1),(1,.fn 92 [pp 1,pp 2,pp 3])] [(0,rE 1 (eSl true 1 eStr) a1),(1,.box [sl 8 (Pack.enc false) a2]),(2,.box [sl 1 zC a3]),(3,.box [sl 1 zC a4])] zB ?_
 refine J_d 12 [] [7,8] [(7,iv (a1.length:Int)),(8,iv 0)] [] [] zB ?_
 refine jW (K0:=(fun r:Int=>some (iv r,[rE 1 (eSl true 1 eStr) a1,.box [sl 8 (Pack.enc false) a2],.box [sl 1 zC a3],.box [sl 1 zC a4]]))) (fun _=>rfl) (xK.ok a1 a2 a3 a4 q _ (fun v18=>J_j ?_) 0)
 refine J_d 14 [] [4] [(4,iv (-1))] [] [] zB ?_
 exact xJ rfl
noncomputable def c48:Code:=(Tryz.f48.body).getD .skip
theorem zAw.ok (a1:(List Pack)) (a2:(List Int)) (a3:(List Int)) (a4:(List ByteArray)) (s34:((List (List ByteArray))×Int)) (q:Wd) (kn:(List ByteArray)→Option (D×List Ent)) (hk:∀v:(List ByteArray),J (q.g Tryz.prog 48 0 71) c48 (atI c48 32403) (St.mk' [(3,sl 1 eStr a4),(10,.fn 92 [pp 0,pp 1,pp 2]),(11,rr 3 s34.1),(12,iv s34.2),(13,rr 4 v)] [(0,.box [sl 8 (Pack.enc false) a1]),(1,.box [sl 1 zC a2]),(2,.box [sl 1 zC a3]),(3,rE 1 (eSl true 1 eStr) s34.1),(4,rE 1 eStr v)]) (some v) kn):
  ∀s45:((List ByteArray)×Int),J (q.g Tryz.prog 48 0 71) c48 (atI c48 259220) (St.mk' [(3,sl 1 eStr a4),(10,.fn 92 [pp 0,pp 1,pp 2]),(11,rr 3 s34.1),(12,iv s34.2),(13,rr 4 s45.1),(37,sl 1 eStr a4),(38,iv (a4.length:Int)),(39,iv s45.2)] [(0,.box [sl 8 (Pack.enc false) a1]),(1,.box [sl 1 zC a2]),(2,.box [sl 1 zC a3]),(3,rE 1 (eSl true 1 eStr) s34.1),(4,rE 1 eStr s45.1)]) (zAw a1 a2 a3 a4 s34 s45) kn:=by
 refine zAC (fun g ih s45=>?_)
 unfold zBg
 refine J_d 518440 [] [40] [(40,bv (decide (s45.2< (a4.length:Int))))] [] [] zB ?_
 refine zG 40 (fun h46=>?_) (fun h46=>?_)
 ·refine zA (fun x47 h48=>?_)
  refine J_d 8295064 [] [14,15,40] [(14,iv s45.2),(15,sv x47)] [] [] (zF 1 (kD (kk:=.i64) 32 9 1 eStr (.tmp 37) (.tmp 39) h48) zB) ?_
  refine zA (fun x49 h50=>?_)
  refine J_d 16590130 [] [14,48] [(48,bv ((zPk .i64 x49 1)==1))] [] [] (zF 2 (zPR (k2:=.i64) 3 3 (.tmp 44) (.tmp 45) h50) (zF 3 (zPD (k:=.i64) (a:=x49) (b:=1) 3 3 (.tmp 46) (.const (.int .i64 1))) zB)) ?_
  refine wU (aft c48 4147532) (fun v54:(List ByteArray)=>St.mk' [(3,sl 1 eStr a4),(10,.fn 92 [pp 0,pp 1,pp 2]),(11,rr 3 s34.1),(12,iv s34.2),(13,rr 6 v54),(37,sl 1 eStr a4),(38,iv (a4.length:Int)),(39,iv s45.2)] [(0,.box [sl 8 (Pack.enc false) a1]),(1,.box [sl 1 zC a2]),(2,.box [sl 1 zC a3]),(3,rE 1 (eSl true 1 eStr) s34.1),(6,rE 1 eStr v54)]) (fun v54=>?_) (fun jv54=>?_)
  ·refine J_d 2073767 [] [39] [(39,iv (w64 (s45.2+1)))] [] [] zB ?_
   refine uX 6 4 (Nat.le_of_ble_eq_true rfl) (Nat.le_of_ble_eq_true rfl) ?_
   exact J_q (J_b (ih (v54,w64 (s45.2+1)))) rfl
  ·refine zG 48 (fun h51=>?_) (fun h51=>?_)
   ·refine zA (fun x52 h53=>?_)
    refine J_d 33180262 [] [13,15,48] [(13,rr 6 x52)] [4,6] [(6,rE 1 eStr x52)] (zF 2 (zBw 32 9 1 5 eStr [x47] [0] [(.tmp 50)] [sv x47]) (zF 3 (zFg 32 32 9 9 1 16 6 4 5 eStr (.tmp 49) (.tmp 51) h53) zB)) ?_
    exact xA (J_j (jv54 x52)) rfl
   ·refine uX 4 6 (Nat.le_of_ble_eq_true rfl) (Nat.le_of_ble_eq_true rfl) ?_
    exact xA (J_j (jv54 s45.1)) rfl
 ·exact xA (hk s45.1) rfl
theorem zAy.ok (a1:(List Pack)) (a2:(List Int)) (a3:(List Int)) (a4:(List ByteArray)) (q:Wd) (kn:(List (List ByteArray))→Option (D×List Ent)) (hk:∀v:(List (List ByteArray)),J (q.g Tryz.prog 48 0 71) c48 (atI c48 127) (St.mk' [(3,sl 1 eStr a4),(10,.fn 92 [pp 0,pp 1,pp 2]),(11,rr 3 v)] [(0,.box [sl 8 (Pack.enc false) a1]),(1,.box [sl 1 zC a2]),(2,.box [sl 1 zC a3]),(3,rE 1 (eSl true 1 eStr) v)]) (some v) kn):
  ∀s34:((List (List ByteArray))×Int),J (q.g Tryz.prog 48 0 71) c48 (atI c48 1012) (St.mk' [(3,sl 1 eStr a4),(10,.fn 92 [pp 0,pp 1,pp 2]),(11,rr 3 s34.1),(12,iv s34.2)] [(0,.box [sl 8 (Pack.enc false) a1]),(1,.box [sl 1 zC a2]),(2,.box [sl 1 zC a3]),(3,rE 1 (eSl true 1 eStr) s34.1)]) (zAy a1 a2 a3 a4 s34) kn:=by
 refine zAC (fun g ih s34=>?_)
 unfold zBd
 refine zA (fun x35 h36=>?_)
 refine J_d 4048 [] [33] [(33,bv (decide (s34.2< (w64 (x35-1)))))] [] [] (zF 3 (zP8 (k2:=.i64) 3 3 (.const (.int .i64 1)) (.tmp 30) h36) zB) ?_
 refine zG 33 (fun h37=>?_) (fun h37=>?_)
 ·refine J_g 16200 [] [(3,sl 1 eStr a4),(10,.fn 92 [pp 0,pp 1,pp 2]),(11,rr 3 s34.1),(12,iv s34.2),(13,rr 4 ([]:List ByteArray))] [(0,.box [sl 8 (Pack.enc false) a1]),(1,.box [sl 1 zC a2]),(2,.box [sl 1 zC a3]),(3,rE 1 (eSl true 1 eStr) s34.1),(4,rE 1 eStr ([]:List ByteArray))] (zF 0 (zBw 32 9 1 4 eStr ([]:List ByteArray) [] [] []) zB) ?_
  refine J_d 64804 [] [37,38,39] [(37,sl 1 eStr a4),(38,iv (a4.length:Int)),(39,iv 0)] [] [] zB ?_
  refine zFv (zAw.ok a1 a2 a3 a4 s34 q _ (fun v55=>J_j ?_) (([]:List ByteArray),0))
  refine zA (fun x56 h57=>?_)
  refine J_g 32403 [] [(3,sl 1 eStr a4),(10,.fn 92 [pp 0,pp 1,pp 2]),(11,rr 6 x56),(12,iv s34.2)] [(0,.box [sl 8 (Pack.enc false) a1]),(1,.box [sl 1 zC a2]),(2,.box [sl 1 zC a3]),(6,rE 1 (eSl true 1 eStr) x56)] (zF 2 (zMU (ds:=[rr 4 v55]) (ts:=[4]) 28 32 1 5 (eSl true 1 eStr) [v55] [0] [(.tmp 55)] [rr 4 v55] [(4,rE 1 eStr v55)] (.move (.head _) (List.length_map _) (by decide) (.nil))) (zF 3 (zFg 28 28 32 32 1 24 6 3 5 (eSl true 1 eStr) (.tmp 54) (.tmp 56) h57) zB)) ?_
  refine J_d 4051 [] [12] [(12,iv (w64 (s34.2+1)))] [] [] zB ?_
  refine uX 6 3 (Nat.le_of_ble_eq_true rfl) (Nat.le_of_ble_eq_true rfl) ?_
  exact J_q (J_b (ih (x56,w64 (s34.2+1)))) rfl
 ·exact xA (hk s34.1) rfl
theorem zBm.ok (a1:(List Pack)) (a2:(List Int)) (a3:(List Int)) (a4:(List ByteArray)):Ok Tryz.prog 48 [sl 8 (Pack.enc false) a1,sl 1 zC a2,sl 1 zC a3,sl 1 eStr a4] [] ((zBm a1 a2 a3 a4).map fun r=>(.tu [so 1 eStr r.1,bv r.2],[])):=by
 refine zJ c48 Tryz.f48 0 71 (fun q=>?_)
 unfold zBm
 refine J_g 2 [(0,0),(1,1),(2,2)] [(3,sl 1 eStr a4),(4,pp 0),(5,pp 1),(6,pp 2)] [(0,.box [sl 8 (Pack.enc false) a1]),(1,.box [sl 1 zC a2]),(2,.box [sl 1 zC a3])] zB ?_
 refine J_d 6 [] [4,5,6,10] [(10,.fn 92 [pp 0,pp 1,pp 2])] [] [] zB ?_
 refine zA (fun x5 h6=>?_)
 refine J_d 28 [] [21] [(21,bv (!x5))] [] [] (zF 2 (zE6 [(0,.box [sl 8 (Pack.enc false) a1]),(1,.box [sl 1 zC a2]),(2,.box [sl 1 zC a3])] [] (zEr 18 [(.tmp 19)] [32] false [(0,.box [sl 8 (Pack.enc false) a1]),(1,.box [sl 1 zC a2]),(2,.box [sl 1 zC a3])] [0,1,2] [sl 1 eStr a4] [pp 0,pp 1,pp 2] (.cons (.same rfl) (.cons (.pt rfl) (.cons (.pt rfl) (.cons (.pt rfl) (.nil))))) (zAF.ok a4 a1 a2 a3) h6 (.same rfl rfl))) zB) ?_
 refine zG 21 (fun h7=>?_) (fun h7=>?_)
 ·refine J_g 116 [] [(8,nv),(9,bv false)] [] zB ?_
  exact zDZ (ds:=[nv,bv false]) (ds':=[so 1 eStr ([]:List ByteArray),bv false]) (.cons (.cell (.nilsl true 1 (.nil))) (.cons (.cell (.keep rfl (.nil))) (.nil) (by decide)) (by decide)) rfl
 ·refine J_d 60 [] [21,24] [(24,bv (decide ((a4.length:Int)>6)))] [] [] zB ?_
  refine zG 24 (fun h8=>?_) (fun h8=>?_)
  ·refine zA (fun x9 h10=>?_)
   refine J_g 244 [] [(8,rr 3 x9),(9,bv true)] [(3,rE 1 eStr x9)] (zF 1 (vJ («as»:=[sl 1 eStr a4]) [(.tmp 25)] [32] false [] [] (.cons (.same rfl) (.nil)) (vL.ok a4) h10 (.own 3)) zB) ?_
   exact zDZ (ds:=[rr 3 x9,bv true]) (ds':=[so 1 eStr x9,bv true]) (.cons (.cell (.move (.head _) (List.length_map _) (by decide) (.nil))) (.cons (.cell (.keep rfl (.nil))) (.nil) (by decide)) (by decide)) rfl
  ·refine J_g 62 [] [(3,sl 1 eStr a4),(10,.fn 92 [pp 0,pp 1,pp 2]),(11,rr 3 ([]:List (List ByteArray)))] [(0,.box [sl 8 (Pack.enc false) a1]),(1,.box [sl 1 zC a2]),(2,.box [sl 1 zC a3]),(3,rE 1 (eSl false 1 eStr) ([]:List (List ByteArray)))] (zF 0 (zBw 28 32 1 3 (eSl false 1 eStr) ([]:List (List ByteArray)) [] [] []) zB) ?_
   refine J_d 252 [] [12] [(12,iv 1)] [] [] zB ?_
   refine zFv (zAy.ok a1 a2 a3 a4 q _ (fun v58=>J_j ?_) (([]:List (List ByteArray)),1))
   refine zA (fun x59 h60=>?_)
   refine J_g 254 [] [(3,sl 1 eStr a4),(10,.fn 92 [pp 0,pp 1,pp 2]),(11,rr 3 v58)] [(0,.box [sl 8 (Pack.enc false) a1]),(1,.box [sl 1 zC a2]),(2,.box [sl 1 zC a3]),(3,rE 1 (eSl true 1 eStr) x59)] (zF 1 (vJ («as»:=[rr 3 v58,.fn 95 []]) [(.tmp 58),(.func 95)] [28,115] false [(3,rE 1 (eSl true 1 eStr) v58)] [3] (.cons (.rf rfl) (.cons (.fn (.nil)) (.nil))) (wX.ok v58) h60 (.tu (.nil))) zB) ?_
   refine zA (fun u61 h62=>?_)
   refine zKv (σ':=St.mk' [(3,sl 1 eStr a4),(10,.fn 92 [pp 0,pp 1,pp 2]),(11,rr 3 x59)] [(0,.box [sl 8 (Pack.enc false) a1]),(1,.box [sl 1 zC a2]),(2,.box [sl 1 zC a3]),(3,rE 1 (eSl true 1 eStr) x59)]) (by simp only [rr,zIH h62]) ?_
   refine zA (fun x63 h64=>?_)
   refine J_g 1020 [] [(3,sl 1 eStr a4),(11,rr 3 x59),(16,iv x63)] [(3,rE 1 (eSl true 1 eStr) x59)] (zF 2 (zE6 [(3,rE 1 (eSl true 1 eStr) x59),(0,.box [sl 8 (Pack.enc false) a1]),(1,.box [sl 1 zC a2]),(2,.box [sl 1 zC a3])] [] (vJ («as»:=[rr 3 x59,.fn 92 [pp 0,pp 1,pp 2]]) [(.tmp 60),(.tmp 61)] [28,106] false [(3,rE 1 (eSl true 1 eStr) x59),(0,.box [sl 8 (Pack.enc false) a1]),(1,.box [sl 1 zC a2]),(2,.box [sl 1 zC a3])] [3,0,1,2] (.cons (.rf rfl) (.cons (.fn (.cons (.pt rfl) (.cons (.pt rfl) (.cons (.pt rfl) (.nil))))) (.nil))) (yS.ok x59 a1 a2 a3) h64 (.same rfl rfl))) zB) ?_
   refine J_d 2042 [] [64] [(64,bv (decide (x63≥0)))] [] [] zB ?_
   refine zG 64 (fun h65=>?_) (fun h65=>?_)
   ·refine zA (fun x66 h67=>?_)
    refine zBv [(3,sl 1 eStr a4),(11,rr 3 x59),(16,iv x63),(64,bv true)] [(3,rE 1 (eSl true 1 eStr) x59)] (by kernel_rfl) ?_
    refine zKv (σ':=St.mk' [(3,sl 1 eStr a4),(11,rr 3 (x59.map some)),(16,iv x63),(64,bv true)] [(3,rE 1 (zGb (eSl true 1 eStr)) (x59.map some))]) (by simp only [rE,rr,zJf,List.length_map]) ?_
    refine zA (fun x68 h69=>?_)
    refine zF5 (ix:=x63) (enc:=(zGb (eSl true 1 eStr))) 3 0 4 (zFM h69) rfl rfl (by kernel_rfl) ?_
    refine zBv [(3,sl 1 eStr a4),(11,rr 3 (x59.map some)),(16,iv x63),(64,bv true)] [(3,.lent 1 ((x59.map some).map (zGb (eSl true 1 eStr))) x63.toNat 0 4 x68.length),(4,rE 1 eStr x68)] (by kernel_rfl) ?_
    refine J_g 8172 [] [(8,rr 4 x68),(9,bv true)] [(3,.lent 1 ((x59.map some).map (zGb (eSl true 1 eStr))) x63.toNat 0 4 x68.length),(4,rE 1 eStr x68)] (zF 2 (zJ5 (kk:=.i64) 28 32 1 3 (zGb (eSl true 1 eStr)) (.tmp 65) (.tmp 66) x63.toNat 0 4 x68.length (zFM h69)) (zF 3 (zIQ 32 3 (.tmp 67) 1 (zGb (eSl true 1 eStr)) (x59.map some) x63.toNat 0 4 x68.length) zB)) ?_
    refine zMG (ix:=x63) (enc:=(eSl true 1 eStr)) 3 (zFM h69) rfl rfl ?_
    refine zBv [(8,rr 4 x68),(9,bv true)] [(3,rE 1 (zGb (eSl true 1 eStr)) ((x59.map some).set x63.toNat none)),(4,rE 1 eStr x68)] (by kernel_rfl) ?_
    exact zDZ (ds:=[rr 4 x68,bv true]) (ds':=[so 1 eStr x68,bv true]) (.cons (.cell (.move (.tail _ (.head _)) (List.length_map _) (by decide) (.nil))) (.cons (.cell (.keep rfl (.nil))) (.nil) (by decide)) (by decide)) rfl
   ·refine zA (fun x70 h71=>?_)
    refine J_g 1022 [] [(8,rr 4 x70),(9,bv true)] [(4,rE 1 eStr x70)] (zF 1 (vJ («as»:=[sl 1 eStr a4]) [(.tmp 69)] [32] false [] [] (.cons (.same rfl) (.nil)) (vL.ok a4) h71 (.own 4)) zB) ?_
    exact zDZ (ds:=[rr 4 x70,bv true]) (ds':=[so 1 eStr x70,bv true]) (.cons (.cell (.move (.head _) (List.length_map _) (by decide) (.nil))) (.cons (.cell (.keep rfl (.nil))) (.nil) (by decide)) (by decide)) rfl
noncomputable def zQ4:Code:=(Tryz.f102.body).getD .skip
theorem zGJ.ok (a1:ByteArray) (a2:(List ByteArray)):Ok Tryz.prog 102 [sv a1,pp 0] [.box [so 1 eStr a2]] ((zEf a1 a2).map fun r=>(bv r,[.box [so 1 eStr a2]])):=by
 refine zJ zQ4 Tryz.f102 1 7 (fun q=>?_)
 unfold zEf
 refine zFo 0 (cs':=[rr 1 a2]) (es:=[(1,rE 1 eStr a2)]) rfl (.cons (.own 1) (.nil)) rfl (by kernel_rfl) (by kernel_rfl) ?_
 refine zBv [(0,sv a1),(1,pp 0)] [(0,.box [rr 1 a2]),(1,rE 1 eStr a2)] (by kernel_rfl) ?_
 refine J_d 2 [] [] [] [] [] zB ?_
 refine zA (fun x3 h4=>?_)
 refine J_g 6 [] [(3,bv x3)] [(0,.box [rr 1 a2]),(1,rE 1 eStr a2)] (zF 2 (vJ («as»:=[rr 1 a2,sv a1]) [(.tmp 4),(.tmp 5)] [32,9] true [(1,rE 1 eStr a2)] [] (.cons (zDY (.head _) (fun _=>rfl) rfl) (.cons (.same rfl) (.nil))) (yA.ok a2 a1) h4 (.same rfl rfl) (hbor:=fun _=>⟨fhN,yV⟩)) zB) ?_
 refine zGh 0 (cs':=[so 1 eStr a2]) (ts:=[1]) rfl (.move (.head _) (List.length_map _) (by decide) (.nil)) ?_
 refine zBv [(3,bv x3)] [(0,.box [so 1 eStr a2])] (by kernel_rfl) ?_
 exact xJ rfl
theorem vC.ok (a1:(List ByteArray)) (a2:(List ByteArray)) (q:Wd) (kn:Unit→Option (D×List Ent)) (hk:∀v:Unit,J (q.g Tryz.prog 122 2 19) zKc (atI zKc 7) (St.mk' [] [(0,rE 1 eStr a1),(1,.box [rr 2 a2]),(2,rE 1 eStr a2)]) (some v) kn):
  ∀s9:Int,J (q.g Tryz.prog 122 2 19) zKc (atI zKc 52) (St.mk' [(0,rr 0 a1),(1,.fn 102 [pp 1]),(7,iv (a1.length:Int)),(8,iv s9)] [(0,rE 1 eStr a1),(1,.box [rr 2 a2]),(2,rE 1 eStr a2)]) (vC a1 a2 s9) (Fl.go (fun r:Int=>some (iv r,[rE 1 eStr a1,.box [so 1 eStr a2]])) kn):=by
 refine zAC (fun g ih s9=>?_)
 unfold wG
 refine J_d 104 [] [9] [(9,bv (decide (s9< (a1.length:Int))))] [] [] zB ?_
 refine zG 9 (fun h10=>?_) (fun h10=>?_)
 ·refine J_g 1688 [] [(0,rr 0 a1),(1,.fn 102 [pp 1]),(5,iv s9),(7,iv (a1.length:Int)),(8,iv s9)] [(0,rE 1 eStr a1),(1,.box [rr 2 a2]),(2,rE 1 eStr a2)] zB ?_
  refine zA (fun x11 h12=>?_)
  refine zGh 1 (cs':=[so 1 eStr a2]) (ts:=[2]) rfl (.move (.tail _ (.head _)) (List.length_map _) (by decide) (.nil)) ?_
  refine zBv [(0,rr 0 a1),(1,.fn 102 [pp 1]),(5,iv s9),(7,iv (a1.length:Int)),(8,iv s9)] [(0,rE 1 eStr a1),(1,.box [so 1 eStr a2])] (by kernel_rfl) ?_
  refine zA (fun x13 h14=>?_)
  refine J_g 3378 [] [(0,rr 0 a1),(1,.fn 102 [pp 1]),(5,iv s9),(7,iv (a1.length:Int)),(8,iv s9),(16,bv x13)] [(0,rE 1 eStr a1),(1,.box [so 1 eStr a2])] (zF 3 (zB5 (kk:=.i64) 32 9 1 0 eStr (.tmp 12) (.tmp 13) h12) (zF 4 (zBU (d:=sv x11) 9 1 0 0 eStr (.tmp 14) h12 (by kernel_rfl)) (zF 5 (zE6 [(1,.box [so 1 eStr a2])] [] (zEr 11 [(.tmp 15)] [9] false [(1,.box [so 1 eStr a2])] [1] [sv x11] [pp 1] (.cons (.same rfl) (.cons (.pt rfl) (.nil))) (zGJ.ok x11 a2) h14 (.same rfl rfl))) zB))) ?_
  refine zFo 1 (cs':=[rr 2 a2]) (es:=[(2,rE 1 eStr a2)]) rfl (.cons (.own 2) (.nil)) rfl (by kernel_rfl) (by kernel_rfl) ?_
  refine zBv [(0,rr 0 a1),(1,.fn 102 [pp 1]),(5,iv s9),(7,iv (a1.length:Int)),(8,iv s9),(16,bv x13)] [(0,rE 1 eStr a1),(1,.box [rr 2 a2]),(2,rE 1 eStr a2)] (by kernel_rfl) ?_
  refine zG 16 (fun h15=>?_) (fun h15=>?_)
  ·refine J_g 13516 [] [(4,iv s9)] [(0,rE 1 eStr a1),(1,.box [rr 2 a2]),(2,rE 1 eStr a2)] zB ?_
   refine zGh 1 (cs':=[so 1 eStr a2]) (ts:=[2]) rfl (.move (.tail _ (.head _)) (List.length_map _) (by decide) (.nil)) ?_
   refine zBv [(4,iv s9)] [(0,rE 1 eStr a1),(1,.box [so 1 eStr a2])] (by kernel_rfl) ?_
   exact xJ rfl
  ·refine J_d 423 [] [5,8,16] [(8,iv (w64 (s9+1)))] [] [] zB ?_
   exact J_q (J_b (ih (w64 (s9+1)))) rfl
 ·exact xA (hk ()) rfl
theorem wS.ok (a1:(List ByteArray)) (a2:(List ByteArray)):Ok Tryz.prog 122 [rr 0 a1,.fn 102 [pp 1]] [rE 1 eStr a1,.box [so 1 eStr a2]] ((wS a1 a2).map fun r=>(iv r,[rE 1 eStr a1,.box [so 1 eStr a2]])):=by
 refine zJ zKc Tryz.f122 2 19 (fun q=>?_)
 unfold wS
 refine zFo 1 (cs':=[rr 2 a2]) (es:=[(2,rE 1 eStr a2)]) rfl (.cons (.own 2) (.nil)) rfl (by kernel_rfl) (by kernel_rfl) ?_
 refine zBv [(0,rr 0 a1),(1,.fn 102 [pp 1])] [(0,rE 1 eStr a1),(1,.box [rr 2 a2]),(2,rE 1 eStr a2)] (by kernel_rfl) ?_
 refine J_g 2 [] [(0,rr 0 a1),(1,.fn 102 [pp 1])] [(0,rE 1 eStr a1),(1,.box [rr 2 a2]),(2,rE 1 eStr a2)] zB ?_
 refine J_d 12 [] [7,8] [(7,iv (a1.length:Int)),(8,iv 0)] [] [] zB ?_
 refine jW (K0:=(fun r:Int=>some (iv r,[rE 1 eStr a1,.box [so 1 eStr a2]]))) (fun _=>rfl) (vC.ok a1 a2 q _ (fun v16=>J_j ?_) 0)
 refine J_g 14 [] [(4,iv (-1))] [(0,rE 1 eStr a1),(1,.box [rr 2 a2]),(2,rE 1 eStr a2)] zB ?_
 refine zGh 1 (cs':=[so 1 eStr a2]) (ts:=[2]) rfl (.move (.tail _ (.head _)) (List.length_map _) (by decide) (.nil)) ?_
 refine zBv [(4,iv (-1))] [(0,rE 1 eStr a1),(1,.box [so 1 eStr a2])] (by kernel_rfl) ?_
 exact xJ rfl
noncomputable def zO7:Code:=(Tryz.f101.body).getD .skip
theorem wY.ok (a2:(List ByteArray)) (q:Wd) (kn:((List ByteArray)×Int)→Option (D×List Ent)) (hk:∀v:((List ByteArray)×Int),J (q.g Tryz.prog 101 2 42) zO7 (atI zO7 31) (St.mk' [(0,rr 1 v.1),(5,iv v.2)] [(0,.box [rr 2 a2]),(1,rE 1 eStr v.1),(2,rE 1 eStr a2)]) (some v) kn):
  ∀s15:((List ByteArray)×Int×Int),J (q.g Tryz.prog 101 2 42) zO7 (atI zO7 244) (St.mk' [(0,rr 1 s15.1),(1,.fn 102 [pp 0]),(5,iv s15.2.1),(6,iv s15.2.2)] [(0,.box [rr 2 a2]),(1,rE 1 eStr s15.1),(2,rE 1 eStr a2)]) (wY a2 s15) kn:=by
 refine zAC (fun g ih s15=>?_)
 unfold xX
 refine J_d 976 [] [19] [(19,bv (decide (s15.2.2< (s15.1.length:Int))))] [] [] zB ?_
 refine zG 19 (fun h16=>?_) (fun h16=>?_)
 ·refine zA (fun x17 h18=>?_)
  refine J_g 3912 [] [(0,rr 1 s15.1),(1,.fn 102 [pp 0]),(5,iv s15.2.1),(6,iv s15.2.2),(7,sv x17)] [(0,.box [rr 2 a2]),(1,rE 1 eStr s15.1),(2,rE 1 eStr a2)] (zF 2 (zB5 (kk:=.i64) 32 9 1 1 eStr (.tmp 22) (.tmp 23) h18) (zF 3 (zBU (d:=sv x17) 9 1 1 0 eStr (.tmp 24) h18 (by kernel_rfl)) zB)) ?_
  refine zGh 0 (cs':=[so 1 eStr a2]) (ts:=[2]) rfl (.move (.tail _ (.head _)) (List.length_map _) (by decide) (.nil)) ?_
  refine zBv [(0,rr 1 s15.1),(1,.fn 102 [pp 0]),(5,iv s15.2.1),(6,iv s15.2.2),(7,sv x17)] [(0,.box [so 1 eStr a2]),(1,rE 1 eStr s15.1)] (by kernel_rfl) ?_
  refine zA (fun x19 h20=>?_)
  refine J_g 7826 [] [(0,rr 1 s15.1),(1,.fn 102 [pp 0]),(5,iv s15.2.1),(6,iv s15.2.2),(7,sv x17),(29,bv (!x19))] [(0,.box [so 1 eStr a2]),(1,rE 1 eStr s15.1)] (zF 2 (zE6 [(0,.box [so 1 eStr a2])] [] (zEr 26 [(.tmp 27)] [9] false [(0,.box [so 1 eStr a2])] [0] [sv x17] [pp 0] (.cons (.same rfl) (.cons (.pt rfl) (.nil))) (zGJ.ok x17 a2) h20 (.same rfl rfl))) zB) ?_
  refine zFo 0 (cs':=[rr 2 a2]) (es:=[(2,rE 1 eStr a2)]) rfl (.cons (.own 2) (.nil)) rfl (by kernel_rfl) (by kernel_rfl) ?_
  refine zBv [(0,rr 1 s15.1),(1,.fn 102 [pp 0]),(5,iv s15.2.1),(6,iv s15.2.2),(7,sv x17),(29,bv (!x19))] [(0,.box [rr 2 a2]),(1,rE 1 eStr s15.1),(2,rE 1 eStr a2)] (by kernel_rfl) ?_
  refine wU (aft zO7 1956) (fun v24:((List ByteArray)×Int)=>St.mk' [(0,rr 1 v24.1),(1,.fn 102 [pp 0]),(5,iv v24.2),(6,iv s15.2.2)] [(0,.box [rr 2 a2]),(1,rE 1 eStr v24.1),(2,rE 1 eStr a2)]) (fun v24=>?_) (fun jv24=>?_)
  ·refine J_d 979 [] [6] [(6,iv (w64 (s15.2.2+1)))] [] [] zB ?_
   exact J_q (J_b (ih (v24.1,v24.2,w64 (s15.2.2+1)))) rfl
  ·refine zG 29 (fun h21=>?_) (fun h21=>?_)
   ·refine zA (fun x22 h23=>?_)
    refine J_g 31308 [] [(0,rr 1 s15.1),(1,.fn 102 [pp 0]),(5,iv s15.2.1),(6,iv s15.2.2)] [(0,.box [rr 2 a2]),(1,rE 1 eStr (s15.1.set s15.2.1.toNat x17)),(2,rE 1 eStr a2)] (zF 3 (zB5 (kk:=.i64) 32 9 1 1 eStr (.tmp 30) (.tmp 31) h23) (zNz 4 (zOT (b:=x17) 9 1 1 0 eStr (sv x17) (.tmp 33) (.tmp 32) h23 rfl) zB)) ?_
    refine zKv (σ':=St.mk' [(0,rr 1 (s15.1.set s15.2.1.toNat x17)),(1,.fn 102 [pp 0]),(5,iv s15.2.1),(6,iv s15.2.2)] [(0,.box [rr 2 a2]),(1,rE 1 eStr (s15.1.set s15.2.1.toNat x17)),(2,rE 1 eStr a2)]) (by simp only [rr,List.length_set]) ?_
    refine J_d 31309 [] [5] [(5,iv (w64 (s15.2.1+1)))] [] [] zB ?_
    exact xA (J_j (jv24 (s15.1.set s15.2.1.toNat x17,w64 (s15.2.1+1)))) rfl
   ·exact xA (J_j (jv24 (s15.1,s15.2.1))) rfl
 ·exact xA (hk (s15.1,s15.2.1)) rfl
theorem xR.ok (a1:(List ByteArray)) (a2:(List ByteArray)):Ok Tryz.prog 101 [rr 1 a1,.fn 102 [pp 0]] [.box [so 1 eStr a2],rE 1 eStr a1] ((xR a1 a2).map fun r=>(so 1 eStr r,[.box [so 1 eStr a2]])):=by
 refine zJ zO7 Tryz.f101 2 42 (fun q=>?_)
 unfold xR
 refine zFo 0 (cs':=[rr 2 a2]) (es:=[(2,rE 1 eStr a2)]) rfl (.cons (.own 2) (.nil)) rfl (by kernel_rfl) (by kernel_rfl) ?_
 refine zBv [(0,rr 1 a1),(1,.fn 102 [pp 0])] [(0,.box [rr 2 a2]),(1,rE 1 eStr a1),(2,rE 1 eStr a2)] (by kernel_rfl) ?_
 refine J_g 2 [] [(0,rr 1 a1),(1,.fn 102 [pp 0])] [(0,.box [rr 2 a2]),(1,rE 1 eStr a1),(2,rE 1 eStr a2)] zB ?_
 refine zGh 0 (cs':=[so 1 eStr a2]) (ts:=[2]) rfl (.move (.tail _ (.head _)) (List.length_map _) (by decide) (.nil)) ?_
 refine zBv [(0,rr 1 a1),(1,.fn 102 [pp 0])] [(0,.box [so 1 eStr a2]),(1,rE 1 eStr a1)] (by kernel_rfl) ?_
 refine zA (fun x3 h4=>?_)
 refine J_g 6 [] [(0,rr 1 a1),(1,.fn 102 [pp 0]),(5,iv x3)] [(0,.box [so 1 eStr a2]),(1,rE 1 eStr a1)] (zF 2 (zE6 [(1,rE 1 eStr a1),(0,.box [so 1 eStr a2])] [] (vJ («as»:=[rr 1 a1,.fn 102 [pp 0]]) [(.tmp 8),(.tmp 9)] [32,99] false [(1,rE 1 eStr a1),(0,.box [so 1 eStr a2])] [1,0] (.cons (.rf rfl) (.cons (.fn (.cons (.pt rfl) (.nil))) (.nil))) (wS.ok a1 a2) h4 (.same rfl rfl))) zB) ?_
 refine zFo 0 (cs':=[rr 2 a2]) (es:=[(2,rE 1 eStr a2)]) rfl (.cons (.own 2) (.nil)) rfl (by kernel_rfl) (by kernel_rfl) ?_
 refine zBv [(0,rr 1 a1),(1,.fn 102 [pp 0]),(5,iv x3)] [(0,.box [rr 2 a2]),(1,rE 1 eStr a1),(2,rE 1 eStr a2)] (by kernel_rfl) ?_
 refine J_d 28 [] [12] [(12,bv (x3==(-1)))] [] [] zB ?_
 refine zG 12 (fun h5=>?_) (fun h5=>?_)
 ·refine J_g 116 [] [(4,rr 1 a1)] [(0,.box [rr 2 a2]),(1,rE 1 eStr a1),(2,rE 1 eStr a2)] zB ?_
  refine zGh 0 (cs':=[so 1 eStr a2]) (ts:=[2]) rfl (.move (.tail _ (.head _)) (List.length_map _) (by decide) (.nil)) ?_
  refine zBv [(4,rr 1 a1)] [(0,.box [so 1 eStr a2]),(1,rE 1 eStr a1)] (by kernel_rfl) ?_
  exact zDZ (ds:=[rr 1 a1]) (ds':=[so 1 eStr a1]) (.cons (.cell (.move (.tail _ (.head _)) (List.length_map _) (by decide) (.nil))) (.nil) (by decide)) rfl
 ·refine J_d 60 [] [6,12] [(6,iv (w64 (x3+1)))] [] [] zB ?_
  refine zFv (wY.ok a2 q _ (fun v25=>J_j ?_) (a1,x3,w64 (x3+1)))
  refine zA (fun x26 h27=>?_)
  refine zA (fun x28 h29=>?_)
  refine J_g 62 [] [(0,rr 1 v25.1),(5,iv v25.2)] [(0,.box [rr 2 a2]),(1,rE 1 eStr x28),(2,rE 1 eStr a2)] (zF 2 (zJb 32 9 1 1 eStr (.tmp 36) (some (.tmp 37)) none h27) (zNz 3 (zNa (l:=v25.2) (a:=ByteArray.empty) 32 9 1 1 eStr (.tmp 38) h29 (.keep rfl (.nil))) zB)) ?_
  refine zKv (σ':=St.mk' [(0,rr 1 x28),(5,iv v25.2)] [(0,.box [rr 2 a2]),(1,rE 1 eStr x28),(2,rE 1 eStr a2)]) (by simp only [rr,zHd h29]) ?_
  refine zA (fun x30 h31=>?_)
  refine J_g 126 [] [(4,rr 3 x30)] [(0,.box [rr 2 a2]),(2,rE 1 eStr a2),(3,rE 1 eStr x30)] (zF 2 (zLP 32 9 1 1 3 eStr (.tmp 39) none (some (.tmp 40)) h31) zB) ?_
  refine zGh 0 (cs':=[so 1 eStr a2]) (ts:=[2]) rfl (.move (.head _) (List.length_map _) (by decide) (.nil)) ?_
  refine zBv [(4,rr 3 x30)] [(0,.box [so 1 eStr a2]),(3,rE 1 eStr x30)] (by kernel_rfl) ?_
  exact zDZ (ds:=[rr 3 x30]) (ds':=[so 1 eStr x30]) (.cons (.cell (.move (.tail _ (.head _)) (List.length_map _) (by decide) (.nil))) (.nil) (by decide)) rfl
noncomputable def c51:Code:=(Tryz.f51.body).getD .skip
theorem zCI.ok (a1:(List Pack)) (a3:(List Int)) (x7:(List (List ByteArray))) (s77:((List (List ByteArray))×(List (List Int))×(List Int)×(List (Option (List ByteArray)))×Int)) (q:Wd) (kn:((List (List ByteArray))×(List (List Int))×(List Int))→Option (D×List Ent)) (hk:∀v:((List (List ByteArray))×(List (List Int))×(List Int)),J (q.g Tryz.prog 51 0 69) c51 (aft c51 3916) (St.mk' [(0,sl 8 (Pack.enc false) a1),(2,sl 1 zC a3),(10,rr 0 v.1),(11,rr 1 v.2.1),(12,sl 1 zC v.2.2),(30,rr 2 (s77.2.2.2.1.set s77.2.2.2.2.toNat none)),(31,iv (x7.length:Int)),(32,iv s77.2.2.2.2)] [(0,rE 1 (eSl true 1 eStr) v.1),(1,rE 1 (eSl true 1 zC) v.2.1),(2,rE 1 (zGb (eSl true 1 eStr)) (s77.2.2.2.1.set s77.2.2.2.2.toNat none))]) (some v) kn):
  ∀s95:((List (List ByteArray))×(List (List Int))×(List Int)×(List ByteArray)),J (q.g Tryz.prog 51 0 69) c51 (atI c51 31332) (St.mk' [(0,sl 8 (Pack.enc false) a1),(2,sl 1 zC a3),(10,rr 0 s95.1),(11,rr 1 s95.2.1),(12,sl 1 zC s95.2.2.1),(14,rr 3 s95.2.2.2),(30,rr 2 (s77.2.2.2.1.set s77.2.2.2.2.toNat none)),(31,iv (x7.length:Int)),(32,iv s77.2.2.2.2)] [(0,rE 1 (eSl true 1 eStr) s95.1),(1,rE 1 (eSl true 1 zC) s95.2.1),(2,rE 1 (zGb (eSl true 1 eStr)) (s77.2.2.2.1.set s77.2.2.2.2.toNat none)),(3,rE 1 eStr s95.2.2.2)]) (zCI a1 a3 x7 s77 s95) (Fl.go (fun r:((List (List ByteArray))×(List (List Int))×Int)=>some (.tu [so 1 (eSl true 1 eStr) r.1,so 1 (eSl true 1 zC) r.2.1,iv r.2.2],[])) kn):=by
 refine zAC (fun g ih s95=>?_)
 unfold zDk
 refine J_d 125328 [] [38] [(38,bv (decide ((s95.2.2.2.length:Int)>0)))] [] [] zB ?_
 refine zG 38 (fun h96=>?_) (fun h96=>?_)
 ·refine zA (fun x97 h98=>?_)
  refine J_g 250660 [(8,5)] [(0,sl 8 (Pack.enc false) a1),(2,sl 1 zC a3),(10,rr 0 s95.1),(11,rr 1 s95.2.1),(12,sl 1 zC s95.2.2.1),(14,rr 3 s95.2.2.2),(15,pp 5),(16,bv x97.2),(30,rr 2 (s77.2.2.2.1.set s77.2.2.2.2.toNat none)),(31,iv (x7.length:Int)),(32,iv s77.2.2.2.2)] [(0,rE 1 (eSl true 1 eStr) s95.1),(1,rE 1 (eSl true 1 zC) s95.2.1),(2,rE 1 (zGb (eSl true 1 eStr)) (s77.2.2.2.1.set s77.2.2.2.2.toNat none)),(3,rE 1 eStr s95.2.2.2),(4,rE 1 eStr x97.1),(5,.box [rr 4 x97.1])] (zF 4 (vJ («as»:=[sl 8 (Pack.enc false) a1,sl 1 zC s95.2.2.1,sl 1 zC a3,rr 3 s95.2.2.2]) [(.tmp 40),(.tmp 41),(.tmp 42),(.tmp 43)] [24,25,25,32] true [(3,rE 1 eStr s95.2.2.2)] [] (.cons (.same rfl) (.cons (.same rfl) (.cons (.same rfl) (.cons (zDY (.head _) (fun _=>rfl) rfl) (.nil))))) (zBm.ok a1 s95.2.2.1 a3 s95.2.2.2) h98 (.tu (.cons (.own 4) (.cons (.same rfl rfl) (.nil)))) (hbor:=fun _=>⟨fhN,(zNZ (flatK (zC7 (zEp (fun _=>(flatK yV zDq)) _)) (flatK yV zDq)))⟩)) zB) ?_
  refine J_d 1002644 [] [16,48] [(48,bv (!x97.2))] [] [] zB ?_
  refine zG 48 (fun h99=>?_) (fun h99=>?_)
  ·refine J_g 4010580 [] [(6,nv),(7,nv),(8,iv 4)] [] zB ?_
   exact zDZ (ds:=[nv,nv,iv 4]) (ds':=[so 1 (eSl true 1 eStr) ([]:List (List ByteArray)),so 1 (eSl true 1 zC) ([]:List (List Int)),iv 4]) (.cons (.cell (.nilsl true 1 (.nil))) (.cons (.cell (.nilsl true 1 (.nil))) (.cons (.cell (.keep rfl (.nil))) (.nil) (by decide)) (by decide)) (by decide)) rfl
  ·refine zA (fun x100 h101=>?_)
   refine J_g 1002646 [] [(0,sl 8 (Pack.enc false) a1),(2,sl 1 zC a3),(10,rr 0 s95.1),(11,rr 1 s95.2.1),(12,rr 6 x100),(14,rr 3 s95.2.2.2),(15,pp 5),(30,rr 2 (s77.2.2.2.1.set s77.2.2.2.2.toNat none)),(31,iv (x7.length:Int)),(32,iv s77.2.2.2.2)] [(0,rE 1 (eSl true 1 eStr) s95.1),(1,rE 1 (eSl true 1 zC) s95.2.1),(2,rE 1 (zGb (eSl true 1 eStr)) (s77.2.2.2.1.set s77.2.2.2.2.toNat none)),(3,rE 1 eStr s95.2.2.2),(4,rE 1 eStr x97.1),(5,.box [rr 4 x97.1]),(6,rE 1 zC x100)] (zF 4 (vJ («as»:=[sl 8 (Pack.enc false) a1,sl 1 zC s95.2.2.1,sl 1 zC a3,rr 4 x97.1]) [(.tmp 49),(.tmp 50),(.tmp 51),(.tmp 52)] [24,25,25,32] true [(4,rE 1 eStr x97.1)] [] (.cons (.same rfl) (.cons (.same rfl) (.cons (.same rfl) (.cons (zDY (.head _) (fun _=>rfl) rfl) (.nil))))) (jZ.ok a1 s95.2.2.1 a3 x97.1) h101 (.own 6) (hbor:=fun _=>⟨fhN,(zC7 (zEp (fun _=>(flatK yV zDq)) _))⟩)) zB) ?_
   refine zGh 5 (cs':=[so 1 eStr x97.1]) (ts:=[4]) rfl (.move (.tail _ (.tail _ (.tail _ (.tail _ (.head _))))) (List.length_map _) (by decide) (.nil)) ?_
   refine zBv [(0,sl 8 (Pack.enc false) a1),(2,sl 1 zC a3),(10,rr 0 s95.1),(11,rr 1 s95.2.1),(12,rr 6 x100),(14,rr 3 s95.2.2.2),(15,pp 5),(30,rr 2 (s77.2.2.2.1.set s77.2.2.2.2.toNat none)),(31,iv (x7.length:Int)),(32,iv s77.2.2.2.2)] [(0,rE 1 (eSl true 1 eStr) s95.1),(1,rE 1 (eSl true 1 zC) s95.2.1),(2,rE 1 (zGb (eSl true 1 eStr)) (s77.2.2.2.1.set s77.2.2.2.2.toNat none)),(3,rE 1 eStr s95.2.2.2),(5,.box [so 1 eStr x97.1]),(6,rE 1 zC x100)] (by kernel_rfl) ?_
   refine zA (fun x102 h103=>?_)
   refine J_g 2005294 [] [(0,sl 8 (Pack.enc false) a1),(2,sl 1 zC a3),(10,rr 0 s95.1),(11,rr 1 s95.2.1),(12,rr 6 x100),(14,rr 7 x102),(15,pp 5),(30,rr 2 (s77.2.2.2.1.set s77.2.2.2.2.toNat none)),(31,iv (x7.length:Int)),(32,iv s77.2.2.2.2)] [(0,rE 1 (eSl true 1 eStr) s95.1),(1,rE 1 (eSl true 1 zC) s95.2.1),(2,rE 1 (zGb (eSl true 1 eStr)) (s77.2.2.2.1.set s77.2.2.2.2.toNat none)),(5,.box [so 1 eStr x97.1]),(6,rE 1 zC x100),(7,rE 1 eStr x102)] (zF 2 (vJ («as»:=[rr 3 s95.2.2.2,.fn 102 [pp 5]]) [(.tmp 54),(.tmp 55)] [32,99] false [(5,.box [so 1 eStr x97.1]),(3,rE 1 eStr s95.2.2.2)] [5,3] (.cons (.rf rfl) (.cons (.fn (.cons (.pt rfl) (.nil))) (.nil))) (xR.ok s95.2.2.2 x97.1) h103 (.own 7)) zB) ?_
   refine zFo 5 (cs':=[rr 8 x97.1]) (es:=[(8,rE 1 eStr x97.1)]) rfl (.cons (.own 8) (.nil)) rfl (by kernel_rfl) (by kernel_rfl) ?_
   refine zBv [(0,sl 8 (Pack.enc false) a1),(2,sl 1 zC a3),(10,rr 0 s95.1),(11,rr 1 s95.2.1),(12,rr 6 x100),(14,rr 7 x102),(15,pp 5),(30,rr 2 (s77.2.2.2.1.set s77.2.2.2.2.toNat none)),(31,iv (x7.length:Int)),(32,iv s77.2.2.2.2)] [(0,rE 1 (eSl true 1 eStr) s95.1),(1,rE 1 (eSl true 1 zC) s95.2.1),(2,rE 1 (zGb (eSl true 1 eStr)) (s77.2.2.2.1.set s77.2.2.2.2.toNat none)),(5,.box [rr 8 x97.1]),(6,rE 1 zC x100),(7,rE 1 eStr x102),(8,rE 1 eStr x97.1)] (by kernel_rfl) ?_
   refine zA (fun x104 h105=>?_)
   refine zA (fun x106 h107=>?_)
   refine zA (fun x108 h109=>?_)
   refine J_d 2005295 [] [10,11,15] [(10,rr 10 x104),(11,rr 13 x108)] [0,1,5,8,10,13] [(10,rE 1 (eSl true 1 eStr) x104),(13,rE 1 (eSl true 1 zC) x108)] (zF 2 (zMU (ds:=[rr 8 x97.1]) (ts:=[8]) 28 32 1 9 (eSl true 1 eStr) [x97.1] [0] [(.tmp 58)] [rr 8 x97.1] [(8,rE 1 eStr x97.1)] (.move (.head _) (List.length_map _) (by decide) (.nil))) (zF 3 (zFg 28 28 32 32 1 24 10 0 9 (eSl true 1 eStr) (.tmp 57) (.tmp 59) h105) (zF 6 (vJ («as»:=[rr 6 x100]) [(.tmp 62)] [25] true [(6,rE 1 zC x100)] [] (.cons (zDY (.head _) (fun _=>rfl) rfl) (.nil)) (wK.ok x100) h107 (.own 11) (hbor:=fun _=>⟨fhN,(zC7 (zEp (fun _=>(flatK yV zDq)) _))⟩)) (zF 7 (zMU (ds:=[rr 11 x106]) (ts:=[11]) 46 25 1 12 (eSl true 1 zC) [x106] [0] [(.tmp 63)] [rr 11 x106] [(11,rE 1 zC x106)] (.move (.head _) (List.length_map _) (by decide) (.nil))) (zF 8 (zFg 46 46 25 25 1 24 13 1 12 (eSl true 1 zC) (.tmp 61) (.tmp 64) h109) zB))))) ?_
   refine zBv [(0,sl 8 (Pack.enc false) a1),(2,sl 1 zC a3),(10,rr 10 x104),(11,rr 13 x108),(12,rr 6 x100),(14,rr 7 x102),(30,rr 2 (s77.2.2.2.1.set s77.2.2.2.2.toNat none)),(31,iv (x7.length:Int)),(32,iv s77.2.2.2.2)] [(6,rE 1 zC x100),(2,rE 1 (zGb (eSl true 1 eStr)) (s77.2.2.2.1.set s77.2.2.2.2.toNat none)),(7,rE 1 eStr x102),(10,rE 1 (eSl true 1 eStr) x104),(13,rE 1 (eSl true 1 zC) x108)] (by kernel_rfl) ?_
   refine zGu 6 (z:=1) (xs:=x100.map zC) (tm2:=[(0,sl 8 (Pack.enc false) a1),(2,sl 1 zC a3),(10,rr 10 x104),(11,rr 13 x108),(12,sl 1 zC x100),(14,rr 7 x102),(30,rr 2 (s77.2.2.2.1.set s77.2.2.2.2.toNat none)),(31,iv (x7.length:Int)),(32,iv s77.2.2.2.2)]) (hp2:=[(2,rE 1 (zGb (eSl true 1 eStr)) (s77.2.2.2.1.set s77.2.2.2.2.toNat none)),(7,rE 1 eStr x102),(10,rE 1 (eSl true 1 eStr) x104),(13,rE 1 (eSl true 1 zC) x108)]) (.cons (.keep rfl) (.cons (.keep rfl) (.cons (.keep rfl) (.cons (.keep rfl) (.cons (.rf (by simp) (zEw (enc:=zC) (enc':=zC) (fun _=>rfl) x100 rfl rfl)) (.cons (.keep rfl) (.cons (.keep rfl) (.cons (.keep rfl) (.cons (.keep rfl) (.nil)))))))))) (.keep rfl (.keep rfl (.keep rfl (.keep rfl (.nil))))) rfl ?_
   refine uX 10 0 (Nat.le_of_ble_eq_true rfl) (Nat.le_of_ble_eq_true rfl) ?_
   refine uX 13 1 (Nat.le_of_ble_eq_true rfl) (Nat.le_of_ble_eq_true rfl) ?_
   refine uX 7 3 (Nat.le_of_ble_eq_true rfl) (Nat.le_of_ble_eq_true rfl) ?_
   exact J_q (J_b (ih (x104,x108,x100,x102))) rfl
 ·exact xA (hk (s95.1,s95.2.1,s95.2.2.1)) rfl
theorem zDG.ok (a1:(List Pack)) (a3:(List Int)) (x7:(List (List ByteArray))) (q:Wd) (kn:((List (List ByteArray))×(List (List Int)))→Option (D×List Ent)) (hk:∀v:((List (List ByteArray))×(List (List Int))),J (q.g Tryz.prog 51 0 69) c51 (atI c51 31) (St.mk' [(10,rr 0 v.1),(11,rr 1 v.2)] [(0,rE 1 (eSl true 1 eStr) v.1),(1,rE 1 (eSl true 1 zC) v.2)]) (some v) kn):
  ∀s77:((List (List ByteArray))×(List (List Int))×(List Int)×(List (Option (List ByteArray)))×Int),J (q.g Tryz.prog 51 0 69) c51 (atI c51 244) (St.mk' [(0,sl 8 (Pack.enc false) a1),(2,sl 1 zC a3),(10,rr 0 s77.1),(11,rr 1 s77.2.1),(12,sl 1 zC s77.2.2.1),(30,rr 2 s77.2.2.2.1),(31,iv (x7.length:Int)),(32,iv s77.2.2.2.2)] [(0,rE 1 (eSl true 1 eStr) s77.1),(1,rE 1 (eSl true 1 zC) s77.2.1),(2,rE 1 (zGb (eSl true 1 eStr)) s77.2.2.2.1)]) (zDG a1 a3 x7 s77) (Fl.go (fun r:((List (List ByteArray))×(List (List Int))×Int)=>some (.tu [so 1 (eSl true 1 eStr) r.1,so 1 (eSl true 1 zC) r.2.1,iv r.2.2],[])) kn):=by
 refine zAC (fun g ih s77=>?_)
 unfold zDR
 refine J_d 488 [] [33] [(33,bv (decide (s77.2.2.2.2< (x7.length:Int))))] [] [] zB ?_
 refine zG 33 (fun h78=>?_) (fun h78=>?_)
 ·refine zA (fun x79 h80=>?_)
  refine zF5 (ix:=s77.2.2.2.2) (enc:=(zGb (eSl true 1 eStr))) 2 0 3 (zFM h80) rfl rfl (by kernel_rfl) ?_
  refine zBv [(0,sl 8 (Pack.enc false) a1),(2,sl 1 zC a3),(10,rr 0 s77.1),(11,rr 1 s77.2.1),(12,sl 1 zC s77.2.2.1),(30,rr 2 s77.2.2.2.1),(31,iv (x7.length:Int)),(32,iv s77.2.2.2.2),(33,bv true)] [(0,rE 1 (eSl true 1 eStr) s77.1),(1,rE 1 (eSl true 1 zC) s77.2.1),(2,.lent 1 (s77.2.2.2.1.map (zGb (eSl true 1 eStr))) s77.2.2.2.2.toNat 0 3 x79.length),(3,rE 1 eStr x79)] (by kernel_rfl) ?_
  refine J_g 7832 [] [(0,sl 8 (Pack.enc false) a1),(2,sl 1 zC a3),(10,rr 0 s77.1),(11,rr 1 s77.2.1),(12,sl 1 zC s77.2.2.1),(14,rr 3 x79),(30,rr 2 s77.2.2.2.1),(31,iv (x7.length:Int)),(32,iv s77.2.2.2.2)] [(0,rE 1 (eSl true 1 eStr) s77.1),(1,rE 1 (eSl true 1 zC) s77.2.1),(2,.lent 1 (s77.2.2.2.1.map (zGb (eSl true 1 eStr))) s77.2.2.2.2.toNat 0 3 x79.length),(3,rE 1 eStr x79)] (zF 0 (zJ5 (kk:=.i64) 28 32 1 2 (zGb (eSl true 1 eStr)) (.tmp 30) (.tmp 32) s77.2.2.2.2.toNat 0 3 x79.length (zFM h80)) (zF 1 (zIQ 32 2 (.tmp 34) 1 (zGb (eSl true 1 eStr)) s77.2.2.2.1 s77.2.2.2.2.toNat 0 3 x79.length) zB)) ?_
  refine zMG (ix:=s77.2.2.2.2) (enc:=(eSl true 1 eStr)) 2 (zFM h80) rfl rfl ?_
  refine zBv [(0,sl 8 (Pack.enc false) a1),(2,sl 1 zC a3),(10,rr 0 s77.1),(11,rr 1 s77.2.1),(12,sl 1 zC s77.2.2.1),(14,rr 3 x79),(30,rr 2 s77.2.2.2.1),(31,iv (x7.length:Int)),(32,iv s77.2.2.2.2)] [(0,rE 1 (eSl true 1 eStr) s77.1),(1,rE 1 (eSl true 1 zC) s77.2.1),(2,rE 1 (zGb (eSl true 1 eStr)) (s77.2.2.2.1.set s77.2.2.2.2.toNat none)),(3,rE 1 eStr x79)] (by kernel_rfl) ?_
  refine zKv (σ':=St.mk' [(0,sl 8 (Pack.enc false) a1),(2,sl 1 zC a3),(10,rr 0 s77.1),(11,rr 1 s77.2.1),(12,sl 1 zC s77.2.2.1),(14,rr 3 x79),(30,rr 2 (s77.2.2.2.1.set s77.2.2.2.2.toNat none)),(31,iv (x7.length:Int)),(32,iv s77.2.2.2.2)] [(0,rE 1 (eSl true 1 eStr) s77.1),(1,rE 1 (eSl true 1 zC) s77.2.1),(2,rE 1 (zGb (eSl true 1 eStr)) (s77.2.2.2.1.set s77.2.2.2.2.toNat none)),(3,rE 1 eStr x79)]) (by simp only [rr,List.length_set]) ?_
  refine jW (K0:=(fun r:((List (List ByteArray))×(List (List Int))×Int)=>some (.tu [so 1 (eSl true 1 eStr) r.1,so 1 (eSl true 1 zC) r.2.1,iv r.2.2],[]))) (fun _=>rfl) (zCI.ok a1 a3 x7 s77 q _ (fun v110=>J_j ?_) (s77.1,s77.2.1,s77.2.2.1,x79))
  refine J_d 1959 [] [32] [(32,iv (w64 (s77.2.2.2.2+1)))] [] [] zB ?_
  exact J_q (J_b (ih (v110.1,v110.2.1,v110.2.2,s77.2.2.2.1.set s77.2.2.2.2.toNat none,w64 (s77.2.2.2.2+1)))) rfl
 ·exact xA (hk (s77.1,s77.2.1)) rfl
theorem zCH.ok (a1:(List Pack)) (a2:(List Int)) (a3:(List Int)):Ok Tryz.prog 51 [sl 8 (Pack.enc false) a1,sl 1 zC a2,sl 1 zC a3] [] ((zCH a1 a2 a3).map fun r=>(.tu [so 1 (eSl true 1 eStr) r.1,so 1 (eSl true 1 zC) r.2.1,iv r.2.2],[])):=by
 refine zJ c51 Tryz.f51 0 69 (fun q=>?_)
 unfold zCH
 refine J_d 2 [] [] [] [] [] zB ?_
 refine zA (fun x4 h5=>?_)
 refine J_g 12 [] [(0,sl 8 (Pack.enc false) a1),(1,sl 1 zC a2),(2,sl 1 zC a3),(9,iv x4)] [] (zF 3 (vZ [(.tmp 17),(.tmp 18),(.tmp 19)] [24,25,25] (zBW.ok a1 a2 a3) h5) zB) ?_
 refine J_d 26 [] [22] [(22,bv (x4 !=0))] [] [] zB ?_
 refine zG 22 (fun h6=>?_) (fun h6=>?_)
 ·refine J_g 108 [] [(6,nv),(7,nv),(8,iv x4)] [] zB ?_
  exact zDZ (ds:=[nv,nv,iv x4]) (ds':=[so 1 (eSl true 1 eStr) ([]:List (List ByteArray)),so 1 (eSl true 1 zC) ([]:List (List Int)),iv x4]) (.cons (.cell (.nilsl true 1 (.nil))) (.cons (.cell (.nilsl true 1 (.nil))) (.cons (.cell (.keep rfl (.nil))) (.nil) (by decide)) (by decide)) (by decide)) rfl
 ·refine J_d 14 [] [9,10,11,12,22] [(10,rr 0 ([]:List (List ByteArray))),(11,rr 1 ([]:List (List Int))),(12,sl 1 zC a2)] [0,1] [(0,rE 1 (eSl false 1 eStr) ([]:List (List ByteArray))),(1,rE 1 (eSl false 1 zC) ([]:List (List Int)))] (zF 0 (zBw 28 32 1 0 (eSl false 1 eStr) ([]:List (List ByteArray)) [] [] []) (zF 1 (zBw 46 25 1 1 (eSl false 1 zC) ([]:List (List Int)) [] [] []) zB)) ?_
  refine zA (fun x7 h8=>?_)
  refine J_d 60 [] [1,30,31,32] [(30,rr 2 x7),(31,iv (x7.length:Int)),(32,iv 0)] [2] [(2,rE 1 (eSl true 1 eStr) x7)] (zF 3 (vJ («as»:=[sl 8 (Pack.enc false) a1,sl 1 zC a2,sl 1 zC a3]) [(.tmp 27),(.tmp 28),(.tmp 29)] [24,25,25] false [] [] (.cons (.same rfl) (.cons (.same rfl) (.cons (.same rfl) (.nil)))) (kM.ok a1 a2 a3) h8 (.own 2)) zB) ?_
  refine zBv [(0,sl 8 (Pack.enc false) a1),(2,sl 1 zC a3),(10,rr 0 ([]:List (List ByteArray))),(11,rr 1 ([]:List (List Int))),(12,sl 1 zC a2),(30,rr 2 x7),(31,iv (x7.length:Int)),(32,iv 0)] [(0,rE 1 (eSl false 1 eStr) ([]:List (List ByteArray))),(1,rE 1 (eSl false 1 zC) ([]:List (List Int))),(2,rE 1 (eSl true 1 eStr) x7)] (by kernel_rfl) ?_
  refine zKv (σ':=St.mk' [(0,sl 8 (Pack.enc false) a1),(2,sl 1 zC a3),(10,rr 0 ([]:List (List ByteArray))),(11,rr 1 ([]:List (List Int))),(12,sl 1 zC a2),(30,rr 2 (x7.map some)),(31,iv (x7.length:Int)),(32,iv 0)] [(0,rE 1 (eSl false 1 eStr) ([]:List (List ByteArray))),(1,rE 1 (eSl false 1 zC) ([]:List (List Int))),(2,rE 1 (zGb (eSl true 1 eStr)) (x7.map some))]) (by simp only [rE,rr,zJf,List.length_map]) ?_
  refine jW (K0:=(fun r:((List (List ByteArray))×(List (List Int))×Int)=>some (.tu [so 1 (eSl true 1 eStr) r.1,so 1 (eSl true 1 zC) r.2.1,iv r.2.2],[]))) (fun _=>rfl) (zDG.ok a1 a3 x7 q _ (fun v111=>J_j ?_) (([]:List (List ByteArray)),([]:List (List Int)),a2,(x7.map some),0))
  refine J_g 62 [] [(6,rr 0 v111.1),(7,rr 1 v111.2),(8,iv 0)] [(0,rE 1 (eSl true 1 eStr) v111.1),(1,rE 1 (eSl true 1 zC) v111.2)] zB ?_
  exact zDZ (ds:=[rr 0 v111.1,rr 1 v111.2,iv 0]) (ds':=[so 1 (eSl true 1 eStr) v111.1,so 1 (eSl true 1 zC) v111.2,iv 0]) (.cons (.cell (.move (.head _) (List.length_map _) (by decide) (.nil))) (.cons (.cell (.move (.tail _ (.head _)) (List.length_map _) (by decide) (.nil))) (.cons (.cell (.keep rfl (.nil))) (.nil) (by decide)) (by decide)) (by decide)) rfl
noncomputable def c22:Code:=(Tryz.f22.body).getD .skip
theorem zEc.ok (a1:(List Pack)) (a2:(List Int)) (a3:(List Int)):Ok Tryz.prog 22 [sl 8 (Pack.enc false) a1,sl 1 zC a2,sl 1 zC a3] [] ((zEc a1 a2 a3).map fun r=>(.ag (wP.enc true r),[])):=by
 refine zJ c22 Tryz.f22 0 21 (fun q=>?_)
 unfold zEc
 refine J_d 2 [(0,0)] [6] [(6,pp 0)] [0] [(0,.box [iv 0,nv])] zB ?_
 refine zA (fun x4 h5=>?_)
 refine J_g 6 [] [(6,pp 0),(8,rr 2 x4.2.1),(9,iv x4.2.2)] [(0,.box [iv 0,nv]),(2,rE 1 (eSl true 1 zC) x4.2.1)] (zF 3 (vJ («as»:=[sl 8 (Pack.enc false) a1,sl 1 zC a2,sl 1 zC a3]) [(.tmp 11),(.tmp 12),(.tmp 13)] [24,25,25] false [] [] (.cons (.same rfl) (.cons (.same rfl) (.cons (.same rfl) (.nil)))) (zCH.ok a1 a2 a3) h5 (.tu (.cons (.own 1) (.cons (.own 2) (.cons (.same rfl rfl) (.nil)))))) zB) ?_
 refine J_g 14 [] [(6,pp 0)] [(0,.box [iv x4.2.2,rr 2 x4.2.1]),(2,rE 1 (eSl true 1 zC) x4.2.1)] zB ?_
 exact zDZ (ds:=[.ag [iv x4.2.2,rr 2 x4.2.1]]) (ds':=[.ag [iv x4.2.2,so 1 (eSl true 1 zC) x4.2.1]]) (.cons (.ag (.keep rfl (.move (.tail _ (.head _)) (List.length_map _) (by decide) (.nil)))) (.nil) (by decide)) rfl
noncomputable def c23:Code:=(Tryz.f23.body).getD .skip
theorem zC1.ok (a1:(List Pack)) (a2:(List Int)) (a3:(List Int)):Ok Tryz.prog 23 [sl 8 (Pack.enc false) a1,sl 1 zC a2,sl 1 zC a3] [] ((zC1 a1 a2 a3).map fun r=>(.ag (yB.enc true r),[])):=by
 refine zJ c23 Tryz.f23 0 21 (fun q=>?_)
 unfold zC1
 refine J_d 2 [(0,0)] [6] [(6,pp 0)] [0] [(0,.box [iv 0,nv])] zB ?_
 refine zA (fun x4 h5=>?_)
 refine J_g 6 [] [(6,pp 0),(7,rr 1 x4.1),(9,iv x4.2.2)] [(0,.box [iv 0,nv]),(1,rE 1 (eSl true 1 eStr) x4.1)] (zF 3 (vJ («as»:=[sl 8 (Pack.enc false) a1,sl 1 zC a2,sl 1 zC a3]) [(.tmp 11),(.tmp 12),(.tmp 13)] [24,25,25] false [] [] (.cons (.same rfl) (.cons (.same rfl) (.cons (.same rfl) (.nil)))) (zCH.ok a1 a2 a3) h5 (.tu (.cons (.own 1) (.cons (.own 2) (.cons (.same rfl rfl) (.nil)))))) zB) ?_
 refine J_g 14 [] [(6,pp 0)] [(0,.box [iv x4.2.2,rr 1 x4.1]),(1,rE 1 (eSl true 1 eStr) x4.1)] zB ?_
 exact zDZ (ds:=[.ag [iv x4.2.2,rr 1 x4.1]]) (ds':=[.ag [iv x4.2.2,so 1 (eSl true 1 eStr) x4.1]]) (.cons (.ag (.keep rfl (.move (.tail _ (.head _)) (List.length_map _) (by decide) (.nil)))) (.nil) (by decide)) rfl
noncomputable def c58:Code:=(Tryz.f58.body).getD .skip
theorem zDI.ok (a1:(List Pack)) (a2:(List Int)) (q:Wd) (kn:Unit→Option (D×List Ent)) (hk:∀v:Unit,J (q.g Tryz.prog 58 0 37) c58 (atI c58 7) (St.mk' [] []) (some v) kn):
  ∀s16:Int,J (q.g Tryz.prog 58 0 37) c58 (atI c58 52) (St.mk' [(0,sl 8 (Pack.enc false) a1),(1,sl 1 zC a2),(5,iv s16)] []) (zDI a1 a2 s16) (Fl.go (fun r:Bool=>some (bv r,[])) kn):=by
 refine zAC (fun g ih s16=>?_)
 unfold zDn
 refine J_d 208 [] [9] [(9,bv (decide (s16< (a2.length:Int))))] [] [] zB ?_
 refine zG 9 (fun h17=>?_) (fun h17=>?_)
 ·refine zA (fun x18 h19=>?_)
  refine zA (fun x20 h21=>?_)
  refine wU (atI c58 841) (fun v28:Bool=>St.mk' [(0,sl 8 (Pack.enc false) a1),(1,sl 1 zC a2),(5,iv s16),(36,bv v28)] []) (fun v28=>?_) (fun jv28=>?_)
  ·refine zG 36 (fun h29=>?_) (fun h29=>?_)
   ·refine J_g 3364 [] [(4,bv false)] [] zB ?_
    exact xJ rfl
   ·refine J_d 211 [] [5,36] [(5,iv (w64 (s16+1)))] [] [] zB ?_
    exact J_q (J_b (ih (w64 (s16+1)))) rfl
  ·refine uN (fun h22=>?_) (fun h22=>?_)
   ·refine J_d 840 [] [9,36] [(36,bv true)] [] [] (zF 2 (kD (kk:=.i64) 25 2 1 zC (.tmp 12) (.tmp 13) h19) (zF 7 (vZ [(.tmp 15),(.const (.int .i64 0)),(.tmp 18)] [2,2,2] (tY.ok x18 0 (w64 ((a1.length:Int)-1))) h21) (vV 9 [(20,bv (!x20))] [] h22 (zHI 12 (zHP (i:=12) (g:=9) (t:=21) (b:=false) (v:=(.bool true)) (.inl rfl) (by kernel_rfl) (by kernel_rfl)) (zHI 13 (zHP (i:=13) (g:=12) (t:=24) (b:=true) (v:=undef) (.inr rfl) (by kernel_rfl) (by kernel_rfl)) (zHI 14 (zHP (i:=14) (g:=12) (t:=24) (b:=true) (v:=undef) (.inr rfl) (by kernel_rfl) (by kernel_rfl)) (zHI 15 (zHP (i:=15) (g:=12) (t:=24) (b:=true) (v:=undef) (.inr rfl) (by kernel_rfl) (by kernel_rfl)) (zHI 16 (zHP (i:=16) (g:=12) (t:=24) (b:=true) (v:=undef) (.inr rfl) (by kernel_rfl) (by kernel_rfl)) (zHI 17 (zHP (i:=17) (g:=12) (t:=24) (b:=true) (v:=undef) (.inr rfl) (by kernel_rfl) (by kernel_rfl)) (zHI 18 (zHP (i:=18) (g:=12) (t:=24) (b:=true) (v:=undef) (.inr rfl) (by kernel_rfl) (by kernel_rfl)) (zHI 19 (zHP (i:=19) (g:=12) (t:=24) (b:=true) (v:=undef) (.inr rfl) (by kernel_rfl) (by kernel_rfl)) (zHI 20 (zHP (i:=20) (g:=12) (t:=24) (b:=true) (v:=undef) (.inr rfl) (by kernel_rfl) (by kernel_rfl)) (zHI 21 (zHP (i:=21) (g:=12) (t:=24) (b:=true) (v:=undef) (.inr rfl) (by kernel_rfl) (by kernel_rfl)) (zHI 22 (zHP (i:=22) (g:=12) (t:=24) (b:=true) (v:=undef) (.inr rfl) (by kernel_rfl) (by kernel_rfl)) zB)))))))))))))) ?_
    exact xA (J_j (jv28 true)) rfl
   ·refine uN (fun h23=>?_) (fun h23=>?_)
    ·refine zA (fun x24 h25=>?_)
     refine zA (fun x26 h27=>?_)
     refine J_d 840 [] [9,36] [(36,bv (decide (x24≤x26)))] [] [] (zF 2 (kD (kk:=.i64) 25 2 1 zC (.tmp 12) (.tmp 13) h19) (zF 7 (vZ [(.tmp 15),(.const (.int .i64 0)),(.tmp 18)] [2,2,2] (tY.ok x18 0 (w64 ((a1.length:Int)-1))) h21) (vV 9 [(20,bv (!x20))] [] h22 (zGQ 12 9 21 false [(23,bv (decide (s16>0)))] [] h23 (zAR 15 12 24 true (kD (kk:=.i64) 25 2 1 zC (.tmp 25) (.tmp 26) h25) (zAR 20 12 24 true (kD (kk:=.i64) 25 2 1 zC (.tmp 29) (.tmp 31) h27) zB)))))) ?_
     exact xA (J_j (jv28 (decide (x24≤x26)))) rfl
    ·refine J_d 840 [] [9,36] [(36,bv false)] [] [] (zF 2 (kD (kk:=.i64) 25 2 1 zC (.tmp 12) (.tmp 13) h19) (zF 7 (vZ [(.tmp 15),(.const (.int .i64 0)),(.tmp 18)] [2,2,2] (tY.ok x18 0 (w64 ((a1.length:Int)-1))) h21) (vV 9 [(20,bv (!x20))] [] h22 (zGQ 12 9 21 false [(23,bv (decide (s16>0)))] [] h23 zB)))) ?_
     exact xA (J_j (jv28 false)) rfl
 ·exact xA (hk ()) rfl
theorem zEg.ok (a1:(List Pack)) (a2:(List Int)):Ok Tryz.prog 58 [sl 8 (Pack.enc false) a1,sl 1 zC a2] [] ((zEg a1 a2).map fun r=>(bv r,[])):=by
 refine zJ c58 Tryz.f58 0 37 (fun q=>?_)
 unfold zEg
 refine J_g 2 [] [(0,sl 8 (Pack.enc false) a1),(1,sl 1 zC a2)] [] zB ?_
 refine J_d 12 [] [5] [(5,iv 0)] [] [] zB ?_
 refine jW (K0:=(fun r:Bool=>some (bv r,[]))) (fun _=>rfl) (zDI.ok a1 a2 q _ (fun v30=>J_j ?_) 0)
 refine J_g 14 [] [(4,bv true)] [] zB ?_
 exact xJ rfl
noncomputable def c39:Code:=(Tryz.f39.body).getD .skip
theorem zAi.ok (a1:(List Pack)) (a2:(List Int)):Ok Tryz.prog 39 [sl 8 (Pack.enc false) a1,sl 1 zC a2] [] ((zAi a1 a2).map fun r=>(iv r,[])):=by
 refine zJ c39 Tryz.f39 0 15 (fun q=>?_)
 unfold zAi
 refine J_d 2 [] [] [] [] [] zB ?_
 refine zA (fun x3 h4=>?_)
 refine J_g 12 [] [(0,sl 8 (Pack.enc false) a1),(1,sl 1 zC a2),(5,iv x3)] [] (zF 1 (vZ [(.tmp 6)] [24] (vF.ok a1) h4) zB) ?_
 refine J_d 26 [] [9] [(9,bv (x3 !=0))] [] [] zB ?_
 refine zG 9 (fun h5=>?_) (fun h5=>?_)
 ·refine J_g 108 [] [(4,iv x3)] [] zB ?_
  exact xJ rfl
 ·refine zA (fun x6 h7=>?_)
  refine J_g 28 [] [(14,bv (!x6))] [] (zF 2 (vZ [(.tmp 11),(.tmp 12)] [24,25] (zEg.ok a1 a2) h7) zB) ?_
  refine zG 14 (fun h8=>?_) (fun h8=>?_)
  ·refine J_g 116 [] [(4,iv 1)] [] zB ?_
   exact xJ rfl
  ·refine J_g 30 [] [(4,iv 0)] [] zB ?_
   exact xJ rfl
noncomputable def c40:Code:=(Tryz.f40.body).getD .skip
theorem zBn.ok (a1:(List Pack)) (a2:(List Int)):Ok Tryz.prog 40 [sl 8 (Pack.enc false) a1,sl 1 zC a2] [] ((zBn a1 a2).map fun r=>(bv r,[])):=by
 refine zJ c40 Tryz.f40 0 10 (fun q=>?_)
 unfold zBn
 refine J_d 2 [] [] [] [] [] zB ?_
 refine zA (fun x3 h4=>?_)
 refine J_g 6 [] [(4,bv ((x3.length:Int)==0))] [] (zF 2 (vJ («as»:=[sl 8 (Pack.enc false) a1,sl 1 zC a2]) [(.tmp 5),(.tmp 6)] [24,25] false [] [] (.cons (.same rfl) (.cons (.same rfl) (.nil))) (jJ.ok a1 a2) h4 (.own 0)) zB) ?_
 exact xJ rfl
noncomputable def c52:Code:=(Tryz.f52.body).getD .skip
theorem zCU.ok (a1:(List Pack)) (a2:(List Int)) (a3:(List Int)):Ok Tryz.prog 52 [sl 8 (Pack.enc false) a1,sl 1 zC a2,sl 1 zC a3] [] ((zCU a1 a2 a3).map fun r=>(iv r,[])):=by
 refine zJ c52 Tryz.f52 0 31 (fun q=>?_)
 unfold zCU
 refine J_d 2 [] [] [] [] [] zB ?_
 refine zA (fun x4 h5=>?_)
 refine J_g 12 [] [(0,sl 8 (Pack.enc false) a1),(1,sl 1 zC a2),(2,sl 1 zC a3),(7,iv x4)] [] (zF 2 (vZ [(.tmp 9),(.tmp 10)] [24,25] (zAi.ok a1 a2) h5) zB) ?_
 refine J_d 26 [] [13] [(13,bv (x4 !=0))] [] [] zB ?_
 refine zG 13 (fun h6=>?_) (fun h6=>?_)
 ·refine J_g 108 [] [(6,iv x4)] [] zB ?_
  exact xJ rfl
 ·refine zA (fun x7 h8=>?_)
  refine J_g 28 [] [(0,sl 8 (Pack.enc false) a1),(1,sl 1 zC a2),(2,sl 1 zC a3),(8,iv x7)] [] (zF 2 (vZ [(.tmp 15),(.tmp 16)] [24,25] (zAi.ok a1 a3) h8) zB) ?_
  refine J_d 58 [] [19] [(19,bv (x7 !=0))] [] [] zB ?_
  refine zG 19 (fun h9=>?_) (fun h9=>?_)
  ·refine J_g 236 [] [(6,iv x7)] [] zB ?_
   exact xJ rfl
  ·refine zA (fun x10 h11=>?_)
   refine wU (atI c52 61) (fun v15:Bool=>St.mk' [(30,bv v15)] []) (fun v15=>?_) (fun jv15=>?_)
   ·refine zG 30 (fun h16=>?_) (fun h16=>?_)
    ·refine J_g 244 [] [(6,iv 1)] [] zB ?_
     exact xJ rfl
    ·refine J_g 62 [] [(6,iv 0)] [] zB ?_
     exact xJ rfl
   ·refine uN (fun h12=>?_) (fun h12=>?_)
    ·refine J_g 60 [] [(30,bv true)] [] (zF 2 (vZ [(.tmp 21),(.tmp 22)] [24,25] (zBn.ok a1 a2) h11) (vV 4 [(24,bv (!x10))] [] h12 zB)) ?_
     exact xA (J_j (jv15 true)) rfl
    ·refine zA (fun x13 h14=>?_)
     refine J_g 60 [] [(30,bv (!x13))] [] (zF 2 (vZ [(.tmp 21),(.tmp 22)] [24,25] (zBn.ok a1 a2) h11) (vV 4 [(24,bv (!x10))] [] h12 (zAR 7 4 25 false (vZ [(.tmp 26),(.tmp 27)] [24,25] (zBn.ok a1 a3) h14) zB))) ?_
     exact xA (J_j (jv15 (!x13))) rfl
noncomputable def c24:Code:=(Tryz.f24.body).getD .skip
theorem zD8.ok (a1:(List Pack)) (a2:(List Int)) (a3:(List Int)):Ok Tryz.prog 24 [sl 8 (Pack.enc false) a1,sl 1 zC a2,sl 1 zC a3] [] ((zD8 a1 a2 a3).map fun r=>(.ag (wP.enc true r),[])):=by
 refine zJ c24 Tryz.f24 0 27 (fun q=>?_)
 unfold zD8
 refine J_d 2 [(0,0)] [6] [(6,pp 0)] [0] [(0,.box [iv 0,nv])] zB ?_
 refine zA (fun x4 h5=>?_)
 refine J_g 12 [] [(0,sl 8 (Pack.enc false) a1),(1,sl 1 zC a2),(2,sl 1 zC a3),(6,pp 0),(7,iv x4)] [(0,.box [iv 0,nv])] (zF 3 (vZ [(.tmp 10),(.tmp 11),(.tmp 12)] [24,25,25] (zCU.ok a1 a2 a3) h5) zB) ?_
 refine J_d 26 [] [15] [(15,bv (x4 !=0))] [] [] zB ?_
 refine zG 15 (fun h6=>?_) (fun h6=>?_)
 ·refine J_g 108 [] [(6,pp 0)] [(0,.box [iv x4,nv])] zB ?_
  exact zDZ (ds:=[.ag [iv x4,nv]]) (ds':=[.ag [iv x4,so 1 (eSl true 1 zC) ([]:List (List Int))]]) (.cons (.ag (.keep rfl (.nilsl true 1 (.nil)))) (.nil) (by decide)) rfl
 ·exact zJ4
noncomputable def c61:Code:=(Tryz.f61.body).getD .skip
theorem zCQ.ok (a1:(List Pack)) (a2:(List Int)) (q:Wd) (kn:Unit→Option (D×List Ent)) (hk:∀v:Unit,J (q.g Tryz.prog 61 0 26) c61 (atI c61 7) (St.mk' [] []) (some v) kn):
  ∀s13:Int,J (q.g Tryz.prog 61 0 26) c61 (atI c61 52) (St.mk' [(0,sl 8 (Pack.enc false) a1),(1,sl 1 zC a2),(7,sl 1 zC a2),(8,iv (a2.length:Int)),(9,iv s13)] []) (zCQ a1 a2 s13) (Fl.go (fun r:Bool=>some (bv r,[])) kn):=by
 refine zAC (fun g ih s13=>?_)
 unfold zCw
 refine J_d 104 [] [10] [(10,bv (decide (s13< (a2.length:Int))))] [] [] zB ?_
 refine zG 10 (fun h14=>?_) (fun h14=>?_)
 ·refine zA (fun x15 h16=>?_)
  refine J_d 1688 [] [5,6,10] [(5,iv s13),(6,iv x15)] [] [] (zF 1 (kD (kk:=.i64) 25 2 1 zC (.tmp 7) (.tmp 9) h16) zB) ?_
  refine zA (fun x17 h18=>?_)
  refine zA (fun x19 h20=>?_)
  refine zA (fun x21 h22=>?_)
  refine J_d 3378 [] [5,6,24] [(24,bv (decide (x21≥0)))] [] [] (zF 3 (zNA 25 2 1 zC (.tmp 15) none (some (.tmp 16)) h18) (zF 6 (kD (kk:=.i64) 24 91 8 (Pack.enc false) (.tmp 18) (.tmp 19) h20) (zF 9 (vZ [(.tmp 14),(.tmp 17),(.tmp 22)] [24,25,9] (uP.ok a1 x17 x19.Name) h22) zB))) ?_
  refine zG 24 (fun h23=>?_) (fun h23=>?_)
  ·refine J_g 13516 [] [(4,bv true)] [] zB ?_
   exact xJ rfl
  ·refine J_d 423 [] [9,24] [(9,iv (w64 (s13+1)))] [] [] zB ?_
   exact J_q (J_b (ih (w64 (s13+1)))) rfl
 ·exact xA (hk ()) rfl
theorem zAn.ok (a1:(List Pack)) (a2:(List Int)):Ok Tryz.prog 61 [sl 8 (Pack.enc false) a1,sl 1 zC a2] [] ((zAn a1 a2).map fun r=>(bv r,[])):=by
 refine zJ c61 Tryz.f61 0 26 (fun q=>?_)
 unfold zAn
 refine J_g 2 [] [(0,sl 8 (Pack.enc false) a1),(1,sl 1 zC a2)] [] zB ?_
 refine J_d 12 [] [7,8,9] [(7,sl 1 zC a2),(8,iv (a2.length:Int)),(9,iv 0)] [] [] zB ?_
 refine jW (K0:=(fun r:Bool=>some (bv r,[]))) (fun _=>rfl) (zCQ.ok a1 a2 q _ (fun v24=>J_j ?_) 0)
 refine J_g 14 [] [(4,bv false)] [] zB ?_
 exact xJ rfl
noncomputable def c30:Code:=(Tryz.f30.body).getD .skip
theorem zBr.ok (a1:(List Pack)) (a2:(List Int)) (a3:(List Int)):Ok Tryz.prog 30 [sl 8 (Pack.enc false) a1,sl 1 zC a2,sl 1 zC a3] [] ((zBr a1 a2 a3).map fun r=>(iv r,[])):=by
 refine zJ c30 Tryz.f30 0 29 (fun q=>?_)
 unfold zBr
 refine J_d 2 [] [] [] [] [] zB ?_
 refine zA (fun x4 h5=>?_)
 refine zA (fun x6 h7=>?_)
 refine zA (fun x8 h9=>?_)
 refine J_d 6 [] [7] [(7,iv x8)] [] [] (zF 2 (vZ [(.tmp 8),(.tmp 9)] [24,25] (xS.ok a1 a2) h5) (zF 5 (vZ [(.tmp 11),(.tmp 12)] [24,25] (xS.ok a1 a3) h7) (zF 6 (zBw 25 2 1 0 zC [x4,x6] [0,1] [(.tmp 10),(.tmp 13)] [iv x4,iv x6]) (zF 7 (vJ («as»:=[rr 0 [x4,x6]]) [(.tmp 14)] [25] true [(0,rE 1 zC [x4,x6])] [] (.cons (zDY (.head _) (fun _=>rfl) rfl) (.nil)) (vH.ok [x4,x6]) h9 (.same rfl rfl) (hbor:=fun _=>⟨fhN,yV⟩)) zB)))) ?_
 refine wU (atI c30 29) (fun v16:Bool=>St.mk' [(7,iv x8),(27,bv v16)] []) (fun v16=>?_) (fun jv16=>?_)
 ·refine wU (atI c30 15) (fun v18:Int=>St.mk' [(7,iv v18)] []) (fun v18=>?_) (fun jv18=>?_)
  ·refine J_g 30 [] [(6,iv v18)] [] zB ?_
   exact xJ rfl
  ·refine zG 27 (fun h17=>?_) (fun h17=>?_)
   ·refine J_g 58 [] [(7,iv 6)] [] zB ?_
    exact xA (J_j (jv18 6)) rfl
   ·exact xA (J_j (jv18 x8)) rfl
 ·refine uN (fun h10=>?_) (fun h10=>?_)
  ·refine zA (fun x11 h12=>?_)
   refine uN (fun h13=>?_) (fun h13=>?_)
   ·refine J_g 28 [] [(7,iv x8),(27,bv true)] [] (vV 2 [(17,bv (x8==0))] [] h10 (zAR 5 2 18 true (vZ [(.tmp 19),(.tmp 20)] [24,25] (zAn.ok a1 a2) h12) (zGQ 6 2 18 true [(21,bv x11)] [] h13 zB))) ?_
    exact xA (J_j (jv16 true)) rfl
   ·refine zA (fun x14 h15=>?_)
    refine J_g 28 [] [(7,iv x8),(27,bv x14)] [] (vV 2 [(17,bv (x8==0))] [] h10 (zAR 5 2 18 true (vZ [(.tmp 19),(.tmp 20)] [24,25] (zAn.ok a1 a2) h12) (zGQ 6 2 18 true [(21,bv x11)] [] h13 (zAR 9 6 22 false (vZ [(.tmp 23),(.tmp 24)] [24,25] (zAn.ok a1 a3) h15) zB)))) ?_
    exact xA (J_j (jv16 x14)) rfl
  ·refine J_g 28 [] [(7,iv x8),(27,bv false)] [] (vV 2 [(17,bv (x8==0))] [] h10 (zHI 6 (zHP (i:=6) (g:=2) (t:=18) (b:=true) (v:=(.bool false)) (.inl rfl) (by kernel_rfl) (by kernel_rfl)) (zHI 7 (zHP (i:=7) (g:=6) (t:=22) (b:=false) (v:=undef) (.inr rfl) (by kernel_rfl) (by kernel_rfl)) (zHI 8 (zHP (i:=8) (g:=6) (t:=22) (b:=false) (v:=undef) (.inr rfl) (by kernel_rfl) (by kernel_rfl)) (zHI 9 (zHP (i:=9) (g:=6) (t:=22) (b:=false) (v:=undef) (.inr rfl) (by kernel_rfl) (by kernel_rfl)) zB))))) ?_
   exact xA (J_j (jv16 false)) rfl
noncomputable def c9:Code:=(Tryz.f9.body).getD .skip
theorem zCB.ok (a1:(List Pack)) (a2:(List Int)) (a3:(List Int)):Ok Tryz.prog 9 [sl 8 (Pack.enc false) a1,sl 1 zC a2,sl 1 zC a3] [] ((zCB a1 a2 a3).map fun r=>(.ag (yB.enc true r),[])):=by
 refine zJ c9 Tryz.f9 0 21 (fun q=>?_)
 unfold zCB
 refine J_d 2 [(0,0)] [6] [(6,pp 0)] [0] [(0,.box [iv 0,nv])] zB ?_
 refine zA (fun x4 h5=>?_)
 refine J_g 12 [] [(0,sl 8 (Pack.enc false) a1),(1,sl 1 zC a2),(2,sl 1 zC a3),(6,pp 0),(7,iv x4)] [(0,.box [iv 0,nv])] (zF 3 (vZ [(.tmp 8),(.tmp 9),(.tmp 10)] [24,25,25] (zBr.ok a1 a2 a3) h5) zB) ?_
 refine J_d 26 [] [13] [(13,bv (x4 !=0))] [] [] zB ?_
 refine zG 13 (fun h6=>?_) (fun h6=>?_)
 ·refine J_g 108 [] [(6,pp 0)] [(0,.box [iv x4,nv])] zB ?_
  exact zDZ (ds:=[.ag [iv x4,nv]]) (ds':=[.ag [iv x4,so 1 (eSl true 1 eStr) ([]:List (List ByteArray))]]) (.cons (.ag (.keep rfl (.nilsl true 1 (.nil)))) (.nil) (by decide)) rfl
 ·refine zA (fun x7 h8=>?_)
  refine J_g 14 [] [(6,pp 0)] [(0,.box [iv 0,rr 1 x7]),(1,rE 1 (eSl true 1 eStr) x7)] (zF 3 (vJ («as»:=[sl 8 (Pack.enc false) a1,sl 1 zC a2,sl 1 zC a3]) [(.tmp 16),(.tmp 17),(.tmp 18)] [24,25,25] false [] [] (.cons (.same rfl) (.cons (.same rfl) (.cons (.same rfl) (.nil)))) (kM.ok a1 a2 a3) h8 (.own 1)) zB) ?_
  exact zDZ (ds:=[.ag [iv 0,rr 1 x7]]) (ds':=[.ag [iv 0,so 1 (eSl true 1 eStr) x7]]) (.cons (.ag (.keep rfl (.move (.tail _ (.head _)) (List.length_map _) (by decide) (.nil)))) (.nil) (by decide)) rfl
end Go.Told

import Derived.Test.YtdeihchdibglaaaGreatOkFnFinex1
set_option linter.unusedVariables false
set_option maxRecDepth 4000
namespace Go.Told
open Go Go.Im Go.Proofs
noncomputable def c159:Code:=(Tryz.f159.body).getD .skip
theorem zBE.ok (a1:(List Term)) (a2:(List ByteArray)) (q:Wd) (kn:Unit→Option (D×List Ent)) (hk:∀v:Unit,J (q.g Tryz.prog 159 0 19) c159 (atI c159 7) (St.mk' [] []) (some v) kn):
  ∀s9:Int,J (q.g Tryz.prog 159 0 19) c159 (atI c159 52) (St.mk' [(0,sl 7 Term.enc a1),(1,sl 1 eStr a2),(5,iv s9)] []) (zBE a1 a2 s9) (Fl.go (fun r:Bool=>some (bv r,[])) kn):=by
 refine zAq (fun g ih s9=>?_)
 unfold zBs
 refine J_d 208 [] [9] [(9,bv (decide (s9< (a1.length:Int))))] [] [] zB ?_
 refine zG 9 (fun h10=>?_) (fun h10=>?_)
 ·refine zA (fun x11 h12=>?_)
  refine zA (fun x13 h14=>?_)
  refine J_d 840 [] [9,18] [(18,bv x13)] [] [] (zF 3 (uN (kk:=.i64) 80 104 7 Term.enc (.tmp 13) (.tmp 14) h12) (zF 6 (vD [(.tmp 12),(.tmp 17)] [32,9] (wG.ok a2 x11.Name) h14) zB)) ?_
  refine zG 18 (fun h15=>?_) (fun h15=>?_)
  ·refine J_g 3364 [] [(4,bv true)] [] zB ?_
   exact xJ rfl
  ·refine J_d 211 [] [5,18] [(5,iv (w64 (s9+1)))] [] [] zB ?_
   exact J_q (J_b (ih (w64 (s9+1)))) rfl
 ·exact yM (hk ()) rfl
theorem tY.ok (a1:(List Term)) (a2:(List ByteArray)):Ok Tryz.prog 159 [sl 7 Term.enc a1,sl 1 eStr a2] [] ((tY a1 a2).map fun r=>(bv r,[])):=by
 refine zJ c159 Tryz.f159 0 19 (fun q=>?_)
 unfold tY
 refine J_g 2 [] [(0,sl 7 Term.enc a1),(1,sl 1 eStr a2)] [] zB ?_
 refine J_d 12 [] [5] [(5,iv 0)] [] [] zB ?_
 refine jO (K0:=(fun r:Bool=>some (bv r,[]))) (fun _=>rfl) (zBE.ok a1 a2 q _ (fun v16=>J_j ?_) 0)
 refine J_g 14 [] [(4,bv false)] [] zB ?_
 exact xJ rfl
noncomputable def c119:Code:=(Tryz.f119.body).getD .skip
theorem zAK.ok (a1:(List Pack)) (a2:(List Int)) (a3:(List ByteArray)) (a4:(List ByteArray)) (s36:Int) (x40:Pack) (q:Wd) (kn:Unit→Option (D×List Ent)) (hk:∀v:Unit,J (q.g Tryz.prog 119 0 46) c119 (aft c119 420) (St.mk' [(0,sl 8 (Pack.enc false) a1),(1,sl 1 zC a2),(2,sl 1 eStr a3),(3,sl 1 eStr a4),(9,iv s36)] []) (some v) kn):
  ∀s54:Int,J (q.g Tryz.prog 119 0 46) c119 (atI c119 6732) (St.mk' [(0,sl 8 (Pack.enc false) a1),(1,sl 1 zC a2),(2,sl 1 eStr a3),(3,sl 1 eStr a4),(9,iv s36),(10,sl 1 (eSl false 7 Term.enc) x40.Needs),(11,iv s54)] []) (zAK a1 a2 a3 a4 s36 x40 s54) (Fl.go (fun r:Bool=>some (bv r,[])) kn):=by
 refine zAq (fun g ih s54=>?_)
 unfold kX
 refine J_d 26928 [] [29] [(29,bv (decide (s54< (x40.Needs.length:Int))))] [] [] zB ?_
 refine zG 29 (fun h55=>?_) (fun h55=>?_)
 ·refine zA (fun x56 h57=>?_)
  refine zA (fun x58 h59=>?_)
  refine xR (atI c119 107721) (fun v65:Bool=>St.mk' [(0,sl 8 (Pack.enc false) a1),(1,sl 1 zC a2),(2,sl 1 eStr a3),(3,sl 1 eStr a4),(9,iv s36),(10,sl 1 (eSl false 7 Term.enc) x40.Needs),(11,iv s54),(45,bv v65)] []) (fun v65=>?_) (fun jv65=>?_)
  ·refine zG 45 (fun h66=>?_) (fun h66=>?_)
   ·refine J_g 430884 [] [(8,bv true)] [] zB ?_
    exact xJ rfl
   ·refine J_d 26931 [] [11,45] [(11,iv (w64 (s54+1)))] [] [] zB ?_
    exact J_q (J_b (ih (w64 (s54+1)))) rfl
  ·refine vI (fun h60=>?_) (fun h60=>?_)
   ·refine zA (fun x61 h62=>?_)
    refine zA (fun x63 h64=>?_)
    refine J_d 107720 [] [29,45] [(45,bv x63)] [] [] (zF 2 (uN (kk:=.i64) 89 80 1 (eSl false 7 Term.enc) (.tmp 32) (.tmp 33) h57) (zF 5 (vD [(.tmp 35),(.tmp 36)] [80,32] (tY.ok x56 a3) h59) (wO 6 [(37,bv x58)] [] h60 (zAm 9 6 38 true (uN (kk:=.i64) 89 80 1 (eSl false 7 Term.enc) (.tmp 39) (.tmp 40) h62) (zAm 12 6 38 true (vD [(.tmp 42),(.tmp 43)] [80,32] (tY.ok x61 a4) h64) zB))))) ?_
    exact yM (J_j (jv65 x63)) rfl
   ·refine J_d 107720 [] [29,45] [(45,bv false)] [] [] (zF 2 (uN (kk:=.i64) 89 80 1 (eSl false 7 Term.enc) (.tmp 32) (.tmp 33) h57) (zF 5 (vD [(.tmp 35),(.tmp 36)] [80,32] (tY.ok x56 a3) h59) (wO 6 [(37,bv x58)] [] h60 zB))) ?_
    exact yM (J_j (jv65 false)) rfl
 ·exact yM (hk ()) rfl
theorem zAE.ok (a1:(List Pack)) (a2:(List Int)) (a3:(List ByteArray)) (a4:(List ByteArray)) (q:Wd) (kn:Unit→Option (D×List Ent)) (hk:∀v:Unit,J (q.g Tryz.prog 119 0 46) c119 (atI c119 7) (St.mk' [] []) (some v) kn):
  ∀s36:Int,J (q.g Tryz.prog 119 0 46) c119 (atI c119 52) (St.mk' [(0,sl 8 (Pack.enc false) a1),(1,sl 1 zC a2),(2,sl 1 eStr a3),(3,sl 1 eStr a4),(9,iv s36)] []) (zAE a1 a2 a3 a4 s36) (Fl.go (fun r:Bool=>some (bv r,[])) kn):=by
 refine zAq (fun g ih s36=>?_)
 unfold zAg
 refine J_d 208 [] [15] [(15,bv (decide (s36< (a2.length:Int))))] [] [] zB ?_
 refine zG 15 (fun h37=>?_) (fun h37=>?_)
 ·refine zA (fun x38 h39=>?_)
  refine zA (fun x40 h41=>?_)
  refine J_g 840 [] [(0,sl 8 (Pack.enc false) a1),(1,sl 1 zC a2),(2,sl 1 eStr a3),(3,sl 1 eStr a4),(9,iv s36),(10,sl 1 (eSl false 7 Term.enc) x40.Needs)] [] (zF 3 (uN (kk:=.i64) 25 2 1 zC (.tmp 19) (.tmp 20) h39) (zF 5 (uN (kk:=.i64) 24 91 8 (Pack.enc false) (.tmp 18) (.tmp 22) h41) zB)) ?_
  refine J_d 1682 [] [11] [(11,iv 0)] [] [] zB ?_
  refine jO (K0:=(fun r:Bool=>some (bv r,[]))) (fun _=>rfl) (zAK.ok a1 a2 a3 a4 s36 x40 q _ (fun v67=>J_j ?_) 0)
  refine J_d 211 [] [9] [(9,iv (w64 (s36+1)))] [] [] zB ?_
  exact J_q (J_b (ih (w64 (s36+1)))) rfl
 ·exact yM (hk ()) rfl
theorem uD.ok (a1:(List Pack)) (a2:(List Int)) (a3:(List ByteArray)) (a4:(List ByteArray)):Ok Tryz.prog 119 [sl 8 (Pack.enc false) a1,sl 1 zC a2,sl 1 eStr a3,sl 1 eStr a4] [] ((uD a1 a2 a3 a4).map fun r=>(bv r,[])):=by
 refine zJ c119 Tryz.f119 0 46 (fun q=>?_)
 unfold uD
 refine J_g 2 [] [(0,sl 8 (Pack.enc false) a1),(1,sl 1 zC a2),(2,sl 1 eStr a3),(3,sl 1 eStr a4)] [] zB ?_
 refine J_d 12 [] [9] [(9,iv 0)] [] [] zB ?_
 refine jO (K0:=(fun r:Bool=>some (bv r,[]))) (fun _=>rfl) (zAE.ok a1 a2 a3 a4 q _ (fun v68=>J_j ?_) 0)
 refine J_g 14 [] [(8,bv false)] [] zB ?_
 exact xJ rfl
noncomputable def c65:Code:=(Tryz.f65.body).getD .skip
theorem uF.ok (a1:(List Pack)) (a2:(List Int)) (a3:(List Int)) (a4:ByteArray) (a5:ByteArray):Ok Tryz.prog 65 [sl 8 (Pack.enc false) a1,sl 1 zC a2,sl 1 zC a3,sv a4,sv a5] [] ((uF a1 a2 a3 a4 a5).map fun r=>(bv r,[])):=by
 refine zJ c65 Tryz.f65 0 51 (fun q=>?_)
 unfold uF
 refine J_d 2 [] [] [] [] [] zB ?_
 refine zA (fun x6 h7=>?_)
 refine J_d 6 [] [11] [(11,rr 0 x6)] [0] [(0,rE 1 eStr x6)] (zF 4 (wW («as»:=[sl 8 (Pack.enc false) a1,sl 1 zC a2,sl 1 zC a3,sv a4]) [(.tmp 13),(.tmp 14),(.tmp 15),(.tmp 16)] [24,25,25,9] false [] [] (.cons (.same rfl) (.cons (.same rfl) (.cons (.same rfl) (.cons (.same rfl) (.nil))))) (zA2.ok a1 a2 a3 a4) h7 (.own 0)) zB) ?_
 refine zA (fun x8 h9=>?_)
 refine J_d 14 [] [12] [(12,rr 1 x8)] [1] [(1,rE 1 eStr x8)] (zF 4 (wW («as»:=[sl 8 (Pack.enc false) a1,sl 1 zC a2,sl 1 zC a3,sv a5]) [(.tmp 18),(.tmp 19),(.tmp 20),(.tmp 21)] [24,25,25,9] false [] [] (.cons (.same rfl) (.cons (.same rfl) (.cons (.same rfl) (.cons (.same rfl) (.nil))))) (zA2.ok a1 a2 a3 a5) h9 (.own 1)) zB) ?_
 refine zA (fun x10 h11=>?_)
 refine vI (fun h12=>?_) (fun h12=>?_)
 ·refine J_g 30 [] [(10,bv true)] [] (zF 5 (wW («as»:=[sl 8 (Pack.enc false) a1,sl 1 zC a2,sl 1 zC a3,sv a4,rr 1 x8]) [(.tmp 23),(.tmp 24),(.tmp 25),(.tmp 26),(.tmp 27)] [24,25,25,9,32] true [(1,rE 1 eStr x8)] [] (.cons (.same rfl) (.cons (.same rfl) (.cons (.same rfl) (.cons (.same rfl) (.cons (zD1 (.head _) (fun _=>rfl) rfl) (.nil)))))) (uV.ok a1 a2 a3 a4 x8) h11 (.same rfl rfl) (hbor:=fun _=>⟨fhN,yP⟩)) (wO 6 [(28,bv x10)] [] h12 zB)) ?_
  exact xJ rfl
 ·refine zA (fun x13 h14=>?_)
  refine vI (fun h15=>?_) (fun h15=>?_)
  ·refine J_g 30 [] [(10,bv true)] [] (zF 5 (wW («as»:=[sl 8 (Pack.enc false) a1,sl 1 zC a2,sl 1 zC a3,sv a4,rr 1 x8]) [(.tmp 23),(.tmp 24),(.tmp 25),(.tmp 26),(.tmp 27)] [24,25,25,9,32] true [(1,rE 1 eStr x8)] [] (.cons (.same rfl) (.cons (.same rfl) (.cons (.same rfl) (.cons (.same rfl) (.cons (zD1 (.head _) (fun _=>rfl) rfl) (.nil)))))) (uV.ok a1 a2 a3 a4 x8) h11 (.same rfl rfl) (hbor:=fun _=>⟨fhN,yP⟩)) (wO 6 [(28,bv x10)] [] h12 (zAm 12 6 29 false (wW («as»:=[sl 8 (Pack.enc false) a1,sl 1 zC a2,sl 1 zC a3,sv a5,rr 0 x6]) [(.tmp 30),(.tmp 31),(.tmp 32),(.tmp 33),(.tmp 34)] [24,25,25,9,32] true [(0,rE 1 eStr x6)] [] (.cons (.same rfl) (.cons (.same rfl) (.cons (.same rfl) (.cons (.same rfl) (.cons (zD1 (.head _) (fun _=>rfl) rfl) (.nil)))))) (uV.ok a1 a2 a3 a5 x6) h14 (.same rfl rfl) (hbor:=fun _=>⟨fhN,yP⟩)) (wO 14 [(36,bv x13)] [] h15 zB)))) ?_
   exact xJ rfl
  ·refine zA (fun x16 h17=>?_)
   refine vI (fun h18=>?_) (fun h18=>?_)
   ·refine J_g 30 [] [(10,bv true)] [] (zF 5 (wW («as»:=[sl 8 (Pack.enc false) a1,sl 1 zC a2,sl 1 zC a3,sv a4,rr 1 x8]) [(.tmp 23),(.tmp 24),(.tmp 25),(.tmp 26),(.tmp 27)] [24,25,25,9,32] true [(1,rE 1 eStr x8)] [] (.cons (.same rfl) (.cons (.same rfl) (.cons (.same rfl) (.cons (.same rfl) (.cons (zD1 (.head _) (fun _=>rfl) rfl) (.nil)))))) (uV.ok a1 a2 a3 a4 x8) h11 (.same rfl rfl) (hbor:=fun _=>⟨fhN,yP⟩)) (wO 6 [(28,bv x10)] [] h12 (zAm 12 6 29 false (wW («as»:=[sl 8 (Pack.enc false) a1,sl 1 zC a2,sl 1 zC a3,sv a5,rr 0 x6]) [(.tmp 30),(.tmp 31),(.tmp 32),(.tmp 33),(.tmp 34)] [24,25,25,9,32] true [(0,rE 1 eStr x6)] [] (.cons (.same rfl) (.cons (.same rfl) (.cons (.same rfl) (.cons (.same rfl) (.cons (zD1 (.head _) (fun _=>rfl) rfl) (.nil)))))) (uV.ok a1 a2 a3 a5 x6) h14 (.same rfl rfl) (hbor:=fun _=>⟨fhN,yP⟩)) (wO 14 [(36,bv x13)] [] h15 (zAm 19 14 37 false (wW («as»:=[sl 8 (Pack.enc false) a1,sl 1 zC a2,rr 0 x6,rr 1 x8]) [(.tmp 38),(.tmp 39),(.tmp 40),(.tmp 41)] [24,25,32,32] true [(0,rE 1 eStr x6),(1,rE 1 eStr x8)] [] (.cons (.same rfl) (.cons (.same rfl) (.cons (zD1 (.head _) (fun _=>rfl) rfl) (.cons (zD1 (.tail _ (.head _)) (fun _=>rfl) rfl) (.nil))))) (uD.ok a1 a2 x6 x8) h17 (.same rfl rfl) (hbor:=fun _=>⟨fhN,yP⟩)) (wO 21 [(43,bv x16)] [] h18 zB)))))) ?_
    exact xJ rfl
   ·refine zA (fun x19 h20=>?_)
    refine J_g 30 [] [(10,bv x19)] [] (zF 5 (wW («as»:=[sl 8 (Pack.enc false) a1,sl 1 zC a2,sl 1 zC a3,sv a4,rr 1 x8]) [(.tmp 23),(.tmp 24),(.tmp 25),(.tmp 26),(.tmp 27)] [24,25,25,9,32] true [(1,rE 1 eStr x8)] [] (.cons (.same rfl) (.cons (.same rfl) (.cons (.same rfl) (.cons (.same rfl) (.cons (zD1 (.head _) (fun _=>rfl) rfl) (.nil)))))) (uV.ok a1 a2 a3 a4 x8) h11 (.same rfl rfl) (hbor:=fun _=>⟨fhN,yP⟩)) (wO 6 [(28,bv x10)] [] h12 (zAm 12 6 29 false (wW («as»:=[sl 8 (Pack.enc false) a1,sl 1 zC a2,sl 1 zC a3,sv a5,rr 0 x6]) [(.tmp 30),(.tmp 31),(.tmp 32),(.tmp 33),(.tmp 34)] [24,25,25,9,32] true [(0,rE 1 eStr x6)] [] (.cons (.same rfl) (.cons (.same rfl) (.cons (.same rfl) (.cons (.same rfl) (.cons (zD1 (.head _) (fun _=>rfl) rfl) (.nil)))))) (uV.ok a1 a2 a3 a5 x6) h14 (.same rfl rfl) (hbor:=fun _=>⟨fhN,yP⟩)) (wO 14 [(36,bv x13)] [] h15 (zAm 19 14 37 false (wW («as»:=[sl 8 (Pack.enc false) a1,sl 1 zC a2,rr 0 x6,rr 1 x8]) [(.tmp 38),(.tmp 39),(.tmp 40),(.tmp 41)] [24,25,32,32] true [(0,rE 1 eStr x6),(1,rE 1 eStr x8)] [] (.cons (.same rfl) (.cons (.same rfl) (.cons (zD1 (.head _) (fun _=>rfl) rfl) (.cons (zD1 (.tail _ (.head _)) (fun _=>rfl) rfl) (.nil))))) (uD.ok a1 a2 x6 x8) h17 (.same rfl rfl) (hbor:=fun _=>⟨fhN,yP⟩)) (wO 21 [(43,bv x16)] [] h18 (zAm 26 21 44 false (wW («as»:=[sl 8 (Pack.enc false) a1,sl 1 zC a3,rr 0 x6,rr 1 x8]) [(.tmp 45),(.tmp 46),(.tmp 47),(.tmp 48)] [24,25,32,32] true [(0,rE 1 eStr x6),(1,rE 1 eStr x8)] [] (.cons (.same rfl) (.cons (.same rfl) (.cons (zD1 (.head _) (fun _=>rfl) rfl) (.cons (zD1 (.tail _ (.head _)) (fun _=>rfl) rfl) (.nil))))) (uD.ok a1 a3 x6 x8) h20 (.same rfl rfl) (hbor:=fun _=>⟨fhN,yP⟩)) zB))))))) ?_
    exact xJ rfl
noncomputable def c33:Code:=(Tryz.f33.body).getD .skip
theorem zC2.ok (a1:(List Pack)) (a2:(List Int)) (a3:(List Int)) (s206:((List ByteArray)×(List (List ByteArray)))) (s337:((List ByteArray)×Bool×Int)) (q:Wd) (kn:((List ByteArray)×Bool)→Option (D×List Ent)) (hk:∀v:((List ByteArray)×Bool),J (q.g Tryz.prog 33 0 94) c33 (aft c33 7909732) (St.mk' [(0,sl 8 (Pack.enc false) a1),(1,sl 1 zC a2),(2,sl 1 zC a3),(7,rr 0 s206.1),(8,rr 1 s206.2),(9,rr 2 v.1),(10,bv v.2),(11,iv s337.2.2)] [(0,rE 1 eStr s206.1),(1,rE 1 (eSl true 1 eStr) s206.2),(2,rE 1 eStr v.1)]) (some v) kn):
  ∀s358:((List ByteArray)×Bool×Int),J (q.g Tryz.prog 33 0 94) c33 (atI c33 63277860) (St.mk' [(0,sl 8 (Pack.enc false) a1),(1,sl 1 zC a2),(2,sl 1 zC a3),(7,rr 0 s206.1),(8,rr 1 s206.2),(9,rr 2 s358.1),(10,bv s358.2.1),(11,iv s337.2.2),(12,iv s358.2.2)] [(0,rE 1 eStr s206.1),(1,rE 1 (eSl true 1 eStr) s206.2),(2,rE 1 eStr s358.1)]) (zC2 a1 a2 a3 s206 s337 s358) kn:=by
 refine zAq (fun g ih s358=>?_)
 unfold zBJ
 refine xR (atI c33 253111441) (fun v364:Bool=>St.mk' [(0,sl 8 (Pack.enc false) a1),(1,sl 1 zC a2),(2,sl 1 zC a3),(7,rr 0 s206.1),(8,rr 1 s206.2),(9,rr 2 s358.1),(10,bv s358.2.1),(11,iv s337.2.2),(12,iv s358.2.2),(46,bv v364)] [(0,rE 1 eStr s206.1),(1,rE 1 (eSl true 1 eStr) s206.2),(2,rE 1 eStr s358.1)]) (fun v364=>?_) (fun jv364=>?_)
 ·refine zG 46 (fun h365=>?_) (fun h365=>?_)
  ·refine zA (fun x366 h367=>?_)
   refine zA (fun x368 h369=>?_)
   refine zA (fun x370 h371=>?_)
   refine J_d 1012445768 [] [46,60] [(60,bv x370)] [] [] (zF 5 (zCb (kk:=.i64) 32 9 1 2 eStr (.tmp 52) (.tmp 53) h367) (zF 6 (zCK (d:=sv x366) 9 1 2 0 eStr (.tmp 54) h367 (by kernel_rfl)) (zF 9 (zCb (kk:=.i64) 32 9 1 0 eStr (.tmp 56) (.tmp 57) h369) (zF 10 (zCK (d:=sv x368) 9 1 0 0 eStr (.tmp 58) h369 (by kernel_rfl)) (zF 11 (vD [(.tmp 49),(.tmp 50),(.tmp 51),(.tmp 55),(.tmp 59)] [24,25,25,9,9] (uF.ok a1 a2 a3 x366 x368) h371) zB))))) ?_
   refine xR (aft c33 506222884) (fun v377:((List ByteArray)×Bool)=>St.mk' [(0,sl 8 (Pack.enc false) a1),(1,sl 1 zC a2),(2,sl 1 zC a3),(7,rr 0 s206.1),(8,rr 1 s206.2),(9,rr 3 v377.1),(10,bv v377.2),(11,iv s337.2.2),(12,iv s358.2.2)] [(0,rE 1 eStr s206.1),(1,rE 1 (eSl true 1 eStr) s206.2),(3,rE 1 eStr v377.1)]) (fun v377=>?_) (fun jv377=>?_)
   ·refine J_d 253111443 [] [12] [(12,iv (w64 (s358.2.2+1)))] [] [] zB ?_
    refine vO 3 2 (Nat.le_of_ble_eq_true rfl) (Nat.le_of_ble_eq_true rfl) ?_
    exact J_q (J_b (ih (v377.1,v377.2,w64 (s358.2.2+1)))) rfl
   ·refine zG 60 (fun h372=>?_) (fun h372=>?_)
    ·refine zA (fun x373 h374=>?_)
     refine zA (fun x375 h376=>?_)
     refine J_g 4049783076 [] [(0,sl 8 (Pack.enc false) a1),(1,sl 1 zC a2),(2,sl 1 zC a3),(7,rr 0 s206.1),(8,rr 1 s206.2),(9,rr 3 x375),(11,iv s337.2.2),(12,iv s358.2.2)] [(0,rE 1 eStr s206.1),(1,rE 1 (eSl true 1 eStr) s206.2),(3,rE 1 eStr x375)] (zF 3 (zCb (kk:=.i64) 32 9 1 0 eStr (.tmp 62) (.tmp 63) h374) (zF 4 (zCK (d:=sv x373) 9 1 0 0 eStr (.tmp 64) h374 (by kernel_rfl)) (zF 5 (wW («as»:=[rr 2 s358.1,sv x373]) [(.tmp 61),(.tmp 65)] [32,9] false [(2,rE 1 eStr s358.1)] [2] (.cons (.rf rfl) (.cons (.same rfl) (.nil))) (vS.ok s358.1 x373) h376 (.own 3)) zB))) ?_
     refine J_d 4049783077 [] [10] [(10,bv true)] [] [] zB ?_
     exact yM (J_j (jv377 (x375,true))) rfl
    ·refine vO 2 3 (Nat.le_of_ble_eq_true rfl) (Nat.le_of_ble_eq_true rfl) ?_
     exact yM (J_j (jv377 (s358.1,s358.2.1))) rfl
  ·exact yM (hk (s358.1,s358.2.1)) rfl
 ·refine vI (fun h359=>?_) (fun h359=>?_)
  ·refine zA (fun x360 h361=>?_)
   refine zA (fun x362 h363=>?_)
   refine J_d 253111440 [] [46] [(46,bv (!x362))] [] [] (wO 4 [(37,bv (decide (s358.2.2< (s358.1.length:Int))))] [] h359 (zAm 8 4 38 true (zCb (kk:=.i64) 32 9 1 0 eStr (.tmp 40) (.tmp 41) h361) (zAm 9 4 38 true (zCK (d:=sv x360) 9 1 0 0 eStr (.tmp 42) h361 (by kernel_rfl)) (zAm 10 4 38 true (wW («as»:=[rr 2 s358.1,sv x360]) [(.tmp 39),(.tmp 43)] [32,9] true [(2,rE 1 eStr s358.1)] [] (.cons (zD1 (.head _) (fun _=>rfl) rfl) (.cons (.same rfl) (.nil))) (wG.ok s358.1 x360) h363 (.same rfl rfl) (hbor:=fun _=>⟨fhN,yP⟩)) zB)))) ?_
   exact yM (J_j (jv364 (!x362))) rfl
  ·refine J_d 253111440 [] [46] [(46,bv false)] [] [] (wO 4 [(37,bv (decide (s358.2.2< (s358.1.length:Int))))] [] h359 zB) ?_
   exact yM (J_j (jv364 false)) rfl
theorem zCv.ok (a1:(List Pack)) (a2:(List Int)) (a3:(List Int)) (s206:((List ByteArray)×(List (List ByteArray)))) (q:Wd) (kn:((List ByteArray)×Bool)→Option (D×List Ent)) (hk:∀v:((List ByteArray)×Bool),J (q.g Tryz.prog 33 0 94) c33 (aft c33 61794) (St.mk' [(0,sl 8 (Pack.enc false) a1),(1,sl 1 zC a2),(2,sl 1 zC a3),(7,rr 0 s206.1),(8,rr 1 s206.2),(9,rr 2 v.1),(10,bv v.2)] [(0,rE 1 eStr s206.1),(1,rE 1 (eSl true 1 eStr) s206.2),(2,rE 1 eStr v.1)]) (some v) kn):
  ∀s337:((List ByteArray)×Bool×Int),J (q.g Tryz.prog 33 0 94) c33 (atI c33 988716) (St.mk' [(0,sl 8 (Pack.enc false) a1),(1,sl 1 zC a2),(2,sl 1 zC a3),(7,rr 0 s206.1),(8,rr 1 s206.2),(9,rr 2 s337.1),(10,bv s337.2.1),(11,iv s337.2.2)] [(0,rE 1 eStr s206.1),(1,rE 1 (eSl true 1 eStr) s206.2),(2,rE 1 eStr s337.1)]) (zCv a1 a2 a3 s206 s337) kn:=by
 refine zAq (fun g ih s337=>?_)
 unfold zAx
 refine J_d 3954864 [] [31] [(31,bv (decide (s337.2.2< (s206.1.length:Int))))] [] [] zB ?_
 refine zG 31 (fun h338=>?_) (fun h338=>?_)
 ·refine J_d 15819464 [] [12,31] [(12,iv 0)] [] [] zB ?_
  refine zET (zC2.ok a1 a2 a3 s206 s337 q _ (fun v378=>J_j ?_) (s337.1,s337.2.1,0))
  refine J_d 3954867 [] [11] [(11,iv (w64 (s337.2.2+1)))] [] [] zB ?_
  exact J_q (J_b (ih (v378.1,v378.2,w64 (s337.2.2+1)))) rfl
 ·exact yM (hk (s337.1,s337.2.1)) rfl
theorem zBe.ok (a1:(List Pack)) (a2:(List Int)) (a3:(List Int)) (s206:((List ByteArray)×(List (List ByteArray)))) (v380:(List ByteArray)) (q:Wd) (kn:(List ByteArray)→Option (D×List Ent)) (hk:∀v:(List ByteArray),J (q.g Tryz.prog 33 0 94) c33 (atI c33 15455) (St.mk' [(0,sl 8 (Pack.enc false) a1),(1,sl 1 zC a2),(2,sl 1 zC a3),(8,rr 1 s206.2),(9,rr 2 v380),(13,rr 3 v)] [(1,rE 1 (eSl true 1 eStr) s206.2),(2,rE 1 eStr v380),(3,rE 1 eStr v)]) (some v) kn):
  ∀s392:((List ByteArray)×Int),J (q.g Tryz.prog 33 0 94) c33 (atI c33 123636) (St.mk' [(0,sl 8 (Pack.enc false) a1),(1,sl 1 zC a2),(2,sl 1 zC a3),(7,rr 0 s206.1),(8,rr 1 s206.2),(9,rr 2 v380),(13,rr 3 s392.1),(14,iv s392.2)] [(0,rE 1 eStr s206.1),(1,rE 1 (eSl true 1 eStr) s206.2),(2,rE 1 eStr v380),(3,rE 1 eStr s392.1)]) (zBe a1 a2 a3 s206 v380 s392) kn:=by
 refine zAq (fun g ih s392=>?_)
 unfold zBO
 refine J_d 494544 [] [71] [(71,bv (decide (s392.2< (s206.1.length:Int))))] [] [] zB ?_
 refine zG 71 (fun h393=>?_) (fun h393=>?_)
 ·refine zA (fun x394 h395=>?_)
  refine zA (fun x396 h397=>?_)
  refine J_d 1978184 [] [71,80] [(80,bv (!x396))] [] [] (zF 3 (zCb (kk:=.i64) 32 9 1 0 eStr (.tmp 75) (.tmp 76) h395) (zF 4 (zCK (d:=sv x394) 9 1 0 0 eStr (.tmp 77) h395 (by kernel_rfl)) (zF 5 (wW («as»:=[rr 2 v380,sv x394]) [(.tmp 74),(.tmp 78)] [32,9] true [(2,rE 1 eStr v380)] [] (.cons (zD1 (.head _) (fun _=>rfl) rfl) (.cons (.same rfl) (.nil))) (wG.ok v380 x394) h397 (.same rfl rfl) (hbor:=fun _=>⟨fhN,yP⟩)) zB))) ?_
  refine xR (aft c33 989092) (fun v403:(List ByteArray)=>St.mk' [(0,sl 8 (Pack.enc false) a1),(1,sl 1 zC a2),(2,sl 1 zC a3),(7,rr 0 s206.1),(8,rr 1 s206.2),(9,rr 2 v380),(13,rr 5 v403),(14,iv s392.2)] [(0,rE 1 eStr s206.1),(1,rE 1 (eSl true 1 eStr) s206.2),(2,rE 1 eStr v380),(5,rE 1 eStr v403)]) (fun v403=>?_) (fun jv403=>?_)
  ·refine J_d 494547 [] [14] [(14,iv (w64 (s392.2+1)))] [] [] zB ?_
   refine vO 5 3 (Nat.le_of_ble_eq_true rfl) (Nat.le_of_ble_eq_true rfl) ?_
   exact J_q (J_b (ih (v403,w64 (s392.2+1)))) rfl
  ·refine zG 80 (fun h398=>?_) (fun h398=>?_)
   ·refine zA (fun x399 h400=>?_)
    refine zA (fun x401 h402=>?_)
    refine J_d 3956370 [] [13,80] [(13,rr 5 x401)] [3,5] [(5,rE 1 eStr x401)] (zF 3 (zCb (kk:=.i64) 32 9 1 0 eStr (.tmp 82) (.tmp 83) h400) (zF 4 (zCK (d:=sv x399) 9 1 0 0 eStr (.tmp 84) h400 (by kernel_rfl)) (zF 5 (zAZ 32 9 1 4 eStr [x399] [0] [(.tmp 85)] [sv x399]) (zF 6 (zEK 32 32 9 9 1 16 5 3 4 eStr (.tmp 81) (.tmp 86) h402) zB)))) ?_
    exact yM (J_j (jv403 x401)) rfl
   ·refine vO 3 5 (Nat.le_of_ble_eq_true rfl) (Nat.le_of_ble_eq_true rfl) ?_
    exact yM (J_j (jv403 s392.1)) rfl
 ·exact yM (hk s392.1) rfl
theorem zBr.ok (a1:(List Pack)) (a2:(List Int)) (a3:(List Int)) (s206:((List ByteArray)×(List (List ByteArray)))) (q:Wd) (kn:(List ByteArray)→Option (D×List Ent)) (hk:∀v:(List ByteArray),J (q.g Tryz.prog 33 0 94) c33 (atI c33 3863) (St.mk' [(0,sl 8 (Pack.enc false) a1),(1,sl 1 zC a2),(2,sl 1 zC a3),(7,rr 0 s206.1),(8,rr 1 s206.2),(9,rr 2 v)] [(0,rE 1 eStr s206.1),(1,rE 1 (eSl true 1 eStr) s206.2),(2,rE 1 eStr v)]) (some v) kn):
  ∀s294:((List ByteArray)×Bool),J (q.g Tryz.prog 33 0 94) c33 (atI c33 15448) (St.mk' [(0,sl 8 (Pack.enc false) a1),(1,sl 1 zC a2),(2,sl 1 zC a3),(7,rr 0 s206.1),(8,rr 1 s206.2),(9,rr 2 s294.1),(10,bv s294.2)] [(0,rE 1 eStr s206.1),(1,rE 1 (eSl true 1 eStr) s206.2),(2,rE 1 eStr s294.1)]) (zBr a1 a2 a3 s206 s294) kn:=by
 refine zAq (fun g ih s294=>?_)
 unfold zDs
 refine J_d 61792 [] [10,27] [(27,bv s294.2)] [] [] zB ?_
 refine zG 27 (fun h295=>?_) (fun h295=>?_)
 ·refine J_g 123588 [] [(0,sl 8 (Pack.enc false) a1),(1,sl 1 zC a2),(2,sl 1 zC a3),(7,rr 0 s206.1),(8,rr 1 s206.2),(9,rr 2 s294.1),(10,bv false)] [(0,rE 1 eStr s206.1),(1,rE 1 (eSl true 1 eStr) s206.2),(2,rE 1 eStr s294.1)] zB ?_
  refine J_d 247178 [] [11] [(11,iv 0)] [] [] zB ?_
  refine zET (zCv.ok a1 a2 a3 s206 q _ (fun v379=>J_j ?_) (s294.1,false,0))
  exact J_q (J_b (ih (v379.1,v379.2))) rfl
 ·exact yM (hk s294.1) rfl
theorem jK.ok (a1:(List Pack)) (a2:(List Int)) (a3:(List Int)) (q:Wd) (kn:(List (List ByteArray))→Option (D×List Ent)) (hk:∀v:(List (List ByteArray)),J (q.g Tryz.prog 33 0 94) c33 (atI c33 31) (St.mk' [(8,rr 1 v)] [(1,rE 1 (eSl true 1 eStr) v)]) (some v) kn):
  ∀s206:((List ByteArray)×(List (List ByteArray))),J (q.g Tryz.prog 33 0 94) c33 (atI c33 120) (St.mk' [(0,sl 8 (Pack.enc false) a1),(1,sl 1 zC a2),(2,sl 1 zC a3),(7,rr 0 s206.1),(8,rr 1 s206.2)] [(0,rE 1 eStr s206.1),(1,rE 1 (eSl true 1 eStr) s206.2)]) (jK a1 a2 a3 s206) kn:=by
 refine zAq (fun g ih s206=>?_)
 unfold zBB
 refine J_d 480 [] [22] [(22,bv (decide ((s206.1.length:Int)>0)))] [] [] zB ?_
 refine zG 22 (fun h207=>?_) (fun h207=>?_)
 ·refine zA (fun x208 h209=>?_)
  refine J_g 964 [] [(0,sl 8 (Pack.enc false) a1),(1,sl 1 zC a2),(2,sl 1 zC a3),(7,rr 0 s206.1),(8,rr 1 s206.2),(9,rr 2 [x208])] [(0,rE 1 eStr s206.1),(1,rE 1 (eSl true 1 eStr) s206.2),(2,rE 1 eStr [x208])] (zF 1 (zCb (kk:=.i64) 32 9 1 0 eStr (.tmp 23) (.const (.int .i64 0)) h209) (zF 2 (zCK (d:=sv x208) 9 1 0 0 eStr (.tmp 24) h209 (by kernel_rfl)) (zF 3 (zAZ 32 9 1 2 eStr [x208] [0] [(.tmp 25)] [sv x208]) zB))) ?_
  refine J_d 1930 [] [10] [(10,bv true)] [] [] zB ?_
  refine zET (zBr.ok a1 a2 a3 s206 q _ (fun v380=>J_j ?_) ([x208],true))
  refine J_g 7726 [] [(0,sl 8 (Pack.enc false) a1),(1,sl 1 zC a2),(2,sl 1 zC a3),(7,rr 0 s206.1),(8,rr 1 s206.2),(9,rr 2 v380),(13,rr 3 ([]:List ByteArray))] [(0,rE 1 eStr s206.1),(1,rE 1 (eSl true 1 eStr) s206.2),(2,rE 1 eStr v380),(3,rE 1 eStr ([]:List ByteArray))] (zF 0 (zAZ 32 9 1 3 eStr ([]:List ByteArray) [] [] []) zB) ?_
  refine J_d 30908 [] [14] [(14,iv 0)] [] [] zB ?_
  refine zET (zBe.ok a1 a2 a3 s206 v380 q _ (fun v404=>J_j ?_) (([]:List ByteArray),0))
  refine J_d 30910 [] [7,13] [(7,rr 3 v404)] [] [] zB ?_
  refine zA (fun x405 h406=>?_)
  refine J_d 30911 [] [8,9] [(8,rr 5 x405)] [1,2,5] [(5,rE 1 (eSl true 1 eStr) x405)] (zF 2 (zM7 (ds:=[rr 2 v380]) (ts:=[2]) 28 32 1 4 (eSl true 1 eStr) [v380] [0] [(.tmp 90)] [rr 2 v380] [(2,rE 1 eStr v380)] (.move (.head _) (List.length_map _) (by decide) (.nil))) (zF 3 (zEK 28 28 32 32 1 24 5 1 4 (eSl true 1 eStr) (.tmp 89) (.tmp 91) h406) zB)) ?_
  refine vO 3 0 (Nat.le_of_ble_eq_true rfl) (Nat.le_of_ble_eq_true rfl) ?_
  refine vO 5 1 (Nat.le_of_ble_eq_true rfl) (Nat.le_of_ble_eq_true rfl) ?_
  exact J_q (J_b (ih (v404,x405))) rfl
 ·exact yM (hk s206.2) rfl
theorem zBx.ok (a1:(List Pack)) (a2:(List Int)) (a3:(List Int)):Ok Tryz.prog 33 [sl 8 (Pack.enc false) a1,sl 1 zC a2,sl 1 zC a3] [] ((zBx a1 a2 a3).map fun r=>(so 1 (eSl true 1 eStr) r,[])):=by
 refine zJ c33 Tryz.f33 0 94 (fun q=>?_)
 unfold zBx
 refine J_d 2 [] [] [] [] [] zB ?_
 refine zA (fun x4 h5=>?_)
 refine J_g 6 [] [(0,sl 8 (Pack.enc false) a1),(1,sl 1 zC a2),(2,sl 1 zC a3),(7,rr 0 x4)] [(0,rE 1 eStr x4)] (zF 3 (wW («as»:=[sl 8 (Pack.enc false) a1,sl 1 zC a2,sl 1 zC a3]) [(.tmp 15),(.tmp 16),(.tmp 17)] [24,25,25] false [] [] (.cons (.same rfl) (.cons (.same rfl) (.cons (.same rfl) (.nil)))) (vY.ok a1 a2 a3) h5 (.own 0)) zB) ?_
 refine J_d 14 [] [8] [(8,rr 1 ([]:List (List ByteArray)))] [1] [(1,rE 1 (eSl false 1 eStr) ([]:List (List ByteArray)))] (zF 0 (zAZ 28 32 1 1 (eSl false 1 eStr) ([]:List (List ByteArray)) [] [] []) zB) ?_
 refine zET (jK.ok a1 a2 a3 q _ (fun v407=>J_j ?_) (x4,([]:List (List ByteArray))))
 refine J_g 62 [] [(6,rr 1 v407)] [(1,rE 1 (eSl true 1 eStr) v407)] zB ?_
 exact zEf (ds:=[rr 1 v407]) (ds':=[so 1 (eSl true 1 eStr) v407]) (.cons (.cell (.move (.head _) (List.length_map _) (by decide) (.nil))) (.nil) (by decide)) rfl
noncomputable def c47:Code:=(Tryz.f47.body).getD .skip
theorem zCh.ok (q:Wd) (kn:((List Int)×Int×(List ByteArray))→Option (D×List Ent)) (hk:∀v:((List Int)×Int×(List ByteArray)),J (q.g Tryz.prog 47 1 18) c47 (atI c47 15) (St.mk' [(3,rr 1 v.2.2)] [(0,.box [sl 1 eU8 v.1,iv v.2.1]),(1,rE 1 eStr v.2.2)]) (some v) kn):
  ∀s9:((List Int)×Int×(List ByteArray)×Int),J (q.g Tryz.prog 47 1 18) c47 (atI c47 116) (St.mk' [(0,pp 0),(3,rr 1 s9.2.2.1),(4,iv s9.2.2.2)] [(0,.box [sl 1 eU8 s9.1,iv s9.2.1]),(1,rE 1 eStr s9.2.2.1)]) (zCh s9) kn:=by
 refine zAq (fun g ih s9=>?_)
 unfold zBC
 refine J_d 464 [] [9] [(9,bv (decide (s9.2.2.2>0)))] [] [] zB ?_
 refine zG 9 (fun h10=>?_) (fun h10=>?_)
 ·refine zA (fun x11 h12=>?_)
  refine zA (fun x13 h14=>?_)
  refine J_g 932 [] [(0,pp 0),(3,rr 3 x13),(4,iv s9.2.2.2)] [(0,.box (zD.enc false x11.2)),(3,rE 1 eStr x13)] (zF 2 (wW («as»:=[pp 0]) [(.tmp 13)] [56] false [(0,.box [sl 1 eU8 s9.1,iv s9.2.1])] [0] (.cons (.pt rfl) (.nil)) (wE.ok ({Code:=s9.1,At:=s9.2.1}:zD)) h12 (.same rfl rfl)) (zF 3 (zAZ 32 9 1 2 eStr [x11.1] [0] [(.tmp 14)] [sv x11.1]) (zF 4 (zEK 32 32 9 9 1 16 3 1 2 eStr (.tmp 12) (.tmp 15) h14) zB))) ?_
  refine J_d 467 [] [4] [(4,iv (w64 (s9.2.2.2-1)))] [] [] zB ?_
  refine vO 3 1 (Nat.le_of_ble_eq_true rfl) (Nat.le_of_ble_eq_true rfl) ?_
  exact J_q (J_b (ih (x11.2.Code,x11.2.At,x13,w64 (s9.2.2.2-1)))) rfl
 ·exact yM (hk (s9.1,s9.2.1,s9.2.2.1)) rfl
theorem zCD.ok (a1:zD):Ok Tryz.prog 47 [pp 0] [.box (zD.enc false a1)] ((zCD a1).map fun r=>(so 1 eStr r.1,[.box (zD.enc false r.2)])):=by
 refine zJ c47 Tryz.f47 1 18 (fun q=>?_)
 unfold zCD
 refine J_g 2 [] [(0,pp 0)] [(0,.box (zD.enc false a1))] zB ?_
 refine J_d 6 [] [3] [(3,rr 1 ([]:List ByteArray))] [1] [(1,rE 1 eStr ([]:List ByteArray))] (zF 0 (zAZ 32 9 1 1 eStr ([]:List ByteArray) [] [] []) zB) ?_
 refine zA (fun x2 h3=>?_)
 refine J_d 28 [] [4] [(4,iv x2.1)] [0] [(0,.box (zD.enc false x2.2))] (zF 1 (wW («as»:=[pp 0,iv 5]) [(.tmp 6),(.const (.int .i64 5))] [56,2] false [(0,.box (zD.enc false a1))] [0] (.cons (.pt rfl) (.cons (.same rfl) (.nil))) (zL.ok a1 5) h3 (.same rfl rfl)) zB) ?_
 refine zET (zCh.ok q _ (fun v15=>J_j ?_) (x2.2.Code,x2.2.At,([]:List ByteArray),x2.1))
 refine J_g 30 [] [(2,rr 1 v15.2.2)] [(0,.box [sl 1 eU8 v15.1,iv v15.2.1]),(1,rE 1 eStr v15.2.2)] zB ?_
 exact zEf (ds:=[rr 1 v15.2.2]) (ds':=[so 1 eStr v15.2.2]) (.cons (.cell (.move (.tail _ (.head _)) (List.length_map _) (by decide) (.nil))) (.nil) (by decide)) rfl
noncomputable def c19:Code:=(Tryz.f19.body).getD .skip
theorem vU.ok (a1:(List Int)):Ok Tryz.prog 19 [sl 1 eU8 a1] [] ((vU a1).map fun r=>(.tu [so 8 (Pack.enc false) r.1,sl 1 zC r.2.1,so 1 zC r.2.2.1,sl 1 eStr r.2.2.2],[])):=by
 refine zJ c19 Tryz.f19 0 57 (fun q=>?_)
 unfold vU
 refine J_g 2 [] [(0,sl 1 eU8 a1)] [] zB ?_
 refine zA (fun x2 h3=>?_)
 refine J_g 6 [] [(6,pp 0)] [(0,.box (zD.enc false x2))] (zF 1 (wW («as»:=[sl 1 eU8 a1]) [(.tmp 12)] [22] false [] [] (.cons (.same rfl) (.nil)) (zB0.ok a1) h3 (.po 0 rfl)) zB) ?_
 refine zA (fun x4 h5=>?_)
 refine J_g 14 [] [(6,pp 0),(7,rr 1 x4.1),(8,sl 1 zC x4.2.1),(9,rr 2 x4.2.2.1)] [(0,.box (zD.enc false x4.2.2.2)),(1,rE 8 (Pack.enc false) x4.1),(2,rE 1 zC x4.2.2.1)] (zF 1 (wW («as»:=[pp 0]) [(.tmp 15)] [56] false [(0,.box (zD.enc false x2))] [0] (.cons (.pt rfl) (.nil)) (zDu.ok x2) h5 (.tu (.cons (.own 1) (.cons (.same rfl rfl) (.cons (.own 2) (.nil)))))) zB) ?_
 refine J_d 30 [] [10] [(10,rr 3 ([]:List ByteArray))] [3] [(3,rE 1 eStr ([]:List ByteArray))] (zF 0 (zAZ 32 9 1 3 eStr ([]:List ByteArray) [] [] []) zB) ?_
 refine zA (fun x6 h7=>?_)
 refine J_d 124 [] [25] [(25,bv (x6==0))] [] [] (zF 3 (wW («as»:=[rr 1 x4.1,sl 1 zC x4.2.1,rr 2 x4.2.2.1]) [(.tmp 21),(.tmp 22),(.tmp 23)] [24,25,25] true [(1,rE 8 (Pack.enc false) x4.1),(2,rE 1 zC x4.2.2.1)] [] (.cons (zD1 (.head _) (Pack.ro false) rfl) (.cons (.same rfl) (.cons (zD1 (.tail _ (.head _)) (fun _=>rfl) rfl) (.nil)))) (kH.ok x4.1 x4.2.1 x4.2.2.1) h7 (.same rfl rfl) (hbor:=fun _=>⟨fhN,yP⟩)) zB) ?_
 refine xR (atI c19 63) (fun v22:((List Int)×Int×(List ByteArray))=>St.mk' [(6,pp 0),(7,rr 1 x4.1),(8,sl 1 zC x4.2.1),(9,rr 2 x4.2.2.1),(10,sl 1 eStr v22.2.2)] [(0,.box [sl 1 eU8 v22.1,iv v22.2.1]),(1,rE 8 (Pack.enc false) x4.1),(2,rE 1 zC x4.2.2.1)]) (fun v22=>?_) (fun jv22=>?_)
 ·refine zA (fun x23 h24=>?_)
  refine J_d 252 [] [50] [(50,bv x23.1)] [0] [(0,.box (zD.enc false x23.2))] (zF 1 (wW («as»:=[pp 0,iv 12]) [(.tmp 49),(.const (.int .i64 12))] [56,2] false [(0,.box [sl 1 eU8 v22.1,iv v22.2.1])] [0] (.cons (.pt rfl) (.cons (.same rfl) (.nil))) (zR.ok ({Code:=v22.1,At:=v22.2.1}:zD) 12) h24 (.same rfl rfl)) zB) ?_
  refine xR (atI c19 127) (fun v28:(List ByteArray)=>St.mk' [(7,rr 1 x4.1),(8,sl 1 zC x4.2.1),(9,rr 2 x4.2.2.1),(10,sl 1 eStr v28)] [(1,rE 8 (Pack.enc false) x4.1),(2,rE 1 zC x4.2.2.1)]) (fun v28=>?_) (fun jv28=>?_)
  ·refine J_g 254 [] [(2,rr 1 x4.1),(3,sl 1 zC x4.2.1),(4,rr 2 x4.2.2.1),(5,sl 1 eStr v28)] [(1,rE 8 (Pack.enc false) x4.1),(2,rE 1 zC x4.2.2.1)] zB ?_
   exact zEf (ds:=[rr 1 x4.1,sl 1 zC x4.2.1,rr 2 x4.2.2.1,sl 1 eStr v28]) (ds':=[so 8 (Pack.enc false) x4.1,sl 1 zC x4.2.1,so 1 zC x4.2.2.1,sl 1 eStr v28]) (.cons (.cell (.move (.head _) (List.length_map _) (by decide) (.nil))) (.cons (.cell (.keep rfl (.nil))) (.cons (.cell (.move (.tail _ (.head _)) (List.length_map _) (by decide) (.nil))) (.cons (.cell (.keep rfl (.nil))) (.nil) (by decide)) (by decide)) (by decide)) (by decide)) rfl
  ·refine zG 50 (fun h25=>?_) (fun h25=>?_)
   ·refine zA (fun x26 h27=>?_)
    refine J_d 506 [] [6,10,50] [(10,rr 3 x26.1)] [0,3] [(3,rE 1 eStr x26.1)] (zF 1 (wW («as»:=[pp 0]) [(.tmp 51)] [56] false [(0,.box (zD.enc false x23.2))] [0] (.cons (.pt rfl) (.nil)) (zCD.ok x23.2) h27 (.own 3)) zB) ?_
    refine zEe [(7,rr 1 x4.1),(8,sl 1 zC x4.2.1),(9,rr 2 x4.2.2.1),(10,rr 3 x26.1)] [(3,rE 1 eStr x26.1),(1,rE 8 (Pack.enc false) x4.1),(2,rE 1 zC x4.2.2.1)] (by kernel_rfl) ?_
    refine zFY 3 (z:=1) (xs:=x26.1.map eStr) (tm2:=[(7,rr 1 x4.1),(8,sl 1 zC x4.2.1),(9,rr 2 x4.2.2.1),(10,sl 1 eStr x26.1)]) (hp2:=[(1,rE 8 (Pack.enc false) x4.1),(2,rE 1 zC x4.2.2.1)]) (.cons (.keep rfl) (.cons (.keep rfl) (.cons (.keep rfl) (.cons (.rf (by simp) (zEt (enc:=eStr) (enc':=eStr) (fun _=>rfl) x26.1 rfl rfl)) (.nil))))) (.keep rfl (.keep rfl (.nil))) rfl ?_
    exact yM (J_j (jv28 x26.1)) rfl
   ·exact yM (J_j (jv28 v22.2.2)) rfl
 ·refine zG 25 (fun h8=>?_) (fun h8=>?_)
  ·refine zA (fun x9 h10=>?_)
   refine J_d 500 [] [10,25] [(10,rr 4 x9)] [3,4] [(4,rE 1 eStr x9)] (zF 3 (wW («as»:=[rr 1 x4.1,sl 1 zC x4.2.1,rr 2 x4.2.2.1]) [(.tmp 26),(.tmp 27),(.tmp 28)] [24,25,25] true [(1,rE 8 (Pack.enc false) x4.1),(2,rE 1 zC x4.2.2.1)] [] (.cons (zD1 (.head _) (Pack.ro false) rfl) (.cons (.same rfl) (.cons (zD1 (.tail _ (.head _)) (fun _=>rfl) rfl) (.nil)))) (vY.ok x4.1 x4.2.1 x4.2.2.1) h10 (.own 4) (hbor:=fun _=>⟨fhN,(zDE (zEA (fun _=>(flatK yP zEp)) _))⟩)) zB) ?_
   refine zA (fun x11 h12=>?_)
   refine J_d 1002 [] [11] [(11,rr 5 x11)] [5] [(5,rE 1 (eSl true 1 eStr) x11)] (zF 3 (wW («as»:=[rr 1 x4.1,sl 1 zC x4.2.1,rr 2 x4.2.2.1]) [(.tmp 30),(.tmp 31),(.tmp 32)] [24,25,25] true [(1,rE 8 (Pack.enc false) x4.1),(2,rE 1 zC x4.2.2.1)] [] (.cons (zD1 (.head _) (Pack.ro false) rfl) (.cons (.same rfl) (.cons (zD1 (.tail _ (.head _)) (fun _=>rfl) rfl) (.nil)))) (zBx.ok x4.1 x4.2.1 x4.2.2.1) h12 (.own 5) (hbor:=fun _=>⟨fhN,(zDE (zEA (fun _=>(flatK (zDE (zEA (fun _=>(flatK yP zEp)) _)) zEp)) _))⟩)) zB) ?_
   refine xR (atI c19 2007) (fun v16:((List Int)×Int×Bool)=>St.mk' [(6,pp 0),(7,rr 1 x4.1),(8,sl 1 zC x4.2.1),(9,rr 2 x4.2.2.1),(10,rr 4 x9),(11,rr 5 x11),(41,bv v16.2.2)] [(0,.box [sl 1 eU8 v16.1,iv v16.2.1]),(1,rE 8 (Pack.enc false) x4.1),(2,rE 1 zC x4.2.2.1),(4,rE 1 eStr x9),(5,rE 1 (eSl true 1 eStr) x11)]) (fun v16=>?_) (fun jv16=>?_)
   ·refine zG 41 (fun h17=>?_) (fun h17=>?_)
    ·refine zA (fun x18 h19=>?_)
     refine zA (fun x20 h21=>?_)
     refine zEe [(6,pp 0),(7,rr 1 x4.1),(8,sl 1 zC x4.2.1),(9,rr 2 x4.2.2.1),(10,rr 4 x9),(11,rr 5 x11),(41,bv true)] [(5,rE 1 (eSl true 1 eStr) x11),(0,.box [sl 1 eU8 v16.1,iv v16.2.1]),(1,rE 8 (Pack.enc false) x4.1),(2,rE 1 zC x4.2.2.1),(4,rE 1 eStr x9)] (by kernel_rfl) ?_
     refine zFt 5 (jG (enc:=(eSl true 1 eStr)) (enc':=(eSl false 1 eStr)) (zEC (fun _=>rfl)) _) ?_
     refine zEe [(6,pp 0),(7,rr 1 x4.1),(8,sl 1 zC x4.2.1),(9,rr 2 x4.2.2.1),(10,rr 4 x9),(11,rr 5 x11),(41,bv true)] [(0,.box [sl 1 eU8 v16.1,iv v16.2.1]),(1,rE 8 (Pack.enc false) x4.1),(2,rE 1 zC x4.2.2.1),(4,rE 1 eStr x9),(5,rE 1 (eSl false 1 eStr) x11)] (by kernel_rfl) ?_
     refine J_d 4014 [] [10,11,41] [(10,sl 1 eStr x20)] [0,4,5] [(0,.box (zD.enc false x18.2))] (zF 4 (wW («as»:=[pp 0,iv (x11.length:Int)]) [(.tmp 43),(.tmp 45)] [56,2] false [(0,.box [sl 1 eU8 v16.1,iv v16.2.1])] [0] (.cons (.pt rfl) (.cons (.same rfl) (.nil))) (zL.ok ({Code:=v16.1,At:=v16.2.1}:zD) (x11.length:Int)) h19 (.same rfl rfl)) (zF 5 (zCb (kk:=.i64) 28 32 1 5 (eSl false 1 eStr) (.tmp 42) (.tmp 46) h21) (zF 6 (zCK (d:=sl 1 eStr x20) 32 1 5 0 (eSl false 1 eStr) (.tmp 47) h21 (by kernel_rfl)) zB))) ?_
     exact yM (J_j (jv22 (x18.2.Code,x18.2.At,x20))) rfl
    ·refine zEe [(6,pp 0),(7,rr 1 x4.1),(8,sl 1 zC x4.2.1),(9,rr 2 x4.2.2.1),(10,rr 4 x9),(11,rr 5 x11),(41,bv false)] [(4,rE 1 eStr x9),(0,.box [sl 1 eU8 v16.1,iv v16.2.1]),(1,rE 8 (Pack.enc false) x4.1),(2,rE 1 zC x4.2.2.1),(5,rE 1 (eSl true 1 eStr) x11)] (by kernel_rfl) ?_
     refine zFY 4 (z:=1) (xs:=x9.map eStr) (tm2:=[(6,pp 0),(7,rr 1 x4.1),(8,sl 1 zC x4.2.1),(9,rr 2 x4.2.2.1),(10,sl 1 eStr x9),(11,rr 5 x11),(41,bv false)]) (hp2:=[(0,.box [sl 1 eU8 v16.1,iv v16.2.1]),(1,rE 8 (Pack.enc false) x4.1),(2,rE 1 zC x4.2.2.1),(5,rE 1 (eSl true 1 eStr) x11)]) (.cons (.keep rfl) (.cons (.keep rfl) (.cons (.keep rfl) (.cons (.keep rfl) (.cons (.rf (by simp) (zEt (enc:=eStr) (enc':=eStr) (fun _=>rfl) x9 rfl rfl)) (.cons (.keep rfl) (.cons (.keep rfl) (.nil)))))))) (.keep rfl (.keep rfl (.keep rfl (.keep rfl (.nil))))) rfl ?_
     exact yM (J_j (jv22 (v16.1,v16.2.1,x9))) rfl
   ·refine vI (fun h13=>?_) (fun h13=>?_)
    ·refine zA (fun x14 h15=>?_)
     refine J_d 2006 [] [41] [(41,bv (!x14.1))] [0] [(0,.box (zD.enc false x14.2))] (wO 3 [(36,bv (decide ((x11.length:Int)>0)))] [] h13 (zAm 5 3 37 true (wW («as»:=[pp 0,iv 3]) [(.tmp 38),(.const (.int .i64 3))] [56,2] false [(0,.box (zD.enc false x4.2.2.2))] [0] (.cons (.pt rfl) (.cons (.same rfl) (.nil))) (zR.ok x4.2.2.2 3) h15 (.same rfl rfl)) zB)) ?_
     exact yM (J_j (jv16 (x14.2.Code,x14.2.At,!x14.1))) rfl
    ·refine J_d 2006 [] [41] [(41,bv false)] [] [] (wO 3 [(36,bv (decide ((x11.length:Int)>0)))] [] h13 zB) ?_
     exact yM (J_j (jv16 (x4.2.2.2.Code,x4.2.2.2.At,false))) rfl
  ·refine zEe [(6,pp 0),(7,rr 1 x4.1),(8,sl 1 zC x4.2.1),(9,rr 2 x4.2.2.1),(10,rr 3 ([]:List ByteArray)),(25,bv false)] [(3,rE 1 eStr ([]:List ByteArray)),(0,.box (zD.enc false x4.2.2.2)),(1,rE 8 (Pack.enc false) x4.1),(2,rE 1 zC x4.2.2.1)] (by kernel_rfl) ?_
   refine zFY 3 (z:=1) (xs:=([]:List ByteArray).map eStr) (tm2:=[(6,pp 0),(7,rr 1 x4.1),(8,sl 1 zC x4.2.1),(9,rr 2 x4.2.2.1),(10,sl 1 eStr ([]:List ByteArray)),(25,bv false)]) (hp2:=[(0,.box (zD.enc false x4.2.2.2)),(1,rE 8 (Pack.enc false) x4.1),(2,rE 1 zC x4.2.2.1)]) (.cons (.keep rfl) (.cons (.keep rfl) (.cons (.keep rfl) (.cons (.keep rfl) (.cons (.rf (by simp) (zEt (enc:=eStr) (enc':=eStr) (fun _=>rfl) ([]:List ByteArray) rfl rfl)) (.cons (.keep rfl) (.nil))))))) (.keep rfl (.keep rfl (.keep rfl (.nil)))) rfl ?_
   exact yM (J_j (jv22 (x4.2.2.2.Code,x4.2.2.2.At,([]:List ByteArray)))) rfl
noncomputable def zOV:Code:=(Tryz.f207.body).getD .skip
theorem zAi.ok (a1:Int):Ok Tryz.prog 207 [uv a1] [] ((zAi a1).map fun r=>(bv r,[])):=by
 refine zJ zOV Tryz.f207 0 21 (fun q=>?_)
 unfold zAi
 refine J_g 2 [] [(0,uv a1)] [] zB ?_
 refine vI (fun h2=>?_) (fun h2=>?_)
 ·refine vI (fun h3=>?_) (fun h3=>?_)
  ·refine J_g 6 [] [(2,bv true)] [] (wO 2 [(4,bv (decide (a1≥97)))] [] h2 (wO 6 [(8,bv (decide (a1≤122)))] [] h3 (zGZ 9 (zHa (i:=9) (g:=6) (t:=9) (b:=false) (v:=(.bool true)) (.inl rfl) (by kernel_rfl) (by kernel_rfl)) (zGZ 10 (zHa (i:=10) (g:=9) (t:=12) (b:=true) (v:=undef) (.inr rfl) (by kernel_rfl) (by kernel_rfl)) (zGZ 11 (zHa (i:=11) (g:=9) (t:=12) (b:=true) (v:=undef) (.inr rfl) (by kernel_rfl) (by kernel_rfl)) zB))))) ?_
   exact xJ rfl
  ·refine vI (fun h4=>?_) (fun h4=>?_)
   ·refine vI (fun h5=>?_) (fun h5=>?_)
    ·refine J_g 6 [] [(2,bv true)] [] (wO 2 [(4,bv (decide (a1≥97)))] [] h2 (wO 6 [(8,bv (decide (a1≤122)))] [] h3 (zFR 9 6 9 false [(11,bv (decide (a1≥48)))] [] h4 (wO 14 [(16,bv (decide (a1≤57)))] [] h5 zB)))) ?_
     exact xJ rfl
    ·refine J_g 6 [] [(2,bv (a1==95))] [] (wO 2 [(4,bv (decide (a1≥97)))] [] h2 (wO 6 [(8,bv (decide (a1≤122)))] [] h3 (zFR 9 6 9 false [(11,bv (decide (a1≥48)))] [] h4 (wO 14 [(16,bv (decide (a1≤57)))] [] h5 zB)))) ?_
     exact xJ rfl
   ·refine J_g 6 [] [(2,bv (a1==95))] [] (wO 2 [(4,bv (decide (a1≥97)))] [] h2 (wO 6 [(8,bv (decide (a1≤122)))] [] h3 (zFR 9 6 9 false [(11,bv (decide (a1≥48)))] [] h4 zB))) ?_
    exact xJ rfl
 ·refine vI (fun h6=>?_) (fun h6=>?_)
  ·refine vI (fun h7=>?_) (fun h7=>?_)
   ·refine J_g 6 [] [(2,bv true)] [] (wO 2 [(4,bv (decide (a1≥97)))] [] h2 (zFR 9 6 9 false [(11,bv (decide (a1≥48)))] [] h6 (wO 14 [(16,bv (decide (a1≤57)))] [] h7 zB))) ?_
    exact xJ rfl
   ·refine J_g 6 [] [(2,bv (a1==95))] [] (wO 2 [(4,bv (decide (a1≥97)))] [] h2 (zFR 9 6 9 false [(11,bv (decide (a1≥48)))] [] h6 (wO 14 [(16,bv (decide (a1≤57)))] [] h7 zB))) ?_
    exact xJ rfl
  ·refine J_g 6 [] [(2,bv (a1==95))] [] (wO 2 [(4,bv (decide (a1≥97)))] [] h2 (zFR 9 6 9 false [(11,bv (decide (a1≥48)))] [] h6 zB)) ?_
   exact xJ rfl
noncomputable def zNq:Code:=(Tryz.f161.body).getD .skip
theorem kP.ok (a1:ByteArray) (q:Wd) (kn:Unit→Option (D×List Ent)) (hk:∀v:Unit,J (q.g Tryz.prog 161 0 33) zNq (atI zNq 15) (St.mk' [] []) (some v) kn):
  ∀s17:Int,J (q.g Tryz.prog 161 0 33) zNq (atI zNq 116) (St.mk' [(0,sv a1),(23,iv (a1.size:Int)),(24,iv s17)] []) (kP a1 s17) (Fl.go (fun r:Int=>some (iv r,[])) kn):=by
 refine zAq (fun g ih s17=>?_)
 unfold zCd
 refine J_d 232 [] [25] [(25,bv (decide (s17< (a1.size:Int))))] [] [] zB ?_
 refine zG 25 (fun h18=>?_) (fun h18=>?_)
 ·refine J_d 3736 [] [3,25] [(3,iv s17)] [] [] zB ?_
  refine zA (fun x19 h20=>?_)
  refine zA (fun x21 h22=>?_)
  refine J_d 7474 [] [3,31] [(31,bv (!x21))] [] [] (zF 2 (zNp (kk:=.i64) 9 (.tmp 27) (.tmp 28) h20) (zF 3 (vD [(.tmp 29)] [5] (zAi.ok x19) h22) zB)) ?_
  refine zG 31 (fun h23=>?_) (fun h23=>?_)
  ·refine J_g 29900 [] [(2,iv 5)] [] zB ?_
   exact xJ rfl
  ·refine J_d 935 [] [24,31] [(24,iv (w64 (s17+1)))] [] [] zB ?_
   exact J_q (J_b (ih (w64 (s17+1)))) rfl
 ·exact yM (hk ()) rfl
theorem uE.ok (a1:ByteArray):Ok Tryz.prog 161 [sv a1] [] ((uE a1).map fun r=>(iv r,[])):=by
 refine zJ zNq Tryz.f161 0 33 (fun q=>?_)
 unfold uE
 refine J_g 2 [] [(0,sv a1)] [] zB ?_
 refine xR (atI zNq 13) (fun v9:Bool=>St.mk' [(0,sv a1),(21,bv v9)] []) (fun v9=>?_) (fun jv9=>?_)
 ·refine zG 21 (fun h10=>?_) (fun h10=>?_)
  ·refine J_g 52 [] [(2,iv 5)] [] zB ?_
   exact xJ rfl
  ·refine J_g 28 [] [(0,sv a1),(23,iv (a1.size:Int)),(24,iv 0)] [] zB ?_
   refine jO (K0:=(fun r:Int=>some (iv r,[]))) (fun _=>rfl) (kP.ok a1 q _ (fun v24=>J_j ?_) 0)
   refine J_g 30 [] [(2,iv 0)] [] zB ?_
   exact xJ rfl
 ·refine vI (fun h2=>?_) (fun h2=>?_)
  ·refine J_g 12 [] [(0,sv a1),(21,bv true)] [] (wO 3 [(6,bv (decide ((a1.size:Int)<1)))] [] h2 zB) ?_
   exact yM (J_j (jv9 true)) rfl
  ·refine vI (fun h3=>?_) (fun h3=>?_)
   ·refine J_g 12 [] [(0,sv a1),(21,bv true)] [] (wO 3 [(6,bv (decide ((a1.size:Int)<1)))] [] h2 (wO 8 [(11,bv (decide ((a1.size:Int)>12)))] [] h3 zB)) ?_
    exact yM (J_j (jv9 true)) rfl
   ·refine zA (fun x4 h5=>?_)
    refine vI (fun h6=>?_) (fun h6=>?_)
    ·refine J_g 12 [] [(0,sv a1),(21,bv true)] [] (wO 3 [(6,bv (decide ((a1.size:Int)<1)))] [] h2 (wO 8 [(11,bv (decide ((a1.size:Int)>12)))] [] h3 (zAm 10 8 12 false (zNp (kk:=.i64) 9 (.tmp 13) (.const (.int .i64 0)) h5) (wO 13 [(16,bv (decide (x4<97)))] [] h6 zB)))) ?_
     exact yM (J_j (jv9 true)) rfl
    ·refine zA (fun x7 h8=>?_)
     refine J_g 12 [] [(0,sv a1),(21,bv (decide (x7>122)))] [] (wO 3 [(6,bv (decide ((a1.size:Int)<1)))] [] h2 (wO 8 [(11,bv (decide ((a1.size:Int)>12)))] [] h3 (zAm 10 8 12 false (zNp (kk:=.i64) 9 (.tmp 13) (.const (.int .i64 0)) h5) (wO 13 [(16,bv (decide (x4<97)))] [] h6 (zAm 15 13 17 false (zNp (kk:=.i64) 9 (.tmp 18) (.const (.int .i64 0)) h8) zB))))) ?_
     exact yM (J_j (jv9 (decide (x7>122)))) rfl
noncomputable def c131:Code:=(Tryz.f131.body).getD .skip
theorem vF.ok (a1:Int) (a2:Int) (a3:Int):Ok Tryz.prog 131 [iv a1,iv a2,iv a3] [] ((vF a1 a2 a3).map fun r=>(bv r,[])):=by
 refine zJ c131 Tryz.f131 0 15 (fun q=>?_)
 unfold vF
 refine J_d 2 [] [] [] [] [] zB ?_
 refine vI (fun h4=>?_) (fun h4=>?_)
 ·refine J_g 6 [] [(6,bv (decide (a1≤a3)))] [] (wO 3 [(9,bv (decide (a2≤a1)))] [] h4 zB) ?_
  exact xJ rfl
 ·refine J_g 6 [] [(6,bv false)] [] (wO 3 [(9,bv (decide (a2≤a1)))] [] h4 zB) ?_
  exact xJ rfl
noncomputable def c162:Code:=(Tryz.f162.body).getD .skip
theorem wS.ok (a1:Version):Ok Tryz.prog 162 [.ag (Version.enc a1)] [] ((wS a1).map fun r=>(iv r,[])):=by
 refine zJ c162 Tryz.f162 0 19 (fun q=>?_)
 unfold wS
 refine J_g 2 [(0,0)] [(1,pp 0)] [(0,.box (Version.enc a1))] zB ?_
 refine zA (fun x2 h3=>?_)
 refine xR (atI c162 13) (fun v10:Bool=>St.mk' [(18,bv v10)] []) (fun v10=>?_) (fun jv10=>?_)
 ·refine zG 18 (fun h11=>?_) (fun h11=>?_)
  ·refine J_g 52 [] [(2,iv 3)] [] zB ?_
   exact xJ rfl
  ·refine J_g 14 [] [(2,iv 0)] [] zB ?_
   exact xJ rfl
 ·refine vI (fun h4=>?_) (fun h4=>?_)
  ·refine J_g 12 [] [(18,bv true)] [] (zF 2 (vD [(.tmp 4),(.const (.int .i64 0)),(.const (.int .i64 999))] [2,2,2] (vF.ok a1.A 0 999) h3) (wO 4 [(6,bv (!x2))] [] h4 zB)) ?_
   exact yM (J_j (jv10 true)) rfl
  ·refine zA (fun x5 h6=>?_)
   refine vI (fun h7=>?_) (fun h7=>?_)
   ·refine J_g 12 [] [(18,bv true)] [] (zF 2 (vD [(.tmp 4),(.const (.int .i64 0)),(.const (.int .i64 999))] [2,2,2] (vF.ok a1.A 0 999) h3) (wO 4 [(6,bv (!x2))] [] h4 (zAm 7 4 7 false (vD [(.tmp 9),(.const (.int .i64 0)),(.const (.int .i64 999))] [2,2,2] (vF.ok a1.B 0 999) h6) (wO 10 [(12,bv (!x5))] [] h7 zB)))) ?_
    exact yM (J_j (jv10 true)) rfl
   ·refine zA (fun x8 h9=>?_)
    refine J_g 12 [] [(18,bv (!x8))] [] (zF 2 (vD [(.tmp 4),(.const (.int .i64 0)),(.const (.int .i64 999))] [2,2,2] (vF.ok a1.A 0 999) h3) (wO 4 [(6,bv (!x2))] [] h4 (zAm 7 4 7 false (vD [(.tmp 9),(.const (.int .i64 0)),(.const (.int .i64 999))] [2,2,2] (vF.ok a1.B 0 999) h6) (wO 10 [(12,bv (!x5))] [] h7 (zAm 13 10 13 false (vD [(.tmp 15),(.const (.int .i64 0)),(.const (.int .i64 999))] [2,2,2] (vF.ok a1.C 0 999) h9) zB))))) ?_
    exact yM (J_j (jv10 (!x8))) rfl
noncomputable def c43:Code:=(Tryz.f43.body).getD .skip
theorem kU.ok (a1:(List Int)) (q:Wd) (kn:Unit→Option (D×List Ent)) (hk:∀v:Unit,J (q.g Tryz.prog 43 0 15) c43 (atI c43 7) (St.mk' [] []) (some v) kn):
  ∀s6:Int,J (q.g Tryz.prog 43 0 15) c43 (atI c43 52) (St.mk' [(5,sl 1 zC a1),(6,iv (a1.length:Int)),(7,iv s6)] []) (kU a1 s6) (Fl.go (fun r:Int=>some (iv r,[])) kn):=by
 refine zAq (fun g ih s6=>?_)
 unfold zAG
 refine J_d 104 [] [8] [(8,bv (decide (s6< (a1.length:Int))))] [] [] zB ?_
 refine zG 8 (fun h7=>?_) (fun h7=>?_)
 ·refine zA (fun x8 h9=>?_)
  refine J_g 1688 [] [(4,iv x8),(5,sl 1 zC a1),(6,iv (a1.length:Int)),(7,iv s6)] [] (zF 0 (uN (kk:=.i64) 25 2 1 zC (.tmp 5) (.tmp 7) h9) zB) ?_
  refine J_d 3378 [] [12] [(12,bv (x8 !=0))] [] [] zB ?_
  refine zG 12 (fun h10=>?_) (fun h10=>?_)
  ·refine J_g 13516 [] [(2,iv x8)] [] zB ?_
   exact xJ rfl
  ·refine J_d 423 [] [4,7,12] [(7,iv (w64 (s6+1)))] [] [] zB ?_
   exact J_q (J_b (ih (w64 (s6+1)))) rfl
 ·exact yM (hk ()) rfl
theorem vB.ok (a1:(List Int)):Ok Tryz.prog 43 [sl 1 zC a1] [] ((vB a1).map fun r=>(iv r,[])):=by
 refine zJ c43 Tryz.f43 0 15 (fun q=>?_)
 unfold vB
 refine J_g 2 [] [(0,sl 1 zC a1)] [] zB ?_
 refine J_g 12 [] [(5,sl 1 zC a1),(6,iv (a1.length:Int)),(7,iv 0)] [] zB ?_
 refine jO (K0:=(fun r:Int=>some (iv r,[]))) (fun _=>rfl) (kU.ok a1 q _ (fun v11=>J_j ?_) 0)
 refine J_g 14 [] [(2,iv 0)] [] zB ?_
 exact xJ rfl
noncomputable def c164:Code:=(Tryz.f164.body).getD .skip
theorem zAu.ok (a1:(List Term)):Ok Tryz.prog 164 [sl 7 Term.enc a1] [] ((zAu a1).map fun r=>(bv r,[])):=by
 refine zJ c164 Tryz.f164 0 6 (fun q=>?_)
 unfold zAu
 refine J_g 2 [] [(0,sl 7 Term.enc a1)] [] zB ?_
 refine J_g 6 [] [(2,bv (decide ((a1.length:Int)>4)))] [] zB ?_
 exact xJ rfl
noncomputable def c208:Code:=(Tryz.f208.body).getD .skip
theorem yT.ok (a1:(List (List Term))) (q:Wd) (kn:Unit→Option (D×List Ent)) (hk:∀v:Unit,J (q.g Tryz.prog 208 0 19) c208 (atI c208 7) (St.mk' [] []) (some v) kn):
  ∀s8:Int,J (q.g Tryz.prog 208 0 19) c208 (atI c208 52) (St.mk' [(0,sl 1 (eSl false 7 Term.enc) a1),(1,.fn 164 []),(7,iv (a1.length:Int)),(8,iv s8)] []) (yT a1 s8) (Fl.go (fun r:Int=>some (iv r,[])) kn):=by
 refine zAq (fun g ih s8=>?_)
 unfold yO
 refine J_d 104 [] [9] [(9,bv (decide (s8< (a1.length:Int))))] [] [] zB ?_
 refine zG 9 (fun h9=>?_) (fun h9=>?_)
 ·refine J_d 1688 [] [5,9] [(5,iv s8)] [] [] zB ?_
  refine zA (fun x10 h11=>?_)
  refine zA (fun x12 h13=>?_)
  refine J_d 3378 [] [16] [(16,bv x12)] [] [] (zF 3 (uN (kk:=.i64) 89 80 1 (eSl false 7 Term.enc) (.tmp 12) (.tmp 13) h11) (zF 5 (zOB («as»:=[sl 7 Term.enc x10]) (caps:=[]) 11 [(.tmp 15)] [80] (zAu.ok x10) h13) zB)) ?_
  refine zG 16 (fun h14=>?_) (fun h14=>?_)
  ·refine J_g 13516 [] [(4,iv s8)] [] zB ?_
   exact xJ rfl
  ·refine J_d 423 [] [5,8,16] [(8,iv (w64 (s8+1)))] [] [] zB ?_
   exact J_q (J_b (ih (w64 (s8+1)))) rfl
 ·exact yM (hk ()) rfl
theorem yH.ok (a1:(List (List Term))):Ok Tryz.prog 208 [sl 1 (eSl false 7 Term.enc) a1,.fn 164 []] [] ((yH a1).map fun r=>(iv r,[])):=by
 refine zJ c208 Tryz.f208 0 19 (fun q=>?_)
 unfold yH
 refine J_g 2 [] [(0,sl 1 (eSl false 7 Term.enc) a1),(1,.fn 164 [])] [] zB ?_
 refine J_d 12 [] [7,8] [(7,iv (a1.length:Int)),(8,iv 0)] [] [] zB ?_
 refine jO (K0:=(fun r:Int=>some (iv r,[]))) (fun _=>rfl) (yT.ok a1 q _ (fun v15=>J_j ?_) 0)
 refine J_g 14 [] [(4,iv (-1))] [] zB ?_
 exact xJ rfl
noncomputable def zOR:Code:=(Tryz.f163.body).getD .skip
theorem zS.ok (a1:(List (List Term))):Ok Tryz.prog 163 [sl 1 (eSl false 7 Term.enc) a1,.fn 164 []] [] ((zS a1).map fun r=>(bv r,[])):=by
 refine zJ zOR Tryz.f163 0 9 (fun q=>?_)
 unfold zS
 refine J_d 2 [] [] [] [] [] zB ?_
 refine zA (fun x2 h3=>?_)
 refine J_g 6 [] [(4,bv (decide (x2≥0)))] [] (zF 2 (wW («as»:=[sl 1 (eSl false 7 Term.enc) a1,.fn 164 []]) [(.tmp 5),(.tmp 6)] [89,147] false [] [] (.cons (.same rfl) (.cons (.fn (.nil)) (.nil))) (yH.ok a1) h3 (.same rfl rfl)) zB) ?_
 exact xJ rfl
noncomputable def c69:Code:=(Tryz.f69.body).getD .skip
theorem uU.ok (a1:(List ByteArray)) (a2:ByteArray) (q:Wd) (kn:Unit→Option (D×List Ent)) (hk:∀v:Unit,J (q.g Tryz.prog 69 0 19) c69 (atI c69 7) (St.mk' [] []) (some v) kn):
  ∀s7:Int,J (q.g Tryz.prog 69 0 19) c69 (atI c69 52) (St.mk' [(0,sl 1 eStr a1),(1,sv a2),(7,iv (a1.length:Int)),(8,iv s7)] []) (uU a1 a2 s7) (Fl.go (fun r:Int=>some (iv r,[])) kn):=by
 refine zAq (fun g ih s7=>?_)
 unfold uL
 refine J_d 104 [] [9] [(9,bv (decide (s7< (a1.length:Int))))] [] [] zB ?_
 refine zG 9 (fun h8=>?_) (fun h8=>?_)
 ·refine J_d 1688 [] [5,9] [(5,iv s7)] [] [] zB ?_
  refine zA (fun x9 h10=>?_)
  refine J_d 3378 [] [16] [(16,bv (seq a2 x9))] [] [] (zF 3 (uN (kk:=.i64) 32 9 1 eStr (.tmp 12) (.tmp 13) h10) zB) ?_
  refine zG 16 (fun h11=>?_) (fun h11=>?_)
  ·refine J_g 13516 [] [(4,iv s7)] [] zB ?_
   exact xJ rfl
  ·refine J_d 423 [] [5,8,16] [(8,iv (w64 (s7+1)))] [] [] zB ?_
   exact J_q (J_b (ih (w64 (s7+1)))) rfl
 ·exact yM (hk ()) rfl
theorem tK.ok (a1:(List ByteArray)) (a2:ByteArray):Ok Tryz.prog 69 [sl 1 eStr a1,sv a2] [] ((tK a1 a2).map fun r=>(iv r,[])):=by
 refine zJ c69 Tryz.f69 0 19 (fun q=>?_)
 unfold tK
 refine J_g 2 [] [(0,sl 1 eStr a1),(1,sv a2)] [] zB ?_
 refine J_d 12 [] [7,8] [(7,iv (a1.length:Int)),(8,iv 0)] [] [] zB ?_
 refine jO (K0:=(fun r:Int=>some (iv r,[]))) (fun _=>rfl) (uU.ok a1 a2 q _ (fun v12=>J_j ?_) 0)
 refine J_g 14 [] [(4,iv (-1))] [] zB ?_
 exact xJ rfl
noncomputable def c35:Code:=(Tryz.f35.body).getD .skip
theorem xL.ok (a1:(List ByteArray)) (a2:ByteArray):Ok Tryz.prog 35 [sl 1 eStr a1,sv a2] [] ((xL a1 a2).map fun r=>(bv r,[])):=by
 refine zJ c35 Tryz.f35 0 9 (fun q=>?_)
 unfold xL
 refine J_d 2 [] [] [] [] [] zB ?_
 refine zA (fun x3 h4=>?_)
 refine J_g 6 [] [(4,bv (decide (x3≥0)))] [] (zF 2 (vD [(.tmp 5),(.tmp 6)] [32,9] (tK.ok a1 a2) h4) zB) ?_
 exact xJ rfl
noncomputable def zPe:Code:=(Tryz.f224.body).getD .skip
theorem zES.ok:Ok Tryz.prog 224 [] [] ((zES).map fun r=>(.ag (Version.enc r),[])):=by
 refine zJ zPe Tryz.f224 0 2 (fun q=>?_)
 unfold zES
 refine J_g 2 [(0,0)] [(0,pp 0)] [(0,.box [iv 0,iv 0,iv 0])] zB ?_
 refine J_g 6 [] [(0,pp 0)] [(0,.box [iv 1000,iv 0,iv 0])] zB ?_
 exact xJ rfl
noncomputable def zON:Code:=(Tryz.f216.body).getD .skip
theorem jA.ok (a1:Int):Ok Tryz.prog 216 [iv a1] [] ((jA a1).map fun r=>(bv r,[])):=by
 refine zJ zON Tryz.f216 0 6 (fun q=>?_)
 unfold jA
 refine J_g 2 [] [(0,iv a1)] [] zB ?_
 refine J_g 6 [] [(2,bv (a1 !=a1))] [] zB ?_
 exact xJ rfl
noncomputable def c226:Code:=(Tryz.f226.body).getD .skip
theorem wP.ok (a1:Int) (a2:Int):Ok Tryz.prog 226 [iv a1,iv a2] [] ((wP a1 a2).map fun r=>(iv r,[])):=by
 refine zJ c226 Tryz.f226 0 20 (fun q=>?_)
 unfold wP
 refine J_d 2 [] [] [] [] [] zB ?_
 refine zA (fun x3 h4=>?_)
 refine J_d 6 [] [5] [(5,bv x3)] [] [] (zF 1 (vD [(.tmp 7)] [2] (jA.ok a1) h4) zB) ?_
 refine zA (fun x5 h6=>?_)
 refine J_g 14 [] [(0,iv a1),(1,iv a2),(5,bv x3),(6,bv x5)] [] (zF 1 (vD [(.tmp 9)] [2] (jA.ok a2) h6) zB) ?_
 refine J_d 60 [] [5,11] [(11,bv x3)] [] [] zB ?_
 refine zG 11 (fun h7=>?_) (fun h7=>?_)
 ·refine J_g 488 [] [(12,bv x5)] [] zB ?_
  refine zG 12 (fun h8=>?_) (fun h8=>?_)
  ·refine J_g 1956 [] [(4,iv 0)] [] zB ?_
   exact xJ rfl
  ·refine J_g 490 [] [(4,iv (-1))] [] zB ?_
   exact xJ rfl
 ·refine J_g 124 [] [(0,iv a1),(1,iv a2),(13,bv x5)] [] zB ?_
  refine zG 13 (fun h9=>?_) (fun h9=>?_)
  ·refine J_g 500 [] [(4,iv 1)] [] zB ?_
   exact xJ rfl
  ·refine J_d 252 [] [13,16] [(16,bv (decide (a1<a2)))] [] [] zB ?_
   refine zG 16 (fun h10=>?_) (fun h10=>?_)
   ·refine J_g 1012 [] [(4,iv (-1))] [] zB ?_
    exact xJ rfl
   ·refine J_g 508 [] [(19,bv (decide (a1>a2)))] [] zB ?_
    refine zG 19 (fun h11=>?_) (fun h11=>?_)
    ·refine J_g 2036 [] [(4,iv 1)] [] zB ?_
     exact xJ rfl
    ·refine J_g 510 [] [(4,iv 0)] [] zB ?_
     exact xJ rfl
noncomputable def zN2:Code:=(Tryz.f225.body).getD .skip
theorem zDG.ok (a1:(List Int)) (q:Wd) (kn:Unit→Option (D×List Ent)) (hk:∀v:Unit,J (q.g Tryz.prog 225 0 18) zN2 (atI zN2 15) (St.mk' [(3,iv 0)] []) (some v) kn):
  ∀s6:Int,J (q.g Tryz.prog 225 0 18) zN2 (atI zN2 116) (St.mk' [(3,iv 0),(6,sl 1 zC a1),(7,iv (a1.length:Int)),(8,iv s6)] []) (zDG a1 s6) (Fl.go (fun r:Int=>some (iv r,[])) kn):=by
 refine zAq (fun g ih s6=>?_)
 unfold zCZ
 refine J_d 232 [] [9] [(9,bv (decide (s6< (a1.length:Int))))] [] [] zB ?_
 refine zG 9 (fun h7=>?_) (fun h7=>?_)
 ·refine zA (fun x8 h9=>?_)
  refine J_g 3736 [] [(3,iv 0),(5,iv x8),(6,sl 1 zC a1),(7,iv (a1.length:Int)),(8,iv s6)] [] (zF 0 (uN (kk:=.i64) 218 3 1 zC (.tmp 6) (.tmp 8) h9) zB) ?_
  refine J_d 7474 [] [14] [(14,bv (x8 !=0))] [] [] zB ?_
  refine zG 14 (fun h10=>?_) (fun h10=>?_)
  ·refine J_g 29900 [] [(2,iv x8)] [] zB ?_
   exact xJ rfl
  ·refine J_d 935 [] [5,8,14] [(8,iv (w64 (s6+1)))] [] [] zB ?_
   exact J_q (J_b (ih (w64 (s6+1)))) rfl
 ·exact yM (hk ()) rfl
theorem zEq.ok (a1:(List Int)):Ok Tryz.prog 225 [sl 1 zC a1] [] ((zEq a1).map fun r=>(iv r,[])):=by
 refine zJ zN2 Tryz.f225 0 18 (fun q=>?_)
 unfold zEq
 refine J_g 2 [] [(0,sl 1 zC a1)] [] zB ?_
 refine J_g 6 [] [(0,sl 1 zC a1),(3,iv 0)] [] zB ?_
 refine J_g 28 [] [(3,iv 0),(6,sl 1 zC a1),(7,iv (a1.length:Int)),(8,iv 0)] [] zB ?_
 refine jO (K0:=(fun r:Int=>some (iv r,[]))) (fun _=>rfl) (zDG.ok a1 q _ (fun v11=>J_j ?_) 0)
 refine J_g 30 [] [(2,iv 0)] [] zB ?_
 exact xJ rfl
noncomputable def c210:Code:=(Tryz.f210.body).getD .skip
theorem tL.ok (a1:Version) (a2:Version):Ok Tryz.prog 210 [.ag (Version.enc a1),.ag (Version.enc a2)] [] ((tL a1 a2).map fun r=>(iv r,[])):=by
 refine zJ c210 Tryz.f210 0 22 (fun q=>?_)
 unfold tL
 refine J_g 2 [(0,0),(1,1)] [(2,pp 0),(3,pp 1)] [(0,.box (Version.enc a1)),(1,.box (Version.enc a2))] zB ?_
 refine zA (fun x3 h4=>?_)
 refine zA (fun x5 h6=>?_)
 refine zA (fun x7 h8=>?_)
 refine zA (fun x9 h10=>?_)
 refine J_g 6 [] [(4,iv x9)] [] (zF 4 (vD [(.tmp 6),(.tmp 8)] [2,2] (wP.ok a1.A a2.A) h4) (zF 9 (vD [(.tmp 11),(.tmp 13)] [2,2] (wP.ok a1.B a2.B) h6) (zF 14 (vD [(.tmp 16),(.tmp 18)] [2,2] (wP.ok a1.C a2.C) h8) (zF 15 (zAZ 218 3 1 2 zC [x3,x5,x7] [0,1,2] [(.tmp 9),(.tmp 14),(.tmp 19)] [iv x3,iv x5,iv x7]) (zF 16 (wW («as»:=[rr 2 [x3,x5,x7]]) [(.tmp 20)] [218] true [(2,rE 1 zC [x3,x5,x7])] [] (.cons (zD1 (.head _) (fun _=>rfl) rfl) (.nil)) (zEq.ok [x3,x5,x7]) h10 (.same rfl rfl) (hbor:=fun _=>⟨fhN,yP⟩)) zB))))) ?_
 exact xJ rfl
noncomputable def zOG:Code:=(Tryz.f209.body).getD .skip
theorem zAU.ok (a1:Term):Ok Tryz.prog 209 [.ag (Term.enc a1)] [] ((zAU a1).map fun r=>(iv r,[])):=by
 refine zJ zOG Tryz.f209 0 35 (fun q=>?_)
 unfold zAU
 refine J_g 2 [(0,0)] [(1,pp 0)] [(0,.box (Term.enc a1))] zB ?_
 refine zA (fun x2 h3=>?_)
 refine J_g 12 [] [(1,pp 0),(3,iv x2)] [(0,.box (Term.enc a1))] (zF 2 (vD [(.tmp 6)] [9] (uE.ok a1.Name) h3) zB) ?_
 refine J_d 26 [] [9] [(9,bv (x2 !=0))] [] [] zB ?_
 refine zG 9 (fun h4=>?_) (fun h4=>?_)
 ·refine J_g 108 [] [(2,iv x2)] [] zB ?_
  exact xJ rfl
 ·refine zA (fun x5 h6=>?_)
  refine J_g 28 [] [(1,pp 0),(4,iv x5)] [(0,.box (Term.enc a1))] (zF 2 (vD [(.tmp 12)] [88] (wS.ok a1.Low) h6) zB) ?_
  refine J_d 58 [] [15] [(15,bv (x5 !=0))] [] [] zB ?_
  refine zG 15 (fun h7=>?_) (fun h7=>?_)
  ·refine J_g 236 [] [(2,iv x5)] [] zB ?_
   exact xJ rfl
  ·refine zA (fun x8 h9=>?_)
   refine xR (atI zOG 121) (fun v13:Bool=>St.mk' [(1,pp 0),(17,bv v13)] [(0,.box (Term.enc a1))]) (fun v13=>?_) (fun jv13=>?_)
   ·refine zG 17 (fun h14=>?_) (fun h14=>?_)
    ·refine J_g 484 [] [(2,iv 3)] [] zB ?_
     exact xJ rfl
    ·refine zA (fun x15 h16=>?_)
     refine J_g 486 [] [(28,bv (decide (x15≥0)))] [] (zF 4 (vD [(.tmp 30),(.tmp 32)] [88,88] (tL.ok a1.Low a1.High) h16) zB) ?_
     refine zG 28 (fun h17=>?_) (fun h17=>?_)
     ·refine J_g 1948 [] [(2,iv 1)] [] zB ?_
      exact xJ rfl
     ·refine J_g 62 [] [(2,iv 0)] [] zB ?_
      exact xJ rfl
   ·refine vI (fun h10=>?_) (fun h10=>?_)
    ·refine zA (fun x11 h12=>?_)
     refine J_d 120 [] [4,15,17] [(17,bv (x11 !=0))] [] [] (zF 2 (vD [] [] (zES.ok) h9) (zF 3 (zLb (b:=.neq) (r:=(a1.High.A==x8.A&&(a1.High.B==x8.B&&(a1.High.C==x8.C&&true)))) 88 88 (.tmp 19) (.tmp 20) [.int .i64 a1.High.A,.int .i64 a1.High.B,.int .i64 a1.High.C] [.int .i64 x8.A,.int .i64 x8.B,.int .i64 x8.C] (.inr ⟨rfl,rfl⟩)) (wO 4 [(21,bv (!(a1.High.A==x8.A&&(a1.High.B==x8.B&&(a1.High.C==x8.C&&true)))))] [] h10 (zAm 7 4 22 true (vD [(.tmp 24)] [88] (wS.ok a1.High) h12) zB)))) ?_
     exact yM (J_j (jv13 (x11 !=0))) rfl
    ·refine J_d 120 [] [4,15,17] [(17,bv false)] [] [] (zF 2 (vD [] [] (zES.ok) h9) (zF 3 (zLb (b:=.neq) (r:=(a1.High.A==x8.A&&(a1.High.B==x8.B&&(a1.High.C==x8.C&&true)))) 88 88 (.tmp 19) (.tmp 20) [.int .i64 a1.High.A,.int .i64 a1.High.B,.int .i64 a1.High.C] [.int .i64 x8.A,.int .i64 x8.B,.int .i64 x8.C] (.inr ⟨rfl,rfl⟩)) (wO 4 [(21,bv (!(a1.High.A==x8.A&&(a1.High.B==x8.B&&(a1.High.C==x8.C&&true)))))] [] h10 zB))) ?_
     exact yM (J_j (jv13 false)) rfl
noncomputable def zOf:Code:=(Tryz.f165.body).getD .skip
theorem zAI.ok (a1:(List Term)) (q:Wd) (kn:Unit→Option (D×List Ent)) (hk:∀v:Unit,J (q.g Tryz.prog 165 0 18) zOf (atI zOf 7) (St.mk' [] []) (some v) kn):
  ∀s8:Int,J (q.g Tryz.prog 165 0 18) zOf (atI zOf 52) (St.mk' [(6,sl 7 Term.enc a1),(7,iv (a1.length:Int)),(8,iv s8)] []) (zAI a1 s8) (Fl.go (fun r:Int=>some (iv r,[])) kn):=by
 refine zAq (fun g ih s8=>?_)
 unfold zAc
 refine J_d 104 [] [9] [(9,bv (decide (s8< (a1.length:Int))))] [] [] zB ?_
 refine zG 9 (fun h9=>?_) (fun h9=>?_)
 ·refine zA (fun x10 h11=>?_)
  refine J_d 1688 [(2,0)] [4,9] [(4,pp 0)] [0] [(0,.box (Term.enc x10))] (zF 0 (uN (kk:=.i64) 80 104 7 Term.enc (.tmp 6) (.tmp 8) h11) zB) ?_
  refine zA (fun x12 h13=>?_)
  refine J_g 3378 [] [(5,iv x12),(6,sl 7 Term.enc a1),(7,iv (a1.length:Int)),(8,iv s8)] [] (zF 1 (vD [(.tmp 12)] [104] (zAU.ok x10) h13) zB) ?_
  refine J_d 6758 [] [15] [(15,bv (x12 !=0))] [] [] zB ?_
  refine zG 15 (fun h14=>?_) (fun h14=>?_)
  ·refine J_g 27036 [] [(2,iv x12)] [] zB ?_
   exact xJ rfl
  ·refine J_d 423 [] [5,8,15] [(8,iv (w64 (s8+1)))] [] [] zB ?_
   exact J_q (J_b (ih (w64 (s8+1)))) rfl
 ·exact yM (hk ()) rfl
theorem vZ.ok (a1:(List Term)):Ok Tryz.prog 165 [sl 7 Term.enc a1] [] ((vZ a1).map fun r=>(iv r,[])):=by
 refine zJ zOf Tryz.f165 0 18 (fun q=>?_)
 unfold vZ
 refine J_g 2 [] [(0,sl 7 Term.enc a1)] [] zB ?_
 refine J_g 12 [] [(6,sl 7 Term.enc a1),(7,iv (a1.length:Int)),(8,iv 0)] [] zB ?_
 refine jO (K0:=(fun r:Int=>some (iv r,[]))) (fun _=>rfl) (zAI.ok a1 q _ (fun v15=>J_j ?_) 0)
 refine J_g 14 [] [(2,iv 0)] [] zB ?_
 exact xJ rfl
noncomputable def c127:Code:=(Tryz.f127.body).getD .skip
theorem kW.ok (a1:Pack) (q:Wd) (kn:Unit→Option (D×List Ent)) (hk:∀v:Unit,J (q.g Tryz.prog 127 0 93) c127 (atI c127 63) (St.mk' [(1,pp 0)] [(0,.box (Pack.enc false a1))]) (some v) kn):
  ∀s54:Int,J (q.g Tryz.prog 127 0 93) c127 (atI c127 500) (St.mk' [(1,pp 0),(75,sl 1 (eSl false 7 Term.enc) a1.Needs),(76,iv (a1.Needs.length:Int)),(77,iv s54)] [(0,.box (Pack.enc false a1))]) (kW a1 s54) (Fl.go (fun r:Int=>some (iv r,[])) kn):=by
 refine zAq (fun g ih s54=>?_)
 unfold zAJ
 refine J_d 1000 [] [78] [(78,bv (decide (s54< (a1.Needs.length:Int))))] [] [] zB ?_
 refine zG 78 (fun h55=>?_) (fun h55=>?_)
 ·refine zA (fun x56 h57=>?_)
  refine J_g 16024 [] [(1,pp 0),(8,sl 7 Term.enc x56),(75,sl 1 (eSl false 7 Term.enc) a1.Needs),(76,iv (a1.Needs.length:Int)),(77,iv s54)] [(0,.box (Pack.enc false a1))] (zF 0 (uN (kk:=.i64) 89 80 1 (eSl false 7 Term.enc) (.tmp 75) (.tmp 77) h57) zB) ?_
  refine J_d 64100 [] [83] [(83,bv ((x56.length:Int)==0))] [] [] zB ?_
  refine zG 83 (fun h58=>?_) (fun h58=>?_)
  ·refine J_g 256404 [] [(2,iv 1)] [] zB ?_
   exact xJ rfl
  ·refine zA (fun x59 h60=>?_)
   refine J_g 64102 [] [(1,pp 0),(9,iv x59),(75,sl 1 (eSl false 7 Term.enc) a1.Needs),(76,iv (a1.Needs.length:Int)),(77,iv s54)] [(0,.box (Pack.enc false a1))] (zF 1 (vD [(.tmp 84)] [80] (vZ.ok x56) h60) zB) ?_
   refine J_d 128206 [] [87] [(87,bv (x59 !=0))] [] [] zB ?_
   refine zG 87 (fun h61=>?_) (fun h61=>?_)
   ·refine J_g 512828 [] [(2,iv x59)] [] zB ?_
    exact xJ rfl
   ·refine J_d 4007 [] [9,77,87] [(77,iv (w64 (s54+1)))] [] [] zB ?_
    exact J_q (J_b (ih (w64 (s54+1)))) rfl
 ·exact yM (hk ()) rfl
theorem kS.ok (a1:Pack) (q:Wd) (kn:Unit→Option (D×List Ent)) (hk:∀v:Unit,J (q.g Tryz.prog 127 0 93) c127 (atI c127 31) (St.mk' [(1,pp 0)] [(0,.box (Pack.enc false a1))]) (some v) kn):
  ∀s32:Int,J (q.g Tryz.prog 127 0 93) c127 (atI c127 244) (St.mk' [(1,pp 0),(49,sl 1 eStr a1.Provides),(50,iv (a1.Provides.length:Int)),(51,iv s32)] [(0,.box (Pack.enc false a1))]) (kS a1 s32) (Fl.go (fun r:Int=>some (iv r,[])) kn):=by
 refine zAq (fun g ih s32=>?_)
 unfold zAF
 refine J_d 488 [] [52] [(52,bv (decide (s32< (a1.Provides.length:Int))))] [] [] zB ?_
 refine zG 52 (fun h33=>?_) (fun h33=>?_)
 ·refine zA (fun x34 h35=>?_)
  refine J_d 7832 [] [4,5,52] [(4,iv s32),(5,sv x34)] [] [] (zF 1 (uN (kk:=.i64) 32 9 1 eStr (.tmp 49) (.tmp 51) h35) zB) ?_
  refine zA (fun x36 h37=>?_)
  refine J_g 31332 [] [(1,pp 0),(4,iv s32),(5,sv x34),(6,iv x36),(49,sl 1 eStr a1.Provides),(50,iv (a1.Provides.length:Int)),(51,iv s32)] [(0,.box (Pack.enc false a1))] (zF 1 (vD [(.tmp 56)] [9] (uE.ok x34) h37) zB) ?_
  refine J_d 62666 [] [59] [(59,bv (x36 !=0))] [] [] zB ?_
  refine zG 59 (fun h38=>?_) (fun h38=>?_)
  ·refine J_g 250668 [] [(2,iv x36)] [] zB ?_
   exact xJ rfl
  ·refine xR (atI c127 31335) (fun v44:Bool=>St.mk' [(1,pp 0),(49,sl 1 eStr a1.Provides),(50,iv (a1.Provides.length:Int)),(51,iv s32),(72,bv v44)] [(0,.box (Pack.enc false a1))]) (fun v44=>?_) (fun jv44=>?_)
   ·refine zG 72 (fun h45=>?_) (fun h45=>?_)
    ·refine J_g 125340 [] [(2,iv 6)] [] zB ?_
     exact xJ rfl
    ·refine J_d 1959 [] [51,72] [(51,iv (w64 (s32+1)))] [] [] zB ?_
     exact J_q (J_b (ih (w64 (s32+1)))) rfl
   ·refine vI (fun h39=>?_) (fun h39=>?_)
    ·refine J_d 31334 [] [4,5,6,59,72] [(72,bv true)] [] [] (wO 4 [(64,bv (seq x34 a1.Name))] [] h39 zB) ?_
     exact yM (J_j (jv44 true)) rfl
    ·refine zA (fun x40 h41=>?_)
     refine zA (fun x42 h43=>?_)
     refine J_d 31334 [] [4,5,6,59,72] [(72,bv x42)] [] [] (wO 4 [(64,bv (seq x34 a1.Name))] [] h39 (zAm 8 4 65 false (zMy 32 9 1 eStr (.tmp 67) none (some (.tmp 68)) h41) (zAm 10 4 65 false (vD [(.tmp 69),(.tmp 70)] [32,9] (xL.ok x40 x34) h43) zB))) ?_
     exact yM (J_j (jv44 x42)) rfl
 ·exact yM (hk ()) rfl
theorem zAV.ok (a1:Pack):Ok Tryz.prog 127 [.ag (Pack.enc false a1)] [] ((zAV a1).map fun r=>(iv r,[])):=by
 refine zJ c127 Tryz.f127 0 93 (fun q=>?_)
 unfold zAV
 refine J_g 2 [(0,0)] [(1,pp 0)] [(0,.box (Pack.enc false a1))] zB ?_
 refine zA (fun x2 h3=>?_)
 refine zA (fun x4 h5=>?_)
 refine zA (fun x6 h7=>?_)
 refine J_g 12 [] [(1,pp 0),(3,iv x6)] [(0,.box (Pack.enc false a1))] (zF 2 (vD [(.tmp 11)] [9] (uE.ok a1.Name) h3) (zF 5 (vD [(.tmp 14)] [88] (wS.ok a1.Version) h5) (zF 6 (zAZ 25 2 1 1 zC [x2,x4] [0,1] [(.tmp 12),(.tmp 15)] [iv x2,iv x4]) (zF 7 (wW («as»:=[rr 1 [x2,x4]]) [(.tmp 16)] [25] true [(1,rE 1 zC [x2,x4])] [] (.cons (zD1 (.head _) (fun _=>rfl) rfl) (.nil)) (vB.ok [x2,x4]) h7 (.same rfl rfl) (hbor:=fun _=>⟨fhN,yP⟩)) zB)))) ?_
 refine J_d 26 [] [19] [(19,bv (x6 !=0))] [] [] zB ?_
 refine zG 19 (fun h8=>?_) (fun h8=>?_)
 ·refine J_g 108 [] [(2,iv x6)] [] zB ?_
  exact xJ rfl
 ·refine zA (fun x9 h10=>?_)
  refine J_d 56 [] [3,19,21] [(21,bv (!x9))] [] [] (zF 2 (vD [(.tmp 23),(.const (.int .i64 1)),(.const (.int .i64 200))] [2,2,2] (vF.ok a1.Size 1 200) h10) zB) ?_
  refine zG 21 (fun h11=>?_) (fun h11=>?_)
  ·refine J_g 228 [] [(2,iv 3)] [] zB ?_
   exact xJ rfl
  ·refine xR (atI c127 231) (fun v17:Bool=>St.mk' [(1,pp 0),(26,bv v17)] [(0,.box (Pack.enc false a1))]) (fun v17=>?_) (fun jv17=>?_)
   ·refine zG 26 (fun h18=>?_) (fun h18=>?_)
    ·refine J_g 924 [] [(2,iv 2)] [] zB ?_
     exact xJ rfl
    ·refine J_d 60 [] [26,49,50,51] [(49,sl 1 eStr a1.Provides),(50,iv (a1.Provides.length:Int)),(51,iv 0)] [] [] zB ?_
     refine jO (K0:=(fun r:Int=>some (iv r,[]))) (fun _=>rfl) (kS.ok a1 q _ (fun v46=>J_j ?_) 0)
     refine J_d 124 [] [75,76,77] [(75,sl 1 (eSl false 7 Term.enc) a1.Needs),(76,iv (a1.Needs.length:Int)),(77,iv 0)] [] [] zB ?_
     refine jO (K0:=(fun r:Int=>some (iv r,[]))) (fun _=>rfl) (kW.ok a1 q _ (fun v62=>J_j ?_) 0)
     refine zA (fun x63 h64=>?_)
     refine J_g 126 [] [(2,iv x63)] [] (zF 2 (vD [(.tmp 91)] [80] (vZ.ok a1.Bars) h64) zB) ?_
     exact xJ rfl
   ·refine vI (fun h12=>?_) (fun h12=>?_)
    ·refine J_d 230 [] [21,26] [(26,bv true)] [] [] (wO 4 [(30,bv (decide ((a1.Provides.length:Int)>4)))] [] h12 zB) ?_
     exact yM (J_j (jv17 true)) rfl
    ·refine vI (fun h13=>?_) (fun h13=>?_)
     ·refine J_d 230 [] [21,26] [(26,bv true)] [] [] (wO 4 [(30,bv (decide ((a1.Provides.length:Int)>4)))] [] h12 (wO 10 [(36,bv (decide ((a1.Needs.length:Int)>4)))] [] h13 zB)) ?_
      exact yM (J_j (jv17 true)) rfl
     ·refine vI (fun h14=>?_) (fun h14=>?_)
      ·refine J_d 230 [] [21,26] [(26,bv true)] [] [] (wO 4 [(30,bv (decide ((a1.Provides.length:Int)>4)))] [] h12 (wO 10 [(36,bv (decide ((a1.Needs.length:Int)>4)))] [] h13 (wO 16 [(42,bv (decide ((a1.Bars.length:Int)>4)))] [] h14 zB))) ?_
       exact yM (J_j (jv17 true)) rfl
      ·refine zA (fun x15 h16=>?_)
       refine J_d 230 [] [21,26] [(26,bv x15)] [] [] (wO 4 [(30,bv (decide ((a1.Provides.length:Int)>4)))] [] h12 (wO 10 [(36,bv (decide ((a1.Needs.length:Int)>4)))] [] h13 (wO 16 [(42,bv (decide ((a1.Bars.length:Int)>4)))] [] h14 (zAm 19 16 43 false (wW («as»:=[sl 1 (eSl false 7 Term.enc) a1.Needs,.fn 164 []]) [(.tmp 45),(.func 164)] [89,147] false [] [] (.cons (.same rfl) (.cons (.fn (.nil)) (.nil))) (zS.ok a1.Needs) h16 (.same rfl rfl)) zB)))) ?_
       exact yM (J_j (jv17 x15)) rfl
noncomputable def zPl:Code:=(Tryz.f166.body).getD .skip
theorem zDP.ok (a1:Pack) (a2:ByteArray) (a3:Version):Ok Tryz.prog 166 [.ag (Pack.enc false a1),pp 0,pp 1] [.box [sv a2],.box (Version.enc a3)] ((zDP a1 a2 a3).map fun r=>(bv r,[.box [sv a2],.box (Version.enc a3)])):=by
 refine zJ zPl Tryz.f166 2 15 (fun q=>?_)
 unfold zDP
 refine J_d 2 [(0,2)] [0,3] [(3,pp 2)] [2] [(2,.box (Pack.enc false a1))] zB ?_
 refine vI (fun h4=>?_) (fun h4=>?_)
 ·refine J_d 6 [] [1,2,3,4] [(4,bv (a1.Version.A==a3.A&&(a1.Version.B==a3.B&&(a1.Version.C==a3.C&&true))))] [2] [] (wO 4 [(8,bv (seq a1.Name a2))] [] h4 (zAm 8 4 9 true (zLb (b:=.eql) (r:=(a1.Version.A==a3.A&&(a1.Version.B==a3.B&&(a1.Version.C==a3.C&&true)))) 88 88 (.tmp 11) (.tmp 12) [.int .i64 a1.Version.A,.int .i64 a1.Version.B,.int .i64 a1.Version.C] [.int .i64 a3.A,.int .i64 a3.B,.int .i64 a3.C] (.inl ⟨rfl,rfl⟩)) zB)) ?_
  exact xJ rfl
 ·refine J_d 6 [] [1,2,3,4] [(4,bv false)] [2] [] (wO 4 [(8,bv (seq a1.Name a2))] [] h4 zB) ?_
  exact xJ rfl
noncomputable def zNz:Code:=(Tryz.f121.body).getD .skip
theorem xU.ok (a1:(List Pack)) (a2:ByteArray) (a3:Version) (q:Wd) (kn:Unit→Option (D×List Ent)) (hk:∀v:Unit,J (q.g Tryz.prog 121 2 19) zNz (atI zNz 7) (St.mk' [] [(0,.box [sv a2]),(1,.box (Version.enc a3))]) (some v) kn):
  ∀s10:Int,J (q.g Tryz.prog 121 2 19) zNz (atI zNz 52) (St.mk' [(0,sl 8 (Pack.enc false) a1),(1,.fn 166 [pp 0,pp 1]),(7,iv (a1.length:Int)),(8,iv s10)] [(0,.box [sv a2]),(1,.box (Version.enc a3))]) (xU a1 a2 a3 s10) (Fl.go (fun r:Int=>some (iv r,[.box [sv a2],.box (Version.enc a3)])) kn):=by
 refine zAq (fun g ih s10=>?_)
 unfold xQ
 refine J_d 104 [] [9] [(9,bv (decide (s10< (a1.length:Int))))] [] [] zB ?_
 refine zG 9 (fun h11=>?_) (fun h11=>?_)
 ·refine J_d 1688 [] [5,9] [(5,iv s10)] [] [] zB ?_
  refine zA (fun x12 h13=>?_)
  refine zA (fun x14 h15=>?_)
  refine J_d 3378 [] [16] [(16,bv x14)] [] [] (zF 3 (uN (kk:=.i64) 24 91 8 (Pack.enc false) (.tmp 12) (.tmp 13) h13) (zF 5 (zFF [(0,.box [sv a2]),(1,.box (Version.enc a3))] [] (zFP 11 [(.tmp 15)] [91] false [(0,.box [sv a2]),(1,.box (Version.enc a3))] [0,1] [.ag (Pack.enc false x12)] [pp 0,pp 1] (.cons (.same rfl) (.cons (.pt rfl) (.cons (.pt rfl) (.nil)))) (zDP.ok x12 a2 a3) h15 (.same rfl rfl))) zB)) ?_
  refine zG 16 (fun h16=>?_) (fun h16=>?_)
  ·refine J_d 13516 [] [0,1,4,5,7,8,16] [(4,iv s10)] [] [] zB ?_
   exact xJ rfl
  ·refine J_d 423 [] [5,8,16] [(8,iv (w64 (s10+1)))] [] [] zB ?_
   exact J_q (J_b (ih (w64 (s10+1)))) rfl
 ·exact yM (hk ()) rfl
theorem xE.ok (a1:(List Pack)) (a2:ByteArray) (a3:Version):Ok Tryz.prog 121 [sl 8 (Pack.enc false) a1,.fn 166 [pp 0,pp 1]] [.box [sv a2],.box (Version.enc a3)] ((xE a1 a2 a3).map fun r=>(iv r,[.box [sv a2],.box (Version.enc a3)])):=by
 refine zJ zNz Tryz.f121 2 19 (fun q=>?_)
 unfold xE
 refine J_g 2 [] [(0,sl 8 (Pack.enc false) a1),(1,.fn 166 [pp 0,pp 1])] [(0,.box [sv a2]),(1,.box (Version.enc a3))] zB ?_
 refine J_d 12 [] [7,8] [(7,iv (a1.length:Int)),(8,iv 0)] [] [] zB ?_
 refine jO (K0:=(fun r:Int=>some (iv r,[.box [sv a2],.box (Version.enc a3)]))) (fun _=>rfl) (xU.ok a1 a2 a3 q _ (fun v17=>J_j ?_) 0)
 refine J_d 14 [] [4] [(4,iv (-1))] [] [] zB ?_
 exact xJ rfl
noncomputable def zOY:Code:=(Tryz.f128.body).getD .skip
theorem zDZ.ok (a1:(List Pack)) (a2:ByteArray) (a3:Version):Ok Tryz.prog 128 [sl 8 (Pack.enc false) a1,sv a2,.ag (Version.enc a3)] [] ((zDZ a1 a2 a3).map fun r=>(iv r,[])):=by
 refine zJ zOY Tryz.f128 0 10 (fun q=>?_)
 unfold zDZ
 refine J_d 2 [(0,0),(1,1)] [1,2,4,5] [(4,pp 0),(5,pp 1)] [0,1] [(0,.box [sv a2]),(1,.box (Version.enc a3))] zB ?_
 refine zA (fun x4 h5=>?_)
 refine J_g 6 [] [(6,iv x4)] [] (zF 2 (zFF [(0,.box [sv a2]),(1,.box (Version.enc a3))] [] (wW («as»:=[sl 8 (Pack.enc false) a1,.fn 166 [pp 0,pp 1]]) [(.tmp 7),(.tmp 8)] [24,100] false [(0,.box [sv a2]),(1,.box (Version.enc a3))] [0,1] (.cons (.same rfl) (.cons (.fn (.cons (.pt rfl) (.cons (.pt rfl) (.nil)))) (.nil))) (xE.ok a1 a2 a3) h5 (.same rfl rfl))) zB) ?_
 exact xJ rfl
noncomputable def c84:Code:=(Tryz.f84.body).getD .skip
theorem jW.ok (a1:(List Pack)) (q:Wd) (kn:Unit→Option (D×List Ent)) (hk:∀v:Unit,J (q.g Tryz.prog 84 0 31) c84 (atI c84 15) (St.mk' [] []) (some v) kn):
  ∀s14:Int,J (q.g Tryz.prog 84 0 31) c84 (atI c84 116) (St.mk' [(0,sl 8 (Pack.enc false) a1),(9,sl 8 (Pack.enc false) a1),(10,iv (a1.length:Int)),(11,iv s14)] []) (jW a1 s14) (Fl.go (fun r:Int=>some (iv r,[])) kn):=by
 refine zAq (fun g ih s14=>?_)
 unfold jH
 refine J_d 232 [] [12] [(12,bv (decide (s14< (a1.length:Int))))] [] [] zB ?_
 refine zG 12 (fun h15=>?_) (fun h15=>?_)
 ·refine zA (fun x16 h17=>?_)
  refine J_d 3736 [(3,0)] [3,4,12] [(3,iv s14),(4,pp 0)] [0] [(0,.box (Pack.enc false x16))] (zF 1 (uN (kk:=.i64) 24 91 8 (Pack.enc false) (.tmp 9) (.tmp 11) h17) zB) ?_
  refine zA (fun x18 h19=>?_)
  refine J_g 14948 [] [(0,sl 8 (Pack.enc false) a1),(3,iv s14),(4,pp 0),(5,iv x18),(9,sl 8 (Pack.enc false) a1),(10,iv (a1.length:Int)),(11,iv s14)] [(0,.box (Pack.enc false x16))] (zF 1 (vD [(.tmp 16)] [91] (zAV.ok x16) h19) zB) ?_
  refine J_d 29898 [] [19] [(19,bv (x18 !=0))] [] [] zB ?_
  refine zG 19 (fun h20=>?_) (fun h20=>?_)
  ·refine J_g 119596 [] [(2,iv x18)] [] zB ?_
   exact xJ rfl
  ·refine zA (fun x21 h22=>?_)
   refine zA (fun x23 h24=>?_)
   refine J_d 14950 [] [3,4,5,19,29] [(29,bv (decide (x23≥0)))] [0] [] (zF 2 (zMy 24 91 8 (Pack.enc false) (.tmp 21) none (some (.tmp 22)) h22) (zF 7 (vD [(.tmp 23),(.tmp 25),(.tmp 27)] [24,9,88] (zDZ.ok x21 x16.Name x16.Version) h24) zB)) ?_
   refine zG 29 (fun h25=>?_) (fun h25=>?_)
   ·refine J_g 59804 [] [(2,iv 6)] [] zB ?_
    exact xJ rfl
   ·refine J_d 935 [] [11,29] [(11,iv (w64 (s14+1)))] [] [] zB ?_
    exact J_q (J_b (ih (w64 (s14+1)))) rfl
 ·exact yM (hk ()) rfl
theorem tQ.ok (a1:(List Pack)):Ok Tryz.prog 84 [sl 8 (Pack.enc false) a1] [] ((tQ a1).map fun r=>(iv r,[])):=by
 refine zJ c84 Tryz.f84 0 31 (fun q=>?_)
 unfold tQ
 refine J_g 2 [] [(0,sl 8 (Pack.enc false) a1)] [] zB ?_
 refine J_d 12 [] [8] [(8,bv (decide ((a1.length:Int)>24)))] [] [] zB ?_
 refine zG 8 (fun h2=>?_) (fun h2=>?_)
 ·refine J_g 52 [] [(2,iv 2)] [] zB ?_
  exact xJ rfl
 ·refine J_d 28 [] [8,9,10,11] [(9,sl 8 (Pack.enc false) a1),(10,iv (a1.length:Int)),(11,iv 0)] [] [] zB ?_
  refine jO (K0:=(fun r:Int=>some (iv r,[]))) (fun _=>rfl) (jW.ok a1 q _ (fun v26=>J_j ?_) 0)
  refine J_g 30 [] [(2,iv 0)] [] zB ?_
  exact xJ rfl
noncomputable def c130:Code:=(Tryz.f130.body).getD .skip
theorem zAv.ok (a1:Int) (a2:(List Pack)):Ok Tryz.prog 130 [iv a1,pp 0] [.box [sl 8 (Pack.enc false) a2]] ((zAv a1 a2).map fun r=>(bv r,[.box [sl 8 (Pack.enc false) a2]])):=by
 refine zJ c130 Tryz.f130 1 10 (fun q=>?_)
 unfold zAv
 refine J_d 2 [] [] [] [] [] zB ?_
 refine zA (fun x3 h4=>?_)
 refine J_d 6 [] [0,1,3] [(3,bv (!x3))] [] [] (zF 4 (vD [(.tmp 4),(.const (.int .i64 0)),(.tmp 7)] [2,2,2] (vF.ok a1 0 (w64 ((a2.length:Int)-1))) h4) zB) ?_
 exact xJ rfl
noncomputable def c167:Code:=(Tryz.f167.body).getD .skip
theorem xK.ok (a1:(List Int)) (a2:(List Pack)) (q:Wd) (kn:Unit→Option (D×List Ent)) (hk:∀v:Unit,J (q.g Tryz.prog 167 1 19) c167 (atI c167 7) (St.mk' [] [(0,.box [sl 8 (Pack.enc false) a2])]) (some v) kn):
  ∀s9:Int,J (q.g Tryz.prog 167 1 19) c167 (atI c167 52) (St.mk' [(0,sl 1 zC a1),(1,.fn 130 [pp 0]),(7,iv (a1.length:Int)),(8,iv s9)] [(0,.box [sl 8 (Pack.enc false) a2])]) (xK a1 a2 s9) (Fl.go (fun r:Int=>some (iv r,[.box [sl 8 (Pack.enc false) a2]])) kn):=by
 refine zAq (fun g ih s9=>?_)
 unfold xD
 refine J_d 104 [] [9] [(9,bv (decide (s9< (a1.length:Int))))] [] [] zB ?_
 refine zG 9 (fun h10=>?_) (fun h10=>?_)
 ·refine J_d 1688 [] [5,9] [(5,iv s9)] [] [] zB ?_
  refine zA (fun x11 h12=>?_)
  refine zA (fun x13 h14=>?_)
  refine J_d 3378 [] [16] [(16,bv x13)] [] [] (zF 3 (uN (kk:=.i64) 25 2 1 zC (.tmp 12) (.tmp 13) h12) (zF 5 (zFF [(0,.box [sl 8 (Pack.enc false) a2])] [] (zFP 11 [(.tmp 15)] [2] false [(0,.box [sl 8 (Pack.enc false) a2])] [0] [iv x11] [pp 0] (.cons (.same rfl) (.cons (.pt rfl) (.nil))) (zAv.ok x11 a2) h14 (.same rfl rfl))) zB)) ?_
  refine zG 16 (fun h15=>?_) (fun h15=>?_)
  ·refine J_g 13516 [] [(4,iv s9)] [(0,.box [sl 8 (Pack.enc false) a2])] zB ?_
   exact xJ rfl
  ·refine J_d 423 [] [5,8,16] [(8,iv (w64 (s9+1)))] [] [] zB ?_
   exact J_q (J_b (ih (w64 (s9+1)))) rfl
 ·exact yM (hk ()) rfl
theorem yV.ok (a1:(List Int)) (a2:(List Pack)):Ok Tryz.prog 167 [sl 1 zC a1,.fn 130 [pp 0]] [.box [sl 8 (Pack.enc false) a2]] ((yV a1 a2).map fun r=>(iv r,[.box [sl 8 (Pack.enc false) a2]])):=by
 refine zJ c167 Tryz.f167 1 19 (fun q=>?_)
 unfold yV
 refine J_g 2 [] [(0,sl 1 zC a1),(1,.fn 130 [pp 0])] [(0,.box [sl 8 (Pack.enc false) a2])] zB ?_
 refine J_d 12 [] [7,8] [(7,iv (a1.length:Int)),(8,iv 0)] [] [] zB ?_
 refine jO (K0:=(fun r:Int=>some (iv r,[.box [sl 8 (Pack.enc false) a2]]))) (fun _=>rfl) (xK.ok a1 a2 q _ (fun v16=>J_j ?_) 0)
 refine J_d 14 [] [4] [(4,iv (-1))] [] [] zB ?_
 exact xJ rfl
noncomputable def zO0:Code:=(Tryz.f129.body).getD .skip
theorem yJ.ok (a1:(List Int)) (a2:(List Pack)):Ok Tryz.prog 129 [sl 1 zC a1,.fn 130 [pp 0]] [.box [sl 8 (Pack.enc false) a2]] ((yJ a1 a2).map fun r=>(bv r,[.box [sl 8 (Pack.enc false) a2]])):=by
 refine zJ zO0 Tryz.f129 1 9 (fun q=>?_)
 unfold yJ
 refine J_d 2 [] [] [] [] [] zB ?_
 refine zA (fun x3 h4=>?_)
 refine J_d 6 [] [0,1,4] [(4,bv (decide (x3≥0)))] [] [] (zF 2 (zFF [(0,.box [sl 8 (Pack.enc false) a2])] [] (wW («as»:=[sl 1 zC a1,.fn 130 [pp 0]]) [(.tmp 5),(.tmp 6)] [25,110] false [(0,.box [sl 8 (Pack.enc false) a2])] [0] (.cons (.same rfl) (.cons (.fn (.cons (.pt rfl) (.nil))) (.nil))) (yV.ok a1 a2) h4 (.same rfl rfl))) zB) ?_
 exact xJ rfl
noncomputable def c85:Code:=(Tryz.f85.body).getD .skip
theorem zAW.ok (a1:(List Pack)) (a2:(List Int)):Ok Tryz.prog 85 [sl 8 (Pack.enc false) a1,sl 1 zC a2] [] ((zAW a1 a2).map fun r=>(bv r,[])):=by
 refine zJ c85 Tryz.f85 0 9 (fun q=>?_)
 unfold zAW
 refine J_g 2 [(0,0)] [(1,sl 1 zC a2),(2,pp 0)] [(0,.box [sl 8 (Pack.enc false) a1])] zB ?_
 refine zA (fun x3 h4=>?_)
 refine J_g 6 [] [(4,bv (!x3))] [] (zF 2 (zFF [(0,.box [sl 8 (Pack.enc false) a1])] [] (wW («as»:=[sl 1 zC a2,.fn 130 [pp 0]]) [(.tmp 5),(.tmp 6)] [25,110] false [(0,.box [sl 8 (Pack.enc false) a1])] [0] (.cons (.same rfl) (.cons (.fn (.cons (.pt rfl) (.nil))) (.nil))) (yJ.ok a2 a1) h4 (.same rfl rfl))) zB) ?_
 exact xJ rfl
noncomputable def c41:Code:=(Tryz.f41.body).getD .skip
theorem zAw.ok (a1:(List Pack)) (a2:(List Int)) (q:Wd) (kn:Unit→Option (D×List Ent)) (hk:∀v:Unit,J (q.g Tryz.prog 41 0 32) c41 (atI c41 15) (St.mk' [(0,sl 8 (Pack.enc false) a1),(1,sl 1 zC a2)] []) (some v) kn):
  ∀s12:Int,J (q.g Tryz.prog 41 0 32) c41 (atI c41 116) (St.mk' [(0,sl 8 (Pack.enc false) a1),(1,sl 1 zC a2),(6,iv s12)] []) (zAw a1 a2 s12) (Fl.go (fun r:Int=>some (iv r,[])) kn):=by
 refine zAq (fun g ih s12=>?_)
 unfold uK
 refine J_d 464 [] [15] [(15,bv (decide (s12< (a2.length:Int))))] [] [] zB ?_
 refine zG 15 (fun h13=>?_) (fun h13=>?_)
 ·refine zA (fun x14 h15=>?_)
  refine zA (fun x16 h17=>?_)
  refine J_d 1864 [] [15,27] [(27,bv (decide (x14≤x16)))] [] [] (zF 2 (uN (kk:=.i64) 25 2 1 zC (.tmp 18) (.tmp 19) h15) (zF 7 (uN (kk:=.i64) 25 2 1 zC (.tmp 22) (.tmp 24) h17) zB)) ?_
  refine zG 27 (fun h18=>?_) (fun h18=>?_)
  ·refine J_g 7460 [] [(4,iv 1)] [] zB ?_
   exact xJ rfl
  ·refine J_d 467 [] [6,27] [(6,iv (w64 (s12+1)))] [] [] zB ?_
   exact J_q (J_b (ih (w64 (s12+1)))) rfl
 ·exact yM (hk ()) rfl
theorem wM.ok (a1:(List Pack)) (a2:(List Int)):Ok Tryz.prog 41 [sl 8 (Pack.enc false) a1,sl 1 zC a2] [] ((wM a1 a2).map fun r=>(iv r,[])):=by
 refine zJ c41 Tryz.f41 0 32 (fun q=>?_)
 unfold wM
 refine J_d 2 [] [] [] [] [] zB ?_
 refine zA (fun x3 h4=>?_)
 refine J_g 12 [] [(0,sl 8 (Pack.enc false) a1),(1,sl 1 zC a2),(5,iv x3)] [] (zF 1 (vD [(.tmp 7)] [24] (tQ.ok a1) h4) zB) ?_
 refine J_d 26 [] [10] [(10,bv (x3 !=0))] [] [] zB ?_
 refine zG 10 (fun h5=>?_) (fun h5=>?_)
 ·refine J_g 108 [] [(4,iv x3)] [] zB ?_
  exact xJ rfl
 ·refine J_d 28 [] [5,6,10] [(6,iv 1)] [] [] zB ?_
  refine jO (K0:=(fun r:Int=>some (iv r,[]))) (fun _=>rfl) (zAw.ok a1 a2 q _ (fun v19=>J_j ?_) 1)
  refine zA (fun x20 h21=>?_)
  refine J_g 60 [] [(31,bv (!x20))] [] (zF 2 (vD [(.tmp 28),(.tmp 29)] [24,25] (zAW.ok a1 a2) h21) zB) ?_
  refine zG 31 (fun h22=>?_) (fun h22=>?_)
  ·refine J_g 244 [] [(4,iv 1)] [] zB ?_
   exact xJ rfl
  ·refine J_g 62 [] [(4,iv 0)] [] zB ?_
   exact xJ rfl
noncomputable def c68:Code:=(Tryz.f68.body).getD .skip
theorem zCO.ok (a1:(List Pack)) (a2:(List Int)) (a3:ByteArray) (q:Wd) (kn:Unit→Option (D×List Ent)) (hk:∀v:Unit,J (q.g Tryz.prog 68 0 24) c68 (atI c68 7) (St.mk' [] []) (some v) kn):
  ∀s10:Int,J (q.g Tryz.prog 68 0 24) c68 (atI c68 52) (St.mk' [(0,sl 8 (Pack.enc false) a1),(2,sv a3),(9,sl 1 zC a2),(10,iv (a2.length:Int)),(11,iv s10)] []) (zCO a1 a2 a3 s10) (Fl.go (fun r:Int=>some (iv r,[])) kn):=by
 refine zAq (fun g ih s10=>?_)
 unfold kI
 refine J_d 104 [] [12] [(12,bv (decide (s10< (a2.length:Int))))] [] [] zB ?_
 refine zG 12 (fun h11=>?_) (fun h11=>?_)
 ·refine zA (fun x12 h13=>?_)
  refine J_d 1688 [] [8,12] [(8,iv x12)] [] [] (zF 0 (uN (kk:=.i64) 25 2 1 zC (.tmp 9) (.tmp 11) h13) zB) ?_
  refine zA (fun x14 h15=>?_)
  refine J_d 3378 [] [21] [(21,bv (seq x14.Name a3))] [] [] (zF 2 (uN (kk:=.i64) 24 91 8 (Pack.enc false) (.tmp 15) (.tmp 16) h15) zB) ?_
  refine zG 21 (fun h16=>?_) (fun h16=>?_)
  ·refine J_g 13516 [] [(6,iv x12)] [] zB ?_
   exact xJ rfl
  ·refine J_d 423 [] [8,11,21] [(11,iv (w64 (s10+1)))] [] [] zB ?_
   exact J_q (J_b (ih (w64 (s10+1)))) rfl
 ·exact yM (hk ()) rfl
theorem tV.ok (a1:(List Pack)) (a2:(List Int)) (a3:ByteArray):Ok Tryz.prog 68 [sl 8 (Pack.enc false) a1,sl 1 zC a2,sv a3] [] ((tV a1 a2 a3).map fun r=>(iv r,[])):=by
 refine zJ c68 Tryz.f68 0 24 (fun q=>?_)
 unfold tV
 refine J_g 2 [] [(0,sl 8 (Pack.enc false) a1),(1,sl 1 zC a2),(2,sv a3)] [] zB ?_
 refine J_d 12 [] [1,9,10,11] [(9,sl 1 zC a2),(10,iv (a2.length:Int)),(11,iv 0)] [] [] zB ?_
 refine jO (K0:=(fun r:Int=>some (iv r,[]))) (fun _=>rfl) (zCO.ok a1 a2 a3 q _ (fun v17=>J_j ?_) 0)
 refine J_g 14 [] [(6,iv (-1))] [] zB ?_
 exact xJ rfl
noncomputable def c61:Code:=(Tryz.f61.body).getD .skip
theorem zCp.ok (a1:(List Pack)) (a2:(List Int)) (q:Wd) (kn:Unit→Option (D×List Ent)) (hk:∀v:Unit,J (q.g Tryz.prog 61 0 26) c61 (atI c61 7) (St.mk' [] []) (some v) kn):
  ∀s13:Int,J (q.g Tryz.prog 61 0 26) c61 (atI c61 52) (St.mk' [(0,sl 8 (Pack.enc false) a1),(1,sl 1 zC a2),(7,sl 1 zC a2),(8,iv (a2.length:Int)),(9,iv s13)] []) (zCp a1 a2 s13) (Fl.go (fun r:Bool=>some (bv r,[])) kn):=by
 refine zAq (fun g ih s13=>?_)
 unfold zBU
 refine J_d 104 [] [10] [(10,bv (decide (s13< (a2.length:Int))))] [] [] zB ?_
 refine zG 10 (fun h14=>?_) (fun h14=>?_)
 ·refine zA (fun x15 h16=>?_)
  refine J_d 1688 [] [5,6,10] [(5,iv s13),(6,iv x15)] [] [] (zF 1 (uN (kk:=.i64) 25 2 1 zC (.tmp 7) (.tmp 9) h16) zB) ?_
  refine zA (fun x17 h18=>?_)
  refine zA (fun x19 h20=>?_)
  refine zA (fun x21 h22=>?_)
  refine J_d 3378 [] [5,6,24] [(24,bv (decide (x21≥0)))] [] [] (zF 3 (zMy 25 2 1 zC (.tmp 15) none (some (.tmp 16)) h18) (zF 6 (uN (kk:=.i64) 24 91 8 (Pack.enc false) (.tmp 18) (.tmp 19) h20) (zF 9 (vD [(.tmp 14),(.tmp 17),(.tmp 22)] [24,25,9] (tV.ok a1 x17 x19.Name) h22) zB))) ?_
  refine zG 24 (fun h23=>?_) (fun h23=>?_)
  ·refine J_g 13516 [] [(4,bv true)] [] zB ?_
   exact xJ rfl
  ·refine J_d 423 [] [9,24] [(9,iv (w64 (s13+1)))] [] [] zB ?_
   exact J_q (J_b (ih (w64 (s13+1)))) rfl
 ·exact yM (hk ()) rfl
theorem kE.ok (a1:(List Pack)) (a2:(List Int)):Ok Tryz.prog 61 [sl 8 (Pack.enc false) a1,sl 1 zC a2] [] ((kE a1 a2).map fun r=>(bv r,[])):=by
 refine zJ c61 Tryz.f61 0 26 (fun q=>?_)
 unfold kE
 refine J_g 2 [] [(0,sl 8 (Pack.enc false) a1),(1,sl 1 zC a2)] [] zB ?_
 refine J_d 12 [] [7,8,9] [(7,sl 1 zC a2),(8,iv (a2.length:Int)),(9,iv 0)] [] [] zB ?_
 refine jO (K0:=(fun r:Bool=>some (bv r,[]))) (fun _=>rfl) (zCp.ok a1 a2 q _ (fun v24=>J_j ?_) 0)
 refine J_g 14 [] [(4,bv false)] [] zB ?_
 exact xJ rfl
noncomputable def c30:Code:=(Tryz.f30.body).getD .skip
theorem zAP.ok (a1:(List Pack)) (a2:(List Int)) (a3:(List Int)):Ok Tryz.prog 30 [sl 8 (Pack.enc false) a1,sl 1 zC a2,sl 1 zC a3] [] ((zAP a1 a2 a3).map fun r=>(iv r,[])):=by
 refine zJ c30 Tryz.f30 0 29 (fun q=>?_)
 unfold zAP
 refine J_d 2 [] [] [] [] [] zB ?_
 refine zA (fun x4 h5=>?_)
 refine zA (fun x6 h7=>?_)
 refine zA (fun x8 h9=>?_)
 refine J_d 6 [] [7] [(7,iv x8)] [] [] (zF 2 (vD [(.tmp 8),(.tmp 9)] [24,25] (wM.ok a1 a2) h5) (zF 5 (vD [(.tmp 11),(.tmp 12)] [24,25] (wM.ok a1 a3) h7) (zF 6 (zAZ 25 2 1 0 zC [x4,x6] [0,1] [(.tmp 10),(.tmp 13)] [iv x4,iv x6]) (zF 7 (wW («as»:=[rr 0 [x4,x6]]) [(.tmp 14)] [25] true [(0,rE 1 zC [x4,x6])] [] (.cons (zD1 (.head _) (fun _=>rfl) rfl) (.nil)) (vB.ok [x4,x6]) h9 (.same rfl rfl) (hbor:=fun _=>⟨fhN,yP⟩)) zB)))) ?_
 refine xR (atI c30 29) (fun v16:Bool=>St.mk' [(7,iv x8),(27,bv v16)] []) (fun v16=>?_) (fun jv16=>?_)
 ·refine xR (atI c30 15) (fun v18:Int=>St.mk' [(7,iv v18)] []) (fun v18=>?_) (fun jv18=>?_)
  ·refine J_g 30 [] [(6,iv v18)] [] zB ?_
   exact xJ rfl
  ·refine zG 27 (fun h17=>?_) (fun h17=>?_)
   ·refine J_g 58 [] [(7,iv 6)] [] zB ?_
    exact yM (J_j (jv18 6)) rfl
   ·exact yM (J_j (jv18 x8)) rfl
 ·refine vI (fun h10=>?_) (fun h10=>?_)
  ·refine zA (fun x11 h12=>?_)
   refine vI (fun h13=>?_) (fun h13=>?_)
   ·refine J_g 28 [] [(7,iv x8),(27,bv true)] [] (wO 2 [(17,bv (x8==0))] [] h10 (zAm 5 2 18 true (vD [(.tmp 19),(.tmp 20)] [24,25] (kE.ok a1 a2) h12) (zFR 6 2 18 true [(21,bv x11)] [] h13 zB))) ?_
    exact yM (J_j (jv16 true)) rfl
   ·refine zA (fun x14 h15=>?_)
    refine J_g 28 [] [(7,iv x8),(27,bv x14)] [] (wO 2 [(17,bv (x8==0))] [] h10 (zAm 5 2 18 true (vD [(.tmp 19),(.tmp 20)] [24,25] (kE.ok a1 a2) h12) (zFR 6 2 18 true [(21,bv x11)] [] h13 (zAm 9 6 22 false (vD [(.tmp 23),(.tmp 24)] [24,25] (kE.ok a1 a3) h15) zB)))) ?_
    exact yM (J_j (jv16 x14)) rfl
  ·refine J_g 28 [] [(7,iv x8),(27,bv false)] [] (wO 2 [(17,bv (x8==0))] [] h10 (zGZ 6 (zHa (i:=6) (g:=2) (t:=18) (b:=true) (v:=(.bool false)) (.inl rfl) (by kernel_rfl) (by kernel_rfl)) (zGZ 7 (zHa (i:=7) (g:=6) (t:=22) (b:=false) (v:=undef) (.inr rfl) (by kernel_rfl) (by kernel_rfl)) (zGZ 8 (zHa (i:=8) (g:=6) (t:=22) (b:=false) (v:=undef) (.inr rfl) (by kernel_rfl) (by kernel_rfl)) (zGZ 9 (zHa (i:=9) (g:=6) (t:=22) (b:=false) (v:=undef) (.inr rfl) (by kernel_rfl) (by kernel_rfl)) zB))))) ?_
   exact yM (J_j (jv16 false)) rfl
noncomputable def zPi:Code:=(Tryz.f103.body).getD .skip
theorem wX.ok (a1:(List Int)):Ok Tryz.prog 103 [sl 1 zC a1] [] ((wX a1).map fun r=>(so 1 zC r,[])):=by
 refine zJ zPi Tryz.f103 0 8 (fun q=>?_)
 unfold wX
 refine J_g 2 [] [(0,sl 1 zC a1)] [] zB ?_
 refine J_d 12 [] [4] [(4,.nb a1.length)] [] [] (zF 1 (zLi (xs:=a1) 25 2 25 1 zC (.tmp 3)) zB) ?_
 refine zOJ 4 rfl (fun h2=>?_) ?_
 ·obtain rfl:a1=[]:=List.eq_nil_of_length_eq_zero h2
  refine zM9 (e':=some ([]:List Int)) (by kernel_rfl) ?_
  refine J_g 52 [] [(2,nv)] [] zB ?_
  exact zEf (ds:=[nv]) (ds':=[so 1 zC ([]:List Int)]) (.cons (.cell (.nilsl true 1 (.nil))) (.nil) (by decide)) rfl
 ·refine zA (fun x3 h4=>?_)
  refine J_g 14 [] [(2,rr 1 x3)] [(1,rE 1 zC x3)] (zF 0 (zAZ 25 2 1 0 zC ([]:List Int) [] [] []) (zF 2 (zMe 25 25 2 2 1 8 1 0 zC (.tmp 5) (.tmp 6) h4) zB)) ?_
  exact zEf (ds:=[rr 1 x3]) (ds':=[so 1 zC x3]) (.cons (.cell (.move (.head _) (List.length_map _) (by decide) (.nil))) (.nil) (by decide)) rfl
noncomputable def c87:Code:=(Tryz.f87.body).getD .skip
theorem zA8.ok (a1:Int) (a2:(List ByteArray)) (a3:(List Pack)):Ok Tryz.prog 87 [iv a1,pp 0,pp 1] [.box [sl 1 eStr a2],.box [sl 8 (Pack.enc false) a3]] ((zA8 a1 a2 a3).map fun r=>(bv r,[.box [sl 1 eStr a2],.box [sl 8 (Pack.enc false) a3]])):=by
 refine zJ c87 Tryz.f87 2 12 (fun q=>?_)
 unfold zA8
 refine J_d 2 [] [] [] [] [] zB ?_
 refine zA (fun x4 h5=>?_)
 refine zA (fun x6 h7=>?_)
 refine J_d 6 [] [0,1,2,4] [(4,bv x6)] [] [] (zF 3 (uN (kk:=.i64) 24 91 8 (Pack.enc false) (.tmp 6) (.tmp 7) h5) (zF 6 (vD [(.tmp 5),(.tmp 10)] [32,9] (xL.ok a2 x4.Name) h7) zB)) ?_
 exact xJ rfl
noncomputable def c89:Code:=(Tryz.f89.body).getD .skip
theorem vC.ok (a1:Int) (a2:(List ByteArray)) (a3:(List Pack)):Ok Tryz.prog 89 [iv a1,.pb [.fn 87 [pp 0,pp 1]]] [.box [sl 1 eStr a2],.box [sl 8 (Pack.enc false) a3]] ((vC a1 a2 a3).map fun r=>(bv r,[.box [sl 1 eStr a2],.box [sl 8 (Pack.enc false) a3]])):=by
 refine zJ c89 Tryz.f89 2 8 (fun q=>?_)
 unfold vC
 refine J_d 2 [] [] [] [] [] zB ?_
 refine zA (fun x4 h5=>?_)
 refine J_d 6 [] [0,1,3] [(3,bv (!x4))] [] [] (zF 0 (zJr (d:=.fn 87 [pp 0,pp 1]) 110 (.tmp 1) [.fn 87 [pp 0,pp 1]]) (zF 2 (zFF [(0,.box [sl 1 eStr a2]),(1,.box [sl 8 (Pack.enc false) a3])] [] (zFP 4 [(.tmp 5)] [2] false [(0,.box [sl 1 eStr a2]),(1,.box [sl 8 (Pack.enc false) a3])] [0,1] [iv a1] [pp 0,pp 1] (.cons (.same rfl) (.cons (.pt rfl) (.cons (.pt rfl) (.nil)))) (zA8.ok a1 a2 a3) h5 (.same rfl rfl))) zB)) ?_
 exact xJ rfl
noncomputable def zOC:Code:=(Tryz.f137.body).getD .skip
theorem zT.ok (a1:Int) (a2:(List ByteArray)) (a3:(List Pack)):Ok Tryz.prog 137 [iv a1,.pb [.fn 89 [.pb [.fn 87 [pp 0,pp 1]]]]] [.box [sl 1 eStr a2],.box [sl 8 (Pack.enc false) a3]] ((zT a1 a2 a3).map fun r=>(bv r,[.box [sl 1 eStr a2],.box [sl 8 (Pack.enc false) a3]])):=by
 refine zJ zOC Tryz.f137 2 8 (fun q=>?_)
 unfold zT
 refine J_d 2 [] [] [] [] [] zB ?_
 refine zA (fun x4 h5=>?_)
 refine J_d 6 [] [0,1,3] [(3,bv (!x4))] [] [] (zF 0 (zJr (d:=.fn 89 [.pb [.fn 87 [pp 0,pp 1]]]) 110 (.tmp 1) [.fn 89 [.pb [.fn 87 [pp 0,pp 1]]]]) (zF 2 (zFF [(0,.box [sl 1 eStr a2]),(1,.box [sl 8 (Pack.enc false) a3])] [] (zFP 4 [(.tmp 5)] [2] false [(0,.box [sl 1 eStr a2]),(1,.box [sl 8 (Pack.enc false) a3])] [0,1] [iv a1] [.pb [.fn 87 [pp 0,pp 1]]] (.cons (.same rfl) (.cons (.pb (.cons (.fn (.cons (.pt rfl) (.cons (.pt rfl) (.nil)))) (.nil))) (.nil))) (vC.ok a1 a2 a3) h5 (.same rfl rfl))) zB)) ?_
 exact xJ rfl
theorem zY.ok (a1:(List Int)) (a2:(List ByteArray)) (a3:(List Pack)) (q:Wd) (kn:Unit→Option (D×List Ent)) (hk:∀v:Unit,J (q.g Tryz.prog 167 3 19) c167 (atI c167 7) (St.mk' [] [(0,rE 1 zC a1),(1,.box [sl 1 eStr a2]),(2,.box [sl 8 (Pack.enc false) a3])]) (some v) kn):
  ∀s10:Int,J (q.g Tryz.prog 167 3 19) c167 (atI c167 52) (St.mk' [(0,rr 0 a1),(1,.fn 137 [.pb [.fn 89 [.pb [.fn 87 [pp 1,pp 2]]]]]),(7,iv (a1.length:Int)),(8,iv s10)] [(0,rE 1 zC a1),(1,.box [sl 1 eStr a2]),(2,.box [sl 8 (Pack.enc false) a3])]) (zY a1 a2 a3 s10) (Fl.go (fun r:Int=>some (iv r,[rE 1 zC a1,.box [sl 1 eStr a2],.box [sl 8 (Pack.enc false) a3]])) kn):=by
 refine zAq (fun g ih s10=>?_)
 unfold zO
 refine J_d 104 [] [9] [(9,bv (decide (s10< (a1.length:Int))))] [] [] zB ?_
 refine zG 9 (fun h11=>?_) (fun h11=>?_)
 ·refine J_d 1688 [] [5,9] [(5,iv s10)] [] [] zB ?_
  refine zA (fun x12 h13=>?_)
  refine zA (fun x14 h15=>?_)
  refine J_d 3378 [] [16] [(16,bv x14)] [] [] (zF 3 (zCb (kk:=.i64) 25 2 1 0 zC (.tmp 12) (.tmp 13) h13) (zF 4 (zCK (d:=iv x12) 2 1 0 0 zC (.tmp 14) h13 (by kernel_rfl)) (zF 5 (zFF [(1,.box [sl 1 eStr a2]),(2,.box [sl 8 (Pack.enc false) a3])] [] (zFP 11 [(.tmp 15)] [2] false [(1,.box [sl 1 eStr a2]),(2,.box [sl 8 (Pack.enc false) a3])] [1,2] [iv x12] [.pb [.fn 89 [.pb [.fn 87 [pp 1,pp 2]]]]] (.cons (.same rfl) (.cons (.pb (.cons (.fn (.cons (.pb (.cons (.fn (.cons (.pt rfl) (.cons (.pt rfl) (.nil)))) (.nil))) (.nil))) (.nil))) (.nil))) (zT.ok x12 a2 a3) h15 (.same rfl rfl))) zB))) ?_
  refine zG 16 (fun h16=>?_) (fun h16=>?_)
  ·refine J_d 13516 [] [0,1,4,5,7,8,16] [(4,iv s10)] [] [] zB ?_
   exact xJ rfl
  ·refine J_d 423 [] [5,8,16] [(8,iv (w64 (s10+1)))] [] [] zB ?_
   exact J_q (J_b (ih (w64 (s10+1)))) rfl
 ·exact yM (hk ()) rfl
theorem zQ.ok (a1:(List Int)) (a2:(List ByteArray)) (a3:(List Pack)):Ok Tryz.prog 167 [rr 0 a1,.fn 137 [.pb [.fn 89 [.pb [.fn 87 [pp 1,pp 2]]]]]] [rE 1 zC a1,.box [sl 1 eStr a2],.box [sl 8 (Pack.enc false) a3]] ((zQ a1 a2 a3).map fun r=>(iv r,[rE 1 zC a1,.box [sl 1 eStr a2],.box [sl 8 (Pack.enc false) a3]])):=by
 refine zJ c167 Tryz.f167 3 19 (fun q=>?_)
 unfold zQ
 refine J_g 2 [] [(0,rr 0 a1),(1,.fn 137 [.pb [.fn 89 [.pb [.fn 87 [pp 1,pp 2]]]]])] [(0,rE 1 zC a1),(1,.box [sl 1 eStr a2]),(2,.box [sl 8 (Pack.enc false) a3])] zB ?_
 refine J_d 12 [] [7,8] [(7,iv (a1.length:Int)),(8,iv 0)] [] [] zB ?_
 refine jO (K0:=(fun r:Int=>some (iv r,[rE 1 zC a1,.box [sl 1 eStr a2],.box [sl 8 (Pack.enc false) a3]]))) (fun _=>rfl) (zY.ok a1 a2 a3 q _ (fun v17=>J_j ?_) 0)
 refine J_d 14 [] [4] [(4,iv (-1))] [] [] zB ?_
 exact xJ rfl
noncomputable def zK2:Code:=(Tryz.f136.body).getD .skip
theorem zX.ok (a2:(List ByteArray)) (a3:(List Pack)) (q:Wd) (kn:((List Int)×Int)→Option (D×List Ent)) (hk:∀v:((List Int)×Int),J (q.g Tryz.prog 136 3 42) zK2 (atI zK2 31) (St.mk' [(0,rr 2 v.1),(5,iv v.2)] [(0,.box [sl 1 eStr a2]),(1,.box [sl 8 (Pack.enc false) a3]),(2,rE 1 zC v.1)]) (some v) kn):
  ∀s16:((List Int)×Int×Int),J (q.g Tryz.prog 136 3 42) zK2 (atI zK2 244) (St.mk' [(0,rr 2 s16.1),(1,.fn 137 [.pb [.fn 89 [.pb [.fn 87 [pp 0,pp 1]]]]]),(5,iv s16.2.1),(6,iv s16.2.2)] [(0,.box [sl 1 eStr a2]),(1,.box [sl 8 (Pack.enc false) a3]),(2,rE 1 zC s16.1)]) (zX a2 a3 s16) kn:=by
 refine zAq (fun g ih s16=>?_)
 unfold zN
 refine J_d 976 [] [19] [(19,bv (decide (s16.2.2< (s16.1.length:Int))))] [] [] zB ?_
 refine zG 19 (fun h17=>?_) (fun h17=>?_)
 ·refine zA (fun x18 h19=>?_)
  refine J_d 3912 [] [7,19] [(7,iv x18)] [] [] (zF 2 (zCb (kk:=.i64) 25 2 1 2 zC (.tmp 22) (.tmp 23) h19) (zF 3 (zCK (d:=iv x18) 2 1 2 0 zC (.tmp 24) h19 (by kernel_rfl)) zB)) ?_
  refine zA (fun x20 h21=>?_)
  refine J_d 7826 [] [29] [(29,bv (!x20))] [] [] (zF 2 (zFF [(0,.box [sl 1 eStr a2]),(1,.box [sl 8 (Pack.enc false) a3])] [] (zFP 26 [(.tmp 27)] [2] false [(0,.box [sl 1 eStr a2]),(1,.box [sl 8 (Pack.enc false) a3])] [0,1] [iv x18] [.pb [.fn 89 [.pb [.fn 87 [pp 0,pp 1]]]]] (.cons (.same rfl) (.cons (.pb (.cons (.fn (.cons (.pb (.cons (.fn (.cons (.pt rfl) (.cons (.pt rfl) (.nil)))) (.nil))) (.nil))) (.nil))) (.nil))) (zT.ok x18 a2 a3) h21 (.same rfl rfl))) zB) ?_
  refine xR (aft zK2 1956) (fun v25:((List Int)×Int)=>St.mk' [(0,rr 2 v25.1),(1,.fn 137 [.pb [.fn 89 [.pb [.fn 87 [pp 0,pp 1]]]]]),(5,iv v25.2),(6,iv s16.2.2)] [(0,.box [sl 1 eStr a2]),(1,.box [sl 8 (Pack.enc false) a3]),(2,rE 1 zC v25.1)]) (fun v25=>?_) (fun jv25=>?_)
  ·refine J_d 979 [] [6] [(6,iv (w64 (s16.2.2+1)))] [] [] zB ?_
   exact J_q (J_b (ih (v25.1,v25.2,w64 (s16.2.2+1)))) rfl
  ·refine zG 29 (fun h22=>?_) (fun h22=>?_)
   ·refine zA (fun x23 h24=>?_)
    refine J_g 31308 [] [(0,rr 2 s16.1),(1,.fn 137 [.pb [.fn 89 [.pb [.fn 87 [pp 0,pp 1]]]]]),(5,iv s16.2.1),(6,iv s16.2.2)] [(0,.box [sl 1 eStr a2]),(1,.box [sl 8 (Pack.enc false) a3]),(2,rE 1 zC (s16.1.set s16.2.1.toNat x18))] (zF 3 (zCb (kk:=.i64) 25 2 1 2 zC (.tmp 30) (.tmp 31) h24) (zOd 4 (zOr (b:=x18) 2 1 2 0 zC (iv x18) (.tmp 33) (.tmp 32) h24 rfl) zB)) ?_
    refine zM4 (σ':=St.mk' [(0,rr 2 (s16.1.set s16.2.1.toNat x18)),(1,.fn 137 [.pb [.fn 89 [.pb [.fn 87 [pp 0,pp 1]]]]]),(5,iv s16.2.1),(6,iv s16.2.2)] [(0,.box [sl 1 eStr a2]),(1,.box [sl 8 (Pack.enc false) a3]),(2,rE 1 zC (s16.1.set s16.2.1.toNat x18))]) (by simp only [rr,List.length_set]) ?_
    refine J_d 31309 [] [5] [(5,iv (w64 (s16.2.1+1)))] [] [] zB ?_
    exact yM (J_j (jv25 (s16.1.set s16.2.1.toNat x18,w64 (s16.2.1+1)))) rfl
   ·exact yM (J_j (jv25 (s16.1,s16.2.1))) rfl
 ·exact yM (hk (s16.1,s16.2.1)) rfl
theorem zK.ok (a1:(List Int)) (a2:(List ByteArray)) (a3:(List Pack)):Ok Tryz.prog 136 [rr 2 a1,.fn 137 [.pb [.fn 89 [.pb [.fn 87 [pp 0,pp 1]]]]]] [.box [sl 1 eStr a2],.box [sl 8 (Pack.enc false) a3],rE 1 zC a1] ((zK a1 a2 a3).map fun r=>(so 1 zC r,[.box [sl 1 eStr a2],.box [sl 8 (Pack.enc false) a3]])):=by
 refine zJ zK2 Tryz.f136 3 42 (fun q=>?_)
 unfold zK
 refine J_d 2 [] [] [] [] [] zB ?_
 refine zA (fun x4 h5=>?_)
 refine J_g 6 [] [(0,rr 2 a1),(1,.fn 137 [.pb [.fn 89 [.pb [.fn 87 [pp 0,pp 1]]]]]),(5,iv x4)] [(0,.box [sl 1 eStr a2]),(1,.box [sl 8 (Pack.enc false) a3]),(2,rE 1 zC a1)] (zF 2 (zFF [(2,rE 1 zC a1),(0,.box [sl 1 eStr a2]),(1,.box [sl 8 (Pack.enc false) a3])] [] (wW («as»:=[rr 2 a1,.fn 137 [.pb [.fn 89 [.pb [.fn 87 [pp 0,pp 1]]]]]]) [(.tmp 8),(.tmp 9)] [25,110] false [(2,rE 1 zC a1),(0,.box [sl 1 eStr a2]),(1,.box [sl 8 (Pack.enc false) a3])] [2,0,1] (.cons (.rf rfl) (.cons (.fn (.cons (.pb (.cons (.fn (.cons (.pb (.cons (.fn (.cons (.pt rfl) (.cons (.pt rfl) (.nil)))) (.nil))) (.nil))) (.nil))) (.nil))) (.nil))) (zQ.ok a1 a2 a3) h5 (.same rfl rfl))) zB) ?_
 refine J_d 28 [] [12] [(12,bv (x4==(-1)))] [] [] zB ?_
 refine zG 12 (fun h6=>?_) (fun h6=>?_)
 ·refine J_g 116 [] [(4,rr 2 a1)] [(0,.box [sl 1 eStr a2]),(1,.box [sl 8 (Pack.enc false) a3]),(2,rE 1 zC a1)] zB ?_
  exact zEf (ds:=[rr 2 a1]) (ds':=[so 1 zC a1]) (.cons (.cell (.move (.tail _ (.tail _ (.head _))) (List.length_map _) (by decide) (.nil))) (.nil) (by decide)) rfl
 ·refine J_d 60 [] [6,12] [(6,iv (w64 (x4+1)))] [] [] zB ?_
  refine zET (zX.ok a2 a3 q _ (fun v26=>J_j ?_) (a1,x4,w64 (x4+1)))
  refine zA (fun x27 h28=>?_)
  refine zA (fun x29 h30=>?_)
  refine J_g 62 [] [(0,rr 2 v26.1),(5,iv v26.2)] [(0,.box [sl 1 eStr a2]),(1,.box [sl 8 (Pack.enc false) a3]),(2,rE 1 zC x29)] (zF 2 (zLQ 25 2 1 2 zC (.tmp 36) (some (.tmp 37)) none h28) (zOd 3 (zNM (l:=v26.2) (a:=0) 25 2 1 2 zC (.tmp 38) h30 (.keep rfl (.nil))) zB)) ?_
  refine zM4 (σ':=St.mk' [(0,rr 2 x29),(5,iv v26.2)] [(0,.box [sl 1 eStr a2]),(1,.box [sl 8 (Pack.enc false) a3]),(2,rE 1 zC x29)]) (by simp only [rr,zJq h30]) ?_
  refine zA (fun x31 h32=>?_)
  refine J_g 126 [] [(4,rr 3 x31)] [(0,.box [sl 1 eStr a2]),(1,.box [sl 8 (Pack.enc false) a3]),(3,rE 1 zC x31)] (zF 2 (zNb 25 2 1 2 3 zC (.tmp 39) none (some (.tmp 40)) h32) zB) ?_
  exact zEf (ds:=[rr 3 x31]) (ds':=[so 1 zC x31]) (.cons (.cell (.move (.tail _ (.tail _ (.head _))) (List.length_map _) (by decide) (.nil))) (.nil) (by decide)) rfl
noncomputable def c88:Code:=(Tryz.f88.body).getD .skip
theorem yR.ok (a1:(List Int)) (a2:(List ByteArray)) (a3:(List Pack)):Ok Tryz.prog 88 [sl 1 zC a1,.fn 89 [.pb [.fn 87 [pp 0,pp 1]]]] [.box [sl 1 eStr a2],.box [sl 8 (Pack.enc false) a3]] ((yR a1 a2 a3).map fun r=>(so 1 zC r,[.box [sl 1 eStr a2],.box [sl 8 (Pack.enc false) a3]])):=by
 refine zJ c88 Tryz.f88 2 9 (fun q=>?_)
 unfold yR
 refine J_d 2 [] [1,3] [(3,.pb [.fn 89 [.pb [.fn 87 [pp 0,pp 1]]]])] [] [] (zF 0 (zL7 110 (.tmp 1) (.fn 89 [.pb [.fn 87 [pp 0,pp 1]]])) zB) ?_
 refine zA (fun x4 h5=>?_)
 refine zA (fun x6 h7=>?_)
 refine J_g 6 [] [(4,rr 3 x6)] [(0,.box [sl 1 eStr a2]),(1,.box [sl 8 (Pack.enc false) a3]),(3,rE 1 zC x6)] (zF 1 (wW («as»:=[sl 1 zC a1]) [(.tmp 5)] [25] false [] [] (.cons (.same rfl) (.nil)) (wX.ok a1) h5 (.own 2)) (zF 3 (wW («as»:=[rr 2 x4,.fn 137 [.pb [.fn 89 [.pb [.fn 87 [pp 0,pp 1]]]]]]) [(.tmp 6),(.tmp 7)] [25,110] false [(0,.box [sl 1 eStr a2]),(1,.box [sl 8 (Pack.enc false) a3]),(2,rE 1 zC x4)] [0,1,2] (.cons (.rf rfl) (.cons (.fn (.cons (.pb (.cons (.fn (.cons (.pb (.cons (.fn (.cons (.pt rfl) (.cons (.pt rfl) (.nil)))) (.nil))) (.nil))) (.nil))) (.nil))) (.nil))) (zK.ok x4 a2 a3) h7 (.own 3)) zB)) ?_
 exact zEf (ds:=[rr 3 x6]) (ds':=[so 1 zC x6]) (.cons (.cell (.move (.tail _ (.tail _ (.head _))) (List.length_map _) (by decide) (.nil))) (.nil) (by decide)) rfl
theorem xZ.ok (a1:Int) (a2:(List ByteArray)) (a3:(List Pack)):Ok Tryz.prog 137 [iv a1,.pb [.fn 87 [pp 0,pp 1]]] [.box [sl 1 eStr a2],.box [sl 8 (Pack.enc false) a3]] ((xZ a1 a2 a3).map fun r=>(bv r,[.box [sl 1 eStr a2],.box [sl 8 (Pack.enc false) a3]])):=by
 refine zJ zOC Tryz.f137 2 8 (fun q=>?_)
 unfold xZ
 refine J_d 2 [] [] [] [] [] zB ?_
 refine zA (fun x4 h5=>?_)
 refine J_d 6 [] [0,1,3] [(3,bv (!x4))] [] [] (zF 0 (zJr (d:=.fn 87 [pp 0,pp 1]) 110 (.tmp 1) [.fn 87 [pp 0,pp 1]]) (zF 2 (zFF [(0,.box [sl 1 eStr a2]),(1,.box [sl 8 (Pack.enc false) a3])] [] (zFP 4 [(.tmp 5)] [2] false [(0,.box [sl 1 eStr a2]),(1,.box [sl 8 (Pack.enc false) a3])] [0,1] [iv a1] [pp 0,pp 1] (.cons (.same rfl) (.cons (.pt rfl) (.cons (.pt rfl) (.nil)))) (zA8.ok a1 a2 a3) h5 (.same rfl rfl))) zB)) ?_
 exact xJ rfl
theorem xC.ok (a1:(List Int)) (a2:(List ByteArray)) (a3:(List Pack)) (q:Wd) (kn:Unit→Option (D×List Ent)) (hk:∀v:Unit,J (q.g Tryz.prog 167 3 19) c167 (atI c167 7) (St.mk' [] [(0,rE 1 zC a1),(1,.box [sl 1 eStr a2]),(2,.box [sl 8 (Pack.enc false) a3])]) (some v) kn):
  ∀s10:Int,J (q.g Tryz.prog 167 3 19) c167 (atI c167 52) (St.mk' [(0,rr 0 a1),(1,.fn 137 [.pb [.fn 87 [pp 1,pp 2]]]),(7,iv (a1.length:Int)),(8,iv s10)] [(0,rE 1 zC a1),(1,.box [sl 1 eStr a2]),(2,.box [sl 8 (Pack.enc false) a3])]) (xC a1 a2 a3 s10) (Fl.go (fun r:Int=>some (iv r,[rE 1 zC a1,.box [sl 1 eStr a2],.box [sl 8 (Pack.enc false) a3]])) kn):=by
 refine zAq (fun g ih s10=>?_)
 unfold yA
 refine J_d 104 [] [9] [(9,bv (decide (s10< (a1.length:Int))))] [] [] zB ?_
 refine zG 9 (fun h11=>?_) (fun h11=>?_)
 ·refine J_d 1688 [] [5,9] [(5,iv s10)] [] [] zB ?_
  refine zA (fun x12 h13=>?_)
  refine zA (fun x14 h15=>?_)
  refine J_d 3378 [] [16] [(16,bv x14)] [] [] (zF 3 (zCb (kk:=.i64) 25 2 1 0 zC (.tmp 12) (.tmp 13) h13) (zF 4 (zCK (d:=iv x12) 2 1 0 0 zC (.tmp 14) h13 (by kernel_rfl)) (zF 5 (zFF [(1,.box [sl 1 eStr a2]),(2,.box [sl 8 (Pack.enc false) a3])] [] (zFP 11 [(.tmp 15)] [2] false [(1,.box [sl 1 eStr a2]),(2,.box [sl 8 (Pack.enc false) a3])] [1,2] [iv x12] [.pb [.fn 87 [pp 1,pp 2]]] (.cons (.same rfl) (.cons (.pb (.cons (.fn (.cons (.pt rfl) (.cons (.pt rfl) (.nil)))) (.nil))) (.nil))) (xZ.ok x12 a2 a3) h15 (.same rfl rfl))) zB))) ?_
  refine zG 16 (fun h16=>?_) (fun h16=>?_)
  ·refine J_d 13516 [] [0,1,4,5,7,8,16] [(4,iv s10)] [] [] zB ?_
   exact xJ rfl
  ·refine J_d 423 [] [5,8,16] [(8,iv (w64 (s10+1)))] [] [] zB ?_
   exact J_q (J_b (ih (w64 (s10+1)))) rfl
 ·exact yM (hk ()) rfl
theorem yI.ok (a1:(List Int)) (a2:(List ByteArray)) (a3:(List Pack)):Ok Tryz.prog 167 [rr 0 a1,.fn 137 [.pb [.fn 87 [pp 1,pp 2]]]] [rE 1 zC a1,.box [sl 1 eStr a2],.box [sl 8 (Pack.enc false) a3]] ((yI a1 a2 a3).map fun r=>(iv r,[rE 1 zC a1,.box [sl 1 eStr a2],.box [sl 8 (Pack.enc false) a3]])):=by
 refine zJ c167 Tryz.f167 3 19 (fun q=>?_)
 unfold yI
 refine J_g 2 [] [(0,rr 0 a1),(1,.fn 137 [.pb [.fn 87 [pp 1,pp 2]]])] [(0,rE 1 zC a1),(1,.box [sl 1 eStr a2]),(2,.box [sl 8 (Pack.enc false) a3])] zB ?_
 refine J_d 12 [] [7,8] [(7,iv (a1.length:Int)),(8,iv 0)] [] [] zB ?_
 refine jO (K0:=(fun r:Int=>some (iv r,[rE 1 zC a1,.box [sl 1 eStr a2],.box [sl 8 (Pack.enc false) a3]]))) (fun _=>rfl) (xC.ok a1 a2 a3 q _ (fun v17=>J_j ?_) 0)
 refine J_d 14 [] [4] [(4,iv (-1))] [] [] zB ?_
 exact xJ rfl
theorem xA.ok (a2:(List ByteArray)) (a3:(List Pack)) (q:Wd) (kn:((List Int)×Int)→Option (D×List Ent)) (hk:∀v:((List Int)×Int),J (q.g Tryz.prog 136 3 42) zK2 (atI zK2 31) (St.mk' [(0,rr 2 v.1),(5,iv v.2)] [(0,.box [sl 1 eStr a2]),(1,.box [sl 8 (Pack.enc false) a3]),(2,rE 1 zC v.1)]) (some v) kn):
  ∀s16:((List Int)×Int×Int),J (q.g Tryz.prog 136 3 42) zK2 (atI zK2 244) (St.mk' [(0,rr 2 s16.1),(1,.fn 137 [.pb [.fn 87 [pp 0,pp 1]]]),(5,iv s16.2.1),(6,iv s16.2.2)] [(0,.box [sl 1 eStr a2]),(1,.box [sl 8 (Pack.enc false) a3]),(2,rE 1 zC s16.1)]) (xA a2 a3 s16) kn:=by
 refine zAq (fun g ih s16=>?_)
 unfold zZ
 refine J_d 976 [] [19] [(19,bv (decide (s16.2.2< (s16.1.length:Int))))] [] [] zB ?_
 refine zG 19 (fun h17=>?_) (fun h17=>?_)
 ·refine zA (fun x18 h19=>?_)
  refine J_d 3912 [] [7,19] [(7,iv x18)] [] [] (zF 2 (zCb (kk:=.i64) 25 2 1 2 zC (.tmp 22) (.tmp 23) h19) (zF 3 (zCK (d:=iv x18) 2 1 2 0 zC (.tmp 24) h19 (by kernel_rfl)) zB)) ?_
  refine zA (fun x20 h21=>?_)
  refine J_d 7826 [] [29] [(29,bv (!x20))] [] [] (zF 2 (zFF [(0,.box [sl 1 eStr a2]),(1,.box [sl 8 (Pack.enc false) a3])] [] (zFP 26 [(.tmp 27)] [2] false [(0,.box [sl 1 eStr a2]),(1,.box [sl 8 (Pack.enc false) a3])] [0,1] [iv x18] [.pb [.fn 87 [pp 0,pp 1]]] (.cons (.same rfl) (.cons (.pb (.cons (.fn (.cons (.pt rfl) (.cons (.pt rfl) (.nil)))) (.nil))) (.nil))) (xZ.ok x18 a2 a3) h21 (.same rfl rfl))) zB) ?_
  refine xR (aft zK2 1956) (fun v25:((List Int)×Int)=>St.mk' [(0,rr 2 v25.1),(1,.fn 137 [.pb [.fn 87 [pp 0,pp 1]]]),(5,iv v25.2),(6,iv s16.2.2)] [(0,.box [sl 1 eStr a2]),(1,.box [sl 8 (Pack.enc false) a3]),(2,rE 1 zC v25.1)]) (fun v25=>?_) (fun jv25=>?_)
  ·refine J_d 979 [] [6] [(6,iv (w64 (s16.2.2+1)))] [] [] zB ?_
   exact J_q (J_b (ih (v25.1,v25.2,w64 (s16.2.2+1)))) rfl
  ·refine zG 29 (fun h22=>?_) (fun h22=>?_)
   ·refine zA (fun x23 h24=>?_)
    refine J_g 31308 [] [(0,rr 2 s16.1),(1,.fn 137 [.pb [.fn 87 [pp 0,pp 1]]]),(5,iv s16.2.1),(6,iv s16.2.2)] [(0,.box [sl 1 eStr a2]),(1,.box [sl 8 (Pack.enc false) a3]),(2,rE 1 zC (s16.1.set s16.2.1.toNat x18))] (zF 3 (zCb (kk:=.i64) 25 2 1 2 zC (.tmp 30) (.tmp 31) h24) (zOd 4 (zOr (b:=x18) 2 1 2 0 zC (iv x18) (.tmp 33) (.tmp 32) h24 rfl) zB)) ?_
    refine zM4 (σ':=St.mk' [(0,rr 2 (s16.1.set s16.2.1.toNat x18)),(1,.fn 137 [.pb [.fn 87 [pp 0,pp 1]]]),(5,iv s16.2.1),(6,iv s16.2.2)] [(0,.box [sl 1 eStr a2]),(1,.box [sl 8 (Pack.enc false) a3]),(2,rE 1 zC (s16.1.set s16.2.1.toNat x18))]) (by simp only [rr,List.length_set]) ?_
    refine J_d 31309 [] [5] [(5,iv (w64 (s16.2.1+1)))] [] [] zB ?_
    exact yM (J_j (jv25 (s16.1.set s16.2.1.toNat x18,w64 (s16.2.1+1)))) rfl
   ·exact yM (J_j (jv25 (s16.1,s16.2.1))) rfl
 ·exact yM (hk (s16.1,s16.2.1)) rfl
theorem zV.ok (a1:(List Int)) (a2:(List ByteArray)) (a3:(List Pack)):Ok Tryz.prog 136 [rr 2 a1,.fn 137 [.pb [.fn 87 [pp 0,pp 1]]]] [.box [sl 1 eStr a2],.box [sl 8 (Pack.enc false) a3],rE 1 zC a1] ((zV a1 a2 a3).map fun r=>(so 1 zC r,[.box [sl 1 eStr a2],.box [sl 8 (Pack.enc false) a3]])):=by
 refine zJ zK2 Tryz.f136 3 42 (fun q=>?_)
 unfold zV
 refine J_d 2 [] [] [] [] [] zB ?_
 refine zA (fun x4 h5=>?_)
 refine J_g 6 [] [(0,rr 2 a1),(1,.fn 137 [.pb [.fn 87 [pp 0,pp 1]]]),(5,iv x4)] [(0,.box [sl 1 eStr a2]),(1,.box [sl 8 (Pack.enc false) a3]),(2,rE 1 zC a1)] (zF 2 (zFF [(2,rE 1 zC a1),(0,.box [sl 1 eStr a2]),(1,.box [sl 8 (Pack.enc false) a3])] [] (wW («as»:=[rr 2 a1,.fn 137 [.pb [.fn 87 [pp 0,pp 1]]]]) [(.tmp 8),(.tmp 9)] [25,110] false [(2,rE 1 zC a1),(0,.box [sl 1 eStr a2]),(1,.box [sl 8 (Pack.enc false) a3])] [2,0,1] (.cons (.rf rfl) (.cons (.fn (.cons (.pb (.cons (.fn (.cons (.pt rfl) (.cons (.pt rfl) (.nil)))) (.nil))) (.nil))) (.nil))) (yI.ok a1 a2 a3) h5 (.same rfl rfl))) zB) ?_
 refine J_d 28 [] [12] [(12,bv (x4==(-1)))] [] [] zB ?_
 refine zG 12 (fun h6=>?_) (fun h6=>?_)
 ·refine J_g 116 [] [(4,rr 2 a1)] [(0,.box [sl 1 eStr a2]),(1,.box [sl 8 (Pack.enc false) a3]),(2,rE 1 zC a1)] zB ?_
  exact zEf (ds:=[rr 2 a1]) (ds':=[so 1 zC a1]) (.cons (.cell (.move (.tail _ (.tail _ (.head _))) (List.length_map _) (by decide) (.nil))) (.nil) (by decide)) rfl
 ·refine J_d 60 [] [6,12] [(6,iv (w64 (x4+1)))] [] [] zB ?_
  refine zET (xA.ok a2 a3 q _ (fun v26=>J_j ?_) (a1,x4,w64 (x4+1)))
  refine zA (fun x27 h28=>?_)
  refine zA (fun x29 h30=>?_)
  refine J_g 62 [] [(0,rr 2 v26.1),(5,iv v26.2)] [(0,.box [sl 1 eStr a2]),(1,.box [sl 8 (Pack.enc false) a3]),(2,rE 1 zC x29)] (zF 2 (zLQ 25 2 1 2 zC (.tmp 36) (some (.tmp 37)) none h28) (zOd 3 (zNM (l:=v26.2) (a:=0) 25 2 1 2 zC (.tmp 38) h30 (.keep rfl (.nil))) zB)) ?_
  refine zM4 (σ':=St.mk' [(0,rr 2 x29),(5,iv v26.2)] [(0,.box [sl 1 eStr a2]),(1,.box [sl 8 (Pack.enc false) a3]),(2,rE 1 zC x29)]) (by simp only [rr,zJq h30]) ?_
  refine zA (fun x31 h32=>?_)
  refine J_g 126 [] [(4,rr 3 x31)] [(0,.box [sl 1 eStr a2]),(1,.box [sl 8 (Pack.enc false) a3]),(3,rE 1 zC x31)] (zF 2 (zNb 25 2 1 2 3 zC (.tmp 39) none (some (.tmp 40)) h32) zB) ?_
  exact zEf (ds:=[rr 3 x31]) (ds':=[so 1 zC x31]) (.cons (.cell (.move (.tail _ (.tail _ (.head _))) (List.length_map _) (by decide) (.nil))) (.nil) (by decide)) rfl
theorem wY.ok (a1:(List Int)) (a2:(List ByteArray)) (a3:(List Pack)):Ok Tryz.prog 88 [sl 1 zC a1,.fn 87 [pp 0,pp 1]] [.box [sl 1 eStr a2],.box [sl 8 (Pack.enc false) a3]] ((wY a1 a2 a3).map fun r=>(so 1 zC r,[.box [sl 1 eStr a2],.box [sl 8 (Pack.enc false) a3]])):=by
 refine zJ c88 Tryz.f88 2 9 (fun q=>?_)
 unfold wY
 refine J_d 2 [] [1,3] [(3,.pb [.fn 87 [pp 0,pp 1]])] [] [] (zF 0 (zL7 110 (.tmp 1) (.fn 87 [pp 0,pp 1])) zB) ?_
 refine zA (fun x4 h5=>?_)
 refine zA (fun x6 h7=>?_)
 refine J_g 6 [] [(4,rr 3 x6)] [(0,.box [sl 1 eStr a2]),(1,.box [sl 8 (Pack.enc false) a3]),(3,rE 1 zC x6)] (zF 1 (wW («as»:=[sl 1 zC a1]) [(.tmp 5)] [25] false [] [] (.cons (.same rfl) (.nil)) (wX.ok a1) h5 (.own 2)) (zF 3 (wW («as»:=[rr 2 x4,.fn 137 [.pb [.fn 87 [pp 0,pp 1]]]]) [(.tmp 6),(.tmp 7)] [25,110] false [(0,.box [sl 1 eStr a2]),(1,.box [sl 8 (Pack.enc false) a3]),(2,rE 1 zC x4)] [0,1,2] (.cons (.rf rfl) (.cons (.fn (.cons (.pb (.cons (.fn (.cons (.pt rfl) (.cons (.pt rfl) (.nil)))) (.nil))) (.nil))) (.nil))) (zV.ok x4 a2 a3) h7 (.own 3)) zB)) ?_
 exact zEf (ds:=[rr 3 x6]) (ds':=[so 1 zC x6]) (.cons (.cell (.move (.tail _ (.tail _ (.head _))) (List.length_map _) (by decide) (.nil))) (.nil) (by decide)) rfl
theorem uI.ok (a1:List Int):Ok Tryz.prog 90 [rr 0 a1] [rE 1 zC a1] ((uI a1).map fun r=>(.tu [],[rE 1 zC r])):=by
 unfold uI
 split
 ·exact zMW (enc:=Value.int .i64) (by simp [List.length_mergeSort]) (fun blk off cap w hH hb=>Tryz.slices_Sort_int blk off cap a1 w hH hb (by omega)) (fun _ p cap w=>Tryz.slices_Sort_int_none p cap w)
 ·exact fun _ h=>by cases h
noncomputable def c44:Code:=(Tryz.f44.body).getD .skip
theorem kK.ok (a1:(List Pack)) (a2:(List Int)) (a3:(List Int)) (a4:(List ByteArray)):Ok Tryz.prog 44 [sl 8 (Pack.enc false) a1,sl 1 zC a2,sl 1 zC a3,sl 1 eStr a4] [] ((kK a1 a2 a3 a4).map fun r=>(so 1 zC r,[])):=by
 refine zJ c44 Tryz.f44 0 22 (fun q=>?_)
 unfold kK
 refine J_g 2 [(0,0),(1,1)] [(1,sl 1 zC a2),(2,sl 1 zC a3),(4,pp 0),(7,pp 1)] [(0,.box [sl 8 (Pack.enc false) a1]),(1,.box [sl 1 eStr a4])] zB ?_
 refine J_g 6 [(1,2)] [(1,sl 1 zC a2),(2,sl 1 zC a3),(9,pp 2)] [(0,.box [sl 8 (Pack.enc false) a1]),(1,.box [sl 1 eStr a4]),(2,.box [.fn 87 [pp 1,pp 0]])] zB ?_
 refine zEe [(1,sl 1 zC a2),(2,sl 1 zC a3),(9,pp 2)] [(2,.box [.fn 87 [pp 1,pp 0]]),(0,.box [sl 8 (Pack.enc false) a1]),(1,.box [sl 1 eStr a4])] (by kernel_rfl) ?_
 refine zOv 2 (tm2:=[(1,sl 1 zC a2),(2,sl 1 zC a3),(9,.pb [.fn 87 [pp 1,pp 0]])]) (hp1:=[(0,.box [sl 8 (Pack.enc false) a1]),(1,.box [sl 1 eStr a4])]) (.keep (by kernel_rfl) (.keep (by kernel_rfl) (.pt (.nil)))) (by kernel_rfl) ?_
 refine zA (fun x5 h6=>?_)
 refine zA (fun x7 h8=>?_)
 refine zA (fun x9 h10=>?_)
 refine J_g 14 [] [(10,rr 4 x9)] [(4,rE 1 zC x9)] (zF 2 (zFF [(1,.box [sl 1 eStr a4]),(0,.box [sl 8 (Pack.enc false) a1])] [(2,rE 1 zC x5)] (wW («as»:=[sl 1 zC a2,.fn 89 [.pb [.fn 87 [pp 1,pp 0]]]]) [(.tmp 12),(.tmp 13)] [25,110] false [(1,.box [sl 1 eStr a4]),(0,.box [sl 8 (Pack.enc false) a1])] [1,0] (.cons (.same rfl) (.cons (.fn (.cons (.pb (.cons (.fn (.cons (.pt rfl) (.cons (.pt rfl) (.nil)))) (.nil))) (.nil))) (.nil))) (yR.ok a2 a4 a1) h6 (.own 2))) (zF 4 (zJr (d:=.fn 87 [pp 1,pp 0]) 110 (.tmp 9) [.fn 87 [pp 1,pp 0]]) (zF 5 (zFF [(1,.box [sl 1 eStr a4]),(0,.box [sl 8 (Pack.enc false) a1])] [(3,rE 1 zC x7)] (wW («as»:=[sl 1 zC a3,.fn 87 [pp 1,pp 0]]) [(.tmp 15),(.tmp 16)] [25,110] false [(1,.box [sl 1 eStr a4]),(0,.box [sl 8 (Pack.enc false) a1])] [1,0] (.cons (.same rfl) (.cons (.fn (.cons (.pt rfl) (.cons (.pt rfl) (.nil)))) (.nil))) (wY.ok a3 a4 a1) h8 (.own 3))) (zF 6 (zEK 25 25 2 2 1 8 4 2 3 zC (.tmp 14) (.tmp 17) h10) zB)))) ?_
 refine zA (fun x11 h12=>?_)
 refine J_g 30 [] [(10,rr 4 x9)] [(4,rE 1 zC x11)] (zF 1 (wW («as»:=[rr 4 x9]) [(.tmp 19)] [25] false [(4,rE 1 zC x9)] [4] (.cons (.rf rfl) (.nil)) (uI.ok x9) h12 (.tu (.nil))) zB) ?_
 refine zA (fun u13 h14=>?_)
 refine zM4 (σ':=St.mk' [(10,rr 4 x11)] [(4,rE 1 zC x11)]) (by simp only [rr,zJA h14]) ?_
 refine J_g 62 [] [(8,rr 4 x11)] [(4,rE 1 zC x11)] zB ?_
 exact zEf (ds:=[rr 4 x11]) (ds':=[so 1 zC x11]) (.cons (.cell (.move (.head _) (List.length_map _) (by decide) (.nil))) (.nil) (by decide)) rfl
noncomputable def c168:Code:=(Tryz.f168.body).getD .skip
theorem zBq.ok (a1:Pack):Ok Tryz.prog 168 [.ag (Pack.enc false a1)] [] ((zBq a1).map fun r=>(so 1 eStr r,[])):=by
 refine zJ c168 Tryz.f168 0 9 (fun q=>?_)
 unfold zBq
 refine J_g 2 [(0,0)] [(1,pp 0)] [(0,.box (Pack.enc false a1))] zB ?_
 refine zA (fun x2 h3=>?_)
 refine J_g 6 [] [(2,rr 2 x2)] [(2,rE 1 eStr x2)] (zF 2 (zAZ 32 9 1 1 eStr [a1.Name] [0] [(.tmp 4)] [sv a1.Name]) (zF 5 (zMe 32 32 9 9 1 16 2 1 eStr (.tmp 5) (.tmp 7) h3) zB)) ?_
 exact zEf (ds:=[rr 2 x2]) (ds':=[so 1 eStr x2]) (.cons (.cell (.move (.head _) (List.length_map _) (by decide) (.nil))) (.nil) (by decide)) rfl
noncomputable def zPk:Code:=(Tryz.f170.body).getD .skip
theorem zB8.ok (a1:Term) (a2:ByteArray) (a3:Version):Ok Tryz.prog 170 [.ag (Term.enc a1),sv a2,.ag (Version.enc a3)] [] ((zB8 a1 a2 a3).map fun r=>(bv r,[])):=by
 refine zJ zPk Tryz.f170 0 25 (fun q=>?_)
 unfold zB8
 refine J_g 2 [(0,0),(1,1)] [(1,sv a2),(3,pp 0),(5,pp 1)] [(0,.box (Term.enc a1)),(1,.box (Version.enc a3))] zB ?_
 refine vI (fun h4=>?_) (fun h4=>?_)
 ·refine zA (fun x5 h6=>?_)
  refine vI (fun h7=>?_) (fun h7=>?_)
  ·refine zA (fun x8 h9=>?_)
   refine J_g 6 [] [(6,bv (decide (x8<0)))] [] (wO 4 [(10,bv (seq a1.Name a2))] [] h4 (zAm 8 4 11 true (vD [(.tmp 13),(.tmp 14)] [88,88] (tL.ok a1.Low a3) h6) (wO 11 [(17,bv (decide (x5≤0)))] [] h7 (zAm 15 11 18 true (vD [(.tmp 19),(.tmp 21)] [88,88] (tL.ok a3 a1.High) h9) zB)))) ?_
   exact xJ rfl
  ·refine J_g 6 [] [(6,bv false)] [] (wO 4 [(10,bv (seq a1.Name a2))] [] h4 (zAm 8 4 11 true (vD [(.tmp 13),(.tmp 14)] [88,88] (tL.ok a1.Low a3) h6) (wO 11 [(17,bv (decide (x5≤0)))] [] h7 zB))) ?_
   exact xJ rfl
 ·refine J_g 6 [] [(6,bv false)] [] (wO 4 [(10,bv (seq a1.Name a2))] [] h4 zB) ?_
  exact xJ rfl
noncomputable def zOX:Code:=(Tryz.f169.body).getD .skip
theorem kR.ok (a1:ByteArray) (a2:Term) (a3:Pack):Ok Tryz.prog 169 [sv a1,pp 0,pp 1] [.box (Term.enc a2),.box (Pack.enc false a3)] ((kR a1 a2 a3).map fun r=>(bv r,[.box (Term.enc a2),.box (Pack.enc false a3)])):=by
 refine zJ zOX Tryz.f169 2 10 (fun q=>?_)
 unfold kR
 refine J_d 2 [] [] [] [] [] zB ?_
 refine zA (fun x4 h5=>?_)
 refine J_d 6 [] [0,1,2,4] [(4,bv x4)] [] [] (zF 4 (vD [(.tmp 5),(.tmp 6),(.tmp 8)] [104,9,88] (zB8.ok a2 a1 a3.Version) h5) zB) ?_
 exact xJ rfl
noncomputable def zNA:Code:=(Tryz.f122.body).getD .skip
theorem yX.ok (a1:(List ByteArray)) (a2:Term) (a3:Pack) (q:Wd) (kn:Unit→Option (D×List Ent)) (hk:∀v:Unit,J (q.g Tryz.prog 122 3 19) zNA (atI zNA 7) (St.mk' [] [(0,rE 1 eStr a1),(1,.box (Term.enc a2)),(2,.box (Pack.enc false a3))]) (some v) kn):
  ∀s10:Int,J (q.g Tryz.prog 122 3 19) zNA (atI zNA 52) (St.mk' [(0,rr 0 a1),(1,.fn 169 [pp 1,pp 2]),(7,iv (a1.length:Int)),(8,iv s10)] [(0,rE 1 eStr a1),(1,.box (Term.enc a2)),(2,.box (Pack.enc false a3))]) (yX a1 a2 a3 s10) (Fl.go (fun r:Int=>some (iv r,[rE 1 eStr a1,.box (Term.enc a2),.box (Pack.enc false a3)])) kn):=by
 refine zAq (fun g ih s10=>?_)
 unfold yS
 refine J_d 104 [] [9] [(9,bv (decide (s10< (a1.length:Int))))] [] [] zB ?_
 refine zG 9 (fun h11=>?_) (fun h11=>?_)
 ·refine J_d 1688 [] [5,9] [(5,iv s10)] [] [] zB ?_
  refine zA (fun x12 h13=>?_)
  refine zA (fun x14 h15=>?_)
  refine J_d 3378 [] [16] [(16,bv x14)] [] [] (zF 3 (zCb (kk:=.i64) 32 9 1 0 eStr (.tmp 12) (.tmp 13) h13) (zF 4 (zCK (d:=sv x12) 9 1 0 0 eStr (.tmp 14) h13 (by kernel_rfl)) (zF 5 (zFF [(1,.box (Term.enc a2)),(2,.box (Pack.enc false a3))] [] (zFP 11 [(.tmp 15)] [9] false [(1,.box (Term.enc a2)),(2,.box (Pack.enc false a3))] [1,2] [sv x12] [pp 1,pp 2] (.cons (.same rfl) (.cons (.pt rfl) (.cons (.pt rfl) (.nil)))) (kR.ok x12 a2 a3) h15 (.same rfl rfl))) zB))) ?_
  refine zG 16 (fun h16=>?_) (fun h16=>?_)
  ·refine J_d 13516 [] [0,1,4,5,7,8,16] [(4,iv s10)] [] [] zB ?_
   exact xJ rfl
  ·refine J_d 423 [] [5,8,16] [(8,iv (w64 (s10+1)))] [] [] zB ?_
   exact J_q (J_b (ih (w64 (s10+1)))) rfl
 ·exact yM (hk ()) rfl
theorem yK.ok (a1:(List ByteArray)) (a2:Term) (a3:Pack):Ok Tryz.prog 122 [rr 0 a1,.fn 169 [pp 1,pp 2]] [rE 1 eStr a1,.box (Term.enc a2),.box (Pack.enc false a3)] ((yK a1 a2 a3).map fun r=>(iv r,[rE 1 eStr a1,.box (Term.enc a2),.box (Pack.enc false a3)])):=by
 refine zJ zNA Tryz.f122 3 19 (fun q=>?_)
 unfold yK
 refine J_g 2 [] [(0,rr 0 a1),(1,.fn 169 [pp 1,pp 2])] [(0,rE 1 eStr a1),(1,.box (Term.enc a2)),(2,.box (Pack.enc false a3))] zB ?_
 refine J_d 12 [] [7,8] [(7,iv (a1.length:Int)),(8,iv 0)] [] [] zB ?_
 refine jO (K0:=(fun r:Int=>some (iv r,[rE 1 eStr a1,.box (Term.enc a2),.box (Pack.enc false a3)]))) (fun _=>rfl) (yX.ok a1 a2 a3 q _ (fun v17=>J_j ?_) 0)
 refine J_d 14 [] [4] [(4,iv (-1))] [] [] zB ?_
 exact xJ rfl
noncomputable def c75:Code:=(Tryz.f75.body).getD .skip
theorem yC.ok (a1:(List ByteArray)) (a2:Term) (a3:Pack):Ok Tryz.prog 75 [rr 0 a1,.fn 169 [pp 1,pp 2]] [rE 1 eStr a1,.box (Term.enc a2),.box (Pack.enc false a3)] ((yC a1 a2 a3).map fun r=>(bv r,[rE 1 eStr a1,.box (Term.enc a2),.box (Pack.enc false a3)])):=by
 refine zJ c75 Tryz.f75 3 9 (fun q=>?_)
 unfold yC
 refine J_d 2 [] [] [] [] [] zB ?_
 refine zA (fun x4 h5=>?_)
 refine J_d 6 [] [0,1,4] [(4,bv (decide (x4≥0)))] [] [] (zF 2 (zFF [(0,rE 1 eStr a1),(1,.box (Term.enc a2)),(2,.box (Pack.enc false a3))] [] (wW («as»:=[rr 0 a1,.fn 169 [pp 1,pp 2]]) [(.tmp 5),(.tmp 6)] [32,99] false [(0,rE 1 eStr a1),(1,.box (Term.enc a2)),(2,.box (Pack.enc false a3))] [0,1,2] (.cons (.rf rfl) (.cons (.fn (.cons (.pt rfl) (.cons (.pt rfl) (.nil)))) (.nil))) (yK.ok a1 a2 a3) h5 (.same rfl rfl))) zB) ?_
 exact xJ rfl
noncomputable def zPn:Code:=(Tryz.f135.body).getD .skip
theorem uT.ok (a1:Pack) (a2:Term):Ok Tryz.prog 135 [.ag (Pack.enc false a1),.ag (Term.enc a2)] [] ((uT a1 a2).map fun r=>(bv r,[])):=by
 refine zJ zPn Tryz.f135 0 9 (fun q=>?_)
 unfold uT
 refine J_g 2 [(0,0),(1,1)] [(2,pp 0),(3,pp 1)] [(0,.box (Pack.enc false a1)),(1,.box (Term.enc a2))] zB ?_
 refine zA (fun x3 h4=>?_)
 refine zA (fun x5 h6=>?_)
 refine J_g 6 [] [(4,bv x5)] [] (zF 1 (wW («as»:=[.ag (Pack.enc false a1)]) [(.tmp 5)] [91] false [] [] (.cons (.same rfl) (.nil)) (zBq.ok a1) h4 (.own 2)) (zF 3 (zFF [(2,rE 1 eStr x3),(1,.box (Term.enc a2)),(0,.box (Pack.enc false a1))] [] (wW («as»:=[rr 2 x3,.fn 169 [pp 1,pp 0]]) [(.tmp 6),(.tmp 7)] [32,99] false [(2,rE 1 eStr x3),(1,.box (Term.enc a2)),(0,.box (Pack.enc false a1))] [2,1,0] (.cons (.rf rfl) (.cons (.fn (.cons (.pt rfl) (.cons (.pt rfl) (.nil)))) (.nil))) (yC.ok x3 a2 a1) h6 (.same rfl rfl))) zB)) ?_
 exact xJ rfl
noncomputable def c124:Code:=(Tryz.f124.body).getD .skip
theorem xB.ok (a1:(List Term)) (a2:Pack) (q:Wd) (kn:Unit→Option (D×List Ent)) (hk:∀v:Unit,J (q.g Tryz.prog 124 0 19) c124 (atI c124 7) (St.mk' [] []) (some v) kn):
  ∀s9:Int,J (q.g Tryz.prog 124 0 19) c124 (atI c124 52) (St.mk' [(0,sl 7 Term.enc a1),(1,.fb 135 [.ag (Pack.enc false a2)]),(7,iv (a1.length:Int)),(8,iv s9)] []) (xB a1 a2 s9) (Fl.go (fun r:Int=>some (iv r,[])) kn):=by
 refine zAq (fun g ih s9=>?_)
 unfold yZ
 refine J_d 104 [] [9] [(9,bv (decide (s9< (a1.length:Int))))] [] [] zB ?_
 refine zG 9 (fun h10=>?_) (fun h10=>?_)
 ·refine J_d 1688 [] [5,9] [(5,iv s9)] [] [] zB ?_
  refine zA (fun x11 h12=>?_)
  refine zA (fun x13 h14=>?_)
  refine J_d 3378 [] [16] [(16,bv x13)] [] [] (zF 3 (uN (kk:=.i64) 80 104 7 Term.enc (.tmp 12) (.tmp 13) h12) (zF 5 (zO2 («as»:=[.ag (Term.enc x11)]) (caps:=[.ag (Pack.enc false a2)]) 11 [(.tmp 15)] [104] (uT.ok a2 x11) h14) zB)) ?_
  refine zG 16 (fun h15=>?_) (fun h15=>?_)
  ·refine J_g 13516 [] [(4,iv s9)] [] zB ?_
   exact xJ rfl
  ·refine J_d 423 [] [5,8,16] [(8,iv (w64 (s9+1)))] [] [] zB ?_
   exact J_q (J_b (ih (w64 (s9+1)))) rfl
 ·exact yM (hk ()) rfl
theorem yN.ok (a1:(List Term)) (a2:Pack):Ok Tryz.prog 124 [sl 7 Term.enc a1,.fb 135 [.ag (Pack.enc false a2)]] [] ((yN a1 a2).map fun r=>(iv r,[])):=by
 refine zJ c124 Tryz.f124 0 19 (fun q=>?_)
 unfold yN
 refine J_g 2 [] [(0,sl 7 Term.enc a1),(1,.fb 135 [.ag (Pack.enc false a2)])] [] zB ?_
 refine J_d 12 [] [7,8] [(7,iv (a1.length:Int)),(8,iv 0)] [] [] zB ?_
 refine jO (K0:=(fun r:Int=>some (iv r,[]))) (fun _=>rfl) (xB.ok a1 a2 q _ (fun v16=>J_j ?_) 0)
 refine J_g 14 [] [(4,iv (-1))] [] zB ?_
 exact xJ rfl
noncomputable def c79:Code:=(Tryz.f79.body).getD .skip
theorem yF.ok (a1:(List Term)) (a2:Pack):Ok Tryz.prog 79 [sl 7 Term.enc a1,.fb 135 [.ag (Pack.enc false a2)]] [] ((yF a1 a2).map fun r=>(bv r,[])):=by
 refine zJ c79 Tryz.f79 0 9 (fun q=>?_)
 unfold yF
 refine J_d 2 [] [] [] [] [] zB ?_
 refine zA (fun x3 h4=>?_)
 refine J_g 6 [] [(4,bv (decide (x3≥0)))] [] (zF 2 (wW («as»:=[sl 7 Term.enc a1,.fb 135 [.ag (Pack.enc false a2)]]) [(.tmp 5),(.tmp 6)] [80,105] false [] [] (.cons (.same rfl) (.cons (.fb (.cons (.same rfl) (.nil))) (.nil))) (yN.ok a1 a2) h4 (.same rfl rfl)) zB) ?_
 exact xJ rfl
noncomputable def zOP:Code:=(Tryz.f133.body).getD .skip
theorem uW.ok (a1:Pack) (a2:(List Term)):Ok Tryz.prog 133 [.ag (Pack.enc false a1),sl 7 Term.enc a2] [] ((uW a1 a2).map fun r=>(bv r,[])):=by
 refine zJ zOP Tryz.f133 0 9 (fun q=>?_)
 unfold uW
 refine J_d 2 [(0,0)] [0,2] [(2,pp 0)] [0] [(0,.box (Pack.enc false a1))] zB ?_
 refine zA (fun x3 h4=>?_)
 refine J_g 6 [] [(4,bv x3)] [] (zF 2 (zOu 135 [(.tmp 6)] [.ag (Pack.enc false a1)]) (zF 3 (wW («as»:=[sl 7 Term.enc a2,.fb 135 [.ag (Pack.enc false a1)]]) [(.tmp 5),(.tmp 7)] [80,105] false [] [] (.cons (.same rfl) (.cons (.fb (.cons (.same rfl) (.nil))) (.nil))) (yF.ok a2 a1) h4 (.same rfl rfl)) zB)) ?_
 exact xJ rfl
noncomputable def zOS:Code:=(Tryz.f132.body).getD .skip
theorem zCN.ok (a1:Int) (a2:(List Pack)) (a3:(List Term)):Ok Tryz.prog 132 [iv a1,pp 0,pp 1] [.box [sl 8 (Pack.enc false) a2],.box [sl 7 Term.enc a3]] ((zCN a1 a2 a3).map fun r=>(bv r,[.box [sl 8 (Pack.enc false) a2],.box [sl 7 Term.enc a3]])):=by
 refine zJ zOS Tryz.f132 2 11 (fun q=>?_)
 unfold zCN
 refine J_d 2 [] [] [] [] [] zB ?_
 refine zA (fun x4 h5=>?_)
 refine zA (fun x6 h7=>?_)
 refine J_d 6 [] [0,1,2,4] [(4,bv x6)] [] [] (zF 2 (uN (kk:=.i64) 24 91 8 (Pack.enc false) (.tmp 5) (.tmp 6) h5) (zF 5 (vD [(.tmp 8),(.tmp 9)] [91,80] (uW.ok x4 a3) h7) zB)) ?_
 exact xJ rfl
theorem xW.ok (a1:(List Int)) (a2:(List Pack)) (a3:(List Term)) (q:Wd) (kn:Unit→Option (D×List Ent)) (hk:∀v:Unit,J (q.g Tryz.prog 167 2 19) c167 (atI c167 7) (St.mk' [] [(0,.box [sl 8 (Pack.enc false) a2]),(1,.box [sl 7 Term.enc a3])]) (some v) kn):
  ∀s10:Int,J (q.g Tryz.prog 167 2 19) c167 (atI c167 52) (St.mk' [(0,sl 1 zC a1),(1,.fn 132 [pp 0,pp 1]),(7,iv (a1.length:Int)),(8,iv s10)] [(0,.box [sl 8 (Pack.enc false) a2]),(1,.box [sl 7 Term.enc a3])]) (xW a1 a2 a3 s10) (Fl.go (fun r:Int=>some (iv r,[.box [sl 8 (Pack.enc false) a2],.box [sl 7 Term.enc a3]])) kn):=by
 refine zAq (fun g ih s10=>?_)
 unfold xS
 refine J_d 104 [] [9] [(9,bv (decide (s10< (a1.length:Int))))] [] [] zB ?_
 refine zG 9 (fun h11=>?_) (fun h11=>?_)
 ·refine J_d 1688 [] [5,9] [(5,iv s10)] [] [] zB ?_
  refine zA (fun x12 h13=>?_)
  refine zA (fun x14 h15=>?_)
  refine J_d 3378 [] [16] [(16,bv x14)] [] [] (zF 3 (uN (kk:=.i64) 25 2 1 zC (.tmp 12) (.tmp 13) h13) (zF 5 (zFF [(0,.box [sl 8 (Pack.enc false) a2]),(1,.box [sl 7 Term.enc a3])] [] (zFP 11 [(.tmp 15)] [2] false [(0,.box [sl 8 (Pack.enc false) a2]),(1,.box [sl 7 Term.enc a3])] [0,1] [iv x12] [pp 0,pp 1] (.cons (.same rfl) (.cons (.pt rfl) (.cons (.pt rfl) (.nil)))) (zCN.ok x12 a2 a3) h15 (.same rfl rfl))) zB)) ?_
  refine zG 16 (fun h16=>?_) (fun h16=>?_)
  ·refine J_d 13516 [] [0,1,4,5,7,8,16] [(4,iv s10)] [] [] zB ?_
   exact xJ rfl
  ·refine J_d 423 [] [5,8,16] [(8,iv (w64 (s10+1)))] [] [] zB ?_
   exact J_q (J_b (ih (w64 (s10+1)))) rfl
 ·exact yM (hk ()) rfl
theorem xP.ok (a1:(List Int)) (a2:(List Pack)) (a3:(List Term)):Ok Tryz.prog 167 [sl 1 zC a1,.fn 132 [pp 0,pp 1]] [.box [sl 8 (Pack.enc false) a2],.box [sl 7 Term.enc a3]] ((xP a1 a2 a3).map fun r=>(iv r,[.box [sl 8 (Pack.enc false) a2],.box [sl 7 Term.enc a3]])):=by
 refine zJ c167 Tryz.f167 2 19 (fun q=>?_)
 unfold xP
 refine J_g 2 [] [(0,sl 1 zC a1),(1,.fn 132 [pp 0,pp 1])] [(0,.box [sl 8 (Pack.enc false) a2]),(1,.box [sl 7 Term.enc a3])] zB ?_
 refine J_d 12 [] [7,8] [(7,iv (a1.length:Int)),(8,iv 0)] [] [] zB ?_
 refine jO (K0:=(fun r:Int=>some (iv r,[.box [sl 8 (Pack.enc false) a2],.box [sl 7 Term.enc a3]]))) (fun _=>rfl) (xW.ok a1 a2 a3 q _ (fun v17=>J_j ?_) 0)
 refine J_d 14 [] [4] [(4,iv (-1))] [] [] zB ?_
 exact xJ rfl
theorem yE.ok (a1:(List Int)) (a2:(List Pack)) (a3:(List Term)):Ok Tryz.prog 129 [sl 1 zC a1,.fn 132 [pp 0,pp 1]] [.box [sl 8 (Pack.enc false) a2],.box [sl 7 Term.enc a3]] ((yE a1 a2 a3).map fun r=>(bv r,[.box [sl 8 (Pack.enc false) a2],.box [sl 7 Term.enc a3]])):=by
 refine zJ zO0 Tryz.f129 2 9 (fun q=>?_)
 unfold yE
 refine J_d 2 [] [] [] [] [] zB ?_
 refine zA (fun x4 h5=>?_)
 refine J_d 6 [] [0,1,4] [(4,bv (decide (x4≥0)))] [] [] (zF 2 (zFF [(0,.box [sl 8 (Pack.enc false) a2]),(1,.box [sl 7 Term.enc a3])] [] (wW («as»:=[sl 1 zC a1,.fn 132 [pp 0,pp 1]]) [(.tmp 5),(.tmp 6)] [25,110] false [(0,.box [sl 8 (Pack.enc false) a2]),(1,.box [sl 7 Term.enc a3])] [0,1] (.cons (.same rfl) (.cons (.fn (.cons (.pt rfl) (.cons (.pt rfl) (.nil)))) (.nil))) (xP.ok a1 a2 a3) h5 (.same rfl rfl))) zB) ?_
 exact xJ rfl
noncomputable def zOU:Code:=(Tryz.f134.body).getD .skip
theorem zCM.ok (a1:Int) (a2:Int) (a3:(List Pack)) (a4:Term):Ok Tryz.prog 134 [iv a1,pp 0,pp 1,pp 2] [.box [iv a2],.box [sl 8 (Pack.enc false) a3],.box (Term.enc a4)] ((zCM a1 a2 a3 a4).map fun r=>(bv r,[.box [iv a2],.box [sl 8 (Pack.enc false) a3],.box (Term.enc a4)])):=by
 refine zJ zOU Tryz.f134 3 17 (fun q=>?_)
 unfold zCM
 refine J_d 2 [] [] [] [] [] zB ?_
 refine vI (fun h5=>?_) (fun h5=>?_)
 ·refine zA (fun x6 h7=>?_)
  refine zA (fun x8 h9=>?_)
  refine J_d 6 [] [0,1,2,3,5] [(5,bv x8)] [] [] (wO 3 [(8,bv (a1 !=a2))] [] h5 (zAm 6 3 9 true (uN (kk:=.i64) 24 91 8 (Pack.enc false) (.tmp 10) (.tmp 11) h7) (zAm 9 3 9 true (vD [(.tmp 13),(.tmp 14)] [91,104] (uT.ok x6 a4) h9) zB))) ?_
  exact xJ rfl
 ·refine J_d 6 [] [0,1,2,3,5] [(5,bv false)] [] [] (wO 3 [(8,bv (a1 !=a2))] [] h5 zB) ?_
  exact xJ rfl
theorem xY.ok (a1:(List Int)) (a2:Int) (a3:(List Pack)) (a4:Term) (q:Wd) (kn:Unit→Option (D×List Ent)) (hk:∀v:Unit,J (q.g Tryz.prog 167 3 19) c167 (atI c167 7) (St.mk' [] [(0,.box [iv a2]),(1,.box [sl 8 (Pack.enc false) a3]),(2,.box (Term.enc a4))]) (some v) kn):
  ∀s11:Int,J (q.g Tryz.prog 167 3 19) c167 (atI c167 52) (St.mk' [(0,sl 1 zC a1),(1,.fn 134 [pp 0,pp 1,pp 2]),(7,iv (a1.length:Int)),(8,iv s11)] [(0,.box [iv a2]),(1,.box [sl 8 (Pack.enc false) a3]),(2,.box (Term.enc a4))]) (xY a1 a2 a3 a4 s11) (Fl.go (fun r:Int=>some (iv r,[.box [iv a2],.box [sl 8 (Pack.enc false) a3],.box (Term.enc a4)])) kn):=by
 refine zAq (fun g ih s11=>?_)
 unfold xV
 refine J_d 104 [] [9] [(9,bv (decide (s11< (a1.length:Int))))] [] [] zB ?_
 refine zG 9 (fun h12=>?_) (fun h12=>?_)
 ·refine J_d 1688 [] [5,9] [(5,iv s11)] [] [] zB ?_
  refine zA (fun x13 h14=>?_)
  refine zA (fun x15 h16=>?_)
  refine J_d 3378 [] [16] [(16,bv x15)] [] [] (zF 3 (uN (kk:=.i64) 25 2 1 zC (.tmp 12) (.tmp 13) h14) (zF 5 (zFF [(0,.box [iv a2]),(1,.box [sl 8 (Pack.enc false) a3]),(2,.box (Term.enc a4))] [] (zFP 11 [(.tmp 15)] [2] false [(0,.box [iv a2]),(1,.box [sl 8 (Pack.enc false) a3]),(2,.box (Term.enc a4))] [0,1,2] [iv x13] [pp 0,pp 1,pp 2] (.cons (.same rfl) (.cons (.pt rfl) (.cons (.pt rfl) (.cons (.pt rfl) (.nil))))) (zCM.ok x13 a2 a3 a4) h16 (.same rfl rfl))) zB)) ?_
  refine zG 16 (fun h17=>?_) (fun h17=>?_)
  ·refine J_d 13516 [] [0,1,4,5,7,8,16] [(4,iv s11)] [] [] zB ?_
   exact xJ rfl
  ·refine J_d 423 [] [5,8,16] [(8,iv (w64 (s11+1)))] [] [] zB ?_
   exact J_q (J_b (ih (w64 (s11+1)))) rfl
 ·exact yM (hk ()) rfl
theorem xO.ok (a1:(List Int)) (a2:Int) (a3:(List Pack)) (a4:Term):Ok Tryz.prog 167 [sl 1 zC a1,.fn 134 [pp 0,pp 1,pp 2]] [.box [iv a2],.box [sl 8 (Pack.enc false) a3],.box (Term.enc a4)] ((xO a1 a2 a3 a4).map fun r=>(iv r,[.box [iv a2],.box [sl 8 (Pack.enc false) a3],.box (Term.enc a4)])):=by
 refine zJ c167 Tryz.f167 3 19 (fun q=>?_)
 unfold xO
 refine J_g 2 [] [(0,sl 1 zC a1),(1,.fn 134 [pp 0,pp 1,pp 2])] [(0,.box [iv a2]),(1,.box [sl 8 (Pack.enc false) a3]),(2,.box (Term.enc a4))] zB ?_
 refine J_d 12 [] [7,8] [(7,iv (a1.length:Int)),(8,iv 0)] [] [] zB ?_
 refine jO (K0:=(fun r:Int=>some (iv r,[.box [iv a2],.box [sl 8 (Pack.enc false) a3],.box (Term.enc a4)]))) (fun _=>rfl) (xY.ok a1 a2 a3 a4 q _ (fun v18=>J_j ?_) 0)
 refine J_d 14 [] [4] [(4,iv (-1))] [] [] zB ?_
 exact xJ rfl
theorem yD.ok (a1:(List Int)) (a2:Int) (a3:(List Pack)) (a4:Term):Ok Tryz.prog 129 [sl 1 zC a1,.fn 134 [pp 0,pp 1,pp 2]] [.box [iv a2],.box [sl 8 (Pack.enc false) a3],.box (Term.enc a4)] ((yD a1 a2 a3 a4).map fun r=>(bv r,[.box [iv a2],.box [sl 8 (Pack.enc false) a3],.box (Term.enc a4)])):=by
 refine zJ zO0 Tryz.f129 3 9 (fun q=>?_)
 unfold yD
 refine J_d 2 [] [] [] [] [] zB ?_
 refine zA (fun x5 h6=>?_)
 refine J_d 6 [] [0,1,4] [(4,bv (decide (x5≥0)))] [] [] (zF 2 (zFF [(0,.box [iv a2]),(1,.box [sl 8 (Pack.enc false) a3]),(2,.box (Term.enc a4))] [] (wW («as»:=[sl 1 zC a1,.fn 134 [pp 0,pp 1,pp 2]]) [(.tmp 5),(.tmp 6)] [25,110] false [(0,.box [iv a2]),(1,.box [sl 8 (Pack.enc false) a3]),(2,.box (Term.enc a4))] [0,1,2] (.cons (.same rfl) (.cons (.fn (.cons (.pt rfl) (.cons (.pt rfl) (.cons (.pt rfl) (.nil))))) (.nil))) (xO.ok a1 a2 a3 a4) h6 (.same rfl rfl))) zB) ?_
 exact xJ rfl
noncomputable def c86:Code:=(Tryz.f86.body).getD .skip
theorem zDg.ok (a1:(List Pack)) (a2:(List Int)) (s56:((List zP)×Int)) (x58:Int) (x60:Pack) (q:Wd) (kn:(List zP)→Option (D×List Ent)) (hk:∀v:(List zP),J (q.g Tryz.prog 86 0 77) c86 (aft c86 1868) (St.mk' [(1,sl 1 zC a2),(2,pp 0),(5,rr 5 v),(14,sl 1 zC a2),(15,iv (a2.length:Int)),(16,iv s56.2)] [(0,.box [sl 8 (Pack.enc false) a1]),(5,rE 3 zP.enc v)]) (some v) kn):
  ∀s99:((List zP)×Int),J (q.g Tryz.prog 86 0 77) c86 (atI c86 239228) (St.mk' [(1,sl 1 zC a2),(2,pp 0),(5,rr 5 s99.1),(7,pp 2),(14,sl 1 zC a2),(15,iv (a2.length:Int)),(16,iv s56.2),(58,sl 7 Term.enc x60.Bars),(59,iv (x60.Bars.length:Int)),(60,iv s99.2)] [(0,.box [sl 8 (Pack.enc false) a1]),(2,.box [iv x58]),(5,rE 3 zP.enc s99.1)]) (zDg a1 a2 s56 x58 x60 s99) kn:=by
 refine zAq (fun g ih s99=>?_)
 unfold zCA
 refine J_d 478456 [] [61] [(61,bv (decide (s99.2< (x60.Bars.length:Int))))] [] [] zB ?_
 refine zG 61 (fun h100=>?_) (fun h100=>?_)
 ·refine zA (fun x101 h102=>?_)
  refine J_d 7655320 [(3,6)] [11,12,61] [(11,iv s99.2),(12,pp 6)] [6] [(6,.box (Term.enc x101))] (zF 1 (uN (kk:=.i64) 80 104 7 Term.enc (.tmp 58) (.tmp 60) h102) zB) ?_
  refine zA (fun x103 h104=>?_)
  refine J_d 15310642 [] [12,67] [(67,bv x103)] [6] [] (zF 2 (zFF [(2,.box [iv x58]),(0,.box [sl 8 (Pack.enc false) a1]),(6,.box (Term.enc x101))] [] (wW («as»:=[sl 1 zC a2,.fn 134 [pp 2,pp 0,pp 6]]) [(.tmp 65),(.tmp 66)] [25,110] false [(2,.box [iv x58]),(0,.box [sl 8 (Pack.enc false) a1]),(6,.box (Term.enc x101))] [2,0,6] (.cons (.same rfl) (.cons (.fn (.cons (.pt rfl) (.cons (.pt rfl) (.cons (.pt rfl) (.nil))))) (.nil))) (yD.ok a2 x58 a1 x101) h104 (.same rfl rfl))) zB) ?_
  refine xR (aft c86 3827660) (fun v108:(List zP)=>St.mk' [(1,sl 1 zC a2),(2,pp 0),(5,rr 7 v108),(7,pp 2),(14,sl 1 zC a2),(15,iv (a2.length:Int)),(16,iv s56.2),(58,sl 7 Term.enc x60.Bars),(59,iv (x60.Bars.length:Int)),(60,iv s99.2)] [(0,.box [sl 8 (Pack.enc false) a1]),(2,.box [iv x58]),(7,rE 3 zP.enc v108)]) (fun v108=>?_) (fun jv108=>?_)
  ·refine J_d 1913831 [] [60] [(60,iv (w64 (s99.2+1)))] [] [] zB ?_
   refine vO 7 5 (Nat.le_of_ble_eq_true rfl) (Nat.le_of_ble_eq_true rfl) ?_
   exact J_q (J_b (ih (v108,w64 (s99.2+1)))) rfl
  ·refine zG 67 (fun h105=>?_) (fun h105=>?_)
   ·refine zA (fun x106 h107=>?_)
    refine J_d 30621286 [] [5,11,67] [(5,rr 7 x106)] [5,7] [(7,rE 3 zP.enc x106)] (zF 4 (zAZ 108 125 3 6 zP.enc [({Kind:=3,Pack:=x58,At:=s99.2}:zP)] [0] [(.tmp 71)] [.ag [iv 3,iv x58,iv s99.2]]) (zF 5 (zEK 108 108 125 125 3 24 7 5 6 zP.enc (.tmp 68) (.tmp 72) h107) zB)) ?_
    exact yM (J_j (jv108 x106)) rfl
   ·refine vO 5 7 (Nat.le_of_ble_eq_true rfl) (Nat.le_of_ble_eq_true rfl) ?_
    exact yM (J_j (jv108 s99.1)) rfl
 ·exact yM (hk s99.1) rfl
theorem zCW.ok (a1:(List Pack)) (a2:(List Int)) (s56:((List zP)×Int)) (x58:Int) (x60:Pack) (q:Wd) (kn:(List zP)→Option (D×List Ent)) (hk:∀v:(List zP),J (q.g Tryz.prog 86 0 77) c86 (atI c86 29903) (St.mk' [(1,sl 1 zC a2),(2,pp 0),(5,rr 5 v),(7,pp 2),(8,pp 3),(14,sl 1 zC a2),(15,iv (a2.length:Int)),(16,iv s56.2)] [(0,.box [sl 8 (Pack.enc false) a1]),(2,.box [iv x58]),(3,.box (Pack.enc false x60)),(5,rE 3 zP.enc v)]) (some v) kn):
  ∀s79:((List zP)×Int),J (q.g Tryz.prog 86 0 77) c86 (atI c86 239220) (St.mk' [(1,sl 1 zC a2),(2,pp 0),(5,rr 5 s79.1),(7,pp 2),(8,pp 3),(14,sl 1 zC a2),(15,iv (a2.length:Int)),(16,iv s56.2),(39,sl 1 (eSl false 7 Term.enc) x60.Needs),(40,iv (x60.Needs.length:Int)),(41,iv s79.2)] [(0,.box [sl 8 (Pack.enc false) a1]),(2,.box [iv x58]),(3,.box (Pack.enc false x60)),(5,rE 3 zP.enc s79.1)]) (zCW a1 a2 s56 x58 x60 s79) kn:=by
 refine zAq (fun g ih s79=>?_)
 unfold zCl
 refine J_d 478440 [] [42] [(42,bv (decide (s79.2< (x60.Needs.length:Int))))] [] [] zB ?_
 refine zG 42 (fun h80=>?_) (fun h80=>?_)
 ·refine zA (fun x81 h82=>?_)
  refine J_d 7655064 [(3,6)] [9,10,42] [(9,iv s79.2),(10,pp 6)] [6] [(6,.box [sl 7 Term.enc x81])] (zF 1 (uN (kk:=.i64) 89 80 1 (eSl false 7 Term.enc) (.tmp 39) (.tmp 41) h82) zB) ?_
  refine zA (fun x83 h84=>?_)
  refine J_d 15310130 [] [10,49] [(49,bv (!x83))] [6] [] (zF 2 (zFF [(0,.box [sl 8 (Pack.enc false) a1]),(6,.box [sl 7 Term.enc x81])] [] (wW («as»:=[sl 1 zC a2,.fn 132 [pp 0,pp 6]]) [(.tmp 46),(.tmp 47)] [25,110] false [(0,.box [sl 8 (Pack.enc false) a1]),(6,.box [sl 7 Term.enc x81])] [0,6] (.cons (.same rfl) (.cons (.fn (.cons (.pt rfl) (.cons (.pt rfl) (.nil)))) (.nil))) (yE.ok a2 a1 x81) h84 (.same rfl rfl))) zB) ?_
  refine xR (aft c86 3827532) (fun v88:(List zP)=>St.mk' [(1,sl 1 zC a2),(2,pp 0),(5,rr 7 v88),(7,pp 2),(8,pp 3),(14,sl 1 zC a2),(15,iv (a2.length:Int)),(16,iv s56.2),(39,sl 1 (eSl false 7 Term.enc) x60.Needs),(40,iv (x60.Needs.length:Int)),(41,iv s79.2)] [(0,.box [sl 8 (Pack.enc false) a1]),(2,.box [iv x58]),(3,.box (Pack.enc false x60)),(7,rE 3 zP.enc v88)]) (fun v88=>?_) (fun jv88=>?_)
  ·refine J_d 1913767 [] [41] [(41,iv (w64 (s79.2+1)))] [] [] zB ?_
   refine vO 7 5 (Nat.le_of_ble_eq_true rfl) (Nat.le_of_ble_eq_true rfl) ?_
   exact J_q (J_b (ih (v88,w64 (s79.2+1)))) rfl
  ·refine zG 49 (fun h85=>?_) (fun h85=>?_)
   ·refine zA (fun x86 h87=>?_)
    refine J_d 30620262 [] [5,9,49] [(5,rr 7 x86)] [5,7] [(7,rE 3 zP.enc x86)] (zF 4 (zAZ 108 125 3 6 zP.enc [({Kind:=2,Pack:=x58,At:=s79.2}:zP)] [0] [(.tmp 53)] [.ag [iv 2,iv x58,iv s79.2]]) (zF 5 (zEK 108 108 125 125 3 24 7 5 6 zP.enc (.tmp 50) (.tmp 54) h87) zB)) ?_
    exact yM (J_j (jv88 x86)) rfl
   ·refine vO 5 7 (Nat.le_of_ble_eq_true rfl) (Nat.le_of_ble_eq_true rfl) ?_
    exact yM (J_j (jv88 s79.1)) rfl
 ·exact yM (hk s79.1) rfl
theorem zDa.ok (a1:(List Pack)) (a2:(List Int)) (q:Wd) (kn:(List zP)→Option (D×List Ent)) (hk:∀v:(List zP),J (q.g Tryz.prog 86 0 77) c86 (atI c86 15) (St.mk' [(5,rr 1 v)] [(1,rE 3 zP.enc v)]) (some v) kn):
  ∀s56:((List zP)×Int),J (q.g Tryz.prog 86 0 77) c86 (atI c86 116) (St.mk' [(1,sl 1 zC a2),(2,pp 0),(5,rr 1 s56.1),(14,sl 1 zC a2),(15,iv (a2.length:Int)),(16,iv s56.2)] [(0,.box [sl 8 (Pack.enc false) a1]),(1,rE 3 zP.enc s56.1)]) (zDa a1 a2 s56) kn:=by
 refine zAq (fun g ih s56=>?_)
 unfold zC6
 refine J_d 232 [] [17] [(17,bv (decide (s56.2< (a2.length:Int))))] [] [] zB ?_
 refine zG 17 (fun h57=>?_) (fun h57=>?_)
 ·refine zA (fun x58 h59=>?_)
  refine J_d 3736 [(3,2)] [6,7,17] [(6,iv s56.2),(7,pp 2)] [2] [(2,.box [iv x58])] (zF 1 (uN (kk:=.i64) 25 2 1 zC (.tmp 14) (.tmp 16) h59) zB) ?_
  refine zA (fun x60 h61=>?_)
  refine J_d 7474 [(4,3)] [8] [(8,pp 3)] [3] [(3,.box (Pack.enc false x60))] (zF 2 (uN (kk:=.i64) 24 91 8 (Pack.enc false) (.tmp 21) (.tmp 22) h61) zB) ?_
  refine zA (fun x62 h63=>?_)
  refine zA (fun x64 h65=>?_)
  refine J_d 29900 [] [6,32] [(32,bv (decide (x64≥0)))] [] [] (zF 3 (zMy 25 2 1 zC (.tmp 26) none (some (.tmp 27)) h63) (zF 6 (vD [(.tmp 25),(.tmp 28),(.tmp 30)] [24,25,9] (tV.ok a1 x62 x60.Name) h65) zB)) ?_
  refine xR (atI c86 14951) (fun v69:(List zP)=>St.mk' [(1,sl 1 zC a2),(2,pp 0),(5,rr 5 v69),(7,pp 2),(8,pp 3),(14,sl 1 zC a2),(15,iv (a2.length:Int)),(16,iv s56.2)] [(0,.box [sl 8 (Pack.enc false) a1]),(2,.box [iv x58]),(3,.box (Pack.enc false x60)),(5,rE 3 zP.enc v69)]) (fun v69=>?_) (fun jv69=>?_)
  ·refine J_d 59804 [] [39,40,41] [(39,sl 1 (eSl false 7 Term.enc) x60.Needs),(40,iv (x60.Needs.length:Int)),(41,iv 0)] [] [] zB ?_
   refine zET (zCW.ok a1 a2 s56 x58 x60 q _ (fun v89=>J_j ?_) (v69,0))
   refine J_d 59806 [] [8,58,59,60] [(58,sl 7 Term.enc x60.Bars),(59,iv (x60.Bars.length:Int)),(60,iv 0)] [3] [] zB ?_
   refine zET (zDg.ok a1 a2 s56 x58 x60 q _ (fun v109=>J_j ?_) (v89,0))
   refine J_d 935 [] [16] [(16,iv (w64 (s56.2+1)))] [] [] zB ?_
   refine vO 5 1 (Nat.le_of_ble_eq_true rfl) (Nat.le_of_ble_eq_true rfl) ?_
   exact J_q (J_b (ih (v109,w64 (s56.2+1)))) rfl
  ·refine zG 32 (fun h66=>?_) (fun h66=>?_)
   ·refine zA (fun x67 h68=>?_)
    refine J_d 59802 [] [5,32] [(5,rr 5 x67)] [1,5] [(5,rE 3 zP.enc x67)] (zF 3 (zAZ 108 125 3 4 zP.enc [({Kind:=1,Pack:=x58,At:=0}:zP)] [0] [(.tmp 35)] [.ag [iv 1,iv x58,iv 0]]) (zF 4 (zEK 108 108 125 125 3 24 5 1 4 zP.enc (.tmp 33) (.tmp 36) h68) zB)) ?_
    exact yM (J_j (jv69 x67)) rfl
   ·refine vO 1 5 (Nat.le_of_ble_eq_true rfl) (Nat.le_of_ble_eq_true rfl) ?_
    exact yM (J_j (jv69 s56.1)) rfl
 ·exact yM (hk s56.1) rfl
theorem zDw.ok (a1:(List Pack)) (a2:(List Int)):Ok Tryz.prog 86 [sl 8 (Pack.enc false) a1,sl 1 zC a2] [] ((zDw a1 a2).map fun r=>(so 3 zP.enc r,[])):=by
 refine zJ c86 Tryz.f86 0 77 (fun q=>?_)
 unfold zDw
 refine J_g 2 [(0,0)] [(1,sl 1 zC a2),(2,pp 0)] [(0,.box [sl 8 (Pack.enc false) a1])] zB ?_
 refine J_g 6 [] [(1,sl 1 zC a2),(2,pp 0),(5,rr 1 ([]:List zP))] [(0,.box [sl 8 (Pack.enc false) a1]),(1,rE 3 zP.enc ([]:List zP))] (zF 0 (zAZ 108 125 3 1 zP.enc ([]:List zP) [] [] []) zB) ?_
 refine J_d 28 [] [14,15,16] [(14,sl 1 zC a2),(15,iv (a2.length:Int)),(16,iv 0)] [] [] zB ?_
 refine zET (zDa.ok a1 a2 q _ (fun v110=>J_j ?_) (([]:List zP),0))
 refine J_g 30 [] [(4,rr 1 v110)] [(1,rE 3 zP.enc v110)] zB ?_
 exact zEf (ds:=[rr 1 v110]) (ds':=[so 3 zP.enc v110]) (.cons (.cell (.move (.head _) (List.length_map _) (by decide) (.nil))) (.nil) (by decide)) rfl
noncomputable def c42:Code:=(Tryz.f42.body).getD .skip
theorem wZ.ok (a1:(List Pack)) (a2:(List Int)):Ok Tryz.prog 42 [sl 8 (Pack.enc false) a1,sl 1 zC a2] [] ((wZ a1 a2).map fun r=>(bv r,[])):=by
 refine zJ c42 Tryz.f42 0 10 (fun q=>?_)
 unfold wZ
 refine J_d 2 [] [] [] [] [] zB ?_
 refine zA (fun x3 h4=>?_)
 refine J_g 6 [] [(4,bv ((x3.length:Int)==0))] [] (zF 2 (wW («as»:=[sl 8 (Pack.enc false) a1,sl 1 zC a2]) [(.tmp 5),(.tmp 6)] [24,25] false [] [] (.cons (.same rfl) (.cons (.same rfl) (.nil))) (zDw.ok a1 a2) h4 (.own 0)) zB) ?_
 exact xJ rfl
noncomputable def c92:Code:=(Tryz.f92.body).getD .skip
theorem zAs.ok (a1:(List ByteArray)) (a2:(List Pack)) (a3:(List Int)) (a4:(List Int)):Ok Tryz.prog 92 [sl 1 eStr a1,pp 0,pp 1,pp 2] [.box [sl 8 (Pack.enc false) a2],.box [sl 1 zC a3],.box [sl 1 zC a4]] ((zAs a1 a2 a3 a4).map fun r=>(bv r,[.box [sl 8 (Pack.enc false) a2],.box [sl 1 zC a3],.box [sl 1 zC a4]])):=by
 refine zJ c92 Tryz.f92 3 18 (fun q=>?_)
 unfold zAs
 refine J_d 2 [] [] [] [] [] zB ?_
 refine vI (fun h5=>?_) (fun h5=>?_)
 ·refine zA (fun x6 h7=>?_)
  refine zA (fun x8 h9=>?_)
  refine J_d 6 [] [0,1,2,3,5] [(5,bv x8)] [] [] (wO 3 [(8,bv (decide ((a1.length:Int)≤24)))] [] h5 (zAm 9 3 9 true (wW («as»:=[sl 8 (Pack.enc false) a2,sl 1 zC a3,sl 1 zC a4,sl 1 eStr a1]) [(.tmp 11),(.tmp 12),(.tmp 13),(.tmp 14)] [24,25,25,32] false [] [] (.cons (.same rfl) (.cons (.same rfl) (.cons (.same rfl) (.cons (.same rfl) (.nil))))) (kK.ok a2 a3 a4 a1) h7 (.own 3)) (zAm 10 3 9 true (wW («as»:=[sl 8 (Pack.enc false) a2,rr 3 x6]) [(.tmp 10),(.tmp 15)] [24,25] true [(3,rE 1 zC x6)] [] (.cons (.same rfl) (.cons (zD1 (.head _) (fun _=>rfl) rfl) (.nil))) (wZ.ok a2 x6) h9 (.same rfl rfl) (hbor:=fun _=>⟨fhN,yP⟩)) zB))) ?_
  exact xJ rfl
 ·refine J_d 6 [] [0,1,2,3,5] [(5,bv false)] [] [] (wO 3 [(8,bv (decide ((a1.length:Int)≤24)))] [] h5 zB) ?_
  exact xJ rfl
noncomputable def c93:Code:=(Tryz.f93.body).getD .skip
theorem wN.ok (a1:(List ByteArray)):Ok Tryz.prog 93 [sl 1 eStr a1] [] ((wN a1).map fun r=>(so 1 eStr r,[])):=by
 refine zJ c93 Tryz.f93 0 8 (fun q=>?_)
 unfold wN
 refine J_g 2 [] [(0,sl 1 eStr a1)] [] zB ?_
 refine J_d 12 [] [4] [(4,.nb a1.length)] [] [] (zF 1 (zLi (xs:=a1) 32 9 32 1 eStr (.tmp 3)) zB) ?_
 refine zOJ 4 rfl (fun h2=>?_) ?_
 ·obtain rfl:a1=[]:=List.eq_nil_of_length_eq_zero h2
  refine zM9 (e':=some ([]:List ByteArray)) (by kernel_rfl) ?_
  refine J_g 52 [] [(2,nv)] [] zB ?_
  exact zEf (ds:=[nv]) (ds':=[so 1 eStr ([]:List ByteArray)]) (.cons (.cell (.nilsl true 1 (.nil))) (.nil) (by decide)) rfl
 ·refine zA (fun x3 h4=>?_)
  refine J_g 14 [] [(2,rr 1 x3)] [(1,rE 1 eStr x3)] (zF 0 (zAZ 32 9 1 0 eStr ([]:List ByteArray) [] [] []) (zF 2 (zMe 32 32 9 9 1 16 1 0 eStr (.tmp 5) (.tmp 6) h4) zB)) ?_
  exact zEf (ds:=[rr 1 x3]) (ds':=[so 1 eStr x3]) (.cons (.cell (.move (.head _) (List.length_map _) (by decide) (.nil))) (.nil) (by decide)) rfl
noncomputable def zPa:Code:=(Tryz.f190.body).getD .skip
theorem cmp_isNaN_string.ok (a1:ByteArray):Ok Tryz.prog 190 [sv a1] [] ((cmp_isNaN_string a1).map fun r=>(bv r,[])):=by
 refine zJ zPa Tryz.f190 0 6 (fun q=>?_)
 unfold cmp_isNaN_string
 refine J_g 2 [] [(0,sv a1)] [] zB ?_
 refine J_g 6 [] [(2,bv (!(seq a1 a1)))] [] zB ?_
 exact xJ rfl
noncomputable def c141:Code:=(Tryz.f141.body).getD .skip
theorem tF.ok (a1:ByteArray) (a2:ByteArray):Ok Tryz.prog 141 [sv a1,sv a2] [] ((tF a1 a2).map fun r=>(iv r,[])):=by
 refine zJ c141 Tryz.f141 0 20 (fun q=>?_)
 unfold tF
 refine J_d 2 [] [] [] [] [] zB ?_
 refine zA (fun x3 h4=>?_)
 refine J_d 6 [] [5] [(5,bv x3)] [] [] (zF 1 (vD [(.tmp 7)] [9] (cmp_isNaN_string.ok a1) h4) zB) ?_
 refine zA (fun x5 h6=>?_)
 refine J_g 14 [] [(0,sv a1),(1,sv a2),(5,bv x3),(6,bv x5)] [] (zF 1 (vD [(.tmp 9)] [9] (cmp_isNaN_string.ok a2) h6) zB) ?_
 refine J_d 60 [] [5,11] [(11,bv x3)] [] [] zB ?_
 refine zG 11 (fun h7=>?_) (fun h7=>?_)
 ·refine J_g 488 [] [(12,bv x5)] [] zB ?_
  refine zG 12 (fun h8=>?_) (fun h8=>?_)
  ·refine J_g 1956 [] [(4,iv 0)] [] zB ?_
   exact xJ rfl
  ·refine J_g 490 [] [(4,iv (-1))] [] zB ?_
   exact xJ rfl
 ·refine J_g 124 [] [(0,sv a1),(1,sv a2),(13,bv x5)] [] zB ?_
  refine zG 13 (fun h9=>?_) (fun h9=>?_)
  ·refine J_g 500 [] [(4,iv 1)] [] zB ?_
   exact xJ rfl
  ·refine J_d 252 [] [13,16] [(16,bv (slt a1 a2))] [] [] zB ?_
   refine zG 16 (fun h10=>?_) (fun h10=>?_)
   ·refine J_g 1012 [] [(4,iv (-1))] [] zB ?_
    exact xJ rfl
   ·refine J_g 508 [] [(19,bv (!(slt a1 a2||seq a1 a2)))] [] zB ?_
    refine zG 19 (fun h11=>?_) (fun h11=>?_)
    ·refine J_g 2036 [] [(4,iv 1)] [] zB ?_
     exact xJ rfl
    ·refine J_g 510 [] [(4,iv 0)] [] zB ?_
     exact xJ rfl
noncomputable def c96:Code:=(Tryz.f96.body).getD .skip
theorem vV.ok (a1:(List ByteArray)) (a2:(List ByteArray)) (q:Wd) (kn:Unit→Option (D×List Ent)) (hk:∀v:Unit,J (q.g Tryz.prog 96 0 36) c96 (atI c96 7) (St.mk' [(0,sl 1 eStr a1),(1,sl 1 eStr a2)] []) (some v) kn):
  ∀s12:Int,J (q.g Tryz.prog 96 0 36) c96 (atI c96 52) (St.mk' [(0,sl 1 eStr a1),(1,sl 1 eStr a2),(9,sl 1 eStr a1),(10,iv (a1.length:Int)),(11,iv s12)] []) (vV a1 a2 s12) (Fl.go (fun r:Int=>some (iv r,[])) kn):=by
 refine zAq (fun g ih s12=>?_)
 unfold vP
 refine J_d 104 [] [12] [(12,bv (decide (s12< (a1.length:Int))))] [] [] zB ?_
 refine zG 12 (fun h13=>?_) (fun h13=>?_)
 ·refine zA (fun x14 h15=>?_)
  refine J_g 1688 [] [(0,sl 1 eStr a1),(1,sl 1 eStr a2),(5,iv s12),(6,sv x14),(9,sl 1 eStr a1),(10,iv (a1.length:Int)),(11,iv s12)] [] (zF 1 (uN (kk:=.i64) 32 9 1 eStr (.tmp 9) (.tmp 11) h15) zB) ?_
  refine J_d 6756 [] [19] [(19,bv (decide (s12≥(a2.length:Int))))] [] [] zB ?_
  refine zG 19 (fun h16=>?_) (fun h16=>?_)
  ·refine J_g 27028 [] [(4,iv 1)] [] zB ?_
   exact xJ rfl
  ·refine zA (fun x17 h18=>?_)
   refine J_d 6758 [] [5,7,19] [(7,sv x17)] [] [] (zF 2 (uN (kk:=.i64) 32 9 1 eStr (.tmp 20) (.tmp 21) h18) zB) ?_
   refine zA (fun x19 h20=>?_)
   refine J_g 13518 [] [(0,sl 1 eStr a1),(1,sl 1 eStr a2),(8,iv x19),(9,sl 1 eStr a1),(10,iv (a1.length:Int)),(11,iv s12)] [] (zF 2 (vD [(.tmp 24),(.tmp 25)] [9,9] (tF.ok x14 x17) h20) zB) ?_
   refine J_d 27038 [] [28] [(28,bv (x19 !=0))] [] [] zB ?_
   refine zG 28 (fun h21=>?_) (fun h21=>?_)
   ·refine J_g 108156 [] [(4,iv x19)] [] zB ?_
    exact xJ rfl
   ·refine J_d 423 [] [8,11,28] [(11,iv (w64 (s12+1)))] [] [] zB ?_
    exact J_q (J_b (ih (w64 (s12+1)))) rfl
 ·exact yM (hk ()) rfl
theorem vE.ok (a1:(List ByteArray)) (a2:(List ByteArray)):Ok Tryz.prog 96 [sl 1 eStr a1,sl 1 eStr a2] [] ((vE a1 a2).map fun r=>(iv r,[])):=by
 refine zJ c96 Tryz.f96 0 36 (fun q=>?_)
 unfold vE
 refine J_g 2 [] [(0,sl 1 eStr a1),(1,sl 1 eStr a2)] [] zB ?_
 refine J_d 12 [] [9,10,11] [(9,sl 1 eStr a1),(10,iv (a1.length:Int)),(11,iv 0)] [] [] zB ?_
 refine jO (K0:=(fun r:Int=>some (iv r,[]))) (fun _=>rfl) (vV.ok a1 a2 q _ (fun v22=>J_j ?_) 0)
 refine J_g 28 [] [(35,bv (decide ((a1.length:Int)< (a2.length:Int))))] [] zB ?_
 refine zG 35 (fun h23=>?_) (fun h23=>?_)
 ·refine J_g 116 [] [(4,iv (-1))] [] zB ?_
  exact xJ rfl
 ·refine J_g 30 [] [(4,iv 0)] [] zB ?_
  exact xJ rfl
noncomputable def c95:Code:=(Tryz.f95.body).getD .skip
theorem wC.ok (a1:(List ByteArray)) (a2:(List ByteArray)):Ok Tryz.prog 95 [sl 1 eStr a1,sl 1 eStr a2] [] ((wC a1 a2).map fun r=>(iv r,[])):=by
 refine zJ c95 Tryz.f95 0 18 (fun q=>?_)
 unfold wC
 refine J_g 2 [] [(0,sl 1 eStr a1),(1,sl 1 eStr a2)] [] zB ?_
 refine J_d 12 [] [9] [(9,bv ((a1.length:Int) !=(a2.length:Int)))] [] [] zB ?_
 refine zG 9 (fun h3=>?_) (fun h3=>?_)
 ·refine J_g 52 [] [(4,iv (w64 ((a1.length:Int)-(a2.length:Int))))] [] zB ?_
  exact xJ rfl
 ·refine zA (fun x4 h5=>?_)
  refine J_g 14 [] [(4,iv x4)] [] (zF 2 (vD [(.tmp 15),(.tmp 16)] [32,32] (vE.ok a1 a2) h5) zB) ?_
  exact xJ rfl
theorem wD.ok (a1:(List (List ByteArray))):Ok Tryz.prog 94 [rr 0 a1,.fn 95 []] [rE 1 (eSl true 1 eStr) a1] ((wD a1).map fun r=>(.tu [],[rE 1 (eSl true 1 eStr) r])):=by
 unfold wD
 cases h:zI3 wC a1 with
 |none=>exact fun _ h=>by cases h
 |some ys=>exact zLU wC.ok h (fun n _ enc h1 cf hO blk off cap d w hc hH hb hs hT=>Any.slices_SortFunc_total Tryz.sort94 enc h1 cf hO 95 #[] blk off cap d w (fun args w=>zU _ _ w (by kernel_rfl)) hc hH hb hs hT) (fun p cap fv w=>AnyF.slices_SortFunc_none {Tryz.sort94 with} p cap fv w)
theorem kL.ok (a1:(List ByteArray)) (a2:(List Pack)) (a3:(List Int)) (a4:(List Int)):Ok Tryz.prog 92 [rr 0 a1,pp 1,pp 2,pp 3] [rE 1 eStr a1,.box [sl 8 (Pack.enc false) a2],.box [sl 1 zC a3],.box [sl 1 zC a4]] ((kL a1 a2 a3 a4).map fun r=>(bv r,[rE 1 eStr a1,.box [sl 8 (Pack.enc false) a2],.box [sl 1 zC a3],.box [sl 1 zC a4]])):=by
 refine zJ c92 Tryz.f92 4 18 (fun q=>?_)
 unfold kL
 refine J_d 2 [] [] [] [] [] zB ?_
 refine vI (fun h5=>?_) (fun h5=>?_)
 ·refine zA (fun x6 h7=>?_)
  refine zA (fun x8 h9=>?_)
  refine J_d 6 [] [0,1,2,3,5] [(5,bv x8)] [] [] (wO 3 [(8,bv (decide ((a1.length:Int)≤24)))] [] h5 (zAm 9 3 9 true (wW («as»:=[sl 8 (Pack.enc false) a2,sl 1 zC a3,sl 1 zC a4,rr 0 a1]) [(.tmp 11),(.tmp 12),(.tmp 13),(.tmp 14)] [24,25,25,32] true [(0,rE 1 eStr a1)] [] (.cons (.same rfl) (.cons (.same rfl) (.cons (.same rfl) (.cons (zD1 (.head _) (fun _=>rfl) rfl) (.nil))))) (kK.ok a2 a3 a4 a1) h7 (.own 4) (hbor:=fun _=>⟨fhN,(zDE (zEA (fun _=>(flatK yP zEp)) _))⟩)) (zAm 10 3 9 true (wW («as»:=[sl 8 (Pack.enc false) a2,rr 4 x6]) [(.tmp 10),(.tmp 15)] [24,25] true [(4,rE 1 zC x6)] [] (.cons (.same rfl) (.cons (zD1 (.head _) (fun _=>rfl) rfl) (.nil))) (wZ.ok a2 x6) h9 (.same rfl rfl) (hbor:=fun _=>⟨fhN,yP⟩)) zB))) ?_
  exact xJ rfl
 ·refine J_d 6 [] [0,1,2,3,5] [(5,bv false)] [] [] (wO 3 [(8,bv (decide ((a1.length:Int)≤24)))] [] h5 zB) ?_
  exact xJ rfl
noncomputable def c97:Code:=(Tryz.f97.body).getD .skip
theorem yY.ok (a1:(List (List ByteArray))) (a2:(List Pack)) (a3:(List Int)) (a4:(List Int)) (q:Wd) (kn:Unit→Option (D×List Ent)) (hk:∀v:Unit,J (q.g Tryz.prog 97 4 19) c97 (atI c97 7) (St.mk' [] [(0,rE 1 (eSl true 1 eStr) a1),(1,.box [sl 8 (Pack.enc false) a2]),(2,.box [sl 1 zC a3]),(3,.box [sl 1 zC a4])]) (some v) kn):
  ∀s11:Int,J (q.g Tryz.prog 97 4 19) c97 (atI c97 52) (St.mk' [(0,rr 0 a1),(1,.fn 92 [pp 1,pp 2,pp 3]),(7,iv (a1.length:Int)),(8,iv s11)] [(0,rE 1 (eSl true 1 eStr) a1),(1,.box [sl 8 (Pack.enc false) a2]),(2,.box [sl 1 zC a3]),(3,.box [sl 1 zC a4])]) (yY a1 a2 a3 a4 s11) (Fl.go (fun r:Int=>some (iv r,[rE 1 (eSl true 1 eStr) a1,.box [sl 8 (Pack.enc false) a2],.box [sl 1 zC a3],.box [sl 1 zC a4]])) kn):=by
 refine zAq (fun g ih s11=>?_)
 unfold yQ
 refine J_d 104 [] [9] [(9,bv (decide (s11< (a1.length:Int))))] [] [] zB ?_
 refine zG 9 (fun h12=>?_) (fun h12=>?_)
 ·refine J_g 1688 [] [(0,rr 0 a1),(1,.fn 92 [pp 1,pp 2,pp 3]),(5,iv s11),(7,iv (a1.length:Int)),(8,iv s11)] [(0,rE 1 (eSl true 1 eStr) a1),(1,.box [sl 8 (Pack.enc false) a2]),(2,.box [sl 1 zC a3]),(3,.box [sl 1 zC a4])] zB ?_
  refine zA (fun x13 h14=>?_)
  refine zKM (ix:=s11) (enc:=(eSl true 1 eStr)) 0 0 4 h14 rfl rfl (by kernel_rfl) ?_
  refine zEe [(0,rr 0 a1),(1,.fn 92 [pp 1,pp 2,pp 3]),(5,iv s11),(7,iv (a1.length:Int)),(8,iv s11)] [(0,.lent 1 (a1.map (eSl true 1 eStr)) s11.toNat 0 4 x13.length),(1,.box [sl 8 (Pack.enc false) a2]),(2,.box [sl 1 zC a3]),(3,.box [sl 1 zC a4]),(4,rE 1 eStr x13)] (by kernel_rfl) ?_
  refine zA (fun x15 h16=>?_)
  refine J_g 3378 [] [(0,rr 0 a1),(1,.fn 92 [pp 1,pp 2,pp 3]),(5,iv s11),(7,iv (a1.length:Int)),(8,iv s11),(16,bv x15)] [(0,.lent 1 (a1.map (eSl true 1 eStr)) s11.toNat 0 4 x13.length),(1,.box [sl 8 (Pack.enc false) a2]),(2,.box [sl 1 zC a3]),(3,.box [sl 1 zC a4]),(4,rE 1 eStr x13)] (zF 3 (zNB (kk:=.i64) 28 32 1 0 (eSl true 1 eStr) (.tmp 12) (.tmp 13) s11.toNat 0 4 x13.length h14) (zF 4 (zN0 32 0 (.tmp 14) 1 (eSl true 1 eStr) a1 s11.toNat 0 4 x13.length) (zF 5 (zFF [(4,rE 1 eStr x13),(1,.box [sl 8 (Pack.enc false) a2]),(2,.box [sl 1 zC a3]),(3,.box [sl 1 zC a4])] [] (zFP 11 [(.tmp 15)] [32] false [(4,rE 1 eStr x13),(1,.box [sl 8 (Pack.enc false) a2]),(2,.box [sl 1 zC a3]),(3,.box [sl 1 zC a4])] [4,1,2,3] [rr 4 x13] [pp 1,pp 2,pp 3] (.cons (.rf rfl) (.cons (.pt rfl) (.cons (.pt rfl) (.cons (.pt rfl) (.nil))))) (kL.ok x13 a2 a3 a4) h16 (.same rfl rfl))) zB))) ?_
  refine zMS (ix:=s11) (enc:=(eSl true 1 eStr)) (b:=x13) 0 0 4 h14 rfl rfl rfl rfl rfl (Nat.le_of_ble_eq_true rfl) (List.length_map _) ?_
  rw [zLH h14]
  refine zEe [(0,rr 0 a1),(1,.fn 92 [pp 1,pp 2,pp 3]),(5,iv s11),(7,iv (a1.length:Int)),(8,iv s11),(16,bv x15)] [(0,rE 1 (eSl true 1 eStr) a1),(1,.box [sl 8 (Pack.enc false) a2]),(2,.box [sl 1 zC a3]),(3,.box [sl 1 zC a4])] (by kernel_rfl) ?_
  refine zG 16 (fun h17=>?_) (fun h17=>?_)
  ·refine J_d 13516 [] [0,1,4,5,7,8,16] [(4,iv s11)] [] [] zB ?_
   exact xJ rfl
  ·refine J_d 423 [] [5,8,16] [(8,iv (w64 (s11+1)))] [] [] zB ?_
   exact J_q (J_b (ih (w64 (s11+1)))) rfl
 ·exact yM (hk ()) rfl
theorem yL.ok (a1:(List (List ByteArray))) (a2:(List Pack)) (a3:(List Int)) (a4:(List Int)):Ok Tryz.prog 97 [rr 0 a1,.fn 92 [pp 1,pp 2,pp 3]] [rE 1 (eSl true 1 eStr) a1,.box [sl 8 (Pack.enc false) a2],.box [sl 1 zC a3],.box [sl 1 zC a4]] ((yL a1 a2 a3 a4).map fun r=>(iv r,[rE 1 (eSl true 1 eStr) a1,.box [sl 8 (Pack.enc false) a2],.box [sl 1 zC a3],.box [sl 1 zC a4]])):=by
 refine zJ c97 Tryz.f97 4 19 (fun q=>?_)
 unfold yL
 refine J_g 2 [] [(0,rr 0 a1),(1,.fn 92 [pp 1,pp 2,pp 3])] [(0,rE 1 (eSl true 1 eStr) a1),(1,.box [sl 8 (Pack.enc false) a2]),(2,.box [sl 1 zC a3]),(3,.box [sl 1 zC a4])] zB ?_
 refine J_d 12 [] [7,8] [(7,iv (a1.length:Int)),(8,iv 0)] [] [] zB ?_
 refine jO (K0:=(fun r:Int=>some (iv r,[rE 1 (eSl true 1 eStr) a1,.box [sl 8 (Pack.enc false) a2],.box [sl 1 zC a3],.box [sl 1 zC a4]]))) (fun _=>rfl) (yY.ok a1 a2 a3 a4 q _ (fun v18=>J_j ?_) 0)
 refine J_d 14 [] [4] [(4,iv (-1))] [] [] zB ?_
 exact xJ rfl
noncomputable def c48:Code:=(Tryz.f48.body).getD .skip
theorem kV.ok (a1:(List Pack)) (a2:(List Int)) (a3:(List Int)) (a4:(List ByteArray)) (s34:((List (List ByteArray))×Int)) (q:Wd) (kn:(List ByteArray)→Option (D×List Ent)) (hk:∀v:(List ByteArray),J (q.g Tryz.prog 48 0 71) c48 (atI c48 32403) (St.mk' [(3,sl 1 eStr a4),(10,.fn 92 [pp 0,pp 1,pp 2]),(11,rr 3 s34.1),(12,iv s34.2),(13,rr 4 v)] [(0,.box [sl 8 (Pack.enc false) a1]),(1,.box [sl 1 zC a2]),(2,.box [sl 1 zC a3]),(3,rE 1 (eSl true 1 eStr) s34.1),(4,rE 1 eStr v)]) (some v) kn):
  ∀s45:((List ByteArray)×Int),J (q.g Tryz.prog 48 0 71) c48 (atI c48 259220) (St.mk' [(3,sl 1 eStr a4),(10,.fn 92 [pp 0,pp 1,pp 2]),(11,rr 3 s34.1),(12,iv s34.2),(13,rr 4 s45.1),(37,sl 1 eStr a4),(38,iv (a4.length:Int)),(39,iv s45.2)] [(0,.box [sl 8 (Pack.enc false) a1]),(1,.box [sl 1 zC a2]),(2,.box [sl 1 zC a3]),(3,rE 1 (eSl true 1 eStr) s34.1),(4,rE 1 eStr s45.1)]) (kV a1 a2 a3 a4 s34 s45) kn:=by
 refine zAq (fun g ih s45=>?_)
 unfold zA3
 refine J_d 518440 [] [40] [(40,bv (decide (s45.2< (a4.length:Int))))] [] [] zB ?_
 refine zG 40 (fun h46=>?_) (fun h46=>?_)
 ·refine zA (fun x47 h48=>?_)
  refine J_d 8295064 [] [14,15,40] [(14,iv s45.2),(15,sv x47)] [] [] (zF 1 (uN (kk:=.i64) 32 9 1 eStr (.tmp 37) (.tmp 39) h48) zB) ?_
  refine zA (fun x49 h50=>?_)
  refine J_d 16590130 [] [14,48] [(48,bv ((zNg .i64 x49 1)==1))] [] [] (zF 2 (zN6 (k2:=.i64) 3 3 (.tmp 44) (.tmp 45) h50) (zF 3 (zNJ (k:=.i64) (a:=x49) (b:=1) 3 3 (.tmp 46) (.const (.int .i64 1))) zB)) ?_
  refine xR (aft c48 4147532) (fun v54:(List ByteArray)=>St.mk' [(3,sl 1 eStr a4),(10,.fn 92 [pp 0,pp 1,pp 2]),(11,rr 3 s34.1),(12,iv s34.2),(13,rr 6 v54),(37,sl 1 eStr a4),(38,iv (a4.length:Int)),(39,iv s45.2)] [(0,.box [sl 8 (Pack.enc false) a1]),(1,.box [sl 1 zC a2]),(2,.box [sl 1 zC a3]),(3,rE 1 (eSl true 1 eStr) s34.1),(6,rE 1 eStr v54)]) (fun v54=>?_) (fun jv54=>?_)
  ·refine J_d 2073767 [] [39] [(39,iv (w64 (s45.2+1)))] [] [] zB ?_
   refine vO 6 4 (Nat.le_of_ble_eq_true rfl) (Nat.le_of_ble_eq_true rfl) ?_
   exact J_q (J_b (ih (v54,w64 (s45.2+1)))) rfl
  ·refine zG 48 (fun h51=>?_) (fun h51=>?_)
   ·refine zA (fun x52 h53=>?_)
    refine J_d 33180262 [] [13,15,48] [(13,rr 6 x52)] [4,6] [(6,rE 1 eStr x52)] (zF 2 (zAZ 32 9 1 5 eStr [x47] [0] [(.tmp 50)] [sv x47]) (zF 3 (zEK 32 32 9 9 1 16 6 4 5 eStr (.tmp 49) (.tmp 51) h53) zB)) ?_
    exact yM (J_j (jv54 x52)) rfl
   ·refine vO 4 6 (Nat.le_of_ble_eq_true rfl) (Nat.le_of_ble_eq_true rfl) ?_
    exact yM (J_j (jv54 s45.1)) rfl
 ·exact yM (hk s45.1) rfl
theorem kM.ok (a1:(List Pack)) (a2:(List Int)) (a3:(List Int)) (a4:(List ByteArray)) (q:Wd) (kn:(List (List ByteArray))→Option (D×List Ent)) (hk:∀v:(List (List ByteArray)),J (q.g Tryz.prog 48 0 71) c48 (atI c48 127) (St.mk' [(3,sl 1 eStr a4),(10,.fn 92 [pp 0,pp 1,pp 2]),(11,rr 3 v)] [(0,.box [sl 8 (Pack.enc false) a1]),(1,.box [sl 1 zC a2]),(2,.box [sl 1 zC a3]),(3,rE 1 (eSl true 1 eStr) v)]) (some v) kn):
  ∀s34:((List (List ByteArray))×Int),J (q.g Tryz.prog 48 0 71) c48 (atI c48 1012) (St.mk' [(3,sl 1 eStr a4),(10,.fn 92 [pp 0,pp 1,pp 2]),(11,rr 3 s34.1),(12,iv s34.2)] [(0,.box [sl 8 (Pack.enc false) a1]),(1,.box [sl 1 zC a2]),(2,.box [sl 1 zC a3]),(3,rE 1 (eSl true 1 eStr) s34.1)]) (kM a1 a2 a3 a4 s34) kn:=by
 refine zAq (fun g ih s34=>?_)
 unfold zAL
 refine zA (fun x35 h36=>?_)
 refine J_d 4048 [] [33] [(33,bv (decide (s34.2< (w64 (x35-1)))))] [] [] (zF 3 (zNY (k2:=.i64) 3 3 (.const (.int .i64 1)) (.tmp 30) h36) zB) ?_
 refine zG 33 (fun h37=>?_) (fun h37=>?_)
 ·refine J_g 16200 [] [(3,sl 1 eStr a4),(10,.fn 92 [pp 0,pp 1,pp 2]),(11,rr 3 s34.1),(12,iv s34.2),(13,rr 4 ([]:List ByteArray))] [(0,.box [sl 8 (Pack.enc false) a1]),(1,.box [sl 1 zC a2]),(2,.box [sl 1 zC a3]),(3,rE 1 (eSl true 1 eStr) s34.1),(4,rE 1 eStr ([]:List ByteArray))] (zF 0 (zAZ 32 9 1 4 eStr ([]:List ByteArray) [] [] []) zB) ?_
  refine J_d 64804 [] [37,38,39] [(37,sl 1 eStr a4),(38,iv (a4.length:Int)),(39,iv 0)] [] [] zB ?_
  refine zET (kV.ok a1 a2 a3 a4 s34 q _ (fun v55=>J_j ?_) (([]:List ByteArray),0))
  refine zA (fun x56 h57=>?_)
  refine J_g 32403 [] [(3,sl 1 eStr a4),(10,.fn 92 [pp 0,pp 1,pp 2]),(11,rr 6 x56),(12,iv s34.2)] [(0,.box [sl 8 (Pack.enc false) a1]),(1,.box [sl 1 zC a2]),(2,.box [sl 1 zC a3]),(6,rE 1 (eSl true 1 eStr) x56)] (zF 2 (zM7 (ds:=[rr 4 v55]) (ts:=[4]) 28 32 1 5 (eSl true 1 eStr) [v55] [0] [(.tmp 55)] [rr 4 v55] [(4,rE 1 eStr v55)] (.move (.head _) (List.length_map _) (by decide) (.nil))) (zF 3 (zEK 28 28 32 32 1 24 6 3 5 (eSl true 1 eStr) (.tmp 54) (.tmp 56) h57) zB)) ?_
  refine J_d 4051 [] [12] [(12,iv (w64 (s34.2+1)))] [] [] zB ?_
  refine vO 6 3 (Nat.le_of_ble_eq_true rfl) (Nat.le_of_ble_eq_true rfl) ?_
  exact J_q (J_b (ih (x56,w64 (s34.2+1)))) rfl
 ·exact yM (hk s34.1) rfl
theorem zAS.ok (a1:(List Pack)) (a2:(List Int)) (a3:(List Int)) (a4:(List ByteArray)):Ok Tryz.prog 48 [sl 8 (Pack.enc false) a1,sl 1 zC a2,sl 1 zC a3,sl 1 eStr a4] [] ((zAS a1 a2 a3 a4).map fun r=>(.tu [so 1 eStr r.1,bv r.2],[])):=by
 refine zJ c48 Tryz.f48 0 71 (fun q=>?_)
 unfold zAS
 refine J_g 2 [(0,0),(1,1),(2,2)] [(3,sl 1 eStr a4),(4,pp 0),(5,pp 1),(6,pp 2)] [(0,.box [sl 8 (Pack.enc false) a1]),(1,.box [sl 1 zC a2]),(2,.box [sl 1 zC a3])] zB ?_
 refine J_d 6 [] [4,5,6,10] [(10,.fn 92 [pp 0,pp 1,pp 2])] [] [] zB ?_
 refine zA (fun x5 h6=>?_)
 refine J_d 28 [] [21] [(21,bv (!x5))] [] [] (zF 2 (zFF [(0,.box [sl 8 (Pack.enc false) a1]),(1,.box [sl 1 zC a2]),(2,.box [sl 1 zC a3])] [] (zFP 18 [(.tmp 19)] [32] false [(0,.box [sl 8 (Pack.enc false) a1]),(1,.box [sl 1 zC a2]),(2,.box [sl 1 zC a3])] [0,1,2] [sl 1 eStr a4] [pp 0,pp 1,pp 2] (.cons (.same rfl) (.cons (.pt rfl) (.cons (.pt rfl) (.cons (.pt rfl) (.nil))))) (zAs.ok a4 a1 a2 a3) h6 (.same rfl rfl))) zB) ?_
 refine zG 21 (fun h7=>?_) (fun h7=>?_)
 ·refine J_g 116 [] [(8,nv),(9,bv false)] [] zB ?_
  exact zEf (ds:=[nv,bv false]) (ds':=[so 1 eStr ([]:List ByteArray),bv false]) (.cons (.cell (.nilsl true 1 (.nil))) (.cons (.cell (.keep rfl (.nil))) (.nil) (by decide)) (by decide)) rfl
 ·refine J_d 60 [] [21,24] [(24,bv (decide ((a4.length:Int)>6)))] [] [] zB ?_
  refine zG 24 (fun h8=>?_) (fun h8=>?_)
  ·refine zA (fun x9 h10=>?_)
   refine J_g 244 [] [(8,rr 3 x9),(9,bv true)] [(3,rE 1 eStr x9)] (zF 1 (wW («as»:=[sl 1 eStr a4]) [(.tmp 25)] [32] false [] [] (.cons (.same rfl) (.nil)) (wN.ok a4) h10 (.own 3)) zB) ?_
   exact zEf (ds:=[rr 3 x9,bv true]) (ds':=[so 1 eStr x9,bv true]) (.cons (.cell (.move (.head _) (List.length_map _) (by decide) (.nil))) (.cons (.cell (.keep rfl (.nil))) (.nil) (by decide)) (by decide)) rfl
  ·refine J_g 62 [] [(3,sl 1 eStr a4),(10,.fn 92 [pp 0,pp 1,pp 2]),(11,rr 3 ([]:List (List ByteArray)))] [(0,.box [sl 8 (Pack.enc false) a1]),(1,.box [sl 1 zC a2]),(2,.box [sl 1 zC a3]),(3,rE 1 (eSl false 1 eStr) ([]:List (List ByteArray)))] (zF 0 (zAZ 28 32 1 3 (eSl false 1 eStr) ([]:List (List ByteArray)) [] [] []) zB) ?_
   refine J_d 252 [] [12] [(12,iv 1)] [] [] zB ?_
   refine zET (kM.ok a1 a2 a3 a4 q _ (fun v58=>J_j ?_) (([]:List (List ByteArray)),1))
   refine zA (fun x59 h60=>?_)
   refine J_g 254 [] [(3,sl 1 eStr a4),(10,.fn 92 [pp 0,pp 1,pp 2]),(11,rr 3 v58)] [(0,.box [sl 8 (Pack.enc false) a1]),(1,.box [sl 1 zC a2]),(2,.box [sl 1 zC a3]),(3,rE 1 (eSl true 1 eStr) x59)] (zF 1 (wW («as»:=[rr 3 v58,.fn 95 []]) [(.tmp 58),(.func 95)] [28,115] false [(3,rE 1 (eSl true 1 eStr) v58)] [3] (.cons (.rf rfl) (.cons (.fn (.nil)) (.nil))) (wD.ok v58) h60 (.tu (.nil))) zB) ?_
   refine zA (fun u61 h62=>?_)
   refine zM4 (σ':=St.mk' [(3,sl 1 eStr a4),(10,.fn 92 [pp 0,pp 1,pp 2]),(11,rr 3 x59)] [(0,.box [sl 8 (Pack.enc false) a1]),(1,.box [sl 1 zC a2]),(2,.box [sl 1 zC a3]),(3,rE 1 (eSl true 1 eStr) x59)]) (by simp only [rr,zJA h62]) ?_
   refine zA (fun x63 h64=>?_)
   refine J_g 1020 [] [(3,sl 1 eStr a4),(11,rr 3 x59),(16,iv x63)] [(3,rE 1 (eSl true 1 eStr) x59)] (zF 2 (zFF [(3,rE 1 (eSl true 1 eStr) x59),(0,.box [sl 8 (Pack.enc false) a1]),(1,.box [sl 1 zC a2]),(2,.box [sl 1 zC a3])] [] (wW («as»:=[rr 3 x59,.fn 92 [pp 0,pp 1,pp 2]]) [(.tmp 60),(.tmp 61)] [28,106] false [(3,rE 1 (eSl true 1 eStr) x59),(0,.box [sl 8 (Pack.enc false) a1]),(1,.box [sl 1 zC a2]),(2,.box [sl 1 zC a3])] [3,0,1,2] (.cons (.rf rfl) (.cons (.fn (.cons (.pt rfl) (.cons (.pt rfl) (.cons (.pt rfl) (.nil))))) (.nil))) (yL.ok x59 a1 a2 a3) h64 (.same rfl rfl))) zB) ?_
   refine J_d 2042 [] [64] [(64,bv (decide (x63≥0)))] [] [] zB ?_
   refine zG 64 (fun h65=>?_) (fun h65=>?_)
   ·refine zA (fun x66 h67=>?_)
    refine zEe [(3,sl 1 eStr a4),(11,rr 3 x59),(16,iv x63),(64,bv true)] [(3,rE 1 (eSl true 1 eStr) x59)] (by kernel_rfl) ?_
    refine zM4 (σ':=St.mk' [(3,sl 1 eStr a4),(11,rr 3 (x59.map some)),(16,iv x63),(64,bv true)] [(3,rE 1 (zJW (eSl true 1 eStr)) (x59.map some))]) (by simp only [rE,rr,zLa,List.length_map]) ?_
    refine zA (fun x68 h69=>?_)
    refine zKM (ix:=x63) (enc:=(zJW (eSl true 1 eStr))) 3 0 4 (zHO h69) rfl rfl (by kernel_rfl) ?_
    refine zEe [(3,sl 1 eStr a4),(11,rr 3 (x59.map some)),(16,iv x63),(64,bv true)] [(3,.lent 1 ((x59.map some).map (zJW (eSl true 1 eStr))) x63.toNat 0 4 x68.length),(4,rE 1 eStr x68)] (by kernel_rfl) ?_
    refine J_g 8172 [] [(8,rr 4 x68),(9,bv true)] [(3,.lent 1 ((x59.map some).map (zJW (eSl true 1 eStr))) x63.toNat 0 4 x68.length),(4,rE 1 eStr x68)] (zF 2 (zNB (kk:=.i64) 28 32 1 3 (zJW (eSl true 1 eStr)) (.tmp 65) (.tmp 66) x63.toNat 0 4 x68.length (zHO h69)) (zF 3 (zN0 32 3 (.tmp 67) 1 (zJW (eSl true 1 eStr)) (x59.map some) x63.toNat 0 4 x68.length) zB)) ?_
    refine zNh (ix:=x63) (enc:=(eSl true 1 eStr)) 3 (zHO h69) rfl rfl ?_
    refine zEe [(8,rr 4 x68),(9,bv true)] [(3,rE 1 (zJW (eSl true 1 eStr)) ((x59.map some).set x63.toNat none)),(4,rE 1 eStr x68)] (by kernel_rfl) ?_
    exact zEf (ds:=[rr 4 x68,bv true]) (ds':=[so 1 eStr x68,bv true]) (.cons (.cell (.move (.tail _ (.head _)) (List.length_map _) (by decide) (.nil))) (.cons (.cell (.keep rfl (.nil))) (.nil) (by decide)) (by decide)) rfl
   ·refine zA (fun x70 h71=>?_)
    refine J_g 1022 [] [(8,rr 4 x70),(9,bv true)] [(4,rE 1 eStr x70)] (zF 1 (wW («as»:=[sl 1 eStr a4]) [(.tmp 69)] [32] false [] [] (.cons (.same rfl) (.nil)) (wN.ok a4) h71 (.own 4)) zB) ?_
    exact zEf (ds:=[rr 4 x70,bv true]) (ds':=[so 1 eStr x70,bv true]) (.cons (.cell (.move (.head _) (List.length_map _) (by decide) (.nil))) (.cons (.cell (.keep rfl (.nil))) (.nil) (by decide)) (by decide)) rfl
noncomputable def c20:Code:=(Tryz.f20.body).getD .skip
theorem zBn.ok (a1:(List Pack)) (a2:(List Int)) (a3:(List Int)) (a4:(List ByteArray)) (q:Wd) (kn:Int→Option (D×List Ent)) (hk:∀v:Int,J (q.g Tryz.prog 20 0 55) c20 (atI c20 117) (St.mk' [(0,sl 8 (Pack.enc false) a1),(1,sl 1 zC a2),(2,sl 1 zC a3),(3,sl 1 eStr a4),(8,pp 0),(9,iv v)] [(0,.box [iv 0,nv])]) (some v) kn):
  ∀s15:(Int×Int),J (q.g Tryz.prog 20 0 55) c20 (atI c20 932) (St.mk' [(0,sl 8 (Pack.enc false) a1),(1,sl 1 zC a2),(2,sl 1 zC a3),(3,sl 1 eStr a4),(8,pp 0),(9,iv s15.1),(10,iv s15.2)] [(0,.box [iv 0,nv])]) (zBn a1 a2 a3 a4 s15) kn:=by
 refine zAq (fun g ih s15=>?_)
 unfold zA1
 refine J_d 3728 [] [22] [(22,bv (decide (s15.2< (a4.length:Int))))] [] [] zB ?_
 refine zG 22 (fun h16=>?_) (fun h16=>?_)
 ·refine zA (fun x17 h18=>?_)
  refine zA (fun x19 h20=>?_)
  refine J_d 14920 [] [22,34] [(34,bv (slt x17 x19||seq x17 x19))] [] [] (zF 2 (uN (kk:=.i64) 32 9 1 eStr (.tmp 25) (.tmp 26) h18) (zF 7 (uN (kk:=.i64) 32 9 1 eStr (.tmp 29) (.tmp 31) h20) zB)) ?_
  refine xR (aft c20 7460) (fun v22:Int=>St.mk' [(0,sl 8 (Pack.enc false) a1),(1,sl 1 zC a2),(2,sl 1 zC a3),(3,sl 1 eStr a4),(8,pp 0),(9,iv v22),(10,iv s15.2)] [(0,.box [iv 0,nv])]) (fun v22=>?_) (fun jv22=>?_)
  ·refine J_d 3731 [] [10] [(10,iv (w64 (s15.2+1)))] [] [] zB ?_
   exact J_q (J_b (ih (v22,w64 (s15.2+1)))) rfl
  ·refine zG 34 (fun h21=>?_) (fun h21=>?_)
   ·refine J_d 29842 [] [9,34] [(9,iv 1)] [] [] zB ?_
    exact yM (J_j (jv22 1)) rfl
   ·exact yM (J_j (jv22 s15.1)) rfl
 ·exact yM (hk s15.1) rfl
theorem zBY.ok (a1:(List Pack)) (a2:(List Int)) (a3:(List Int)) (a4:(List ByteArray)):Ok Tryz.prog 20 [sl 8 (Pack.enc false) a1,sl 1 zC a2,sl 1 zC a3,sl 1 eStr a4] [] ((zBY a1 a2 a3 a4).map fun r=>(.ag [iv r.Code,so 1 eStr r.Names],[])):=by
 refine zJ c20 Tryz.f20 0 55 (fun q=>?_)
 unfold zBY
 refine J_d 2 [(0,0)] [8] [(8,pp 0)] [0] [(0,.box [iv 0,nv])] zB ?_
 refine zA (fun x5 h6=>?_)
 refine J_g 6 [] [(0,sl 8 (Pack.enc false) a1),(1,sl 1 zC a2),(2,sl 1 zC a3),(3,sl 1 eStr a4),(8,pp 0),(9,iv x5)] [(0,.box [iv 0,nv])] (zF 3 (vD [(.tmp 13),(.tmp 14),(.tmp 15)] [24,25,25] (zAP.ok a1 a2 a3) h6) zB) ?_
 refine J_d 28 [] [18] [(18,bv (x5==0))] [] [] zB ?_
 refine xR (atI c20 15) (fun v25:Int=>St.mk' [(0,sl 8 (Pack.enc false) a1),(1,sl 1 zC a2),(2,sl 1 zC a3),(3,sl 1 eStr a4),(8,pp 0),(9,iv v25)] [(0,.box [iv 0,nv])]) (fun v25=>?_) (fun jv25=>?_)
 ·refine J_d 60 [] [39] [(39,bv (v25 !=0))] [] [] zB ?_
  refine zG 39 (fun h26=>?_) (fun h26=>?_)
  ·refine J_g 244 [] [(8,pp 0)] [(0,.box [iv v25,nv])] zB ?_
   exact zEf (ds:=[.ag [iv v25,nv]]) (ds':=[.ag [iv v25,so 1 eStr ([]:List ByteArray)]]) (.cons (.ag (.keep rfl (.nilsl true 1 (.nil)))) (.nil) (by decide)) rfl
  ·refine zA (fun x27 h28=>?_)
   refine J_g 62 [] [(8,pp 0),(11,rr 1 x27.1),(12,bv x27.2)] [(0,.box [iv 0,nv]),(1,rE 1 eStr x27.1)] (zF 4 (wW («as»:=[sl 8 (Pack.enc false) a1,sl 1 zC a2,sl 1 zC a3,sl 1 eStr a4]) [(.tmp 43),(.tmp 44),(.tmp 45),(.tmp 46)] [24,25,25,32] false [] [] (.cons (.same rfl) (.cons (.same rfl) (.cons (.same rfl) (.cons (.same rfl) (.nil))))) (zAS.ok a1 a2 a3 a4) h28 (.tu (.cons (.own 1) (.cons (.same rfl rfl) (.nil))))) zB) ?_
   refine J_d 252 [] [12,51] [(51,bv (!x27.2))] [] [] zB ?_
   refine zG 51 (fun h29=>?_) (fun h29=>?_)
   ·refine J_g 1012 [] [(8,pp 0)] [(0,.box [iv 4,nv])] zB ?_
    exact zEf (ds:=[.ag [iv 4,nv]]) (ds':=[.ag [iv 4,so 1 eStr ([]:List ByteArray)]]) (.cons (.ag (.keep rfl (.nilsl true 1 (.nil)))) (.nil) (by decide)) rfl
   ·refine J_g 254 [] [(8,pp 0)] [(0,.box [iv 0,rr 1 x27.1]),(1,rE 1 eStr x27.1)] zB ?_
    exact zEf (ds:=[.ag [iv 0,rr 1 x27.1]]) (ds':=[.ag [iv 0,so 1 eStr x27.1]]) (.cons (.ag (.keep rfl (.move (.tail _ (.head _)) (List.length_map _) (by decide) (.nil)))) (.nil) (by decide)) rfl
 ·refine zG 18 (fun h7=>?_) (fun h7=>?_)
  ·refine J_d 232 [] [10,18] [(10,iv 1)] [] [] zB ?_
   refine zET (zBn.ok a1 a2 a3 a4 q _ (fun v23=>J_j ?_) (x5,1))
   refine J_d 234 [] [37] [(37,bv ((a4.length:Int)==0))] [] [] zB ?_
   refine zG 37 (fun h24=>?_) (fun h24=>?_)
   ·refine J_d 470 [] [9,37] [(9,iv 1)] [] [] zB ?_
    exact yM (J_j (jv25 1)) rfl
   ·exact yM (J_j (jv25 v23)) rfl
  ·exact yM (J_j (jv25 x5)) rfl
noncomputable def c49:Code:=(Tryz.f49.body).getD .skip
theorem zDd.ok (a1:(List Pack)) (a2:(List Int)) (a3:(List Int)) (a4:(List ByteArray)) (q:Wd) (kn:(List Int)→Option (D×List Ent)) (hk:∀v:(List Int),J (q.g Tryz.prog 49 0 46) c49 (atI c49 15) (St.mk' [(9,rr 0 v)] [(0,rE 1 zC v)]) (some v) kn):
  ∀s25:((List Int)×Int),J (q.g Tryz.prog 49 0 46) c49 (atI c49 116) (St.mk' [(0,sl 8 (Pack.enc false) a1),(1,sl 1 zC a2),(2,sl 1 zC a3),(3,sl 1 eStr a4),(9,rr 0 s25.1),(10,iv s25.2)] [(0,rE 1 zC s25.1)]) (zDd a1 a2 a3 a4 s25) kn:=by
 refine zAq (fun g ih s25=>?_)
 unfold zC7
 refine J_d 464 [] [16] [(16,bv (decide (s25.2< (a1.length:Int))))] [] [] zB ?_
 refine zG 16 (fun h26=>?_) (fun h26=>?_)
 ·refine zA (fun x27 h28=>?_)
  refine zA (fun x29 h30=>?_)
  refine J_d 1864 [] [11,16] [(11,bv x29)] [] [] (zF 3 (uN (kk:=.i64) 24 91 8 (Pack.enc false) (.tmp 20) (.tmp 21) h28) (zF 6 (vD [(.tmp 19),(.tmp 24)] [32,9] (wG.ok a4 x27.Name) h30) zB)) ?_
  refine xR (atI c49 3731) (fun v41:Bool=>St.mk' [(0,sl 8 (Pack.enc false) a1),(1,sl 1 zC a2),(2,sl 1 zC a3),(3,sl 1 eStr a4),(9,rr 0 s25.1),(10,iv s25.2),(40,bv v41)] [(0,rE 1 zC s25.1)]) (fun v41=>?_) (fun jv41=>?_)
  ·refine xR (aft c49 932) (fun v45:(List Int)=>St.mk' [(0,sl 8 (Pack.enc false) a1),(1,sl 1 zC a2),(2,sl 1 zC a3),(3,sl 1 eStr a4),(9,rr 2 v45),(10,iv s25.2)] [(2,rE 1 zC v45)]) (fun v45=>?_) (fun jv45=>?_)
   ·refine J_d 467 [] [10] [(10,iv (w64 (s25.2+1)))] [] [] zB ?_
    refine vO 2 0 (Nat.le_of_ble_eq_true rfl) (Nat.le_of_ble_eq_true rfl) ?_
    exact J_q (J_b (ih (v45,w64 (s25.2+1)))) rfl
   ·refine zG 40 (fun h42=>?_) (fun h42=>?_)
    ·refine zA (fun x43 h44=>?_)
     refine J_d 7462 [] [9,40] [(9,rr 2 x43)] [0,2] [(2,rE 1 zC x43)] (zF 2 (zAZ 25 2 1 1 zC [s25.2] [0] [(.tmp 42)] [iv s25.2]) (zF 3 (zEK 25 25 2 2 1 8 2 0 1 zC (.tmp 41) (.tmp 43) h44) zB)) ?_
     exact yM (J_j (jv45 x43)) rfl
    ·refine vO 0 2 (Nat.le_of_ble_eq_true rfl) (Nat.le_of_ble_eq_true rfl) ?_
     exact yM (J_j (jv45 s25.1)) rfl
  ·refine vI (fun h31=>?_) (fun h31=>?_)
   ·refine zA (fun x32 h33=>?_)
    refine vI (fun h34=>?_) (fun h34=>?_)
    ·refine J_d 3730 [] [11,40] [(40,bv true)] [] [] (wO 2 [(27,bv (!x29))] [] h31 (zAm 5 2 28 true (vD [(.tmp 29),(.tmp 30)] [25,2] (wF.ok a2 s25.2) h33) (wO 7 [(32,bv x32)] [] h34 (zGZ 9 (zHa (i:=9) (g:=7) (t:=33) (b:=false) (v:=(.bool true)) (.inl rfl) (by kernel_rfl) (by kernel_rfl)) (zGZ 10 (zHa (i:=10) (g:=9) (t:=35) (b:=true) (v:=undef) (.inr rfl) (by kernel_rfl) (by kernel_rfl)) (zGZ 11 (zHa (i:=11) (g:=9) (t:=35) (b:=true) (v:=undef) (.inr rfl) (by kernel_rfl) (by kernel_rfl)) (zGZ 12 (zHa (i:=12) (g:=9) (t:=35) (b:=true) (v:=undef) (.inr rfl) (by kernel_rfl) (by kernel_rfl)) zB))))))) ?_
     exact yM (J_j (jv41 true)) rfl
    ·refine vI (fun h35=>?_) (fun h35=>?_)
     ·refine zA (fun x36 h37=>?_)
      refine J_d 3730 [] [11,40] [(40,bv x36)] [] [] (wO 2 [(27,bv (!x29))] [] h31 (zAm 5 2 28 true (vD [(.tmp 29),(.tmp 30)] [25,2] (wF.ok a2 s25.2) h33) (wO 7 [(32,bv x32)] [] h34 (zFR 9 7 33 false [(34,bv x29)] [] h35 (zAm 12 9 35 true (vD [(.tmp 36),(.tmp 37)] [25,2] (wF.ok a3 s25.2) h37) zB))))) ?_
      exact yM (J_j (jv41 x36)) rfl
     ·refine J_d 3730 [] [11,40] [(40,bv false)] [] [] (wO 2 [(27,bv (!x29))] [] h31 (zAm 5 2 28 true (vD [(.tmp 29),(.tmp 30)] [25,2] (wF.ok a2 s25.2) h33) (wO 7 [(32,bv x32)] [] h34 (zFR 9 7 33 false [(34,bv x29)] [] h35 zB)))) ?_
      exact yM (J_j (jv41 false)) rfl
   ·refine vI (fun h38=>?_) (fun h38=>?_)
    ·refine zA (fun x39 h40=>?_)
     refine J_d 3730 [] [11,40] [(40,bv x39)] [] [] (wO 2 [(27,bv (!x29))] [] h31 (zFR 9 7 33 false [(34,bv x29)] [] h38 (zAm 12 9 35 true (vD [(.tmp 36),(.tmp 37)] [25,2] (wF.ok a3 s25.2) h40) zB))) ?_
     exact yM (J_j (jv41 x39)) rfl
    ·refine J_d 3730 [] [11,40] [(40,bv false)] [] [] (wO 2 [(27,bv (!x29))] [] h31 (zFR 9 7 33 false [(34,bv x29)] [] h38 zB)) ?_
     exact yM (J_j (jv41 false)) rfl
 ·exact yM (hk s25.1) rfl
theorem zC4.ok (a1:(List Pack)) (a2:(List Int)) (a3:(List Int)) (a4:(List ByteArray)):Ok Tryz.prog 49 [sl 8 (Pack.enc false) a1,sl 1 zC a2,sl 1 zC a3,sl 1 eStr a4] [] ((zC4 a1 a2 a3 a4).map fun r=>(so 1 zC r,[])):=by
 refine zJ c49 Tryz.f49 0 46 (fun q=>?_)
 unfold zC4
 refine J_g 2 [] [(0,sl 8 (Pack.enc false) a1),(1,sl 1 zC a2),(2,sl 1 zC a3),(3,sl 1 eStr a4)] [] zB ?_
 refine J_g 6 [] [(0,sl 8 (Pack.enc false) a1),(1,sl 1 zC a2),(2,sl 1 zC a3),(3,sl 1 eStr a4),(9,rr 0 ([]:List Int))] [(0,rE 1 zC ([]:List Int))] (zF 0 (zAZ 25 2 1 0 zC ([]:List Int) [] [] []) zB) ?_
 refine J_d 28 [] [10] [(10,iv 0)] [] [] zB ?_
 refine zET (zDd.ok a1 a2 a3 a4 q _ (fun v46=>J_j ?_) (([]:List Int),0))
 refine J_g 30 [] [(8,rr 0 v46)] [(0,rE 1 zC v46)] zB ?_
 exact zEf (ds:=[rr 0 v46]) (ds':=[so 1 zC v46]) (.cons (.cell (.move (.head _) (List.length_map _) (by decide) (.nil))) (.nil) (by decide)) rfl
noncomputable def c40:Code:=(Tryz.f40.body).getD .skip
theorem zCw.ok (a1:(List Pack)) (a2:(List Int)):Ok Tryz.prog 40 [sl 8 (Pack.enc false) a1,sl 1 zC a2] [] ((zCw a1 a2).map fun r=>(bv r,[])):=by
 refine zJ c40 Tryz.f40 0 10 (fun q=>?_)
 unfold zCw
 refine J_d 2 [] [] [] [] [] zB ?_
 refine zA (fun x3 h4=>?_)
 refine J_g 6 [] [(4,bv ((x3.length:Int)==0))] [] (zF 2 (wW («as»:=[sl 8 (Pack.enc false) a1,sl 1 zC a2]) [(.tmp 5),(.tmp 6)] [24,25] false [] [] (.cons (.same rfl) (.cons (.same rfl) (.nil))) (uX.ok a1 a2) h4 (.own 0)) zB) ?_
 exact xJ rfl
noncomputable def c21:Code:=(Tryz.f21.body).getD .skip
theorem kN.ok (a1:(List Pack)) (a2:(List Int)) (a3:(List Int)) (a4:(List ByteArray)) (q:Wd) (kn:Unit→Option (D×List Ent)) (hk:∀v:Unit,J (q.g Tryz.prog 21 0 57) c21 (atI c21 15) (St.mk' [(0,sl 8 (Pack.enc false) a1),(1,sl 1 zC a2),(2,sl 1 zC a3),(3,sl 1 eStr a4),(8,pp 0)] [(0,.box [iv 0,nv])]) (some v) kn):
  ∀s14:Int,J (q.g Tryz.prog 21 0 57) c21 (atI c21 116) (St.mk' [(0,sl 8 (Pack.enc false) a1),(1,sl 1 zC a2),(2,sl 1 zC a3),(3,sl 1 eStr a4),(8,pp 0),(10,iv s14)] [(0,.box [iv 0,nv])]) (kN a1 a2 a3 a4 s14) (Fl.go (fun r:yB=>some (.ag [iv r.Code,so 1 eStr r.Names],[])) kn):=by
 refine zAq (fun g ih s14=>?_)
 unfold vG
 refine J_d 464 [] [22] [(22,bv (decide (s14< (a4.length:Int))))] [] [] zB ?_
 refine zG 22 (fun h15=>?_) (fun h15=>?_)
 ·refine zA (fun x16 h17=>?_)
  refine zA (fun x18 h19=>?_)
  refine J_d 1864 [] [22,34] [(34,bv (slt x16 x18||seq x16 x18))] [] [] (zF 2 (uN (kk:=.i64) 32 9 1 eStr (.tmp 25) (.tmp 26) h17) (zF 7 (uN (kk:=.i64) 32 9 1 eStr (.tmp 29) (.tmp 31) h19) zB)) ?_
  refine zG 34 (fun h20=>?_) (fun h20=>?_)
  ·refine J_g 7460 [] [(8,pp 0)] [(0,.box [iv 1,nv])] zB ?_
   exact zEf (ds:=[.ag [iv 1,nv]]) (ds':=[.ag [iv 1,so 1 eStr ([]:List ByteArray)]]) (.cons (.ag (.keep rfl (.nilsl true 1 (.nil)))) (.nil) (by decide)) rfl
  ·refine J_d 467 [] [10,34] [(10,iv (w64 (s14+1)))] [] [] zB ?_
   exact J_q (J_b (ih (w64 (s14+1)))) rfl
 ·exact yM (hk ()) rfl
theorem tZ.ok (a1:(List Pack)) (a2:(List Int)) (a3:(List Int)) (a4:(List ByteArray)):Ok Tryz.prog 21 [sl 8 (Pack.enc false) a1,sl 1 zC a2,sl 1 zC a3,sl 1 eStr a4] [] ((tZ a1 a2 a3 a4).map fun r=>(.ag [iv r.Code,so 1 eStr r.Names],[])):=by
 refine zJ c21 Tryz.f21 0 57 (fun q=>?_)
 unfold tZ
 refine J_d 2 [(0,0)] [8] [(8,pp 0)] [0] [(0,.box [iv 0,nv])] zB ?_
 refine zA (fun x5 h6=>?_)
 refine J_g 12 [] [(0,sl 8 (Pack.enc false) a1),(1,sl 1 zC a2),(2,sl 1 zC a3),(3,sl 1 eStr a4),(8,pp 0),(9,iv x5)] [(0,.box [iv 0,nv])] (zF 3 (vD [(.tmp 11),(.tmp 12),(.tmp 13)] [24,25,25] (kH.ok a1 a2 a3) h6) zB) ?_
 refine J_d 26 [] [16] [(16,bv (x5 !=0))] [] [] zB ?_
 refine zG 16 (fun h7=>?_) (fun h7=>?_)
 ·refine J_g 108 [] [(8,pp 0)] [(0,.box [iv x5,nv])] zB ?_
  exact zEf (ds:=[.ag [iv x5,nv]]) (ds':=[.ag [iv x5,so 1 eStr ([]:List ByteArray)]]) (.cons (.ag (.keep rfl (.nilsl true 1 (.nil)))) (.nil) (by decide)) rfl
 ·refine J_d 28 [] [9,10,16] [(10,iv 1)] [] [] zB ?_
  refine jO (K0:=(fun r:yB=>some (.ag [iv r.Code,so 1 eStr r.Names],[]))) (fun _=>rfl) (kN.ok a1 a2 a3 a4 q _ (fun v21=>J_j ?_) 1)
  refine J_d 60 [] [38] [(38,bv ((a4.length:Int)==0))] [] [] zB ?_
  refine zG 38 (fun h22=>?_) (fun h22=>?_)
  ·refine J_g 244 [] [(8,pp 0)] [(0,.box [iv 1,nv])] zB ?_
   exact zEf (ds:=[.ag [iv 1,nv]]) (ds':=[.ag [iv 1,so 1 eStr ([]:List ByteArray)]]) (.cons (.ag (.keep rfl (.nilsl true 1 (.nil)))) (.nil) (by decide)) rfl
  ·refine zA (fun x23 h24=>?_)
   refine zA (fun x25 h26=>?_)
   refine J_d 124 [] [38,47] [(47,bv (!x25))] [] [] (zF 5 (wW («as»:=[sl 8 (Pack.enc false) a1,sl 1 zC a2,sl 1 zC a3,sl 1 eStr a4]) [(.tmp 41),(.tmp 42),(.tmp 43),(.tmp 44)] [24,25,25,32] false [] [] (.cons (.same rfl) (.cons (.same rfl) (.cons (.same rfl) (.cons (.same rfl) (.nil))))) (zC4.ok a1 a2 a3 a4) h24 (.own 1)) (zF 6 (wW («as»:=[sl 8 (Pack.enc false) a1,rr 1 x23]) [(.tmp 40),(.tmp 45)] [24,25] true [(1,rE 1 zC x23)] [] (.cons (.same rfl) (.cons (zD1 (.head _) (fun _=>rfl) rfl) (.nil))) (zCw.ok a1 x23) h26 (.same rfl rfl) (hbor:=fun _=>⟨fhN,yP⟩)) zB)) ?_
   refine zG 47 (fun h27=>?_) (fun h27=>?_)
   ·refine J_g 500 [] [(8,pp 0)] [(0,.box [iv 4,nv])] zB ?_
    exact zEf (ds:=[.ag [iv 4,nv]]) (ds':=[.ag [iv 4,so 1 eStr ([]:List ByteArray)]]) (.cons (.ag (.keep rfl (.nilsl true 1 (.nil)))) (.nil) (by decide)) rfl
   ·exact zMw
noncomputable def c18:Code:=(Tryz.f18.body).getD .skip
theorem tX.ok (a1:(List Pack)) (a2:(List Int)) (a3:(List Int)) (a4:(List ByteArray)):Ok Tryz.prog 18 [sl 8 (Pack.enc false) a1,sl 1 zC a2,sl 1 zC a3,sl 1 eStr a4] [] ((tX a1 a2 a3 a4).map fun r=>(.ag [iv r.Code,iv r.At,so 1 zC r.Set],[])):=by
 refine zJ c18 Tryz.f18 0 35 (fun q=>?_)
 unfold tX
 refine J_d 2 [(0,0)] [8] [(8,pp 0)] [0] [(0,.box [iv 0,iv 0,nv])] zB ?_
 refine zA (fun x5 h6=>?_)
 refine zA (fun x7 h8=>?_)
 refine zA (fun x9 h10=>?_)
 refine J_d 6 [] [9] [(9,iv x9)] [] [] (zF 2 (vD [(.tmp 10),(.tmp 11)] [24,25] (wM.ok a1 a2) h6) (zF 5 (vD [(.tmp 13),(.tmp 14)] [24,25] (wM.ok a1 a3) h8) (zF 6 (zAZ 25 2 1 1 zC [x5,x7] [0,1] [(.tmp 12),(.tmp 15)] [iv x5,iv x7]) (zF 7 (wW («as»:=[rr 1 [x5,x7]]) [(.tmp 16)] [25] true [(1,rE 1 zC [x5,x7])] [] (.cons (zD1 (.head _) (fun _=>rfl) rfl) (.nil)) (vB.ok [x5,x7]) h10 (.same rfl rfl) (hbor:=fun _=>⟨fhN,yP⟩)) zB)))) ?_
 refine xR (atI c18 29) (fun v12:Bool=>St.mk' [(0,sl 8 (Pack.enc false) a1),(1,sl 1 zC a2),(2,sl 1 zC a3),(3,sl 1 eStr a4),(8,pp 0),(9,iv x9),(24,bv v12)] [(0,.box [iv 0,iv 0,nv])]) (fun v12=>?_) (fun jv12=>?_)
 ·refine xR (atI c18 15) (fun v14:Int=>St.mk' [(0,sl 8 (Pack.enc false) a1),(1,sl 1 zC a2),(2,sl 1 zC a3),(3,sl 1 eStr a4),(8,pp 0),(9,iv v14)] [(0,.box [iv 0,iv 0,nv])]) (fun v14=>?_) (fun jv14=>?_)
  ·refine J_d 60 [] [26] [(26,bv (v14 !=0))] [] [] zB ?_
   refine zG 26 (fun h15=>?_) (fun h15=>?_)
   ·refine J_g 244 [] [(8,pp 0)] [(0,.box [iv v14,iv 0,nv])] zB ?_
    exact zEf (ds:=[.ag [iv v14,iv 0,nv]]) (ds':=[.ag [iv v14,iv 0,so 1 zC ([]:List Int)]]) (.cons (.ag (.keep rfl (.keep rfl (.nilsl true 1 (.nil))))) (.nil) (by decide)) rfl
   ·refine zA (fun x16 h17=>?_)
    refine J_g 62 [] [(8,pp 0)] [(0,.box [iv 0,iv 0,rr 1 x16]),(1,rE 1 zC x16)] (zF 4 (wW («as»:=[sl 8 (Pack.enc false) a1,sl 1 zC a2,sl 1 zC a3,sl 1 eStr a4]) [(.tmp 29),(.tmp 30),(.tmp 31),(.tmp 32)] [24,25,25,32] false [] [] (.cons (.same rfl) (.cons (.same rfl) (.cons (.same rfl) (.cons (.same rfl) (.nil))))) (kK.ok a1 a2 a3 a4) h17 (.own 1)) zB) ?_
    exact zEf (ds:=[.ag [iv 0,iv 0,rr 1 x16]]) (ds':=[.ag [iv 0,iv 0,so 1 zC x16]]) (.cons (.ag (.keep rfl (.keep rfl (.move (.tail _ (.head _)) (List.length_map _) (by decide) (.nil))))) (.nil) (by decide)) rfl
  ·refine zG 24 (fun h13=>?_) (fun h13=>?_)
   ·refine J_d 58 [] [9,24] [(9,iv 2)] [] [] zB ?_
    exact yM (J_j (jv14 2)) rfl
   ·exact yM (J_j (jv14 x9)) rfl
 ·refine vI (fun h11=>?_) (fun h11=>?_)
  ·refine J_d 28 [] [24] [(24,bv (decide ((a4.length:Int)>24)))] [] [] (wO 2 [(19,bv (x9==0))] [] h11 zB) ?_
   exact yM (J_j (jv12 (decide ((a4.length:Int)>24)))) rfl
  ·refine J_d 28 [] [24] [(24,bv false)] [] [] (wO 2 [(19,bv (x9==0))] [] h11 zB) ?_
   exact yM (J_j (jv12 false)) rfl
noncomputable def c17:Code:=(Tryz.f17.body).getD .skip
theorem uZ.ok (a1:(List Pack)) (a2:(List Int)):Ok Tryz.prog 17 [sl 8 (Pack.enc false) a1,sl 1 zC a2] [] ((uZ a1 a2).map fun r=>(bv r,[])):=by
 refine zJ c17 Tryz.f17 0 14 (fun q=>?_)
 unfold uZ
 refine J_d 2 [] [] [] [] [] zB ?_
 refine zA (fun x3 h4=>?_)
 refine vI (fun h5=>?_) (fun h5=>?_)
 ·refine zA (fun x6 h7=>?_)
  refine J_g 6 [] [(4,bv x6)] [] (zF 2 (vD [(.tmp 5),(.tmp 6)] [24,25] (wM.ok a1 a2) h4) (wO 4 [(8,bv (x3==0))] [] h5 (zAm 7 4 9 true (vD [(.tmp 10),(.tmp 11)] [24,25] (wZ.ok a1 a2) h7) zB))) ?_
  exact xJ rfl
 ·refine J_g 6 [] [(4,bv false)] [] (zF 2 (vD [(.tmp 5),(.tmp 6)] [24,25] (wM.ok a1 a2) h4) (wO 4 [(8,bv (x3==0))] [] h5 zB)) ?_
  exact xJ rfl
noncomputable def c12:Code:=(Tryz.f12.body).getD .skip
theorem zCi.ok (a1:(List ByteArray)) (a2:ByteArray) (q:Wd) (kn:Unit→Option (D×List Ent)) (hk:∀v:Unit,J (q.g Tryz.prog 12 0 18) c12 (atI c12 7) (St.mk' [] []) (some v) kn):
  ∀s7:Int,J (q.g Tryz.prog 12 0 18) c12 (atI c12 52) (St.mk' [(0,sl 1 eStr a1),(1,sv a2),(5,iv s7)] []) (zCi a1 a2 s7) (Fl.go (fun r:Bool=>some (bv r,[])) kn):=by
 refine zAq (fun g ih s7=>?_)
 unfold zBM
 refine J_d 208 [] [9] [(9,bv (decide (s7< (a1.length:Int))))] [] [] zB ?_
 refine zG 9 (fun h8=>?_) (fun h8=>?_)
 ·refine zA (fun x9 h10=>?_)
  refine J_d 840 [] [9,17] [(17,bv (seq x9 a2))] [] [] (zF 2 (uN (kk:=.i64) 32 9 1 eStr (.tmp 12) (.tmp 13) h10) zB) ?_
  refine zG 17 (fun h11=>?_) (fun h11=>?_)
  ·refine J_g 3364 [] [(4,bv true)] [] zB ?_
   exact xJ rfl
  ·refine J_d 211 [] [5,17] [(5,iv (w64 (s7+1)))] [] [] zB ?_
   exact J_q (J_b (ih (w64 (s7+1)))) rfl
 ·exact yM (hk ()) rfl
theorem zCE.ok (a1:(List ByteArray)) (a2:ByteArray):Ok Tryz.prog 12 [sl 1 eStr a1,sv a2] [] ((zCE a1 a2).map fun r=>(bv r,[])):=by
 refine zJ c12 Tryz.f12 0 18 (fun q=>?_)
 unfold zCE
 refine J_g 2 [] [(0,sl 1 eStr a1),(1,sv a2)] [] zB ?_
 refine J_d 12 [] [5] [(5,iv 0)] [] [] zB ?_
 refine jO (K0:=(fun r:Bool=>some (bv r,[]))) (fun _=>rfl) (zCi.ok a1 a2 q _ (fun v12=>J_j ?_) 0)
 refine J_g 14 [] [(4,bv false)] [] zB ?_
 exact xJ rfl
noncomputable def c5:Code:=(Tryz.f5.body).getD .skip
theorem zDb.ok (x5:((List Pack)×(List Int)×(List Int)×(List ByteArray))) (x7:yB) (s64:Int) (q:Wd) (kn:(List ByteArray)→Option (D×List Ent)) (hk:∀v:(List ByteArray),J (q.g Tryz.prog 5 0 122) c5 (atI c5 261779) (St.mk' [(3,rr 0 x5.1),(4,sl 1 zC x5.2.1),(5,rr 1 x5.2.2.1),(6,sl 1 eStr x5.2.2.2),(7,pp 3),(9,iv s64),(10,rr 4 v)] [(0,rE 8 (Pack.enc false) x5.1),(1,rE 1 zC x5.2.2.1),(2,rE 1 eStr x7.Names),(3,.box [iv x7.Code,rr 2 x7.Names]),(4,rE 1 eStr v)]) (some v) kn):
  ∀s77:((List ByteArray)×Int),J (q.g Tryz.prog 5 0 122) c5 (atI c5 2094228) (St.mk' [(3,rr 0 x5.1),(4,sl 1 zC x5.2.1),(5,rr 1 x5.2.2.1),(6,sl 1 eStr x5.2.2.2),(7,pp 3),(9,iv s64),(10,rr 4 s77.1),(11,iv s77.2)] [(0,rE 8 (Pack.enc false) x5.1),(1,rE 1 zC x5.2.2.1),(2,rE 1 eStr x7.Names),(3,.box [iv x7.Code,rr 2 x7.Names]),(4,rE 1 eStr s77.1)]) (zDb x5 x7 s64 s77) kn:=by
 refine zAq (fun g ih s77=>?_)
 unfold zC9
 refine J_d 8376912 [] [90] [(90,bv (decide (s77.2< (x5.2.2.2.length:Int))))] [] [] zB ?_
 refine zG 90 (fun h78=>?_) (fun h78=>?_)
 ·refine zA (fun x79 h80=>?_)
  refine J_d 33507656 [] [90,98] [(98,bv ((zNg .i64 x79 1)==1))] [] [] (zF 3 (zN6 (k2:=.u64) 3 39 (.tmp 93) (.tmp 95) h80) (zF 4 (zNJ (k:=.i64) (a:=x79) (b:=1) 3 3 (.tmp 96) (.const (.int .i64 1))) zB)) ?_
  refine xR (aft c5 16753828) (fun v86:(List ByteArray)=>St.mk' [(3,rr 0 x5.1),(4,sl 1 zC x5.2.1),(5,rr 1 x5.2.2.1),(6,sl 1 eStr x5.2.2.2),(7,pp 3),(9,iv s64),(10,rr 6 v86),(11,iv s77.2)] [(0,rE 8 (Pack.enc false) x5.1),(1,rE 1 zC x5.2.2.1),(2,rE 1 eStr x7.Names),(3,.box [iv x7.Code,rr 2 x7.Names]),(6,rE 1 eStr v86)]) (fun v86=>?_) (fun jv86=>?_)
  ·refine J_d 8376915 [] [11] [(11,iv (w64 (s77.2+1)))] [] [] zB ?_
   refine vO 6 4 (Nat.le_of_ble_eq_true rfl) (Nat.le_of_ble_eq_true rfl) ?_
   exact J_q (J_b (ih (v86,w64 (s77.2+1)))) rfl
  ·refine zG 98 (fun h81=>?_) (fun h81=>?_)
   ·refine zA (fun x82 h83=>?_)
    refine zA (fun x84 h85=>?_)
    refine J_d 67015314 [] [10,98] [(10,rr 6 x84)] [4,6] [(6,rE 1 eStr x84)] (zF 3 (uN (kk:=.i64) 32 9 1 eStr (.tmp 100) (.tmp 101) h83) (zF 5 (zAZ 32 9 1 5 eStr [x82] [0] [(.tmp 103)] [sv x82]) (zF 6 (zEK 32 32 9 9 1 16 6 4 5 eStr (.tmp 99) (.tmp 104) h85) zB))) ?_
    exact yM (J_j (jv86 x84)) rfl
   ·refine vO 4 6 (Nat.le_of_ble_eq_true rfl) (Nat.le_of_ble_eq_true rfl) ?_
    exact yM (J_j (jv86 s77.1)) rfl
 ·exact yM (hk s77.1) rfl
theorem zDl.ok (x5:((List Pack)×(List Int)×(List Int)×(List ByteArray))) (x7:yB) (q:Wd) (kn:Unit→Option (D×List Ent)) (hk:∀v:Unit,J (q.g Tryz.prog 5 0 122) c5 (atI c5 1023) (St.mk' [] []) (some v) kn):
  ∀s64:Int,J (q.g Tryz.prog 5 0 122) c5 (atI c5 8180) (St.mk' [(3,rr 0 x5.1),(4,sl 1 zC x5.2.1),(5,rr 1 x5.2.2.1),(6,sl 1 eStr x5.2.2.2),(7,pp 3),(9,iv s64)] [(0,rE 8 (Pack.enc false) x5.1),(1,rE 1 zC x5.2.2.1),(2,rE 1 eStr x7.Names),(3,.box [iv x7.Code,rr 2 x7.Names])]) (zDl x5 x7 s64) (Fl.go (fun r:Bool=>some (bv r,[])) kn):=by
 refine zAq (fun g ih s64=>?_)
 unfold zCn
 refine zA (fun x65 h66=>?_)
 refine J_d 32720 [] [83] [(83,bv (decide (s64<x65)))] [] [] (zF 4 (zNY (k2:=.u64) 3 39 (.const (.int .i64 1)) (.tmp 81) h66) zB) ?_
 refine zG 83 (fun h67=>?_) (fun h67=>?_)
 ·refine J_g 130888 [] [(3,rr 0 x5.1),(4,sl 1 zC x5.2.1),(5,rr 1 x5.2.2.1),(6,sl 1 eStr x5.2.2.2),(7,pp 3),(9,iv s64),(10,rr 4 ([]:List ByteArray))] [(0,rE 8 (Pack.enc false) x5.1),(1,rE 1 zC x5.2.2.1),(2,rE 1 eStr x7.Names),(3,.box [iv x7.Code,rr 2 x7.Names]),(4,rE 1 eStr ([]:List ByteArray))] (zF 0 (zAZ 32 9 1 4 eStr ([]:List ByteArray) [] [] []) zB) ?_
  refine J_d 523556 [] [11] [(11,iv 0)] [] [] zB ?_
  refine zET (zDb.ok x5 x7 s64 q _ (fun v87=>J_j ?_) (([]:List ByteArray),0))
  refine xR (atI c5 523559) (fun v93:Bool=>St.mk' [(3,rr 0 x5.1),(4,sl 1 zC x5.2.1),(5,rr 1 x5.2.2.1),(6,sl 1 eStr x5.2.2.2),(7,pp 3),(9,iv s64),(121,bv v93)] [(0,rE 8 (Pack.enc false) x5.1),(1,rE 1 zC x5.2.2.1),(2,rE 1 eStr x7.Names),(3,.box [iv x7.Code,rr 2 x7.Names])]) (fun v93=>?_) (fun jv93=>?_)
  ·refine zG 121 (fun h94=>?_) (fun h94=>?_)
   ·refine J_g 2094236 [] [(2,bv false)] [] zB ?_
    exact xJ rfl
   ·refine J_d 32723 [] [9,121] [(9,iv (w64 (s64+1)))] [] [] zB ?_
    exact J_q (J_b (ih (w64 (s64+1)))) rfl
  ·refine vI (fun h88=>?_) (fun h88=>?_)
   ·refine zA (fun x89 h90=>?_)
    refine zA (fun x91 h92=>?_)
    refine J_d 523558 [] [10,121] [(121,bv x91)] [4] [] (wO 6 [(111,bv (decide ((v87.length:Int)< (x7.Names.length:Int))))] [] h88 (zAm 12 6 112 true (wW («as»:=[rr 0 x5.1,sl 1 zC x5.2.1,rr 1 x5.2.2.1,rr 4 v87]) [(.tmp 114),(.tmp 115),(.tmp 116),(.tmp 117)] [24,25,25,32] true [(0,rE 8 (Pack.enc false) x5.1),(1,rE 1 zC x5.2.2.1),(4,rE 1 eStr v87)] [] (.cons (zD1 (.head _) (Pack.ro false) rfl) (.cons (.same rfl) (.cons (zD1 (.tail _ (.head _)) (fun _=>rfl) rfl) (.cons (zD1 (.tail _ (.tail _ (.head _))) (fun _=>rfl) rfl) (.nil))))) (tX.ok x5.1 x5.2.1 x5.2.2.1 v87) h90 (.ag (.cons (.same rfl rfl) (.cons (.same rfl rfl) (.cons (.own 5) (.nil))))) (hbor:=fun _=>⟨fhN,(zGc (jN.fl _))⟩)) (zAm 14 6 112 true (wW («as»:=[rr 0 x5.1,rr 5 x89.Set]) [(.tmp 113),(.tmp 119)] [24,25] true [(0,rE 8 (Pack.enc false) x5.1),(5,rE 1 zC x89.Set)] [] (.cons (zD1 (.head _) (Pack.ro false) rfl) (.cons (zD1 (.tail _ (.head _)) (fun _=>rfl) rfl) (.nil))) (uZ.ok x5.1 x89.Set) h92 (.same rfl rfl) (hbor:=fun _=>⟨fhN,yP⟩)) zB))) ?_
    exact yM (J_j (jv93 x91)) rfl
   ·refine J_d 523558 [] [10,121] [(121,bv false)] [4] [] (wO 6 [(111,bv (decide ((v87.length:Int)< (x7.Names.length:Int))))] [] h88 zB) ?_
    exact yM (J_j (jv93 false)) rfl
 ·exact yM (hk ()) rfl
theorem zBZ.ok (x5:((List Pack)×(List Int)×(List Int)×(List ByteArray))) (x7:yB) (q:Wd) (kn:Unit→Option (D×List Ent)) (hk:∀v:Unit,J (q.g Tryz.prog 5 0 122) c5 (atI c5 255) (St.mk' [(3,rr 0 x5.1),(4,sl 1 zC x5.2.1),(5,rr 1 x5.2.2.1),(6,sl 1 eStr x5.2.2.2),(7,pp 3)] [(0,rE 8 (Pack.enc false) x5.1),(1,rE 1 zC x5.2.2.1),(2,rE 1 eStr x7.Names),(3,.box [iv x7.Code,rr 2 x7.Names])]) (some v) kn):
  ∀s25:Int,J (q.g Tryz.prog 5 0 122) c5 (atI c5 2036) (St.mk' [(3,rr 0 x5.1),(4,sl 1 zC x5.2.1),(5,rr 1 x5.2.2.1),(6,sl 1 eStr x5.2.2.2),(7,pp 3),(8,iv s25)] [(0,rE 8 (Pack.enc false) x5.1),(1,rE 1 zC x5.2.2.1),(2,rE 1 eStr x7.Names),(3,.box [iv x7.Code,rr 2 x7.Names])]) (zBZ x5 x7 s25) (Fl.go (fun r:Bool=>some (bv r,[])) kn):=by
 refine zAq (fun g ih s25=>?_)
 unfold zD8
 refine J_d 8144 [] [58] [(58,bv (decide (s25< (x7.Names.length:Int))))] [] [] zB ?_
 refine zG 58 (fun h26=>?_) (fun h26=>?_)
 ·refine zA (fun x27 h28=>?_)
  refine zA (fun x29 h30=>?_)
  refine J_d 32584 [] [58,68] [(68,bv (!x29))] [] [] (zF 4 (zCb (kk:=.i64) 32 9 1 2 eStr (.tmp 63) (.tmp 64) h28) (zF 5 (zCK (d:=sv x27) 9 1 2 0 eStr (.tmp 65) h28 (by kernel_rfl)) (zF 6 (vD [(.tmp 61),(.tmp 66)] [32,9] (zCE.ok x5.2.2.2 x27) h30) zB))) ?_
  refine zG 68 (fun h31=>?_) (fun h31=>?_)
  ·refine J_g 130340 [] [(2,bv false)] [] zB ?_
   exact xJ rfl
  ·refine J_d 8147 [] [8,68] [(8,iv (w64 (s25+1)))] [] [] zB ?_
   exact J_q (J_b (ih (w64 (s25+1)))) rfl
 ·exact yM (hk ()) rfl
theorem zCB.ok (a1:(List Int)):Ok Tryz.prog 5 [sl 1 eU8 a1] [] ((zCB a1).map fun r=>(bv r,[])):=by
 refine zJ c5 Tryz.f5 0 122 (fun q=>?_)
 unfold zCB
 refine J_g 2 [] [(0,sl 1 eU8 a1)] [] zB ?_
 refine zA (fun x2 h3=>?_)
 refine J_g 12 [] [(0,sl 1 eU8 a1),(13,bv x2)] [] (zF 1 (vD [(.tmp 12)] [22] (zDz.ok a1) h3) zB) ?_
 refine zG 13 (fun h4=>?_) (fun h4=>?_)
 ·refine J_g 52 [] [(2,bv true)] [] zB ?_
  exact xJ rfl
 ·refine zA (fun x5 h6=>?_)
  refine J_g 14 [] [(3,rr 0 x5.1),(4,sl 1 zC x5.2.1),(5,rr 1 x5.2.2.1),(6,sl 1 eStr x5.2.2.2)] [(0,rE 8 (Pack.enc false) x5.1),(1,rE 1 zC x5.2.2.1)] (zF 1 (wW («as»:=[sl 1 eU8 a1]) [(.tmp 15)] [22] false [] [] (.cons (.same rfl) (.nil)) (vU.ok a1) h6 (.tu (.cons (.own 0) (.cons (.same rfl rfl) (.cons (.own 1) (.cons (.same rfl rfl) (.nil))))))) zB) ?_
  refine zA (fun x7 h8=>?_)
  refine J_g 30 [(5,3)] [(3,rr 0 x5.1),(4,sl 1 zC x5.2.1),(5,rr 1 x5.2.2.1),(6,sl 1 eStr x5.2.2.2),(7,pp 3)] [(0,rE 8 (Pack.enc false) x5.1),(1,rE 1 zC x5.2.2.1),(2,rE 1 eStr x7.Names),(3,.box [iv x7.Code,rr 2 x7.Names])] (zF 4 (wW («as»:=[rr 0 x5.1,sl 1 zC x5.2.1,rr 1 x5.2.2.1,sl 1 eStr x5.2.2.2]) [(.tmp 21),(.tmp 22),(.tmp 23),(.tmp 24)] [24,25,25,32] true [(0,rE 8 (Pack.enc false) x5.1),(1,rE 1 zC x5.2.2.1)] [] (.cons (zD1 (.head _) (Pack.ro false) rfl) (.cons (.same rfl) (.cons (zD1 (.tail _ (.head _)) (fun _=>rfl) rfl) (.cons (.same rfl) (.nil))))) (zBY.ok x5.1 x5.2.1 x5.2.2.1 x5.2.2.2) h8 (.ag (.cons (.same rfl rfl) (.cons (.own 2) (.nil)))) (hbor:=fun _=>⟨fhN,(zGc (yB.fl _))⟩)) zB) ?_
  refine J_d 124 [] [28] [(28,bv (x7.Code !=0))] [] [] zB ?_
  refine zG 28 (fun h9=>?_) (fun h9=>?_)
  ·refine zA (fun x10 h11=>?_)
   refine J_g 500 [] [(2,bv (x10.Code==x7.Code))] [] (zF 4 (wW («as»:=[rr 0 x5.1,sl 1 zC x5.2.1,rr 1 x5.2.2.1,sl 1 eStr x5.2.2.2]) [(.tmp 29),(.tmp 30),(.tmp 31),(.tmp 32)] [24,25,25,32] true [(0,rE 8 (Pack.enc false) x5.1),(1,rE 1 zC x5.2.2.1)] [] (.cons (zD1 (.head _) (Pack.ro false) rfl) (.cons (.same rfl) (.cons (zD1 (.tail _ (.head _)) (fun _=>rfl) rfl) (.cons (.same rfl) (.nil))))) (tZ.ok x5.1 x5.2.1 x5.2.2.1 x5.2.2.2) h11 (.ag (.cons (.same rfl rfl) (.cons (.own 4) (.nil)))) (hbor:=fun _=>⟨fhN,(zGc (yB.fl _))⟩)) zB) ?_
   exact xJ rfl
  ·refine xR (atI c5 253) (fun v17:Bool=>St.mk' [(3,rr 0 x5.1),(4,sl 1 zC x5.2.1),(5,rr 1 x5.2.2.1),(6,sl 1 eStr x5.2.2.2),(7,pp 3),(53,bv v17)] [(0,rE 8 (Pack.enc false) x5.1),(1,rE 1 zC x5.2.2.1),(2,rE 1 eStr x7.Names),(3,.box [iv x7.Code,rr 2 x7.Names])]) (fun v17=>?_) (fun jv17=>?_)
   ·refine zG 53 (fun h18=>?_) (fun h18=>?_)
    ·refine J_g 1012 [] [(2,bv false)] [] zB ?_
     exact xJ rfl
    ·refine J_d 508 [] [8,53] [(8,iv 0)] [] [] zB ?_
     refine jO (K0:=(fun r:Bool=>some (bv r,[]))) (fun _=>rfl) (zBZ.ok x5 x7 q _ (fun v32=>J_j ?_) 0)
     refine J_d 1020 [] [71] [(71,bv (decide ((x5.2.2.2.length:Int)>6)))] [] [] zB ?_
     refine zG 71 (fun h33=>?_) (fun h33=>?_)
     ·refine J_g 4084 [] [(2,bv ((x7.Names.length:Int)==(x5.2.2.2.length:Int)))] [] zB ?_
      exact xJ rfl
     ·refine J_d 2044 [] [9,71] [(9,iv 1)] [] [] zB ?_
      refine jO (K0:=(fun r:Bool=>some (bv r,[]))) (fun _=>rfl) (zDl.ok x5 x7 q _ (fun v95=>J_j ?_) 1)
      refine J_g 2046 [] [(2,bv true)] [] zB ?_
      exact xJ rfl
   ·refine vI (fun h12=>?_) (fun h12=>?_)
    ·refine J_d 252 [] [28,53] [(53,bv true)] [] [] (wO 4 [(41,bv ((x7.Names.length:Int)==0))] [] h12 zB) ?_
     exact yM (J_j (jv17 true)) rfl
    ·refine zA (fun x13 h14=>?_)
     refine zA (fun x15 h16=>?_)
     refine J_d 252 [] [28,53] [(53,bv (!x15))] [] [] (wO 4 [(41,bv ((x7.Names.length:Int)==0))] [] h12 (zAm 11 4 42 false (wW («as»:=[rr 0 x5.1,sl 1 zC x5.2.1,rr 1 x5.2.2.1,rr 2 x7.Names]) [(.tmp 44),(.tmp 45),(.tmp 46),(.tmp 48)] [24,25,25,32] true [(0,rE 8 (Pack.enc false) x5.1),(1,rE 1 zC x5.2.2.1),(2,rE 1 eStr x7.Names)] [] (.cons (zD1 (.head _) (Pack.ro false) rfl) (.cons (.same rfl) (.cons (zD1 (.tail _ (.head _)) (fun _=>rfl) rfl) (.cons (zD1 (.tail _ (.tail _ (.head _))) (fun _=>rfl) rfl) (.nil))))) (tX.ok x5.1 x5.2.1 x5.2.2.1 x7.Names) h14 (.ag (.cons (.same rfl rfl) (.cons (.same rfl rfl) (.cons (.own 4) (.nil))))) (hbor:=fun _=>⟨fhN,(zGc (jN.fl _))⟩)) (zAm 13 4 42 false (wW («as»:=[rr 0 x5.1,rr 4 x13.Set]) [(.tmp 43),(.tmp 50)] [24,25] true [(0,rE 8 (Pack.enc false) x5.1),(4,rE 1 zC x13.Set)] [] (.cons (zD1 (.head _) (Pack.ro false) rfl) (.cons (zD1 (.tail _ (.head _)) (fun _=>rfl) rfl) (.nil))) (uZ.ok x5.1 x13.Set) h16 (.same rfl rfl) (hbor:=fun _=>⟨fhN,yP⟩)) zB))) ?_
     exact yM (J_j (jv17 (!x15))) rfl
end Go.Told

import Derived.Test.YtoofajgeacebgaaGreatOkLeastStepsx1
set_option linter.unusedVariables false
set_option maxRecDepth 4000
namespace Go.Told
open Go Go.Im Go.Proofs
noncomputable def zMD:Code:=(Tryz.f113.body).getD .skip
theorem vO.ok (s41:Int) (x48:(List ByteArray)) (q:Wd) (kn:((List ByteArray)×Int)→Option (D×List Ent)) (hk:∀v:((List ByteArray)×Int),J (q.g Tryz.prog 113 1 61) zMD (atI zMD 14923) (St.mk' [(0,rr 0 v.1),(3,iv v.2)] [(0,rE 1 eStr v.1)]) (some v) kn):
  ∀s61:((List ByteArray)×Int×Int),J (q.g Tryz.prog 113 1 61) zMD (atI zMD 119380) (St.mk' [(0,rr 0 s61.1),(3,iv s61.2.1),(4,.sub 0 s41.toNat x48.length),(5,iv s61.2.2)] [(0,rE 1 eStr s61.1)]) (vO s41 x48 s61) kn:=by
 refine tV (fun g ih s61=>?_)
 unfold vY
 refine J_d 477520 [] [32] [(32,bv (decide (s61.2.2< (x48.length:Int))))] [] [] (zD 2 (zN6 52 9 0 s41.toNat x48.length (.tmp 30)) zB) ?_
 refine zF 32 (fun h62=>?_) (fun h62=>?_)
 ·refine zA (fun x63 h64=>?_)
  refine zA (fun x65 h66=>?_)
  refine J_d 1910088 [] [32,44] [(44,bv (!(seq x63 x65)))] [] [] (zD 2 (zNh (kk:=.i64) 52 9 1 0 eStr (.tmp 35) (.tmp 36) h64) (zD 3 (zC1 (d:=sv x63) 9 1 0 0 eStr (.tmp 37) (zHj h64) (by kernel_rfl)) (zD 7 (zNh (kk:=.i64) 52 9 1 0 eStr (.tmp 39) (.tmp 41) h66) (zD 8 (zC1 (d:=sv x65) 9 1 0 0 eStr (.tmp 42) (zHj h66) (by kernel_rfl)) zB)))) ?_
  refine vW (aft zMD 955044) (fun v72:((List ByteArray)×Int)=>St.mk' [(0,rr 0 v72.1),(3,iv v72.2),(4,.sub 0 s41.toNat x48.length),(5,iv s61.2.2)] [(0,rE 1 eStr v72.1)]) (fun v72=>?_) (fun jv72=>?_)
  ·refine J_d 477523 [] [5] [(5,iv (w64 (s61.2.2+1)))] [] [] zB ?_
   exact J_q (J_b (ih (v72.1,v72.2,w64 (s61.2.2+1)))) rfl
  ·refine zF 44 (fun h67=>?_) (fun h67=>?_)
   ·refine zA (fun x68 h69=>?_)
    refine zA (fun x70 h71=>?_)
    refine J_g 7640356 [] [(0,rr 0 s61.1),(3,iv s61.2.1),(4,.sub 0 s41.toNat x48.length),(5,iv s61.2.2)] [(0,rE 1 eStr (s61.1.set s61.2.1.toNat x68))] (zD 4 (zNh (kk:=.i64) 52 9 1 0 eStr (.tmp 47) (.tmp 48) h69) (zD 5 (zC1 (d:=sv x68) 9 1 0 0 eStr (.tmp 49) (zHj h69) (by kernel_rfl)) (zD 6 (jT (kk:=.i64) 52 9 1 0 eStr (.tmp 45) (.tmp 46) h71) (zGT 7 (zIb (b:=x68) 9 1 0 0 eStr (sv x68) (.tmp 51) (.tmp 50) h71 rfl) zB)))) ?_
    refine zFr (σ':=St.mk' [(0,rr 0 (s61.1.set s61.2.1.toNat x68)),(3,iv s61.2.1),(4,.sub 0 s41.toNat x48.length),(5,iv s61.2.2)] [(0,rE 1 eStr (s61.1.set s61.2.1.toNat x68))]) (by simp only [rr,List.length_set]) ?_
    refine J_d 7640357 [] [3] [(3,iv (w64 (s61.2.1+1)))] [] [] zB ?_
    exact wD (J_j (jv72 (s61.1.set s61.2.1.toNat x68,w64 (s61.2.1+1)))) rfl
   ·exact wD (J_j (jv72 (s61.1,s61.2.1))) rfl
 ·exact wD (hk (s61.1,s61.2.1)) rfl
theorem uI.ok (a1:(List ByteArray)) (q:Wd) (kn:Unit→Option (D×List Ent)) (hk:∀v:Unit,J (q.g Tryz.prog 113 1 61) zMD (atI zMD 15) (St.mk' [(0,rr 0 a1)] [(0,rE 1 eStr a1)]) (some v) kn):
  ∀s41:Int,J (q.g Tryz.prog 113 1 61) zMD (atI zMD 116) (St.mk' [(0,rr 0 a1),(3,iv s41)] [(0,rE 1 eStr a1)]) (uI a1 s41) (Fl.go (fun r:(List ByteArray)=>some (so 1 eStr r,[])) kn):=by
 refine tV (fun g ih s41=>?_)
 unfold wW
 refine J_d 464 [] [13] [(13,bv (decide (s41< (a1.length:Int))))] [] [] zB ?_
 refine zF 13 (fun h42=>?_) (fun h42=>?_)
 ·refine zA (fun x43 h44=>?_)
  refine zA (fun x45 h46=>?_)
  refine J_d 1864 [] [13,25] [(25,bv (seq x43 x45))] [] [] (zD 2 (jT (kk:=.i64) 52 9 1 0 eStr (.tmp 16) (.tmp 17) h44) (zD 3 (zC1 (d:=sv x43) 9 1 0 0 eStr (.tmp 18) h44 (by kernel_rfl)) (zD 7 (jT (kk:=.i64) 52 9 1 0 eStr (.tmp 20) (.tmp 22) h46) (zD 8 (zC1 (d:=sv x45) 9 1 0 0 eStr (.tmp 23) h46 (by kernel_rfl)) zB)))) ?_
  refine zF 25 (fun h47=>?_) (fun h47=>?_)
  ·refine zA (fun x48 h49=>?_)
   refine J_g 7460 [] [(0,rr 0 a1),(3,iv s41),(4,.sub 0 s41.toNat x48.length)] [(0,rE 1 eStr a1)] (zD 2 (zLw 52 9 1 0 eStr (.tmp 26) (some (.tmp 27)) none h49) zB) ?_
   refine J_d 29844 [] [5] [(5,iv 1)] [] [] zB ?_
   refine zE2 (vO.ok s41 x48 q _ (fun v73=>J_j ?_) (a1,s41,1))
   refine zA (fun x74 h75=>?_)
   refine zA (fun x76 h77=>?_)
   refine J_g 29846 [] [(0,rr 0 v73.1),(3,iv v73.2)] [(0,rE 1 eStr x76)] (zD 2 (zLw 52 9 1 0 eStr (.tmp 54) (some (.tmp 55)) none h75) (zGT 3 (zMZ (l:=v73.2) (a:=ByteArray.empty) 52 9 1 0 eStr (.tmp 56) h77 (.keep rfl (.nil))) zB)) ?_
   refine zFr (σ':=St.mk' [(0,rr 0 x76),(3,iv v73.2)] [(0,rE 1 eStr x76)]) (by simp only [rr,zHn h77]) ?_
   refine zA (fun x78 h79=>?_)
   refine J_g 59694 [] [(2,rr 1 x78)] [(1,rE 1 eStr x78)] (zD 2 (zMO 52 9 1 0 1 eStr (.tmp 57) none (some (.tmp 58)) h79) zB) ?_
   exact zEl (ds:=[rr 1 x78]) (ds':=[so 1 eStr x78]) (.cons (.cell (.move (.head _) (List.length_map _) (by decide) (.nil))) (.nil) (by decide)) rfl
  ·refine J_d 467 [] [3,25] [(3,iv (w64 (s41+1)))] [] [] zB ?_
   exact J_q (J_b (ih (w64 (s41+1)))) rfl
 ·exact wD (hk ()) rfl
theorem vR.ok (a1:(List ByteArray)):Ok Tryz.prog 113 [rr 0 a1] [rE 1 eStr a1] ((vR a1).map fun r=>(so 1 eStr r,[])):=by
 refine zG zMD Tryz.f113 1 61 (fun q=>?_)
 unfold vR
 refine J_g 2 [] [(0,rr 0 a1)] [(0,rE 1 eStr a1)] zB ?_
 refine J_d 12 [] [8] [(8,bv (decide ((a1.length:Int)<2)))] [] [] zB ?_
 refine zF 8 (fun h2=>?_) (fun h2=>?_)
 ·refine J_g 52 [] [(2,rr 0 a1)] [(0,rE 1 eStr a1)] zB ?_
  exact zEl (ds:=[rr 0 a1]) (ds':=[so 1 eStr a1]) (.cons (.cell (.move (.head _) (List.length_map _) (by decide) (.nil))) (.nil) (by decide)) rfl
 ·refine J_d 28 [] [3,8] [(3,iv 1)] [] [] zB ?_
  refine uP (K0:=(fun r:(List ByteArray)=>some (so 1 eStr r,[]))) (fun _=>rfl) (uI.ok a1 q _ (fun v80=>J_j ?_) 1)
  refine J_g 30 [] [(2,rr 0 a1)] [(0,rE 1 eStr a1)] zB ?_
  exact zEl (ds:=[rr 0 a1]) (ds':=[so 1 eStr a1]) (.cons (.cell (.move (.head _) (List.length_map _) (by decide) (.nil))) (.nil) (by decide)) rfl
noncomputable def c66:Code:=(Tryz.f66.body).getD .skip
theorem uO.ok (a1:(List ByteArray)):Ok Tryz.prog 66 [rr 0 a1] [rE 1 eStr a1] ((uO a1).map fun r=>(so 1 eStr r,[])):=by
 refine zG c66 Tryz.f66 1 7 (fun q=>?_)
 unfold uO
 refine J_d 2 [] [] [] [] [] zB ?_
 refine zA (fun x2 h3=>?_)
 refine J_g 6 [] [(0,rr 0 a1)] [(0,rE 1 eStr x2)] (zD 1 (vC («as»:=[rr 0 a1]) [(.tmp 3)] [52] false [(0,rE 1 eStr a1)] [0] (.cons (.rf rfl) (.nil)) (uM.ok a1) h3 (.tu (.nil))) zB) ?_
 refine zA (fun u4 h5=>?_)
 refine zFr (σ':=St.mk' [(0,rr 0 x2)] [(0,rE 1 eStr x2)]) (by simp only [rr,zAO h5]) ?_
 refine zA (fun x6 h7=>?_)
 refine J_g 14 [] [(2,rr 1 x6)] [(1,rE 1 eStr x6)] (zD 1 (vC («as»:=[rr 0 x2]) [(.tmp 5)] [52] false [(0,rE 1 eStr x2)] [0] (.cons (.rf rfl) (.nil)) (vR.ok x2) h7 (.own 1)) zB) ?_
 exact zEl (ds:=[rr 1 x6]) (ds':=[so 1 eStr x6]) (.cons (.cell (.move (.head _) (List.length_map _) (by decide) (.nil))) (.nil) (by decide)) rfl
noncomputable def c64:Code:=(Tryz.f64.body).getD .skip
theorem zCD.ok (a1:(List Pack)) (a2:(List Int)) (a3:(List Int)) (x4:(List Int)) (q:Wd) (kn:(List ByteArray)→Option (D×List Ent)) (hk:∀v:(List ByteArray),J (q.g Tryz.prog 64 0 42) c64 (atI c64 15) (St.mk' [(7,rr 0 v)] [(0,rE 1 eStr v)]) (some v) kn):
  ∀s19:((List ByteArray)×Int),J (q.g Tryz.prog 64 0 42) c64 (atI c64 116) (St.mk' [(0,sl 8 (Pack.enc false) a1),(1,sl 1 zC a2),(2,sl 1 zC a3),(7,rr 0 s19.1),(15,rr 2 x4),(16,iv (x4.length:Int)),(17,iv s19.2)] [(0,rE 1 eStr s19.1),(2,rE 1 zC x4)]) (zCD a1 a2 a3 x4 s19) kn:=by
 refine tV (fun g ih s19=>?_)
 unfold zCk
 refine J_d 232 [] [18] [(18,bv (decide (s19.2< (x4.length:Int))))] [] [] zB ?_
 refine zF 18 (fun h20=>?_) (fun h20=>?_)
 ·refine zA (fun x21 h22=>?_)
  refine J_d 3736 [] [9,18] [(9,iv x21)] [] [] (zD 0 (jT (kk:=.i64) 23 2 1 2 zC (.tmp 15) (.tmp 17) h22) (zD 1 (zC1 (d:=iv x21) 2 1 2 0 zC (.tmp 19) h22 (by kernel_rfl)) zB)) ?_
  refine zA (fun x23 h24=>?_)
  refine J_d 7474 [] [9,10] [(10,sv x23.Name)] [] [] (zD 2 (tT (kk:=.i64) 28 63 8 (Pack.enc false) (.tmp 21) (.tmp 22) h24) zB) ?_
  refine zA (fun x25 h26=>?_)
  refine zA (fun x27 h28=>?_)
  refine J_d 14950 [] [34] [(34,bv (x25 !=x27))] [] [] (zD 3 (vG [(.tmp 26),(.tmp 27),(.tmp 28)] [28,23,9] (tK.ok a1 a2 x23.Name) h26) (zD 7 (vG [(.tmp 30),(.tmp 31),(.tmp 32)] [28,23,9] (tK.ok a1 a3 x23.Name) h28) zB)) ?_
  refine vW (aft c64 1868) (fun v32:(List ByteArray)=>St.mk' [(0,sl 8 (Pack.enc false) a1),(1,sl 1 zC a2),(2,sl 1 zC a3),(7,rr 4 v32),(15,rr 2 x4),(16,iv (x4.length:Int)),(17,iv s19.2)] [(2,rE 1 zC x4),(4,rE 1 eStr v32)]) (fun v32=>?_) (fun jv32=>?_)
  ·refine J_d 935 [] [17] [(17,iv (w64 (s19.2+1)))] [] [] zB ?_
   refine jR 4 0 (Nat.le_of_ble_eq_true rfl) (Nat.le_of_ble_eq_true rfl) ?_
   exact J_q (J_b (ih (v32,w64 (s19.2+1)))) rfl
  ·refine zF 34 (fun h29=>?_) (fun h29=>?_)
   ·refine zA (fun x30 h31=>?_)
    refine J_d 29902 [] [7,10,34] [(7,rr 4 x30)] [0,4] [(4,rE 1 eStr x30)] (zD 2 (zEa 52 9 1 3 eStr [x23.Name] [0] [(.tmp 36)] [sv x23.Name]) (zD 3 (zGv 52 52 9 9 1 16 4 0 3 eStr (.tmp 35) (.tmp 37) h31) zB)) ?_
    exact wD (J_j (jv32 x30)) rfl
   ·refine jR 0 4 (Nat.le_of_ble_eq_true rfl) (Nat.le_of_ble_eq_true rfl) ?_
    exact wD (J_j (jv32 s19.1)) rfl
 ·exact wD (hk s19.1) rfl
theorem zAQ.ok (a1:(List Pack)) (a2:(List Int)) (a3:(List Int)):Ok Tryz.prog 64 [sl 8 (Pack.enc false) a1,sl 1 zC a2,sl 1 zC a3] [] ((zAQ a1 a2 a3).map fun r=>(so 1 eStr r,[])):=by
 refine zG c64 Tryz.f64 0 42 (fun q=>?_)
 unfold zAQ
 refine J_g 2 [] [(0,sl 8 (Pack.enc false) a1),(1,sl 1 zC a2),(2,sl 1 zC a3)] [] zB ?_
 refine J_d 6 [] [7] [(7,rr 0 ([]:List ByteArray))] [0] [(0,rE 1 eStr ([]:List ByteArray))] (zD 0 (zEa 52 9 1 0 eStr ([]:List ByteArray) [] [] []) zB) ?_
 refine zA (fun x4 h5=>?_)
 refine J_d 28 [] [15,16,17] [(15,rr 2 x4),(16,iv (x4.length:Int)),(17,iv 0)] [2] [(2,rE 1 zC x4)] (zD 2 (zEa 43 23 1 1 (eSl false 1 zC) [a2,a3] [0,1] [(.tmp 12),(.tmp 13)] [sl 1 zC a2,sl 1 zC a3]) (zD 3 (vC («as»:=[rr 1 [a2,a3]]) [(.tmp 14)] [43] true [(1,rE 1 (eSl false 1 zC) [a2,a3])] [] (.cons (zBr (.head _) (zD1 (fun _=>rfl)) rfl) (.nil)) (vE.ok [a2,a3]) h5 (.own 2) (hbor:=fun _=>⟨fhN,(zET (zGe (fun _=>(flatK yL zFh)) _))⟩)) zB)) ?_
 refine zE2 (zCD.ok a1 a2 a3 x4 q _ (fun v33=>J_j ?_) (([]:List ByteArray),0))
 refine zA (fun x34 h35=>?_)
 refine J_g 30 [] [(6,rr 1 x34)] [(1,rE 1 eStr x34)] (zD 1 (vC («as»:=[rr 0 v33]) [(.tmp 40)] [52] false [(0,rE 1 eStr v33)] [0] (.cons (.rf rfl) (.nil)) (uO.ok v33) h35 (.own 1)) zB) ?_
 exact zEl (ds:=[rr 1 x34]) (ds':=[so 1 eStr x34]) (.cons (.cell (.move (.head _) (List.length_map _) (by decide) (.nil))) (.nil) (by decide)) rfl
noncomputable def zOr:Code:=(Tryz.f104.body).getD .skip
theorem zBE.ok (a1:(List Pack)) (x5:Int) (x7:Int) (q:Wd) (kn:(List Pack)→Option (D×List Ent)) (hk:∀v:(List Pack),J (q.g Tryz.prog 104 0 38) zOr (atI zOr 15) (St.mk' [(9,rr 0 v)] [(0,rE 8 (Pack.enc false) v)]) (some v) kn):
  ∀s18:((List Pack)×Int),J (q.g Tryz.prog 104 0 38) zOr (atI zOr 116) (St.mk' [(0,sl 8 (Pack.enc false) a1),(9,rr 0 s18.1),(21,rr 1 [x5,x7]),(22,iv ([x5,x7].length :Int)),(23,iv s18.2)] [(0,rE 8 (Pack.enc false) s18.1),(1,rE 1 zC [x5,x7])]) (zBE a1 x5 x7 s18) kn:=by
 refine tV (fun g ih s18=>?_)
 unfold tY
 refine J_d 232 [] [24] [(24,bv (decide (s18.2< ([x5,x7].length :Int))))] [] [] zB ?_
 refine zF 24 (fun h19=>?_) (fun h19=>?_)
 ·refine zA (fun x20 h21=>?_)
  refine J_g 3736 [] [(0,sl 8 (Pack.enc false) a1),(9,rr 0 s18.1),(11,iv x20),(21,rr 1 [x5,x7]),(22,iv ([x5,x7].length :Int)),(23,iv s18.2)] [(0,rE 8 (Pack.enc false) s18.1),(1,rE 1 zC [x5,x7])] (zD 0 (jT (kk:=.i64) 23 2 1 1 zC (.tmp 21) (.tmp 23) h21) (zD 1 (zC1 (d:=iv x20) 2 1 1 0 zC (.tmp 25) h21 (by kernel_rfl)) zB)) ?_
  refine J_d 7474 [] [28] [(28,bv (decide (x20≥0)))] [] [] zB ?_
  refine vW (aft zOr 1868) (fun v27:(List Pack)=>St.mk' [(0,sl 8 (Pack.enc false) a1),(9,rr 3 v27),(21,rr 1 [x5,x7]),(22,iv ([x5,x7].length :Int)),(23,iv s18.2)] [(1,rE 1 zC [x5,x7]),(3,rE 8 (Pack.enc false) v27)]) (fun v27=>?_) (fun jv27=>?_)
  ·refine J_d 935 [] [23] [(23,iv (w64 (s18.2+1)))] [] [] zB ?_
   refine jR 3 0 (Nat.le_of_ble_eq_true rfl) (Nat.le_of_ble_eq_true rfl) ?_
   exact J_q (J_b (ih (v27,w64 (s18.2+1)))) rfl
  ·refine zF 28 (fun h22=>?_) (fun h22=>?_)
   ·refine zA (fun x23 h24=>?_)
    refine zA (fun x25 h26=>?_)
    refine J_d 14950 [] [9,11,28] [(9,rr 3 x25)] [0,3] [(3,rE 8 (Pack.enc false) x25)] (zD 3 (tT (kk:=.i64) 28 63 8 (Pack.enc false) (.tmp 30) (.tmp 31) h24) (zD 5 (zEa 28 63 8 2 (Pack.enc false) [x23] [0] [(.tmp 33)] [.ag (Pack.enc false x23)]) (zD 6 (zGv 28 28 63 63 8 120 3 0 2 (Pack.enc false) (.tmp 29) (.tmp 34) h26) zB))) ?_
    exact wD (J_j (jv27 x25)) rfl
   ·refine jR 0 3 (Nat.le_of_ble_eq_true rfl) (Nat.le_of_ble_eq_true rfl) ?_
    exact wD (J_j (jv27 s18.1)) rfl
 ·exact wD (hk s18.1) rfl
theorem kD.ok (a1:(List Pack)) (a2:(List Int)) (a3:(List Int)) (a4:ByteArray):Ok Tryz.prog 104 [sl 8 (Pack.enc false) a1,sl 1 zC a2,sl 1 zC a3,sv a4] [] ((kD a1 a2 a3 a4).map fun r=>(so 8 (Pack.enc false) r,[])):=by
 refine zG zOr Tryz.f104 0 38 (fun q=>?_)
 unfold kD
 refine J_g 2 [] [(0,sl 8 (Pack.enc false) a1),(1,sl 1 zC a2),(2,sl 1 zC a3),(3,sv a4)] [] zB ?_
 refine J_d 6 [] [9] [(9,rr 0 ([]:List Pack))] [0] [(0,rE 8 (Pack.enc false) ([]:List Pack))] (zD 0 (zEa 28 63 8 0 (Pack.enc false) ([]:List Pack) [] [] []) zB) ?_
 refine zA (fun x5 h6=>?_)
 refine zA (fun x7 h8=>?_)
 refine J_d 28 [] [1,2,3,21,22,23] [(21,rr 1 [x5,x7]),(22,iv ([x5,x7].length :Int)),(23,iv 0)] [1] [(1,rE 1 zC [x5,x7])] (zD 3 (vG [(.tmp 13),(.tmp 14),(.tmp 15)] [28,23,9] (tK.ok a1 a2 a4) h6) (zD 7 (vG [(.tmp 17),(.tmp 18),(.tmp 19)] [28,23,9] (tK.ok a1 a3 a4) h8) (zD 8 (zEa 23 2 1 1 zC [x5,x7] [0,1] [(.tmp 16),(.tmp 20)] [iv x5,iv x7]) zB))) ?_
 refine zE2 (zBE.ok a1 x5 x7 q _ (fun v28=>J_j ?_) (([]:List Pack),0))
 refine J_g 30 [] [(8,rr 0 v28)] [(0,rE 8 (Pack.enc false) v28)] zB ?_
 exact zEl (ds:=[rr 0 v28]) (ds':=[so 8 (Pack.enc false) v28]) (.cons (.cell (.move (.head _) (List.length_map _) (by decide) (.nil))) (.nil) (by decide)) rfl
noncomputable def zO7:Code:=(Tryz.f101.body).getD .skip
theorem zCO.ok (x5:(List Pack)) (q:Wd) (kn:(List ByteArray)→Option (D×List Ent)) (hk:∀v:(List ByteArray),J (q.g Tryz.prog 101 0 31) zO7 (atI zO7 15) (St.mk' [(9,rr 0 v)] [(0,rE 1 eStr v)]) (some v) kn):
  ∀s12:((List ByteArray)×Int),J (q.g Tryz.prog 101 0 31) zO7 (atI zO7 116) (St.mk' [(9,rr 0 s12.1),(18,rr 1 x5),(19,iv (x5.length:Int)),(20,iv s12.2)] [(0,rE 1 eStr s12.1),(1,rE 8 (Pack.enc false) x5)]) (zCO x5 s12) kn:=by
 refine tV (fun g ih s12=>?_)
 unfold zCh
 refine J_d 232 [] [21] [(21,bv (decide (s12.2< (x5.length:Int))))] [] [] zB ?_
 refine zF 21 (fun h13=>?_) (fun h13=>?_)
 ·refine zA (fun x14 h15=>?_)
  refine J_d 3736 [(2,2)] [11,21] [(11,pp 2)] [2] [(2,.box (Pack.enc false x14))] (zD 0 (jT (kk:=.i64) 28 63 8 1 (Pack.enc false) (.tmp 18) (.tmp 20) h15) (zD 1 (zC1 (d:=.ag (Pack.enc false x14)) 63 8 1 0 (Pack.enc false) (.tmp 22) h15 (by kernel_rfl)) zB)) ?_
  refine zA (fun x16 h17=>?_)
  refine J_g 3737 [] [(9,rr 3 x16),(18,rr 1 x5),(19,iv (x5.length:Int)),(20,iv s12.2)] [(1,rE 8 (Pack.enc false) x5),(3,rE 1 eStr x16)] (zD 3 (zJa 52 52 9 9 1 16 3 0 eStr (.tmp 24) (.tmp 26) h17) zB) ?_
  refine J_d 935 [] [20] [(20,iv (w64 (s12.2+1)))] [] [] zB ?_
  refine jR 3 0 (Nat.le_of_ble_eq_true rfl) (Nat.le_of_ble_eq_true rfl) ?_
  exact J_q (J_b (ih (x16,w64 (s12.2+1)))) rfl
 ·exact wD (hk s12.1) rfl
theorem kK.ok (a1:(List Pack)) (a2:(List Int)) (a3:(List Int)) (a4:ByteArray):Ok Tryz.prog 101 [sl 8 (Pack.enc false) a1,sl 1 zC a2,sl 1 zC a3,sv a4] [] ((kK a1 a2 a3 a4).map fun r=>(so 1 eStr r,[])):=by
 refine zG zO7 Tryz.f101 0 31 (fun q=>?_)
 unfold kK
 refine J_g 2 [] [(0,sl 8 (Pack.enc false) a1),(1,sl 1 zC a2),(2,sl 1 zC a3),(3,sv a4)] [] zB ?_
 refine J_d 6 [] [9] [(9,rr 0 [a4])] [0] [(0,rE 1 eStr [a4])] (zD 1 (zEa 52 9 1 0 eStr [a4] [0] [(.tmp 12)] [sv a4]) zB) ?_
 refine zA (fun x5 h6=>?_)
 refine J_g 28 [] [(9,rr 0 [a4]),(18,rr 1 x5),(19,iv (x5.length:Int)),(20,iv 0)] [(0,rE 1 eStr [a4]),(1,rE 8 (Pack.enc false) x5)] (zD 4 (vC («as»:=[sl 8 (Pack.enc false) a1,sl 1 zC a2,sl 1 zC a3,sv a4]) [(.tmp 14),(.tmp 15),(.tmp 16),(.tmp 17)] [28,23,23,9] false [] [] (.cons (.same rfl) (.cons (.same rfl) (.cons (.same rfl) (.cons (.same rfl) (.nil))))) (kD.ok a1 a2 a3 a4) h6 (.own 1)) zB) ?_
 refine zE2 (zCO.ok x5 q _ (fun v18=>J_j ?_) ([a4],0))
 refine zA (fun x19 h20=>?_)
 refine J_g 30 [] [(8,rr 1 x19)] [(1,rE 1 eStr x19)] (zD 1 (vC («as»:=[rr 0 v18]) [(.tmp 29)] [52] false [(0,rE 1 eStr v18)] [0] (.cons (.rf rfl) (.nil)) (uO.ok v18) h20 (.own 1)) zB) ?_
 exact zEl (ds:=[rr 1 x19]) (ds':=[so 1 eStr x19]) (.cons (.cell (.move (.head _) (List.length_map _) (by decide) (.nil))) (.nil) (by decide)) rfl
theorem zFS (k:Nat) (w:World) (hk:0<k) (h1:k*64≤140737488355328) (h2:k≤4611686018427387904):Calls Tryz.prog 175 #[.slice none 0 0,.int .i64 (k:Int)] w fun e w'=>∃G,k≤G∧e= .returned (.slice (some ⟨w.heap.size,0,none⟩) 0 G)∧w'=w.drew.alloc (.cells (Builtin.zeroCells (.agg #[.string ByteArray.empty,.int .i64 0,.int .i64 0,.int .i64 0,.int .i64 0,.int .i64 0,.int .i64 0]:Value).cells k++Builtin.zeroCells (.agg #[.string ByteArray.empty,.int .i64 0,.int .i64 0,.int .i64 0,.int .i64 0,.int .i64 0,.int .i64 0]:Value).cells (G-k)) 102):=by
 have hinfo:(Tryz.prog.info? 102).map (fun i=>(i.zero,i.size,i.bytes))=some (some (.agg #[.string ByteArray.empty,.int .i64 0,.int .i64 0,.int .i64 0,.int .i64 0,.int .i64 0,.int .i64 0]:Value),7,64):=by kernel_rfl
 obtain ⟨i0,hi0,hq⟩:=Option.map_eq_some_iff.1 hinfo
 simp only [Prod.mk.injEq] at hq
 obtain ⟨hz0,hs,hb⟩:=hq
 have h:=Any8.slices_Grow_grow Tryz.grow175 i0 (.agg #[.string ByteArray.empty,.int .i64 0,.int .i64 0,.int .i64 0,.int .i64 0,.int .i64 0,.int .i64 0]:Value) hi0 hz0 (by omega) none 0 0 k [] w (Nat.le_refl _) (by omega) (by rw [hb]; omega) (by omega) (by simp) (fun _=>rfl) (fun a h=>by cases h)
 refine Calls.mono h ?_
 rintro e w' ⟨he,hw⟩
 refine ⟨_,?_,he,?_⟩
 ·exact Nat.le_trans (Nat.le_of_eq (Nat.zero_add k).symm) (grownCap_ge w (0+k) 0 102)
 ·rw [hw]
  simp
  rfl
theorem kV.ok (a1:Int):Ok Tryz.prog 175 [nv,iv a1] [] ((kV a1).map fun r=>(so 7 Term.enc r,[])):=by
 unfold kV
 split
 ·rename_i h
  obtain ⟨h0,h1,h2⟩:=h
  obtain ⟨k,rfl⟩:=Int.eq_ofNat_of_zero_le h0
  exact zKL (el:=102) (z:=7) (zv:=.agg #[.string ByteArray.empty,.int .i64 0,.int .i64 0,.int .i64 0,.int .i64 0,.int .i64 0,.int .i64 0]) h0 rfl (fun hn w=>by
   have h:=Any8.slices_Grow_room Tryz.grow175 none 0 0 k w (Nat.le_refl _) (by omega) (by omega) (by omega)
   exact h) (fun hp w=>zFS k w (by omega) (by omega) (by omega))
 ·exact fun _ h=>by cases h
noncomputable def zMY:Code:=(Tryz.f137.body).getD .skip
theorem uG.ok (a1:(List (List Term))) (q:Wd) (kn:(List Term)→Option (D×List Ent)) (hk:∀v:(List Term),J (q.g Tryz.prog 137 0 36) zMY (atI zMY 63) (St.mk' [(6,rr 0 v)] [(0,rE 7 Term.enc v)]) (some v) kn):
  ∀s19:((List Term)×Int),J (q.g Tryz.prog 137 0 36) zMY (atI zMY 500) (St.mk' [(6,rr 0 s19.1),(25,sl 1 (eSl false 7 Term.enc) a1),(26,iv (a1.length:Int)),(27,iv s19.2)] [(0,rE 7 Term.enc s19.1)]) (uG a1 s19) kn:=by
 refine tV (fun g ih s19=>?_)
 unfold uD
 refine J_d 1000 [] [28] [(28,bv (decide (s19.2< (a1.length:Int))))] [] [] zB ?_
 refine zF 28 (fun h20=>?_) (fun h20=>?_)
 ·refine zA (fun x21 h22=>?_)
  refine J_d 16024 [] [8,28] [(8,sl 7 Term.enc x21)] [] [] (zD 0 (tT (kk:=.i64) 60 61 1 (eSl false 7 Term.enc) (.tmp 25) (.tmp 27) h22) zB) ?_
  refine zA (fun x23 h24=>?_)
  refine J_g 16025 [] [(6,rr 1 x23),(25,sl 1 (eSl false 7 Term.enc) a1),(26,iv (a1.length:Int)),(27,iv s19.2)] [(1,rE 7 Term.enc x23)] (zD 2 (zJa 61 61 102 102 7 64 1 0 Term.enc (.tmp 31) (.tmp 32) h24) zB) ?_
  refine J_d 4007 [] [27] [(27,iv (w64 (s19.2+1)))] [] [] zB ?_
  refine jR 1 0 (Nat.le_of_ble_eq_true rfl) (Nat.le_of_ble_eq_true rfl) ?_
  exact J_q (J_b (ih (x23,w64 (s19.2+1)))) rfl
 ·exact wD (hk s19.1) rfl
theorem uJ.ok (a1:(List (List Term))) (q:Wd) (kn:Int→Option (D×List Ent)) (hk:∀v:Int,J (q.g Tryz.prog 137 0 36) zMY (atI zMY 15) (St.mk' [(0,sl 1 (eSl false 7 Term.enc) a1),(3,iv v)] []) (some v) kn):
  ∀s6:(Int×Int),J (q.g Tryz.prog 137 0 36) zMY (atI zMY 116) (St.mk' [(0,sl 1 (eSl false 7 Term.enc) a1),(3,iv s6.1),(9,sl 1 (eSl false 7 Term.enc) a1),(10,iv (a1.length:Int)),(11,iv s6.2)] []) (uJ a1 s6) kn:=by
 refine tV (fun g ih s6=>?_)
 unfold vZ
 refine J_d 232 [] [12] [(12,bv (decide (s6.2< (a1.length:Int))))] [] [] zB ?_
 refine zF 12 (fun h7=>?_) (fun h7=>?_)
 ·refine zA (fun x8 h9=>?_)
  refine J_g 3736 [] [(0,sl 1 (eSl false 7 Term.enc) a1),(3,iv s6.1),(5,sl 7 Term.enc x8),(9,sl 1 (eSl false 7 Term.enc) a1),(10,iv (a1.length:Int)),(11,iv s6.2)] [] (zD 0 (tT (kk:=.i64) 60 61 1 (eSl false 7 Term.enc) (.tmp 9) (.tmp 11) h9) zB) ?_
  refine J_g 7474 [] [(0,sl 1 (eSl false 7 Term.enc) a1),(3,iv (w64 (s6.1+(x8.length:Int)))),(9,sl 1 (eSl false 7 Term.enc) a1),(10,iv (a1.length:Int)),(11,iv s6.2)] [] zB ?_
  refine J_d 14950 [] [20] [(20,bv (decide ((w64 (s6.1+(x8.length:Int)))<0)))] [] [] zB ?_
  refine zF 20 (fun h10=>?_) (fun h10=>?_)
  ·exact zKT
  ·refine J_d 935 [] [11,20] [(11,iv (w64 (s6.2+1)))] [] [] zB ?_
   exact J_q (J_b (ih (w64 (s6.1+(x8.length:Int)),w64 (s6.2+1)))) rfl
 ·exact wD (hk s6.1) rfl
theorem vQ.ok (a1:(List (List Term))):Ok Tryz.prog 137 [sl 1 (eSl false 7 Term.enc) a1] [] ((vQ a1).map fun r=>(so 7 Term.enc r,[])):=by
 refine zG zMY Tryz.f137 0 36 (fun q=>?_)
 unfold vQ
 refine J_g 2 [] [(0,sl 1 (eSl false 7 Term.enc) a1)] [] zB ?_
 refine J_g 6 [] [(0,sl 1 (eSl false 7 Term.enc) a1),(3,iv 0)] [] zB ?_
 refine J_d 28 [] [9,10,11] [(9,sl 1 (eSl false 7 Term.enc) a1),(10,iv (a1.length:Int)),(11,iv 0)] [] [] zB ?_
 refine zE2 (uJ.ok a1 q _ (fun v11=>J_j ?_) (0,0))
 refine zA (fun x12 h13=>?_)
 refine J_g 30 [] [(0,sl 1 (eSl false 7 Term.enc) a1),(6,rr 0 x12)] [(0,rE 7 Term.enc x12)] (zD 1 (vC («as»:=[nv,iv v11]) [(.const (.slice none 0 0)),(.tmp 23)] [61,3] false [] [] (.cons (.same rfl) (.cons (.same rfl) (.nil))) (kV.ok v11) h13 (.own 0)) zB) ?_
 refine J_d 124 [] [0,25,26,27] [(25,sl 1 (eSl false 7 Term.enc) a1),(26,iv (a1.length:Int)),(27,iv 0)] [] [] zB ?_
 refine zE2 (uG.ok a1 q _ (fun v25=>J_j ?_) (x12,0))
 refine J_g 126 [] [(2,rr 0 v25)] [(0,rE 7 Term.enc v25)] zB ?_
 exact zEl (ds:=[rr 0 v25]) (ds':=[so 7 Term.enc v25]) (.cons (.cell (.move (.head _) (List.length_map _) (by decide) (.nil))) (.nil) (by decide)) rfl
noncomputable def c107:Code:=(Tryz.f107.body).getD .skip
theorem kQ.ok (x4:(List Term)) (q:Wd) (kn:(List ByteArray)→Option (D×List Ent)) (hk:∀v:(List ByteArray),J (q.g Tryz.prog 107 0 26) c107 (atI c107 15) (St.mk' [(3,rr 1 v)] [(1,rE 1 eStr v)]) (some v) kn):
  ∀s11:((List ByteArray)×Int),J (q.g Tryz.prog 107 0 26) c107 (atI c107 116) (St.mk' [(3,rr 1 s11.1),(12,rr 3 x4),(13,iv (x4.length:Int)),(14,iv s11.2)] [(1,rE 1 eStr s11.1),(3,rE 7 Term.enc x4)]) (kQ x4 s11) kn:=by
 refine tV (fun g ih s11=>?_)
 unfold jV
 refine J_d 232 [] [15] [(15,bv (decide (s11.2< (x4.length:Int))))] [] [] zB ?_
 refine zF 15 (fun h12=>?_) (fun h12=>?_)
 ·refine zA (fun x13 h14=>?_)
  refine J_d 3736 [(2,4)] [5,15] [(5,pp 4)] [4] [(4,.box (Term.enc x13))] (zD 0 (jT (kk:=.i64) 61 102 7 3 Term.enc (.tmp 12) (.tmp 14) h14) (zD 1 (zC1 (d:=.ag (Term.enc x13)) 102 7 3 0 Term.enc (.tmp 16) h14 (by kernel_rfl)) zB)) ?_
  refine zA (fun x15 h16=>?_)
  refine J_g 3737 [] [(3,rr 6 x15),(12,rr 3 x4),(13,iv (x4.length:Int)),(14,iv s11.2)] [(3,rE 7 Term.enc x4),(6,rE 1 eStr x15)] (zD 3 (zEa 52 9 1 5 eStr [x13.Name] [0] [(.tmp 20)] [sv x13.Name]) (zD 4 (zGv 52 52 9 9 1 16 6 1 5 eStr (.tmp 18) (.tmp 21) h16) zB)) ?_
  refine J_d 935 [] [14] [(14,iv (w64 (s11.2+1)))] [] [] zB ?_
  refine jR 6 1 (Nat.le_of_ble_eq_true rfl) (Nat.le_of_ble_eq_true rfl) ?_
  exact J_q (J_b (ih (x15,w64 (s11.2+1)))) rfl
 ·exact wD (hk s11.1) rfl
theorem vL.ok (a1:Pack):Ok Tryz.prog 107 [.ag (Pack.enc false a1)] [] ((vL a1).map fun r=>(so 1 eStr r,[])):=by
 refine zG c107 Tryz.f107 0 26 (fun q=>?_)
 unfold vL
 refine J_g 2 [(0,0)] [(1,pp 0)] [(0,.box (Pack.enc false a1))] zB ?_
 refine J_d 6 [] [3] [(3,rr 1 ([]:List ByteArray))] [1] [(1,rE 1 eStr ([]:List ByteArray))] (zD 0 (zEa 52 9 1 1 eStr ([]:List ByteArray) [] [] []) zB) ?_
 refine zA (fun x2 h3=>?_)
 refine zA (fun x4 h5=>?_)
 refine J_d 28 [] [1,12,13,14] [(12,rr 3 x4),(13,iv (x4.length:Int)),(14,iv 0)] [0,3] [(3,rE 7 Term.enc x4)] (zD 2 (vC («as»:=[sl 1 (eSl false 7 Term.enc) a1.Needs]) [(.tmp 8)] [60] false [] [] (.cons (.same rfl) (.nil)) (vQ.ok a1.Needs) h3 (.own 2)) (zD 5 (zJa 61 61 102 102 7 64 3 2 Term.enc (.tmp 9) (.tmp 11) h5) zB)) ?_
 refine zE2 (kQ.ok x4 q _ (fun v17=>J_j ?_) (([]:List ByteArray),0))
 refine zA (fun x18 h19=>?_)
 refine J_g 30 [] [(2,rr 2 x18)] [(2,rE 1 eStr x18)] (zD 1 (vC («as»:=[rr 1 v17]) [(.tmp 24)] [52] false [(1,rE 1 eStr v17)] [1] (.cons (.rf rfl) (.nil)) (uO.ok v17) h19 (.own 2)) zB) ?_
 exact zEl (ds:=[rr 2 x18]) (ds':=[so 1 eStr x18]) (.cons (.cell (.move (.head _) (List.length_map _) (by decide) (.nil))) (.nil) (by decide)) rfl
noncomputable def zQh:Code:=(Tryz.f108.body).getD .skip
theorem uQ.ok (a1:ByteArray) (a2:(List ByteArray)):Ok Tryz.prog 108 [sv a1,pp 0] [.box [sl 1 eStr a2]] ((uQ a1 a2).map fun r=>(bv r,[.box [sl 1 eStr a2]])):=by
 refine zG zQh Tryz.f108 1 7 (fun q=>?_)
 unfold uQ
 refine J_d 2 [] [] [] [] [] zB ?_
 refine zA (fun x3 h4=>?_)
 refine J_d 6 [] [0,1,3] [(3,bv x3)] [] [] (zD 2 (vG [(.tmp 4),(.tmp 5)] [52,9] (yA.ok a2 a1) h4) zB) ?_
 exact zQ rfl
theorem xS.ok (a1:(List ByteArray)) (a2:(List ByteArray)) (q:Wd) (kn:Unit→Option (D×List Ent)) (hk:∀v:Unit,J (q.g Tryz.prog 97 2 19) c97 (atI c97 7) (St.mk' [] [(0,rE 1 eStr a1),(1,.box [sl 1 eStr a2])]) (some v) kn):
  ∀s9:Int,J (q.g Tryz.prog 97 2 19) c97 (atI c97 52) (St.mk' [(0,rr 0 a1),(1,.fn 108 [pp 1]),(7,iv (a1.length:Int)),(8,iv s9)] [(0,rE 1 eStr a1),(1,.box [sl 1 eStr a2])]) (xS a1 a2 s9) (Fl.go (fun r:Int=>some (iv r,[rE 1 eStr a1,.box [sl 1 eStr a2]])) kn):=by
 refine tV (fun g ih s9=>?_)
 unfold yK
 refine J_d 104 [] [9] [(9,bv (decide (s9< (a1.length:Int))))] [] [] zB ?_
 refine zF 9 (fun h10=>?_) (fun h10=>?_)
 ·refine J_d 1688 [] [5,9] [(5,iv s9)] [] [] zB ?_
  refine zA (fun x11 h12=>?_)
  refine zA (fun x13 h14=>?_)
  refine J_d 3378 [] [16] [(16,bv x13)] [] [] (zD 3 (jT (kk:=.i64) 52 9 1 0 eStr (.tmp 12) (.tmp 13) h12) (zD 4 (zC1 (d:=sv x11) 9 1 0 0 eStr (.tmp 14) h12 (by kernel_rfl)) (zD 5 (zEV [(1,.box [sl 1 eStr a2])] [] (zEB 11 [(.tmp 15)] [9] false [(1,.box [sl 1 eStr a2])] [1] [sv x11] [pp 1] (.cons (.same rfl) (.cons (.pt rfl) (.nil))) (uQ.ok x11 a2) h14 (.same rfl rfl))) zB))) ?_
  refine zF 16 (fun h15=>?_) (fun h15=>?_)
  ·refine J_d 13516 [] [0,1,4,5,7,8,16] [(4,iv s9)] [] [] zB ?_
   exact zQ rfl
  ·refine J_d 423 [] [5,8,16] [(8,iv (w64 (s9+1)))] [] [] zB ?_
   exact J_q (J_b (ih (w64 (s9+1)))) rfl
 ·exact wD (hk ()) rfl
theorem yX.ok (a1:(List ByteArray)) (a2:(List ByteArray)):Ok Tryz.prog 97 [rr 0 a1,.fn 108 [pp 1]] [rE 1 eStr a1,.box [sl 1 eStr a2]] ((yX a1 a2).map fun r=>(iv r,[rE 1 eStr a1,.box [sl 1 eStr a2]])):=by
 refine zG c97 Tryz.f97 2 19 (fun q=>?_)
 unfold yX
 refine J_g 2 [] [(0,rr 0 a1),(1,.fn 108 [pp 1])] [(0,rE 1 eStr a1),(1,.box [sl 1 eStr a2])] zB ?_
 refine J_d 12 [] [7,8] [(7,iv (a1.length:Int)),(8,iv 0)] [] [] zB ?_
 refine uP (K0:=(fun r:Int=>some (iv r,[rE 1 eStr a1,.box [sl 1 eStr a2]]))) (fun _=>rfl) (xS.ok a1 a2 q _ (fun v16=>J_j ?_) 0)
 refine J_d 14 [] [4] [(4,iv (-1))] [] [] zB ?_
 exact zQ rfl
theorem zW.ok (a1:(List ByteArray)) (a2:(List ByteArray)):Ok Tryz.prog 106 [rr 0 a1,.fn 108 [pp 1]] [rE 1 eStr a1,.box [sl 1 eStr a2]] ((zW a1 a2).map fun r=>(bv r,[rE 1 eStr a1,.box [sl 1 eStr a2]])):=by
 refine zG zPJ Tryz.f106 2 9 (fun q=>?_)
 unfold zW
 refine J_d 2 [] [] [] [] [] zB ?_
 refine zA (fun x3 h4=>?_)
 refine J_d 6 [] [0,1,4] [(4,bv (decide (x3≥0)))] [] [] (zD 2 (zEV [(0,rE 1 eStr a1),(1,.box [sl 1 eStr a2])] [] (vC («as»:=[rr 0 a1,.fn 108 [pp 1]]) [(.tmp 5),(.tmp 6)] [52,94] false [(0,rE 1 eStr a1),(1,.box [sl 1 eStr a2])] [0,1] (.cons (.rf rfl) (.cons (.fn (.cons (.pt rfl) (.nil))) (.nil))) (yX.ok a1 a2) h4 (.same rfl rfl))) zB) ?_
 exact zQ rfl
noncomputable def c105:Code:=(Tryz.f105.body).getD .skip
theorem jQ.ok (a1:Pack) (a2:(List ByteArray)):Ok Tryz.prog 105 [.ag (Pack.enc false a1),pp 0] [.box [sl 1 eStr a2]] ((jQ a1 a2).map fun r=>(bv r,[.box [sl 1 eStr a2]])):=by
 refine zG c105 Tryz.f105 1 8 (fun q=>?_)
 unfold jQ
 refine J_d 2 [(0,1)] [0,2] [(2,pp 1)] [1] [(1,.box (Pack.enc false a1))] zB ?_
 refine zA (fun x3 h4=>?_)
 refine zA (fun x5 h6=>?_)
 refine J_g 6 [] [(3,bv x5)] [(0,.box [sl 1 eStr a2])] (zD 1 (vC («as»:=[.ag (Pack.enc false a1)]) [(.tmp 4)] [63] false [] [] (.cons (.same rfl) (.nil)) (vL.ok a1) h4 (.own 2)) (zD 3 (zEV [(2,rE 1 eStr x3),(0,.box [sl 1 eStr a2])] [] (vC («as»:=[rr 2 x3,.fn 108 [pp 0]]) [(.tmp 5),(.tmp 6)] [52,94] false [(2,rE 1 eStr x3),(0,.box [sl 1 eStr a2])] [2,0] (.cons (.rf rfl) (.cons (.fn (.cons (.pt rfl) (.nil))) (.nil))) (zW.ok x3 a2) h6 (.same rfl rfl))) zB)) ?_
 exact zQ rfl
theorem xV.ok (a1:(List Pack)) (a2:(List ByteArray)) (q:Wd) (kn:Unit→Option (D×List Ent)) (hk:∀v:Unit,J (q.g Tryz.prog 136 2 19) zMB (atI zMB 7) (St.mk' [] [(0,rE 8 (Pack.enc false) a1),(1,.box [sl 1 eStr a2])]) (some v) kn):
  ∀s9:Int,J (q.g Tryz.prog 136 2 19) zMB (atI zMB 52) (St.mk' [(0,rr 0 a1),(1,.fn 105 [pp 1]),(7,iv (a1.length:Int)),(8,iv s9)] [(0,rE 8 (Pack.enc false) a1),(1,.box [sl 1 eStr a2])]) (xV a1 a2 s9) (Fl.go (fun r:Int=>some (iv r,[rE 8 (Pack.enc false) a1,.box [sl 1 eStr a2]])) kn):=by
 refine tV (fun g ih s9=>?_)
 unfold yJ
 refine J_d 104 [] [9] [(9,bv (decide (s9< (a1.length:Int))))] [] [] zB ?_
 refine zF 9 (fun h10=>?_) (fun h10=>?_)
 ·refine J_d 1688 [] [5,9] [(5,iv s9)] [] [] zB ?_
  refine zA (fun x11 h12=>?_)
  refine zA (fun x13 h14=>?_)
  refine J_d 3378 [] [16] [(16,bv x13)] [] [] (zD 3 (jT (kk:=.i64) 28 63 8 0 (Pack.enc false) (.tmp 12) (.tmp 13) h12) (zD 4 (zC1 (d:=.ag (Pack.enc false x11)) 63 8 0 0 (Pack.enc false) (.tmp 14) h12 (by kernel_rfl)) (zD 5 (zEV [(1,.box [sl 1 eStr a2])] [] (zEB 11 [(.tmp 15)] [63] false [(1,.box [sl 1 eStr a2])] [1] [.ag (Pack.enc false x11)] [pp 1] (.cons (.same rfl) (.cons (.pt rfl) (.nil))) (jQ.ok x11 a2) h14 (.same rfl rfl))) zB))) ?_
  refine zF 16 (fun h15=>?_) (fun h15=>?_)
  ·refine J_d 13516 [] [0,1,4,5,7,8,16] [(4,iv s9)] [] [] zB ?_
   exact zQ rfl
  ·refine J_d 423 [] [5,8,16] [(8,iv (w64 (s9+1)))] [] [] zB ?_
   exact J_q (J_b (ih (w64 (s9+1)))) rfl
 ·exact wD (hk ()) rfl
theorem yV.ok (a1:(List Pack)) (a2:(List ByteArray)):Ok Tryz.prog 136 [rr 0 a1,.fn 105 [pp 1]] [rE 8 (Pack.enc false) a1,.box [sl 1 eStr a2]] ((yV a1 a2).map fun r=>(iv r,[rE 8 (Pack.enc false) a1,.box [sl 1 eStr a2]])):=by
 refine zG zMB Tryz.f136 2 19 (fun q=>?_)
 unfold yV
 refine J_g 2 [] [(0,rr 0 a1),(1,.fn 105 [pp 1])] [(0,rE 8 (Pack.enc false) a1),(1,.box [sl 1 eStr a2])] zB ?_
 refine J_d 12 [] [7,8] [(7,iv (a1.length:Int)),(8,iv 0)] [] [] zB ?_
 refine uP (K0:=(fun r:Int=>some (iv r,[rE 8 (Pack.enc false) a1,.box [sl 1 eStr a2]]))) (fun _=>rfl) (xV.ok a1 a2 q _ (fun v16=>J_j ?_) 0)
 refine J_d 14 [] [4] [(4,iv (-1))] [] [] zB ?_
 exact zQ rfl
noncomputable def zQx:Code:=(Tryz.f103.body).getD .skip
theorem zX.ok (a1:(List Pack)) (a2:(List ByteArray)):Ok Tryz.prog 103 [rr 0 a1,.fn 105 [pp 1]] [rE 8 (Pack.enc false) a1,.box [sl 1 eStr a2]] ((zX a1 a2).map fun r=>(bv r,[rE 8 (Pack.enc false) a1,.box [sl 1 eStr a2]])):=by
 refine zG zQx Tryz.f103 2 9 (fun q=>?_)
 unfold zX
 refine J_d 2 [] [] [] [] [] zB ?_
 refine zA (fun x3 h4=>?_)
 refine J_d 6 [] [0,1,4] [(4,bv (decide (x3≥0)))] [] [] (zD 2 (zEV [(0,rE 8 (Pack.enc false) a1),(1,.box [sl 1 eStr a2])] [] (vC («as»:=[rr 0 a1,.fn 105 [pp 1]]) [(.tmp 5),(.tmp 6)] [28,129] false [(0,rE 8 (Pack.enc false) a1),(1,.box [sl 1 eStr a2])] [0,1] (.cons (.rf rfl) (.cons (.fn (.cons (.pt rfl) (.nil))) (.nil))) (yV.ok a1 a2) h4 (.same rfl rfl))) zB) ?_
 exact zQ rfl
noncomputable def zQl:Code:=(Tryz.f102.body).getD .skip
theorem vN.ok (a1:ByteArray) (a2:(List ByteArray)) (a3:(List Pack)) (a4:(List Int)) (a5:(List Int)):Ok Tryz.prog 102 [sv a1,sl 1 eStr a2,pp 0,pp 1,pp 2] [.box [sl 8 (Pack.enc false) a3],.box [sl 1 zC a4],.box [sl 1 zC a5]] ((vN a1 a2 a3 a4 a5).map fun r=>(bv r,[.box [sl 8 (Pack.enc false) a3],.box [sl 1 zC a4],.box [sl 1 zC a5]])):=by
 refine zG zQl Tryz.f102 3 15 (fun q=>?_)
 unfold vN
 refine J_d 2 [(0,3)] [1,6] [(6,pp 3)] [3] [(3,.box [sl 1 eStr a2])] zB ?_
 refine zA (fun x6 h7=>?_)
 refine zA (fun x8 h9=>?_)
 refine J_d 6 [] [0,2,3,4,6,7] [(7,bv x8)] [3] [] (zD 4 (vC («as»:=[sl 8 (Pack.enc false) a3,sl 1 zC a4,sl 1 zC a5,sv a1]) [(.tmp 8),(.tmp 9),(.tmp 10),(.tmp 11)] [28,23,23,9] false [] [] (.cons (.same rfl) (.cons (.same rfl) (.cons (.same rfl) (.cons (.same rfl) (.nil))))) (kD.ok a3 a4 a5 a1) h7 (.own 4)) (zD 6 (zEV [(4,rE 8 (Pack.enc false) x6),(3,.box [sl 1 eStr a2])] [] (vC («as»:=[rr 4 x6,.fn 105 [pp 3]]) [(.tmp 12),(.tmp 13)] [28,129] false [(4,rE 8 (Pack.enc false) x6),(3,.box [sl 1 eStr a2])] [4,3] (.cons (.rf rfl) (.cons (.fn (.cons (.pt rfl) (.nil))) (.nil))) (zX.ok x6 a2) h9 (.same rfl rfl))) zB)) ?_
 exact zQ rfl
noncomputable def zQr:Code:=(Tryz.f111.body).getD .skip
theorem jN.ok (a1:Term) (a2:(List ByteArray)):Ok Tryz.prog 111 [.ag (Term.enc a1),pp 0] [.box [sl 1 eStr a2]] ((jN a1 a2).map fun r=>(bv r,[.box [sl 1 eStr a2]])):=by
 refine zG zQr Tryz.f111 1 8 (fun q=>?_)
 unfold jN
 refine J_d 2 [(0,1)] [0,2] [(2,pp 1)] [1] [(1,.box (Term.enc a1))] zB ?_
 refine zA (fun x3 h4=>?_)
 refine J_g 6 [] [(3,bv x3)] [(0,.box [sl 1 eStr a2])] (zD 3 (vG [(.tmp 4),(.tmp 6)] [52,9] (yA.ok a2 a1.Name) h4) zB) ?_
 exact zQ rfl
theorem xZ.ok (a1:(List Term)) (a2:(List ByteArray)) (q:Wd) (kn:Unit→Option (D×List Ent)) (hk:∀v:Unit,J (q.g Tryz.prog 138 1 19) c138 (atI c138 7) (St.mk' [] [(0,.box [sl 1 eStr a2])]) (some v) kn):
  ∀s9:Int,J (q.g Tryz.prog 138 1 19) c138 (atI c138 52) (St.mk' [(0,sl 7 Term.enc a1),(1,.fn 111 [pp 0]),(7,iv (a1.length:Int)),(8,iv s9)] [(0,.box [sl 1 eStr a2])]) (xZ a1 a2 s9) (Fl.go (fun r:Int=>some (iv r,[.box [sl 1 eStr a2]])) kn):=by
 refine tV (fun g ih s9=>?_)
 unfold yM
 refine J_d 104 [] [9] [(9,bv (decide (s9< (a1.length:Int))))] [] [] zB ?_
 refine zF 9 (fun h10=>?_) (fun h10=>?_)
 ·refine J_d 1688 [] [5,9] [(5,iv s9)] [] [] zB ?_
  refine zA (fun x11 h12=>?_)
  refine zA (fun x13 h14=>?_)
  refine J_d 3378 [] [16] [(16,bv x13)] [] [] (zD 3 (tT (kk:=.i64) 61 102 7 Term.enc (.tmp 12) (.tmp 13) h12) (zD 5 (zEV [(0,.box [sl 1 eStr a2])] [] (zEB 11 [(.tmp 15)] [102] false [(0,.box [sl 1 eStr a2])] [0] [.ag (Term.enc x11)] [pp 0] (.cons (.same rfl) (.cons (.pt rfl) (.nil))) (jN.ok x11 a2) h14 (.same rfl rfl))) zB)) ?_
  refine zF 16 (fun h15=>?_) (fun h15=>?_)
  ·refine J_g 13516 [] [(4,iv s9)] [(0,.box [sl 1 eStr a2])] zB ?_
   exact zQ rfl
  ·refine J_d 423 [] [5,8,16] [(8,iv (w64 (s9+1)))] [] [] zB ?_
   exact J_q (J_b (ih (w64 (s9+1)))) rfl
 ·exact wD (hk ()) rfl
theorem xA.ok (a1:(List Term)) (a2:(List ByteArray)):Ok Tryz.prog 138 [sl 7 Term.enc a1,.fn 111 [pp 0]] [.box [sl 1 eStr a2]] ((xA a1 a2).map fun r=>(iv r,[.box [sl 1 eStr a2]])):=by
 refine zG c138 Tryz.f138 1 19 (fun q=>?_)
 unfold xA
 refine J_g 2 [] [(0,sl 7 Term.enc a1),(1,.fn 111 [pp 0])] [(0,.box [sl 1 eStr a2])] zB ?_
 refine J_d 12 [] [7,8] [(7,iv (a1.length:Int)),(8,iv 0)] [] [] zB ?_
 refine uP (K0:=(fun r:Int=>some (iv r,[.box [sl 1 eStr a2]]))) (fun _=>rfl) (xZ.ok a1 a2 q _ (fun v16=>J_j ?_) 0)
 refine J_d 14 [] [4] [(4,iv (-1))] [] [] zB ?_
 exact zQ rfl
theorem zY.ok (a1:(List Term)) (a2:(List ByteArray)):Ok Tryz.prog 110 [sl 7 Term.enc a1,.fn 111 [pp 0]] [.box [sl 1 eStr a2]] ((zY a1 a2).map fun r=>(bv r,[.box [sl 1 eStr a2]])):=by
 refine zG zPG Tryz.f110 1 9 (fun q=>?_)
 unfold zY
 refine J_d 2 [] [] [] [] [] zB ?_
 refine zA (fun x3 h4=>?_)
 refine J_d 6 [] [0,1,4] [(4,bv (decide (x3≥0)))] [] [] (zD 2 (zEV [(0,.box [sl 1 eStr a2])] [] (vC («as»:=[sl 7 Term.enc a1,.fn 111 [pp 0]]) [(.tmp 5),(.tmp 6)] [61,132] false [(0,.box [sl 1 eStr a2])] [0] (.cons (.same rfl) (.cons (.fn (.cons (.pt rfl) (.nil))) (.nil))) (xA.ok a1 a2) h4 (.same rfl rfl))) zB) ?_
 exact zQ rfl
noncomputable def c109:Code:=(Tryz.f109.body).getD .skip
theorem vM.ok (a1:(List ByteArray)) (a2:(List Term)):Ok Tryz.prog 109 [sl 1 eStr a1,pp 0] [.box [sl 7 Term.enc a2]] ((vM a1 a2).map fun r=>(bv r,[.box [sl 7 Term.enc a2]])):=by
 refine zG c109 Tryz.f109 1 7 (fun q=>?_)
 unfold vM
 refine J_d 2 [(0,1)] [0,2] [(2,pp 1)] [1] [(1,.box [sl 1 eStr a1])] zB ?_
 refine zA (fun x3 h4=>?_)
 refine J_d 6 [] [1,2,3] [(3,bv x3)] [1] [] (zD 2 (zEV [(1,.box [sl 1 eStr a1])] [] (vC («as»:=[sl 7 Term.enc a2,.fn 111 [pp 1]]) [(.tmp 4),(.tmp 5)] [61,132] false [(1,.box [sl 1 eStr a1])] [1] (.cons (.same rfl) (.cons (.fn (.cons (.pt rfl) (.nil))) (.nil))) (zY.ok a2 a1) h4 (.same rfl rfl))) zB) ?_
 exact zQ rfl
noncomputable def c65:Code:=(Tryz.f65.body).getD .skip
theorem zAt.ok (a1:(List Pack)) (x6:(List ByteArray)) (x8:(List ByteArray)) (x17:(List Int)) (s46:Int) (x50:Pack) (q:Wd) (kn:Unit→Option (D×List Ent)) (hk:∀v:Unit,J (q.g Tryz.prog 65 0 70) c65 (aft c65 8012) (St.mk' [(5,pp 0),(11,sl 1 eStr x6),(12,sl 1 eStr x8),(43,rr 4 x17),(44,iv (x17.length:Int)),(45,iv s46)] [(0,.box [sl 8 (Pack.enc false) a1]),(4,rE 1 zC x17)]) (some v) kn):
  ∀s62:Int,J (q.g Tryz.prog 65 0 70) c65 (atI c65 128204) (St.mk' [(5,pp 0),(11,sl 1 eStr x6),(12,sl 1 eStr x8),(43,rr 4 x17),(44,iv (x17.length:Int)),(45,iv s46),(53,sl 1 (eSl false 7 Term.enc) x50.Needs),(54,iv (x50.Needs.length:Int)),(55,iv s62)] [(0,.box [sl 8 (Pack.enc false) a1]),(4,rE 1 zC x17)]) (zAt a1 x6 x8 x17 s46 x50 s62) (Fl.go (fun r:Bool=>some (bv r,[])) kn):=by
 refine tV (fun g ih s62=>?_)
 unfold kY
 refine J_d 256408 [] [56] [(56,bv (decide (s62< (x50.Needs.length:Int))))] [] [] zB ?_
 refine zF 56 (fun h63=>?_) (fun h63=>?_)
 ·refine zA (fun x64 h65=>?_)
  refine J_g 4102552 [(2,5)] [(5,pp 0),(11,sl 1 eStr x6),(12,sl 1 eStr x8),(17,pp 5),(43,rr 4 x17),(44,iv (x17.length:Int)),(45,iv s46),(53,sl 1 (eSl false 7 Term.enc) x50.Needs),(54,iv (x50.Needs.length:Int)),(55,iv s62)] [(0,.box [sl 8 (Pack.enc false) a1]),(4,rE 1 zC x17),(5,.box [sl 7 Term.enc x64])] (zD 0 (tT (kk:=.i64) 60 61 1 (eSl false 7 Term.enc) (.tmp 53) (.tmp 55) h65) zB) ?_
  refine J_d 8205106 [] [17,18] [(18,.fn 109 [pp 5])] [] [] zB ?_
  refine zA (fun x66 h67=>?_)
  refine vW (atI c65 16410215) (fun v71:Bool=>St.mk' [(5,pp 0),(11,sl 1 eStr x6),(12,sl 1 eStr x8),(43,rr 4 x17),(44,iv (x17.length:Int)),(45,iv s46),(53,sl 1 (eSl false 7 Term.enc) x50.Needs),(54,iv (x50.Needs.length:Int)),(55,iv s62),(67,bv v71)] [(0,.box [sl 8 (Pack.enc false) a1]),(4,rE 1 zC x17)]) (fun v71=>?_) (fun jv71=>?_)
  ·refine zF 67 (fun h72=>?_) (fun h72=>?_)
   ·refine J_g 65640860 [] [(10,bv true)] [] zB ?_
    exact zQ rfl
   ·refine J_d 1025639 [] [55,67] [(55,iv (w64 (s62+1)))] [] [] zB ?_
    exact J_q (J_b (ih (w64 (s62+1)))) rfl
  ·refine tJ (fun h68=>?_) (fun h68=>?_)
   ·refine zA (fun x69 h70=>?_)
    refine J_d 16410214 [] [18,67] [(67,bv x69)] [5] [] (zD 2 (zEV [(5,.box [sl 7 Term.enc x64])] [] (zEB 60 [(.tmp 61)] [52] false [(5,.box [sl 7 Term.enc x64])] [5] [sl 1 eStr x6] [pp 5] (.cons (.same rfl) (.cons (.pt rfl) (.nil))) (vM.ok x6 x64) h67 (.same rfl rfl))) (uE 3 [(62,bv x66)] [] h68 (zCR 6 3 63 true (zEV [(5,.box [sl 7 Term.enc x64])] [] (zEB 64 [(.tmp 65)] [52] false [(5,.box [sl 7 Term.enc x64])] [5] [sl 1 eStr x8] [pp 5] (.cons (.same rfl) (.cons (.pt rfl) (.nil))) (vM.ok x8 x64) h70 (.same rfl rfl))) zB))) ?_
    exact wD (J_j (jv71 x69)) rfl
   ·refine J_d 16410214 [] [18,67] [(67,bv false)] [5] [] (zD 2 (zEV [(5,.box [sl 7 Term.enc x64])] [] (zEB 60 [(.tmp 61)] [52] false [(5,.box [sl 7 Term.enc x64])] [5] [sl 1 eStr x6] [pp 5] (.cons (.same rfl) (.cons (.pt rfl) (.nil))) (vM.ok x6 x64) h67 (.same rfl rfl))) (uE 3 [(62,bv x66)] [] h68 zB)) ?_
    exact wD (J_j (jv71 false)) rfl
 ·exact wD (hk ()) rfl
theorem zAu.ok (a1:(List Pack)) (x6:(List ByteArray)) (x8:(List ByteArray)) (x17:(List Int)) (q:Wd) (kn:Unit→Option (D×List Ent)) (hk:∀v:Unit,J (q.g Tryz.prog 65 0 70) c65 (atI c65 63) (St.mk' [] []) (some v) kn):
  ∀s46:Int,J (q.g Tryz.prog 65 0 70) c65 (atI c65 500) (St.mk' [(5,pp 0),(11,sl 1 eStr x6),(12,sl 1 eStr x8),(43,rr 4 x17),(44,iv (x17.length:Int)),(45,iv s46)] [(0,.box [sl 8 (Pack.enc false) a1]),(4,rE 1 zC x17)]) (zAu a1 x6 x8 x17 s46) (Fl.go (fun r:Bool=>some (bv r,[])) kn):=by
 refine tV (fun g ih s46=>?_)
 unfold jP
 refine J_d 1000 [] [46] [(46,bv (decide (s46< (x17.length:Int))))] [] [] zB ?_
 refine zF 46 (fun h47=>?_) (fun h47=>?_)
 ·refine zA (fun x48 h49=>?_)
  refine J_d 16024 [] [15,46] [(15,iv x48)] [] [] (zD 0 (jT (kk:=.i64) 23 2 1 4 zC (.tmp 43) (.tmp 45) h49) (zD 1 (zC1 (d:=iv x48) 2 1 4 0 zC (.tmp 47) h49 (by kernel_rfl)) zB)) ?_
  refine zA (fun x50 h51=>?_)
  refine J_d 32050 [] [15,53,54,55] [(53,sl 1 (eSl false 7 Term.enc) x50.Needs),(54,iv (x50.Needs.length:Int)),(55,iv 0)] [] [] (zD 2 (tT (kk:=.i64) 28 63 8 (Pack.enc false) (.tmp 49) (.tmp 50) h51) zB) ?_
  refine uP (K0:=(fun r:Bool=>some (bv r,[]))) (fun _=>rfl) (zAt.ok a1 x6 x8 x17 s46 x50 q _ (fun v73=>J_j ?_) 0)
  refine J_d 4007 [] [45] [(45,iv (w64 (s46+1)))] [] [] zB ?_
  exact J_q (J_b (ih (w64 (s46+1)))) rfl
 ·exact wD (hk ()) rfl
theorem wV.ok (a1:(List Pack)) (a2:(List Int)) (a3:(List Int)) (a4:ByteArray) (a5:ByteArray):Ok Tryz.prog 65 [sl 8 (Pack.enc false) a1,sl 1 zC a2,sl 1 zC a3,sv a4,sv a5] [] ((wV a1 a2 a3 a4 a5).map fun r=>(bv r,[])):=by
 refine zG c65 Tryz.f65 0 70 (fun q=>?_)
 unfold wV
 refine J_g 2 [(0,0),(1,1),(2,2)] [(3,sv a4),(4,sv a5),(5,pp 0),(6,pp 1),(7,pp 2)] [(0,.box [sl 8 (Pack.enc false) a1]),(1,.box [sl 1 zC a2]),(2,.box [sl 1 zC a3])] zB ?_
 refine zA (fun x6 h7=>?_)
 refine zA (fun x8 h9=>?_)
 refine J_g 6 [] [(3,sv a4),(4,sv a5),(5,pp 0),(6,pp 1),(7,pp 2),(11,rr 3 x6),(12,rr 4 x8)] [(0,.box [sl 8 (Pack.enc false) a1]),(1,.box [sl 1 zC a2]),(2,.box [sl 1 zC a3]),(3,rE 1 eStr x6),(4,rE 1 eStr x8)] (zD 4 (vC («as»:=[sl 8 (Pack.enc false) a1,sl 1 zC a2,sl 1 zC a3,sv a4]) [(.tmp 19),(.tmp 20),(.tmp 21),(.tmp 22)] [28,23,23,9] false [] [] (.cons (.same rfl) (.cons (.same rfl) (.cons (.same rfl) (.cons (.same rfl) (.nil))))) (kK.ok a1 a2 a3 a4) h7 (.own 3)) (zD 9 (vC («as»:=[sl 8 (Pack.enc false) a1,sl 1 zC a2,sl 1 zC a3,sv a5]) [(.tmp 24),(.tmp 25),(.tmp 26),(.tmp 27)] [28,23,23,9] false [] [] (.cons (.same rfl) (.cons (.same rfl) (.cons (.same rfl) (.cons (.same rfl) (.nil))))) (kK.ok a1 a2 a3 a5) h9 (.own 4)) zB)) ?_
 refine J_g 14 [] [(3,sv a4),(4,sv a5),(5,pp 0),(6,pp 1),(7,pp 2),(11,rr 3 x6),(12,rr 4 x8),(13,.fn 102 [pp 0,pp 1,pp 2])] [(0,.box [sl 8 (Pack.enc false) a1]),(1,.box [sl 1 zC a2]),(2,.box [sl 1 zC a3]),(3,rE 1 eStr x6),(4,rE 1 eStr x8)] zB ?_
 refine zA (fun x10 h11=>?_)
 refine zEA [(3,sv a4),(4,sv a5),(5,pp 0),(6,pp 1),(7,pp 2),(11,rr 3 x6),(12,rr 4 x8),(13,.fn 102 [pp 0,pp 1,pp 2])] [(4,rE 1 eStr x8),(0,.box [sl 8 (Pack.enc false) a1]),(1,.box [sl 1 zC a2]),(2,.box [sl 1 zC a3]),(3,rE 1 eStr x6)] (by kernel_rfl) ?_
 refine zJD 4 (z:=1) (xs:=x8.map eStr) (tm2:=[(3,sv a4),(4,sv a5),(5,pp 0),(6,pp 1),(7,pp 2),(11,rr 3 x6),(12,sl 1 eStr x8),(13,.fn 102 [pp 0,pp 1,pp 2])]) (hp2:=[(0,.box [sl 8 (Pack.enc false) a1]),(1,.box [sl 1 zC a2]),(2,.box [sl 1 zC a3]),(3,rE 1 eStr x6)]) (.cons (.keep rfl) (.cons (.keep rfl) (.cons (.keep rfl) (.cons (.keep rfl) (.cons (.keep rfl) (.cons (.keep rfl) (.cons (.rf (by simp) (zFD (enc:=eStr) (enc':=eStr) (fun _=>rfl) x8 rfl rfl)) (.cons (.keep rfl) (.nil))))))))) (.keep rfl (.keep rfl (.keep rfl (.keep rfl (.nil))))) rfl ?_
 refine vW (atI c65 61) (fun v15:Bool=>St.mk' [(5,pp 0),(6,pp 1),(7,pp 2),(11,sl 1 eStr x6),(12,sl 1 eStr x8),(39,bv v15)] [(0,.box [sl 8 (Pack.enc false) a1]),(1,.box [sl 1 zC a2]),(2,.box [sl 1 zC a3])]) (fun v15=>?_) (fun jv15=>?_)
 ·refine zF 39 (fun h16=>?_) (fun h16=>?_)
  ·refine J_g 244 [] [(10,bv true)] [] zB ?_
   exact zQ rfl
  ·refine zA (fun x17 h18=>?_)
   refine J_d 124 [] [6,7,39,43,44,45] [(43,rr 4 x17),(44,iv (x17.length:Int)),(45,iv 0)] [1,2,4] [(4,rE 1 zC x17)] (zD 2 (zEa 43 23 1 3 (eSl false 1 zC) [a2,a3] [0,1] [(.tmp 40),(.tmp 41)] [sl 1 zC a2,sl 1 zC a3]) (zD 3 (vC («as»:=[rr 3 [a2,a3]]) [(.tmp 42)] [43] true [(3,rE 1 (eSl false 1 zC) [a2,a3])] [] (.cons (zBr (.head _) (zD1 (fun _=>rfl)) rfl) (.nil)) (vE.ok [a2,a3]) h18 (.own 4) (hbor:=fun _=>⟨fhN,(zET (zGe (fun _=>(flatK yL zFh)) _))⟩)) zB)) ?_
   refine uP (K0:=(fun r:Bool=>some (bv r,[]))) (fun _=>rfl) (zAu.ok a1 x6 x8 x17 q _ (fun v74=>J_j ?_) 0)
   refine J_g 126 [] [(10,bv false)] [] zB ?_
   exact zQ rfl
 ·refine tJ (fun h12=>?_) (fun h12=>?_)
  ·refine J_d 60 [] [3,4,13,39] [(39,bv true)] [] [] (zD 3 (zEV [(0,.box [sl 8 (Pack.enc false) a1]),(1,.box [sl 1 zC a2]),(2,.box [sl 1 zC a3])] [] (zEB 30 [(.tmp 31),(.tmp 32)] [9,52] false [(0,.box [sl 8 (Pack.enc false) a1]),(1,.box [sl 1 zC a2]),(2,.box [sl 1 zC a3])] [0,1,2] [sv a4,sl 1 eStr x8] [pp 0,pp 1,pp 2] (.cons (.same rfl) (.cons (.same rfl) (.cons (.pt rfl) (.cons (.pt rfl) (.cons (.pt rfl) (.nil)))))) (vN.ok a4 x8 a1 a2 a3) h11 (.same rfl rfl))) (uE 4 [(33,bv x10)] [] h12 zB)) ?_
   refine zEA [(5,pp 0),(6,pp 1),(7,pp 2),(11,rr 3 x6),(12,sl 1 eStr x8),(39,bv true)] [(3,rE 1 eStr x6),(0,.box [sl 8 (Pack.enc false) a1]),(1,.box [sl 1 zC a2]),(2,.box [sl 1 zC a3])] (by kernel_rfl) ?_
   refine zJD 3 (z:=1) (xs:=x6.map eStr) (tm2:=[(5,pp 0),(6,pp 1),(7,pp 2),(11,sl 1 eStr x6),(12,sl 1 eStr x8),(39,bv true)]) (hp2:=[(0,.box [sl 8 (Pack.enc false) a1]),(1,.box [sl 1 zC a2]),(2,.box [sl 1 zC a3])]) (.cons (.keep rfl) (.cons (.keep rfl) (.cons (.keep rfl) (.cons (.rf (by simp) (zFD (enc:=eStr) (enc':=eStr) (fun _=>rfl) x6 rfl rfl)) (.cons (.keep rfl) (.cons (.keep rfl) (.nil))))))) (.keep rfl (.keep rfl (.keep rfl (.nil)))) rfl ?_
   exact wD (J_j (jv15 true)) rfl
  ·refine zA (fun x13 h14=>?_)
   refine zEA [(3,sv a4),(4,sv a5),(5,pp 0),(6,pp 1),(7,pp 2),(11,rr 3 x6),(12,sl 1 eStr x8),(13,.fn 102 [pp 0,pp 1,pp 2])] [(3,rE 1 eStr x6),(0,.box [sl 8 (Pack.enc false) a1]),(1,.box [sl 1 zC a2]),(2,.box [sl 1 zC a3])] (by kernel_rfl) ?_
   refine zJD 3 (z:=1) (xs:=x6.map eStr) (tm2:=[(3,sv a4),(4,sv a5),(5,pp 0),(6,pp 1),(7,pp 2),(11,sl 1 eStr x6),(12,sl 1 eStr x8),(13,.fn 102 [pp 0,pp 1,pp 2])]) (hp2:=[(0,.box [sl 8 (Pack.enc false) a1]),(1,.box [sl 1 zC a2]),(2,.box [sl 1 zC a3])]) (.cons (.keep rfl) (.cons (.keep rfl) (.cons (.keep rfl) (.cons (.keep rfl) (.cons (.keep rfl) (.cons (.rf (by simp) (zFD (enc:=eStr) (enc':=eStr) (fun _=>rfl) x6 rfl rfl)) (.cons (.keep rfl) (.cons (.keep rfl) (.nil))))))))) (.keep rfl (.keep rfl (.keep rfl (.nil)))) rfl ?_
   refine J_d 60 [] [3,4,13,39] [(39,bv x13)] [] [] (zD 3 (zEV [(0,.box [sl 8 (Pack.enc false) a1]),(1,.box [sl 1 zC a2]),(2,.box [sl 1 zC a3])] [] (zEB 30 [(.tmp 31),(.tmp 32)] [9,52] false [(0,.box [sl 8 (Pack.enc false) a1]),(1,.box [sl 1 zC a2]),(2,.box [sl 1 zC a3])] [0,1,2] [sv a4,sl 1 eStr x8] [pp 0,pp 1,pp 2] (.cons (.same rfl) (.cons (.same rfl) (.cons (.pt rfl) (.cons (.pt rfl) (.cons (.pt rfl) (.nil)))))) (vN.ok a4 x8 a1 a2 a3) h11 (.same rfl rfl))) (uE 4 [(33,bv x10)] [] h12 (zCR 8 4 34 false (zEV [(0,.box [sl 8 (Pack.enc false) a1]),(1,.box [sl 1 zC a2]),(2,.box [sl 1 zC a3])] [] (zEB 35 [(.tmp 36),(.tmp 37)] [9,52] false [(0,.box [sl 8 (Pack.enc false) a1]),(1,.box [sl 1 zC a2]),(2,.box [sl 1 zC a3])] [0,1,2] [sv a5,sl 1 eStr x6] [pp 0,pp 1,pp 2] (.cons (.same rfl) (.cons (.same rfl) (.cons (.pt rfl) (.cons (.pt rfl) (.cons (.pt rfl) (.nil)))))) (vN.ok a5 x6 a1 a2 a3) h14 (.same rfl rfl))) zB))) ?_
   exact wD (J_j (jv15 x13)) rfl
noncomputable def c31:Code:=(Tryz.f31.body).getD .skip
theorem zB9.ok (a1:(List Pack)) (a2:(List Int)) (a3:(List Int)) (s133:((List (List ByteArray))×(List ByteArray))) (s226:((List ByteArray)×(List ByteArray)×Int)) (q:Wd) (kn:((List ByteArray)×(List ByteArray))→Option (D×List Ent)) (hk:∀v:((List ByteArray)×(List ByteArray)),J (q.g Tryz.prog 31 0 64) c31 (atI c31 464531) (St.mk' [(0,sl 8 (Pack.enc false) a1),(1,sl 1 zC a2),(2,sl 1 zC a3),(7,rr 0 s133.1),(9,rr 2 v.1),(10,iv s226.2.2),(11,rr 4 v.2)] [(0,rE 1 (eSl true 1 eStr) s133.1),(2,rE 1 eStr v.1),(4,rE 1 eStr v.2)]) (some v) kn):
  ∀s241:((List ByteArray)×(List ByteArray)×Int),J (q.g Tryz.prog 31 0 64) c31 (atI c31 3716244) (St.mk' [(0,sl 8 (Pack.enc false) a1),(1,sl 1 zC a2),(2,sl 1 zC a3),(7,rr 0 s133.1),(9,rr 2 s241.1),(10,iv s226.2.2),(11,rr 4 s241.2.1),(33,rr 3 s226.1),(34,iv (s226.1.length:Int)),(35,iv s241.2.2)] [(0,rE 1 (eSl true 1 eStr) s133.1),(2,rE 1 eStr s241.1),(3,rE 1 eStr s226.1),(4,rE 1 eStr s241.2.1)]) (zB9 a1 a2 a3 s133 s226 s241) kn:=by
 refine tV (fun g ih s241=>?_)
 unfold zCg
 refine J_d 7432488 [] [36] [(36,bv (decide (s241.2.2< (s226.1.length:Int))))] [] [] zB ?_
 refine zF 36 (fun h242=>?_) (fun h242=>?_)
 ·refine zA (fun x243 h244=>?_)
  refine J_d 118919832 [] [13,36] [(13,sv x243)] [] [] (zD 0 (jT (kk:=.i64) 52 9 1 3 eStr (.tmp 33) (.tmp 35) h244) (zD 1 (zC1 (d:=sv x243) 9 1 3 0 eStr (.tmp 37) h244 (by kernel_rfl)) zB)) ?_
  refine zA (fun x245 h246=>?_)
  refine zA (fun x247 h248=>?_)
  refine J_d 237839666 [] [47] [(47,bv x247)] [] [] (zD 5 (jT (kk:=.i64) 52 9 1 2 eStr (.tmp 42) (.tmp 43) h246) (zD 6 (zC1 (d:=sv x245) 9 1 2 0 eStr (.tmp 44) h246 (by kernel_rfl)) (zD 8 (vG [(.tmp 39),(.tmp 40),(.tmp 41),(.tmp 45),(.tmp 46)] [28,23,23,9,9] (wV.ok a1 a2 a3 x245 x243) h248) zB))) ?_
  refine vW (aft c31 59459916) (fun v254:((List ByteArray)×(List ByteArray))=>St.mk' [(0,sl 8 (Pack.enc false) a1),(1,sl 1 zC a2),(2,sl 1 zC a3),(7,rr 0 s133.1),(9,rr 6 v254.1),(10,iv s226.2.2),(11,rr 4 v254.2),(33,rr 3 s226.1),(34,iv (s226.1.length:Int)),(35,iv s241.2.2)] [(0,rE 1 (eSl true 1 eStr) s133.1),(3,rE 1 eStr s226.1),(4,rE 1 eStr v254.2),(6,rE 1 eStr v254.1)]) (fun v254=>?_) (fun jv254=>?_)
  ·refine J_d 29729959 [] [35] [(35,iv (w64 (s241.2.2+1)))] [] [] zB ?_
   refine jR 6 2 (Nat.le_of_ble_eq_true rfl) (Nat.le_of_ble_eq_true rfl) ?_
   exact J_q (J_b (ih (v254.1,v254.2,w64 (s241.2.2+1)))) rfl
  ·refine zF 47 (fun h249=>?_) (fun h249=>?_)
   ·refine zA (fun x250 h251=>?_)
    refine J_d 475679334 [] [9,13,47] [(9,rr 6 x250)] [2,6] [(6,rE 1 eStr x250)] (zD 2 (zEa 52 9 1 5 eStr [x243] [0] [(.tmp 49)] [sv x243]) (zD 3 (zGv 52 52 9 9 1 16 6 2 5 eStr (.tmp 48) (.tmp 50) h251) zB)) ?_
    exact wD (J_j (jv254 (x250,s241.2.1))) rfl
   ·refine zA (fun x252 h253=>?_)
    refine J_d 475679335 [] [11,13,47] [(11,rr 6 x252)] [4,6] [(6,rE 1 eStr x252)] (zD 2 (zEa 52 9 1 5 eStr [x243] [0] [(.tmp 53)] [sv x243]) (zD 3 (zGv 52 52 9 9 1 16 6 4 5 eStr (.tmp 52) (.tmp 54) h253) zB)) ?_
    refine jR 2 6 (Nat.le_of_ble_eq_true rfl) (Nat.le_of_ble_eq_true rfl) ?_
    refine jR 2 4 (Nat.le_of_ble_eq_true rfl) (Nat.le_of_ble_eq_true rfl) ?_
    exact wD (J_j (jv254 (s241.1,x252))) rfl
 ·exact wD (hk (s241.1,s241.2.1)) rfl
theorem zBC.ok (a1:(List Pack)) (a2:(List Int)) (a3:(List Int)) (s133:((List (List ByteArray))×(List ByteArray))) (q:Wd) (kn:((List ByteArray)×(List ByteArray))→Option (D×List Ent)) (hk:∀v:((List ByteArray)×(List ByteArray)),J (q.g Tryz.prog 31 0 64) c31 (atI c31 1815) (St.mk' [(0,sl 8 (Pack.enc false) a1),(1,sl 1 zC a2),(2,sl 1 zC a3),(7,rr 0 s133.1),(8,rr 3 v.1),(9,rr 2 v.2)] [(0,rE 1 (eSl true 1 eStr) s133.1),(2,rE 1 eStr v.2),(3,rE 1 eStr v.1)]) (some v) kn):
  ∀s226:((List ByteArray)×(List ByteArray)×Int),J (q.g Tryz.prog 31 0 64) c31 (atI c31 14516) (St.mk' [(0,sl 8 (Pack.enc false) a1),(1,sl 1 zC a2),(2,sl 1 zC a3),(7,rr 0 s133.1),(8,rr 3 s226.1),(9,rr 2 s226.2.1),(10,iv s226.2.2)] [(0,rE 1 (eSl true 1 eStr) s133.1),(2,rE 1 eStr s226.2.1),(3,rE 1 eStr s226.1)]) (zBC a1 a2 a3 s133 s226) kn:=by
 refine tV (fun g ih s226=>?_)
 unfold zDK
 refine J_d 58064 [] [29] [(29,bv (decide (s226.2.2< (s226.2.1.length:Int))))] [] [] zB ?_
 refine zF 29 (fun h227=>?_) (fun h227=>?_)
 ·refine J_g 232264 [] [(0,sl 8 (Pack.enc false) a1),(1,sl 1 zC a2),(2,sl 1 zC a3),(7,rr 0 s133.1),(8,rr 3 s226.1),(9,rr 2 s226.2.1),(10,iv s226.2.2),(11,rr 4 ([]:List ByteArray))] [(0,rE 1 (eSl true 1 eStr) s133.1),(2,rE 1 eStr s226.2.1),(3,rE 1 eStr s226.1),(4,rE 1 eStr ([]:List ByteArray))] (zD 0 (zEa 52 9 1 4 eStr ([]:List ByteArray) [] [] []) zB) ?_
  refine J_d 929060 [] [8,33,34,35] [(33,rr 3 s226.1),(34,iv (s226.1.length:Int)),(35,iv 0)] [] [] zB ?_
  refine zE2 (zB9.ok a1 a2 a3 s133 s226 q _ (fun v255=>J_j ?_) (s226.2.1,([]:List ByteArray),0))
  refine J_g 464531 [] [(0,sl 8 (Pack.enc false) a1),(1,sl 1 zC a2),(2,sl 1 zC a3),(7,rr 0 s133.1),(8,rr 4 v255.2),(9,rr 2 v255.1),(10,iv s226.2.2)] [(0,rE 1 (eSl true 1 eStr) s133.1),(2,rE 1 eStr v255.1),(4,rE 1 eStr v255.2)] zB ?_
  refine J_d 58067 [] [10] [(10,iv (w64 (s226.2.2+1)))] [] [] zB ?_
  refine jR 4 3 (Nat.le_of_ble_eq_true rfl) (Nat.le_of_ble_eq_true rfl) ?_
  exact J_q (J_b (ih (v255.2,v255.1,w64 (s226.2.2+1)))) rfl
 ·exact wD (hk (s226.1,s226.2.1)) rfl
theorem zBB.ok (a1:(List Pack)) (a2:(List Int)) (a3:(List Int)) (s133:((List (List ByteArray))×(List ByteArray))) (x137:(List ByteArray)) (q:Wd) (kn:((List ByteArray)×(List ByteArray))→Option (D×List Ent)) (hk:∀v:((List ByteArray)×(List ByteArray)),J (q.g Tryz.prog 31 0 64) c31 (atI c31 464531) (St.mk' [(0,sl 8 (Pack.enc false) a1),(1,sl 1 zC a2),(2,sl 1 zC a3),(7,rr 0 s133.1),(9,.cw 2 v.1.length),(10,iv 0),(11,rr 3 v.2)] [(0,rE 1 (eSl true 1 eStr) s133.1),(1,rE 1 eStr s133.2),(2,.cow 1 (v.1.map eStr) 1 (s133.2.map eStr)),(3,rE 1 eStr v.2)]) (some v) kn):
  ∀s182:((List ByteArray)×(List ByteArray)×Int),J (q.g Tryz.prog 31 0 64) c31 (atI c31 3716244) (St.mk' [(0,sl 8 (Pack.enc false) a1),(1,sl 1 zC a2),(2,sl 1 zC a3),(7,rr 0 s133.1),(9,.cw 2 s182.1.length),(10,iv 0),(11,rr 3 s182.2.1),(33,.sub 1 (1:Int).toNat x137.length),(34,iv (x137.length:Int)),(35,iv s182.2.2)] [(0,rE 1 (eSl true 1 eStr) s133.1),(1,rE 1 eStr s133.2),(2,.cow 1 (s182.1.map eStr) 1 (s133.2.map eStr)),(3,rE 1 eStr s182.2.1)]) (zBB a1 a2 a3 s133 x137 s182) kn:=by
 refine tV (fun g ih s182=>?_)
 unfold zCx
 refine J_d 7432488 [] [36] [(36,bv (decide (s182.2.2< (x137.length:Int))))] [] [] zB ?_
 refine zF 36 (fun h183=>?_) (fun h183=>?_)
 ·refine zA (fun x184 h185=>?_)
  refine J_d 118919832 [] [13,36] [(13,sv x184)] [] [] (zD 0 (zNh (kk:=.i64) 52 9 1 1 eStr (.tmp 33) (.tmp 35) h185) (zD 1 (zC1 (d:=sv x184) 9 1 1 0 eStr (.tmp 37) (zHj h185) (by kernel_rfl)) zB)) ?_
  refine zA (fun x186 h187=>?_)
  refine zA (fun x188 h189=>?_)
  refine J_d 237839666 [] [47] [(47,bv x188)] [] [] (zD 5 (zPw (kk:=.i64) (ys:=s133.2) 52 9 1 2 1 eStr (.tmp 42) (.tmp 43) h187) (zD 6 (zPt (d:=sv x186) (ys:=s133.2) 9 1 2 1 eStr (.tmp 44) h187 (by kernel_rfl)) (zD 8 (vG [(.tmp 39),(.tmp 40),(.tmp 41),(.tmp 45),(.tmp 46)] [28,23,23,9,9] (wV.ok a1 a2 a3 x186 x184) h189) zB))) ?_
  refine vW (aft c31 59459916) (fun v195:((List ByteArray)×(List ByteArray))=>St.mk' [(0,sl 8 (Pack.enc false) a1),(1,sl 1 zC a2),(2,sl 1 zC a3),(7,rr 0 s133.1),(9,.cw 5 v195.1.length),(10,iv 0),(11,rr 3 v195.2),(33,.sub 1 (1:Int).toNat x137.length),(34,iv (x137.length:Int)),(35,iv s182.2.2)] [(0,rE 1 (eSl true 1 eStr) s133.1),(1,rE 1 eStr s133.2),(3,rE 1 eStr v195.2),(5,.cow 1 (v195.1.map eStr) 1 (s133.2.map eStr))]) (fun v195=>?_) (fun jv195=>?_)
  ·refine J_d 29729959 [] [35] [(35,iv (w64 (s182.2.2+1)))] [] [] zB ?_
   refine jR 5 2 (Nat.le_of_ble_eq_true rfl) (Nat.le_of_ble_eq_true rfl) ?_
   exact J_q (J_b (ih (v195.1,v195.2,w64 (s182.2.2+1)))) rfl
  ·refine zF 47 (fun h190=>?_) (fun h190=>?_)
   ·refine zA (fun x191 h192=>?_)
    refine J_d 475679334 [] [9,13,47] [(9,rr 5 x191)] [2,5] [(5,rE 1 eStr x191)] (zD 2 (zEa 52 9 1 4 eStr [x184] [0] [(.tmp 49)] [sv x184]) (zD 3 (zP6 (rs:=s133.2) 52 52 9 9 1 16 5 2 1 4 eStr (.tmp 48) (.tmp 50) h192) zB)) ?_
    refine zEA [(0,sl 8 (Pack.enc false) a1),(1,sl 1 zC a2),(2,sl 1 zC a3),(7,rr 0 s133.1),(9,rr 5 x191),(10,iv 0),(11,rr 3 s182.2.1),(33,.sub 1 (1:Int).toNat x137.length),(34,iv (x137.length:Int)),(35,iv s182.2.2)] [(5,rE 1 eStr x191),(0,rE 1 (eSl true 1 eStr) s133.1),(1,rE 1 eStr s133.2),(3,rE 1 eStr s182.2.1)] (by kernel_rfl) ?_
    refine zPu 5 1 (xs:=x191.map eStr) (ys:=s133.2.map eStr) (tm2:=[(0,sl 8 (Pack.enc false) a1),(1,sl 1 zC a2),(2,sl 1 zC a3),(7,rr 0 s133.1),(9,.cw 5 x191.length),(10,iv 0),(11,rr 3 s182.2.1),(33,.sub 1 (1:Int).toNat x137.length),(34,iv (x137.length:Int)),(35,iv s182.2.2)]) (hp:=[(0,rE 1 (eSl true 1 eStr) s133.1),(1,rE 1 eStr s133.2),(3,rE 1 eStr s182.2.1)]) (.cons .same (.cons .same (.cons .same (.cons .same (.cons .rf (.cons .same (.cons .same (.cons .same (.cons .same (.cons .same (.nil))))))))))) rfl ?_
    refine zEA [(0,sl 8 (Pack.enc false) a1),(1,sl 1 zC a2),(2,sl 1 zC a3),(7,rr 0 s133.1),(9,.cw 5 x191.length),(10,iv 0),(11,rr 3 s182.2.1),(33,.sub 1 (1:Int).toNat x137.length),(34,iv (x137.length:Int)),(35,iv s182.2.2)] [(0,rE 1 (eSl true 1 eStr) s133.1),(1,rE 1 eStr s133.2),(3,rE 1 eStr s182.2.1),(5,.cow 1 (x191.map eStr) 1 (s133.2.map eStr))] (by kernel_rfl) ?_
    exact wD (J_j (jv195 (x191,s182.2.1))) rfl
   ·refine zA (fun x193 h194=>?_)
    refine J_d 475679335 [] [11,13,47] [(11,rr 5 x193)] [3,5] [(5,rE 1 eStr x193)] (zD 2 (zEa 52 9 1 4 eStr [x184] [0] [(.tmp 53)] [sv x184]) (zD 3 (zGv 52 52 9 9 1 16 5 3 4 eStr (.tmp 52) (.tmp 54) h194) zB)) ?_
    refine jR 2 5 (Nat.le_of_ble_eq_true rfl) (Nat.le_of_ble_eq_true rfl) ?_
    refine jR 2 3 (Nat.le_of_ble_eq_true rfl) (Nat.le_of_ble_eq_true rfl) ?_
    exact wD (J_j (jv195 (s182.1,x193))) rfl
 ·exact wD (hk (s182.1,s182.2.1)) rfl
theorem kG.ok (a1:(List Pack)) (a2:(List Int)) (a3:(List Int)) (q:Wd) (kn:(List (List ByteArray))→Option (D×List Ent)) (hk:∀v:(List (List ByteArray)),J (q.g Tryz.prog 31 0 64) c31 (atI c31 15) (St.mk' [(7,rr 0 v)] [(0,rE 1 (eSl true 1 eStr) v)]) (some v) kn):
  ∀s133:((List (List ByteArray))×(List ByteArray)),J (q.g Tryz.prog 31 0 64) c31 (atI c31 56) (St.mk' [(0,sl 8 (Pack.enc false) a1),(1,sl 1 zC a2),(2,sl 1 zC a3),(7,rr 0 s133.1),(8,rr 1 s133.2)] [(0,rE 1 (eSl true 1 eStr) s133.1),(1,rE 1 eStr s133.2)]) (kG a1 a2 a3 s133) kn:=by
 refine tV (fun g ih s133=>?_)
 unfold zCz
 refine J_d 224 [] [21] [(21,bv (decide ((s133.2.length:Int)>0)))] [] [] zB ?_
 refine zF 21 (fun h134=>?_) (fun h134=>?_)
 ·refine zA (fun x135 h136=>?_)
  refine J_d 452 [] [9,21] [(9,.cw 2 x135.length)] [2] [(2,.cow 1 (x135.map eStr) 1 (s133.2.map eStr))] (zD 1 (zO1 (k:=1) (kk:=.i64) 52 9 1 1 2 eStr (.tmp 22) h136) zB) ?_
  refine zA (fun x137 h138=>?_)
  refine J_g 906 [] [(0,sl 8 (Pack.enc false) a1),(1,sl 1 zC a2),(2,sl 1 zC a3),(7,rr 0 s133.1),(8,.sub 1 (1:Int).toNat x137.length),(9,.cw 2 x135.length)] [(0,rE 1 (eSl true 1 eStr) s133.1),(1,rE 1 eStr s133.2),(2,.cow 1 (x135.map eStr) 1 (s133.2.map eStr))] (zD 1 (zLw 52 9 1 1 eStr (.tmp 24) (some (.const (.int .i64 1))) none h138) zB) ?_
  refine J_g 3628 [] [(0,sl 8 (Pack.enc false) a1),(1,sl 1 zC a2),(2,sl 1 zC a3),(7,rr 0 s133.1),(8,.sub 1 (1:Int).toNat x137.length),(9,.cw 2 x135.length),(10,iv 0)] [(0,rE 1 (eSl true 1 eStr) s133.1),(1,rE 1 eStr s133.2),(2,.cow 1 (x135.map eStr) 1 (s133.2.map eStr))] zB ?_
  refine J_d 58064 [] [29] [(29,bv (decide (0< (x135.length:Int))))] [] [] (zD 2 (zO3 52 9 2 x135.length (.tmp 27)) zB) ?_
  refine zF 29 (fun h168=>?_) (fun h168=>?_)
  ·refine J_g 232264 [] [(0,sl 8 (Pack.enc false) a1),(1,sl 1 zC a2),(2,sl 1 zC a3),(7,rr 0 s133.1),(8,.sub 1 (1:Int).toNat x137.length),(9,.cw 2 x135.length),(10,iv 0),(11,rr 3 ([]:List ByteArray))] [(0,rE 1 (eSl true 1 eStr) s133.1),(1,rE 1 eStr s133.2),(2,.cow 1 (x135.map eStr) 1 (s133.2.map eStr)),(3,rE 1 eStr ([]:List ByteArray))] (zD 0 (zEa 52 9 1 3 eStr ([]:List ByteArray) [] [] []) zB) ?_
   refine J_d 929060 [] [8,33,34,35] [(33,.sub 1 (1:Int).toNat x137.length),(34,iv (x137.length:Int)),(35,iv 0)] [] [] (zD 1 (zN6 52 9 1 (1:Int).toNat x137.length (.tmp 33)) zB) ?_
   refine zE2 (zBB.ok a1 a2 a3 s133 x137 q _ (fun v196=>J_j ?_) (x135,([]:List ByteArray),0))
   refine J_g 464531 [] [(0,sl 8 (Pack.enc false) a1),(1,sl 1 zC a2),(2,sl 1 zC a3),(7,rr 0 s133.1),(8,rr 3 v196.2),(9,.cw 2 v196.1.length),(10,iv 0)] [(0,rE 1 (eSl true 1 eStr) s133.1),(1,rE 1 eStr s133.2),(2,.cow 1 (v196.1.map eStr) 1 (s133.2.map eStr)),(3,rE 1 eStr v196.2)] zB ?_
   refine zEA [(0,sl 8 (Pack.enc false) a1),(1,sl 1 zC a2),(2,sl 1 zC a3),(7,rr 0 s133.1),(8,rr 3 v196.2),(9,.cw 2 v196.1.length),(10,iv 0)] [(2,.cow 1 (v196.1.map eStr) 1 (s133.2.map eStr)),(1,rE 1 eStr s133.2),(0,rE 1 (eSl true 1 eStr) s133.1),(3,rE 1 eStr v196.2)] (by kernel_rfl) ?_
   refine zOP 2 1 (z:=1) (n:=v196.1.length) (xs:=v196.1.map eStr) (ys:=s133.2.map eStr) (tm2:=[(0,sl 8 (Pack.enc false) a1),(1,sl 1 zC a2),(2,sl 1 zC a3),(7,rr 0 s133.1),(8,rr 3 v196.2),(9,rr 2 v196.1),(10,iv 0)]) (hp:=[(0,rE 1 (eSl true 1 eStr) s133.1),(3,rE 1 eStr v196.2)]) (.cons (.same rfl rfl) (.cons (.same rfl rfl) (.cons (.same rfl rfl) (.cons (.same rfl rfl) (.cons (.same rfl rfl) (.cons (.cw) (.cons (.same rfl rfl) (.nil)))))))) ⟨rfl,rfl⟩ (Nat.le_of_ble_eq_true rfl) (List.length_map _) ?_
   refine zEA [(0,sl 8 (Pack.enc false) a1),(1,sl 1 zC a2),(2,sl 1 zC a3),(7,rr 0 s133.1),(8,rr 3 v196.2),(9,rr 2 v196.1),(10,iv 0)] [(0,rE 1 (eSl true 1 eStr) s133.1),(2,rE 1 eStr v196.1),(3,rE 1 eStr v196.2)] (by kernel_rfl) ?_
   refine J_d 58067 [] [10] [(10,iv (w64 (0+1)))] [] [] zB ?_
   refine zE2 (zBC.ok a1 a2 a3 s133 q _ (fun v256=>J_j ?_) (v196.2,v196.1,w64 (0+1)))
   refine zA (fun x257 h258=>?_)
   refine zA (fun x259 h260=>?_)
   refine J_d 1815 [] [7,9] [(7,rr 6 x259)] [0,2,6] [(6,rE 1 (eSl true 1 eStr) x259)] (zD 2 (vC («as»:=[rr 2 v256.2]) [(.tmp 59)] [52] false [(2,rE 1 eStr v256.2)] [2] (.cons (.rf rfl) (.nil)) (uO.ok v256.2) h258 (.own 4)) (zD 3 (zNM (ds:=[rr 4 x257]) (ts:=[4]) 35 52 1 5 (eSl true 1 eStr) [x257] [0] [(.tmp 60)] [rr 4 x257] [(4,rE 1 eStr x257)] (.move (.head _) (List.length_map _) (by decide) (.nil))) (zD 4 (zGv 35 35 52 52 1 24 6 0 5 (eSl true 1 eStr) (.tmp 58) (.tmp 61) h260) zB))) ?_
   refine jR 6 0 (Nat.le_of_ble_eq_true rfl) (Nat.le_of_ble_eq_true rfl) ?_
   refine jR 3 1 (Nat.le_of_ble_eq_true rfl) (Nat.le_of_ble_eq_true rfl) ?_
   exact J_q (J_b (ih (x259,v256.1))) rfl
  ·exact zKT
 ·exact wD (hk s133.1) rfl
theorem zAJ.ok (a1:(List Pack)) (a2:(List Int)) (a3:(List Int)):Ok Tryz.prog 31 [sl 8 (Pack.enc false) a1,sl 1 zC a2,sl 1 zC a3] [] ((zAJ a1 a2 a3).map fun r=>(so 1 (eSl true 1 eStr) r,[])):=by
 refine zG c31 Tryz.f31 0 64 (fun q=>?_)
 unfold zAJ
 refine J_d 2 [] [] [] [] [] zB ?_
 refine zA (fun x4 h5=>?_)
 refine J_d 6 [] [7,8] [(7,rr 0 ([]:List (List ByteArray))),(8,rr 1 x4)] [0,1] [(0,rE 1 (eSl false 1 eStr) ([]:List (List ByteArray))),(1,rE 1 eStr x4)] (zD 0 (zEa 35 52 1 0 (eSl false 1 eStr) ([]:List (List ByteArray)) [] [] []) (zD 4 (vC («as»:=[sl 8 (Pack.enc false) a1,sl 1 zC a2,sl 1 zC a3]) [(.tmp 15),(.tmp 16),(.tmp 17)] [28,23,23] false [] [] (.cons (.same rfl) (.cons (.same rfl) (.cons (.same rfl) (.nil)))) (zAQ.ok a1 a2 a3) h5 (.own 1)) zB)) ?_
 refine zE2 (kG.ok a1 a2 a3 q _ (fun v261=>J_j ?_) (([]:List (List ByteArray)),x4))
 refine J_g 30 [] [(6,rr 0 v261)] [(0,rE 1 (eSl true 1 eStr) v261)] zB ?_
 exact zEl (ds:=[rr 0 v261]) (ds':=[so 1 (eSl true 1 eStr) v261]) (.cons (.cell (.move (.head _) (List.length_map _) (by decide) (.nil))) (.nil) (by decide)) rfl
noncomputable def c63:Code:=(Tryz.f63.body).getD .skip
theorem wH.ok (a1:(List Int)):Ok Tryz.prog 63 [sl 1 zC a1] [] ((wH a1).map fun r=>(so 1 zC r,[])):=by
 refine zG c63 Tryz.f63 0 8 (fun q=>?_)
 unfold wH
 refine J_g 2 [] [(0,sl 1 zC a1)] [] zB ?_
 refine J_d 12 [] [4] [(4,.nb a1.length)] [] [] (zD 1 (zMk (xs:=a1) 23 2 23 1 zC (.tmp 3)) zB) ?_
 refine zPK 4 rfl (fun h2=>?_) ?_
 ·obtain rfl:a1=[]:=List.eq_nil_of_length_eq_zero h2
  refine zN4 (e':=some ([]:List Int)) (by kernel_rfl) ?_
  refine J_g 52 [] [(2,nv)] [] zB ?_
  exact zEl (ds:=[nv]) (ds':=[so 1 zC ([]:List Int)]) (.cons (.cell (.nilsl true 1 (.nil))) (.nil) (by decide)) rfl
 ·refine zA (fun x3 h4=>?_)
  refine J_g 14 [] [(2,rr 1 x3)] [(1,rE 1 zC x3)] (zD 0 (zEa 23 2 1 0 zC ([]:List Int) [] [] []) (zD 2 (zJa 23 23 2 2 1 8 1 0 zC (.tmp 5) (.tmp 6) h4) zB)) ?_
  exact zEl (ds:=[rr 1 x3]) (ds':=[so 1 zC x3]) (.cons (.cell (.move (.head _) (List.length_map _) (by decide) (.nil))) (.nil) (by decide)) rfl
noncomputable def c93:Code:=(Tryz.f93.body).getD .skip
theorem zBb.ok (a1:Int) (a2:(List ByteArray)) (a3:(List Pack)):Ok Tryz.prog 93 [iv a1,pp 0,pp 1] [.box [sl 1 eStr a2],.box [sl 8 (Pack.enc false) a3]] ((zBb a1 a2 a3).map fun r=>(bv r,[.box [sl 1 eStr a2],.box [sl 8 (Pack.enc false) a3]])):=by
 refine zG c93 Tryz.f93 2 12 (fun q=>?_)
 unfold zBb
 refine J_d 2 [] [] [] [] [] zB ?_
 refine zA (fun x4 h5=>?_)
 refine zA (fun x6 h7=>?_)
 refine J_d 6 [] [0,1,2,4] [(4,bv x6)] [] [] (zD 3 (tT (kk:=.i64) 28 63 8 (Pack.enc false) (.tmp 6) (.tmp 7) h5) (zD 6 (vG [(.tmp 5),(.tmp 10)] [52,9] (yA.ok a2 x4.Name) h7) zB)) ?_
 exact zQ rfl
noncomputable def c95:Code:=(Tryz.f95.body).getD .skip
theorem vS.ok (a1:Int) (a2:(List ByteArray)) (a3:(List Pack)):Ok Tryz.prog 95 [iv a1,.pb [.fn 93 [pp 0,pp 1]]] [.box [sl 1 eStr a2],.box [sl 8 (Pack.enc false) a3]] ((vS a1 a2 a3).map fun r=>(bv r,[.box [sl 1 eStr a2],.box [sl 8 (Pack.enc false) a3]])):=by
 refine zG c95 Tryz.f95 2 8 (fun q=>?_)
 unfold vS
 refine J_d 2 [] [] [] [] [] zB ?_
 refine zA (fun x4 h5=>?_)
 refine J_d 6 [] [0,1,3] [(3,bv (!x4))] [] [] (zD 0 (zKz (d:=.fn 93 [pp 0,pp 1]) 119 (.tmp 1) [.fn 93 [pp 0,pp 1]]) (zD 2 (zEV [(0,.box [sl 1 eStr a2]),(1,.box [sl 8 (Pack.enc false) a3])] [] (zEB 4 [(.tmp 5)] [2] false [(0,.box [sl 1 eStr a2]),(1,.box [sl 8 (Pack.enc false) a3])] [0,1] [iv a1] [pp 0,pp 1] (.cons (.same rfl) (.cons (.pt rfl) (.cons (.pt rfl) (.nil)))) (zBb.ok a1 a2 a3) h5 (.same rfl rfl))) zB)) ?_
 exact zQ rfl
noncomputable def zPM:Code:=(Tryz.f133.body).getD .skip
theorem zT.ok (a1:Int) (a2:(List ByteArray)) (a3:(List Pack)):Ok Tryz.prog 133 [iv a1,.pb [.fn 95 [.pb [.fn 93 [pp 0,pp 1]]]]] [.box [sl 1 eStr a2],.box [sl 8 (Pack.enc false) a3]] ((zT a1 a2 a3).map fun r=>(bv r,[.box [sl 1 eStr a2],.box [sl 8 (Pack.enc false) a3]])):=by
 refine zG zPM Tryz.f133 2 8 (fun q=>?_)
 unfold zT
 refine J_d 2 [] [] [] [] [] zB ?_
 refine zA (fun x4 h5=>?_)
 refine J_d 6 [] [0,1,3] [(3,bv (!x4))] [] [] (zD 0 (zKz (d:=.fn 95 [.pb [.fn 93 [pp 0,pp 1]]]) 119 (.tmp 1) [.fn 95 [.pb [.fn 93 [pp 0,pp 1]]]]) (zD 2 (zEV [(0,.box [sl 1 eStr a2]),(1,.box [sl 8 (Pack.enc false) a3])] [] (zEB 4 [(.tmp 5)] [2] false [(0,.box [sl 1 eStr a2]),(1,.box [sl 8 (Pack.enc false) a3])] [0,1] [iv a1] [.pb [.fn 93 [pp 0,pp 1]]] (.cons (.same rfl) (.cons (.pb (.cons (.fn (.cons (.pt rfl) (.cons (.pt rfl) (.nil)))) (.nil))) (.nil))) (vS.ok a1 a2 a3) h5 (.same rfl rfl))) zB)) ?_
 exact zQ rfl
theorem yB.ok (a1:(List Int)) (a2:(List ByteArray)) (a3:(List Pack)) (q:Wd) (kn:Unit→Option (D×List Ent)) (hk:∀v:Unit,J (q.g Tryz.prog 165 3 19) zHg (atI zHg 7) (St.mk' [] [(0,rE 1 zC a1),(1,.box [sl 1 eStr a2]),(2,.box [sl 8 (Pack.enc false) a3])]) (some v) kn):
  ∀s10:Int,J (q.g Tryz.prog 165 3 19) zHg (atI zHg 52) (St.mk' [(0,rr 0 a1),(1,.fn 133 [.pb [.fn 95 [.pb [.fn 93 [pp 1,pp 2]]]]]),(7,iv (a1.length:Int)),(8,iv s10)] [(0,rE 1 zC a1),(1,.box [sl 1 eStr a2]),(2,.box [sl 8 (Pack.enc false) a3])]) (yB a1 a2 a3 s10) (Fl.go (fun r:Int=>some (iv r,[rE 1 zC a1,.box [sl 1 eStr a2],.box [sl 8 (Pack.enc false) a3]])) kn):=by
 refine tV (fun g ih s10=>?_)
 unfold zO
 refine J_d 104 [] [9] [(9,bv (decide (s10< (a1.length:Int))))] [] [] zB ?_
 refine zF 9 (fun h11=>?_) (fun h11=>?_)
 ·refine J_d 1688 [] [5,9] [(5,iv s10)] [] [] zB ?_
  refine zA (fun x12 h13=>?_)
  refine zA (fun x14 h15=>?_)
  refine J_d 3378 [] [16] [(16,bv x14)] [] [] (zD 3 (jT (kk:=.i64) 23 2 1 0 zC (.tmp 12) (.tmp 13) h13) (zD 4 (zC1 (d:=iv x12) 2 1 0 0 zC (.tmp 14) h13 (by kernel_rfl)) (zD 5 (zEV [(1,.box [sl 1 eStr a2]),(2,.box [sl 8 (Pack.enc false) a3])] [] (zEB 11 [(.tmp 15)] [2] false [(1,.box [sl 1 eStr a2]),(2,.box [sl 8 (Pack.enc false) a3])] [1,2] [iv x12] [.pb [.fn 95 [.pb [.fn 93 [pp 1,pp 2]]]]] (.cons (.same rfl) (.cons (.pb (.cons (.fn (.cons (.pb (.cons (.fn (.cons (.pt rfl) (.cons (.pt rfl) (.nil)))) (.nil))) (.nil))) (.nil))) (.nil))) (zT.ok x12 a2 a3) h15 (.same rfl rfl))) zB))) ?_
  refine zF 16 (fun h16=>?_) (fun h16=>?_)
  ·refine J_d 13516 [] [0,1,4,5,7,8,16] [(4,iv s10)] [] [] zB ?_
   exact zQ rfl
  ·refine J_d 423 [] [5,8,16] [(8,iv (w64 (s10+1)))] [] [] zB ?_
   exact J_q (J_b (ih (w64 (s10+1)))) rfl
 ·exact wD (hk ()) rfl
theorem zP.ok (a1:(List Int)) (a2:(List ByteArray)) (a3:(List Pack)):Ok Tryz.prog 165 [rr 0 a1,.fn 133 [.pb [.fn 95 [.pb [.fn 93 [pp 1,pp 2]]]]]] [rE 1 zC a1,.box [sl 1 eStr a2],.box [sl 8 (Pack.enc false) a3]] ((zP a1 a2 a3).map fun r=>(iv r,[rE 1 zC a1,.box [sl 1 eStr a2],.box [sl 8 (Pack.enc false) a3]])):=by
 refine zG zHg Tryz.f165 3 19 (fun q=>?_)
 unfold zP
 refine J_g 2 [] [(0,rr 0 a1),(1,.fn 133 [.pb [.fn 95 [.pb [.fn 93 [pp 1,pp 2]]]]])] [(0,rE 1 zC a1),(1,.box [sl 1 eStr a2]),(2,.box [sl 8 (Pack.enc false) a3])] zB ?_
 refine J_d 12 [] [7,8] [(7,iv (a1.length:Int)),(8,iv 0)] [] [] zB ?_
 refine uP (K0:=(fun r:Int=>some (iv r,[rE 1 zC a1,.box [sl 1 eStr a2],.box [sl 8 (Pack.enc false) a3]]))) (fun _=>rfl) (yB.ok a1 a2 a3 q _ (fun v17=>J_j ?_) 0)
 refine J_d 14 [] [4] [(4,iv (-1))] [] [] zB ?_
 exact zQ rfl
noncomputable def zL6:Code:=(Tryz.f132.body).getD .skip
theorem zZ.ok (a2:(List ByteArray)) (a3:(List Pack)) (q:Wd) (kn:((List Int)×Int)→Option (D×List Ent)) (hk:∀v:((List Int)×Int),J (q.g Tryz.prog 132 3 42) zL6 (atI zL6 31) (St.mk' [(0,rr 2 v.1),(5,iv v.2)] [(0,.box [sl 1 eStr a2]),(1,.box [sl 8 (Pack.enc false) a3]),(2,rE 1 zC v.1)]) (some v) kn):
  ∀s16:((List Int)×Int×Int),J (q.g Tryz.prog 132 3 42) zL6 (atI zL6 244) (St.mk' [(0,rr 2 s16.1),(1,.fn 133 [.pb [.fn 95 [.pb [.fn 93 [pp 0,pp 1]]]]]),(5,iv s16.2.1),(6,iv s16.2.2)] [(0,.box [sl 1 eStr a2]),(1,.box [sl 8 (Pack.enc false) a3]),(2,rE 1 zC s16.1)]) (zZ a2 a3 s16) kn:=by
 refine tV (fun g ih s16=>?_)
 unfold zM
 refine J_d 976 [] [19] [(19,bv (decide (s16.2.2< (s16.1.length:Int))))] [] [] zB ?_
 refine zF 19 (fun h17=>?_) (fun h17=>?_)
 ·refine zA (fun x18 h19=>?_)
  refine J_d 3912 [] [7,19] [(7,iv x18)] [] [] (zD 2 (jT (kk:=.i64) 23 2 1 2 zC (.tmp 22) (.tmp 23) h19) (zD 3 (zC1 (d:=iv x18) 2 1 2 0 zC (.tmp 24) h19 (by kernel_rfl)) zB)) ?_
  refine zA (fun x20 h21=>?_)
  refine J_d 7826 [] [29] [(29,bv (!x20))] [] [] (zD 2 (zEV [(0,.box [sl 1 eStr a2]),(1,.box [sl 8 (Pack.enc false) a3])] [] (zEB 26 [(.tmp 27)] [2] false [(0,.box [sl 1 eStr a2]),(1,.box [sl 8 (Pack.enc false) a3])] [0,1] [iv x18] [.pb [.fn 95 [.pb [.fn 93 [pp 0,pp 1]]]]] (.cons (.same rfl) (.cons (.pb (.cons (.fn (.cons (.pb (.cons (.fn (.cons (.pt rfl) (.cons (.pt rfl) (.nil)))) (.nil))) (.nil))) (.nil))) (.nil))) (zT.ok x18 a2 a3) h21 (.same rfl rfl))) zB) ?_
  refine vW (aft zL6 1956) (fun v25:((List Int)×Int)=>St.mk' [(0,rr 2 v25.1),(1,.fn 133 [.pb [.fn 95 [.pb [.fn 93 [pp 0,pp 1]]]]]),(5,iv v25.2),(6,iv s16.2.2)] [(0,.box [sl 1 eStr a2]),(1,.box [sl 8 (Pack.enc false) a3]),(2,rE 1 zC v25.1)]) (fun v25=>?_) (fun jv25=>?_)
  ·refine J_d 979 [] [6] [(6,iv (w64 (s16.2.2+1)))] [] [] zB ?_
   exact J_q (J_b (ih (v25.1,v25.2,w64 (s16.2.2+1)))) rfl
  ·refine zF 29 (fun h22=>?_) (fun h22=>?_)
   ·refine zA (fun x23 h24=>?_)
    refine J_g 31308 [] [(0,rr 2 s16.1),(1,.fn 133 [.pb [.fn 95 [.pb [.fn 93 [pp 0,pp 1]]]]]),(5,iv s16.2.1),(6,iv s16.2.2)] [(0,.box [sl 1 eStr a2]),(1,.box [sl 8 (Pack.enc false) a3]),(2,rE 1 zC (s16.1.set s16.2.1.toNat x18))] (zD 3 (jT (kk:=.i64) 23 2 1 2 zC (.tmp 30) (.tmp 31) h24) (zGT 4 (zIb (b:=x18) 2 1 2 0 zC (iv x18) (.tmp 33) (.tmp 32) h24 rfl) zB)) ?_
    refine zFr (σ':=St.mk' [(0,rr 2 (s16.1.set s16.2.1.toNat x18)),(1,.fn 133 [.pb [.fn 95 [.pb [.fn 93 [pp 0,pp 1]]]]]),(5,iv s16.2.1),(6,iv s16.2.2)] [(0,.box [sl 1 eStr a2]),(1,.box [sl 8 (Pack.enc false) a3]),(2,rE 1 zC (s16.1.set s16.2.1.toNat x18))]) (by simp only [rr,List.length_set]) ?_
    refine J_d 31309 [] [5] [(5,iv (w64 (s16.2.1+1)))] [] [] zB ?_
    exact wD (J_j (jv25 (s16.1.set s16.2.1.toNat x18,w64 (s16.2.1+1)))) rfl
   ·exact wD (J_j (jv25 (s16.1,s16.2.1))) rfl
 ·exact wD (hk (s16.1,s16.2.1)) rfl
theorem zK.ok (a1:(List Int)) (a2:(List ByteArray)) (a3:(List Pack)):Ok Tryz.prog 132 [rr 2 a1,.fn 133 [.pb [.fn 95 [.pb [.fn 93 [pp 0,pp 1]]]]]] [.box [sl 1 eStr a2],.box [sl 8 (Pack.enc false) a3],rE 1 zC a1] ((zK a1 a2 a3).map fun r=>(so 1 zC r,[.box [sl 1 eStr a2],.box [sl 8 (Pack.enc false) a3]])):=by
 refine zG zL6 Tryz.f132 3 42 (fun q=>?_)
 unfold zK
 refine J_d 2 [] [] [] [] [] zB ?_
 refine zA (fun x4 h5=>?_)
 refine J_g 6 [] [(0,rr 2 a1),(1,.fn 133 [.pb [.fn 95 [.pb [.fn 93 [pp 0,pp 1]]]]]),(5,iv x4)] [(0,.box [sl 1 eStr a2]),(1,.box [sl 8 (Pack.enc false) a3]),(2,rE 1 zC a1)] (zD 2 (zEV [(2,rE 1 zC a1),(0,.box [sl 1 eStr a2]),(1,.box [sl 8 (Pack.enc false) a3])] [] (vC («as»:=[rr 2 a1,.fn 133 [.pb [.fn 95 [.pb [.fn 93 [pp 0,pp 1]]]]]]) [(.tmp 8),(.tmp 9)] [23,119] false [(2,rE 1 zC a1),(0,.box [sl 1 eStr a2]),(1,.box [sl 8 (Pack.enc false) a3])] [2,0,1] (.cons (.rf rfl) (.cons (.fn (.cons (.pb (.cons (.fn (.cons (.pb (.cons (.fn (.cons (.pt rfl) (.cons (.pt rfl) (.nil)))) (.nil))) (.nil))) (.nil))) (.nil))) (.nil))) (zP.ok a1 a2 a3) h5 (.same rfl rfl))) zB) ?_
 refine J_d 28 [] [12] [(12,bv (x4==(-1)))] [] [] zB ?_
 refine zF 12 (fun h6=>?_) (fun h6=>?_)
 ·refine J_g 116 [] [(4,rr 2 a1)] [(0,.box [sl 1 eStr a2]),(1,.box [sl 8 (Pack.enc false) a3]),(2,rE 1 zC a1)] zB ?_
  exact zEl (ds:=[rr 2 a1]) (ds':=[so 1 zC a1]) (.cons (.cell (.move (.tail _ (.tail _ (.head _))) (List.length_map _) (by decide) (.nil))) (.nil) (by decide)) rfl
 ·refine J_d 60 [] [6,12] [(6,iv (w64 (x4+1)))] [] [] zB ?_
  refine zE2 (zZ.ok a2 a3 q _ (fun v26=>J_j ?_) (a1,x4,w64 (x4+1)))
  refine zA (fun x27 h28=>?_)
  refine zA (fun x29 h30=>?_)
  refine J_g 62 [] [(0,rr 2 v26.1),(5,iv v26.2)] [(0,.box [sl 1 eStr a2]),(1,.box [sl 8 (Pack.enc false) a3]),(2,rE 1 zC x29)] (zD 2 (zLw 23 2 1 2 zC (.tmp 36) (some (.tmp 37)) none h28) (zGT 3 (zMZ (l:=v26.2) (a:=0) 23 2 1 2 zC (.tmp 38) h30 (.keep rfl (.nil))) zB)) ?_
  refine zFr (σ':=St.mk' [(0,rr 2 x29),(5,iv v26.2)] [(0,.box [sl 1 eStr a2]),(1,.box [sl 8 (Pack.enc false) a3]),(2,rE 1 zC x29)]) (by simp only [rr,zHn h30]) ?_
  refine zA (fun x31 h32=>?_)
  refine J_g 126 [] [(4,rr 3 x31)] [(0,.box [sl 1 eStr a2]),(1,.box [sl 8 (Pack.enc false) a3]),(3,rE 1 zC x31)] (zD 2 (zMO 23 2 1 2 3 zC (.tmp 39) none (some (.tmp 40)) h32) zB) ?_
  exact zEl (ds:=[rr 3 x31]) (ds':=[so 1 zC x31]) (.cons (.cell (.move (.tail _ (.tail _ (.head _))) (List.length_map _) (by decide) (.nil))) (.nil) (by decide)) rfl
noncomputable def c94:Code:=(Tryz.f94.body).getD .skip
theorem xC.ok (a1:(List Int)) (a2:(List ByteArray)) (a3:(List Pack)):Ok Tryz.prog 94 [sl 1 zC a1,.fn 95 [.pb [.fn 93 [pp 0,pp 1]]]] [.box [sl 1 eStr a2],.box [sl 8 (Pack.enc false) a3]] ((xC a1 a2 a3).map fun r=>(so 1 zC r,[.box [sl 1 eStr a2],.box [sl 8 (Pack.enc false) a3]])):=by
 refine zG c94 Tryz.f94 2 9 (fun q=>?_)
 unfold xC
 refine J_d 2 [] [1,3] [(3,.pb [.fn 95 [.pb [.fn 93 [pp 0,pp 1]]]])] [] [] (zD 0 (zMl 119 (.tmp 1) (.fn 95 [.pb [.fn 93 [pp 0,pp 1]]])) zB) ?_
 refine zA (fun x4 h5=>?_)
 refine zA (fun x6 h7=>?_)
 refine J_g 6 [] [(4,rr 3 x6)] [(0,.box [sl 1 eStr a2]),(1,.box [sl 8 (Pack.enc false) a3]),(3,rE 1 zC x6)] (zD 1 (vC («as»:=[sl 1 zC a1]) [(.tmp 5)] [23] false [] [] (.cons (.same rfl) (.nil)) (wH.ok a1) h5 (.own 2)) (zD 3 (vC («as»:=[rr 2 x4,.fn 133 [.pb [.fn 95 [.pb [.fn 93 [pp 0,pp 1]]]]]]) [(.tmp 6),(.tmp 7)] [23,119] false [(0,.box [sl 1 eStr a2]),(1,.box [sl 8 (Pack.enc false) a3]),(2,rE 1 zC x4)] [0,1,2] (.cons (.rf rfl) (.cons (.fn (.cons (.pb (.cons (.fn (.cons (.pb (.cons (.fn (.cons (.pt rfl) (.cons (.pt rfl) (.nil)))) (.nil))) (.nil))) (.nil))) (.nil))) (.nil))) (zK.ok x4 a2 a3) h7 (.own 3)) zB)) ?_
 exact zEl (ds:=[rr 3 x6]) (ds':=[so 1 zC x6]) (.cons (.cell (.move (.tail _ (.tail _ (.head _))) (List.length_map _) (by decide) (.nil))) (.nil) (by decide)) rfl
theorem wK.ok (a1:Int) (a2:(List ByteArray)) (a3:(List Pack)):Ok Tryz.prog 133 [iv a1,.pb [.fn 93 [pp 0,pp 1]]] [.box [sl 1 eStr a2],.box [sl 8 (Pack.enc false) a3]] ((wK a1 a2 a3).map fun r=>(bv r,[.box [sl 1 eStr a2],.box [sl 8 (Pack.enc false) a3]])):=by
 refine zG zPM Tryz.f133 2 8 (fun q=>?_)
 unfold wK
 refine J_d 2 [] [] [] [] [] zB ?_
 refine zA (fun x4 h5=>?_)
 refine J_d 6 [] [0,1,3] [(3,bv (!x4))] [] [] (zD 0 (zKz (d:=.fn 93 [pp 0,pp 1]) 119 (.tmp 1) [.fn 93 [pp 0,pp 1]]) (zD 2 (zEV [(0,.box [sl 1 eStr a2]),(1,.box [sl 8 (Pack.enc false) a3])] [] (zEB 4 [(.tmp 5)] [2] false [(0,.box [sl 1 eStr a2]),(1,.box [sl 8 (Pack.enc false) a3])] [0,1] [iv a1] [pp 0,pp 1] (.cons (.same rfl) (.cons (.pt rfl) (.cons (.pt rfl) (.nil)))) (zBb.ok a1 a2 a3) h5 (.same rfl rfl))) zB)) ?_
 exact zQ rfl
theorem xP.ok (a1:(List Int)) (a2:(List ByteArray)) (a3:(List Pack)) (q:Wd) (kn:Unit→Option (D×List Ent)) (hk:∀v:Unit,J (q.g Tryz.prog 165 3 19) zHg (atI zHg 7) (St.mk' [] [(0,rE 1 zC a1),(1,.box [sl 1 eStr a2]),(2,.box [sl 8 (Pack.enc false) a3])]) (some v) kn):
  ∀s10:Int,J (q.g Tryz.prog 165 3 19) zHg (atI zHg 52) (St.mk' [(0,rr 0 a1),(1,.fn 133 [.pb [.fn 93 [pp 1,pp 2]]]),(7,iv (a1.length:Int)),(8,iv s10)] [(0,rE 1 zC a1),(1,.box [sl 1 eStr a2]),(2,.box [sl 8 (Pack.enc false) a3])]) (xP a1 a2 a3 s10) (Fl.go (fun r:Int=>some (iv r,[rE 1 zC a1,.box [sl 1 eStr a2],.box [sl 8 (Pack.enc false) a3]])) kn):=by
 refine tV (fun g ih s10=>?_)
 unfold yE
 refine J_d 104 [] [9] [(9,bv (decide (s10< (a1.length:Int))))] [] [] zB ?_
 refine zF 9 (fun h11=>?_) (fun h11=>?_)
 ·refine J_d 1688 [] [5,9] [(5,iv s10)] [] [] zB ?_
  refine zA (fun x12 h13=>?_)
  refine zA (fun x14 h15=>?_)
  refine J_d 3378 [] [16] [(16,bv x14)] [] [] (zD 3 (jT (kk:=.i64) 23 2 1 0 zC (.tmp 12) (.tmp 13) h13) (zD 4 (zC1 (d:=iv x12) 2 1 0 0 zC (.tmp 14) h13 (by kernel_rfl)) (zD 5 (zEV [(1,.box [sl 1 eStr a2]),(2,.box [sl 8 (Pack.enc false) a3])] [] (zEB 11 [(.tmp 15)] [2] false [(1,.box [sl 1 eStr a2]),(2,.box [sl 8 (Pack.enc false) a3])] [1,2] [iv x12] [.pb [.fn 93 [pp 1,pp 2]]] (.cons (.same rfl) (.cons (.pb (.cons (.fn (.cons (.pt rfl) (.cons (.pt rfl) (.nil)))) (.nil))) (.nil))) (wK.ok x12 a2 a3) h15 (.same rfl rfl))) zB))) ?_
  refine zF 16 (fun h16=>?_) (fun h16=>?_)
  ·refine J_d 13516 [] [0,1,4,5,7,8,16] [(4,iv s10)] [] [] zB ?_
   exact zQ rfl
  ·refine J_d 423 [] [5,8,16] [(8,iv (w64 (s10+1)))] [] [] zB ?_
   exact J_q (J_b (ih (w64 (s10+1)))) rfl
 ·exact wD (hk ()) rfl
theorem yP.ok (a1:(List Int)) (a2:(List ByteArray)) (a3:(List Pack)):Ok Tryz.prog 165 [rr 0 a1,.fn 133 [.pb [.fn 93 [pp 1,pp 2]]]] [rE 1 zC a1,.box [sl 1 eStr a2],.box [sl 8 (Pack.enc false) a3]] ((yP a1 a2 a3).map fun r=>(iv r,[rE 1 zC a1,.box [sl 1 eStr a2],.box [sl 8 (Pack.enc false) a3]])):=by
 refine zG zHg Tryz.f165 3 19 (fun q=>?_)
 unfold yP
 refine J_g 2 [] [(0,rr 0 a1),(1,.fn 133 [.pb [.fn 93 [pp 1,pp 2]]])] [(0,rE 1 zC a1),(1,.box [sl 1 eStr a2]),(2,.box [sl 8 (Pack.enc false) a3])] zB ?_
 refine J_d 12 [] [7,8] [(7,iv (a1.length:Int)),(8,iv 0)] [] [] zB ?_
 refine uP (K0:=(fun r:Int=>some (iv r,[rE 1 zC a1,.box [sl 1 eStr a2],.box [sl 8 (Pack.enc false) a3]]))) (fun _=>rfl) (xP.ok a1 a2 a3 q _ (fun v17=>J_j ?_) 0)
 refine J_d 14 [] [4] [(4,iv (-1))] [] [] zB ?_
 exact zQ rfl
theorem xK.ok (a2:(List ByteArray)) (a3:(List Pack)) (q:Wd) (kn:((List Int)×Int)→Option (D×List Ent)) (hk:∀v:((List Int)×Int),J (q.g Tryz.prog 132 3 42) zL6 (atI zL6 31) (St.mk' [(0,rr 2 v.1),(5,iv v.2)] [(0,.box [sl 1 eStr a2]),(1,.box [sl 8 (Pack.enc false) a3]),(2,rE 1 zC v.1)]) (some v) kn):
  ∀s16:((List Int)×Int×Int),J (q.g Tryz.prog 132 3 42) zL6 (atI zL6 244) (St.mk' [(0,rr 2 s16.1),(1,.fn 133 [.pb [.fn 93 [pp 0,pp 1]]]),(5,iv s16.2.1),(6,iv s16.2.2)] [(0,.box [sl 1 eStr a2]),(1,.box [sl 8 (Pack.enc false) a3]),(2,rE 1 zC s16.1)]) (xK a2 a3 s16) kn:=by
 refine tV (fun g ih s16=>?_)
 unfold yC
 refine J_d 976 [] [19] [(19,bv (decide (s16.2.2< (s16.1.length:Int))))] [] [] zB ?_
 refine zF 19 (fun h17=>?_) (fun h17=>?_)
 ·refine zA (fun x18 h19=>?_)
  refine J_d 3912 [] [7,19] [(7,iv x18)] [] [] (zD 2 (jT (kk:=.i64) 23 2 1 2 zC (.tmp 22) (.tmp 23) h19) (zD 3 (zC1 (d:=iv x18) 2 1 2 0 zC (.tmp 24) h19 (by kernel_rfl)) zB)) ?_
  refine zA (fun x20 h21=>?_)
  refine J_d 7826 [] [29] [(29,bv (!x20))] [] [] (zD 2 (zEV [(0,.box [sl 1 eStr a2]),(1,.box [sl 8 (Pack.enc false) a3])] [] (zEB 26 [(.tmp 27)] [2] false [(0,.box [sl 1 eStr a2]),(1,.box [sl 8 (Pack.enc false) a3])] [0,1] [iv x18] [.pb [.fn 93 [pp 0,pp 1]]] (.cons (.same rfl) (.cons (.pb (.cons (.fn (.cons (.pt rfl) (.cons (.pt rfl) (.nil)))) (.nil))) (.nil))) (wK.ok x18 a2 a3) h21 (.same rfl rfl))) zB) ?_
  refine vW (aft zL6 1956) (fun v25:((List Int)×Int)=>St.mk' [(0,rr 2 v25.1),(1,.fn 133 [.pb [.fn 93 [pp 0,pp 1]]]),(5,iv v25.2),(6,iv s16.2.2)] [(0,.box [sl 1 eStr a2]),(1,.box [sl 8 (Pack.enc false) a3]),(2,rE 1 zC v25.1)]) (fun v25=>?_) (fun jv25=>?_)
  ·refine J_d 979 [] [6] [(6,iv (w64 (s16.2.2+1)))] [] [] zB ?_
   exact J_q (J_b (ih (v25.1,v25.2,w64 (s16.2.2+1)))) rfl
  ·refine zF 29 (fun h22=>?_) (fun h22=>?_)
   ·refine zA (fun x23 h24=>?_)
    refine J_g 31308 [] [(0,rr 2 s16.1),(1,.fn 133 [.pb [.fn 93 [pp 0,pp 1]]]),(5,iv s16.2.1),(6,iv s16.2.2)] [(0,.box [sl 1 eStr a2]),(1,.box [sl 8 (Pack.enc false) a3]),(2,rE 1 zC (s16.1.set s16.2.1.toNat x18))] (zD 3 (jT (kk:=.i64) 23 2 1 2 zC (.tmp 30) (.tmp 31) h24) (zGT 4 (zIb (b:=x18) 2 1 2 0 zC (iv x18) (.tmp 33) (.tmp 32) h24 rfl) zB)) ?_
    refine zFr (σ':=St.mk' [(0,rr 2 (s16.1.set s16.2.1.toNat x18)),(1,.fn 133 [.pb [.fn 93 [pp 0,pp 1]]]),(5,iv s16.2.1),(6,iv s16.2.2)] [(0,.box [sl 1 eStr a2]),(1,.box [sl 8 (Pack.enc false) a3]),(2,rE 1 zC (s16.1.set s16.2.1.toNat x18))]) (by simp only [rr,List.length_set]) ?_
    refine J_d 31309 [] [5] [(5,iv (w64 (s16.2.1+1)))] [] [] zB ?_
    exact wD (J_j (jv25 (s16.1.set s16.2.1.toNat x18,w64 (s16.2.1+1)))) rfl
   ·exact wD (J_j (jv25 (s16.1,s16.2.1))) rfl
 ·exact wD (hk (s16.1,s16.2.1)) rfl
theorem zV.ok (a1:(List Int)) (a2:(List ByteArray)) (a3:(List Pack)):Ok Tryz.prog 132 [rr 2 a1,.fn 133 [.pb [.fn 93 [pp 0,pp 1]]]] [.box [sl 1 eStr a2],.box [sl 8 (Pack.enc false) a3],rE 1 zC a1] ((zV a1 a2 a3).map fun r=>(so 1 zC r,[.box [sl 1 eStr a2],.box [sl 8 (Pack.enc false) a3]])):=by
 refine zG zL6 Tryz.f132 3 42 (fun q=>?_)
 unfold zV
 refine J_d 2 [] [] [] [] [] zB ?_
 refine zA (fun x4 h5=>?_)
 refine J_g 6 [] [(0,rr 2 a1),(1,.fn 133 [.pb [.fn 93 [pp 0,pp 1]]]),(5,iv x4)] [(0,.box [sl 1 eStr a2]),(1,.box [sl 8 (Pack.enc false) a3]),(2,rE 1 zC a1)] (zD 2 (zEV [(2,rE 1 zC a1),(0,.box [sl 1 eStr a2]),(1,.box [sl 8 (Pack.enc false) a3])] [] (vC («as»:=[rr 2 a1,.fn 133 [.pb [.fn 93 [pp 0,pp 1]]]]) [(.tmp 8),(.tmp 9)] [23,119] false [(2,rE 1 zC a1),(0,.box [sl 1 eStr a2]),(1,.box [sl 8 (Pack.enc false) a3])] [2,0,1] (.cons (.rf rfl) (.cons (.fn (.cons (.pb (.cons (.fn (.cons (.pt rfl) (.cons (.pt rfl) (.nil)))) (.nil))) (.nil))) (.nil))) (yP.ok a1 a2 a3) h5 (.same rfl rfl))) zB) ?_
 refine J_d 28 [] [12] [(12,bv (x4==(-1)))] [] [] zB ?_
 refine zF 12 (fun h6=>?_) (fun h6=>?_)
 ·refine J_g 116 [] [(4,rr 2 a1)] [(0,.box [sl 1 eStr a2]),(1,.box [sl 8 (Pack.enc false) a3]),(2,rE 1 zC a1)] zB ?_
  exact zEl (ds:=[rr 2 a1]) (ds':=[so 1 zC a1]) (.cons (.cell (.move (.tail _ (.tail _ (.head _))) (List.length_map _) (by decide) (.nil))) (.nil) (by decide)) rfl
 ·refine J_d 60 [] [6,12] [(6,iv (w64 (x4+1)))] [] [] zB ?_
  refine zE2 (xK.ok a2 a3 q _ (fun v26=>J_j ?_) (a1,x4,w64 (x4+1)))
  refine zA (fun x27 h28=>?_)
  refine zA (fun x29 h30=>?_)
  refine J_g 62 [] [(0,rr 2 v26.1),(5,iv v26.2)] [(0,.box [sl 1 eStr a2]),(1,.box [sl 8 (Pack.enc false) a3]),(2,rE 1 zC x29)] (zD 2 (zLw 23 2 1 2 zC (.tmp 36) (some (.tmp 37)) none h28) (zGT 3 (zMZ (l:=v26.2) (a:=0) 23 2 1 2 zC (.tmp 38) h30 (.keep rfl (.nil))) zB)) ?_
  refine zFr (σ':=St.mk' [(0,rr 2 x29),(5,iv v26.2)] [(0,.box [sl 1 eStr a2]),(1,.box [sl 8 (Pack.enc false) a3]),(2,rE 1 zC x29)]) (by simp only [rr,zHn h30]) ?_
  refine zA (fun x31 h32=>?_)
  refine J_g 126 [] [(4,rr 3 x31)] [(0,.box [sl 1 eStr a2]),(1,.box [sl 8 (Pack.enc false) a3]),(3,rE 1 zC x31)] (zD 2 (zMO 23 2 1 2 3 zC (.tmp 39) none (some (.tmp 40)) h32) zB) ?_
  exact zEl (ds:=[rr 3 x31]) (ds':=[so 1 zC x31]) (.cons (.cell (.move (.tail _ (.tail _ (.head _))) (List.length_map _) (by decide) (.nil))) (.nil) (by decide)) rfl
theorem vP.ok (a1:(List Int)) (a2:(List ByteArray)) (a3:(List Pack)):Ok Tryz.prog 94 [sl 1 zC a1,.fn 93 [pp 0,pp 1]] [.box [sl 1 eStr a2],.box [sl 8 (Pack.enc false) a3]] ((vP a1 a2 a3).map fun r=>(so 1 zC r,[.box [sl 1 eStr a2],.box [sl 8 (Pack.enc false) a3]])):=by
 refine zG c94 Tryz.f94 2 9 (fun q=>?_)
 unfold vP
 refine J_d 2 [] [1,3] [(3,.pb [.fn 93 [pp 0,pp 1]])] [] [] (zD 0 (zMl 119 (.tmp 1) (.fn 93 [pp 0,pp 1])) zB) ?_
 refine zA (fun x4 h5=>?_)
 refine zA (fun x6 h7=>?_)
 refine J_g 6 [] [(4,rr 3 x6)] [(0,.box [sl 1 eStr a2]),(1,.box [sl 8 (Pack.enc false) a3]),(3,rE 1 zC x6)] (zD 1 (vC («as»:=[sl 1 zC a1]) [(.tmp 5)] [23] false [] [] (.cons (.same rfl) (.nil)) (wH.ok a1) h5 (.own 2)) (zD 3 (vC («as»:=[rr 2 x4,.fn 133 [.pb [.fn 93 [pp 0,pp 1]]]]) [(.tmp 6),(.tmp 7)] [23,119] false [(0,.box [sl 1 eStr a2]),(1,.box [sl 8 (Pack.enc false) a3]),(2,rE 1 zC x4)] [0,1,2] (.cons (.rf rfl) (.cons (.fn (.cons (.pb (.cons (.fn (.cons (.pt rfl) (.cons (.pt rfl) (.nil)))) (.nil))) (.nil))) (.nil))) (zV.ok x4 a2 a3) h7 (.own 3)) zB)) ?_
 exact zEl (ds:=[rr 3 x6]) (ds':=[so 1 zC x6]) (.cons (.cell (.move (.tail _ (.tail _ (.head _))) (List.length_map _) (by decide) (.nil))) (.nil) (by decide)) rfl
theorem tH.ok (a1:List Int):Ok Tryz.prog 96 [rr 0 a1] [rE 1 zC a1] ((tH a1).map fun r=>(.tu [],[rE 1 zC r])):=by
 unfold tH
 split
 ·exact zLH (enc:=Value.int .i64) (by simp [List.length_mergeSort]) (fun blk off cap w hH hb=>Tryz.slices_Sort_int blk off cap a1 w hH hb (by omega)) (fun _ p cap w=>Tryz.slices_Sort_int_none p cap w)
 ·exact fun _ h=>by cases h
noncomputable def c59:Code:=(Tryz.f59.body).getD .skip
theorem zAp.ok (a1:(List Pack)) (a2:(List Int)) (a3:(List Int)) (a4:(List ByteArray)):Ok Tryz.prog 59 [sl 8 (Pack.enc false) a1,sl 1 zC a2,sl 1 zC a3,sl 1 eStr a4] [] ((zAp a1 a2 a3 a4).map fun r=>(so 1 zC r,[])):=by
 refine zG c59 Tryz.f59 0 22 (fun q=>?_)
 unfold zAp
 refine J_g 2 [(0,0),(1,1)] [(1,sl 1 zC a2),(2,sl 1 zC a3),(4,pp 0),(7,pp 1)] [(0,.box [sl 8 (Pack.enc false) a1]),(1,.box [sl 1 eStr a4])] zB ?_
 refine J_g 6 [(1,2)] [(1,sl 1 zC a2),(2,sl 1 zC a3),(9,pp 2)] [(0,.box [sl 8 (Pack.enc false) a1]),(1,.box [sl 1 eStr a4]),(2,.box [.fn 93 [pp 1,pp 0]])] zB ?_
 refine zEA [(1,sl 1 zC a2),(2,sl 1 zC a3),(9,pp 2)] [(2,.box [.fn 93 [pp 1,pp 0]]),(0,.box [sl 8 (Pack.enc false) a1]),(1,.box [sl 1 eStr a4])] (by kernel_rfl) ?_
 refine zPE 2 (tm2:=[(1,sl 1 zC a2),(2,sl 1 zC a3),(9,.pb [.fn 93 [pp 1,pp 0]])]) (hp1:=[(0,.box [sl 8 (Pack.enc false) a1]),(1,.box [sl 1 eStr a4])]) (.keep (by kernel_rfl) (.keep (by kernel_rfl) (.pt (.nil)))) (by kernel_rfl) ?_
 refine zA (fun x5 h6=>?_)
 refine zA (fun x7 h8=>?_)
 refine zA (fun x9 h10=>?_)
 refine J_g 14 [] [(10,rr 4 x9)] [(4,rE 1 zC x9)] (zD 2 (zEV [(1,.box [sl 1 eStr a4]),(0,.box [sl 8 (Pack.enc false) a1])] [(2,rE 1 zC x5)] (vC («as»:=[sl 1 zC a2,.fn 95 [.pb [.fn 93 [pp 1,pp 0]]]]) [(.tmp 12),(.tmp 13)] [23,119] false [(1,.box [sl 1 eStr a4]),(0,.box [sl 8 (Pack.enc false) a1])] [1,0] (.cons (.same rfl) (.cons (.fn (.cons (.pb (.cons (.fn (.cons (.pt rfl) (.cons (.pt rfl) (.nil)))) (.nil))) (.nil))) (.nil))) (xC.ok a2 a4 a1) h6 (.own 2))) (zD 4 (zKz (d:=.fn 93 [pp 1,pp 0]) 119 (.tmp 9) [.fn 93 [pp 1,pp 0]]) (zD 5 (zEV [(1,.box [sl 1 eStr a4]),(0,.box [sl 8 (Pack.enc false) a1])] [(3,rE 1 zC x7)] (vC («as»:=[sl 1 zC a3,.fn 93 [pp 1,pp 0]]) [(.tmp 15),(.tmp 16)] [23,119] false [(1,.box [sl 1 eStr a4]),(0,.box [sl 8 (Pack.enc false) a1])] [1,0] (.cons (.same rfl) (.cons (.fn (.cons (.pt rfl) (.cons (.pt rfl) (.nil)))) (.nil))) (vP.ok a3 a4 a1) h8 (.own 3))) (zD 6 (zGv 23 23 2 2 1 8 4 2 3 zC (.tmp 14) (.tmp 17) h10) zB)))) ?_
 refine zA (fun x11 h12=>?_)
 refine J_g 30 [] [(10,rr 4 x9)] [(4,rE 1 zC x11)] (zD 1 (vC («as»:=[rr 4 x9]) [(.tmp 19)] [23] false [(4,rE 1 zC x9)] [4] (.cons (.rf rfl) (.nil)) (tH.ok x9) h12 (.tu (.nil))) zB) ?_
 refine zA (fun u13 h14=>?_)
 refine zFr (σ':=St.mk' [(10,rr 4 x11)] [(4,rE 1 zC x11)]) (by simp only [rr,zAO h14]) ?_
 refine J_g 62 [] [(8,rr 4 x11)] [(4,rE 1 zC x11)] zB ?_
 exact zEl (ds:=[rr 4 x11]) (ds':=[so 1 zC x11]) (.cons (.cell (.move (.head _) (List.length_map _) (by decide) (.nil))) (.nil) (by decide)) rfl
noncomputable def c87:Code:=(Tryz.f87.body).getD .skip
theorem zAA.ok (a1:(List ByteArray)) (a2:(List Pack)) (a3:(List Int)) (a4:(List Int)):Ok Tryz.prog 87 [sl 1 eStr a1,pp 0,pp 1,pp 2] [.box [sl 8 (Pack.enc false) a2],.box [sl 1 zC a3],.box [sl 1 zC a4]] ((zAA a1 a2 a3 a4).map fun r=>(bv r,[.box [sl 8 (Pack.enc false) a2],.box [sl 1 zC a3],.box [sl 1 zC a4]])):=by
 refine zG c87 Tryz.f87 3 18 (fun q=>?_)
 unfold zAA
 refine J_d 2 [] [] [] [] [] zB ?_
 refine tJ (fun h5=>?_) (fun h5=>?_)
 ·refine zA (fun x6 h7=>?_)
  refine zA (fun x8 h9=>?_)
  refine J_d 6 [] [0,1,2,3,5] [(5,bv x8)] [] [] (uE 3 [(8,bv (decide ((a1.length:Int)≤24)))] [] h5 (zCR 9 3 9 true (vC («as»:=[sl 8 (Pack.enc false) a2,sl 1 zC a3,sl 1 zC a4,sl 1 eStr a1]) [(.tmp 11),(.tmp 12),(.tmp 13),(.tmp 14)] [28,23,23,52] false [] [] (.cons (.same rfl) (.cons (.same rfl) (.cons (.same rfl) (.cons (.same rfl) (.nil))))) (zAp.ok a2 a3 a4 a1) h7 (.own 3)) (zCR 10 3 9 true (vC («as»:=[sl 8 (Pack.enc false) a2,rr 3 x6]) [(.tmp 10),(.tmp 15)] [28,23] true [(3,rE 1 zC x6)] [] (.cons (.same rfl) (.cons (zBr (.head _) (fun _=>rfl) rfl) (.nil))) (wX.ok a2 x6) h9 (.same rfl rfl) (hbor:=fun _=>⟨fhN,yL⟩)) zB))) ?_
  exact zQ rfl
 ·refine J_d 6 [] [0,1,2,3,5] [(5,bv false)] [] [] (uE 3 [(8,bv (decide ((a1.length:Int)≤24)))] [] h5 zB) ?_
  exact zQ rfl
noncomputable def c88:Code:=(Tryz.f88.body).getD .skip
theorem vF.ok (a1:(List ByteArray)):Ok Tryz.prog 88 [sl 1 eStr a1] [] ((vF a1).map fun r=>(so 1 eStr r,[])):=by
 refine zG c88 Tryz.f88 0 8 (fun q=>?_)
 unfold vF
 refine J_g 2 [] [(0,sl 1 eStr a1)] [] zB ?_
 refine J_d 12 [] [4] [(4,.nb a1.length)] [] [] (zD 1 (zMk (xs:=a1) 52 9 52 1 eStr (.tmp 3)) zB) ?_
 refine zPK 4 rfl (fun h2=>?_) ?_
 ·obtain rfl:a1=[]:=List.eq_nil_of_length_eq_zero h2
  refine zN4 (e':=some ([]:List ByteArray)) (by kernel_rfl) ?_
  refine J_g 52 [] [(2,nv)] [] zB ?_
  exact zEl (ds:=[nv]) (ds':=[so 1 eStr ([]:List ByteArray)]) (.cons (.cell (.nilsl true 1 (.nil))) (.nil) (by decide)) rfl
 ·refine zA (fun x3 h4=>?_)
  refine J_g 14 [] [(2,rr 1 x3)] [(1,rE 1 eStr x3)] (zD 0 (zEa 52 9 1 0 eStr ([]:List ByteArray) [] [] []) (zD 2 (zJa 52 52 9 9 1 16 1 0 eStr (.tmp 5) (.tmp 6) h4) zB)) ?_
  exact zEl (ds:=[rr 1 x3]) (ds':=[so 1 eStr x3]) (.cons (.cell (.move (.head _) (List.length_map _) (by decide) (.nil))) (.nil) (by decide)) rfl
noncomputable def c164:Code:=(Tryz.f164.body).getD .skip
theorem cmp_isNaN_string.ok (a1:ByteArray):Ok Tryz.prog 164 [sv a1] [] ((cmp_isNaN_string a1).map fun r=>(bv r,[])):=by
 refine zG c164 Tryz.f164 0 6 (fun q=>?_)
 unfold cmp_isNaN_string
 refine J_g 2 [] [(0,sv a1)] [] zB ?_
 refine J_g 6 [] [(2,bv (!(seq a1 a1)))] [] zB ?_
 exact zQ rfl
noncomputable def c131:Code:=(Tryz.f131.body).getD .skip
theorem jA.ok (a1:ByteArray) (a2:ByteArray):Ok Tryz.prog 131 [sv a1,sv a2] [] ((jA a1 a2).map fun r=>(iv r,[])):=by
 refine zG c131 Tryz.f131 0 20 (fun q=>?_)
 unfold jA
 refine J_d 2 [] [] [] [] [] zB ?_
 refine zA (fun x3 h4=>?_)
 refine J_d 6 [] [5] [(5,bv x3)] [] [] (zD 1 (vG [(.tmp 7)] [9] (cmp_isNaN_string.ok a1) h4) zB) ?_
 refine zA (fun x5 h6=>?_)
 refine J_g 14 [] [(0,sv a1),(1,sv a2),(5,bv x3),(6,bv x5)] [] (zD 1 (vG [(.tmp 9)] [9] (cmp_isNaN_string.ok a2) h6) zB) ?_
 refine J_d 60 [] [5,11] [(11,bv x3)] [] [] zB ?_
 refine zF 11 (fun h7=>?_) (fun h7=>?_)
 ·refine J_g 488 [] [(12,bv x5)] [] zB ?_
  refine zF 12 (fun h8=>?_) (fun h8=>?_)
  ·refine J_g 1956 [] [(4,iv 0)] [] zB ?_
   exact zQ rfl
  ·refine J_g 490 [] [(4,iv (-1))] [] zB ?_
   exact zQ rfl
 ·refine J_g 124 [] [(0,sv a1),(1,sv a2),(13,bv x5)] [] zB ?_
  refine zF 13 (fun h9=>?_) (fun h9=>?_)
  ·refine J_g 500 [] [(4,iv 1)] [] zB ?_
   exact zQ rfl
  ·refine J_d 252 [] [13,16] [(16,bv (slt a1 a2))] [] [] zB ?_
   refine zF 16 (fun h10=>?_) (fun h10=>?_)
   ·refine J_g 1012 [] [(4,iv (-1))] [] zB ?_
    exact zQ rfl
   ·refine J_g 508 [] [(19,bv (!(slt a1 a2||seq a1 a2)))] [] zB ?_
    refine zF 19 (fun h11=>?_) (fun h11=>?_)
    ·refine J_g 2036 [] [(4,iv 1)] [] zB ?_
     exact zQ rfl
    ·refine J_g 510 [] [(4,iv 0)] [] zB ?_
     exact zQ rfl
noncomputable def c91:Code:=(Tryz.f91.body).getD .skip
theorem uX.ok (a1:(List ByteArray)) (a2:(List ByteArray)) (q:Wd) (kn:Unit→Option (D×List Ent)) (hk:∀v:Unit,J (q.g Tryz.prog 91 0 36) c91 (atI c91 7) (St.mk' [(0,sl 1 eStr a1),(1,sl 1 eStr a2)] []) (some v) kn):
  ∀s12:Int,J (q.g Tryz.prog 91 0 36) c91 (atI c91 52) (St.mk' [(0,sl 1 eStr a1),(1,sl 1 eStr a2),(9,sl 1 eStr a1),(10,iv (a1.length:Int)),(11,iv s12)] []) (uX a1 a2 s12) (Fl.go (fun r:Int=>some (iv r,[])) kn):=by
 refine tV (fun g ih s12=>?_)
 unfold uH
 refine J_d 104 [] [12] [(12,bv (decide (s12< (a1.length:Int))))] [] [] zB ?_
 refine zF 12 (fun h13=>?_) (fun h13=>?_)
 ·refine zA (fun x14 h15=>?_)
  refine J_g 1688 [] [(0,sl 1 eStr a1),(1,sl 1 eStr a2),(5,iv s12),(6,sv x14),(9,sl 1 eStr a1),(10,iv (a1.length:Int)),(11,iv s12)] [] (zD 1 (tT (kk:=.i64) 52 9 1 eStr (.tmp 9) (.tmp 11) h15) zB) ?_
  refine J_d 6756 [] [19] [(19,bv (decide (s12≥(a2.length:Int))))] [] [] zB ?_
  refine zF 19 (fun h16=>?_) (fun h16=>?_)
  ·refine J_g 27028 [] [(4,iv 1)] [] zB ?_
   exact zQ rfl
  ·refine zA (fun x17 h18=>?_)
   refine J_d 6758 [] [5,7,19] [(7,sv x17)] [] [] (zD 2 (tT (kk:=.i64) 52 9 1 eStr (.tmp 20) (.tmp 21) h18) zB) ?_
   refine zA (fun x19 h20=>?_)
   refine J_g 13518 [] [(0,sl 1 eStr a1),(1,sl 1 eStr a2),(8,iv x19),(9,sl 1 eStr a1),(10,iv (a1.length:Int)),(11,iv s12)] [] (zD 2 (vG [(.tmp 24),(.tmp 25)] [9,9] (jA.ok x14 x17) h20) zB) ?_
   refine J_d 27038 [] [28] [(28,bv (x19 !=0))] [] [] zB ?_
   refine zF 28 (fun h21=>?_) (fun h21=>?_)
   ·refine J_g 108156 [] [(4,iv x19)] [] zB ?_
    exact zQ rfl
   ·refine J_d 423 [] [8,11,28] [(11,iv (w64 (s12+1)))] [] [] zB ?_
    exact J_q (J_b (ih (w64 (s12+1)))) rfl
 ·exact wD (hk ()) rfl
theorem vT.ok (a1:(List ByteArray)) (a2:(List ByteArray)):Ok Tryz.prog 91 [sl 1 eStr a1,sl 1 eStr a2] [] ((vT a1 a2).map fun r=>(iv r,[])):=by
 refine zG c91 Tryz.f91 0 36 (fun q=>?_)
 unfold vT
 refine J_g 2 [] [(0,sl 1 eStr a1),(1,sl 1 eStr a2)] [] zB ?_
 refine J_d 12 [] [9,10,11] [(9,sl 1 eStr a1),(10,iv (a1.length:Int)),(11,iv 0)] [] [] zB ?_
 refine uP (K0:=(fun r:Int=>some (iv r,[]))) (fun _=>rfl) (uX.ok a1 a2 q _ (fun v22=>J_j ?_) 0)
 refine J_g 28 [] [(35,bv (decide ((a1.length:Int)< (a2.length:Int))))] [] zB ?_
 refine zF 35 (fun h23=>?_) (fun h23=>?_)
 ·refine J_g 116 [] [(4,iv (-1))] [] zB ?_
  exact zQ rfl
 ·refine J_g 30 [] [(4,iv 0)] [] zB ?_
  exact zQ rfl
noncomputable def c90:Code:=(Tryz.f90.body).getD .skip
theorem wO.ok (a1:(List ByteArray)) (a2:(List ByteArray)):Ok Tryz.prog 90 [sl 1 eStr a1,sl 1 eStr a2] [] ((wO a1 a2).map fun r=>(iv r,[])):=by
 refine zG c90 Tryz.f90 0 18 (fun q=>?_)
 unfold wO
 refine J_g 2 [] [(0,sl 1 eStr a1),(1,sl 1 eStr a2)] [] zB ?_
 refine J_d 12 [] [9] [(9,bv ((a1.length:Int) !=(a2.length:Int)))] [] [] zB ?_
 refine zF 9 (fun h3=>?_) (fun h3=>?_)
 ·refine J_g 52 [] [(4,iv (w64 ((a1.length:Int)-(a2.length:Int))))] [] zB ?_
  exact zQ rfl
 ·refine zA (fun x4 h5=>?_)
  refine J_g 14 [] [(4,iv x4)] [] (zD 2 (vG [(.tmp 15),(.tmp 16)] [52,52] (vT.ok a1 a2) h5) zB) ?_
  exact zQ rfl
theorem wR.ok (a1:(List (List ByteArray))):Ok Tryz.prog 89 [rr 0 a1,.fn 90 []] [rE 1 (eSl true 1 eStr) a1] ((wR a1).map fun r=>(.tu [],[rE 1 (eSl true 1 eStr) r])):=by
 unfold wR
 cases h:zIY wO a1 with
 |none=>exact fun _ h=>by cases h
 |some ys=>exact zMP wO.ok h (fun n _ enc h1 cf hO blk off cap d w hc hH hb hs hT=>Any.slices_SortFunc_total Tryz.sort89 enc h1 cf hO 90 #[] blk off cap d w (fun args w=>zL _ _ w (by kernel_rfl)) hc hH hb hs hT) (fun p cap fv w=>AnyF.slices_SortFunc_none {Tryz.sort89 with} p cap fv w)
theorem zAh.ok (a1:(List ByteArray)) (a2:(List Pack)) (a3:(List Int)) (a4:(List Int)):Ok Tryz.prog 87 [rr 0 a1,pp 1,pp 2,pp 3] [rE 1 eStr a1,.box [sl 8 (Pack.enc false) a2],.box [sl 1 zC a3],.box [sl 1 zC a4]] ((zAh a1 a2 a3 a4).map fun r=>(bv r,[rE 1 eStr a1,.box [sl 8 (Pack.enc false) a2],.box [sl 1 zC a3],.box [sl 1 zC a4]])):=by
 refine zG c87 Tryz.f87 4 18 (fun q=>?_)
 unfold zAh
 refine J_d 2 [] [] [] [] [] zB ?_
 refine tJ (fun h5=>?_) (fun h5=>?_)
 ·refine zA (fun x6 h7=>?_)
  refine zA (fun x8 h9=>?_)
  refine J_d 6 [] [0,1,2,3,5] [(5,bv x8)] [] [] (uE 3 [(8,bv (decide ((a1.length:Int)≤24)))] [] h5 (zCR 9 3 9 true (vC («as»:=[sl 8 (Pack.enc false) a2,sl 1 zC a3,sl 1 zC a4,rr 0 a1]) [(.tmp 11),(.tmp 12),(.tmp 13),(.tmp 14)] [28,23,23,52] true [(0,rE 1 eStr a1)] [] (.cons (.same rfl) (.cons (.same rfl) (.cons (.same rfl) (.cons (zBr (.head _) (fun _=>rfl) rfl) (.nil))))) (zAp.ok a2 a3 a4 a1) h7 (.own 4) (hbor:=fun _=>⟨fhN,(zET (zGe (fun _=>(flatK yL zFh)) _))⟩)) (zCR 10 3 9 true (vC («as»:=[sl 8 (Pack.enc false) a2,rr 4 x6]) [(.tmp 10),(.tmp 15)] [28,23] true [(4,rE 1 zC x6)] [] (.cons (.same rfl) (.cons (zBr (.head _) (fun _=>rfl) rfl) (.nil))) (wX.ok a2 x6) h9 (.same rfl rfl) (hbor:=fun _=>⟨fhN,yL⟩)) zB))) ?_
  exact zQ rfl
 ·refine J_d 6 [] [0,1,2,3,5] [(5,bv false)] [] [] (uE 3 [(8,bv (decide ((a1.length:Int)≤24)))] [] h5 zB) ?_
  exact zQ rfl
noncomputable def c92:Code:=(Tryz.f92.body).getD .skip
theorem xI.ok (a1:(List (List ByteArray))) (a2:(List Pack)) (a3:(List Int)) (a4:(List Int)) (q:Wd) (kn:Unit→Option (D×List Ent)) (hk:∀v:Unit,J (q.g Tryz.prog 92 4 19) c92 (atI c92 7) (St.mk' [] [(0,rE 1 (eSl true 1 eStr) a1),(1,.box [sl 8 (Pack.enc false) a2]),(2,.box [sl 1 zC a3]),(3,.box [sl 1 zC a4])]) (some v) kn):
  ∀s11:Int,J (q.g Tryz.prog 92 4 19) c92 (atI c92 52) (St.mk' [(0,rr 0 a1),(1,.fn 87 [pp 1,pp 2,pp 3]),(7,iv (a1.length:Int)),(8,iv s11)] [(0,rE 1 (eSl true 1 eStr) a1),(1,.box [sl 8 (Pack.enc false) a2]),(2,.box [sl 1 zC a3]),(3,.box [sl 1 zC a4])]) (xI a1 a2 a3 a4 s11) (Fl.go (fun r:Int=>some (iv r,[rE 1 (eSl true 1 eStr) a1,.box [sl 8 (Pack.enc false) a2],.box [sl 1 zC a3],.box [sl 1 zC a4]])) kn):=by
 refine tV (fun g ih s11=>?_)
 unfold yZ
 refine J_d 104 [] [9] [(9,bv (decide (s11< (a1.length:Int))))] [] [] zB ?_
 refine zF 9 (fun h12=>?_) (fun h12=>?_)
 ·refine J_g 1688 [] [(0,rr 0 a1),(1,.fn 87 [pp 1,pp 2,pp 3]),(5,iv s11),(7,iv (a1.length:Int)),(8,iv s11)] [(0,rE 1 (eSl true 1 eStr) a1),(1,.box [sl 8 (Pack.enc false) a2]),(2,.box [sl 1 zC a3]),(3,.box [sl 1 zC a4])] zB ?_
  refine zA (fun x13 h14=>?_)
  refine zF2 (ix:=s11) (enc:=(eSl true 1 eStr)) 0 0 4 h14 rfl rfl (by kernel_rfl) ?_
  refine zEA [(0,rr 0 a1),(1,.fn 87 [pp 1,pp 2,pp 3]),(5,iv s11),(7,iv (a1.length:Int)),(8,iv s11)] [(0,.lent 1 (a1.map (eSl true 1 eStr)) s11.toNat 0 4 x13.length),(1,.box [sl 8 (Pack.enc false) a2]),(2,.box [sl 1 zC a3]),(3,.box [sl 1 zC a4]),(4,rE 1 eStr x13)] (by kernel_rfl) ?_
  refine zA (fun x15 h16=>?_)
  refine J_g 3378 [] [(0,rr 0 a1),(1,.fn 87 [pp 1,pp 2,pp 3]),(5,iv s11),(7,iv (a1.length:Int)),(8,iv s11),(16,bv x15)] [(0,.lent 1 (a1.map (eSl true 1 eStr)) s11.toNat 0 4 x13.length),(1,.box [sl 8 (Pack.enc false) a2]),(2,.box [sl 1 zC a3]),(3,.box [sl 1 zC a4]),(4,rE 1 eStr x13)] (zD 3 (zIE (kk:=.i64) 35 52 1 0 (eSl true 1 eStr) (.tmp 12) (.tmp 13) s11.toNat 0 4 x13.length h14) (zD 4 (zIB 52 0 (.tmp 14) 1 (eSl true 1 eStr) a1 s11.toNat 0 4 x13.length) (zD 5 (zEV [(4,rE 1 eStr x13),(1,.box [sl 8 (Pack.enc false) a2]),(2,.box [sl 1 zC a3]),(3,.box [sl 1 zC a4])] [] (zEB 11 [(.tmp 15)] [52] false [(4,rE 1 eStr x13),(1,.box [sl 8 (Pack.enc false) a2]),(2,.box [sl 1 zC a3]),(3,.box [sl 1 zC a4])] [4,1,2,3] [rr 4 x13] [pp 1,pp 2,pp 3] (.cons (.rf rfl) (.cons (.pt rfl) (.cons (.pt rfl) (.cons (.pt rfl) (.nil))))) (zAh.ok x13 a2 a3 a4) h16 (.same rfl rfl))) zB))) ?_
  refine zGm (ix:=s11) (enc:=(eSl true 1 eStr)) (b:=x13) 0 0 4 h14 rfl rfl rfl rfl rfl (Nat.le_of_ble_eq_true rfl) (List.length_map _) ?_
  rw [zMJ h14]
  refine zEA [(0,rr 0 a1),(1,.fn 87 [pp 1,pp 2,pp 3]),(5,iv s11),(7,iv (a1.length:Int)),(8,iv s11),(16,bv x15)] [(0,rE 1 (eSl true 1 eStr) a1),(1,.box [sl 8 (Pack.enc false) a2]),(2,.box [sl 1 zC a3]),(3,.box [sl 1 zC a4])] (by kernel_rfl) ?_
  refine zF 16 (fun h17=>?_) (fun h17=>?_)
  ·refine J_d 13516 [] [0,1,4,5,7,8,16] [(4,iv s11)] [] [] zB ?_
   exact zQ rfl
  ·refine J_d 423 [] [5,8,16] [(8,iv (w64 (s11+1)))] [] [] zB ?_
   exact J_q (J_b (ih (w64 (s11+1)))) rfl
 ·exact wD (hk ()) rfl
theorem yR.ok (a1:(List (List ByteArray))) (a2:(List Pack)) (a3:(List Int)) (a4:(List Int)):Ok Tryz.prog 92 [rr 0 a1,.fn 87 [pp 1,pp 2,pp 3]] [rE 1 (eSl true 1 eStr) a1,.box [sl 8 (Pack.enc false) a2],.box [sl 1 zC a3],.box [sl 1 zC a4]] ((yR a1 a2 a3 a4).map fun r=>(iv r,[rE 1 (eSl true 1 eStr) a1,.box [sl 8 (Pack.enc false) a2],.box [sl 1 zC a3],.box [sl 1 zC a4]])):=by
 refine zG c92 Tryz.f92 4 19 (fun q=>?_)
 unfold yR
 refine J_g 2 [] [(0,rr 0 a1),(1,.fn 87 [pp 1,pp 2,pp 3])] [(0,rE 1 (eSl true 1 eStr) a1),(1,.box [sl 8 (Pack.enc false) a2]),(2,.box [sl 1 zC a3]),(3,.box [sl 1 zC a4])] zB ?_
 refine J_d 12 [] [7,8] [(7,iv (a1.length:Int)),(8,iv 0)] [] [] zB ?_
 refine uP (K0:=(fun r:Int=>some (iv r,[rE 1 (eSl true 1 eStr) a1,.box [sl 8 (Pack.enc false) a2],.box [sl 1 zC a3],.box [sl 1 zC a4]]))) (fun _=>rfl) (xI.ok a1 a2 a3 a4 q _ (fun v18=>J_j ?_) 0)
 refine J_d 14 [] [4] [(4,iv (-1))] [] [] zB ?_
 exact zQ rfl
noncomputable def c58:Code:=(Tryz.f58.body).getD .skip
theorem zAr.ok (a1:(List Pack)) (a2:(List Int)) (a3:(List Int)) (a4:(List ByteArray)) (s34:((List (List ByteArray))×Int)) (q:Wd) (kn:(List ByteArray)→Option (D×List Ent)) (hk:∀v:(List ByteArray),J (q.g Tryz.prog 58 0 71) c58 (atI c58 32403) (St.mk' [(3,sl 1 eStr a4),(10,.fn 87 [pp 0,pp 1,pp 2]),(11,rr 3 s34.1),(12,iv s34.2),(13,rr 4 v)] [(0,.box [sl 8 (Pack.enc false) a1]),(1,.box [sl 1 zC a2]),(2,.box [sl 1 zC a3]),(3,rE 1 (eSl true 1 eStr) s34.1),(4,rE 1 eStr v)]) (some v) kn):
  ∀s45:((List ByteArray)×Int),J (q.g Tryz.prog 58 0 71) c58 (atI c58 259220) (St.mk' [(3,sl 1 eStr a4),(10,.fn 87 [pp 0,pp 1,pp 2]),(11,rr 3 s34.1),(12,iv s34.2),(13,rr 4 s45.1),(37,sl 1 eStr a4),(38,iv (a4.length:Int)),(39,iv s45.2)] [(0,.box [sl 8 (Pack.enc false) a1]),(1,.box [sl 1 zC a2]),(2,.box [sl 1 zC a3]),(3,rE 1 (eSl true 1 eStr) s34.1),(4,rE 1 eStr s45.1)]) (zAr a1 a2 a3 a4 s34 s45) kn:=by
 refine tV (fun g ih s45=>?_)
 unfold zAX
 refine J_d 518440 [] [40] [(40,bv (decide (s45.2< (a4.length:Int))))] [] [] zB ?_
 refine zF 40 (fun h46=>?_) (fun h46=>?_)
 ·refine zA (fun x47 h48=>?_)
  refine J_d 8295064 [] [14,15,40] [(14,iv s45.2),(15,sv x47)] [] [] (zD 1 (tT (kk:=.i64) 52 9 1 eStr (.tmp 37) (.tmp 39) h48) zB) ?_
  refine zA (fun x49 h50=>?_)
  refine J_d 16590130 [] [14,48] [(48,bv ((zNW .i64 x49 1)==1))] [] [] (zD 2 (zOw (k2:=.i64) 3 3 (.tmp 44) (.tmp 45) h50) (zD 3 (zOJ (k:=.i64) (a:=x49) (b:=1) 3 3 (.tmp 46) (.const (.int .i64 1))) zB)) ?_
  refine vW (aft c58 4147532) (fun v54:(List ByteArray)=>St.mk' [(3,sl 1 eStr a4),(10,.fn 87 [pp 0,pp 1,pp 2]),(11,rr 3 s34.1),(12,iv s34.2),(13,rr 6 v54),(37,sl 1 eStr a4),(38,iv (a4.length:Int)),(39,iv s45.2)] [(0,.box [sl 8 (Pack.enc false) a1]),(1,.box [sl 1 zC a2]),(2,.box [sl 1 zC a3]),(3,rE 1 (eSl true 1 eStr) s34.1),(6,rE 1 eStr v54)]) (fun v54=>?_) (fun jv54=>?_)
  ·refine J_d 2073767 [] [39] [(39,iv (w64 (s45.2+1)))] [] [] zB ?_
   refine jR 6 4 (Nat.le_of_ble_eq_true rfl) (Nat.le_of_ble_eq_true rfl) ?_
   exact J_q (J_b (ih (v54,w64 (s45.2+1)))) rfl
  ·refine zF 48 (fun h51=>?_) (fun h51=>?_)
   ·refine zA (fun x52 h53=>?_)
    refine J_d 33180262 [] [13,15,48] [(13,rr 6 x52)] [4,6] [(6,rE 1 eStr x52)] (zD 2 (zEa 52 9 1 5 eStr [x47] [0] [(.tmp 50)] [sv x47]) (zD 3 (zGv 52 52 9 9 1 16 6 4 5 eStr (.tmp 49) (.tmp 51) h53) zB)) ?_
    exact wD (J_j (jv54 x52)) rfl
   ·refine jR 4 6 (Nat.le_of_ble_eq_true rfl) (Nat.le_of_ble_eq_true rfl) ?_
    exact wD (J_j (jv54 s45.1)) rfl
 ·exact wD (hk s45.1) rfl
theorem zAk.ok (a1:(List Pack)) (a2:(List Int)) (a3:(List Int)) (a4:(List ByteArray)) (q:Wd) (kn:(List (List ByteArray))→Option (D×List Ent)) (hk:∀v:(List (List ByteArray)),J (q.g Tryz.prog 58 0 71) c58 (atI c58 127) (St.mk' [(3,sl 1 eStr a4),(10,.fn 87 [pp 0,pp 1,pp 2]),(11,rr 3 v)] [(0,.box [sl 8 (Pack.enc false) a1]),(1,.box [sl 1 zC a2]),(2,.box [sl 1 zC a3]),(3,rE 1 (eSl true 1 eStr) v)]) (some v) kn):
  ∀s34:((List (List ByteArray))×Int),J (q.g Tryz.prog 58 0 71) c58 (atI c58 1012) (St.mk' [(3,sl 1 eStr a4),(10,.fn 87 [pp 0,pp 1,pp 2]),(11,rr 3 s34.1),(12,iv s34.2)] [(0,.box [sl 8 (Pack.enc false) a1]),(1,.box [sl 1 zC a2]),(2,.box [sl 1 zC a3]),(3,rE 1 (eSl true 1 eStr) s34.1)]) (zAk a1 a2 a3 a4 s34) kn:=by
 refine tV (fun g ih s34=>?_)
 unfold zBa
 refine zA (fun x35 h36=>?_)
 refine J_d 4048 [] [33] [(33,bv (decide (s34.2< (w64 (x35-1)))))] [] [] (zD 3 (zOK (k2:=.i64) 3 3 (.const (.int .i64 1)) (.tmp 30) h36) zB) ?_
 refine zF 33 (fun h37=>?_) (fun h37=>?_)
 ·refine J_g 16200 [] [(3,sl 1 eStr a4),(10,.fn 87 [pp 0,pp 1,pp 2]),(11,rr 3 s34.1),(12,iv s34.2),(13,rr 4 ([]:List ByteArray))] [(0,.box [sl 8 (Pack.enc false) a1]),(1,.box [sl 1 zC a2]),(2,.box [sl 1 zC a3]),(3,rE 1 (eSl true 1 eStr) s34.1),(4,rE 1 eStr ([]:List ByteArray))] (zD 0 (zEa 52 9 1 4 eStr ([]:List ByteArray) [] [] []) zB) ?_
  refine J_d 64804 [] [37,38,39] [(37,sl 1 eStr a4),(38,iv (a4.length:Int)),(39,iv 0)] [] [] zB ?_
  refine zE2 (zAr.ok a1 a2 a3 a4 s34 q _ (fun v55=>J_j ?_) (([]:List ByteArray),0))
  refine zA (fun x56 h57=>?_)
  refine J_g 32403 [] [(3,sl 1 eStr a4),(10,.fn 87 [pp 0,pp 1,pp 2]),(11,rr 6 x56),(12,iv s34.2)] [(0,.box [sl 8 (Pack.enc false) a1]),(1,.box [sl 1 zC a2]),(2,.box [sl 1 zC a3]),(6,rE 1 (eSl true 1 eStr) x56)] (zD 2 (zNM (ds:=[rr 4 v55]) (ts:=[4]) 35 52 1 5 (eSl true 1 eStr) [v55] [0] [(.tmp 55)] [rr 4 v55] [(4,rE 1 eStr v55)] (.move (.head _) (List.length_map _) (by decide) (.nil))) (zD 3 (zGv 35 35 52 52 1 24 6 3 5 (eSl true 1 eStr) (.tmp 54) (.tmp 56) h57) zB)) ?_
  refine J_d 4051 [] [12] [(12,iv (w64 (s34.2+1)))] [] [] zB ?_
  refine jR 6 3 (Nat.le_of_ble_eq_true rfl) (Nat.le_of_ble_eq_true rfl) ?_
  exact J_q (J_b (ih (x56,w64 (s34.2+1)))) rfl
 ·exact wD (hk s34.1) rfl
theorem zBl.ok (a1:(List Pack)) (a2:(List Int)) (a3:(List Int)) (a4:(List ByteArray)):Ok Tryz.prog 58 [sl 8 (Pack.enc false) a1,sl 1 zC a2,sl 1 zC a3,sl 1 eStr a4] [] ((zBl a1 a2 a3 a4).map fun r=>(.tu [so 1 eStr r.1,bv r.2],[])):=by
 refine zG c58 Tryz.f58 0 71 (fun q=>?_)
 unfold zBl
 refine J_g 2 [(0,0),(1,1),(2,2)] [(3,sl 1 eStr a4),(4,pp 0),(5,pp 1),(6,pp 2)] [(0,.box [sl 8 (Pack.enc false) a1]),(1,.box [sl 1 zC a2]),(2,.box [sl 1 zC a3])] zB ?_
 refine J_d 6 [] [4,5,6,10] [(10,.fn 87 [pp 0,pp 1,pp 2])] [] [] zB ?_
 refine zA (fun x5 h6=>?_)
 refine J_d 28 [] [21] [(21,bv (!x5))] [] [] (zD 2 (zEV [(0,.box [sl 8 (Pack.enc false) a1]),(1,.box [sl 1 zC a2]),(2,.box [sl 1 zC a3])] [] (zEB 18 [(.tmp 19)] [52] false [(0,.box [sl 8 (Pack.enc false) a1]),(1,.box [sl 1 zC a2]),(2,.box [sl 1 zC a3])] [0,1,2] [sl 1 eStr a4] [pp 0,pp 1,pp 2] (.cons (.same rfl) (.cons (.pt rfl) (.cons (.pt rfl) (.cons (.pt rfl) (.nil))))) (zAA.ok a4 a1 a2 a3) h6 (.same rfl rfl))) zB) ?_
 refine zF 21 (fun h7=>?_) (fun h7=>?_)
 ·refine J_g 116 [] [(8,nv),(9,bv false)] [] zB ?_
  exact zEl (ds:=[nv,bv false]) (ds':=[so 1 eStr ([]:List ByteArray),bv false]) (.cons (.cell (.nilsl true 1 (.nil))) (.cons (.cell (.keep rfl (.nil))) (.nil) (by decide)) (by decide)) rfl
 ·refine J_d 60 [] [21,24] [(24,bv (decide ((a4.length:Int)>6)))] [] [] zB ?_
  refine zF 24 (fun h8=>?_) (fun h8=>?_)
  ·refine zA (fun x9 h10=>?_)
   refine J_g 244 [] [(8,rr 3 x9),(9,bv true)] [(3,rE 1 eStr x9)] (zD 1 (vC («as»:=[sl 1 eStr a4]) [(.tmp 25)] [52] false [] [] (.cons (.same rfl) (.nil)) (vF.ok a4) h10 (.own 3)) zB) ?_
   exact zEl (ds:=[rr 3 x9,bv true]) (ds':=[so 1 eStr x9,bv true]) (.cons (.cell (.move (.head _) (List.length_map _) (by decide) (.nil))) (.cons (.cell (.keep rfl (.nil))) (.nil) (by decide)) (by decide)) rfl
  ·refine J_g 62 [] [(3,sl 1 eStr a4),(10,.fn 87 [pp 0,pp 1,pp 2]),(11,rr 3 ([]:List (List ByteArray)))] [(0,.box [sl 8 (Pack.enc false) a1]),(1,.box [sl 1 zC a2]),(2,.box [sl 1 zC a3]),(3,rE 1 (eSl false 1 eStr) ([]:List (List ByteArray)))] (zD 0 (zEa 35 52 1 3 (eSl false 1 eStr) ([]:List (List ByteArray)) [] [] []) zB) ?_
   refine J_d 252 [] [12] [(12,iv 1)] [] [] zB ?_
   refine zE2 (zAk.ok a1 a2 a3 a4 q _ (fun v58=>J_j ?_) (([]:List (List ByteArray)),1))
   refine zA (fun x59 h60=>?_)
   refine J_g 254 [] [(3,sl 1 eStr a4),(10,.fn 87 [pp 0,pp 1,pp 2]),(11,rr 3 v58)] [(0,.box [sl 8 (Pack.enc false) a1]),(1,.box [sl 1 zC a2]),(2,.box [sl 1 zC a3]),(3,rE 1 (eSl true 1 eStr) x59)] (zD 1 (vC («as»:=[rr 3 v58,.fn 90 []]) [(.tmp 58),(.func 90)] [35,117] false [(3,rE 1 (eSl true 1 eStr) v58)] [3] (.cons (.rf rfl) (.cons (.fn (.nil)) (.nil))) (wR.ok v58) h60 (.tu (.nil))) zB) ?_
   refine zA (fun u61 h62=>?_)
   refine zFr (σ':=St.mk' [(3,sl 1 eStr a4),(10,.fn 87 [pp 0,pp 1,pp 2]),(11,rr 3 x59)] [(0,.box [sl 8 (Pack.enc false) a1]),(1,.box [sl 1 zC a2]),(2,.box [sl 1 zC a3]),(3,rE 1 (eSl true 1 eStr) x59)]) (by simp only [rr,zAO h62]) ?_
   refine zA (fun x63 h64=>?_)
   refine J_g 1020 [] [(3,sl 1 eStr a4),(11,rr 3 x59),(16,iv x63)] [(3,rE 1 (eSl true 1 eStr) x59)] (zD 2 (zEV [(3,rE 1 (eSl true 1 eStr) x59),(0,.box [sl 8 (Pack.enc false) a1]),(1,.box [sl 1 zC a2]),(2,.box [sl 1 zC a3])] [] (vC («as»:=[rr 3 x59,.fn 87 [pp 0,pp 1,pp 2]]) [(.tmp 60),(.tmp 61)] [35,115] false [(3,rE 1 (eSl true 1 eStr) x59),(0,.box [sl 8 (Pack.enc false) a1]),(1,.box [sl 1 zC a2]),(2,.box [sl 1 zC a3])] [3,0,1,2] (.cons (.rf rfl) (.cons (.fn (.cons (.pt rfl) (.cons (.pt rfl) (.cons (.pt rfl) (.nil))))) (.nil))) (yR.ok x59 a1 a2 a3) h64 (.same rfl rfl))) zB) ?_
   refine J_d 2042 [] [64] [(64,bv (decide (x63≥0)))] [] [] zB ?_
   refine zF 64 (fun h65=>?_) (fun h65=>?_)
   ·refine zA (fun x66 h67=>?_)
    refine zEA [(3,sl 1 eStr a4),(11,rr 3 x59),(16,iv x63),(64,bv true)] [(3,rE 1 (eSl true 1 eStr) x59)] (by kernel_rfl) ?_
    refine zFr (σ':=St.mk' [(3,sl 1 eStr a4),(11,rr 3 (x59.map some)),(16,iv x63),(64,bv true)] [(3,rE 1 (zGs (eSl true 1 eStr)) (x59.map some))]) (by simp only [rE,rr,zJu,List.length_map]) ?_
    refine zA (fun x68 h69=>?_)
    refine zF2 (ix:=x63) (enc:=(zGs (eSl true 1 eStr))) 3 0 4 (zFY h69) rfl rfl (by kernel_rfl) ?_
    refine zEA [(3,sl 1 eStr a4),(11,rr 3 (x59.map some)),(16,iv x63),(64,bv true)] [(3,.lent 1 ((x59.map some).map (zGs (eSl true 1 eStr))) x63.toNat 0 4 x68.length),(4,rE 1 eStr x68)] (by kernel_rfl) ?_
    refine J_g 8172 [] [(8,rr 4 x68),(9,bv true)] [(3,.lent 1 ((x59.map some).map (zGs (eSl true 1 eStr))) x63.toNat 0 4 x68.length),(4,rE 1 eStr x68)] (zD 2 (zIE (kk:=.i64) 35 52 1 3 (zGs (eSl true 1 eStr)) (.tmp 65) (.tmp 66) x63.toNat 0 4 x68.length (zFY h69)) (zD 3 (zIB 52 3 (.tmp 67) 1 (zGs (eSl true 1 eStr)) (x59.map some) x63.toNat 0 4 x68.length) zB)) ?_
    refine zLN (ix:=x63) (enc:=(eSl true 1 eStr)) 3 (zFY h69) rfl rfl ?_
    refine zEA [(8,rr 4 x68),(9,bv true)] [(3,rE 1 (zGs (eSl true 1 eStr)) ((x59.map some).set x63.toNat none)),(4,rE 1 eStr x68)] (by kernel_rfl) ?_
    exact zEl (ds:=[rr 4 x68,bv true]) (ds':=[so 1 eStr x68,bv true]) (.cons (.cell (.move (.tail _ (.head _)) (List.length_map _) (by decide) (.nil))) (.cons (.cell (.keep rfl (.nil))) (.nil) (by decide)) (by decide)) rfl
   ·refine zA (fun x70 h71=>?_)
    refine J_g 1022 [] [(8,rr 4 x70),(9,bv true)] [(4,rE 1 eStr x70)] (zD 1 (vC («as»:=[sl 1 eStr a4]) [(.tmp 69)] [52] false [] [] (.cons (.same rfl) (.nil)) (vF.ok a4) h71 (.own 4)) zB) ?_
    exact zEl (ds:=[rr 4 x70,bv true]) (ds':=[so 1 eStr x70,bv true]) (.cons (.cell (.move (.head _) (List.length_map _) (by decide) (.nil))) (.cons (.cell (.keep rfl (.nil))) (.nil) (by decide)) (by decide)) rfl
noncomputable def c61:Code:=(Tryz.f61.body).getD .skip
theorem zGX.ok (a1:ByteArray) (a2:(List ByteArray)):Ok Tryz.prog 61 [sv a1,pp 0] [.box [so 1 eStr a2]] ((zEp a1 a2).map fun r=>(bv r,[.box [so 1 eStr a2]])):=by
 refine zG c61 Tryz.f61 1 7 (fun q=>?_)
 unfold zEp
 refine zFy 0 (cs':=[rr 1 a2]) (es:=[(1,rE 1 eStr a2)]) rfl (.cons (.own 1) (.nil)) rfl (by kernel_rfl) (by kernel_rfl) ?_
 refine zEA [(0,sv a1),(1,pp 0)] [(0,.box [rr 1 a2]),(1,rE 1 eStr a2)] (by kernel_rfl) ?_
 refine J_d 2 [] [] [] [] [] zB ?_
 refine zA (fun x3 h4=>?_)
 refine J_g 6 [] [(3,bv x3)] [(0,.box [rr 1 a2]),(1,rE 1 eStr a2)] (zD 2 (vC («as»:=[rr 1 a2,sv a1]) [(.tmp 4),(.tmp 5)] [52,9] true [(1,rE 1 eStr a2)] [] (.cons (zBr (.head _) (fun _=>rfl) rfl) (.cons (.same rfl) (.nil))) (yA.ok a2 a1) h4 (.same rfl rfl) (hbor:=fun _=>⟨fhN,yL⟩)) zB) ?_
 refine zGG 0 (cs':=[so 1 eStr a2]) (ts:=[1]) rfl (.move (.head _) (List.length_map _) (by decide) (.nil)) ?_
 refine zEA [(3,bv x3)] [(0,.box [so 1 eStr a2])] (by kernel_rfl) ?_
 exact zQ rfl
theorem wY.ok (a1:(List ByteArray)) (a2:(List ByteArray)) (q:Wd) (kn:Unit→Option (D×List Ent)) (hk:∀v:Unit,J (q.g Tryz.prog 97 2 19) c97 (atI c97 7) (St.mk' [] [(0,rE 1 eStr a1),(1,.box [rr 2 a2]),(2,rE 1 eStr a2)]) (some v) kn):
  ∀s9:Int,J (q.g Tryz.prog 97 2 19) c97 (atI c97 52) (St.mk' [(0,rr 0 a1),(1,.fn 61 [pp 1]),(7,iv (a1.length:Int)),(8,iv s9)] [(0,rE 1 eStr a1),(1,.box [rr 2 a2]),(2,rE 1 eStr a2)]) (wY a1 a2 s9) (Fl.go (fun r:Int=>some (iv r,[rE 1 eStr a1,.box [so 1 eStr a2]])) kn):=by
 refine tV (fun g ih s9=>?_)
 unfold wB
 refine J_d 104 [] [9] [(9,bv (decide (s9< (a1.length:Int))))] [] [] zB ?_
 refine zF 9 (fun h10=>?_) (fun h10=>?_)
 ·refine J_g 1688 [] [(0,rr 0 a1),(1,.fn 61 [pp 1]),(5,iv s9),(7,iv (a1.length:Int)),(8,iv s9)] [(0,rE 1 eStr a1),(1,.box [rr 2 a2]),(2,rE 1 eStr a2)] zB ?_
  refine zA (fun x11 h12=>?_)
  refine zGG 1 (cs':=[so 1 eStr a2]) (ts:=[2]) rfl (.move (.tail _ (.head _)) (List.length_map _) (by decide) (.nil)) ?_
  refine zEA [(0,rr 0 a1),(1,.fn 61 [pp 1]),(5,iv s9),(7,iv (a1.length:Int)),(8,iv s9)] [(0,rE 1 eStr a1),(1,.box [so 1 eStr a2])] (by kernel_rfl) ?_
  refine zA (fun x13 h14=>?_)
  refine J_g 3378 [] [(0,rr 0 a1),(1,.fn 61 [pp 1]),(5,iv s9),(7,iv (a1.length:Int)),(8,iv s9),(16,bv x13)] [(0,rE 1 eStr a1),(1,.box [so 1 eStr a2])] (zD 3 (jT (kk:=.i64) 52 9 1 0 eStr (.tmp 12) (.tmp 13) h12) (zD 4 (zC1 (d:=sv x11) 9 1 0 0 eStr (.tmp 14) h12 (by kernel_rfl)) (zD 5 (zEV [(1,.box [so 1 eStr a2])] [] (zEB 11 [(.tmp 15)] [9] false [(1,.box [so 1 eStr a2])] [1] [sv x11] [pp 1] (.cons (.same rfl) (.cons (.pt rfl) (.nil))) (zGX.ok x11 a2) h14 (.same rfl rfl))) zB))) ?_
  refine zFy 1 (cs':=[rr 2 a2]) (es:=[(2,rE 1 eStr a2)]) rfl (.cons (.own 2) (.nil)) rfl (by kernel_rfl) (by kernel_rfl) ?_
  refine zEA [(0,rr 0 a1),(1,.fn 61 [pp 1]),(5,iv s9),(7,iv (a1.length:Int)),(8,iv s9),(16,bv x13)] [(0,rE 1 eStr a1),(1,.box [rr 2 a2]),(2,rE 1 eStr a2)] (by kernel_rfl) ?_
  refine zF 16 (fun h15=>?_) (fun h15=>?_)
  ·refine J_g 13516 [] [(4,iv s9)] [(0,rE 1 eStr a1),(1,.box [rr 2 a2]),(2,rE 1 eStr a2)] zB ?_
   refine zGG 1 (cs':=[so 1 eStr a2]) (ts:=[2]) rfl (.move (.tail _ (.head _)) (List.length_map _) (by decide) (.nil)) ?_
   refine zEA [(4,iv s9)] [(0,rE 1 eStr a1),(1,.box [so 1 eStr a2])] (by kernel_rfl) ?_
   exact zQ rfl
  ·refine J_d 423 [] [5,8,16] [(8,iv (w64 (s9+1)))] [] [] zB ?_
   exact J_q (J_b (ih (w64 (s9+1)))) rfl
 ·exact wD (hk ()) rfl
theorem wL.ok (a1:(List ByteArray)) (a2:(List ByteArray)):Ok Tryz.prog 97 [rr 0 a1,.fn 61 [pp 1]] [rE 1 eStr a1,.box [so 1 eStr a2]] ((wL a1 a2).map fun r=>(iv r,[rE 1 eStr a1,.box [so 1 eStr a2]])):=by
 refine zG c97 Tryz.f97 2 19 (fun q=>?_)
 unfold wL
 refine zFy 1 (cs':=[rr 2 a2]) (es:=[(2,rE 1 eStr a2)]) rfl (.cons (.own 2) (.nil)) rfl (by kernel_rfl) (by kernel_rfl) ?_
 refine zEA [(0,rr 0 a1),(1,.fn 61 [pp 1])] [(0,rE 1 eStr a1),(1,.box [rr 2 a2]),(2,rE 1 eStr a2)] (by kernel_rfl) ?_
 refine J_g 2 [] [(0,rr 0 a1),(1,.fn 61 [pp 1])] [(0,rE 1 eStr a1),(1,.box [rr 2 a2]),(2,rE 1 eStr a2)] zB ?_
 refine J_d 12 [] [7,8] [(7,iv (a1.length:Int)),(8,iv 0)] [] [] zB ?_
 refine uP (K0:=(fun r:Int=>some (iv r,[rE 1 eStr a1,.box [so 1 eStr a2]]))) (fun _=>rfl) (wY.ok a1 a2 q _ (fun v16=>J_j ?_) 0)
 refine J_g 14 [] [(4,iv (-1))] [(0,rE 1 eStr a1),(1,.box [rr 2 a2]),(2,rE 1 eStr a2)] zB ?_
 refine zGG 1 (cs':=[so 1 eStr a2]) (ts:=[2]) rfl (.move (.tail _ (.head _)) (List.length_map _) (by decide) (.nil)) ?_
 refine zEA [(4,iv (-1))] [(0,rE 1 eStr a1),(1,.box [so 1 eStr a2])] (by kernel_rfl) ?_
 exact zQ rfl
noncomputable def c60:Code:=(Tryz.f60.body).getD .skip
theorem wU.ok (a2:(List ByteArray)) (q:Wd) (kn:((List ByteArray)×Int)→Option (D×List Ent)) (hk:∀v:((List ByteArray)×Int),J (q.g Tryz.prog 60 2 42) c60 (atI c60 31) (St.mk' [(0,rr 1 v.1),(5,iv v.2)] [(0,.box [rr 2 a2]),(1,rE 1 eStr v.1),(2,rE 1 eStr a2)]) (some v) kn):
  ∀s15:((List ByteArray)×Int×Int),J (q.g Tryz.prog 60 2 42) c60 (atI c60 244) (St.mk' [(0,rr 1 s15.1),(1,.fn 61 [pp 0]),(5,iv s15.2.1),(6,iv s15.2.2)] [(0,.box [rr 2 a2]),(1,rE 1 eStr s15.1),(2,rE 1 eStr a2)]) (wU a2 s15) kn:=by
 refine tV (fun g ih s15=>?_)
 unfold xU
 refine J_d 976 [] [19] [(19,bv (decide (s15.2.2< (s15.1.length:Int))))] [] [] zB ?_
 refine zF 19 (fun h16=>?_) (fun h16=>?_)
 ·refine zA (fun x17 h18=>?_)
  refine J_g 3912 [] [(0,rr 1 s15.1),(1,.fn 61 [pp 0]),(5,iv s15.2.1),(6,iv s15.2.2),(7,sv x17)] [(0,.box [rr 2 a2]),(1,rE 1 eStr s15.1),(2,rE 1 eStr a2)] (zD 2 (jT (kk:=.i64) 52 9 1 1 eStr (.tmp 22) (.tmp 23) h18) (zD 3 (zC1 (d:=sv x17) 9 1 1 0 eStr (.tmp 24) h18 (by kernel_rfl)) zB)) ?_
  refine zGG 0 (cs':=[so 1 eStr a2]) (ts:=[2]) rfl (.move (.tail _ (.head _)) (List.length_map _) (by decide) (.nil)) ?_
  refine zEA [(0,rr 1 s15.1),(1,.fn 61 [pp 0]),(5,iv s15.2.1),(6,iv s15.2.2),(7,sv x17)] [(0,.box [so 1 eStr a2]),(1,rE 1 eStr s15.1)] (by kernel_rfl) ?_
  refine zA (fun x19 h20=>?_)
  refine J_g 7826 [] [(0,rr 1 s15.1),(1,.fn 61 [pp 0]),(5,iv s15.2.1),(6,iv s15.2.2),(7,sv x17),(29,bv (!x19))] [(0,.box [so 1 eStr a2]),(1,rE 1 eStr s15.1)] (zD 2 (zEV [(0,.box [so 1 eStr a2])] [] (zEB 26 [(.tmp 27)] [9] false [(0,.box [so 1 eStr a2])] [0] [sv x17] [pp 0] (.cons (.same rfl) (.cons (.pt rfl) (.nil))) (zGX.ok x17 a2) h20 (.same rfl rfl))) zB) ?_
  refine zFy 0 (cs':=[rr 2 a2]) (es:=[(2,rE 1 eStr a2)]) rfl (.cons (.own 2) (.nil)) rfl (by kernel_rfl) (by kernel_rfl) ?_
  refine zEA [(0,rr 1 s15.1),(1,.fn 61 [pp 0]),(5,iv s15.2.1),(6,iv s15.2.2),(7,sv x17),(29,bv (!x19))] [(0,.box [rr 2 a2]),(1,rE 1 eStr s15.1),(2,rE 1 eStr a2)] (by kernel_rfl) ?_
  refine vW (aft c60 1956) (fun v24:((List ByteArray)×Int)=>St.mk' [(0,rr 1 v24.1),(1,.fn 61 [pp 0]),(5,iv v24.2),(6,iv s15.2.2)] [(0,.box [rr 2 a2]),(1,rE 1 eStr v24.1),(2,rE 1 eStr a2)]) (fun v24=>?_) (fun jv24=>?_)
  ·refine J_d 979 [] [6] [(6,iv (w64 (s15.2.2+1)))] [] [] zB ?_
   exact J_q (J_b (ih (v24.1,v24.2,w64 (s15.2.2+1)))) rfl
  ·refine zF 29 (fun h21=>?_) (fun h21=>?_)
   ·refine zA (fun x22 h23=>?_)
    refine J_g 31308 [] [(0,rr 1 s15.1),(1,.fn 61 [pp 0]),(5,iv s15.2.1),(6,iv s15.2.2)] [(0,.box [rr 2 a2]),(1,rE 1 eStr (s15.1.set s15.2.1.toNat x17)),(2,rE 1 eStr a2)] (zD 3 (jT (kk:=.i64) 52 9 1 1 eStr (.tmp 30) (.tmp 31) h23) (zGT 4 (zIb (b:=x17) 9 1 1 0 eStr (sv x17) (.tmp 33) (.tmp 32) h23 rfl) zB)) ?_
    refine zFr (σ':=St.mk' [(0,rr 1 (s15.1.set s15.2.1.toNat x17)),(1,.fn 61 [pp 0]),(5,iv s15.2.1),(6,iv s15.2.2)] [(0,.box [rr 2 a2]),(1,rE 1 eStr (s15.1.set s15.2.1.toNat x17)),(2,rE 1 eStr a2)]) (by simp only [rr,List.length_set]) ?_
    refine J_d 31309 [] [5] [(5,iv (w64 (s15.2.1+1)))] [] [] zB ?_
    exact wD (J_j (jv24 (s15.1.set s15.2.1.toNat x17,w64 (s15.2.1+1)))) rfl
   ·exact wD (J_j (jv24 (s15.1,s15.2.1))) rfl
 ·exact wD (hk (s15.1,s15.2.1)) rfl
theorem xL.ok (a1:(List ByteArray)) (a2:(List ByteArray)):Ok Tryz.prog 60 [rr 1 a1,.fn 61 [pp 0]] [.box [so 1 eStr a2],rE 1 eStr a1] ((xL a1 a2).map fun r=>(so 1 eStr r,[.box [so 1 eStr a2]])):=by
 refine zG c60 Tryz.f60 2 42 (fun q=>?_)
 unfold xL
 refine zFy 0 (cs':=[rr 2 a2]) (es:=[(2,rE 1 eStr a2)]) rfl (.cons (.own 2) (.nil)) rfl (by kernel_rfl) (by kernel_rfl) ?_
 refine zEA [(0,rr 1 a1),(1,.fn 61 [pp 0])] [(0,.box [rr 2 a2]),(1,rE 1 eStr a1),(2,rE 1 eStr a2)] (by kernel_rfl) ?_
 refine J_g 2 [] [(0,rr 1 a1),(1,.fn 61 [pp 0])] [(0,.box [rr 2 a2]),(1,rE 1 eStr a1),(2,rE 1 eStr a2)] zB ?_
 refine zGG 0 (cs':=[so 1 eStr a2]) (ts:=[2]) rfl (.move (.tail _ (.head _)) (List.length_map _) (by decide) (.nil)) ?_
 refine zEA [(0,rr 1 a1),(1,.fn 61 [pp 0])] [(0,.box [so 1 eStr a2]),(1,rE 1 eStr a1)] (by kernel_rfl) ?_
 refine zA (fun x3 h4=>?_)
 refine J_g 6 [] [(0,rr 1 a1),(1,.fn 61 [pp 0]),(5,iv x3)] [(0,.box [so 1 eStr a2]),(1,rE 1 eStr a1)] (zD 2 (zEV [(1,rE 1 eStr a1),(0,.box [so 1 eStr a2])] [] (vC («as»:=[rr 1 a1,.fn 61 [pp 0]]) [(.tmp 8),(.tmp 9)] [52,94] false [(1,rE 1 eStr a1),(0,.box [so 1 eStr a2])] [1,0] (.cons (.rf rfl) (.cons (.fn (.cons (.pt rfl) (.nil))) (.nil))) (wL.ok a1 a2) h4 (.same rfl rfl))) zB) ?_
 refine zFy 0 (cs':=[rr 2 a2]) (es:=[(2,rE 1 eStr a2)]) rfl (.cons (.own 2) (.nil)) rfl (by kernel_rfl) (by kernel_rfl) ?_
 refine zEA [(0,rr 1 a1),(1,.fn 61 [pp 0]),(5,iv x3)] [(0,.box [rr 2 a2]),(1,rE 1 eStr a1),(2,rE 1 eStr a2)] (by kernel_rfl) ?_
 refine J_d 28 [] [12] [(12,bv (x3==(-1)))] [] [] zB ?_
 refine zF 12 (fun h5=>?_) (fun h5=>?_)
 ·refine J_g 116 [] [(4,rr 1 a1)] [(0,.box [rr 2 a2]),(1,rE 1 eStr a1),(2,rE 1 eStr a2)] zB ?_
  refine zGG 0 (cs':=[so 1 eStr a2]) (ts:=[2]) rfl (.move (.tail _ (.head _)) (List.length_map _) (by decide) (.nil)) ?_
  refine zEA [(4,rr 1 a1)] [(0,.box [so 1 eStr a2]),(1,rE 1 eStr a1)] (by kernel_rfl) ?_
  exact zEl (ds:=[rr 1 a1]) (ds':=[so 1 eStr a1]) (.cons (.cell (.move (.tail _ (.head _)) (List.length_map _) (by decide) (.nil))) (.nil) (by decide)) rfl
 ·refine J_d 60 [] [6,12] [(6,iv (w64 (x3+1)))] [] [] zB ?_
  refine zE2 (wU.ok a2 q _ (fun v25=>J_j ?_) (a1,x3,w64 (x3+1)))
  refine zA (fun x26 h27=>?_)
  refine zA (fun x28 h29=>?_)
  refine J_g 62 [] [(0,rr 1 v25.1),(5,iv v25.2)] [(0,.box [rr 2 a2]),(1,rE 1 eStr x28),(2,rE 1 eStr a2)] (zD 2 (zLw 52 9 1 1 eStr (.tmp 36) (some (.tmp 37)) none h27) (zGT 3 (zMZ (l:=v25.2) (a:=ByteArray.empty) 52 9 1 1 eStr (.tmp 38) h29 (.keep rfl (.nil))) zB)) ?_
  refine zFr (σ':=St.mk' [(0,rr 1 x28),(5,iv v25.2)] [(0,.box [rr 2 a2]),(1,rE 1 eStr x28),(2,rE 1 eStr a2)]) (by simp only [rr,zHn h29]) ?_
  refine zA (fun x30 h31=>?_)
  refine J_g 126 [] [(4,rr 3 x30)] [(0,.box [rr 2 a2]),(2,rE 1 eStr a2),(3,rE 1 eStr x30)] (zD 2 (zMO 52 9 1 1 3 eStr (.tmp 39) none (some (.tmp 40)) h31) zB) ?_
  refine zGG 0 (cs':=[so 1 eStr a2]) (ts:=[2]) rfl (.move (.head _) (List.length_map _) (by decide) (.nil)) ?_
  refine zEA [(4,rr 3 x30)] [(0,.box [so 1 eStr a2]),(3,rE 1 eStr x30)] (by kernel_rfl) ?_
  exact zEl (ds:=[rr 3 x30]) (ds':=[so 1 eStr x30]) (.cons (.cell (.move (.tail _ (.head _)) (List.length_map _) (by decide) (.nil))) (.nil) (by decide)) rfl
noncomputable def c30:Code:=(Tryz.f30.body).getD .skip
theorem zDg.ok (a1:(List Pack)) (a3:(List Int)) (x7:(List (List ByteArray))) (s77:((List (List ByteArray))×(List (List Int))×(List Int)×(List (Option (List ByteArray)))×Int)) (q:Wd) (kn:((List (List ByteArray))×(List (List Int))×(List Int))→Option (D×List Ent)) (hk:∀v:((List (List ByteArray))×(List (List Int))×(List Int)),J (q.g Tryz.prog 30 0 69) c30 (aft c30 3916) (St.mk' [(0,sl 8 (Pack.enc false) a1),(2,sl 1 zC a3),(10,rr 0 v.1),(11,rr 1 v.2.1),(12,sl 1 zC v.2.2),(30,rr 2 (s77.2.2.2.1.set s77.2.2.2.2.toNat none)),(31,iv (x7.length:Int)),(32,iv s77.2.2.2.2)] [(0,rE 1 (eSl true 1 eStr) v.1),(1,rE 1 (eSl true 1 zC) v.2.1),(2,rE 1 (zGs (eSl true 1 eStr)) (s77.2.2.2.1.set s77.2.2.2.2.toNat none))]) (some v) kn):
  ∀s95:((List (List ByteArray))×(List (List Int))×(List Int)×(List ByteArray)),J (q.g Tryz.prog 30 0 69) c30 (atI c30 31332) (St.mk' [(0,sl 8 (Pack.enc false) a1),(2,sl 1 zC a3),(10,rr 0 s95.1),(11,rr 1 s95.2.1),(12,sl 1 zC s95.2.2.1),(14,rr 3 s95.2.2.2),(30,rr 2 (s77.2.2.2.1.set s77.2.2.2.2.toNat none)),(31,iv (x7.length:Int)),(32,iv s77.2.2.2.2)] [(0,rE 1 (eSl true 1 eStr) s95.1),(1,rE 1 (eSl true 1 zC) s95.2.1),(2,rE 1 (zGs (eSl true 1 eStr)) (s77.2.2.2.1.set s77.2.2.2.2.toNat none)),(3,rE 1 eStr s95.2.2.2)]) (zDg a1 a3 x7 s77 s95) (Fl.go (fun r:((List (List ByteArray))×(List (List Int))×Int)=>some (.tu [so 1 (eSl true 1 eStr) r.1,so 1 (eSl true 1 zC) r.2.1,iv r.2.2],[])) kn):=by
 refine tV (fun g ih s95=>?_)
 unfold zDn
 refine J_d 125328 [] [38] [(38,bv (decide ((s95.2.2.2.length:Int)>0)))] [] [] zB ?_
 refine zF 38 (fun h96=>?_) (fun h96=>?_)
 ·refine zA (fun x97 h98=>?_)
  refine J_g 250660 [(8,5)] [(0,sl 8 (Pack.enc false) a1),(2,sl 1 zC a3),(10,rr 0 s95.1),(11,rr 1 s95.2.1),(12,sl 1 zC s95.2.2.1),(14,rr 3 s95.2.2.2),(15,pp 5),(16,bv x97.2),(30,rr 2 (s77.2.2.2.1.set s77.2.2.2.2.toNat none)),(31,iv (x7.length:Int)),(32,iv s77.2.2.2.2)] [(0,rE 1 (eSl true 1 eStr) s95.1),(1,rE 1 (eSl true 1 zC) s95.2.1),(2,rE 1 (zGs (eSl true 1 eStr)) (s77.2.2.2.1.set s77.2.2.2.2.toNat none)),(3,rE 1 eStr s95.2.2.2),(4,rE 1 eStr x97.1),(5,.box [rr 4 x97.1])] (zD 4 (vC («as»:=[sl 8 (Pack.enc false) a1,sl 1 zC s95.2.2.1,sl 1 zC a3,rr 3 s95.2.2.2]) [(.tmp 40),(.tmp 41),(.tmp 42),(.tmp 43)] [28,23,23,52] true [(3,rE 1 eStr s95.2.2.2)] [] (.cons (.same rfl) (.cons (.same rfl) (.cons (.same rfl) (.cons (zBr (.head _) (fun _=>rfl) rfl) (.nil))))) (zBl.ok a1 s95.2.2.1 a3 s95.2.2.2) h98 (.tu (.cons (.own 4) (.cons (.same rfl rfl) (.nil)))) (hbor:=fun _=>⟨fhN,(zN7 (flatK (zET (zGe (fun _=>(flatK yL zFh)) _)) (flatK yL zFh)))⟩)) zB) ?_
  refine J_d 1002644 [] [16,48] [(48,bv (!x97.2))] [] [] zB ?_
  refine zF 48 (fun h99=>?_) (fun h99=>?_)
  ·refine J_g 4010580 [] [(6,nv),(7,nv),(8,iv 4)] [] zB ?_
   exact zEl (ds:=[nv,nv,iv 4]) (ds':=[so 1 (eSl true 1 eStr) ([]:List (List ByteArray)),so 1 (eSl true 1 zC) ([]:List (List Int)),iv 4]) (.cons (.cell (.nilsl true 1 (.nil))) (.cons (.cell (.nilsl true 1 (.nil))) (.cons (.cell (.keep rfl (.nil))) (.nil) (by decide)) (by decide)) (by decide)) rfl
  ·refine zA (fun x100 h101=>?_)
   refine J_g 1002646 [] [(0,sl 8 (Pack.enc false) a1),(2,sl 1 zC a3),(10,rr 0 s95.1),(11,rr 1 s95.2.1),(12,rr 6 x100),(14,rr 3 s95.2.2.2),(15,pp 5),(30,rr 2 (s77.2.2.2.1.set s77.2.2.2.2.toNat none)),(31,iv (x7.length:Int)),(32,iv s77.2.2.2.2)] [(0,rE 1 (eSl true 1 eStr) s95.1),(1,rE 1 (eSl true 1 zC) s95.2.1),(2,rE 1 (zGs (eSl true 1 eStr)) (s77.2.2.2.1.set s77.2.2.2.2.toNat none)),(3,rE 1 eStr s95.2.2.2),(4,rE 1 eStr x97.1),(5,.box [rr 4 x97.1]),(6,rE 1 zC x100)] (zD 4 (vC («as»:=[sl 8 (Pack.enc false) a1,sl 1 zC s95.2.2.1,sl 1 zC a3,rr 4 x97.1]) [(.tmp 49),(.tmp 50),(.tmp 51),(.tmp 52)] [28,23,23,52] true [(4,rE 1 eStr x97.1)] [] (.cons (.same rfl) (.cons (.same rfl) (.cons (.same rfl) (.cons (zBr (.head _) (fun _=>rfl) rfl) (.nil))))) (zAp.ok a1 s95.2.2.1 a3 x97.1) h101 (.own 6) (hbor:=fun _=>⟨fhN,(zET (zGe (fun _=>(flatK yL zFh)) _))⟩)) zB) ?_
   refine zGG 5 (cs':=[so 1 eStr x97.1]) (ts:=[4]) rfl (.move (.tail _ (.tail _ (.tail _ (.tail _ (.head _))))) (List.length_map _) (by decide) (.nil)) ?_
   refine zEA [(0,sl 8 (Pack.enc false) a1),(2,sl 1 zC a3),(10,rr 0 s95.1),(11,rr 1 s95.2.1),(12,rr 6 x100),(14,rr 3 s95.2.2.2),(15,pp 5),(30,rr 2 (s77.2.2.2.1.set s77.2.2.2.2.toNat none)),(31,iv (x7.length:Int)),(32,iv s77.2.2.2.2)] [(0,rE 1 (eSl true 1 eStr) s95.1),(1,rE 1 (eSl true 1 zC) s95.2.1),(2,rE 1 (zGs (eSl true 1 eStr)) (s77.2.2.2.1.set s77.2.2.2.2.toNat none)),(3,rE 1 eStr s95.2.2.2),(5,.box [so 1 eStr x97.1]),(6,rE 1 zC x100)] (by kernel_rfl) ?_
   refine zA (fun x102 h103=>?_)
   refine J_g 2005294 [] [(0,sl 8 (Pack.enc false) a1),(2,sl 1 zC a3),(10,rr 0 s95.1),(11,rr 1 s95.2.1),(12,rr 6 x100),(14,rr 7 x102),(15,pp 5),(30,rr 2 (s77.2.2.2.1.set s77.2.2.2.2.toNat none)),(31,iv (x7.length:Int)),(32,iv s77.2.2.2.2)] [(0,rE 1 (eSl true 1 eStr) s95.1),(1,rE 1 (eSl true 1 zC) s95.2.1),(2,rE 1 (zGs (eSl true 1 eStr)) (s77.2.2.2.1.set s77.2.2.2.2.toNat none)),(5,.box [so 1 eStr x97.1]),(6,rE 1 zC x100),(7,rE 1 eStr x102)] (zD 2 (vC («as»:=[rr 3 s95.2.2.2,.fn 61 [pp 5]]) [(.tmp 54),(.tmp 55)] [52,94] false [(5,.box [so 1 eStr x97.1]),(3,rE 1 eStr s95.2.2.2)] [5,3] (.cons (.rf rfl) (.cons (.fn (.cons (.pt rfl) (.nil))) (.nil))) (xL.ok s95.2.2.2 x97.1) h103 (.own 7)) zB) ?_
   refine zFy 5 (cs':=[rr 8 x97.1]) (es:=[(8,rE 1 eStr x97.1)]) rfl (.cons (.own 8) (.nil)) rfl (by kernel_rfl) (by kernel_rfl) ?_
   refine zEA [(0,sl 8 (Pack.enc false) a1),(2,sl 1 zC a3),(10,rr 0 s95.1),(11,rr 1 s95.2.1),(12,rr 6 x100),(14,rr 7 x102),(15,pp 5),(30,rr 2 (s77.2.2.2.1.set s77.2.2.2.2.toNat none)),(31,iv (x7.length:Int)),(32,iv s77.2.2.2.2)] [(0,rE 1 (eSl true 1 eStr) s95.1),(1,rE 1 (eSl true 1 zC) s95.2.1),(2,rE 1 (zGs (eSl true 1 eStr)) (s77.2.2.2.1.set s77.2.2.2.2.toNat none)),(5,.box [rr 8 x97.1]),(6,rE 1 zC x100),(7,rE 1 eStr x102),(8,rE 1 eStr x97.1)] (by kernel_rfl) ?_
   refine zA (fun x104 h105=>?_)
   refine zA (fun x106 h107=>?_)
   refine zA (fun x108 h109=>?_)
   refine J_d 2005295 [] [10,11,15] [(10,rr 10 x104),(11,rr 13 x108)] [0,1,5,8,10,13] [(10,rE 1 (eSl true 1 eStr) x104),(13,rE 1 (eSl true 1 zC) x108)] (zD 2 (zNM (ds:=[rr 8 x97.1]) (ts:=[8]) 35 52 1 9 (eSl true 1 eStr) [x97.1] [0] [(.tmp 58)] [rr 8 x97.1] [(8,rE 1 eStr x97.1)] (.move (.head _) (List.length_map _) (by decide) (.nil))) (zD 3 (zGv 35 35 52 52 1 24 10 0 9 (eSl true 1 eStr) (.tmp 57) (.tmp 59) h105) (zD 6 (vC («as»:=[rr 6 x100]) [(.tmp 62)] [23] true [(6,rE 1 zC x100)] [] (.cons (zBr (.head _) (fun _=>rfl) rfl) (.nil)) (wH.ok x100) h107 (.own 11) (hbor:=fun _=>⟨fhN,(zET (zGe (fun _=>(flatK yL zFh)) _))⟩)) (zD 7 (zNM (ds:=[rr 11 x106]) (ts:=[11]) 43 23 1 12 (eSl true 1 zC) [x106] [0] [(.tmp 63)] [rr 11 x106] [(11,rE 1 zC x106)] (.move (.head _) (List.length_map _) (by decide) (.nil))) (zD 8 (zGv 43 43 23 23 1 24 13 1 12 (eSl true 1 zC) (.tmp 61) (.tmp 64) h109) zB))))) ?_
   refine zEA [(0,sl 8 (Pack.enc false) a1),(2,sl 1 zC a3),(10,rr 10 x104),(11,rr 13 x108),(12,rr 6 x100),(14,rr 7 x102),(30,rr 2 (s77.2.2.2.1.set s77.2.2.2.2.toNat none)),(31,iv (x7.length:Int)),(32,iv s77.2.2.2.2)] [(6,rE 1 zC x100),(2,rE 1 (zGs (eSl true 1 eStr)) (s77.2.2.2.1.set s77.2.2.2.2.toNat none)),(7,rE 1 eStr x102),(10,rE 1 (eSl true 1 eStr) x104),(13,rE 1 (eSl true 1 zC) x108)] (by kernel_rfl) ?_
   refine zJD 6 (z:=1) (xs:=x100.map zC) (tm2:=[(0,sl 8 (Pack.enc false) a1),(2,sl 1 zC a3),(10,rr 10 x104),(11,rr 13 x108),(12,sl 1 zC x100),(14,rr 7 x102),(30,rr 2 (s77.2.2.2.1.set s77.2.2.2.2.toNat none)),(31,iv (x7.length:Int)),(32,iv s77.2.2.2.2)]) (hp2:=[(2,rE 1 (zGs (eSl true 1 eStr)) (s77.2.2.2.1.set s77.2.2.2.2.toNat none)),(7,rE 1 eStr x102),(10,rE 1 (eSl true 1 eStr) x104),(13,rE 1 (eSl true 1 zC) x108)]) (.cons (.keep rfl) (.cons (.keep rfl) (.cons (.keep rfl) (.cons (.keep rfl) (.cons (.rf (by simp) (zFD (enc:=zC) (enc':=zC) (fun _=>rfl) x100 rfl rfl)) (.cons (.keep rfl) (.cons (.keep rfl) (.cons (.keep rfl) (.cons (.keep rfl) (.nil)))))))))) (.keep rfl (.keep rfl (.keep rfl (.keep rfl (.nil))))) rfl ?_
   refine jR 10 0 (Nat.le_of_ble_eq_true rfl) (Nat.le_of_ble_eq_true rfl) ?_
   refine jR 13 1 (Nat.le_of_ble_eq_true rfl) (Nat.le_of_ble_eq_true rfl) ?_
   refine jR 7 3 (Nat.le_of_ble_eq_true rfl) (Nat.le_of_ble_eq_true rfl) ?_
   exact J_q (J_b (ih (x104,x108,x100,x102))) rfl
 ·exact wD (hk (s95.1,s95.2.1,s95.2.2.1)) rfl
theorem zDZ.ok (a1:(List Pack)) (a3:(List Int)) (x7:(List (List ByteArray))) (q:Wd) (kn:((List (List ByteArray))×(List (List Int)))→Option (D×List Ent)) (hk:∀v:((List (List ByteArray))×(List (List Int))),J (q.g Tryz.prog 30 0 69) c30 (atI c30 31) (St.mk' [(10,rr 0 v.1),(11,rr 1 v.2)] [(0,rE 1 (eSl true 1 eStr) v.1),(1,rE 1 (eSl true 1 zC) v.2)]) (some v) kn):
  ∀s77:((List (List ByteArray))×(List (List Int))×(List Int)×(List (Option (List ByteArray)))×Int),J (q.g Tryz.prog 30 0 69) c30 (atI c30 244) (St.mk' [(0,sl 8 (Pack.enc false) a1),(2,sl 1 zC a3),(10,rr 0 s77.1),(11,rr 1 s77.2.1),(12,sl 1 zC s77.2.2.1),(30,rr 2 s77.2.2.2.1),(31,iv (x7.length:Int)),(32,iv s77.2.2.2.2)] [(0,rE 1 (eSl true 1 eStr) s77.1),(1,rE 1 (eSl true 1 zC) s77.2.1),(2,rE 1 (zGs (eSl true 1 eStr)) s77.2.2.2.1)]) (zDZ a1 a3 x7 s77) (Fl.go (fun r:((List (List ByteArray))×(List (List Int))×Int)=>some (.tu [so 1 (eSl true 1 eStr) r.1,so 1 (eSl true 1 zC) r.2.1,iv r.2.2],[])) kn):=by
 refine tV (fun g ih s77=>?_)
 unfold zEi
 refine J_d 488 [] [33] [(33,bv (decide (s77.2.2.2.2< (x7.length:Int))))] [] [] zB ?_
 refine zF 33 (fun h78=>?_) (fun h78=>?_)
 ·refine zA (fun x79 h80=>?_)
  refine zF2 (ix:=s77.2.2.2.2) (enc:=(zGs (eSl true 1 eStr))) 2 0 3 (zFY h80) rfl rfl (by kernel_rfl) ?_
  refine zEA [(0,sl 8 (Pack.enc false) a1),(2,sl 1 zC a3),(10,rr 0 s77.1),(11,rr 1 s77.2.1),(12,sl 1 zC s77.2.2.1),(30,rr 2 s77.2.2.2.1),(31,iv (x7.length:Int)),(32,iv s77.2.2.2.2),(33,bv true)] [(0,rE 1 (eSl true 1 eStr) s77.1),(1,rE 1 (eSl true 1 zC) s77.2.1),(2,.lent 1 (s77.2.2.2.1.map (zGs (eSl true 1 eStr))) s77.2.2.2.2.toNat 0 3 x79.length),(3,rE 1 eStr x79)] (by kernel_rfl) ?_
  refine J_g 7832 [] [(0,sl 8 (Pack.enc false) a1),(2,sl 1 zC a3),(10,rr 0 s77.1),(11,rr 1 s77.2.1),(12,sl 1 zC s77.2.2.1),(14,rr 3 x79),(30,rr 2 s77.2.2.2.1),(31,iv (x7.length:Int)),(32,iv s77.2.2.2.2)] [(0,rE 1 (eSl true 1 eStr) s77.1),(1,rE 1 (eSl true 1 zC) s77.2.1),(2,.lent 1 (s77.2.2.2.1.map (zGs (eSl true 1 eStr))) s77.2.2.2.2.toNat 0 3 x79.length),(3,rE 1 eStr x79)] (zD 0 (zIE (kk:=.i64) 35 52 1 2 (zGs (eSl true 1 eStr)) (.tmp 30) (.tmp 32) s77.2.2.2.2.toNat 0 3 x79.length (zFY h80)) (zD 1 (zIB 52 2 (.tmp 34) 1 (zGs (eSl true 1 eStr)) s77.2.2.2.1 s77.2.2.2.2.toNat 0 3 x79.length) zB)) ?_
  refine zLN (ix:=s77.2.2.2.2) (enc:=(eSl true 1 eStr)) 2 (zFY h80) rfl rfl ?_
  refine zEA [(0,sl 8 (Pack.enc false) a1),(2,sl 1 zC a3),(10,rr 0 s77.1),(11,rr 1 s77.2.1),(12,sl 1 zC s77.2.2.1),(14,rr 3 x79),(30,rr 2 s77.2.2.2.1),(31,iv (x7.length:Int)),(32,iv s77.2.2.2.2)] [(0,rE 1 (eSl true 1 eStr) s77.1),(1,rE 1 (eSl true 1 zC) s77.2.1),(2,rE 1 (zGs (eSl true 1 eStr)) (s77.2.2.2.1.set s77.2.2.2.2.toNat none)),(3,rE 1 eStr x79)] (by kernel_rfl) ?_
  refine zFr (σ':=St.mk' [(0,sl 8 (Pack.enc false) a1),(2,sl 1 zC a3),(10,rr 0 s77.1),(11,rr 1 s77.2.1),(12,sl 1 zC s77.2.2.1),(14,rr 3 x79),(30,rr 2 (s77.2.2.2.1.set s77.2.2.2.2.toNat none)),(31,iv (x7.length:Int)),(32,iv s77.2.2.2.2)] [(0,rE 1 (eSl true 1 eStr) s77.1),(1,rE 1 (eSl true 1 zC) s77.2.1),(2,rE 1 (zGs (eSl true 1 eStr)) (s77.2.2.2.1.set s77.2.2.2.2.toNat none)),(3,rE 1 eStr x79)]) (by simp only [rr,List.length_set]) ?_
  refine uP (K0:=(fun r:((List (List ByteArray))×(List (List Int))×Int)=>some (.tu [so 1 (eSl true 1 eStr) r.1,so 1 (eSl true 1 zC) r.2.1,iv r.2.2],[]))) (fun _=>rfl) (zDg.ok a1 a3 x7 s77 q _ (fun v110=>J_j ?_) (s77.1,s77.2.1,s77.2.2.1,x79))
  refine J_d 1959 [] [32] [(32,iv (w64 (s77.2.2.2.2+1)))] [] [] zB ?_
  exact J_q (J_b (ih (v110.1,v110.2.1,v110.2.2,s77.2.2.2.1.set s77.2.2.2.2.toNat none,w64 (s77.2.2.2.2+1)))) rfl
 ·exact wD (hk (s77.1,s77.2.1)) rfl
theorem zDb.ok (a1:(List Pack)) (a2:(List Int)) (a3:(List Int)):Ok Tryz.prog 30 [sl 8 (Pack.enc false) a1,sl 1 zC a2,sl 1 zC a3] [] ((zDb a1 a2 a3).map fun r=>(.tu [so 1 (eSl true 1 eStr) r.1,so 1 (eSl true 1 zC) r.2.1,iv r.2.2],[])):=by
 refine zG c30 Tryz.f30 0 69 (fun q=>?_)
 unfold zDb
 refine J_d 2 [] [] [] [] [] zB ?_
 refine zA (fun x4 h5=>?_)
 refine J_g 12 [] [(0,sl 8 (Pack.enc false) a1),(1,sl 1 zC a2),(2,sl 1 zC a3),(9,iv x4)] [] (zD 3 (vG [(.tmp 17),(.tmp 18),(.tmp 19)] [28,23,23] (zBS.ok a1 a2 a3) h5) zB) ?_
 refine J_d 26 [] [22] [(22,bv (x4 !=0))] [] [] zB ?_
 refine zF 22 (fun h6=>?_) (fun h6=>?_)
 ·refine J_g 108 [] [(6,nv),(7,nv),(8,iv x4)] [] zB ?_
  exact zEl (ds:=[nv,nv,iv x4]) (ds':=[so 1 (eSl true 1 eStr) ([]:List (List ByteArray)),so 1 (eSl true 1 zC) ([]:List (List Int)),iv x4]) (.cons (.cell (.nilsl true 1 (.nil))) (.cons (.cell (.nilsl true 1 (.nil))) (.cons (.cell (.keep rfl (.nil))) (.nil) (by decide)) (by decide)) (by decide)) rfl
 ·refine J_d 14 [] [9,10,11,12,22] [(10,rr 0 ([]:List (List ByteArray))),(11,rr 1 ([]:List (List Int))),(12,sl 1 zC a2)] [0,1] [(0,rE 1 (eSl false 1 eStr) ([]:List (List ByteArray))),(1,rE 1 (eSl false 1 zC) ([]:List (List Int)))] (zD 0 (zEa 35 52 1 0 (eSl false 1 eStr) ([]:List (List ByteArray)) [] [] []) (zD 1 (zEa 43 23 1 1 (eSl false 1 zC) ([]:List (List Int)) [] [] []) zB)) ?_
  refine zA (fun x7 h8=>?_)
  refine J_d 60 [] [1,30,31,32] [(30,rr 2 x7),(31,iv (x7.length:Int)),(32,iv 0)] [2] [(2,rE 1 (eSl true 1 eStr) x7)] (zD 3 (vC («as»:=[sl 8 (Pack.enc false) a1,sl 1 zC a2,sl 1 zC a3]) [(.tmp 27),(.tmp 28),(.tmp 29)] [28,23,23] false [] [] (.cons (.same rfl) (.cons (.same rfl) (.cons (.same rfl) (.nil)))) (zAJ.ok a1 a2 a3) h8 (.own 2)) zB) ?_
  refine zEA [(0,sl 8 (Pack.enc false) a1),(2,sl 1 zC a3),(10,rr 0 ([]:List (List ByteArray))),(11,rr 1 ([]:List (List Int))),(12,sl 1 zC a2),(30,rr 2 x7),(31,iv (x7.length:Int)),(32,iv 0)] [(0,rE 1 (eSl false 1 eStr) ([]:List (List ByteArray))),(1,rE 1 (eSl false 1 zC) ([]:List (List Int))),(2,rE 1 (eSl true 1 eStr) x7)] (by kernel_rfl) ?_
  refine zFr (σ':=St.mk' [(0,sl 8 (Pack.enc false) a1),(2,sl 1 zC a3),(10,rr 0 ([]:List (List ByteArray))),(11,rr 1 ([]:List (List Int))),(12,sl 1 zC a2),(30,rr 2 (x7.map some)),(31,iv (x7.length:Int)),(32,iv 0)] [(0,rE 1 (eSl false 1 eStr) ([]:List (List ByteArray))),(1,rE 1 (eSl false 1 zC) ([]:List (List Int))),(2,rE 1 (zGs (eSl true 1 eStr)) (x7.map some))]) (by simp only [rE,rr,zJu,List.length_map]) ?_
  refine uP (K0:=(fun r:((List (List ByteArray))×(List (List Int))×Int)=>some (.tu [so 1 (eSl true 1 eStr) r.1,so 1 (eSl true 1 zC) r.2.1,iv r.2.2],[]))) (fun _=>rfl) (zDZ.ok a1 a3 x7 q _ (fun v111=>J_j ?_) (([]:List (List ByteArray)),([]:List (List Int)),a2,(x7.map some),0))
  refine J_g 62 [] [(6,rr 0 v111.1),(7,rr 1 v111.2),(8,iv 0)] [(0,rE 1 (eSl true 1 eStr) v111.1),(1,rE 1 (eSl true 1 zC) v111.2)] zB ?_
  exact zEl (ds:=[rr 0 v111.1,rr 1 v111.2,iv 0]) (ds':=[so 1 (eSl true 1 eStr) v111.1,so 1 (eSl true 1 zC) v111.2,iv 0]) (.cons (.cell (.move (.head _) (List.length_map _) (by decide) (.nil))) (.cons (.cell (.move (.tail _ (.head _)) (List.length_map _) (by decide) (.nil))) (.cons (.cell (.keep rfl (.nil))) (.nil) (by decide)) (by decide)) (by decide)) rfl
noncomputable def c10:Code:=(Tryz.f10.body).getD .skip
theorem jC.ok (a1:(List Pack)) (a2:(List Int)) (a3:(List Int)):Ok Tryz.prog 10 [sl 8 (Pack.enc false) a1,sl 1 zC a2,sl 1 zC a3] [] ((jC a1 a2 a3).map fun r=>(.ag (wQ.enc r),[])):=by
 refine zG c10 Tryz.f10 0 28 (fun q=>?_)
 unfold jC
 refine J_d 2 [(0,0)] [6] [(6,pp 0)] [0] [(0,.box [iv 0,iv 0])] zB ?_
 refine zA (fun x4 h5=>?_)
 refine J_g 12 [] [(0,sl 8 (Pack.enc false) a1),(1,sl 1 zC a2),(2,sl 1 zC a3),(6,pp 0),(9,iv x4.2.2)] [(0,.box [iv 0,iv 0])] (zD 3 (vC («as»:=[sl 8 (Pack.enc false) a1,sl 1 zC a2,sl 1 zC a3]) [(.tmp 11),(.tmp 12),(.tmp 13)] [28,23,23] false [] [] (.cons (.same rfl) (.cons (.same rfl) (.cons (.same rfl) (.nil)))) (zDb.ok a1 a2 a3) h5 (.tu (.cons (.own 1) (.cons (.own 2) (.cons (.same rfl rfl) (.nil)))))) zB) ?_
 refine J_d 26 [] [19] [(19,bv (x4.2.2 !=0))] [] [] zB ?_
 refine zF 19 (fun h6=>?_) (fun h6=>?_)
 ·refine J_g 108 [] [(6,pp 0)] [(0,.box [iv x4.2.2,iv 0])] zB ?_
  exact zQ rfl
 ·refine zA (fun x7 h8=>?_)
  refine J_g 14 [] [(6,pp 0)] [(0,.box [iv 0,iv (x7.length:Int)])] (zD 3 (vC («as»:=[sl 8 (Pack.enc false) a1,sl 1 zC a2,sl 1 zC a3]) [(.tmp 22),(.tmp 23),(.tmp 24)] [28,23,23] false [] [] (.cons (.same rfl) (.cons (.same rfl) (.cons (.same rfl) (.nil)))) (zAJ.ok a1 a2 a3) h8 (.own 1)) zB) ?_
  exact zQ rfl
noncomputable def c11:Code:=(Tryz.f11.body).getD .skip
theorem kU.ok (a1:wQ) (a2:wQ):Ok Tryz.prog 11 [.ag (wQ.enc a1),.ag (wQ.enc a2)] [] ((kU a1 a2).map fun r=>(bv r,[])):=by
 refine zG c11 Tryz.f11 0 15 (fun q=>?_)
 unfold kU
 refine J_g 2 [(0,0),(1,1)] [(2,pp 0),(3,pp 1)] [(0,.box (wQ.enc a1)),(1,.box (wQ.enc a2))] zB ?_
 refine J_d 12 [] [9] [(9,bv (a1.Code !=a2.Code))] [] [] zB ?_
 refine zF 9 (fun h3=>?_) (fun h3=>?_)
 ·refine J_g 52 [] [(4,bv false)] [] zB ?_
  exact zQ rfl
 ·refine J_g 28 [] [(14,bv (a1.Value !=a2.Value))] [] zB ?_
  refine zF 14 (fun h4=>?_) (fun h4=>?_)
  ·refine J_g 116 [] [(4,bv false)] [] zB ?_
   exact zQ rfl
  ·refine J_g 30 [] [(4,bv true)] [] zB ?_
   exact zQ rfl
noncomputable def c67:Code:=(Tryz.f67.body).getD .skip
theorem uV.ok (a1:Version) (a2:Version):Ok Tryz.prog 67 [.ag (Version.enc a1),.ag (Version.enc a2)] [] ((uV a1 a2).map fun r=>(bv r,[])):=by
 refine zG c67 Tryz.f67 0 20 (fun q=>?_)
 unfold uV
 refine J_g 2 [(0,0),(1,1)] [(2,pp 0),(3,pp 1)] [(0,.box (Version.enc a1)),(1,.box (Version.enc a2))] zB ?_
 refine J_d 12 [] [9] [(9,bv (a1.A !=a2.A))] [] [] zB ?_
 refine zF 9 (fun h3=>?_) (fun h3=>?_)
 ·refine J_g 52 [] [(4,bv false)] [] zB ?_
  exact zQ rfl
 ·refine J_d 28 [] [9,14] [(14,bv (a1.B !=a2.B))] [] [] zB ?_
  refine zF 14 (fun h4=>?_) (fun h4=>?_)
  ·refine J_g 116 [] [(4,bv false)] [] zB ?_
   exact zQ rfl
  ·refine J_g 60 [] [(19,bv (a1.C !=a2.C))] [] zB ?_
   refine zF 19 (fun h5=>?_) (fun h5=>?_)
   ·refine J_g 244 [] [(4,bv false)] [] zB ?_
    exact zQ rfl
   ·refine J_g 62 [] [(4,bv true)] [] zB ?_
    exact zQ rfl
noncomputable def c68:Code:=(Tryz.f68.body).getD .skip
theorem zBz.ok (a1:(List ByteArray)) (a2:(List ByteArray)) (q:Wd) (kn:Unit→Option (D×List Ent)) (hk:∀v:Unit,J (q.g Tryz.prog 68 0 26) c68 (atI c68 15) (St.mk' [] []) (some v) kn):
  ∀s10:Int,J (q.g Tryz.prog 68 0 26) c68 (atI c68 116) (St.mk' [(0,sl 1 eStr a1),(1,sl 1 eStr a2),(5,iv s10)] []) (zBz a1 a2 s10) (Fl.go (fun r:Bool=>some (bv r,[])) kn):=by
 refine tV (fun g ih s10=>?_)
 unfold zC9
 refine J_d 464 [] [14] [(14,bv (decide (s10< (a1.length:Int))))] [] [] zB ?_
 refine zF 14 (fun h11=>?_) (fun h11=>?_)
 ·refine zA (fun x12 h13=>?_)
  refine zA (fun x14 h15=>?_)
  refine J_d 1864 [] [14,25] [(25,bv (!(seq x12 x14)))] [] [] (zD 2 (tT (kk:=.i64) 52 9 1 eStr (.tmp 17) (.tmp 18) h13) (zD 6 (tT (kk:=.i64) 52 9 1 eStr (.tmp 21) (.tmp 22) h15) zB)) ?_
  refine zF 25 (fun h16=>?_) (fun h16=>?_)
  ·refine J_g 7460 [] [(4,bv false)] [] zB ?_
   exact zQ rfl
  ·refine J_d 467 [] [5,25] [(5,iv (w64 (s10+1)))] [] [] zB ?_
   exact J_q (J_b (ih (w64 (s10+1)))) rfl
 ·exact wD (hk ()) rfl
theorem kE.ok (a1:(List ByteArray)) (a2:(List ByteArray)):Ok Tryz.prog 68 [sl 1 eStr a1,sl 1 eStr a2] [] ((kE a1 a2).map fun r=>(bv r,[])):=by
 refine zG c68 Tryz.f68 0 26 (fun q=>?_)
 unfold kE
 refine J_g 2 [] [(0,sl 1 eStr a1),(1,sl 1 eStr a2)] [] zB ?_
 refine J_d 12 [] [10] [(10,bv ((a1.length:Int) !=(a2.length:Int)))] [] [] zB ?_
 refine zF 10 (fun h3=>?_) (fun h3=>?_)
 ·refine J_g 52 [] [(4,bv false)] [] zB ?_
  exact zQ rfl
 ·refine J_d 28 [] [5,10] [(5,iv 0)] [] [] zB ?_
  refine uP (K0:=(fun r:Bool=>some (bv r,[]))) (fun _=>rfl) (zBz.ok a1 a2 q _ (fun v17=>J_j ?_) 0)
  refine J_g 30 [] [(4,bv true)] [] zB ?_
  exact zQ rfl
noncomputable def zQe:Code:=(Tryz.f114.body).getD .skip
theorem zDR.ok (a1:Term) (a2:Term):Ok Tryz.prog 114 [.ag (Term.enc a1),.ag (Term.enc a2)] [] ((zDR a1 a2).map fun r=>(bv r,[])):=by
 refine zG zQe Tryz.f114 0 22 (fun q=>?_)
 unfold zDR
 refine J_g 2 [(0,0),(1,1)] [(2,pp 0),(3,pp 1)] [(0,.box (Term.enc a1)),(1,.box (Term.enc a2))] zB ?_
 refine J_d 12 [] [9] [(9,bv (!(seq a1.Name a2.Name)))] [] [] zB ?_
 refine zF 9 (fun h3=>?_) (fun h3=>?_)
 ·refine J_g 52 [] [(4,bv false)] [] zB ?_
  exact zQ rfl
 ·refine zA (fun x4 h5=>?_)
  refine J_d 28 [] [9,15] [(15,bv (!x4))] [] [] (zD 4 (vG [(.tmp 11),(.tmp 13)] [59,59] (uV.ok a1.Low a2.Low) h5) zB) ?_
  refine zF 15 (fun h6=>?_) (fun h6=>?_)
  ·refine J_g 116 [] [(4,bv false)] [] zB ?_
   exact zQ rfl
  ·refine zA (fun x7 h8=>?_)
   refine J_g 60 [] [(21,bv (!x7))] [] (zD 4 (vG [(.tmp 17),(.tmp 19)] [59,59] (uV.ok a1.High a2.High) h8) zB) ?_
   refine zF 21 (fun h9=>?_) (fun h9=>?_)
   ·refine J_g 244 [] [(4,bv false)] [] zB ?_
    exact zQ rfl
   ·refine J_g 62 [] [(4,bv true)] [] zB ?_
    exact zQ rfl
noncomputable def c70:Code:=(Tryz.f70.body).getD .skip
theorem zCE.ok (a1:(List Term)) (a2:(List Term)) (q:Wd) (kn:Unit→Option (D×List Ent)) (hk:∀v:Unit,J (q.g Tryz.prog 70 0 27) c70 (atI c70 15) (St.mk' [] []) (some v) kn):
  ∀s12:Int,J (q.g Tryz.prog 70 0 27) c70 (atI c70 116) (St.mk' [(0,sl 7 Term.enc a1),(1,sl 7 Term.enc a2),(5,iv s12)] []) (zCE a1 a2 s12) (Fl.go (fun r:Bool=>some (bv r,[])) kn):=by
 refine tV (fun g ih s12=>?_)
 unfold zDI
 refine J_d 464 [] [14] [(14,bv (decide (s12< (a1.length:Int))))] [] [] zB ?_
 refine zF 14 (fun h13=>?_) (fun h13=>?_)
 ·refine zA (fun x14 h15=>?_)
  refine zA (fun x16 h17=>?_)
  refine zA (fun x18 h19=>?_)
  refine J_d 1864 [] [14,26] [(26,bv (!x18))] [] [] (zD 2 (tT (kk:=.i64) 61 102 7 Term.enc (.tmp 17) (.tmp 18) h15) (zD 6 (tT (kk:=.i64) 61 102 7 Term.enc (.tmp 21) (.tmp 22) h17) (zD 8 (vG [(.tmp 20),(.tmp 24)] [102,102] (zDR.ok x14 x16) h19) zB))) ?_
  refine zF 26 (fun h20=>?_) (fun h20=>?_)
  ·refine J_g 7460 [] [(4,bv false)] [] zB ?_
   exact zQ rfl
  ·refine J_d 467 [] [5,26] [(5,iv (w64 (s12+1)))] [] [] zB ?_
   exact J_q (J_b (ih (w64 (s12+1)))) rfl
 ·exact wD (hk ()) rfl
theorem zAM.ok (a1:(List Term)) (a2:(List Term)):Ok Tryz.prog 70 [sl 7 Term.enc a1,sl 7 Term.enc a2] [] ((zAM a1 a2).map fun r=>(bv r,[])):=by
 refine zG c70 Tryz.f70 0 27 (fun q=>?_)
 unfold zAM
 refine J_g 2 [] [(0,sl 7 Term.enc a1),(1,sl 7 Term.enc a2)] [] zB ?_
 refine J_d 12 [] [10] [(10,bv ((a1.length:Int) !=(a2.length:Int)))] [] [] zB ?_
 refine zF 10 (fun h3=>?_) (fun h3=>?_)
 ·refine J_g 52 [] [(4,bv false)] [] zB ?_
  exact zQ rfl
 ·refine J_d 28 [] [5,10] [(5,iv 0)] [] [] zB ?_
  refine uP (K0:=(fun r:Bool=>some (bv r,[]))) (fun _=>rfl) (zCE.ok a1 a2 q _ (fun v21=>J_j ?_) 0)
  refine J_g 30 [] [(4,bv true)] [] zB ?_
  exact zQ rfl
noncomputable def c69:Code:=(Tryz.f69.body).getD .skip
theorem zCi.ok (a1:(List (List Term))) (a2:(List (List Term))) (q:Wd) (kn:Unit→Option (D×List Ent)) (hk:∀v:Unit,J (q.g Tryz.prog 69 0 27) c69 (atI c69 15) (St.mk' [] []) (some v) kn):
  ∀s12:Int,J (q.g Tryz.prog 69 0 27) c69 (atI c69 116) (St.mk' [(0,sl 1 (eSl false 7 Term.enc) a1),(1,sl 1 (eSl false 7 Term.enc) a2),(5,iv s12)] []) (zCi a1 a2 s12) (Fl.go (fun r:Bool=>some (bv r,[])) kn):=by
 refine tV (fun g ih s12=>?_)
 unfold zDv
 refine J_d 464 [] [14] [(14,bv (decide (s12< (a1.length:Int))))] [] [] zB ?_
 refine zF 14 (fun h13=>?_) (fun h13=>?_)
 ·refine zA (fun x14 h15=>?_)
  refine zA (fun x16 h17=>?_)
  refine zA (fun x18 h19=>?_)
  refine J_d 1864 [] [14,26] [(26,bv (!x18))] [] [] (zD 2 (tT (kk:=.i64) 60 61 1 (eSl false 7 Term.enc) (.tmp 17) (.tmp 18) h15) (zD 6 (tT (kk:=.i64) 60 61 1 (eSl false 7 Term.enc) (.tmp 21) (.tmp 22) h17) (zD 8 (vG [(.tmp 20),(.tmp 24)] [61,61] (zAM.ok x14 x16) h19) zB))) ?_
  refine zF 26 (fun h20=>?_) (fun h20=>?_)
  ·refine J_g 7460 [] [(4,bv false)] [] zB ?_
   exact zQ rfl
  ·refine J_d 467 [] [5,26] [(5,iv (w64 (s12+1)))] [] [] zB ?_
   exact J_q (J_b (ih (w64 (s12+1)))) rfl
 ·exact wD (hk ()) rfl
theorem zBV.ok (a1:(List (List Term))) (a2:(List (List Term))):Ok Tryz.prog 69 [sl 1 (eSl false 7 Term.enc) a1,sl 1 (eSl false 7 Term.enc) a2] [] ((zBV a1 a2).map fun r=>(bv r,[])):=by
 refine zG c69 Tryz.f69 0 27 (fun q=>?_)
 unfold zBV
 refine J_g 2 [] [(0,sl 1 (eSl false 7 Term.enc) a1),(1,sl 1 (eSl false 7 Term.enc) a2)] [] zB ?_
 refine J_d 12 [] [10] [(10,bv ((a1.length:Int) !=(a2.length:Int)))] [] [] zB ?_
 refine zF 10 (fun h3=>?_) (fun h3=>?_)
 ·refine J_g 52 [] [(4,bv false)] [] zB ?_
  exact zQ rfl
 ·refine J_d 28 [] [5,10] [(5,iv 0)] [] [] zB ?_
  refine uP (K0:=(fun r:Bool=>some (bv r,[]))) (fun _=>rfl) (zCi.ok a1 a2 q _ (fun v21=>J_j ?_) 0)
  refine J_g 30 [] [(4,bv true)] [] zB ?_
  exact zQ rfl
noncomputable def c32:Code:=(Tryz.f32.body).getD .skip
theorem zDW.ok (a1:Pack) (a2:Pack):Ok Tryz.prog 32 [.ag (Pack.enc false a1),.ag (Pack.enc false a2)] [] ((zDW a1 a2).map fun r=>(bv r,[])):=by
 refine zG c32 Tryz.f32 0 39 (fun q=>?_)
 unfold zDW
 refine J_g 2 [(0,0),(1,1)] [(2,pp 0),(3,pp 1)] [(0,.box (Pack.enc false a1)),(1,.box (Pack.enc false a2))] zB ?_
 refine J_d 12 [] [9] [(9,bv (!(seq a1.Name a2.Name)))] [] [] zB ?_
 refine zF 9 (fun h3=>?_) (fun h3=>?_)
 ·refine J_g 52 [] [(4,bv false)] [] zB ?_
  exact zQ rfl
 ·refine zA (fun x4 h5=>?_)
  refine J_d 28 [] [9,15] [(15,bv (!x4))] [] [] (zD 4 (vG [(.tmp 11),(.tmp 13)] [59,59] (uV.ok a1.Version a2.Version) h5) zB) ?_
  refine zF 15 (fun h6=>?_) (fun h6=>?_)
  ·refine J_g 116 [] [(4,bv false)] [] zB ?_
   exact zQ rfl
  ·refine J_d 60 [] [15,20] [(20,bv (a1.Size !=a2.Size))] [] [] zB ?_
   refine zF 20 (fun h7=>?_) (fun h7=>?_)
   ·refine J_g 244 [] [(4,bv false)] [] zB ?_
    exact zQ rfl
   ·refine zA (fun x8 h9=>?_)
    refine J_d 124 [] [20,26] [(26,bv (!x8))] [] [] (zD 4 (vG [(.tmp 22),(.tmp 24)] [52,52] (kE.ok a1.Provides a2.Provides) h9) zB) ?_
    refine zF 26 (fun h10=>?_) (fun h10=>?_)
    ·refine J_g 500 [] [(4,bv false)] [] zB ?_
     exact zQ rfl
    ·refine zA (fun x11 h12=>?_)
     refine J_d 252 [] [26,32] [(32,bv (!x11))] [] [] (zD 4 (vG [(.tmp 28),(.tmp 30)] [60,60] (zBV.ok a1.Needs a2.Needs) h12) zB) ?_
     refine zF 32 (fun h13=>?_) (fun h13=>?_)
     ·refine J_g 1012 [] [(4,bv false)] [] zB ?_
      exact zQ rfl
     ·refine zA (fun x14 h15=>?_)
      refine J_g 508 [] [(38,bv (!x14))] [] (zD 4 (vG [(.tmp 34),(.tmp 36)] [61,61] (zAM.ok a1.Bars a2.Bars) h15) zB) ?_
      refine zF 38 (fun h16=>?_) (fun h16=>?_)
      ·refine J_g 2036 [] [(4,bv false)] [] zB ?_
       exact zQ rfl
      ·refine J_g 510 [] [(4,bv true)] [] zB ?_
       exact zQ rfl
noncomputable def c12:Code:=(Tryz.f12.body).getD .skip
theorem zCT.ok (a1:(List Pack)) (a2:(List Pack)) (q:Wd) (kn:Unit→Option (D×List Ent)) (hk:∀v:Unit,J (q.g Tryz.prog 12 0 27) c12 (atI c12 15) (St.mk' [] []) (some v) kn):
  ∀s12:Int,J (q.g Tryz.prog 12 0 27) c12 (atI c12 116) (St.mk' [(0,sl 8 (Pack.enc false) a1),(1,sl 8 (Pack.enc false) a2),(5,iv s12)] []) (zCT a1 a2 s12) (Fl.go (fun r:Bool=>some (bv r,[])) kn):=by
 refine tV (fun g ih s12=>?_)
 unfold zDJ
 refine J_d 464 [] [14] [(14,bv (decide (s12< (a1.length:Int))))] [] [] zB ?_
 refine zF 14 (fun h13=>?_) (fun h13=>?_)
 ·refine zA (fun x14 h15=>?_)
  refine zA (fun x16 h17=>?_)
  refine zA (fun x18 h19=>?_)
  refine J_d 1864 [] [14,26] [(26,bv (!x18))] [] [] (zD 2 (tT (kk:=.i64) 28 63 8 (Pack.enc false) (.tmp 17) (.tmp 18) h15) (zD 6 (tT (kk:=.i64) 28 63 8 (Pack.enc false) (.tmp 21) (.tmp 22) h17) (zD 8 (vG [(.tmp 20),(.tmp 24)] [63,63] (zDW.ok x14 x16) h19) zB))) ?_
  refine zF 26 (fun h20=>?_) (fun h20=>?_)
  ·refine J_g 7460 [] [(4,bv false)] [] zB ?_
   exact zQ rfl
  ·refine J_d 467 [] [5,26] [(5,iv (w64 (s12+1)))] [] [] zB ?_
   exact J_q (J_b (ih (w64 (s12+1)))) rfl
 ·exact wD (hk ()) rfl
theorem kR.ok (a1:(List Pack)) (a2:(List Pack)):Ok Tryz.prog 12 [sl 8 (Pack.enc false) a1,sl 8 (Pack.enc false) a2] [] ((kR a1 a2).map fun r=>(bv r,[])):=by
 refine zG c12 Tryz.f12 0 27 (fun q=>?_)
 unfold kR
 refine J_g 2 [] [(0,sl 8 (Pack.enc false) a1),(1,sl 8 (Pack.enc false) a2)] [] zB ?_
 refine J_d 12 [] [10] [(10,bv ((a1.length:Int) !=(a2.length:Int)))] [] [] zB ?_
 refine zF 10 (fun h3=>?_) (fun h3=>?_)
 ·refine J_g 52 [] [(4,bv false)] [] zB ?_
  exact zQ rfl
 ·refine J_d 28 [] [5,10] [(5,iv 0)] [] [] zB ?_
  refine uP (K0:=(fun r:Bool=>some (bv r,[]))) (fun _=>rfl) (zCT.ok a1 a2 q _ (fun v21=>J_j ?_) 0)
  refine J_g 30 [] [(4,bv true)] [] zB ?_
  exact zQ rfl
noncomputable def c13:Code:=(Tryz.f13.body).getD .skip
theorem zCs.ok (a1:(List Int)) (a2:(List Int)) (q:Wd) (kn:Unit→Option (D×List Ent)) (hk:∀v:Unit,J (q.g Tryz.prog 13 0 26) c13 (atI c13 15) (St.mk' [] []) (some v) kn):
  ∀s10:Int,J (q.g Tryz.prog 13 0 26) c13 (atI c13 116) (St.mk' [(0,sl 1 zC a1),(1,sl 1 zC a2),(5,iv s10)] []) (zCs a1 a2 s10) (Fl.go (fun r:Bool=>some (bv r,[])) kn):=by
 refine tV (fun g ih s10=>?_)
 unfold zDy
 refine J_d 464 [] [14] [(14,bv (decide (s10< (a1.length:Int))))] [] [] zB ?_
 refine zF 14 (fun h11=>?_) (fun h11=>?_)
 ·refine zA (fun x12 h13=>?_)
  refine zA (fun x14 h15=>?_)
  refine J_d 1864 [] [14,25] [(25,bv (x12 !=x14))] [] [] (zD 2 (tT (kk:=.i64) 23 2 1 zC (.tmp 17) (.tmp 18) h13) (zD 6 (tT (kk:=.i64) 23 2 1 zC (.tmp 21) (.tmp 22) h15) zB)) ?_
  refine zF 25 (fun h16=>?_) (fun h16=>?_)
  ·refine J_g 7460 [] [(4,bv false)] [] zB ?_
   exact zQ rfl
  ·refine J_d 467 [] [5,25] [(5,iv (w64 (s10+1)))] [] [] zB ?_
   exact J_q (J_b (ih (w64 (s10+1)))) rfl
 ·exact wD (hk ()) rfl
theorem wS.ok (a1:(List Int)) (a2:(List Int)):Ok Tryz.prog 13 [sl 1 zC a1,sl 1 zC a2] [] ((wS a1 a2).map fun r=>(bv r,[])):=by
 refine zG c13 Tryz.f13 0 26 (fun q=>?_)
 unfold wS
 refine J_g 2 [] [(0,sl 1 zC a1),(1,sl 1 zC a2)] [] zB ?_
 refine J_d 12 [] [10] [(10,bv ((a1.length:Int) !=(a2.length:Int)))] [] [] zB ?_
 refine zF 10 (fun h3=>?_) (fun h3=>?_)
 ·refine J_g 52 [] [(4,bv false)] [] zB ?_
  exact zQ rfl
 ·refine J_d 28 [] [5,10] [(5,iv 0)] [] [] zB ?_
  refine uP (K0:=(fun r:Bool=>some (bv r,[]))) (fun _=>rfl) (zCs.ok a1 a2 q _ (fun v17=>J_j ?_) 0)
  refine J_g 30 [] [(4,bv true)] [] zB ?_
  exact zQ rfl
noncomputable def c3:Code:=(Tryz.f3.body).getD .skip
theorem vV.ok (a1:(List Pack)) (a2:(List Int)) (a3:(List Int)):Ok Tryz.prog 3 [sl 8 (Pack.enc false) a1,sl 1 zC a2,sl 1 zC a3] [] ((vV a1 a2 a3).map fun r=>(bv r,[])):=by
 refine zG c3 Tryz.f3 0 60 (fun q=>?_)
 unfold vV
 refine J_g 2 [] [(0,sl 8 (Pack.enc false) a1),(1,sl 1 zC a2),(2,sl 1 zC a3)] [] zB ?_
 refine J_d 12 [] [15] [(15,bv (decide ((a2.length:Int)>1048576)))] [] [] zB ?_
 refine zF 15 (fun h4=>?_) (fun h4=>?_)
 ·refine J_g 52 [] [(6,bv true)] [] zB ?_
  exact zQ rfl
 ·refine J_d 28 [] [15,18] [(18,bv (decide ((a3.length:Int)>1048576)))] [] [] zB ?_
  refine zF 18 (fun h5=>?_) (fun h5=>?_)
  ·refine J_g 116 [] [(6,bv true)] [] zB ?_
   exact zQ rfl
  ·refine J_d 30 [] [7,18] [(7,iv 1048576)] [] [] zB ?_
   refine zA (fun x6 h7=>?_)
   refine J_g 62 [] [(0,sl 8 (Pack.enc false) a1),(1,sl 1 zC a2),(2,sl 1 zC a3),(7,iv x6)] [] (zD 2 (vG [(.tmp 19),(.tmp 20)] [22,3] (kP.ok a1 1048576) h7) zB) ?_
   refine J_d 252 [] [7,23] [(23,bv (decide (x6<0)))] [] [] zB ?_
   refine zF 23 (fun h8=>?_) (fun h8=>?_)
   ·refine J_g 1012 [] [(6,bv true)] [] zB ?_
    exact zQ rfl
   ·refine zA (fun x9 h10=>?_)
    refine zA (fun x11 h12=>?_)
    refine zA (fun x13 h14=>?_)
    refine zA (fun x15 h16=>?_)
    refine J_d 254 [(7,3)] [8,23] [(8,pp 3)] [3] [(3,.box (wQ.enc x15))] (zD 1 (vC («as»:=[sl 8 (Pack.enc false) a1]) [(.tmp 24)] [22] false [] [] (.cons (.same rfl) (.nil)) (xO.ok a1) h10 (.own 0)) (zD 3 (vC («as»:=[sl 1 zC a2]) [(.tmp 26)] [23] false [] [] (.cons (.same rfl) (.nil)) (zH.ok a2) h12 (.own 1)) (zD 5 (vC («as»:=[sl 1 zC a3]) [(.tmp 28)] [23] false [] [] (.cons (.same rfl) (.nil)) (zH.ok a3) h14 (.own 2)) (zD 6 (vC («as»:=[rr 0 x9,rr 1 x11,rr 2 x13]) [(.tmp 25),(.tmp 27),(.tmp 29)] [28,23,23] true [(0,rE 8 (Pack.enc true) x9),(1,rE 1 zC x11),(2,rE 1 zC x13)] [] (.cons (zBr (.head _) (Pack.ro true) rfl) (.cons (zBr (.tail _ (.head _)) (fun _=>rfl) rfl) (.cons (zBr (.tail _ (.tail _ (.head _))) (fun _=>rfl) rfl) (.nil)))) (jD.ok x9 x11 x13) h16 (.ag (.cons (.same rfl rfl) (.cons (.same rfl rfl) (.nil)))) (hbor:=fun _=>⟨fhN,(zGr (wQ.fl _))⟩)) zB)))) ?_
    refine zA (fun x17 h18=>?_)
    refine J_d 510 [] [9] [(9,rr 4 x17)] [4] [(4,rE 8 (Pack.enc true) x17)] (zD 1 (vC («as»:=[sl 8 (Pack.enc false) a1]) [(.tmp 31)] [22] false [] [] (.cons (.same rfl) (.nil)) (xO.ok a1) h18 (.own 4)) zB) ?_
    refine zA (fun x19 h20=>?_)
    refine J_d 1022 [] [10] [(10,rr 5 x19)] [5] [(5,rE 1 zC x19)] (zD 1 (vC («as»:=[sl 1 zC a2]) [(.tmp 33)] [23] false [] [] (.cons (.same rfl) (.nil)) (zH.ok a2) h20 (.own 5)) zB) ?_
    refine zA (fun x21 h22=>?_)
    refine J_d 2046 [] [11] [(11,rr 6 x21)] [6] [(6,rE 1 zC x21)] (zD 1 (vC («as»:=[sl 1 zC a3]) [(.tmp 35)] [23] false [] [] (.cons (.same rfl) (.nil)) (zH.ok a3) h22 (.own 6)) zB) ?_
    refine zA (fun x23 h24=>?_)
    refine J_d 4094 [(4,7)] [12] [(12,pp 7)] [7] [(7,.box (wQ.enc x23))] (zD 3 (vC («as»:=[rr 4 x17,rr 5 x19,rr 6 x21]) [(.tmp 37),(.tmp 38),(.tmp 39)] [28,23,23] true [(4,rE 8 (Pack.enc true) x17),(5,rE 1 zC x19),(6,rE 1 zC x21)] [] (.cons (zBr (.head _) (Pack.ro true) rfl) (.cons (zBr (.tail _ (.head _)) (fun _=>rfl) rfl) (.cons (zBr (.tail _ (.tail _ (.head _))) (fun _=>rfl) rfl) (.nil)))) (jC.ok x17 x19 x21) h24 (.ag (.cons (.same rfl rfl) (.cons (.same rfl rfl) (.nil)))) (hbor:=fun _=>⟨fhN,(zGr (wQ.fl _))⟩)) zB) ?_
    refine zA (fun x25 h26=>?_)
    refine J_d 16380 [] [8,12,44] [(44,bv (!x25))] [3,7] [] (zD 2 (vG [(.tmp 41),(.tmp 42)] [26,26] (kU.ok x23 x15) h26) zB) ?_
    refine zF 44 (fun h27=>?_) (fun h27=>?_)
    ·refine J_g 65524 [] [(6,bv false)] [] zB ?_
     exact zQ rfl
    ·refine zA (fun x28 h29=>?_)
     refine zA (fun x30 h31=>?_)
     refine J_d 32764 [] [0,9,44,49] [(49,bv (!x30))] [4] [] (zD 2 (vC («as»:=[sl 8 (Pack.enc false) a1]) [(.tmp 46)] [22] false [] [] (.cons (.same rfl) (.nil)) (xO.ok a1) h29 (.own 7)) (zD 3 (vC («as»:=[rr 4 x17,rr 7 x28]) [(.tmp 45),(.tmp 47)] [28,28] true [(4,rE 8 (Pack.enc true) x17),(7,rE 8 (Pack.enc true) x28)] [] (.cons (zBr (.head _) (Pack.ro true) rfl) (.cons (zBr (.tail _ (.head _)) (Pack.ro true) rfl) (.nil))) (kR.ok x17 x28) h31 (.same rfl rfl) (hbor:=fun _=>⟨fhN,yL⟩)) zB)) ?_
     refine zF 49 (fun h32=>?_) (fun h32=>?_)
     ·refine J_g 131060 [] [(6,bv false)] [] zB ?_
      exact zQ rfl
     ·refine zA (fun x33 h34=>?_)
      refine zA (fun x35 h36=>?_)
      refine J_d 65532 [] [1,10,49,54] [(54,bv (!x35))] [5] [] (zD 2 (vC («as»:=[sl 1 zC a2]) [(.tmp 51)] [23] false [] [] (.cons (.same rfl) (.nil)) (zH.ok a2) h34 (.own 7)) (zD 3 (vC («as»:=[rr 5 x19,rr 7 x33]) [(.tmp 50),(.tmp 52)] [23,23] true [(5,rE 1 zC x19),(7,rE 1 zC x33)] [] (.cons (zBr (.head _) (fun _=>rfl) rfl) (.cons (zBr (.tail _ (.head _)) (fun _=>rfl) rfl) (.nil))) (wS.ok x19 x33) h36 (.same rfl rfl) (hbor:=fun _=>⟨fhN,yL⟩)) zB)) ?_
      refine zF 54 (fun h37=>?_) (fun h37=>?_)
      ·refine J_g 262132 [] [(6,bv false)] [] zB ?_
       exact zQ rfl
      ·refine zA (fun x38 h39=>?_)
       refine zA (fun x40 h41=>?_)
       refine J_g 131068 [] [(59,bv (!x40))] [] (zD 2 (vC («as»:=[sl 1 zC a3]) [(.tmp 56)] [23] false [] [] (.cons (.same rfl) (.nil)) (zH.ok a3) h39 (.own 7)) (zD 3 (vC («as»:=[rr 6 x21,rr 7 x38]) [(.tmp 55),(.tmp 57)] [23,23] true [(6,rE 1 zC x21),(7,rE 1 zC x38)] [] (.cons (zBr (.head _) (fun _=>rfl) rfl) (.cons (zBr (.tail _ (.head _)) (fun _=>rfl) rfl) (.nil))) (wS.ok x21 x38) h41 (.same rfl rfl) (hbor:=fun _=>⟨fhN,yL⟩)) zB)) ?_
       refine zF 59 (fun h42=>?_) (fun h42=>?_)
       ·refine J_g 524276 [] [(6,bv false)] [] zB ?_
        exact zQ rfl
       ·refine J_g 131070 [] [(6,bv true)] [] zB ?_
        exact zQ rfl
noncomputable def zOj:Code:=(Tryz.f115.body).getD .skip
theorem zEw.ok (a1:(List ByteArray)) (a2:Int) (q:Wd) (kn:(List ByteArray)→Option (D×List Ent)) (hk:∀v:(List ByteArray),J (q.g Tryz.prog 115 0 32) zOj (atI zOj 15) (St.mk' [(5,rr 0 v)] [(0,rE 1 eStr v)]) (some v) kn):
  ∀s12:((List ByteArray)×Int),J (q.g Tryz.prog 115 0 32) zOj (atI zOj 116) (St.mk' [(0,sl 1 eStr a1),(1,iv a2),(5,rr 0 s12.1),(6,iv s12.2)] [(0,rE 1 eStr s12.1)]) (zEw a1 a2 s12) kn:=by
 refine tV (fun g ih s12=>?_)
 unfold zFG
 refine J_d 464 [] [11] [(11,bv (decide (s12.2< (a1.length:Int))))] [] [] zB ?_
 refine zF 11 (fun h13=>?_) (fun h13=>?_)
 ·refine zA (fun x14 h15=>?_)
  refine J_d 1864 [] [11,23] [(23,bv ((zNW .i64 x14 1)==1))] [] [] (zD 7 (zOw (k2:=.u64) 3 135 (.tmp 14) (.tmp 20) h15) (zD 8 (zOJ (k:=.i64) (a:=x14) (b:=1) 3 3 (.tmp 21) (.const (.int .i64 1))) zB)) ?_
  refine vW (aft zOj 932) (fun v21:(List ByteArray)=>St.mk' [(0,sl 1 eStr a1),(1,iv a2),(5,rr 2 v21),(6,iv s12.2)] [(2,rE 1 eStr v21)]) (fun v21=>?_) (fun jv21=>?_)
  ·refine J_d 467 [] [6] [(6,iv (w64 (s12.2+1)))] [] [] zB ?_
   refine jR 2 0 (Nat.le_of_ble_eq_true rfl) (Nat.le_of_ble_eq_true rfl) ?_
   exact J_q (J_b (ih (v21,w64 (s12.2+1)))) rfl
  ·refine zF 23 (fun h16=>?_) (fun h16=>?_)
   ·refine zA (fun x17 h18=>?_)
    refine zA (fun x19 h20=>?_)
    refine J_d 3730 [] [5,23] [(5,rr 2 x19)] [0,2] [(2,rE 1 eStr x19)] (zD 3 (tT (kk:=.i64) 52 9 1 eStr (.tmp 25) (.tmp 26) h18) (zD 5 (zEa 52 9 1 1 eStr [x17] [0] [(.tmp 28)] [sv x17]) (zD 6 (zGv 52 52 9 9 1 16 2 0 1 eStr (.tmp 24) (.tmp 29) h20) zB))) ?_
    exact wD (J_j (jv21 x19)) rfl
   ·refine jR 0 2 (Nat.le_of_ble_eq_true rfl) (Nat.le_of_ble_eq_true rfl) ?_
    exact wD (J_j (jv21 s12.1)) rfl
 ·exact wD (hk s12.1) rfl
theorem zEO.ok (a1:(List ByteArray)) (a2:Int):Ok Tryz.prog 115 [sl 1 eStr a1,iv a2] [] ((zEO a1 a2).map fun r=>(so 1 eStr r,[])):=by
 refine zG zOj Tryz.f115 0 32 (fun q=>?_)
 unfold zEO
 refine J_g 2 [] [(0,sl 1 eStr a1),(1,iv a2)] [] zB ?_
 refine J_g 6 [] [(0,sl 1 eStr a1),(1,iv a2),(5,rr 0 ([]:List ByteArray))] [(0,rE 1 eStr ([]:List ByteArray))] (zD 0 (zEa 52 9 1 0 eStr ([]:List ByteArray) [] [] []) zB) ?_
 refine J_d 28 [] [6] [(6,iv 0)] [] [] zB ?_
 refine zE2 (zEw.ok a1 a2 q _ (fun v22=>J_j ?_) (([]:List ByteArray),0))
 refine J_g 30 [] [(4,rr 0 v22)] [(0,rE 1 eStr v22)] zB ?_
 exact zEl (ds:=[rr 0 v22]) (ds':=[so 1 eStr v22]) (.cons (.cell (.move (.head _) (List.length_map _) (by decide) (.nil))) (.nil) (by decide)) rfl
noncomputable def c116:Code:=(Tryz.f116.body).getD .skip
theorem zEJ.ok (a1:(List Int)) (a2:Int) (q:Wd) (kn:Unit→Option (D×List Ent)) (hk:∀v:Unit,J (q.g Tryz.prog 116 0 18) c116 (atI c116 7) (St.mk' [] []) (some v) kn):
  ∀s7:Int,J (q.g Tryz.prog 116 0 18) c116 (atI c116 52) (St.mk' [(0,sl 1 zC a1),(1,iv a2),(5,iv s7)] []) (zEJ a1 a2 s7) (Fl.go (fun r:Bool=>some (bv r,[])) kn):=by
 refine tV (fun g ih s7=>?_)
 unfold zGl
 refine J_d 208 [] [9] [(9,bv (decide (s7< (a1.length:Int))))] [] [] zB ?_
 refine zF 9 (fun h8=>?_) (fun h8=>?_)
 ·refine zA (fun x9 h10=>?_)
  refine J_d 840 [] [9,17] [(17,bv (x9==a2))] [] [] (zD 2 (tT (kk:=.i64) 23 2 1 zC (.tmp 12) (.tmp 13) h10) zB) ?_
  refine zF 17 (fun h11=>?_) (fun h11=>?_)
  ·refine J_g 3364 [] [(4,bv true)] [] zB ?_
   exact zQ rfl
  ·refine J_d 211 [] [5,17] [(5,iv (w64 (s7+1)))] [] [] zB ?_
   exact J_q (J_b (ih (w64 (s7+1)))) rfl
 ·exact wD (hk ()) rfl
theorem zB6.ok (a1:(List Int)) (a2:Int):Ok Tryz.prog 116 [sl 1 zC a1,iv a2] [] ((zB6 a1 a2).map fun r=>(bv r,[])):=by
 refine zG c116 Tryz.f116 0 18 (fun q=>?_)
 unfold zB6
 refine J_g 2 [] [(0,sl 1 zC a1),(1,iv a2)] [] zB ?_
 refine J_d 12 [] [5] [(5,iv 0)] [] [] zB ?_
 refine uP (K0:=(fun r:Bool=>some (bv r,[]))) (fun _=>rfl) (zEJ.ok a1 a2 q _ (fun v12=>J_j ?_) 0)
 refine J_g 14 [] [(4,bv false)] [] zB ?_
 exact zQ rfl
noncomputable def c72:Code:=(Tryz.f72.body).getD .skip
theorem zEx.ok (a1:(List Pack)) (a2:(List Int)) (a3:(List Int)) (a4:(List ByteArray)) (q:Wd) (kn:(List Int)→Option (D×List Ent)) (hk:∀v:(List Int),J (q.g Tryz.prog 72 0 46) c72 (atI c72 15) (St.mk' [(9,rr 0 v)] [(0,rE 1 zC v)]) (some v) kn):
  ∀s25:((List Int)×Int),J (q.g Tryz.prog 72 0 46) c72 (atI c72 116) (St.mk' [(0,sl 8 (Pack.enc false) a1),(1,sl 1 zC a2),(2,sl 1 zC a3),(3,sl 1 eStr a4),(9,rr 0 s25.1),(10,iv s25.2)] [(0,rE 1 zC s25.1)]) (zEx a1 a2 a3 a4 s25) kn:=by
 refine tV (fun g ih s25=>?_)
 unfold zFL
 refine J_d 464 [] [16] [(16,bv (decide (s25.2< (a1.length:Int))))] [] [] zB ?_
 refine zF 16 (fun h26=>?_) (fun h26=>?_)
 ·refine zA (fun x27 h28=>?_)
  refine zA (fun x29 h30=>?_)
  refine J_d 1864 [] [11,16] [(11,bv x29)] [] [] (zD 3 (tT (kk:=.i64) 28 63 8 (Pack.enc false) (.tmp 20) (.tmp 21) h28) (zD 6 (vG [(.tmp 19),(.tmp 24)] [52,9] (wP.ok a4 x27.Name) h30) zB)) ?_
  refine vW (atI c72 3731) (fun v41:Bool=>St.mk' [(0,sl 8 (Pack.enc false) a1),(1,sl 1 zC a2),(2,sl 1 zC a3),(3,sl 1 eStr a4),(9,rr 0 s25.1),(10,iv s25.2),(40,bv v41)] [(0,rE 1 zC s25.1)]) (fun v41=>?_) (fun jv41=>?_)
  ·refine vW (aft c72 932) (fun v45:(List Int)=>St.mk' [(0,sl 8 (Pack.enc false) a1),(1,sl 1 zC a2),(2,sl 1 zC a3),(3,sl 1 eStr a4),(9,rr 2 v45),(10,iv s25.2)] [(2,rE 1 zC v45)]) (fun v45=>?_) (fun jv45=>?_)
   ·refine J_d 467 [] [10] [(10,iv (w64 (s25.2+1)))] [] [] zB ?_
    refine jR 2 0 (Nat.le_of_ble_eq_true rfl) (Nat.le_of_ble_eq_true rfl) ?_
    exact J_q (J_b (ih (v45,w64 (s25.2+1)))) rfl
   ·refine zF 40 (fun h42=>?_) (fun h42=>?_)
    ·refine zA (fun x43 h44=>?_)
     refine J_d 7462 [] [9,40] [(9,rr 2 x43)] [0,2] [(2,rE 1 zC x43)] (zD 2 (zEa 23 2 1 1 zC [s25.2] [0] [(.tmp 42)] [iv s25.2]) (zD 3 (zGv 23 23 2 2 1 8 2 0 1 zC (.tmp 41) (.tmp 43) h44) zB)) ?_
     exact wD (J_j (jv45 x43)) rfl
    ·refine jR 0 2 (Nat.le_of_ble_eq_true rfl) (Nat.le_of_ble_eq_true rfl) ?_
     exact wD (J_j (jv45 s25.1)) rfl
  ·refine tJ (fun h31=>?_) (fun h31=>?_)
   ·refine zA (fun x32 h33=>?_)
    refine tJ (fun h34=>?_) (fun h34=>?_)
    ·refine J_d 3730 [] [11,40] [(40,bv true)] [] [] (uE 2 [(27,bv (!x29))] [] h31 (zCR 5 2 28 true (vG [(.tmp 29),(.tmp 30)] [23,2] (zB6.ok a2 s25.2) h33) (uE 7 [(32,bv x32)] [] h34 (zHs 9 (zHu (i:=9) (g:=7) (t:=33) (b:=false) (v:=(.bool true)) (.inl rfl) (by kernel_rfl) (by kernel_rfl)) (zHs 10 (zHu (i:=10) (g:=9) (t:=35) (b:=true) (v:=undef) (.inr rfl) (by kernel_rfl) (by kernel_rfl)) (zHs 11 (zHu (i:=11) (g:=9) (t:=35) (b:=true) (v:=undef) (.inr rfl) (by kernel_rfl) (by kernel_rfl)) (zHs 12 (zHu (i:=12) (g:=9) (t:=35) (b:=true) (v:=undef) (.inr rfl) (by kernel_rfl) (by kernel_rfl)) zB))))))) ?_
     exact wD (J_j (jv41 true)) rfl
    ·refine tJ (fun h35=>?_) (fun h35=>?_)
     ·refine zA (fun x36 h37=>?_)
      refine J_d 3730 [] [11,40] [(40,bv x36)] [] [] (uE 2 [(27,bv (!x29))] [] h31 (zCR 5 2 28 true (vG [(.tmp 29),(.tmp 30)] [23,2] (zB6.ok a2 s25.2) h33) (uE 7 [(32,bv x32)] [] h34 (zG6 9 7 33 false [(34,bv x29)] [] h35 (zCR 12 9 35 true (vG [(.tmp 36),(.tmp 37)] [23,2] (zB6.ok a3 s25.2) h37) zB))))) ?_
      exact wD (J_j (jv41 x36)) rfl
     ·refine J_d 3730 [] [11,40] [(40,bv false)] [] [] (uE 2 [(27,bv (!x29))] [] h31 (zCR 5 2 28 true (vG [(.tmp 29),(.tmp 30)] [23,2] (zB6.ok a2 s25.2) h33) (uE 7 [(32,bv x32)] [] h34 (zG6 9 7 33 false [(34,bv x29)] [] h35 zB)))) ?_
      exact wD (J_j (jv41 false)) rfl
   ·refine tJ (fun h38=>?_) (fun h38=>?_)
    ·refine zA (fun x39 h40=>?_)
     refine J_d 3730 [] [11,40] [(40,bv x39)] [] [] (uE 2 [(27,bv (!x29))] [] h31 (zG6 9 7 33 false [(34,bv x29)] [] h38 (zCR 12 9 35 true (vG [(.tmp 36),(.tmp 37)] [23,2] (zB6.ok a3 s25.2) h40) zB))) ?_
     exact wD (J_j (jv41 x39)) rfl
    ·refine J_d 3730 [] [11,40] [(40,bv false)] [] [] (uE 2 [(27,bv (!x29))] [] h31 (zG6 9 7 33 false [(34,bv x29)] [] h38 zB)) ?_
     exact wD (J_j (jv41 false)) rfl
 ·exact wD (hk s25.1) rfl
theorem zDY.ok (a1:(List Pack)) (a2:(List Int)) (a3:(List Int)) (a4:(List ByteArray)):Ok Tryz.prog 72 [sl 8 (Pack.enc false) a1,sl 1 zC a2,sl 1 zC a3,sl 1 eStr a4] [] ((zDY a1 a2 a3 a4).map fun r=>(so 1 zC r,[])):=by
 refine zG c72 Tryz.f72 0 46 (fun q=>?_)
 unfold zDY
 refine J_g 2 [] [(0,sl 8 (Pack.enc false) a1),(1,sl 1 zC a2),(2,sl 1 zC a3),(3,sl 1 eStr a4)] [] zB ?_
 refine J_g 6 [] [(0,sl 8 (Pack.enc false) a1),(1,sl 1 zC a2),(2,sl 1 zC a3),(3,sl 1 eStr a4),(9,rr 0 ([]:List Int))] [(0,rE 1 zC ([]:List Int))] (zD 0 (zEa 23 2 1 0 zC ([]:List Int) [] [] []) zB) ?_
 refine J_d 28 [] [10] [(10,iv 0)] [] [] zB ?_
 refine zE2 (zEx.ok a1 a2 a3 a4 q _ (fun v46=>J_j ?_) (([]:List Int),0))
 refine J_g 30 [] [(8,rr 0 v46)] [(0,rE 1 zC v46)] zB ?_
 exact zEl (ds:=[rr 0 v46]) (ds':=[so 1 zC v46]) (.cons (.cell (.move (.head _) (List.length_map _) (by decide) (.nil))) (.nil) (by decide)) rfl
noncomputable def c71:Code:=(Tryz.f71.body).getD .skip
theorem zE0.ok (a1:(List Pack)) (a2:(List Int)) (a3:(List Int)) (a4:(List ByteArray)) (s31:Int) (q:Wd) (kn:Unit→Option (D×List Ent)) (hk:∀v:Unit,J (q.g Tryz.prog 71 0 49) c71 (aft c71 932) (St.mk' [(0,sl 8 (Pack.enc false) a1),(1,sl 1 zC a2),(2,sl 1 zC a3),(3,sl 1 eStr a4),(9,iv s31)] []) (some v) kn):
  ∀s45:Int,J (q.g Tryz.prog 71 0 49) c71 (atI c71 7460) (St.mk' [(0,sl 8 (Pack.enc false) a1),(1,sl 1 zC a2),(2,sl 1 zC a3),(3,sl 1 eStr a4),(9,iv s31),(10,iv s45)] []) (zE0 a1 a2 a3 a4 s31 s45) (Fl.go (fun r:(List ByteArray)=>some (sl 1 eStr r,[])) kn):=by
 refine tV (fun g ih s45=>?_)
 unfold zFA
 refine J_d 29840 [] [28] [(28,bv (decide (s45>0)))] [] [] zB ?_
 refine zF 28 (fun h46=>?_) (fun h46=>?_)
 ·refine zA (fun x47 h48=>?_)
  refine J_d 119368 [] [11,28] [(11,rr 0 x47)] [0] [(0,rE 1 eStr x47)] (zD 2 (vC («as»:=[sl 1 eStr a4,iv s45]) [(.tmp 31),(.tmp 32)] [52,3] false [] [] (.cons (.same rfl) (.cons (.same rfl) (.nil))) (zEO.ok a4 s45) h48 (.own 0)) zB) ?_
  refine vW (atI c71 238739) (fun v54:Bool=>St.mk' [(0,sl 8 (Pack.enc false) a1),(1,sl 1 zC a2),(2,sl 1 zC a3),(3,sl 1 eStr a4),(9,iv s31),(10,iv s45),(11,rr 0 x47),(46,bv v54)] [(0,rE 1 eStr x47)]) (fun v54=>?_) (fun jv54=>?_)
  ·refine zF 46 (fun h55=>?_) (fun h55=>?_)
   ·refine J_g 954956 [] [(8,rr 0 x47)] [(0,rE 1 eStr x47)] zB ?_
    refine zEA [(8,rr 0 x47)] [(0,rE 1 eStr x47)] (by kernel_rfl) ?_
    refine zJD 0 (z:=1) (xs:=x47.map eStr) (tm2:=[(8,sl 1 eStr x47)]) (hp2:=[]) (.cons (.rf (by simp) (zFD (enc:=eStr) (enc':=eStr) (fun _=>rfl) x47 rfl rfl)) (.nil)) (.nil) rfl ?_
    exact zQ rfl
   ·refine J_d 29843 [] [10,11,46] [(10,iv (w64 (s45-1)))] [0] [] zB ?_
    exact J_q (J_b (ih (w64 (s45-1)))) rfl
  ·refine tJ (fun h49=>?_) (fun h49=>?_)
   ·refine zA (fun x50 h51=>?_)
    refine zA (fun x52 h53=>?_)
    refine J_d 238738 [] [46] [(46,bv x52)] [] [] (uE 4 [(37,bv ((x47.length:Int)==s31))] [] h49 (zCR 10 4 38 true (vC («as»:=[sl 8 (Pack.enc false) a1,sl 1 zC a2,sl 1 zC a3,rr 0 x47]) [(.tmp 40),(.tmp 41),(.tmp 42),(.tmp 43)] [28,23,23,52] true [(0,rE 1 eStr x47)] [] (.cons (.same rfl) (.cons (.same rfl) (.cons (.same rfl) (.cons (zBr (.head _) (fun _=>rfl) rfl) (.nil))))) (zDY.ok a1 a2 a3 x47) h51 (.own 1) (hbor:=fun _=>⟨fhN,(zET (zGe (fun _=>(flatK yL zFh)) _))⟩)) (zCR 11 4 38 true (vC («as»:=[sl 8 (Pack.enc false) a1,rr 1 x50]) [(.tmp 39),(.tmp 44)] [28,23] true [(1,rE 1 zC x50)] [] (.cons (.same rfl) (.cons (zBr (.head _) (fun _=>rfl) rfl) (.nil))) (kT.ok a1 x50) h53 (.same rfl rfl) (hbor:=fun _=>⟨fhN,yL⟩)) zB))) ?_
    exact wD (J_j (jv54 x52)) rfl
   ·refine J_d 238738 [] [46] [(46,bv false)] [] [] (uE 4 [(37,bv ((x47.length:Int)==s31))] [] h49 zB) ?_
    exact wD (J_j (jv54 false)) rfl
 ·exact wD (hk ()) rfl
theorem zEz.ok (a1:(List Pack)) (a2:(List Int)) (a3:(List Int)) (a4:(List ByteArray)) (q:Wd) (kn:Unit→Option (D×List Ent)) (hk:∀v:Unit,J (q.g Tryz.prog 71 0 49) c71 (atI c71 15) (St.mk' [(3,sl 1 eStr a4)] []) (some v) kn):
  ∀s31:Int,J (q.g Tryz.prog 71 0 49) c71 (atI c71 116) (St.mk' [(0,sl 8 (Pack.enc false) a1),(1,sl 1 zC a2),(2,sl 1 zC a3),(3,sl 1 eStr a4),(9,iv s31)] []) (zEz a1 a2 a3 a4 s31) (Fl.go (fun r:(List ByteArray)=>some (sl 1 eStr r,[])) kn):=by
 refine tV (fun g ih s31=>?_)
 unfold zFM
 refine J_d 464 [] [19] [(19,bv (decide (s31< (a4.length:Int))))] [] [] zB ?_
 refine zF 19 (fun h32=>?_) (fun h32=>?_)
 ·refine zA (fun x33 h34=>?_)
  refine J_d 1864 [] [10,19] [(10,iv (w64 (x33-1)))] [] [] (zD 3 (zOK (k2:=.u64) 3 135 (.const (.int .i64 1)) (.tmp 24) h34) zB) ?_
  refine uP (K0:=(fun r:(List ByteArray)=>some (sl 1 eStr r,[]))) (fun _=>rfl) (zE0.ok a1 a2 a3 a4 s31 q _ (fun v56=>J_j ?_) (w64 (x33-1)))
  refine J_d 467 [] [9] [(9,iv (w64 (s31+1)))] [] [] zB ?_
  exact J_q (J_b (ih (w64 (s31+1)))) rfl
 ·exact wD (hk ()) rfl
theorem zER.ok (a1:(List Pack)) (a2:(List Int)) (a3:(List Int)) (a4:(List ByteArray)):Ok Tryz.prog 71 [sl 8 (Pack.enc false) a1,sl 1 zC a2,sl 1 zC a3,sl 1 eStr a4] [] ((zER a1 a2 a3 a4).map fun r=>(sl 1 eStr r,[])):=by
 refine zG c71 Tryz.f71 0 49 (fun q=>?_)
 unfold zER
 refine J_g 2 [] [(0,sl 8 (Pack.enc false) a1),(1,sl 1 zC a2),(2,sl 1 zC a3),(3,sl 1 eStr a4)] [] zB ?_
 refine J_d 12 [] [14] [(14,bv (decide ((a4.length:Int)>6)))] [] [] zB ?_
 refine zF 14 (fun h5=>?_) (fun h5=>?_)
 ·refine J_g 52 [] [(8,sl 1 eStr a4)] [] zB ?_
  exact zQ rfl
 ·refine J_d 28 [] [9,14] [(9,iv 1)] [] [] zB ?_
  refine uP (K0:=(fun r:(List ByteArray)=>some (sl 1 eStr r,[]))) (fun _=>rfl) (zEz.ok a1 a2 a3 a4 q _ (fun v57=>J_j ?_) 1)
  refine J_g 30 [] [(8,sl 1 eStr a4)] [] zB ?_
  exact zQ rfl
noncomputable def c33:Code:=(Tryz.f33.body).getD .skip
theorem zD0.ok (a1:(List Pack)) (a3:(List Int)) (x4:(List (List ByteArray))) (s156:((List (List ByteArray))×(List (List Int))×(List Int)×Int)) (s195:((List (List ByteArray))×(List (List Int))×(List Int)×(List ByteArray))) (x197:(List ByteArray)) (q:Wd) (kn:(List ByteArray)→Option (D×List Ent)) (hk:∀v:(List ByteArray),J (q.g Tryz.prog 33 0 81) c33 (atI c33 2073751) (St.mk' [(0,sl 8 (Pack.enc false) a1),(2,sl 1 zC a3),(8,rr 0 s195.1),(9,rr 1 s195.2.1),(10,sl 1 zC s195.2.2.1),(11,rr 2 x4),(12,iv s156.2.2.2),(14,sl 1 eStr x197),(15,rr 3 v)] [(0,rE 1 (eSl true 1 eStr) s195.1),(1,rE 1 (eSl false 1 zC) s195.2.1),(2,rE 1 (eSl false 1 eStr) x4),(3,rE 1 eStr v)]) (some v) kn):
  ∀s210:((List ByteArray)×Int),J (q.g Tryz.prog 33 0 81) c33 (atI c33 16590004) (St.mk' [(0,sl 8 (Pack.enc false) a1),(2,sl 1 zC a3),(8,rr 0 s195.1),(9,rr 1 s195.2.1),(10,sl 1 zC s195.2.2.1),(11,rr 2 x4),(12,iv s156.2.2.2),(13,sl 1 eStr s195.2.2.2),(14,sl 1 eStr x197),(15,rr 3 s210.1),(16,iv s210.2)] [(0,rE 1 (eSl true 1 eStr) s195.1),(1,rE 1 (eSl false 1 zC) s195.2.1),(2,rE 1 (eSl false 1 eStr) x4),(3,rE 1 eStr s210.1)]) (zD0 a1 a3 x4 s156 s195 x197 s210) kn:=by
 refine tV (fun g ih s210=>?_)
 unfold zEZ
 refine J_d 66360016 [] [46] [(46,bv (decide (s210.2< (s195.2.2.2.length:Int))))] [] [] zB ?_
 refine zF 46 (fun h211=>?_) (fun h211=>?_)
 ·refine zA (fun x212 h213=>?_)
  refine zA (fun x214 h215=>?_)
  refine J_d 265440072 [] [46,55] [(55,bv (!x214))] [] [] (zD 3 (tT (kk:=.i64) 52 9 1 eStr (.tmp 50) (.tmp 51) h213) (zD 5 (vG [(.tmp 49),(.tmp 53)] [52,9] (wP.ok x197 x212) h215) zB)) ?_
  refine vW (aft c33 132720036) (fun v221:(List ByteArray)=>St.mk' [(0,sl 8 (Pack.enc false) a1),(2,sl 1 zC a3),(8,rr 0 s195.1),(9,rr 1 s195.2.1),(10,sl 1 zC s195.2.2.1),(11,rr 2 x4),(12,iv s156.2.2.2),(13,sl 1 eStr s195.2.2.2),(14,sl 1 eStr x197),(15,rr 5 v221),(16,iv s210.2)] [(0,rE 1 (eSl true 1 eStr) s195.1),(1,rE 1 (eSl false 1 zC) s195.2.1),(2,rE 1 (eSl false 1 eStr) x4),(5,rE 1 eStr v221)]) (fun v221=>?_) (fun jv221=>?_)
  ·refine J_d 66360019 [] [16] [(16,iv (w64 (s210.2+1)))] [] [] zB ?_
   refine jR 5 3 (Nat.le_of_ble_eq_true rfl) (Nat.le_of_ble_eq_true rfl) ?_
   exact J_q (J_b (ih (v221,w64 (s210.2+1)))) rfl
  ·refine zF 55 (fun h216=>?_) (fun h216=>?_)
   ·refine zA (fun x217 h218=>?_)
    refine zA (fun x219 h220=>?_)
    refine J_d 530880146 [] [15,55] [(15,rr 5 x219)] [3,5] [(5,rE 1 eStr x219)] (zD 3 (tT (kk:=.i64) 52 9 1 eStr (.tmp 57) (.tmp 58) h218) (zD 5 (zEa 52 9 1 4 eStr [x217] [0] [(.tmp 60)] [sv x217]) (zD 6 (zGv 52 52 9 9 1 16 5 3 4 eStr (.tmp 56) (.tmp 61) h220) zB))) ?_
    exact wD (J_j (jv221 x219)) rfl
   ·refine jR 3 5 (Nat.le_of_ble_eq_true rfl) (Nat.le_of_ble_eq_true rfl) ?_
    exact wD (J_j (jv221 s210.1)) rfl
 ·exact wD (hk s210.1) rfl
theorem zDs.ok (a1:(List Pack)) (a3:(List Int)) (x4:(List (List ByteArray))) (s156:((List (List ByteArray))×(List (List Int))×(List Int)×Int)) (q:Wd) (kn:((List (List ByteArray))×(List (List Int))×(List Int))→Option (D×List Ent)) (hk:∀v:((List (List ByteArray))×(List (List Int))×(List Int)),J (q.g Tryz.prog 33 0 81) c33 (aft c33 8100) (St.mk' [(0,sl 8 (Pack.enc false) a1),(2,sl 1 zC a3),(8,rr 0 v.1),(9,rr 1 v.2.1),(10,sl 1 zC v.2.2),(11,rr 2 x4),(12,iv s156.2.2.2)] [(0,rE 1 (eSl true 1 eStr) v.1),(1,rE 1 (eSl false 1 zC) v.2.1),(2,rE 1 (eSl false 1 eStr) x4)]) (some v) kn):
  ∀s195:((List (List ByteArray))×(List (List Int))×(List Int)×(List ByteArray)),J (q.g Tryz.prog 33 0 81) c33 (atI c33 64804) (St.mk' [(0,sl 8 (Pack.enc false) a1),(2,sl 1 zC a3),(8,rr 0 s195.1),(9,rr 1 s195.2.1),(10,sl 1 zC s195.2.2.1),(11,rr 2 x4),(12,iv s156.2.2.2),(13,sl 1 eStr s195.2.2.2)] [(0,rE 1 (eSl true 1 eStr) s195.1),(1,rE 1 (eSl false 1 zC) s195.2.1),(2,rE 1 (eSl false 1 eStr) x4)]) (zDs a1 a3 x4 s156 s195) kn:=by
 refine tV (fun g ih s195=>?_)
 unfold zFf
 refine J_d 259216 [] [36] [(36,bv (decide ((s195.2.2.2.length:Int)>0)))] [] [] zB ?_
 refine zF 36 (fun h196=>?_) (fun h196=>?_)
 ·refine zA (fun x197 h198=>?_)
  refine J_g 518436 [] [(0,sl 8 (Pack.enc false) a1),(2,sl 1 zC a3),(8,rr 0 s195.1),(9,rr 1 s195.2.1),(10,sl 1 zC s195.2.2.1),(11,rr 2 x4),(12,iv s156.2.2.2),(13,sl 1 eStr s195.2.2.2),(14,sl 1 eStr x197)] [(0,rE 1 (eSl true 1 eStr) s195.1),(1,rE 1 (eSl false 1 zC) s195.2.1),(2,rE 1 (eSl false 1 eStr) x4)] (zD 4 (vG [(.tmp 37),(.tmp 38),(.tmp 39),(.tmp 40)] [28,23,23,52] (zER.ok a1 s195.2.2.1 a3 s195.2.2.2) h198) zB) ?_
  refine J_g 1036874 [] [(0,sl 8 (Pack.enc false) a1),(2,sl 1 zC a3),(8,rr 0 s195.1),(9,rr 1 s195.2.1),(10,sl 1 zC s195.2.2.1),(11,rr 2 x4),(12,iv s156.2.2.2),(13,sl 1 eStr s195.2.2.2),(14,sl 1 eStr x197),(15,rr 3 ([]:List ByteArray))] [(0,rE 1 (eSl true 1 eStr) s195.1),(1,rE 1 (eSl false 1 zC) s195.2.1),(2,rE 1 (eSl false 1 eStr) x4),(3,rE 1 eStr ([]:List ByteArray))] (zD 0 (zEa 52 9 1 3 eStr ([]:List ByteArray) [] [] []) zB) ?_
  refine J_d 4147500 [] [16] [(16,iv 0)] [] [] zB ?_
  refine zE2 (zD0.ok a1 a3 x4 s156 s195 x197 q _ (fun v222=>J_j ?_) (([]:List ByteArray),0))
  refine J_d 4147502 [] [13,15] [(13,rr 3 v222)] [] [] zB ?_
  refine zA (fun x223 h224=>?_)
  refine J_d 8295006 [] [10] [(10,rr 4 x223)] [4] [(4,rE 1 zC x223)] (zD 4 (vC («as»:=[sl 8 (Pack.enc false) a1,sl 1 zC s195.2.2.1,sl 1 zC a3,sl 1 eStr x197]) [(.tmp 64),(.tmp 65),(.tmp 66),(.tmp 67)] [28,23,23,52] false [] [] (.cons (.same rfl) (.cons (.same rfl) (.cons (.same rfl) (.cons (.same rfl) (.nil))))) (zDY.ok a1 s195.2.2.1 a3 x197) h224 (.own 4)) zB) ?_
  refine zA (fun x225 h226=>?_)
  refine zA (fun x227 h228=>?_)
  refine J_g 16590014 [] [(0,sl 8 (Pack.enc false) a1),(2,sl 1 zC a3),(8,rr 8 x227),(9,rr 1 s195.2.1),(10,rr 4 x223),(11,rr 2 x4),(12,iv s156.2.2.2),(13,rr 3 v222)] [(1,rE 1 (eSl false 1 zC) s195.2.1),(2,rE 1 (eSl false 1 eStr) x4),(3,rE 1 eStr v222),(4,rE 1 zC x223),(8,rE 1 (eSl true 1 eStr) x227)] (zD 1 (zEa 52 9 1 5 eStr ([]:List ByteArray) [] [] []) (zD 3 (zJa 52 52 9 9 1 16 6 5 eStr (.tmp 70) (.tmp 71) h226) (zD 4 (zNM (ds:=[rr 6 x225]) (ts:=[6]) 35 52 1 7 (eSl true 1 eStr) [x225] [0] [(.tmp 72)] [rr 6 x225] [(6,rE 1 eStr x225)] (.move (.head _) (List.length_map _) (by decide) (.nil))) (zD 5 (zGv 35 35 52 52 1 24 8 0 7 (eSl true 1 eStr) (.tmp 69) (.tmp 73) h228) zB)))) ?_
  refine zEA [(0,sl 8 (Pack.enc false) a1),(2,sl 1 zC a3),(8,rr 8 x227),(9,rr 1 s195.2.1),(10,rr 4 x223),(11,rr 2 x4),(12,iv s156.2.2.2),(13,rr 3 v222)] [(4,rE 1 zC x223),(1,rE 1 (eSl false 1 zC) s195.2.1),(2,rE 1 (eSl false 1 eStr) x4),(3,rE 1 eStr v222),(8,rE 1 (eSl true 1 eStr) x227)] (by kernel_rfl) ?_
  refine zJD 4 (z:=1) (xs:=x223.map zC) (tm2:=[(0,sl 8 (Pack.enc false) a1),(2,sl 1 zC a3),(8,rr 8 x227),(9,rr 1 s195.2.1),(10,sl 1 zC x223),(11,rr 2 x4),(12,iv s156.2.2.2),(13,rr 3 v222)]) (hp2:=[(1,rE 1 (eSl false 1 zC) s195.2.1),(2,rE 1 (eSl false 1 eStr) x4),(3,rE 1 eStr v222),(8,rE 1 (eSl true 1 eStr) x227)]) (.cons (.keep rfl) (.cons (.keep rfl) (.cons (.keep rfl) (.cons (.keep rfl) (.cons (.rf (by simp) (zFD (enc:=zC) (enc':=zC) (fun _=>rfl) x223 rfl rfl)) (.cons (.keep rfl) (.cons (.keep rfl) (.cons (.keep rfl) (.nil))))))))) (.keep rfl (.keep rfl (.keep rfl (.keep rfl (.nil))))) rfl ?_
  refine zA (fun x229 h230=>?_)
  refine J_d 16590015 [] [9] [(9,rr 10 x229)] [1,10] [(10,rE 1 (eSl false 1 zC) x229)] (zD 2 (zEa 43 23 1 9 (eSl false 1 zC) [x223] [0] [(.tmp 76)] [sl 1 zC x223]) (zD 3 (zGv 43 43 23 23 1 24 10 1 9 (eSl false 1 zC) (.tmp 75) (.tmp 77) h230) zB)) ?_
  refine zEA [(0,sl 8 (Pack.enc false) a1),(2,sl 1 zC a3),(8,rr 8 x227),(9,rr 10 x229),(10,sl 1 zC x223),(11,rr 2 x4),(12,iv s156.2.2.2),(13,rr 3 v222)] [(3,rE 1 eStr v222),(2,rE 1 (eSl false 1 eStr) x4),(8,rE 1 (eSl true 1 eStr) x227),(10,rE 1 (eSl false 1 zC) x229)] (by kernel_rfl) ?_
  refine zJD 3 (z:=1) (xs:=v222.map eStr) (tm2:=[(0,sl 8 (Pack.enc false) a1),(2,sl 1 zC a3),(8,rr 8 x227),(9,rr 10 x229),(10,sl 1 zC x223),(11,rr 2 x4),(12,iv s156.2.2.2),(13,sl 1 eStr v222)]) (hp2:=[(2,rE 1 (eSl false 1 eStr) x4),(8,rE 1 (eSl true 1 eStr) x227),(10,rE 1 (eSl false 1 zC) x229)]) (.cons (.keep rfl) (.cons (.keep rfl) (.cons (.keep rfl) (.cons (.keep rfl) (.cons (.keep rfl) (.cons (.keep rfl) (.cons (.keep rfl) (.cons (.rf (by simp) (zFD (enc:=eStr) (enc':=eStr) (fun _=>rfl) v222 rfl rfl)) (.nil))))))))) (.keep rfl (.keep rfl (.keep rfl (.nil)))) rfl ?_
  refine jR 8 0 (Nat.le_of_ble_eq_true rfl) (Nat.le_of_ble_eq_true rfl) ?_
  refine jR 10 1 (Nat.le_of_ble_eq_true rfl) (Nat.le_of_ble_eq_true rfl) ?_
  exact J_q (J_b (ih (x227,x229,x223,v222))) rfl
 ·exact wD (hk (s195.1,s195.2.1,s195.2.2.1)) rfl
theorem zDx.ok (a1:(List Pack)) (a3:(List Int)) (x4:(List (List ByteArray))) (q:Wd) (kn:((List (List ByteArray))×(List (List Int)))→Option (D×List Ent)) (hk:∀v:((List (List ByteArray))×(List (List Int))),J (q.g Tryz.prog 33 0 81) c33 (atI c33 127) (St.mk' [(8,rr 0 v.1),(9,rr 1 v.2)] [(0,rE 1 (eSl true 1 eStr) v.1),(1,rE 1 (eSl false 1 zC) v.2)]) (some v) kn):
  ∀s156:((List (List ByteArray))×(List (List Int))×(List Int)×Int),J (q.g Tryz.prog 33 0 81) c33 (atI c33 1012) (St.mk' [(0,sl 8 (Pack.enc false) a1),(2,sl 1 zC a3),(8,rr 0 s156.1),(9,rr 1 s156.2.1),(10,sl 1 zC s156.2.2.1),(11,rr 2 x4),(12,iv s156.2.2.2)] [(0,rE 1 (eSl true 1 eStr) s156.1),(1,rE 1 (eSl false 1 zC) s156.2.1),(2,rE 1 (eSl false 1 eStr) x4)]) (zDx a1 a3 x4 s156) kn:=by
 refine tV (fun g ih s156=>?_)
 unfold zFe
 refine J_d 4048 [] [27] [(27,bv (decide (s156.2.2.2< (x4.length:Int))))] [] [] zB ?_
 refine zF 27 (fun h157=>?_) (fun h157=>?_)
 ·refine zA (fun x158 h159=>?_)
  refine J_d 16200 [] [13,27] [(13,sl 1 eStr x158)] [] [] (zD 2 (jT (kk:=.i64) 35 52 1 2 (eSl false 1 eStr) (.tmp 30) (.tmp 31) h159) (zD 3 (zC1 (d:=sl 1 eStr x158) 52 1 2 0 (eSl false 1 eStr) (.tmp 32) h159 (by kernel_rfl)) zB)) ?_
  refine zE2 (zDs.ok a1 a3 x4 s156 q _ (fun v231=>J_j ?_) (s156.1,s156.2.1,s156.2.2.1,x158))
  refine J_d 4051 [] [12] [(12,iv (w64 (s156.2.2.2+1)))] [] [] zB ?_
  exact J_q (J_b (ih (v231.1,v231.2.1,v231.2.2,w64 (s156.2.2.2+1)))) rfl
 ·exact wD (hk (s156.1,s156.2.1)) rfl
theorem zBh.ok (a1:(List Pack)) (a2:(List Int)) (a3:(List Int)):Ok Tryz.prog 33 [sl 8 (Pack.enc false) a1,sl 1 zC a2,sl 1 zC a3] [] ((zBh a1 a2 a3).map fun r=>(.tu [so 1 (eSl true 1 eStr) r.1,so 1 (eSl false 1 zC) r.2],[])):=by
 refine zG c33 Tryz.f33 0 81 (fun q=>?_)
 unfold zBh
 refine J_g 2 [] [(0,sl 8 (Pack.enc false) a1),(1,sl 1 zC a2),(2,sl 1 zC a3)] [] zB ?_
 refine J_g 6 [] [(0,sl 8 (Pack.enc false) a1),(1,sl 1 zC a2),(2,sl 1 zC a3),(8,rr 0 ([]:List (List ByteArray)))] [(0,rE 1 (eSl false 1 eStr) ([]:List (List ByteArray)))] (zD 0 (zEa 35 52 1 0 (eSl false 1 eStr) ([]:List (List ByteArray)) [] [] []) zB) ?_
 refine J_g 14 [] [(0,sl 8 (Pack.enc false) a1),(1,sl 1 zC a2),(2,sl 1 zC a3),(8,rr 0 ([]:List (List ByteArray))),(9,rr 1 ([]:List (List Int)))] [(0,rE 1 (eSl false 1 eStr) ([]:List (List ByteArray))),(1,rE 1 (eSl false 1 zC) ([]:List (List Int)))] (zD 0 (zEa 43 23 1 1 (eSl false 1 zC) ([]:List (List Int)) [] [] []) zB) ?_
 refine J_d 30 [] [10] [(10,sl 1 zC a2)] [] [] zB ?_
 refine zA (fun x4 h5=>?_)
 refine J_g 62 [] [(0,sl 8 (Pack.enc false) a1),(2,sl 1 zC a3),(8,rr 0 ([]:List (List ByteArray))),(9,rr 1 ([]:List (List Int))),(10,sl 1 zC a2),(11,rr 2 x4)] [(0,rE 1 (eSl false 1 eStr) ([]:List (List ByteArray))),(1,rE 1 (eSl false 1 zC) ([]:List (List Int))),(2,rE 1 (eSl true 1 eStr) x4)] (zD 3 (vC («as»:=[sl 8 (Pack.enc false) a1,sl 1 zC a2,sl 1 zC a3]) [(.tmp 20),(.tmp 21),(.tmp 22)] [28,23,23] false [] [] (.cons (.same rfl) (.cons (.same rfl) (.cons (.same rfl) (.nil)))) (zAZ.ok a1 a2 a3) h5 (.own 2)) zB) ?_
 refine J_d 252 [] [12] [(12,iv 0)] [] [] zB ?_
 refine zEA [(0,sl 8 (Pack.enc false) a1),(2,sl 1 zC a3),(8,rr 0 ([]:List (List ByteArray))),(9,rr 1 ([]:List (List Int))),(10,sl 1 zC a2),(11,rr 2 x4),(12,iv 0)] [(2,rE 1 (eSl true 1 eStr) x4),(0,rE 1 (eSl false 1 eStr) ([]:List (List ByteArray))),(1,rE 1 (eSl false 1 zC) ([]:List (List Int)))] (by kernel_rfl) ?_
 refine zP5 2 (zFH (enc:=(eSl true 1 eStr)) (enc':=(eSl false 1 eStr)) (zD1 (fun _=>rfl)) _) ?_
 refine zEA [(0,sl 8 (Pack.enc false) a1),(2,sl 1 zC a3),(8,rr 0 ([]:List (List ByteArray))),(9,rr 1 ([]:List (List Int))),(10,sl 1 zC a2),(11,rr 2 x4),(12,iv 0)] [(0,rE 1 (eSl false 1 eStr) ([]:List (List ByteArray))),(1,rE 1 (eSl false 1 zC) ([]:List (List Int))),(2,rE 1 (eSl false 1 eStr) x4)] (by kernel_rfl) ?_
 refine zE2 (zDx.ok a1 a3 x4 q _ (fun v232=>J_j ?_) (([]:List (List ByteArray)),([]:List (List Int)),a2,0))
 refine J_g 254 [] [(6,rr 0 v232.1),(7,rr 1 v232.2)] [(0,rE 1 (eSl true 1 eStr) v232.1),(1,rE 1 (eSl false 1 zC) v232.2)] zB ?_
 exact zEl (ds:=[rr 0 v232.1,rr 1 v232.2]) (ds':=[so 1 (eSl true 1 eStr) v232.1,so 1 (eSl false 1 zC) v232.2]) (.cons (.cell (.move (.head _) (List.length_map _) (by decide) (.nil))) (.cons (.cell (.move (.tail _ (.head _)) (List.length_map _) (by decide) (.nil))) (.nil) (by decide)) (by decide)) rfl
noncomputable def c14:Code:=(Tryz.f14.body).getD .skip
theorem zDB.ok (a1:(List Pack)) (a2:(List Int)) (a3:(List Int)):Ok Tryz.prog 14 [sl 8 (Pack.enc false) a1,sl 1 zC a2,sl 1 zC a3] [] ((zDB a1 a2 a3).map fun r=>(.ag (yD.enc true r),[])):=by
 refine zG c14 Tryz.f14 0 27 (fun q=>?_)
 unfold zDB
 refine J_d 2 [(0,0)] [6] [(6,pp 0)] [0] [(0,.box [iv 0,nv])] zB ?_
 refine zA (fun x4 h5=>?_)
 refine J_g 12 [] [(0,sl 8 (Pack.enc false) a1),(1,sl 1 zC a2),(2,sl 1 zC a3),(6,pp 0),(7,iv x4)] [(0,.box [iv 0,nv])] (zD 3 (vG [(.tmp 10),(.tmp 11),(.tmp 12)] [28,23,23] (kM.ok a1 a2 a3) h5) zB) ?_
 refine J_d 26 [] [15] [(15,bv (x4 !=0))] [] [] zB ?_
 refine zF 15 (fun h6=>?_) (fun h6=>?_)
 ·refine J_g 108 [] [(6,pp 0)] [(0,.box [iv x4,nv])] zB ?_
  exact zEl (ds:=[.ag [iv x4,nv]]) (ds':=[.ag [iv x4,so 1 (eSl true 1 eStr) ([]:List (List ByteArray))]]) (.cons (.ag (.keep rfl (.nilsl true 1 (.nil)))) (.nil) (by decide)) rfl
 ·refine zA (fun x7 h8=>?_)
  refine J_g 14 [] [(6,pp 0),(8,rr 1 x7.1)] [(0,.box [iv 0,nv]),(1,rE 1 (eSl true 1 eStr) x7.1)] (zD 3 (vC («as»:=[sl 8 (Pack.enc false) a1,sl 1 zC a2,sl 1 zC a3]) [(.tmp 19),(.tmp 20),(.tmp 21)] [28,23,23] false [] [] (.cons (.same rfl) (.cons (.same rfl) (.cons (.same rfl) (.nil)))) (zBh.ok a1 a2 a3) h8 (.tu (.cons (.own 1) (.cons (.own 2) (.nil))))) zB) ?_
  refine J_g 30 [] [(6,pp 0)] [(0,.box [iv 0,rr 1 x7.1]),(1,rE 1 (eSl true 1 eStr) x7.1)] zB ?_
  exact zEl (ds:=[.ag [iv 0,rr 1 x7.1]]) (ds':=[.ag [iv 0,so 1 (eSl true 1 eStr) x7.1]]) (.cons (.ag (.keep rfl (.move (.tail _ (.head _)) (List.length_map _) (by decide) (.nil)))) (.nil) (by decide)) rfl
noncomputable def c15:Code:=(Tryz.f15.body).getD .skip
theorem zBi.ok (a1:(List Pack)) (a2:(List Int)) (a3:(List Int)):Ok Tryz.prog 15 [sl 8 (Pack.enc false) a1,sl 1 zC a2,sl 1 zC a3] [] ((zBi a1 a2 a3).map fun r=>(.ag (yD.enc true r),[])):=by
 refine zG c15 Tryz.f15 0 21 (fun q=>?_)
 unfold zBi
 refine J_d 2 [(0,0)] [6] [(6,pp 0)] [0] [(0,.box [iv 0,nv])] zB ?_
 refine zA (fun x4 h5=>?_)
 refine J_g 6 [] [(6,pp 0),(7,rr 1 x4.1),(9,iv x4.2.2)] [(0,.box [iv 0,nv]),(1,rE 1 (eSl true 1 eStr) x4.1)] (zD 3 (vC («as»:=[sl 8 (Pack.enc false) a1,sl 1 zC a2,sl 1 zC a3]) [(.tmp 11),(.tmp 12),(.tmp 13)] [28,23,23] false [] [] (.cons (.same rfl) (.cons (.same rfl) (.cons (.same rfl) (.nil)))) (zDb.ok a1 a2 a3) h5 (.tu (.cons (.own 1) (.cons (.own 2) (.cons (.same rfl rfl) (.nil)))))) zB) ?_
 refine J_g 14 [] [(6,pp 0)] [(0,.box [iv x4.2.2,rr 1 x4.1]),(1,rE 1 (eSl true 1 eStr) x4.1)] zB ?_
 exact zEl (ds:=[.ag [iv x4.2.2,rr 1 x4.1]]) (ds':=[.ag [iv x4.2.2,so 1 (eSl true 1 eStr) x4.1]]) (.cons (.ag (.keep rfl (.move (.tail _ (.head _)) (List.length_map _) (by decide) (.nil)))) (.nil) (by decide)) rfl
noncomputable def c34:Code:=(Tryz.f34.body).getD .skip
theorem zC5.ok (a1:(List (List ByteArray))) (a2:(List (List ByteArray))) (q:Wd) (kn:Unit→Option (D×List Ent)) (hk:∀v:Unit,J (q.g Tryz.prog 34 0 27) c34 (atI c34 15) (St.mk' [] []) (some v) kn):
  ∀s12:Int,J (q.g Tryz.prog 34 0 27) c34 (atI c34 116) (St.mk' [(0,sl 1 (eSl false 1 eStr) a1),(1,sl 1 (eSl false 1 eStr) a2),(5,iv s12)] []) (zC5 a1 a2 s12) (Fl.go (fun r:Bool=>some (bv r,[])) kn):=by
 refine tV (fun g ih s12=>?_)
 unfold zEL
 refine J_d 464 [] [14] [(14,bv (decide (s12< (a1.length:Int))))] [] [] zB ?_
 refine zF 14 (fun h13=>?_) (fun h13=>?_)
 ·refine zA (fun x14 h15=>?_)
  refine zA (fun x16 h17=>?_)
  refine zA (fun x18 h19=>?_)
  refine J_d 1864 [] [14,26] [(26,bv (!x18))] [] [] (zD 2 (tT (kk:=.i64) 35 52 1 (eSl false 1 eStr) (.tmp 17) (.tmp 18) h15) (zD 6 (tT (kk:=.i64) 35 52 1 (eSl false 1 eStr) (.tmp 21) (.tmp 22) h17) (zD 8 (vG [(.tmp 20),(.tmp 24)] [52,52] (kE.ok x14 x16) h19) zB))) ?_
  refine zF 26 (fun h20=>?_) (fun h20=>?_)
  ·refine J_g 7460 [] [(4,bv false)] [] zB ?_
   exact zQ rfl
  ·refine J_d 467 [] [5,26] [(5,iv (w64 (s12+1)))] [] [] zB ?_
   exact J_q (J_b (ih (w64 (s12+1)))) rfl
 ·exact wD (hk ()) rfl
theorem zCM.ok (a1:(List (List ByteArray))) (a2:(List (List ByteArray))):Ok Tryz.prog 34 [sl 1 (eSl false 1 eStr) a1,sl 1 (eSl false 1 eStr) a2] [] ((zCM a1 a2).map fun r=>(bv r,[])):=by
 refine zG c34 Tryz.f34 0 27 (fun q=>?_)
 unfold zCM
 refine J_g 2 [] [(0,sl 1 (eSl false 1 eStr) a1),(1,sl 1 (eSl false 1 eStr) a2)] [] zB ?_
 refine J_d 12 [] [10] [(10,bv ((a1.length:Int) !=(a2.length:Int)))] [] [] zB ?_
 refine zF 10 (fun h3=>?_) (fun h3=>?_)
 ·refine J_g 52 [] [(4,bv false)] [] zB ?_
  exact zQ rfl
 ·refine J_d 28 [] [5,10] [(5,iv 0)] [] [] zB ?_
  refine uP (K0:=(fun r:Bool=>some (bv r,[]))) (fun _=>rfl) (zC5.ok a1 a2 q _ (fun v21=>J_j ?_) 0)
  refine J_g 30 [] [(4,bv true)] [] zB ?_
  exact zQ rfl
noncomputable def c16:Code:=(Tryz.f16.body).getD .skip
theorem vX.ok (a1:yD) (a2:yD):Ok Tryz.prog 16 [.ag (yD.enc false a1),.ag (yD.enc false a2)] [] ((vX a1 a2).map fun r=>(bv r,[])):=by
 refine zG c16 Tryz.f16 0 16 (fun q=>?_)
 unfold vX
 refine J_g 2 [(0,0),(1,1)] [(2,pp 0),(3,pp 1)] [(0,.box (yD.enc false a1)),(1,.box (yD.enc false a2))] zB ?_
 refine J_d 12 [] [9] [(9,bv (a1.Code !=a2.Code))] [] [] zB ?_
 refine zF 9 (fun h3=>?_) (fun h3=>?_)
 ·refine J_g 52 [] [(4,bv false)] [] zB ?_
  exact zQ rfl
 ·refine zA (fun x4 h5=>?_)
  refine J_g 28 [] [(15,bv (!x4))] [] (zD 4 (vG [(.tmp 11),(.tmp 13)] [35,35] (zCM.ok a1.Parts a2.Parts) h5) zB) ?_
  refine zF 15 (fun h6=>?_) (fun h6=>?_)
  ·refine J_g 116 [] [(4,bv false)] [] zB ?_
   exact zQ rfl
  ·refine J_g 30 [] [(4,bv true)] [] zB ?_
   exact zQ rfl
noncomputable def c35:Code:=(Tryz.f35.body).getD .skip
theorem zDH.ok (q:Wd) (kn:ByteArray→Option (D×List Ent)) (hk:∀v:ByteArray,J (q.g Tryz.prog 35 0 20) c35 (atI c35 31) (St.mk' [(3,sv v)] []) (some v) kn):
  ∀s6:(Int×ByteArray),J (q.g Tryz.prog 35 0 20) c35 (atI c35 120) (St.mk' [(0,iv s6.1),(3,sv s6.2)] []) (zDH s6) kn:=by
 refine tV (fun g ih s6=>?_)
 unfold zFs
 refine J_d 480 [] [7] [(7,bv (decide (s6.1>0)))] [] [] zB ?_
 refine zF 7 (fun h7=>?_) (fun h7=>?_)
 ·refine zA (fun x8 h9=>?_)
  refine J_g 964 [] [(0,iv s6.1),(3,sv x8)] [] (zD 4 (zEa 100 5 1 0 eU8 [IntKind.u8.wrap (w64 (48+(s6.1.tmod 10)))] [0] [(.tmp 11)] [uv (IntKind.u8.wrap (w64 (48+(s6.1.tmod 10))))]) (zD 5 (zO5 (xs:=[IntKind.u8.wrap (w64 (48+(s6.1.tmod 10)))]) 100 9 5 0 (.tmp 12)) (zD 7 (zOB 9 9 (.tmp 13) (.tmp 14) h9) zB))) ?_
  refine J_g 965 [] [(0,iv (w64 (s6.1.tdiv 10))),(3,sv x8)] [] zB ?_
  exact J_q (J_b (ih (w64 (s6.1.tdiv 10),x8))) rfl
 ·exact wD (hk s6.2) rfl
theorem jG.ok (a1:Int):Ok Tryz.prog 35 [iv a1] [] ((jG a1).map fun r=>(sv r,[])):=by
 refine zG c35 Tryz.f35 0 20 (fun q=>?_)
 unfold jG
 refine J_g 2 [] [(0,iv a1)] [] zB ?_
 refine J_g 12 [] [(0,iv a1),(5,bv (decide (a1≤0)))] [] zB ?_
 refine zF 5 (fun h2=>?_) (fun h2=>?_)
 ·refine J_g 52 [] [(2,sv (bs [109,48]))] [] zB ?_
  exact zQ rfl
 ·refine J_g 14 [] [(0,iv a1),(3,sv (bs []))] [] zB ?_
  refine zE2 (zDH.ok q _ (fun v10=>J_j ?_) (a1,bs []))
  refine zA (fun x11 h12=>?_)
  refine J_g 62 [] [(2,sv x11)] [] (zD 1 (zOB 9 9 (.const (.string (bs [109]))) (.tmp 18) h12) zB) ?_
  exact zQ rfl
noncomputable def c36:Code:=(Tryz.f36.body).getD .skip
theorem zBu.ok (q:Wd) (kn:((List ByteArray)×Int)→Option (D×List Ent)) (hk:∀v:((List ByteArray)×Int),J (q.g Tryz.prog 36 1 20) c36 (atI c36 7) (St.mk' [(1,iv v.2)] [(0,rE 1 eStr v.1)]) (some v) kn):
  ∀s8:((List ByteArray)×Int×Int),J (q.g Tryz.prog 36 1 20) c36 (atI c36 52) (St.mk' [(0,rr 0 s8.1),(1,iv s8.2.1),(5,iv s8.2.2)] [(0,rE 1 eStr s8.1)]) (zBu s8) kn:=by
 refine tV (fun g ih s8=>?_)
 unfold zE5
 refine J_d 208 [] [9] [(9,bv (decide (s8.2.2< (s8.1.length:Int))))] [] [] zB ?_
 refine zF 9 (fun h9=>?_) (fun h9=>?_)
 ·refine zA (fun x10 h11=>?_)
  refine zA (fun x12 h13=>?_)
  refine J_g 840 [] [(0,rr 0 s8.1),(1,iv s8.2.1),(5,iv s8.2.2)] [(0,rE 1 eStr (s8.1.set s8.2.2.toNat x10))] (zD 3 (vG [(.tmp 14)] [3] (jG.ok s8.2.1) h11) (zD 4 (jT (kk:=.i64) 52 9 1 0 eStr (.tmp 12) (.tmp 13) h13) (zGT 5 (zIb (b:=x10) 9 1 0 0 eStr (sv x10) (.tmp 16) (.tmp 15) h13 rfl) zB))) ?_
  refine zFr (σ':=St.mk' [(0,rr 0 (s8.1.set s8.2.2.toNat x10)),(1,iv s8.2.1),(5,iv s8.2.2)] [(0,rE 1 eStr (s8.1.set s8.2.2.toNat x10))]) (by simp only [rr,List.length_set]) ?_
  refine J_g 841 [] [(0,rr 0 (s8.1.set s8.2.2.toNat x10)),(1,iv (w64 (s8.2.1+1))),(5,iv s8.2.2)] [(0,rE 1 eStr (s8.1.set s8.2.2.toNat x10))] zB ?_
  refine J_d 211 [] [5] [(5,iv (w64 (s8.2.2+1)))] [] [] zB ?_
  exact J_q (J_b (ih (s8.1.set s8.2.2.toNat x10,w64 (s8.2.1+1),w64 (s8.2.2+1)))) rfl
 ·exact wD (hk (s8.1,s8.2.1)) rfl
theorem jZ.ok (a1:(List ByteArray)) (a2:Int):Ok Tryz.prog 36 [rr 0 a1,iv a2] [rE 1 eStr a1] ((jZ a1 a2).map fun r=>(iv r.1,[rE 1 eStr r.2])):=by
 refine zG c36 Tryz.f36 1 20 (fun q=>?_)
 unfold jZ
 refine J_g 2 [] [(0,rr 0 a1),(1,iv a2)] [(0,rE 1 eStr a1)] zB ?_
 refine J_d 12 [] [5] [(5,iv 0)] [] [] zB ?_
 refine zE2 (zBu.ok q _ (fun v14=>J_j ?_) (a1,a2,0))
 refine J_g 14 [] [(4,iv v14.2)] [(0,rE 1 eStr v14.1)] zB ?_
 exact zQ rfl
end Go.Told

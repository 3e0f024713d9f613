import Derived.Test.YtdeihchdibglaaaGreatOkFnPlansx2
set_option linter.unusedVariables false
set_option maxRecDepth 4000
namespace Go.Told
open Go Go.Im Go.Proofs
noncomputable def c18:Code:=(Tryz.f18.body).getD .skip
theorem zBo.ok (a1:(List Pack)) (a2:(List Int)) (a3:(List Int)) (a4:(List ByteArray)):Ok Tryz.prog 18 [sl 8 (Pack.enc false) a1,sl 1 zC a2,sl 1 zC a3,sl 1 eStr a4] [] ((zBo a1 a2 a3 a4).map fun r=>(.ag [iv r.Code,iv r.At,so 1 zC r.Set],[])):=by
 refine zJ c18 Tryz.f18 0 35 (fun q=>?_)
 unfold zBo
 refine J_d 2 [(0,0)] [8] [(8,pp 0)] [0] [(0,.box [iv 0,iv 0,nv])] zB ?_
 refine zA (fun x5 h6=>?_)
 refine zA (fun x7 h8=>?_)
 refine zA (fun x9 h10=>?_)
 refine J_d 6 [] [9] [(9,iv x9)] [] [] (zF 2 (vZ [(.tmp 10),(.tmp 11)] [24,25] (xS.ok a1 a2) h6) (zF 5 (vZ [(.tmp 13),(.tmp 14)] [24,25] (xS.ok a1 a3) h8) (zF 6 (zBw 25 2 1 1 zC [x5,x7] [0,1] [(.tmp 12),(.tmp 15)] [iv x5,iv x7]) (zF 7 (vJ («as»:=[rr 1 [x5,x7]]) [(.tmp 16)] [25] true [(1,rE 1 zC [x5,x7])] [] (.cons (zDY (.head _) (fun _=>rfl) rfl) (.nil)) (vH.ok [x5,x7]) h10 (.same rfl rfl) (hbor:=fun _=>⟨fhN,yV⟩)) zB)))) ?_
 refine wU (atI c18 29) (fun v12:Bool=>St.mk' [(0,sl 8 (Pack.enc false) a1),(1,sl 1 zC a2),(2,sl 1 zC a3),(3,sl 1 eStr a4),(8,pp 0),(9,iv x9),(24,bv v12)] [(0,.box [iv 0,iv 0,nv])]) (fun v12=>?_) (fun jv12=>?_)
 ·refine wU (atI c18 15) (fun v14:Int=>St.mk' [(0,sl 8 (Pack.enc false) a1),(1,sl 1 zC a2),(2,sl 1 zC a3),(3,sl 1 eStr a4),(8,pp 0),(9,iv v14)] [(0,.box [iv 0,iv 0,nv])]) (fun v14=>?_) (fun jv14=>?_)
  ·refine J_d 60 [] [26] [(26,bv (v14 !=0))] [] [] zB ?_
   refine zG 26 (fun h15=>?_) (fun h15=>?_)
   ·refine J_g 244 [] [(8,pp 0)] [(0,.box [iv v14,iv 0,nv])] zB ?_
    exact zDZ (ds:=[.ag [iv v14,iv 0,nv]]) (ds':=[.ag [iv v14,iv 0,so 1 zC ([]:List Int)]]) (.cons (.ag (.keep rfl (.keep rfl (.nilsl true 1 (.nil))))) (.nil) (by decide)) rfl
   ·refine zA (fun x16 h17=>?_)
    refine J_g 62 [] [(8,pp 0)] [(0,.box [iv 0,iv 0,rr 1 x16]),(1,rE 1 zC x16)] (zF 4 (vJ («as»:=[sl 8 (Pack.enc false) a1,sl 1 zC a2,sl 1 zC a3,sl 1 eStr a4]) [(.tmp 29),(.tmp 30),(.tmp 31),(.tmp 32)] [24,25,25,32] false [] [] (.cons (.same rfl) (.cons (.same rfl) (.cons (.same rfl) (.cons (.same rfl) (.nil))))) (jZ.ok a1 a2 a3 a4) h17 (.own 1)) zB) ?_
    exact zDZ (ds:=[.ag [iv 0,iv 0,rr 1 x16]]) (ds':=[.ag [iv 0,iv 0,so 1 zC x16]]) (.cons (.ag (.keep rfl (.keep rfl (.move (.tail _ (.head _)) (List.length_map _) (by decide) (.nil))))) (.nil) (by decide)) rfl
  ·refine zG 24 (fun h13=>?_) (fun h13=>?_)
   ·refine J_d 58 [] [9,24] [(9,iv 2)] [] [] zB ?_
    exact xA (J_j (jv14 2)) rfl
   ·exact xA (J_j (jv14 x9)) rfl
 ·refine uN (fun h11=>?_) (fun h11=>?_)
  ·refine J_d 28 [] [24] [(24,bv (decide ((a4.length:Int)>24)))] [] [] (vV 2 [(19,bv (x9==0))] [] h11 zB) ?_
   exact xA (J_j (jv12 (decide ((a4.length:Int)>24)))) rfl
  ·refine J_d 28 [] [24] [(24,bv false)] [] [] (vV 2 [(19,bv (x9==0))] [] h11 zB) ?_
   exact xA (J_j (jv12 false)) rfl
noncomputable def c25:Code:=(Tryz.f25.body).getD .skip
theorem zC0.ok (a1:(List Int)) (a2:(List Int)) (q:Wd) (kn:Unit→Option (D×List Ent)) (hk:∀v:Unit,J (q.g Tryz.prog 25 0 26) c25 (atI c25 15) (St.mk' [] []) (some v) kn):
  ∀s10:Int,J (q.g Tryz.prog 25 0 26) c25 (atI c25 116) (St.mk' [(0,sl 1 zC a1),(1,sl 1 zC a2),(5,iv s10)] []) (zC0 a1 a2 s10) (Fl.go (fun r:Bool=>some (bv r,[])) kn):=by
 refine zAC (fun g ih s10=>?_)
 unfold zDW
 refine J_d 464 [] [14] [(14,bv (decide (s10< (a1.length:Int))))] [] [] zB ?_
 refine zG 14 (fun h11=>?_) (fun h11=>?_)
 ·refine zA (fun x12 h13=>?_)
  refine zA (fun x14 h15=>?_)
  refine J_d 1864 [] [14,25] [(25,bv (x12 !=x14))] [] [] (zF 2 (kD (kk:=.i64) 25 2 1 zC (.tmp 17) (.tmp 18) h13) (zF 6 (kD (kk:=.i64) 25 2 1 zC (.tmp 21) (.tmp 22) h15) zB)) ?_
  refine zG 25 (fun h16=>?_) (fun h16=>?_)
  ·refine J_g 7460 [] [(4,bv false)] [] zB ?_
   exact xJ rfl
  ·refine J_d 467 [] [5,25] [(5,iv (w64 (s10+1)))] [] [] zB ?_
   exact J_q (J_b (ih (w64 (s10+1)))) rfl
 ·exact xA (hk ()) rfl
theorem zBl.ok (a1:(List Int)) (a2:(List Int)):Ok Tryz.prog 25 [sl 1 zC a1,sl 1 zC a2] [] ((zBl a1 a2).map fun r=>(bv r,[])):=by
 refine zJ c25 Tryz.f25 0 26 (fun q=>?_)
 unfold zBl
 refine J_g 2 [] [(0,sl 1 zC a1),(1,sl 1 zC a2)] [] zB ?_
 refine J_d 12 [] [10] [(10,bv ((a1.length:Int) !=(a2.length:Int)))] [] [] zB ?_
 refine zG 10 (fun h3=>?_) (fun h3=>?_)
 ·refine J_g 52 [] [(4,bv false)] [] zB ?_
  exact xJ rfl
 ·refine J_d 28 [] [5,10] [(5,iv 0)] [] [] zB ?_
  refine jW (K0:=(fun r:Bool=>some (bv r,[]))) (fun _=>rfl) (zC0.ok a1 a2 q _ (fun v17=>J_j ?_) 0)
  refine J_g 30 [] [(4,bv true)] [] zB ?_
  exact xJ rfl
noncomputable def c12:Code:=(Tryz.f12.body).getD .skip
theorem zCD.ok (a1:(List ByteArray)) (a2:ByteArray) (q:Wd) (kn:Unit→Option (D×List Ent)) (hk:∀v:Unit,J (q.g Tryz.prog 12 0 18) c12 (atI c12 7) (St.mk' [] []) (some v) kn):
  ∀s7:Int,J (q.g Tryz.prog 12 0 18) c12 (atI c12 52) (St.mk' [(0,sl 1 eStr a1),(1,sv a2),(5,iv s7)] []) (zCD a1 a2 s7) (Fl.go (fun r:Bool=>some (bv r,[])) kn):=by
 refine zAC (fun g ih s7=>?_)
 unfold zCe
 refine J_d 208 [] [9] [(9,bv (decide (s7< (a1.length:Int))))] [] [] zB ?_
 refine zG 9 (fun h8=>?_) (fun h8=>?_)
 ·refine zA (fun x9 h10=>?_)
  refine J_d 840 [] [9,17] [(17,bv (seq x9 a2))] [] [] (zF 2 (kD (kk:=.i64) 32 9 1 eStr (.tmp 12) (.tmp 13) h10) zB) ?_
  refine zG 17 (fun h11=>?_) (fun h11=>?_)
  ·refine J_g 3364 [] [(4,bv true)] [] zB ?_
   exact xJ rfl
  ·refine J_d 211 [] [5,17] [(5,iv (w64 (s7+1)))] [] [] zB ?_
   exact J_q (J_b (ih (w64 (s7+1)))) rfl
 ·exact xA (hk ()) rfl
theorem zBc.ok (a1:(List ByteArray)) (a2:ByteArray):Ok Tryz.prog 12 [sl 1 eStr a1,sv a2] [] ((zBc a1 a2).map fun r=>(bv r,[])):=by
 refine zJ c12 Tryz.f12 0 18 (fun q=>?_)
 unfold zBc
 refine J_g 2 [] [(0,sl 1 eStr a1),(1,sv a2)] [] zB ?_
 refine J_d 12 [] [5] [(5,iv 0)] [] [] zB ?_
 refine jW (K0:=(fun r:Bool=>some (bv r,[]))) (fun _=>rfl) (zCD.ok a1 a2 q _ (fun v12=>J_j ?_) 0)
 refine J_g 14 [] [(4,bv false)] [] zB ?_
 exact xJ rfl
noncomputable def c54:Code:=(Tryz.f54.body).getD .skip
theorem jV.ok (a1:(List Int)) (a2:(List Int)) (q:Wd) (kn:Unit→Option (D×List Ent)) (hk:∀v:Unit,J (q.g Tryz.prog 54 0 26) c54 (atI c54 15) (St.mk' [] []) (some v) kn):
  ∀s10:Int,J (q.g Tryz.prog 54 0 26) c54 (atI c54 116) (St.mk' [(0,sl 1 zC a1),(1,sl 1 zC a2),(12,iv (a1.length:Int)),(13,iv s10)] []) (jV a1 a2 s10) (Fl.go (fun r:Bool=>some (bv r,[])) kn):=by
 refine zAC (fun g ih s10=>?_)
 unfold jG
 refine J_d 232 [] [14] [(14,bv (decide (s10< (a1.length:Int))))] [] [] zB ?_
 refine zG 14 (fun h11=>?_) (fun h11=>?_)
 ·refine J_d 3736 [] [5,14] [(5,iv s10)] [] [] zB ?_
  refine zA (fun x12 h13=>?_)
  refine zA (fun x14 h15=>?_)
  refine J_d 7474 [] [5,24] [(24,bv (x12 !=x14))] [] [] (zF 2 (kD (kk:=.i64) 25 2 1 zC (.tmp 16) (.tmp 17) h13) (zF 6 (kD (kk:=.i64) 25 2 1 zC (.tmp 20) (.tmp 21) h15) zB)) ?_
  refine zG 24 (fun h16=>?_) (fun h16=>?_)
  ·refine J_g 29900 [] [(4,bv false)] [] zB ?_
   exact xJ rfl
  ·refine J_d 935 [] [13,24] [(13,iv (w64 (s10+1)))] [] [] zB ?_
   exact J_q (J_b (ih (w64 (s10+1)))) rfl
 ·exact xA (hk ()) rfl
theorem tT.ok (a1:(List Int)) (a2:(List Int)):Ok Tryz.prog 54 [sl 1 zC a1,sl 1 zC a2] [] ((tT a1 a2).map fun r=>(bv r,[])):=by
 refine zJ c54 Tryz.f54 0 26 (fun q=>?_)
 unfold tT
 refine J_g 2 [] [(0,sl 1 zC a1),(1,sl 1 zC a2)] [] zB ?_
 refine J_d 12 [] [10] [(10,bv ((a1.length:Int) !=(a2.length:Int)))] [] [] zB ?_
 refine zG 10 (fun h3=>?_) (fun h3=>?_)
 ·refine J_g 52 [] [(4,bv false)] [] zB ?_
  exact xJ rfl
 ·refine J_d 28 [] [10,12,13] [(12,iv (a1.length:Int)),(13,iv 0)] [] [] zB ?_
  refine jW (K0:=(fun r:Bool=>some (bv r,[]))) (fun _=>rfl) (jV.ok a1 a2 q _ (fun v17=>J_j ?_) 0)
  refine J_g 30 [] [(4,bv true)] [] zB ?_
  exact xJ rfl
noncomputable def c26:Code:=(Tryz.f26.body).getD .skip
theorem zBD.ok (a1:(List Pack)) (a3:(List (List Int))) (q:Wd) (kn:Unit→Option (D×List Ent)) (hk:∀v:Unit,J (q.g Tryz.prog 26 0 42) c26 (atI c26 15) (St.mk' [] []) (some v) kn):
  ∀s24:((List Int)×Int),J (q.g Tryz.prog 26 0 42) c26 (atI c26 116) (St.mk' [(0,sl 8 (Pack.enc false) a1),(1,sl 1 zC s24.1),(19,sl 1 (eSl false 1 zC) a3),(20,iv (a3.length:Int)),(21,iv s24.2)] []) (zBD a1 a3 s24) (Fl.go (fun r:Bool=>some (bv r,[])) kn):=by
 refine zAC (fun g ih s24=>?_)
 unfold zAP
 refine J_d 232 [] [22] [(22,bv (decide (s24.2< (a3.length:Int))))] [] [] zB ?_
 refine zG 22 (fun h25=>?_) (fun h25=>?_)
 ·refine zA (fun x26 h27=>?_)
  refine J_d 3736 [] [8,22] [(8,sl 1 zC x26)] [] [] (zF 0 (kD (kk:=.i64) 46 25 1 (eSl false 1 zC) (.tmp 19) (.tmp 21) h27) zB) ?_
  refine zA (fun x28 h29=>?_)
  refine wU (atI c26 14949) (fun v36:Bool=>St.mk' [(0,sl 8 (Pack.enc false) a1),(8,sl 1 zC x26),(19,sl 1 (eSl false 1 zC) a3),(20,iv (a3.length:Int)),(21,iv s24.2),(39,bv v36)] []) (fun v36=>?_) (fun jv36=>?_)
  ·refine zG 39 (fun h37=>?_) (fun h37=>?_)
   ·refine J_g 59796 [] [(6,bv false)] [] zB ?_
    exact xJ rfl
   ·refine J_g 7475 [] [(0,sl 8 (Pack.enc false) a1),(1,sl 1 zC x26),(19,sl 1 (eSl false 1 zC) a3),(20,iv (a3.length:Int)),(21,iv s24.2)] [] zB ?_
    refine J_d 935 [] [21] [(21,iv (w64 (s24.2+1)))] [] [] zB ?_
    exact J_q (J_b (ih (x26,w64 (s24.2+1)))) rfl
  ·refine uN (fun h30=>?_) (fun h30=>?_)
   ·refine J_d 14948 [] [1,39] [(39,bv true)] [] [] (zF 2 (vZ [(.tmp 25),(.tmp 26)] [24,25] (xS.ok a1 x26) h29) (vV 4 [(28,bv (x28 !=0))] [] h30 zB)) ?_
    exact xA (J_j (jv36 true)) rfl
   ·refine zA (fun x31 h32=>?_)
    refine uN (fun h33=>?_) (fun h33=>?_)
    ·refine J_d 14948 [] [1,39] [(39,bv true)] [] [] (zF 2 (vZ [(.tmp 25),(.tmp 26)] [24,25] (xS.ok a1 x26) h29) (vV 4 [(28,bv (x28 !=0))] [] h30 (zAR 7 4 29 false (vZ [(.tmp 30),(.tmp 31)] [24,25] (xQ.ok a1 x26) h32) (vV 10 [(34,bv (!x31))] [] h33 zB)))) ?_
     exact xA (J_j (jv36 true)) rfl
    ·refine zA (fun x34 h35=>?_)
     refine J_d 14948 [] [1,39] [(39,bv x34)] [] [] (zF 2 (vZ [(.tmp 25),(.tmp 26)] [24,25] (xS.ok a1 x26) h29) (vV 4 [(28,bv (x28 !=0))] [] h30 (zAR 7 4 29 false (vZ [(.tmp 30),(.tmp 31)] [24,25] (xQ.ok a1 x26) h32) (vV 10 [(34,bv (!x31))] [] h33 (zAR 13 10 35 false (vZ [(.tmp 36),(.tmp 37)] [25,25] (tT.ok x26 s24.1) h35) zB))))) ?_
     exact xA (J_j (jv36 x34)) rfl
 ·exact xA (hk ()) rfl
theorem kH.ok (a1:(List Pack)) (a2:(List Int)) (a3:(List (List Int))):Ok Tryz.prog 26 [sl 8 (Pack.enc false) a1,sl 1 zC a2,sl 1 (eSl false 1 zC) a3] [] ((kH a1 a2 a3).map fun r=>(bv r,[])):=by
 refine zJ c26 Tryz.f26 0 42 (fun q=>?_)
 unfold kH
 refine J_d 2 [] [] [] [] [] zB ?_
 refine zA (fun x4 h5=>?_)
 refine wU (atI c26 13) (fun v9:Bool=>St.mk' [(0,sl 8 (Pack.enc false) a1),(1,sl 1 zC a2),(2,sl 1 (eSl false 1 zC) a3),(18,bv v9)] []) (fun v9=>?_) (fun jv9=>?_)
 ·refine zG 18 (fun h10=>?_) (fun h10=>?_)
  ·refine J_g 52 [] [(6,bv false)] [] zB ?_
   exact xJ rfl
  ·refine J_d 28 [] [2,18,19,20,21] [(19,sl 1 (eSl false 1 zC) a3),(20,iv (a3.length:Int)),(21,iv 0)] [] [] zB ?_
   refine jW (K0:=(fun r:Bool=>some (bv r,[]))) (fun _=>rfl) (zBD.ok a1 a3 q _ (fun v38=>J_j ?_) (a2,0))
   refine J_g 30 [] [(6,bv true)] [] zB ?_
   exact xJ rfl
 ·refine uN (fun h6=>?_) (fun h6=>?_)
  ·refine J_d 12 [] [18] [(18,bv true)] [] [] (zF 2 (vZ [(.tmp 9),(.tmp 10)] [24,25] (xS.ok a1 a2) h5) (vV 4 [(12,bv (x4 !=0))] [] h6 zB)) ?_
   exact xA (J_j (jv9 true)) rfl
  ·refine zA (fun x7 h8=>?_)
   refine J_d 12 [] [18] [(18,bv (!x7))] [] [] (zF 2 (vZ [(.tmp 9),(.tmp 10)] [24,25] (xS.ok a1 a2) h5) (vV 4 [(12,bv (x4 !=0))] [] h6 (zAR 7 4 13 false (vZ [(.tmp 14),(.tmp 15)] [24,25] (xQ.ok a1 a2) h8) zB))) ?_
   exact xA (J_j (jv9 (!x7))) rfl
noncomputable def c27:Code:=(Tryz.f27.body).getD .skip
theorem zA0.ok (a1:(List Pack)) (a2:(List Int)) (a3:(List Int)):Ok Tryz.prog 27 [sl 8 (Pack.enc false) a1,sl 1 zC a2,sl 1 zC a3] [] ((zA0 a1 a2 a3).map fun r=>(.ag (zCf.enc r),[])):=by
 refine zJ c27 Tryz.f27 0 28 (fun q=>?_)
 unfold zA0
 refine J_d 2 [(0,0)] [6] [(6,pp 0)] [0] [(0,.box [iv 0,iv 0])] zB ?_
 refine zA (fun x4 h5=>?_)
 refine J_g 12 [] [(0,sl 8 (Pack.enc false) a1),(1,sl 1 zC a2),(2,sl 1 zC a3),(6,pp 0),(9,iv x4.2.2)] [(0,.box [iv 0,iv 0])] (zF 3 (vJ («as»:=[sl 8 (Pack.enc false) a1,sl 1 zC a2,sl 1 zC a3]) [(.tmp 11),(.tmp 12),(.tmp 13)] [24,25,25] false [] [] (.cons (.same rfl) (.cons (.same rfl) (.cons (.same rfl) (.nil)))) (zCH.ok a1 a2 a3) h5 (.tu (.cons (.own 1) (.cons (.own 2) (.cons (.same rfl rfl) (.nil)))))) zB) ?_
 refine J_d 26 [] [19] [(19,bv (x4.2.2 !=0))] [] [] zB ?_
 refine zG 19 (fun h6=>?_) (fun h6=>?_)
 ·refine J_g 108 [] [(6,pp 0)] [(0,.box [iv x4.2.2,iv 0])] zB ?_
  exact xJ rfl
 ·refine zA (fun x7 h8=>?_)
  refine J_g 14 [] [(6,pp 0)] [(0,.box [iv 0,iv (x7.length:Int)])] (zF 3 (vJ («as»:=[sl 8 (Pack.enc false) a1,sl 1 zC a2,sl 1 zC a3]) [(.tmp 22),(.tmp 23),(.tmp 24)] [24,25,25] false [] [] (.cons (.same rfl) (.cons (.same rfl) (.cons (.same rfl) (.nil)))) (kM.ok a1 a2 a3) h8 (.own 1)) zB) ?_
  exact xJ rfl
noncomputable def c6:Code:=(Tryz.f6.body).getD .skip
theorem zB1.ok (x5:((List Pack)×(List Int)×(List Int))) (x7:wP) (x9:yB) (x15:yB) (s199:((List Int)×Int)) (x212:(List Int)) (s251:(Int×Int)) (q:Wd) (kn:Unit→Option (D×List Ent)) (hk:∀v:Unit,J (q.g Tryz.prog 6 0 157) c6 (aft c6 67015588) (St.mk' [(3,rr 0 x5.1),(4,sl 1 zC x5.2.1),(5,rr 1 x5.2.2),(6,pp 3),(7,pp 5),(8,sl 1 zC x212),(9,rr 6 x15.Parts),(10,iv s199.2),(11,iv (w64 (s251.1+1))),(12,iv s251.2)] [(0,rE 8 (Pack.enc false) x5.1),(1,rE 1 zC x5.2.2),(2,rE 1 (eSl false 1 zC) x7.Sets),(3,.box [iv x7.Code,rr 2 x7.Sets]),(4,rE 1 (eSl true 1 eStr) x9.Parts),(5,.box [iv x9.Code,rr 4 x9.Parts]),(6,rE 1 (eSl true 1 eStr) x15.Parts)]) (some v) kn):
  ∀s274:Int,J (q.g Tryz.prog 6 0 157) c6 (atI c6 4288997676) (St.mk' [(3,rr 0 x5.1),(4,sl 1 zC x5.2.1),(5,rr 1 x5.2.2),(6,pp 3),(7,pp 5),(8,sl 1 zC x212),(9,rr 6 x15.Parts),(10,iv s199.2),(11,iv (w64 (s251.1+1))),(12,iv s251.2),(13,iv s274)] [(0,rE 8 (Pack.enc false) x5.1),(1,rE 1 zC x5.2.2),(2,rE 1 (eSl false 1 zC) x7.Sets),(3,.box [iv x7.Code,rr 2 x7.Sets]),(4,rE 1 (eSl true 1 eStr) x9.Parts),(5,.box [iv x9.Code,rr 4 x9.Parts]),(6,rE 1 (eSl true 1 eStr) x15.Parts)]) (zB1 x5 x7 x9 x15 s199 x212 s251 s274) (Fl.go (fun r:Bool=>some (bv r,[])) kn):=by
 refine zAC (fun g ih s274=>?_)
 unfold zD5
 refine zA (fun x275 h276=>?_)
 refine J_d 17155990704 [] [117] [(117,bv (decide (s274< (x275.length:Int))))] [] [] (zF 4 (zB5 (kk:=.i64) 28 32 1 4 (eSl true 1 eStr) (.tmp 112) (.tmp 113) h276) (zF 5 (zPB (d:=.ln x275.length) 32 1 4 0 (eSl true 1 eStr) (.tmp 114) h276 (by kernel_rfl)) zB)) ?_
 refine zG 117 (fun h277=>?_) (fun h277=>?_)
 ·refine zA (fun x278 h279=>?_)
  refine zF5 (ix:=s251.2) (enc:=(eSl true 1 eStr)) 6 0 7 h279 rfl rfl (by kernel_rfl) ?_
  refine zBv [(3,rr 0 x5.1),(4,sl 1 zC x5.2.1),(5,rr 1 x5.2.2),(6,pp 3),(7,pp 5),(8,sl 1 zC x212),(9,rr 6 x15.Parts),(10,iv s199.2),(11,iv (w64 (s251.1+1))),(12,iv s251.2),(13,iv s274),(117,bv true)] [(0,rE 8 (Pack.enc false) x5.1),(1,rE 1 zC x5.2.2),(2,rE 1 (eSl false 1 zC) x7.Sets),(3,.box [iv x7.Code,rr 2 x7.Sets]),(4,rE 1 (eSl true 1 eStr) x9.Parts),(5,.box [iv x9.Code,rr 4 x9.Parts]),(6,.lent 1 (x15.Parts.map (eSl true 1 eStr)) s251.2.toNat 0 7 x278.length),(7,rE 1 eStr x278)] (by kernel_rfl) ?_
  refine zA (fun x280 h281=>?_)
  refine zF5 (ix:=s199.2) (enc:=(eSl true 1 eStr)) 4 0 8 h281 rfl rfl (by kernel_rfl) ?_
  refine zBv [(3,rr 0 x5.1),(4,sl 1 zC x5.2.1),(5,rr 1 x5.2.2),(6,pp 3),(7,pp 5),(8,sl 1 zC x212),(9,rr 6 x15.Parts),(10,iv s199.2),(11,iv (w64 (s251.1+1))),(12,iv s251.2),(13,iv s274),(117,bv true)] [(0,rE 8 (Pack.enc false) x5.1),(1,rE 1 zC x5.2.2),(2,rE 1 (eSl false 1 zC) x7.Sets),(3,.box [iv x7.Code,rr 2 x7.Sets]),(4,.lent 1 (x9.Parts.map (eSl true 1 eStr)) s199.2.toNat 0 8 x280.length),(5,.box [iv x9.Code,rr 4 x9.Parts]),(6,.lent 1 (x15.Parts.map (eSl true 1 eStr)) s251.2.toNat 0 7 x278.length),(7,rE 1 eStr x278),(8,rE 1 eStr x280)] (by kernel_rfl) ?_
  refine zA (fun x282 h283=>?_)
  refine zA (fun x284 h285=>?_)
  refine J_g 68623962824 [] [(3,rr 0 x5.1),(4,sl 1 zC x5.2.1),(5,rr 1 x5.2.2),(6,pp 3),(7,pp 5),(8,sl 1 zC x212),(9,rr 6 x15.Parts),(10,iv s199.2),(11,iv (w64 (s251.1+1))),(12,iv s251.2),(13,iv s274),(133,bv (!x284))] [(0,rE 8 (Pack.enc false) x5.1),(1,rE 1 zC x5.2.2),(2,rE 1 (eSl false 1 zC) x7.Sets),(3,.box [iv x7.Code,rr 2 x7.Sets]),(4,.lent 1 (x9.Parts.map (eSl true 1 eStr)) s199.2.toNat 0 8 x280.length),(5,.box [iv x9.Code,rr 4 x9.Parts]),(6,.lent 1 (x15.Parts.map (eSl true 1 eStr)) s251.2.toNat 0 7 x278.length),(7,rE 1 eStr x278),(8,rE 1 eStr x280)] (zF 2 (zJ5 (kk:=.i64) 28 32 1 6 (eSl true 1 eStr) (.tmp 120) (.tmp 121) s251.2.toNat 0 7 x278.length h279) (zF 3 (zIQ 32 6 (.tmp 122) 1 (eSl true 1 eStr) x15.Parts s251.2.toNat 0 7 x278.length) (zF 7 (zJ5 (kk:=.i64) 28 32 1 4 (eSl true 1 eStr) (.tmp 125) (.tmp 126) s199.2.toNat 0 8 x280.length h281) (zF 8 (zIQ 32 4 (.tmp 127) 1 (eSl true 1 eStr) x9.Parts s199.2.toNat 0 8 x280.length) (zF 10 (zB5 (kk:=.i64) 32 9 1 8 eStr (.tmp 128) (.tmp 129) h283) (zF 11 (zBU (d:=sv x282) 9 1 8 0 eStr (.tmp 130) h283 (by kernel_rfl)) (zF 12 (vJ («as»:=[rr 7 x278,sv x282]) [(.tmp 123),(.tmp 131)] [32,9] true [(7,rE 1 eStr x278)] [] (.cons (zDY (.head _) (fun _=>rfl) rfl) (.cons (.same rfl) (.nil))) (zBc.ok x278 x282) h285 (.same rfl rfl) (hbor:=fun _=>⟨fhN,yV⟩)) zB))))))) ?_
  refine zG6 (ix:=s199.2) (enc:=(eSl true 1 eStr)) (b:=x280) 4 0 8 h281 rfl rfl rfl rfl rfl (Nat.le_of_ble_eq_true rfl) (List.length_map _) ?_
  rw [zFK h281]
  refine zBv [(3,rr 0 x5.1),(4,sl 1 zC x5.2.1),(5,rr 1 x5.2.2),(6,pp 3),(7,pp 5),(8,sl 1 zC x212),(9,rr 6 x15.Parts),(10,iv s199.2),(11,iv (w64 (s251.1+1))),(12,iv s251.2),(13,iv s274),(133,bv (!x284))] [(0,rE 8 (Pack.enc false) x5.1),(1,rE 1 zC x5.2.2),(2,rE 1 (eSl false 1 zC) x7.Sets),(3,.box [iv x7.Code,rr 2 x7.Sets]),(4,rE 1 (eSl true 1 eStr) x9.Parts),(5,.box [iv x9.Code,rr 4 x9.Parts]),(6,.lent 1 (x15.Parts.map (eSl true 1 eStr)) s251.2.toNat 0 7 x278.length),(7,rE 1 eStr x278)] (by kernel_rfl) ?_
  refine zG6 (ix:=s251.2) (enc:=(eSl true 1 eStr)) (b:=x278) 6 0 7 h279 rfl rfl rfl rfl rfl (Nat.le_of_ble_eq_true rfl) (List.length_map _) ?_
  rw [zFK h279]
  refine zBv [(3,rr 0 x5.1),(4,sl 1 zC x5.2.1),(5,rr 1 x5.2.2),(6,pp 3),(7,pp 5),(8,sl 1 zC x212),(9,rr 6 x15.Parts),(10,iv s199.2),(11,iv (w64 (s251.1+1))),(12,iv s251.2),(13,iv s274),(133,bv (!x284))] [(0,rE 8 (Pack.enc false) x5.1),(1,rE 1 zC x5.2.2),(2,rE 1 (eSl false 1 zC) x7.Sets),(3,.box [iv x7.Code,rr 2 x7.Sets]),(4,rE 1 (eSl true 1 eStr) x9.Parts),(5,.box [iv x9.Code,rr 4 x9.Parts]),(6,rE 1 (eSl true 1 eStr) x15.Parts)] (by kernel_rfl) ?_
  refine zG 133 (fun h286=>?_) (fun h286=>?_)
  ·refine J_g 274495851300 [] [(2,bv false)] [] zB ?_
   exact xJ rfl
  ·refine J_d 17155990707 [] [13,133] [(13,iv (w64 (s274+1)))] [] [] zB ?_
   exact J_q (J_b (ih (w64 (s274+1)))) rfl
 ·exact xA (hk ()) rfl
theorem zCM.ok (x5:((List Pack)×(List Int)×(List Int))) (x7:wP) (x9:yB) (x15:yB) (s199:((List Int)×Int)) (x212:(List Int)) (q:Wd) (kn:Int→Option (D×List Ent)) (hk:∀v:Int,J (q.g Tryz.prog 6 0 157) c6 (atI c6 1047119) (St.mk' [(3,rr 0 x5.1),(4,sl 1 zC x5.2.1),(5,rr 1 x5.2.2),(6,pp 3),(7,pp 5),(8,sl 1 zC x212),(9,rr 6 x15.Parts),(10,iv s199.2),(11,iv v)] [(0,rE 8 (Pack.enc false) x5.1),(1,rE 1 zC x5.2.2),(2,rE 1 (eSl false 1 zC) x7.Sets),(3,.box [iv x7.Code,rr 2 x7.Sets]),(4,rE 1 (eSl true 1 eStr) x9.Parts),(5,.box [iv x9.Code,rr 4 x9.Parts]),(6,rE 1 (eSl true 1 eStr) x15.Parts)]) (some v) kn):
  ∀s251:(Int×Int),J (q.g Tryz.prog 6 0 157) c6 (atI c6 8376948) (St.mk' [(3,rr 0 x5.1),(4,sl 1 zC x5.2.1),(5,rr 1 x5.2.2),(6,pp 3),(7,pp 5),(8,sl 1 zC x212),(9,rr 6 x15.Parts),(10,iv s199.2),(11,iv s251.1),(12,iv s251.2)] [(0,rE 8 (Pack.enc false) x5.1),(1,rE 1 zC x5.2.2),(2,rE 1 (eSl false 1 zC) x7.Sets),(3,.box [iv x7.Code,rr 2 x7.Sets]),(4,rE 1 (eSl true 1 eStr) x9.Parts),(5,.box [iv x9.Code,rr 4 x9.Parts]),(6,rE 1 (eSl true 1 eStr) x15.Parts)]) (zCM x5 x7 x9 x15 s199 x212 s251) (Fl.go (fun r:Bool=>some (bv r,[])) kn):=by
 refine zAC (fun g ih s251=>?_)
 unfold zCb
 refine J_d 33507792 [] [93] [(93,bv (decide (s251.2< (x15.Parts.length:Int))))] [] [] zB ?_
 refine zG 93 (fun h252=>?_) (fun h252=>?_)
 ·refine zA (fun x253 h254=>?_)
  refine zF5 (ix:=s251.2) (enc:=(eSl true 1 eStr)) 6 0 7 h254 rfl rfl (by kernel_rfl) ?_
  refine zBv [(3,rr 0 x5.1),(4,sl 1 zC x5.2.1),(5,rr 1 x5.2.2),(6,pp 3),(7,pp 5),(8,sl 1 zC x212),(9,rr 6 x15.Parts),(10,iv s199.2),(11,iv s251.1),(12,iv s251.2),(93,bv true)] [(0,rE 8 (Pack.enc false) x5.1),(1,rE 1 zC x5.2.2),(2,rE 1 (eSl false 1 zC) x7.Sets),(3,.box [iv x7.Code,rr 2 x7.Sets]),(4,rE 1 (eSl true 1 eStr) x9.Parts),(5,.box [iv x9.Code,rr 4 x9.Parts]),(6,.lent 1 (x15.Parts.map (eSl true 1 eStr)) s251.2.toNat 0 7 x253.length),(7,rE 1 eStr x253)] (by kernel_rfl) ?_
  refine zA (fun x255 h256=>?_)
  refine zF5 (ix:=s199.2) (enc:=(eSl true 1 eStr)) 4 0 8 h256 rfl rfl (by kernel_rfl) ?_
  refine zBv [(3,rr 0 x5.1),(4,sl 1 zC x5.2.1),(5,rr 1 x5.2.2),(6,pp 3),(7,pp 5),(8,sl 1 zC x212),(9,rr 6 x15.Parts),(10,iv s199.2),(11,iv s251.1),(12,iv s251.2),(93,bv true)] [(0,rE 8 (Pack.enc false) x5.1),(1,rE 1 zC x5.2.2),(2,rE 1 (eSl false 1 zC) x7.Sets),(3,.box [iv x7.Code,rr 2 x7.Sets]),(4,.lent 1 (x9.Parts.map (eSl true 1 eStr)) s199.2.toNat 0 8 x255.length),(5,.box [iv x9.Code,rr 4 x9.Parts]),(6,.lent 1 (x15.Parts.map (eSl true 1 eStr)) s251.2.toNat 0 7 x253.length),(7,rE 1 eStr x253),(8,rE 1 eStr x255)] (by kernel_rfl) ?_
  refine zA (fun x257 h258=>?_)
  refine zA (fun x259 h260=>?_)
  refine J_g 134031176 [] [(3,rr 0 x5.1),(4,sl 1 zC x5.2.1),(5,rr 1 x5.2.2),(6,pp 3),(7,pp 5),(8,sl 1 zC x212),(9,rr 6 x15.Parts),(10,iv s199.2),(11,iv s251.1),(12,iv s251.2),(107,bv x259)] [(0,rE 8 (Pack.enc false) x5.1),(1,rE 1 zC x5.2.2),(2,rE 1 (eSl false 1 zC) x7.Sets),(3,.box [iv x7.Code,rr 2 x7.Sets]),(4,.lent 1 (x9.Parts.map (eSl true 1 eStr)) s199.2.toNat 0 8 x255.length),(5,.box [iv x9.Code,rr 4 x9.Parts]),(6,.lent 1 (x15.Parts.map (eSl true 1 eStr)) s251.2.toNat 0 7 x253.length),(7,rE 1 eStr x253),(8,rE 1 eStr x255)] (zF 2 (zJ5 (kk:=.i64) 28 32 1 6 (eSl true 1 eStr) (.tmp 96) (.tmp 97) s251.2.toNat 0 7 x253.length h254) (zF 3 (zIQ 32 6 (.tmp 98) 1 (eSl true 1 eStr) x15.Parts s251.2.toNat 0 7 x253.length) (zF 7 (zJ5 (kk:=.i64) 28 32 1 4 (eSl true 1 eStr) (.tmp 101) (.tmp 102) s199.2.toNat 0 8 x255.length h256) (zF 8 (zIQ 32 4 (.tmp 103) 1 (eSl true 1 eStr) x9.Parts s199.2.toNat 0 8 x255.length) (zF 9 (zB5 (kk:=.i64) 32 9 1 8 eStr (.tmp 104) (.const (.int .i64 0)) h258) (zF 10 (zBU (d:=sv x257) 9 1 8 0 eStr (.tmp 105) h258 (by kernel_rfl)) (zF 11 (vJ («as»:=[rr 7 x253,sv x257]) [(.tmp 99),(.tmp 106)] [32,9] true [(7,rE 1 eStr x253)] [] (.cons (zDY (.head _) (fun _=>rfl) rfl) (.cons (.same rfl) (.nil))) (zBc.ok x253 x257) h260 (.same rfl rfl) (hbor:=fun _=>⟨fhN,yV⟩)) zB))))))) ?_
  refine zG6 (ix:=s199.2) (enc:=(eSl true 1 eStr)) (b:=x255) 4 0 8 h256 rfl rfl rfl rfl rfl (Nat.le_of_ble_eq_true rfl) (List.length_map _) ?_
  rw [zFK h256]
  refine zBv [(3,rr 0 x5.1),(4,sl 1 zC x5.2.1),(5,rr 1 x5.2.2),(6,pp 3),(7,pp 5),(8,sl 1 zC x212),(9,rr 6 x15.Parts),(10,iv s199.2),(11,iv s251.1),(12,iv s251.2),(107,bv x259)] [(0,rE 8 (Pack.enc false) x5.1),(1,rE 1 zC x5.2.2),(2,rE 1 (eSl false 1 zC) x7.Sets),(3,.box [iv x7.Code,rr 2 x7.Sets]),(4,rE 1 (eSl true 1 eStr) x9.Parts),(5,.box [iv x9.Code,rr 4 x9.Parts]),(6,.lent 1 (x15.Parts.map (eSl true 1 eStr)) s251.2.toNat 0 7 x253.length),(7,rE 1 eStr x253)] (by kernel_rfl) ?_
  refine zG6 (ix:=s251.2) (enc:=(eSl true 1 eStr)) (b:=x253) 6 0 7 h254 rfl rfl rfl rfl rfl (Nat.le_of_ble_eq_true rfl) (List.length_map _) ?_
  rw [zFK h254]
  refine zBv [(3,rr 0 x5.1),(4,sl 1 zC x5.2.1),(5,rr 1 x5.2.2),(6,pp 3),(7,pp 5),(8,sl 1 zC x212),(9,rr 6 x15.Parts),(10,iv s199.2),(11,iv s251.1),(12,iv s251.2),(107,bv x259)] [(0,rE 8 (Pack.enc false) x5.1),(1,rE 1 zC x5.2.2),(2,rE 1 (eSl false 1 zC) x7.Sets),(3,.box [iv x7.Code,rr 2 x7.Sets]),(4,rE 1 (eSl true 1 eStr) x9.Parts),(5,.box [iv x9.Code,rr 4 x9.Parts]),(6,rE 1 (eSl true 1 eStr) x15.Parts)] (by kernel_rfl) ?_
  refine zNQ (aft c6 67015588) (fun v288:Int=>St.mk' [(3,rr 0 x5.1),(4,sl 1 zC x5.2.1),(5,rr 1 x5.2.2),(6,pp 3),(7,pp 5),(8,sl 1 zC x212),(9,rr 6 x15.Parts),(10,iv s199.2),(11,iv v288),(12,iv s251.2)] [(0,rE 8 (Pack.enc false) x5.1),(1,rE 1 zC x5.2.2),(2,rE 1 (eSl false 1 zC) x7.Sets),(3,.box [iv x7.Code,rr 2 x7.Sets]),(4,rE 1 (eSl true 1 eStr) x9.Parts),(5,.box [iv x9.Code,rr 4 x9.Parts]),(6,rE 1 (eSl true 1 eStr) x15.Parts)]) (fun v288=>?_) (fun jv288=>?_)
  ·refine J_d 33507795 [] [12] [(12,iv (w64 (s251.2+1)))] [] [] zB ?_
   exact J_q (J_b (ih (v288,w64 (s251.2+1)))) rfl
  ·refine zG 107 (fun h261=>?_) (fun h261=>?_)
   ·refine J_g 536124708 [] [(3,rr 0 x5.1),(4,sl 1 zC x5.2.1),(5,rr 1 x5.2.2),(6,pp 3),(7,pp 5),(8,sl 1 zC x212),(9,rr 6 x15.Parts),(10,iv s199.2),(11,iv (w64 (s251.1+1))),(12,iv s251.2)] [(0,rE 8 (Pack.enc false) x5.1),(1,rE 1 zC x5.2.2),(2,rE 1 (eSl false 1 zC) x7.Sets),(3,.box [iv x7.Code,rr 2 x7.Sets]),(4,rE 1 (eSl true 1 eStr) x9.Parts),(5,.box [iv x9.Code,rr 4 x9.Parts]),(6,rE 1 (eSl true 1 eStr) x15.Parts)] zB ?_
    refine J_d 1072249418 [] [13] [(13,iv 0)] [] [] zB ?_
    refine jW (K0:=(fun r:Bool=>some (bv r,[]))) (fun _=>rfl) (zB1.ok x5 x7 x9 x15 s199 x212 s251 q _ (fun v287=>J_j ?_) 0)
    exact xA (J_j (jv288 (w64 (s251.1+1)))) rfl
   ·exact xA (J_j (jv288 s251.1)) rfl
 ·exact xA (hk s251.1) rfl
theorem zCS.ok (x5:((List Pack)×(List Int)×(List Int))) (x7:wP) (x9:yB) (x15:yB) (q:Wd) (kn:(List Int)→Option (D×List Ent)) (hk:∀v:(List Int),J (q.g Tryz.prog 6 0 157) c6 (atI c6 1023) (St.mk' [(3,rr 0 x5.1),(4,sl 1 zC x5.2.1),(5,rr 1 x5.2.2),(6,pp 3),(8,sl 1 zC v)] [(0,rE 8 (Pack.enc false) x5.1),(1,rE 1 zC x5.2.2),(2,rE 1 (eSl false 1 zC) x7.Sets),(3,.box [iv x7.Code,rr 2 x7.Sets])]) (some v) kn):
  ∀s199:((List Int)×Int),J (q.g Tryz.prog 6 0 157) c6 (atI c6 8180) (St.mk' [(3,rr 0 x5.1),(4,sl 1 zC x5.2.1),(5,rr 1 x5.2.2),(6,pp 3),(7,pp 5),(8,sl 1 zC s199.1),(9,rr 6 x15.Parts),(10,iv s199.2)] [(0,rE 8 (Pack.enc false) x5.1),(1,rE 1 zC x5.2.2),(2,rE 1 (eSl false 1 zC) x7.Sets),(3,.box [iv x7.Code,rr 2 x7.Sets]),(4,rE 1 (eSl true 1 eStr) x9.Parts),(5,.box [iv x9.Code,rr 4 x9.Parts]),(6,rE 1 (eSl true 1 eStr) x15.Parts)]) (zCS x5 x7 x9 x15 s199) (Fl.go (fun r:Bool=>some (bv r,[])) kn):=by
 refine zAC (fun g ih s199=>?_)
 unfold zCh
 refine J_d 32720 [] [58] [(58,bv (decide (s199.2< (x7.Sets.length:Int))))] [] [] zB ?_
 refine zG 58 (fun h200=>?_) (fun h200=>?_)
 ·refine wU (atI c6 261777) (fun v210:Bool=>St.mk' [(3,rr 0 x5.1),(4,sl 1 zC x5.2.1),(5,rr 1 x5.2.2),(6,pp 3),(7,pp 5),(9,rr 6 x15.Parts),(10,iv s199.2),(84,bv v210)] [(0,rE 8 (Pack.enc false) x5.1),(1,rE 1 zC x5.2.2),(2,rE 1 (eSl false 1 zC) x7.Sets),(3,.box [iv x7.Code,rr 2 x7.Sets]),(4,rE 1 (eSl true 1 eStr) x9.Parts),(5,.box [iv x9.Code,rr 4 x9.Parts]),(6,rE 1 (eSl true 1 eStr) x15.Parts)]) (fun v210=>?_) (fun jv210=>?_)
  ·refine zG 84 (fun h211=>?_) (fun h211=>?_)
   ·refine J_g 1047108 [] [(2,bv false)] [] zB ?_
    exact xJ rfl
   ·refine zA (fun x212 h213=>?_)
    refine J_g 261778 [] [(3,rr 0 x5.1),(4,sl 1 zC x5.2.1),(5,rr 1 x5.2.2),(6,pp 3),(7,pp 5),(8,sl 1 zC x212),(9,rr 6 x15.Parts),(10,iv s199.2)] [(0,rE 8 (Pack.enc false) x5.1),(1,rE 1 zC x5.2.2),(2,rE 1 (eSl false 1 zC) x7.Sets),(3,.box [iv x7.Code,rr 2 x7.Sets]),(4,rE 1 (eSl true 1 eStr) x9.Parts),(5,.box [iv x9.Code,rr 4 x9.Parts]),(6,rE 1 (eSl true 1 eStr) x15.Parts)] (zF 3 (zB5 (kk:=.i64) 46 25 1 2 (eSl false 1 zC) (.tmp 86) (.tmp 87) h213) (zF 4 (zBU (d:=sl 1 zC x212) 25 1 2 0 (eSl false 1 zC) (.tmp 88) h213 (by kernel_rfl)) zB)) ?_
    refine J_g 523558 [] [(3,rr 0 x5.1),(4,sl 1 zC x5.2.1),(5,rr 1 x5.2.2),(6,pp 3),(7,pp 5),(8,sl 1 zC x212),(9,rr 6 x15.Parts),(10,iv s199.2),(11,iv 0)] [(0,rE 8 (Pack.enc false) x5.1),(1,rE 1 zC x5.2.2),(2,rE 1 (eSl false 1 zC) x7.Sets),(3,.box [iv x7.Code,rr 2 x7.Sets]),(4,rE 1 (eSl true 1 eStr) x9.Parts),(5,.box [iv x9.Code,rr 4 x9.Parts]),(6,rE 1 (eSl true 1 eStr) x15.Parts)] zB ?_
    refine J_d 2094236 [] [12] [(12,iv 0)] [] [] zB ?_
    refine jW (K0:=(fun r:Bool=>some (bv r,[]))) (fun _=>rfl) (zCM.ok x5 x7 x9 x15 s199 x212 q _ (fun v289=>J_j ?_) (0,0))
    refine J_d 2094238 [] [11,135] [(135,bv (v289 !=1))] [] [] zB ?_
    refine zG 135 (fun h290=>?_) (fun h290=>?_)
    ·refine J_g 8376956 [] [(2,bv false)] [] zB ?_
     exact xJ rfl
    ·refine J_d 32723 [] [10,135] [(10,iv (w64 (s199.2+1)))] [] [] zB ?_
     exact J_q (J_b (ih (x212,w64 (s199.2+1)))) rfl
  ·refine uN (fun h201=>?_) (fun h201=>?_)
   ·refine J_d 261776 [] [8,58,84] [(84,bv true)] [] [] (vV 5 [(65,bv (decide (s199.2≥(x9.Parts.length:Int))))] [] h201 zB) ?_
    exact xA (J_j (jv210 true)) rfl
   ·refine zA (fun x202 h203=>?_)
    refine zF5 (ix:=s199.2) (enc:=(eSl true 1 eStr)) 4 0 7 h203 rfl rfl (by kernel_rfl) ?_
    refine zBv [(3,rr 0 x5.1),(4,sl 1 zC x5.2.1),(5,rr 1 x5.2.2),(6,pp 3),(7,pp 5),(8,sl 1 zC s199.1),(9,rr 6 x15.Parts),(10,iv s199.2),(58,bv true)] [(0,rE 8 (Pack.enc false) x5.1),(1,rE 1 zC x5.2.2),(2,rE 1 (eSl false 1 zC) x7.Sets),(3,.box [iv x7.Code,rr 2 x7.Sets]),(4,.lent 1 (x9.Parts.map (eSl true 1 eStr)) s199.2.toNat 0 7 x202.length),(5,.box [iv x9.Code,rr 4 x9.Parts]),(6,rE 1 (eSl true 1 eStr) x15.Parts),(7,rE 1 eStr x202)] (by kernel_rfl) ?_
    refine zA (fun x204 h205=>?_)
    refine zA (fun x206 h207=>?_)
    refine zA (fun x208 h209=>?_)
    refine J_g 261776 [] [(3,rr 0 x5.1),(4,sl 1 zC x5.2.1),(5,rr 1 x5.2.2),(6,pp 3),(7,pp 5),(9,rr 6 x15.Parts),(10,iv s199.2),(84,bv (!x208))] [(0,rE 8 (Pack.enc false) x5.1),(1,rE 1 zC x5.2.2),(2,rE 1 (eSl false 1 zC) x7.Sets),(3,.box [iv x7.Code,rr 2 x7.Sets]),(4,.lent 1 (x9.Parts.map (eSl true 1 eStr)) s199.2.toNat 0 7 x202.length),(5,.box [iv x9.Code,rr 4 x9.Parts]),(6,rE 1 (eSl true 1 eStr) x15.Parts),(7,rE 1 eStr x202)] (vV 5 [(65,bv (decide (s199.2≥(x9.Parts.length:Int))))] [] h201 (zAR 12 5 66 false (zJ5 (kk:=.i64) 28 32 1 4 (eSl true 1 eStr) (.tmp 71) (.tmp 72) s199.2.toNat 0 7 x202.length h203) (zAR 13 5 66 false (zIQ 32 4 (.tmp 73) 1 (eSl true 1 eStr) x9.Parts s199.2.toNat 0 7 x202.length) (zAR 14 5 66 false (vJ («as»:=[rr 0 x5.1,sl 1 zC s199.1,rr 1 x5.2.2,rr 7 x202]) [(.tmp 67),(.tmp 68),(.tmp 69),(.tmp 74)] [24,25,25,32] true [(0,rE 8 (Pack.enc false) x5.1),(1,rE 1 zC x5.2.2),(7,rE 1 eStr x202)] [] (.cons (zDY (.head _) (Pack.ro false) rfl) (.cons (.same rfl) (.cons (zDY (.tail _ (.head _)) (fun _=>rfl) rfl) (.cons (zDY (.tail _ (.tail _ (.head _))) (fun _=>rfl) rfl) (.nil))))) (zBo.ok x5.1 s199.1 x5.2.2 x202) h205 (.ag (.cons (.same rfl rfl) (.cons (.same rfl rfl) (.cons (.own 8) (.nil))))) (hbor:=fun _=>⟨fhN,(zFn (zAc.fl _))⟩)) (zAR 19 5 66 false (zB5 (kk:=.i64) 46 25 1 2 (eSl false 1 zC) (.tmp 78) (.tmp 79) h207) (zAR 20 5 66 false (zBU (d:=sl 1 zC x206) 25 1 2 0 (eSl false 1 zC) (.tmp 80) h207 (by kernel_rfl)) (zAR 21 5 66 false (vJ («as»:=[rr 8 x204.Set,sl 1 zC x206]) [(.tmp 76),(.tmp 81)] [25,25] true [(8,rE 1 zC x204.Set)] [] (.cons (zDY (.head _) (fun _=>rfl) rfl) (.cons (.same rfl) (.nil))) (zBl.ok x204.Set x206) h209 (.same rfl rfl) (hbor:=fun _=>⟨fhN,yV⟩)) zB))))))) ?_
    refine zG6 (ix:=s199.2) (enc:=(eSl true 1 eStr)) (b:=x202) 4 0 7 h203 rfl rfl rfl rfl rfl (Nat.le_of_ble_eq_true rfl) (List.length_map _) ?_
    rw [zFK h203]
    refine zBv [(3,rr 0 x5.1),(4,sl 1 zC x5.2.1),(5,rr 1 x5.2.2),(6,pp 3),(7,pp 5),(9,rr 6 x15.Parts),(10,iv s199.2),(84,bv (!x208))] [(0,rE 8 (Pack.enc false) x5.1),(1,rE 1 zC x5.2.2),(2,rE 1 (eSl false 1 zC) x7.Sets),(3,.box [iv x7.Code,rr 2 x7.Sets]),(4,rE 1 (eSl true 1 eStr) x9.Parts),(5,.box [iv x9.Code,rr 4 x9.Parts]),(6,rE 1 (eSl true 1 eStr) x15.Parts)] (by kernel_rfl) ?_
    exact xA (J_j (jv210 (!x208))) rfl
 ·exact xA (hk s199.1) rfl
theorem zBL.ok (a1:(List Int)):Ok Tryz.prog 6 [sl 1 eU8 a1] [] ((zBL a1).map fun r=>(bv r,[])):=by
 refine zJ c6 Tryz.f6 0 157 (fun q=>?_)
 unfold zBL
 refine J_g 2 [] [(0,sl 1 eU8 a1)] [] zB ?_
 refine zA (fun x2 h3=>?_)
 refine J_g 12 [] [(0,sl 1 eU8 a1),(15,bv x2)] [] (zF 1 (vZ [(.tmp 14)] [22] (zDH.ok a1) h3) zB) ?_
 refine zG 15 (fun h4=>?_) (fun h4=>?_)
 ·refine J_g 52 [] [(2,bv true)] [] zB ?_
  exact xJ rfl
 ·refine zA (fun x5 h6=>?_)
  refine J_g 14 [] [(3,rr 0 x5.1),(4,sl 1 zC x5.2.1),(5,rr 1 x5.2.2)] [(0,rE 8 (Pack.enc false) x5.1),(1,rE 1 zC x5.2.2)] (zF 1 (vJ («as»:=[sl 1 eU8 a1]) [(.tmp 17)] [22] false [] [] (.cons (.same rfl) (.nil)) (zA9.ok a1) h6 (.tu (.cons (.own 0) (.cons (.same rfl rfl) (.cons (.own 1) (.nil)))))) zB) ?_
  refine zA (fun x7 h8=>?_)
  refine J_d 30 [(4,3)] [6] [(6,pp 3)] [2,3] [(2,rE 1 (eSl true 1 zC) x7.Sets),(3,.box [iv x7.Code,rr 2 x7.Sets])] (zF 3 (vJ («as»:=[rr 0 x5.1,sl 1 zC x5.2.1,rr 1 x5.2.2]) [(.tmp 22),(.tmp 23),(.tmp 24)] [24,25,25] true [(0,rE 8 (Pack.enc false) x5.1),(1,rE 1 zC x5.2.2)] [] (.cons (zDY (.head _) (Pack.ro false) rfl) (.cons (.same rfl) (.cons (zDY (.tail _ (.head _)) (fun _=>rfl) rfl) (.nil)))) (zEc.ok x5.1 x5.2.1 x5.2.2) h8 (.ag (.cons (.same rfl rfl) (.cons (.own 2) (.nil)))) (hbor:=fun _=>⟨fhN,(zFn (wP.fl _))⟩)) zB) ?_
  refine zA (fun x9 h10=>?_)
  refine J_g 62 [(4,5)] [(3,rr 0 x5.1),(4,sl 1 zC x5.2.1),(5,rr 1 x5.2.2),(6,pp 3),(7,pp 5)] [(0,rE 8 (Pack.enc false) x5.1),(1,rE 1 zC x5.2.2),(2,rE 1 (eSl true 1 zC) x7.Sets),(3,.box [iv x7.Code,rr 2 x7.Sets]),(4,rE 1 (eSl true 1 eStr) x9.Parts),(5,.box [iv x9.Code,rr 4 x9.Parts])] (zF 3 (vJ («as»:=[rr 0 x5.1,sl 1 zC x5.2.1,rr 1 x5.2.2]) [(.tmp 26),(.tmp 27),(.tmp 28)] [24,25,25] true [(0,rE 8 (Pack.enc false) x5.1),(1,rE 1 zC x5.2.2)] [] (.cons (zDY (.head _) (Pack.ro false) rfl) (.cons (.same rfl) (.cons (zDY (.tail _ (.head _)) (fun _=>rfl) rfl) (.nil)))) (zC1.ok x5.1 x5.2.1 x5.2.2) h10 (.ag (.cons (.same rfl rfl) (.cons (.own 4) (.nil)))) (hbor:=fun _=>⟨fhN,(zFn (yB.fl _))⟩)) zB) ?_
  refine J_d 252 [] [32] [(32,bv (x7.Code !=0))] [] [] zB ?_
  refine zG 32 (fun h11=>?_) (fun h11=>?_)
  ·refine zA (fun x12 h13=>?_)
   refine uN (fun h14=>?_) (fun h14=>?_)
   ·refine J_g 1012 [] [(2,bv (x9.Code==x7.Code))] [] (zF 3 (vJ («as»:=[rr 0 x5.1,sl 1 zC x5.2.1,rr 1 x5.2.2]) [(.tmp 33),(.tmp 34),(.tmp 35)] [24,25,25] true [(0,rE 8 (Pack.enc false) x5.1),(1,rE 1 zC x5.2.2)] [] (.cons (zDY (.head _) (Pack.ro false) rfl) (.cons (.same rfl) (.cons (zDY (.tail _ (.head _)) (fun _=>rfl) rfl) (.nil)))) (zD8.ok x5.1 x5.2.1 x5.2.2) h13 (.ag (.cons (.same rfl rfl) (.cons (.own 6) (.nil)))) (hbor:=fun _=>⟨fhN,(zFn (wP.fl _))⟩)) (vV 8 [(40,bv (x12.Code==x7.Code))] [] h14 zB)) ?_
    exact xJ rfl
   ·refine J_g 1012 [] [(2,bv false)] [] (zF 3 (vJ («as»:=[rr 0 x5.1,sl 1 zC x5.2.1,rr 1 x5.2.2]) [(.tmp 33),(.tmp 34),(.tmp 35)] [24,25,25] true [(0,rE 8 (Pack.enc false) x5.1),(1,rE 1 zC x5.2.2)] [] (.cons (zDY (.head _) (Pack.ro false) rfl) (.cons (.same rfl) (.cons (zDY (.tail _ (.head _)) (fun _=>rfl) rfl) (.nil)))) (zD8.ok x5.1 x5.2.1 x5.2.2) h13 (.ag (.cons (.same rfl rfl) (.cons (.own 6) (.nil)))) (hbor:=fun _=>⟨fhN,(zFn (wP.fl _))⟩)) (vV 8 [(40,bv (x12.Code==x7.Code))] [] h14 zB)) ?_
    exact xJ rfl
  ·refine J_d 254 [] [8,32] [(8,sl 1 zC x5.2.1)] [] [] zB ?_
   refine zA (fun x15 h16=>?_)
   refine J_g 510 [] [(3,rr 0 x5.1),(4,sl 1 zC x5.2.1),(5,rr 1 x5.2.2),(6,pp 3),(7,pp 5),(8,sl 1 zC x5.2.1),(9,rr 6 x15.Parts)] [(0,rE 8 (Pack.enc false) x5.1),(1,rE 1 zC x5.2.2),(2,rE 1 (eSl true 1 zC) x7.Sets),(3,.box [iv x7.Code,rr 2 x7.Sets]),(4,rE 1 (eSl true 1 eStr) x9.Parts),(5,.box [iv x9.Code,rr 4 x9.Parts]),(6,rE 1 (eSl true 1 eStr) x15.Parts)] (zF 3 (vJ («as»:=[rr 0 x5.1,sl 1 zC x5.2.1,rr 1 x5.2.2]) [(.tmp 49),(.tmp 50),(.tmp 51)] [24,25,25] true [(0,rE 8 (Pack.enc false) x5.1),(1,rE 1 zC x5.2.2)] [] (.cons (zDY (.head _) (Pack.ro false) rfl) (.cons (.same rfl) (.cons (zDY (.tail _ (.head _)) (fun _=>rfl) rfl) (.nil)))) (zCB.ok x5.1 x5.2.1 x5.2.2) h16 (.ag (.cons (.same rfl rfl) (.cons (.own 6) (.nil)))) (hbor:=fun _=>⟨fhN,(zFn (yB.fl _))⟩)) zB) ?_
   refine J_d 2044 [] [10] [(10,iv 0)] [] [] zB ?_
   refine zBv [(3,rr 0 x5.1),(4,sl 1 zC x5.2.1),(5,rr 1 x5.2.2),(6,pp 3),(7,pp 5),(8,sl 1 zC x5.2.1),(9,rr 6 x15.Parts),(10,iv 0)] [(2,rE 1 (eSl true 1 zC) x7.Sets),(0,rE 8 (Pack.enc false) x5.1),(1,rE 1 zC x5.2.2),(3,.box [iv x7.Code,rr 2 x7.Sets]),(4,rE 1 (eSl true 1 eStr) x9.Parts),(5,.box [iv x9.Code,rr 4 x9.Parts]),(6,rE 1 (eSl true 1 eStr) x15.Parts)] (by kernel_rfl) ?_
   refine zFP 2 (kE (enc:=(eSl true 1 zC)) (enc':=(eSl false 1 zC)) (zDE (fun _=>rfl)) _) ?_
   refine zBv [(3,rr 0 x5.1),(4,sl 1 zC x5.2.1),(5,rr 1 x5.2.2),(6,pp 3),(7,pp 5),(8,sl 1 zC x5.2.1),(9,rr 6 x15.Parts),(10,iv 0)] [(0,rE 8 (Pack.enc false) x5.1),(1,rE 1 zC x5.2.2),(2,rE 1 (eSl false 1 zC) x7.Sets),(3,.box [iv x7.Code,rr 2 x7.Sets]),(4,rE 1 (eSl true 1 eStr) x9.Parts),(5,.box [iv x9.Code,rr 4 x9.Parts]),(6,rE 1 (eSl true 1 eStr) x15.Parts)] (by kernel_rfl) ?_
   refine jW (K0:=(fun r:Bool=>some (bv r,[]))) (fun _=>rfl) (zCS.ok x5 x7 x9 x15 q _ (fun v291=>J_j ?_) (x5.2.1,0))
   refine zA (fun x292 h293=>?_)
   refine uN (fun h294=>?_) (fun h294=>?_)
   ·refine zA (fun x295 h296=>?_)
    refine uN (fun h297=>?_) (fun h297=>?_)
    ·refine zA (fun x298 h299=>?_)
     refine J_g 2046 [] [(2,bv (decide ((x7.Sets.length:Int)≥x298.Value)))] [] (zF 4 (vJ («as»:=[rr 0 x5.1,sl 1 zC x5.2.1,rr 2 x7.Sets]) [(.tmp 136),(.tmp 137),(.tmp 139)] [24,25,46] true [(0,rE 8 (Pack.enc false) x5.1),(2,rE 1 (eSl false 1 zC) x7.Sets)] [] (.cons (zDY (.head _) (Pack.ro false) rfl) (.cons (.same rfl) (.cons (zDY (.tail _ (.head _)) (zDE (fun _=>rfl)) rfl) (.nil)))) (kH.ok x5.1 x5.2.1 x7.Sets) h293 (.same rfl rfl) (hbor:=fun _=>⟨fhN,yV⟩)) (vV 5 [(140,bv x292)] [] h294 (zAR 8 5 141 true (vJ («as»:=[sl 1 zC v291,rr 1 x5.2.2]) [(.tmp 142),(.tmp 143)] [25,25] true [(1,rE 1 zC x5.2.2)] [] (.cons (.same rfl) (.cons (zDY (.head _) (fun _=>rfl) rfl) (.nil))) (zBl.ok v291 x5.2.2) h296 (.same rfl rfl) (hbor:=fun _=>⟨fhN,yV⟩)) (vV 10 [(145,bv x295)] [] h297 (zAR 17 10 146 true (vJ («as»:=[rr 0 x5.1,sl 1 zC x5.2.1,rr 1 x5.2.2]) [(.tmp 150),(.tmp 151),(.tmp 152)] [24,25,25] true [(0,rE 8 (Pack.enc false) x5.1),(1,rE 1 zC x5.2.2)] [] (.cons (zDY (.head _) (Pack.ro false) rfl) (.cons (.same rfl) (.cons (zDY (.tail _ (.head _)) (fun _=>rfl) rfl) (.nil)))) (zA0.ok x5.1 x5.2.1 x5.2.2) h299 (.ag (.cons (.same rfl rfl) (.cons (.same rfl rfl) (.nil)))) (hbor:=fun _=>⟨fhN,(zFn (zCf.fl _))⟩)) zB))))) ?_
     exact xJ rfl
    ·refine J_g 2046 [] [(2,bv false)] [] (zF 4 (vJ («as»:=[rr 0 x5.1,sl 1 zC x5.2.1,rr 2 x7.Sets]) [(.tmp 136),(.tmp 137),(.tmp 139)] [24,25,46] true [(0,rE 8 (Pack.enc false) x5.1),(2,rE 1 (eSl false 1 zC) x7.Sets)] [] (.cons (zDY (.head _) (Pack.ro false) rfl) (.cons (.same rfl) (.cons (zDY (.tail _ (.head _)) (zDE (fun _=>rfl)) rfl) (.nil)))) (kH.ok x5.1 x5.2.1 x7.Sets) h293 (.same rfl rfl) (hbor:=fun _=>⟨fhN,yV⟩)) (vV 5 [(140,bv x292)] [] h294 (zAR 8 5 141 true (vJ («as»:=[sl 1 zC v291,rr 1 x5.2.2]) [(.tmp 142),(.tmp 143)] [25,25] true [(1,rE 1 zC x5.2.2)] [] (.cons (.same rfl) (.cons (zDY (.head _) (fun _=>rfl) rfl) (.nil))) (zBl.ok v291 x5.2.2) h296 (.same rfl rfl) (hbor:=fun _=>⟨fhN,yV⟩)) (vV 10 [(145,bv x295)] [] h297 zB)))) ?_
     exact xJ rfl
   ·refine J_g 2046 [] [(2,bv false)] [] (zF 4 (vJ («as»:=[rr 0 x5.1,sl 1 zC x5.2.1,rr 2 x7.Sets]) [(.tmp 136),(.tmp 137),(.tmp 139)] [24,25,46] true [(0,rE 8 (Pack.enc false) x5.1),(2,rE 1 (eSl false 1 zC) x7.Sets)] [] (.cons (zDY (.head _) (Pack.ro false) rfl) (.cons (.same rfl) (.cons (zDY (.tail _ (.head _)) (zDE (fun _=>rfl)) rfl) (.nil)))) (kH.ok x5.1 x5.2.1 x7.Sets) h293 (.same rfl rfl) (hbor:=fun _=>⟨fhN,yV⟩)) (vV 5 [(140,bv x292)] [] h294 zB)) ?_
    exact xJ rfl
end Go.Told

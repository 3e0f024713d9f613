import Derived.Test.YtlagdfkkokgakaaGreatDoorOkWasteOfx1
set_option linter.unusedVariables false
set_option maxRecDepth 4000
namespace Go.Told
open Go Go.Im Go.Proofs
noncomputable def zM5:Code:=(Tryz.f133.body).getD .skip
theorem zAo.ok (x2:(List ByteArray)) (q:Wd) (kn:(List Int)→Option (D×List Ent)) (hk:∀v:(List Int),J (q.g Tryz.prog 133 0 31) zM5 (atI zM5 15) (St.mk' [(3,rr 1 v)] [(1,rE 1 zJ v)]) (some v) kn):
  ∀s17:((List Int)×Int),J (q.g Tryz.prog 133 0 31) zM5 (atI zM5 116) (St.mk' [(3,rr 1 s17.1),(9,rr 2 x2),(10,iv (x2.length:Int)),(11,iv s17.2)] [(1,rE 1 zJ s17.1),(2,rE 1 eStr x2)]) (zAo x2 s17) kn:=by
 refine zAz (fun g ih s17=>?_)
 unfold kG
 refine J_d 232 [] [12] [(12,bv (decide (s17.2< (x2.length:Int))))] [] [] zB ?_
 refine zC 12 (fun h18=>?_) (fun h18=>?_)
 ·refine zA (fun x19 h20=>?_)
  refine J_d 3736 [] [5,12] [(5,sv x19)] [] [] (zD 0 (jT (kk:=.i64) 70 9 1 2 eStr (.tmp 9) (.tmp 11) h20) (zD 1 (jR (d:=sv x19) 9 1 2 0 eStr (.tmp 13) h20 (by kernel_rfl)) zB)) ?_
  refine zA (fun x21 h22=>?_)
  refine zA (fun x23 h24=>?_)
  refine J_d 7474 [] [6] [(6,iv x23)] [] [] (zD 1 (zMP 9 (.tmp 15) (some (.const (.int .i64 4))) none h22) (zD 2 (xH [(.tmp 16),(.const (.int .i64 6))] [9,3] (jG.ok x21 6) h24) zB)) ?_
  refine xC (atI zM5 14951) (fun v26:Bool=>St.mk' [(3,rr 1 s17.1),(6,iv x23),(9,rr 2 x2),(10,iv (x2.length:Int)),(11,iv s17.2),(24,bv v26)] [(1,rE 1 zJ s17.1),(2,rE 1 eStr x2)]) (fun v26=>?_) (fun jv26=>?_)
  ·refine xC (aft zM5 1868) (fun v30:(List Int)=>St.mk' [(3,rr 4 v30),(9,rr 2 x2),(10,iv (x2.length:Int)),(11,iv s17.2)] [(2,rE 1 eStr x2),(4,rE 1 zJ v30)]) (fun v30=>?_) (fun jv30=>?_)
   ·refine J_d 935 [] [11] [(11,iv (w64 (s17.2+1)))] [] [] zB ?_
    refine zAy 4 1 (Nat.le_of_ble_eq_true rfl) (Nat.le_of_ble_eq_true rfl) ?_
    exact J_q (J_b (ih (v30,w64 (s17.2+1)))) rfl
   ·refine zC 24 (fun h27=>?_) (fun h27=>?_)
    ·refine zA (fun x28 h29=>?_)
     refine J_d 29902 [] [3,6,24] [(3,rr 4 x28)] [1,4] [(4,rE 1 zJ x28)] (zD 2 (zCR 42 2 1 3 zJ [x23] [0] [(.tmp 26)] [iv x23]) (zD 3 (zFG 42 42 2 2 1 8 4 1 3 zJ (.tmp 25) (.tmp 27) h29) zB)) ?_
     exact yQ (J_j (jv30 x28)) rfl
    ·refine zAy 1 4 (Nat.le_of_ble_eq_true rfl) (Nat.le_of_ble_eq_true rfl) ?_
     exact yQ (J_j (jv30 s17.1)) rfl
  ·refine wR (fun h25=>?_) (fun h25=>?_)
   ·refine J_d 14950 [] [5,24] [(24,bv ((x19.size:Int)==10))] [] [] (xR 2 [(19,bv (decide (x23≥1)))] [] h25 zB) ?_
    exact yQ (J_j (jv26 ((x19.size:Int)==10))) rfl
   ·refine J_d 14950 [] [5,24] [(24,bv false)] [] [] (xR 2 [(19,bv (decide (x23≥1)))] [] h25 zB) ?_
    exact yQ (J_j (jv26 false)) rfl
 ·exact yQ (hk s17.1) rfl
theorem xP.ok (a1:zI):Ok Tryz.prog 133 [.ag (zI.enc false a1)] [] ((xP a1).map fun r=>(so 1 zJ r,[])):=by
 refine zH zM5 Tryz.f133 0 31 (fun q=>?_)
 unfold xP
 refine J_g 2 [(0,0)] [(1,pp 0)] [(0,.box (zI.enc false a1))] zB ?_
 refine J_d 6 [] [3] [(3,rr 1 ([]:List Int))] [1] [(1,rE 1 zJ ([]:List Int))] (zD 0 (zCR 42 2 1 1 zJ ([]:List Int) [] [] []) zB) ?_
 refine zA (fun x2 h3=>?_)
 refine J_d 28 [] [1,9,10,11] [(9,rr 2 x2),(10,iv (x2.length:Int)),(11,iv 0)] [0,2] [(2,rE 1 eStr x2)] (zD 1 (jO («as»:=[.ag (zI.enc false a1),sv (bs [103,101,110,47])]) [(.tmp 8),(.const (.string (bs [103,101,110,47])))] [27,9] false [] [] (.cons (.same rfl) (.cons (.same rfl) (.nil))) (wW.ok a1 (bs [103,101,110,47])) h3 (.own 2)) zB) ?_
 refine zEE (zAo.ok x2 q _ (fun v31=>J_j ?_) (([]:List Int),0))
 refine J_g 30 [] [(2,rr 1 v31)] [(1,rE 1 zJ v31)] zB ?_
 exact zBI (ds:=[rr 1 v31]) (ds':=[so 1 zJ v31]) (.cons (.cell (.move (.head _) (List.length_map _) (by decide) (.nil))) (.nil) (by decide)) rfl
noncomputable def zNm:Code:=(Tryz.f250.body).getD .skip
theorem vK.ok (a1:(List Int)) (a2:Int) (q:Wd) (kn:Unit→Option (D×List Ent)) (hk:∀v:Unit,J (q.g Tryz.prog 250 0 19) zNm (atI zNm 7) (St.mk' [] []) (some v) kn):
  ∀s7:Int,J (q.g Tryz.prog 250 0 19) zNm (atI zNm 52) (St.mk' [(0,sl 1 zJ a1),(1,iv a2),(7,iv (a1.length:Int)),(8,iv s7)] []) (vK a1 a2 s7) (Fl.go (fun r:Int=>some (iv r,[])) kn):=by
 refine zAz (fun g ih s7=>?_)
 unfold wV
 refine J_d 104 [] [9] [(9,bv (decide (s7< (a1.length:Int))))] [] [] zB ?_
 refine zC 9 (fun h8=>?_) (fun h8=>?_)
 ·refine J_d 1688 [] [5,9] [(5,iv s7)] [] [] zB ?_
  refine zA (fun x9 h10=>?_)
  refine J_d 3378 [] [16] [(16,bv (a2==x9))] [] [] (zD 3 (zAc (kk:=.i64) 42 2 1 zJ (.tmp 12) (.tmp 13) h10) zB) ?_
  refine zC 16 (fun h11=>?_) (fun h11=>?_)
  ·refine J_g 13516 [] [(4,iv s7)] [] zB ?_
   exact zU rfl
  ·refine J_d 423 [] [5,8,16] [(8,iv (w64 (s7+1)))] [] [] zB ?_
   exact J_q (J_b (ih (w64 (s7+1)))) rfl
 ·exact yQ (hk ()) rfl
theorem vQ.ok (a1:(List Int)) (a2:Int):Ok Tryz.prog 250 [sl 1 zJ a1,iv a2] [] ((vQ a1 a2).map fun r=>(iv r,[])):=by
 refine zH zNm Tryz.f250 0 19 (fun q=>?_)
 unfold vQ
 refine J_g 2 [] [(0,sl 1 zJ a1),(1,iv a2)] [] zB ?_
 refine J_d 12 [] [7,8] [(7,iv (a1.length:Int)),(8,iv 0)] [] [] zB ?_
 refine uQ (K0:=(fun r:Int=>some (iv r,[]))) (fun _=>rfl) (vK.ok a1 a2 q _ (fun v12=>J_j ?_) 0)
 refine J_g 14 [] [(4,iv (-1))] [] zB ?_
 exact zU rfl
noncomputable def zOU:Code:=(Tryz.f176.body).getD .skip
theorem zR.ok (a1:(List Int)) (a2:Int):Ok Tryz.prog 176 [sl 1 zJ a1,iv a2] [] ((zR a1 a2).map fun r=>(bv r,[])):=by
 refine zH zOU Tryz.f176 0 9 (fun q=>?_)
 unfold zR
 refine J_d 2 [] [] [] [] [] zB ?_
 refine zA (fun x3 h4=>?_)
 refine J_g 6 [] [(4,bv (decide (x3≥0)))] [] (zD 2 (xH [(.tmp 5),(.tmp 6)] [42,2] (vQ.ok a1 a2) h4) zB) ?_
 exact zU rfl
noncomputable def c175:Code:=(Tryz.f175.body).getD .skip
theorem tL.ok (a1:Int) (a2:(List Int)):Ok Tryz.prog 175 [iv a1,pp 0] [.box [so 1 zJ a2]] ((tL a1 a2).map fun r=>(bv r,[.box [so 1 zJ a2]])):=by
 refine zH c175 Tryz.f175 1 8 (fun q=>?_)
 unfold tL
 refine zEh 0 (cs':=[rr 1 a2]) (es:=[(1,rE 1 zJ a2)]) rfl (.cons (.own 1) (.nil)) rfl (by kernel_rfl) (by kernel_rfl) ?_
 refine zHU [(0,iv a1),(1,pp 0)] [(0,.box [rr 1 a2]),(1,rE 1 zJ a2)] (by kernel_rfl) ?_
 refine J_d 2 [] [] [] [] [] zB ?_
 refine zA (fun x3 h4=>?_)
 refine J_g 6 [] [(3,bv (!x3))] [(0,.box [rr 1 a2]),(1,rE 1 zJ a2)] (zD 2 (jO («as»:=[rr 1 a2,iv a1]) [(.tmp 4),(.tmp 5)] [42,2] true [(1,rE 1 zJ a2)] [] (.cons (zDP (.head _) (fun _=>rfl) rfl) (.cons (.same rfl) (.nil))) (zR.ok a2 a1) h4 (.same rfl rfl) (hbor:=fun _=>⟨fhN,yI⟩)) zB) ?_
 refine zF8 0 (cs':=[so 1 zJ a2]) (ts:=[1]) rfl (.move (.head _) (List.length_map _) (by decide) (.nil)) ?_
 refine zHU [(3,bv (!x3))] [(0,.box [so 1 zJ a2])] (by kernel_rfl) ?_
 exact zU rfl
noncomputable def zNq:Code:=(Tryz.f249.body).getD .skip
theorem yD.ok (a1:(List Int)) (a2:(List Int)) (q:Wd) (kn:Unit→Option (D×List Ent)) (hk:∀v:Unit,J (q.g Tryz.prog 249 1 19) zNq (atI zNq 7) (St.mk' [] [(0,.box [rr 1 a2]),(1,rE 1 zJ a2)]) (some v) kn):
  ∀s9:Int,J (q.g Tryz.prog 249 1 19) zNq (atI zNq 52) (St.mk' [(0,sl 1 zJ a1),(1,.fn 175 [pp 0]),(7,iv (a1.length:Int)),(8,iv s9)] [(0,.box [rr 1 a2]),(1,rE 1 zJ a2)]) (yD a1 a2 s9) (Fl.go (fun r:Int=>some (iv r,[.box [so 1 zJ a2]])) kn):=by
 refine zAz (fun g ih s9=>?_)
 unfold yC
 refine J_d 104 [] [9] [(9,bv (decide (s9< (a1.length:Int))))] [] [] zB ?_
 refine zC 9 (fun h10=>?_) (fun h10=>?_)
 ·refine J_d 1688 [] [5,9] [(5,iv s9)] [] [] zB ?_
  refine zA (fun x11 h12=>?_)
  refine zF8 0 (cs':=[so 1 zJ a2]) (ts:=[1]) rfl (.move (.head _) (List.length_map _) (by decide) (.nil)) ?_
  refine zHU [(0,sl 1 zJ a1),(1,.fn 175 [pp 0]),(5,iv s9),(7,iv (a1.length:Int)),(8,iv s9)] [(0,.box [so 1 zJ a2])] (by kernel_rfl) ?_
  refine zA (fun x13 h14=>?_)
  refine J_g 3378 [] [(0,sl 1 zJ a1),(1,.fn 175 [pp 0]),(5,iv s9),(7,iv (a1.length:Int)),(8,iv s9),(16,bv x13)] [(0,.box [so 1 zJ a2])] (zD 3 (zAc (kk:=.i64) 42 2 1 zJ (.tmp 12) (.tmp 13) h12) (zD 5 (zFS [(0,.box [so 1 zJ a2])] [] (zMZ 11 [(.tmp 15)] [2] false [(0,.box [so 1 zJ a2])] [0] [iv x11] [pp 0] (.cons (.same rfl) (.cons (.pt rfl) (.nil))) (tL.ok x11 a2) h14 (.same rfl rfl))) zB)) ?_
  refine zEh 0 (cs':=[rr 1 a2]) (es:=[(1,rE 1 zJ a2)]) rfl (.cons (.own 1) (.nil)) rfl (by kernel_rfl) (by kernel_rfl) ?_
  refine zHU [(0,sl 1 zJ a1),(1,.fn 175 [pp 0]),(5,iv s9),(7,iv (a1.length:Int)),(8,iv s9),(16,bv x13)] [(0,.box [rr 1 a2]),(1,rE 1 zJ a2)] (by kernel_rfl) ?_
  refine zC 16 (fun h15=>?_) (fun h15=>?_)
  ·refine J_g 13516 [] [(4,iv s9)] [(0,.box [rr 1 a2]),(1,rE 1 zJ a2)] zB ?_
   refine zF8 0 (cs':=[so 1 zJ a2]) (ts:=[1]) rfl (.move (.head _) (List.length_map _) (by decide) (.nil)) ?_
   refine zHU [(4,iv s9)] [(0,.box [so 1 zJ a2])] (by kernel_rfl) ?_
   exact zU rfl
  ·refine J_d 423 [] [5,8,16] [(8,iv (w64 (s9+1)))] [] [] zB ?_
   exact J_q (J_b (ih (w64 (s9+1)))) rfl
 ·exact yQ (hk ()) rfl
theorem zW.ok (a1:(List Int)) (a2:(List Int)):Ok Tryz.prog 249 [sl 1 zJ a1,.fn 175 [pp 0]] [.box [so 1 zJ a2]] ((zW a1 a2).map fun r=>(iv r,[.box [so 1 zJ a2]])):=by
 refine zH zNq Tryz.f249 1 19 (fun q=>?_)
 unfold zW
 refine zEh 0 (cs':=[rr 1 a2]) (es:=[(1,rE 1 zJ a2)]) rfl (.cons (.own 1) (.nil)) rfl (by kernel_rfl) (by kernel_rfl) ?_
 refine zHU [(0,sl 1 zJ a1),(1,.fn 175 [pp 0])] [(0,.box [rr 1 a2]),(1,rE 1 zJ a2)] (by kernel_rfl) ?_
 refine J_g 2 [] [(0,sl 1 zJ a1),(1,.fn 175 [pp 0])] [(0,.box [rr 1 a2]),(1,rE 1 zJ a2)] zB ?_
 refine J_d 12 [] [7,8] [(7,iv (a1.length:Int)),(8,iv 0)] [] [] zB ?_
 refine uQ (K0:=(fun r:Int=>some (iv r,[.box [so 1 zJ a2]]))) (fun _=>rfl) (yD.ok a1 a2 q _ (fun v16=>J_j ?_) 0)
 refine J_g 14 [] [(4,iv (-1))] [(0,.box [rr 1 a2]),(1,rE 1 zJ a2)] zB ?_
 refine zF8 0 (cs':=[so 1 zJ a2]) (ts:=[1]) rfl (.move (.head _) (List.length_map _) (by decide) (.nil)) ?_
 refine zHU [(4,iv (-1))] [(0,.box [so 1 zJ a2])] (by kernel_rfl) ?_
 exact zU rfl
noncomputable def zOX:Code:=(Tryz.f174.body).getD .skip
theorem zO.ok (a1:(List Int)) (a2:(List Int)):Ok Tryz.prog 174 [sl 1 zJ a1,.fn 175 [pp 0]] [.box [so 1 zJ a2]] ((zO a1 a2).map fun r=>(bv r,[.box [so 1 zJ a2]])):=by
 refine zH zOX Tryz.f174 1 9 (fun q=>?_)
 unfold zO
 refine zEh 0 (cs':=[rr 1 a2]) (es:=[(1,rE 1 zJ a2)]) rfl (.cons (.own 1) (.nil)) rfl (by kernel_rfl) (by kernel_rfl) ?_
 refine zHU [(0,sl 1 zJ a1),(1,.fn 175 [pp 0])] [(0,.box [rr 1 a2]),(1,rE 1 zJ a2)] (by kernel_rfl) ?_
 refine J_g 2 [] [(0,sl 1 zJ a1),(1,.fn 175 [pp 0])] [(0,.box [rr 1 a2]),(1,rE 1 zJ a2)] zB ?_
 refine zF8 0 (cs':=[so 1 zJ a2]) (ts:=[1]) rfl (.move (.head _) (List.length_map _) (by decide) (.nil)) ?_
 refine zHU [(0,sl 1 zJ a1),(1,.fn 175 [pp 0])] [(0,.box [so 1 zJ a2])] (by kernel_rfl) ?_
 refine zA (fun x3 h4=>?_)
 refine J_g 6 [] [(4,bv (decide (x3≥0)))] [(0,.box [so 1 zJ a2])] (zD 2 (zFS [(0,.box [so 1 zJ a2])] [] (jO («as»:=[sl 1 zJ a1,.fn 175 [pp 0]]) [(.tmp 5),(.tmp 6)] [42,202] false [(0,.box [so 1 zJ a2])] [0] (.cons (.same rfl) (.cons (.fn (.cons (.pt rfl) (.nil))) (.nil))) (zW.ok a1 a2) h4 (.same rfl rfl))) zB) ?_
 refine zEh 0 (cs':=[rr 1 a2]) (es:=[(1,rE 1 zJ a2)]) rfl (.cons (.own 1) (.nil)) rfl (by kernel_rfl) (by kernel_rfl) ?_
 refine zHU [(4,bv (decide (x3≥0)))] [(0,.box [rr 1 a2]),(1,rE 1 zJ a2)] (by kernel_rfl) ?_
 refine zF8 0 (cs':=[so 1 zJ a2]) (ts:=[1]) rfl (.move (.head _) (List.length_map _) (by decide) (.nil)) ?_
 refine zHU [(4,bv (decide (x3≥0)))] [(0,.box [so 1 zJ a2])] (by kernel_rfl) ?_
 exact zU rfl
theorem bytealg_CompareString.ok (a1 a2:ByteArray):Ok Tryz.prog 292 [sv a1,sv a2] [] ((bytealg_CompareString a1 a2).map fun r=>(iv r,[])):=
 zNN (vs:=[.string a1,.string a2]) (fun w=>Tryz.bytealg_CompareString a1 a2 w)
noncomputable def zOK:Code:=(Tryz.f243.body).getD .skip
theorem strings_Compare.ok (a1:ByteArray) (a2:ByteArray):Ok Tryz.prog 243 [sv a1,sv a2] [] ((strings_Compare a1 a2).map fun r=>(iv r,[])):=by
 refine zH zOK Tryz.f243 0 8 (fun q=>?_)
 unfold strings_Compare
 refine J_d 2 [] [] [] [] [] zB ?_
 refine zA (fun x3 h4=>?_)
 refine J_g 6 [] [(4,iv x3)] [] (zD 2 (xH [(.tmp 5),(.tmp 6)] [9,9] (bytealg_CompareString.ok a1 a2) h4) zB) ?_
 exact zU rfl
noncomputable def zPl:Code:=(Tryz.f242.body).getD .skip
theorem wO.ok (a1:File) (a2:ByteArray):Ok Tryz.prog 242 [.ag (File.enc false a1),sv a2] [] ((wO a1 a2).map fun r=>(iv r,[])):=by
 refine zH zPl Tryz.f242 0 9 (fun q=>?_)
 unfold wO
 refine J_g 2 [(0,0)] [(1,sv a2),(2,pp 0)] [(0,.box (File.enc false a1))] zB ?_
 refine zA (fun x3 h4=>?_)
 refine J_g 6 [] [(4,iv x3)] [] (zD 3 (xH [(.tmp 6),(.tmp 7)] [9,9] (strings_Compare.ok a1.Path a2) h4) zB) ?_
 exact zU rfl
noncomputable def zNc:Code:=(Tryz.f241.body).getD .skip
theorem zQ.ok (a1:(List File)) (a2:ByteArray) (q:Wd) (kn:Int→Option (D×List Ent)) (hk:∀v:Int,J (q.g Tryz.prog 241 0 49) zNc (atI zNc 31) (St.mk' [(0,sl 2 (File.enc false) a1),(1,sv a2),(2,.fn 242 []),(8,iv (a1.length:Int)),(9,iv v)] []) (some v) kn):
  ∀s9:(Int×Int),J (q.g Tryz.prog 241 0 49) zNc (atI zNc 120) (St.mk' [(0,sl 2 (File.enc false) a1),(1,sv a2),(2,.fn 242 []),(8,iv (a1.length:Int)),(9,iv s9.1),(10,iv s9.2)] []) (zQ a1 a2 s9) kn:=by
 refine zAz (fun g ih s9=>?_)
 unfold yA
 refine J_d 480 [] [17] [(17,bv (decide (s9.1<s9.2)))] [] [] zB ?_
 refine zC 17 (fun h10=>?_) (fun h10=>?_)
 ·refine J_d 964 [] [11,17] [(11,iv (w64 ((IntKind.u64.wrap (w64 (s9.1+s9.2))).fdiv (2^(min (1:Int).toNat 64)))))] [] [] zB ?_
  refine zA (fun x11 h12=>?_)
  refine zA (fun x13 h14=>?_)
  refine J_d 1930 [] [31] [(31,bv (decide (x13<0)))] [] [] (zD 3 (zAc (kk:=.i64) 25 113 2 (File.enc false) (.tmp 25) (.tmp 26) h12) (zD 6 (zKR («as»:=[.ag (File.enc false x11),sv a2]) (caps:=[]) 24 [(.tmp 28),(.tmp 29)] [113,9] (wO.ok x11 a2) h14) zB)) ?_
  refine zC 31 (fun h15=>?_) (fun h15=>?_)
  ·refine J_d 3862 [] [9,11,31] [(9,iv (w64 ((w64 ((IntKind.u64.wrap (w64 (s9.1+s9.2))).fdiv (2^(min (1:Int).toNat 64))))+1)))] [] [] zB ?_
   exact J_q (J_b (ih (w64 ((w64 ((IntKind.u64.wrap (w64 (s9.1+s9.2))).fdiv (2^(min (1:Int).toNat 64))))+1),s9.2))) rfl
  ·refine J_d 3863 [] [10,11,31] [(10,iv (w64 ((IntKind.u64.wrap (w64 (s9.1+s9.2))).fdiv (2^(min (1:Int).toNat 64)))))] [] [] zB ?_
   exact J_q (J_b (ih (s9.1,w64 ((IntKind.u64.wrap (w64 (s9.1+s9.2))).fdiv (2^(min (1:Int).toNat 64)))))) rfl
 ·exact yQ (hk s9.1) rfl
theorem zF.ok (a1:(List File)) (a2:ByteArray):Ok Tryz.prog 241 [sl 2 (File.enc false) a1,sv a2,.fn 242 []] [] ((zF a1 a2).map fun r=>(.tu [iv r.1,bv r.2],[])):=by
 refine zH zNc Tryz.f241 0 49 (fun q=>?_)
 unfold zF
 refine J_g 2 [] [(0,sl 2 (File.enc false) a1),(1,sv a2),(2,.fn 242 [])] [] zB ?_
 refine J_g 6 [] [(0,sl 2 (File.enc false) a1),(1,sv a2),(2,.fn 242 []),(8,iv (a1.length:Int))] [] zB ?_
 refine J_d 14 [] [9,10] [(9,iv 0),(10,iv (a1.length:Int))] [] [] zB ?_
 refine zEE (zQ.ok a1 a2 q _ (fun v16=>J_j ?_) (0,(a1.length:Int)))
 refine wR (fun h17=>?_) (fun h17=>?_)
 ·refine zA (fun x18 h19=>?_)
  refine zA (fun x20 h21=>?_)
  refine J_g 62 [] [(6,iv v16),(7,bv (x20==0))] [] (xR 4 [(38,bv (decide (v16< (a1.length:Int))))] [] h17 (zCN 8 4 39 true (zAc (kk:=.i64) 25 113 2 (File.enc false) (.tmp 41) (.tmp 42) h19) (zCN 11 4 39 true (zKR («as»:=[.ag (File.enc false x18),sv a2]) (caps:=[]) 40 [(.tmp 44),(.tmp 45)] [113,9] (wO.ok x18 a2) h21) zB))) ?_
  exact zLC rfl
 ·refine J_g 62 [] [(6,iv v16),(7,bv false)] [] (xR 4 [(38,bv (decide (v16< (a1.length:Int))))] [] h17 zB) ?_
  exact zLC rfl
noncomputable def c162:Code:=(Tryz.f162.body).getD .skip
theorem jK.ok (a1:zI) (a2:ByteArray):Ok Tryz.prog 162 [.ag (zI.enc false a1),sv a2] [] ((jK a1 a2).map fun r=>(.tu [iv r.1,bv r.2],[])):=by
 refine zH c162 Tryz.f162 0 12 (fun q=>?_)
 unfold jK
 refine J_g 2 [(0,0)] [(1,sv a2),(2,pp 0)] [(0,.box (zI.enc false a1))] zB ?_
 refine zA (fun x3 h4=>?_)
 refine J_g 6 [] [(4,iv x3.1),(5,bv x3.2)] [] (zD 3 (jO («as»:=[sl 2 (File.enc false) a1.Files,sv a2,.fn 242 []]) [(.tmp 7),(.tmp 8),(.func 242)] [25,9,249] false [] [] (.cons (.same rfl) (.cons (.same rfl) (.cons (.fn (.nil)) (.nil)))) (zF.ok a1.Files a2) h4 (.tu (.cons (.same rfl rfl) (.cons (.same rfl rfl) (.nil))))) zB) ?_
 exact zLC rfl
noncomputable def c139:Code:=(Tryz.f139.body).getD .skip
theorem yN.ok (a1:zI) (a2:ByteArray):Ok Tryz.prog 139 [.ag (zI.enc false a1),sv a2] [] ((yN a1 a2).map fun r=>(.tu [sl 1 eU8 r.1,bv r.2],[])):=by
 refine zH c139 Tryz.f139 0 22 (fun q=>?_)
 unfold yN
 refine J_g 2 [(0,0)] [(1,sv a2),(2,pp 0)] [(0,.box (zI.enc false a1))] zB ?_
 refine zA (fun x3 h4=>?_)
 refine J_g 6 [] [(2,pp 0),(6,iv x3.1),(7,bv x3.2)] [(0,.box (zI.enc false a1))] (zD 2 (xH [(.tmp 9),(.tmp 10)] [27,9] (jK.ok a1 a2) h4) zB) ?_
 refine J_d 28 [] [7,15] [(15,bv (!x3.2))] [] [] zB ?_
 refine zC 15 (fun h5=>?_) (fun h5=>?_)
 ·refine J_g 116 [] [(4,nv),(5,bv false)] [] zB ?_
  exact zBI (ds:=[nv,bv false]) (ds':=[sl 1 eU8 ([]:List Int),bv false]) (.cons (.cell (.nilsl false 1 (.nil))) (.cons (.cell (.keep rfl (.nil))) (.nil) (by decide)) (by decide)) rfl
 ·refine zA (fun x6 h7=>?_)
  refine J_g 30 [] [(4,sl 1 eU8 x6.Data),(5,bv true)] [] (zD 3 (zAc (kk:=.i64) 25 113 2 (File.enc false) (.tmp 17) (.tmp 18) h7) zB) ?_
  exact zLC rfl
noncomputable def zOm:Code:=(Tryz.f177.body).getD .skip
theorem vL.ok (a1:zI):Ok Tryz.prog 177 [.ag (zI.enc false a1)] [] ((vL a1).map fun r=>(.tu [iv r.1,iv r.2],[])):=by
 refine zH zOm Tryz.f177 0 25 (fun q=>?_)
 unfold vL
 refine J_g 2 [(0,0)] [(1,pp 0)] [(0,.box (zI.enc false a1))] zB ?_
 refine zA (fun x2 h3=>?_)
 refine J_d 6 [] [4,5] [(4,sl 1 eU8 x2.1),(5,bv x2.2)] [] [] (zD 1 (xH [(.tmp 8),(.const (.string (bs [99,117,114])))] [27,9] (yN.ok a1 (bs [99,117,114])) h3) zB) ?_
 refine zA (fun x4 h5=>?_)
 refine J_d 14 [] [4,6] [(6,iv x4)] [] [] (zD 1 (zLw (xs:=x2.1) 111 9 5 (.tmp 12)) (zD 2 (xH [(.tmp 13),(.const (.int .i64 6))] [9,3] (jG.ok (b2s x2.1) 6) h5) zB)) ?_
 refine xC (atI zOm 61) (fun v11:Bool=>St.mk' [(6,iv x4),(23,bv v11)] []) (fun v11=>?_) (fun jv11=>?_)
 ·refine zC 23 (fun h12=>?_) (fun h12=>?_)
  ·refine J_g 244 [] [(2,iv 0),(3,iv 4)] [] zB ?_
   exact zLC rfl
  ·refine J_g 62 [] [(2,iv x4),(3,iv 0)] [] zB ?_
   exact zLC rfl
 ·refine wR (fun h6=>?_) (fun h6=>?_)
  ·refine J_g 60 [] [(6,iv x4),(23,bv true)] [] (xR 2 [(16,bv (!x2.2))] [] h6 zB) ?_
   exact yQ (J_j (jv11 true)) rfl
  ·refine zA (fun x7 h8=>?_)
   refine zA (fun x9 h10=>?_)
   refine J_g 60 [] [(6,iv x4),(23,bv (!x9))] [] (xR 2 [(16,bv (!x2.2))] [] h6 (zCN 4 2 17 false (jO («as»:=[.ag (zI.enc false a1)]) [(.tmp 18)] [27] false [] [] (.cons (.same rfl) (.nil)) (xP.ok a1) h8 (.own 1)) (zCN 6 2 17 false (jO («as»:=[rr 1 x7,iv x4]) [(.tmp 19),(.tmp 20)] [42,2] true [(1,rE 1 zJ x7)] [] (.cons (zDP (.head _) (fun _=>rfl) rfl) (.cons (.same rfl) (.nil))) (zR.ok x7 x4) h10 (.same rfl rfl) (hbor:=fun _=>⟨fhN,yI⟩)) zB))) ?_
   exact yQ (J_j (jv11 (!x9))) rfl
noncomputable def zPf:Code:=(Tryz.f178.body).getD .skip
theorem vR.ok (a1:(List Int)):Ok Tryz.prog 178 [sl 1 zJ a1] [] ((vR a1).map fun r=>(so 1 zJ r,[])):=by
 refine zH zPf Tryz.f178 0 8 (fun q=>?_)
 unfold vR
 refine J_g 2 [] [(0,sl 1 zJ a1)] [] zB ?_
 refine J_d 12 [] [4] [(4,.nb a1.length)] [] [] (zD 1 (zMJ (xs:=a1) 42 2 42 1 zJ (.tmp 3)) zB) ?_
 refine zO8 4 rfl (fun h2=>?_) ?_
 ·obtain rfl:a1=[]:=List.eq_nil_of_length_eq_zero h2
  refine zNb (e':=some ([]:List Int)) (by kernel_rfl) ?_
  refine J_g 52 [] [(2,nv)] [] zB ?_
  exact zBI (ds:=[nv]) (ds':=[so 1 zJ ([]:List Int)]) (.cons (.cell (.nilsl true 1 (.nil))) (.nil) (by decide)) rfl
 ·refine zA (fun x3 h4=>?_)
  refine J_g 14 [] [(2,rr 1 x3)] [(1,rE 1 zJ x3)] (zD 0 (zCR 42 2 1 0 zJ ([]:List Int) [] [] []) (zD 2 (zOi 42 42 2 2 1 8 1 0 zJ (.tmp 5) (.tmp 6) h4) zB)) ?_
  exact zBI (ds:=[rr 1 x3]) (ds':=[so 1 zJ x3]) (.cons (.cell (.move (.head _) (List.length_map _) (by decide) (.nil))) (.nil) (by decide)) rfl
theorem xB.ok (a1:List Int):Ok Tryz.prog 179 [rr 0 a1] [rE 1 zJ a1] ((xB a1).map fun r=>(.tu [],[rE 1 zJ r])):=by
 unfold xB
 split
 ·exact zK1 (enc:=Value.int .i64) (by simp [List.length_mergeSort]) (fun blk off cap w hH hb=>Tryz.slices_Sort_int blk off cap a1 w hH hb (by omega)) (fun _ p cap w=>Tryz.slices_Sort_int_none p cap w)
 ·exact fun _ h=>by cases h
noncomputable def zLd:Code:=(Tryz.f180.body).getD .skip
theorem xM.ok (s41:Int) (x48:(List Int)) (q:Wd) (kn:((List Int)×Int)→Option (D×List Ent)) (hk:∀v:((List Int)×Int),J (q.g Tryz.prog 180 1 61) zLd (atI zLd 14923) (St.mk' [(0,rr 0 v.1),(3,iv v.2)] [(0,rE 1 zJ v.1)]) (some v) kn):
  ∀s61:((List Int)×Int×Int),J (q.g Tryz.prog 180 1 61) zLd (atI zLd 119380) (St.mk' [(0,rr 0 s61.1),(3,iv s61.2.1),(4,.sub 0 s41.toNat x48.length),(5,iv s61.2.2)] [(0,rE 1 zJ s61.1)]) (xM s41 x48 s61) kn:=by
 refine zAz (fun g ih s61=>?_)
 unfold xX
 refine J_d 477520 [] [32] [(32,bv (decide (s61.2.2< (x48.length:Int))))] [] [] (zD 2 (zLO 42 2 0 s41.toNat x48.length (.tmp 30)) zB) ?_
 refine zC 32 (fun h62=>?_) (fun h62=>?_)
 ·refine zA (fun x63 h64=>?_)
  refine zA (fun x65 h66=>?_)
  refine J_d 1910088 [] [32,44] [(44,bv (x63 !=x65))] [] [] (zD 2 (zJu (kk:=.i64) 42 2 1 0 zJ (.tmp 35) (.tmp 36) h64) (zD 3 (jR (d:=iv x63) 2 1 0 0 zJ (.tmp 37) (zDE h64) (by kernel_rfl)) (zD 7 (zJu (kk:=.i64) 42 2 1 0 zJ (.tmp 39) (.tmp 41) h66) (zD 8 (jR (d:=iv x65) 2 1 0 0 zJ (.tmp 42) (zDE h66) (by kernel_rfl)) zB)))) ?_
  refine xC (aft zLd 955044) (fun v72:((List Int)×Int)=>St.mk' [(0,rr 0 v72.1),(3,iv v72.2),(4,.sub 0 s41.toNat x48.length),(5,iv s61.2.2)] [(0,rE 1 zJ v72.1)]) (fun v72=>?_) (fun jv72=>?_)
  ·refine J_d 477523 [] [5] [(5,iv (w64 (s61.2.2+1)))] [] [] zB ?_
   exact J_q (J_b (ih (v72.1,v72.2,w64 (s61.2.2+1)))) rfl
  ·refine zC 44 (fun h67=>?_) (fun h67=>?_)
   ·refine zA (fun x68 h69=>?_)
    refine zA (fun x70 h71=>?_)
    refine J_g 7640356 [] [(0,rr 0 s61.1),(3,iv s61.2.1),(4,.sub 0 s41.toNat x48.length),(5,iv s61.2.2)] [(0,rE 1 zJ (s61.1.set s61.2.1.toNat x68))] (zD 4 (zJu (kk:=.i64) 42 2 1 0 zJ (.tmp 47) (.tmp 48) h69) (zD 5 (jR (d:=iv x68) 2 1 0 0 zJ (.tmp 49) (zDE h69) (by kernel_rfl)) (zD 6 (jT (kk:=.i64) 42 2 1 0 zJ (.tmp 45) (.tmp 46) h71) (zIU 7 (zMc (b:=x68) 2 1 0 0 zJ (iv x68) (.tmp 51) (.tmp 50) h71 rfl) zB)))) ?_
    refine zHT (σ':=St.mk' [(0,rr 0 (s61.1.set s61.2.1.toNat x68)),(3,iv s61.2.1),(4,.sub 0 s41.toNat x48.length),(5,iv s61.2.2)] [(0,rE 1 zJ (s61.1.set s61.2.1.toNat x68))]) (by simp only [rr,List.length_set]) ?_
    refine J_d 7640357 [] [3] [(3,iv (w64 (s61.2.1+1)))] [] [] zB ?_
    exact yQ (J_j (jv72 (s61.1.set s61.2.1.toNat x68,w64 (s61.2.1+1)))) rfl
   ·exact yQ (J_j (jv72 (s61.1,s61.2.1))) rfl
 ·exact yQ (hk (s61.1,s61.2.1)) rfl
theorem wI.ok (a1:(List Int)) (q:Wd) (kn:Unit→Option (D×List Ent)) (hk:∀v:Unit,J (q.g Tryz.prog 180 1 61) zLd (atI zLd 15) (St.mk' [(0,rr 0 a1)] [(0,rE 1 zJ a1)]) (some v) kn):
  ∀s41:Int,J (q.g Tryz.prog 180 1 61) zLd (atI zLd 116) (St.mk' [(0,rr 0 a1),(3,iv s41)] [(0,rE 1 zJ a1)]) (wI a1 s41) (Fl.go (fun r:(List Int)=>some (so 1 zJ r,[])) kn):=by
 refine zAz (fun g ih s41=>?_)
 unfold yX
 refine J_d 464 [] [13] [(13,bv (decide (s41< (a1.length:Int))))] [] [] zB ?_
 refine zC 13 (fun h42=>?_) (fun h42=>?_)
 ·refine zA (fun x43 h44=>?_)
  refine zA (fun x45 h46=>?_)
  refine J_d 1864 [] [13,25] [(25,bv (x43==x45))] [] [] (zD 2 (jT (kk:=.i64) 42 2 1 0 zJ (.tmp 16) (.tmp 17) h44) (zD 3 (jR (d:=iv x43) 2 1 0 0 zJ (.tmp 18) h44 (by kernel_rfl)) (zD 7 (jT (kk:=.i64) 42 2 1 0 zJ (.tmp 20) (.tmp 22) h46) (zD 8 (jR (d:=iv x45) 2 1 0 0 zJ (.tmp 23) h46 (by kernel_rfl)) zB)))) ?_
  refine zC 25 (fun h47=>?_) (fun h47=>?_)
  ·refine zA (fun x48 h49=>?_)
   refine J_g 7460 [] [(0,rr 0 a1),(3,iv s41),(4,.sub 0 s41.toNat x48.length)] [(0,rE 1 zJ a1)] (zD 2 (zKD 42 2 1 0 zJ (.tmp 26) (some (.tmp 27)) none h49) zB) ?_
   refine J_d 29844 [] [5] [(5,iv 1)] [] [] zB ?_
   refine zEE (xM.ok s41 x48 q _ (fun v73=>J_j ?_) (a1,s41,1))
   refine zA (fun x74 h75=>?_)
   refine zA (fun x76 h77=>?_)
   refine J_g 29846 [] [(0,rr 0 v73.1),(3,iv v73.2)] [(0,rE 1 zJ x76)] (zD 2 (zKD 42 2 1 0 zJ (.tmp 54) (some (.tmp 55)) none h75) (zIU 3 (zM4 (l:=v73.2) (a:=0) 42 2 1 0 zJ (.tmp 56) h77 (.keep rfl (.nil))) zB)) ?_
   refine zHT (σ':=St.mk' [(0,rr 0 x76),(3,iv v73.2)] [(0,rE 1 zJ x76)]) (by simp only [rr,zGQ h77]) ?_
   refine zA (fun x78 h79=>?_)
   refine J_g 59694 [] [(2,rr 1 x78)] [(1,rE 1 zJ x78)] (zD 2 (zKy 42 2 1 0 1 zJ (.tmp 57) none (some (.tmp 58)) h79) zB) ?_
   exact zBI (ds:=[rr 1 x78]) (ds':=[so 1 zJ x78]) (.cons (.cell (.move (.head _) (List.length_map _) (by decide) (.nil))) (.nil) (by decide)) rfl
  ·refine J_d 467 [] [3,25] [(3,iv (w64 (s41+1)))] [] [] zB ?_
   exact J_q (J_b (ih (w64 (s41+1)))) rfl
 ·exact yQ (hk ()) rfl
theorem xQ.ok (a1:(List Int)):Ok Tryz.prog 180 [rr 0 a1] [rE 1 zJ a1] ((xQ a1).map fun r=>(so 1 zJ r,[])):=by
 refine zH zLd Tryz.f180 1 61 (fun q=>?_)
 unfold xQ
 refine J_g 2 [] [(0,rr 0 a1)] [(0,rE 1 zJ a1)] zB ?_
 refine J_d 12 [] [8] [(8,bv (decide ((a1.length:Int)<2)))] [] [] zB ?_
 refine zC 8 (fun h2=>?_) (fun h2=>?_)
 ·refine J_g 52 [] [(2,rr 0 a1)] [(0,rE 1 zJ a1)] zB ?_
  exact zBI (ds:=[rr 0 a1]) (ds':=[so 1 zJ a1]) (.cons (.cell (.move (.head _) (List.length_map _) (by decide) (.nil))) (.nil) (by decide)) rfl
 ·refine J_d 28 [] [3,8] [(3,iv 1)] [] [] zB ?_
  refine uQ (K0:=(fun r:(List Int)=>some (so 1 zJ r,[]))) (fun _=>rfl) (wI.ok a1 q _ (fun v80=>J_j ?_) 1)
  refine J_g 30 [] [(2,rr 0 a1)] [(0,rE 1 zJ a1)] zB ?_
  exact zBI (ds:=[rr 0 a1]) (ds':=[so 1 zJ a1]) (.cons (.cell (.move (.head _) (List.length_map _) (by decide) (.nil))) (.nil) (by decide)) rfl
noncomputable def c95:Code:=(Tryz.f95.body).getD .skip
theorem wS.ok (a1:zI) (a2:(List Int)):Ok Tryz.prog 95 [.ag (zI.enc false a1),sl 1 zJ a2] [] ((wS a1 a2).map fun r=>(.tu [so 1 zJ r.1,iv r.2],[])):=by
 refine zH c95 Tryz.f95 0 37 (fun q=>?_)
 unfold wS
 refine J_g 2 [(0,0)] [(1,sl 1 zJ a2),(2,pp 0)] [(0,.box (zI.enc false a1))] zB ?_
 refine zA (fun x3 h4=>?_)
 refine J_g 6 [(2,2)] [(1,sl 1 zJ a2),(2,pp 0),(6,pp 2)] [(0,.box (zI.enc false a1)),(1,rE 1 zJ x3),(2,.box [rr 1 x3])] (zD 1 (jO («as»:=[.ag (zI.enc false a1)]) [(.tmp 10)] [27] false [] [] (.cons (.same rfl) (.nil)) (xP.ok a1) h4 (.own 1)) zB) ?_
 refine J_d 56 [] [12] [(12,bv (decide ((a2.length:Int)>40)))] [] [] zB ?_
 refine zC 12 (fun h5=>?_) (fun h5=>?_)
 ·refine J_g 228 [] [(4,nv),(5,iv 2)] [] zB ?_
  exact zBI (ds:=[nv,iv 2]) (ds':=[so 1 zJ ([]:List Int),iv 2]) (.cons (.cell (.nilsl true 1 (.nil))) (.cons (.cell (.keep rfl (.nil))) (.nil) (by decide)) (by decide)) rfl
 ·refine zF8 2 (cs':=[so 1 zJ x3]) (ts:=[1]) rfl (.move (.tail _ (.head _)) (List.length_map _) (by decide) (.nil)) ?_
  refine zHU [(1,sl 1 zJ a2),(2,pp 0),(6,pp 2),(12,bv false)] [(0,.box (zI.enc false a1)),(2,.box [so 1 zJ x3])] (by kernel_rfl) ?_
  refine zA (fun x6 h7=>?_)
  refine J_d 230 [] [6,12,16] [(16,bv x6)] [2] [] (zD 2 (zFS [(2,.box [so 1 zJ x3])] [] (jO («as»:=[sl 1 zJ a2,.fn 175 [pp 2]]) [(.tmp 17),(.tmp 18)] [42,202] false [(2,.box [so 1 zJ x3])] [2] (.cons (.same rfl) (.cons (.fn (.cons (.pt rfl) (.nil))) (.nil))) (zO.ok a2 x3) h7 (.same rfl rfl))) zB) ?_
  refine zC 16 (fun h8=>?_) (fun h8=>?_)
  ·refine J_g 924 [] [(4,nv),(5,iv 4)] [] zB ?_
   exact zBI (ds:=[nv,iv 4]) (ds':=[so 1 zJ ([]:List Int),iv 4]) (.cons (.cell (.nilsl true 1 (.nil))) (.cons (.cell (.keep rfl (.nil))) (.nil) (by decide)) (by decide)) rfl
  ·refine zA (fun x9 h10=>?_)
   refine J_g 30 [] [(1,sl 1 zJ a2),(7,iv x9.1),(8,iv x9.2)] [] (zD 1 (xH [(.tmp 21)] [27] (vL.ok a1) h10) zB) ?_
   refine J_d 124 [] [26] [(26,bv (x9.2 !=0))] [] [] zB ?_
   refine zC 26 (fun h11=>?_) (fun h11=>?_)
   ·refine J_g 500 [] [(4,nv),(5,iv x9.2)] [] zB ?_
    exact zBI (ds:=[nv,iv x9.2]) (ds':=[so 1 zJ ([]:List Int),iv x9.2]) (.cons (.cell (.nilsl true 1 (.nil))) (.cons (.cell (.keep rfl (.nil))) (.nil) (by decide)) (by decide)) rfl
   ·refine zA (fun x12 h13=>?_)
    refine zA (fun x14 h15=>?_)
    refine J_g 126 [] [(9,rr 2 x14)] [(2,rE 1 zJ x14)] (zD 1 (jO («as»:=[sl 1 zJ a2]) [(.tmp 28)] [42] false [] [] (.cons (.same rfl) (.nil)) (vR.ok a2) h13 (.own 0)) (zD 3 (zCR 42 2 1 1 zJ [x9.1] [0] [(.tmp 30)] [iv x9.1]) (zD 4 (zFG 42 42 2 2 1 8 2 0 1 zJ (.tmp 29) (.tmp 31) h15) zB))) ?_
    refine zA (fun x16 h17=>?_)
    refine J_g 254 [] [(9,rr 2 x14)] [(2,rE 1 zJ x16)] (zD 1 (jO («as»:=[rr 2 x14]) [(.tmp 33)] [42] false [(2,rE 1 zJ x14)] [2] (.cons (.rf rfl) (.nil)) (xB.ok x14) h17 (.tu (.nil))) zB) ?_
    refine zA (fun u18 h19=>?_)
    refine zHT (σ':=St.mk' [(9,rr 2 x16)] [(2,rE 1 zJ x16)]) (by simp only [rr,zGM h19]) ?_
    refine zA (fun x20 h21=>?_)
    refine J_g 510 [] [(4,rr 3 x20),(5,iv 0)] [(3,rE 1 zJ x20)] (zD 1 (jO («as»:=[rr 2 x16]) [(.tmp 35)] [42] false [(2,rE 1 zJ x16)] [2] (.cons (.rf rfl) (.nil)) (xQ.ok x16) h21 (.own 3)) zB) ?_
    exact zBI (ds:=[rr 3 x20,iv 0]) (ds':=[so 1 zJ x20,iv 0]) (.cons (.cell (.move (.head _) (List.length_map _) (by decide) (.nil))) (.cons (.cell (.keep rfl (.nil))) (.nil) (by decide)) (by decide)) rfl
theorem vU.ok (a1 a2:Int):Ok Tryz.prog 215 [iv a1,iv a2] [] ((vU a1 a2).map fun r=>(sv r,[])):=by
 unfold vU
 split
 ·rename_i h
  obtain ⟨rfl,h0,h1⟩:=h
  exact zM9 (vs:=[.int .i64 a1,.int .i64 10]) (fun w hG=>Tryz.strconv_FormatInt_10 a1 h0 h1 w (zLn (g:=1) hG (by kernel_rfl) (by kernel_rfl)))
 ·exact fun _ h=>by cases h
noncomputable def c138:Code:=(Tryz.f138.body).getD .skip
theorem zAL.ok (a1:Int):Ok Tryz.prog 138 [iv a1] [] ((zAL a1).map fun r=>(sv r,[])):=by
 refine zH c138 Tryz.f138 0 5 (fun q=>?_)
 unfold zAL
 refine J_g 2 [] [(0,iv a1)] [] zB ?_
 refine zA (fun x2 h3=>?_)
 refine J_g 6 [] [(2,sv x2)] [] (zD 1 (xH [(.tmp 3),(.const (.int .i64 10))] [2,3] (vU.ok a1 10) h3) zB) ?_
 exact zU rfl
theorem strings_Repeat.ok (a1:ByteArray) (a2:Int):Ok Tryz.prog 198 [sv a1,iv a2] [] ((strings_Repeat a1 a2).map fun r=>(sv r,[])):=by
 unfold strings_Repeat
 split
 ·rename_i h
  obtain ⟨h0,h1,h2⟩:=h
  obtain ⟨n,rfl⟩:=Int.eq_ofNat_of_zero_le h0
  exact zLN (vs:=[.string a1,.int .i64 n]) (fun w=>Tryz.strings_Repeat a1 n w (by omega) h2)
 ·exact fun _ h=>by cases h
noncomputable def c116:Code:=(Tryz.f116.body).getD .skip
theorem tK.ok (a1:Int):Ok Tryz.prog 116 [iv a1] [] ((tK a1).map fun r=>(sv r,[])):=by
 refine zH c116 Tryz.f116 0 13 (fun q=>?_)
 unfold tK
 refine J_g 2 [] [(0,iv a1)] [] zB ?_
 refine zA (fun x2 h3=>?_)
 refine J_g 6 [] [(3,sv x2)] [] (zD 1 (xH [(.tmp 4)] [2] (zAL.ok a1) h3) zB) ?_
 refine zA (fun x4 h5=>?_)
 refine zA (fun x6 h7=>?_)
 refine zA (fun x8 h9=>?_)
 refine J_g 14 [] [(2,sv x8)] [] (zD 3 (xH [(.const (.string (bs [48]))),(.tmp 8)] [9,3] (strings_Repeat.ok (bs [48]) (w64 (6-(x2.size:Int)))) h5) (zD 4 (zDv 9 9 (.const (.string (bs [103,101,110,47]))) (.tmp 9) h7) (zD 6 (zDv 9 9 (.tmp 10) (.tmp 11) h9) zB))) ?_
 exact zU rfl
theorem strings_Split.ok (a1 a2:ByteArray):Ok Tryz.prog 150 [sv a1,sv a2] [] ((strings_Split a1 a2).map fun r=>(so 1 eStr r,[])):=by
 unfold strings_Split
 split
 ·rename_i h
  refine zLz (t:=9) (fun w hG=>?_)
  obtain ⟨m,hm⟩:=zKb (g:=0) hG (by kernel_rfl)
  rw [Lib.splitB_all a2 h.2 0 _ a1 rfl]
  exact Tryz.strings_Split a1 a2 m w h.1 hm h.2
 ·exact fun _ h=>by cases h
noncomputable def c146:Code:=(Tryz.f146.body).getD .skip
theorem zAZ.ok (a1:ByteArray):Ok Tryz.prog 146 [sv a1] [] ((zAZ a1).map fun r=>(so 1 eStr r,[])):=by
 refine zH c146 Tryz.f146 0 19 (fun q=>?_)
 unfold zAZ
 refine J_g 2 [] [(0,sv a1)] [] zB ?_
 refine zA (fun x2 h3=>?_)
 refine J_g 6 [] [(3,rr 0 x2)] [(0,rE 1 eStr x2)] (zD 1 (jO («as»:=[sv a1,sv (bs [10])]) [(.tmp 4),(.const (.string (bs [10])))] [9,9] false [] [] (.cons (.same rfl) (.cons (.same rfl) (.nil))) (strings_Split.ok a1 (bs [10])) h3 (.own 0)) zB) ?_
 refine zA (fun x4 h5=>?_)
 refine J_d 28 [] [12] [(12,bv (seq x4 (bs [])))] [] [] (zD 4 (jT (kk:=.i64) 70 9 1 0 eStr (.tmp 6) (.tmp 9) h5) (zD 5 (jR (d:=sv x4) 9 1 0 0 eStr (.tmp 10) h5 (by kernel_rfl)) zB)) ?_
 refine xC (atI c146 15) (fun v9:(List ByteArray)=>St.mk' [(3,rr 1 v9)] [(1,rE 1 eStr v9)]) (fun v9=>?_) (fun jv9=>?_)
 ·refine J_g 30 [] [(2,rr 1 v9)] [(1,rE 1 eStr v9)] zB ?_
  exact zBI (ds:=[rr 1 v9]) (ds':=[so 1 eStr v9]) (.cons (.cell (.move (.head _) (List.length_map _) (by decide) (.nil))) (.nil) (by decide)) rfl
 ·refine zC 12 (fun h6=>?_) (fun h6=>?_)
  ·refine zA (fun x7 h8=>?_)
   refine J_g 58 [] [(3,rr 1 x7)] [(1,rE 1 eStr x7)] (zD 4 (zKy 70 9 1 0 1 eStr (.tmp 13) none (some (.tmp 16)) h8) zB) ?_
   exact yQ (J_j (jv9 x7)) rfl
  ·refine zAy 0 1 (Nat.le_of_ble_eq_true rfl) (Nat.le_of_ble_eq_true rfl) ?_
   exact yQ (J_j (jv9 x2)) rfl
noncomputable def zOV:Code:=(Tryz.f351.body).getD .skip
theorem vY.ok (a1:ByteArray):Ok Tryz.prog 351 [sv a1] [] ((vY a1).map fun r=>(bv r,[])):=by
 refine zH zOV Tryz.f351 0 5 (fun q=>?_)
 unfold vY
 refine J_g 2 [] [(0,sv a1)] [] zB ?_
 refine J_g 6 [] [(2,bv (seq a1 (bs [])))] [] zB ?_
 exact zU rfl
noncomputable def zNE:Code:=(Tryz.f349.body).getD .skip
theorem yT.ok (a1:(List ByteArray)) (q:Wd) (kn:Unit→Option (D×List Ent)) (hk:∀v:Unit,J (q.g Tryz.prog 349 0 19) zNE (atI zNE 7) (St.mk' [] []) (some v) kn):
  ∀s8:Int,J (q.g Tryz.prog 349 0 19) zNE (atI zNE 52) (St.mk' [(0,sl 1 eStr a1),(1,.fn 351 []),(7,iv (a1.length:Int)),(8,iv s8)] []) (yT a1 s8) (Fl.go (fun r:Int=>some (iv r,[])) kn):=by
 refine zAz (fun g ih s8=>?_)
 unfold yG
 refine J_d 104 [] [9] [(9,bv (decide (s8< (a1.length:Int))))] [] [] zB ?_
 refine zC 9 (fun h9=>?_) (fun h9=>?_)
 ·refine J_d 1688 [] [5,9] [(5,iv s8)] [] [] zB ?_
  refine zA (fun x10 h11=>?_)
  refine zA (fun x12 h13=>?_)
  refine J_d 3378 [] [16] [(16,bv x12)] [] [] (zD 3 (zAc (kk:=.i64) 70 9 1 eStr (.tmp 12) (.tmp 13) h11) (zD 5 (zKR («as»:=[sv x10]) (caps:=[]) 11 [(.tmp 15)] [9] (vY.ok x10) h13) zB)) ?_
  refine zC 16 (fun h14=>?_) (fun h14=>?_)
  ·refine J_g 13516 [] [(4,iv s8)] [] zB ?_
   exact zU rfl
  ·refine J_d 423 [] [5,8,16] [(8,iv (w64 (s8+1)))] [] [] zB ?_
   exact J_q (J_b (ih (w64 (s8+1)))) rfl
 ·exact yQ (hk ()) rfl
theorem yL.ok (a1:(List ByteArray)):Ok Tryz.prog 349 [sl 1 eStr a1,.fn 351 []] [] ((yL a1).map fun r=>(iv r,[])):=by
 refine zH zNE Tryz.f349 0 19 (fun q=>?_)
 unfold yL
 refine J_g 2 [] [(0,sl 1 eStr a1),(1,.fn 351 [])] [] zB ?_
 refine J_d 12 [] [7,8] [(7,iv (a1.length:Int)),(8,iv 0)] [] [] zB ?_
 refine uQ (K0:=(fun r:Int=>some (iv r,[]))) (fun _=>rfl) (yT.ok a1 q _ (fun v15=>J_j ?_) 0)
 refine J_g 14 [] [(4,iv (-1))] [] zB ?_
 exact zU rfl
noncomputable def zMO:Code:=(Tryz.f350.body).getD .skip
theorem yP.ok (q:Wd) (kn:((List ByteArray)×Int)→Option (D×List Ent)) (hk:∀v:((List ByteArray)×Int),J (q.g Tryz.prog 350 1 42) zMO (atI zMO 31) (St.mk' [(0,rr 0 v.1),(5,iv v.2)] [(0,rE 1 eStr v.1)]) (some v) kn):
  ∀s14:((List ByteArray)×Int×Int),J (q.g Tryz.prog 350 1 42) zMO (atI zMO 244) (St.mk' [(0,rr 0 s14.1),(1,.fn 351 []),(5,iv s14.2.1),(6,iv s14.2.2)] [(0,rE 1 eStr s14.1)]) (yP s14) kn:=by
 refine zAz (fun g ih s14=>?_)
 unfold yB
 refine J_d 976 [] [19] [(19,bv (decide (s14.2.2< (s14.1.length:Int))))] [] [] zB ?_
 refine zC 19 (fun h15=>?_) (fun h15=>?_)
 ·refine zA (fun x16 h17=>?_)
  refine J_d 3912 [] [7,19] [(7,sv x16)] [] [] (zD 2 (jT (kk:=.i64) 70 9 1 0 eStr (.tmp 22) (.tmp 23) h17) (zD 3 (jR (d:=sv x16) 9 1 0 0 eStr (.tmp 24) h17 (by kernel_rfl)) zB)) ?_
  refine zA (fun x18 h19=>?_)
  refine J_d 7826 [] [29] [(29,bv (!x18))] [] [] (zD 2 (zKR («as»:=[sv x16]) (caps:=[]) 26 [(.tmp 27)] [9] (vY.ok x16) h19) zB) ?_
  refine xC (aft zMO 1956) (fun v23:((List ByteArray)×Int)=>St.mk' [(0,rr 0 v23.1),(1,.fn 351 []),(5,iv v23.2),(6,iv s14.2.2)] [(0,rE 1 eStr v23.1)]) (fun v23=>?_) (fun jv23=>?_)
  ·refine J_d 979 [] [6] [(6,iv (w64 (s14.2.2+1)))] [] [] zB ?_
   exact J_q (J_b (ih (v23.1,v23.2,w64 (s14.2.2+1)))) rfl
  ·refine zC 29 (fun h20=>?_) (fun h20=>?_)
   ·refine zA (fun x21 h22=>?_)
    refine J_g 31308 [] [(0,rr 0 s14.1),(1,.fn 351 []),(5,iv s14.2.1),(6,iv s14.2.2)] [(0,rE 1 eStr (s14.1.set s14.2.1.toNat x16))] (zD 3 (jT (kk:=.i64) 70 9 1 0 eStr (.tmp 30) (.tmp 31) h22) (zIU 4 (zMc (b:=x16) 9 1 0 0 eStr (sv x16) (.tmp 33) (.tmp 32) h22 rfl) zB)) ?_
    refine zHT (σ':=St.mk' [(0,rr 0 (s14.1.set s14.2.1.toNat x16)),(1,.fn 351 []),(5,iv s14.2.1),(6,iv s14.2.2)] [(0,rE 1 eStr (s14.1.set s14.2.1.toNat x16))]) (by simp only [rr,List.length_set]) ?_
    refine J_d 31309 [] [5] [(5,iv (w64 (s14.2.1+1)))] [] [] zB ?_
    exact yQ (J_j (jv23 (s14.1.set s14.2.1.toNat x16,w64 (s14.2.1+1)))) rfl
   ·exact yQ (J_j (jv23 (s14.1,s14.2.1))) rfl
 ·exact yQ (hk (s14.1,s14.2.1)) rfl
theorem zX.ok (a1:(List ByteArray)):Ok Tryz.prog 350 [rr 0 a1,.fn 351 []] [rE 1 eStr a1] ((zX a1).map fun r=>(so 1 eStr r,[])):=by
 refine zH zMO Tryz.f350 1 42 (fun q=>?_)
 unfold zX
 refine J_d 2 [] [] [] [] [] zB ?_
 refine zA (fun x2 h3=>?_)
 refine J_g 6 [] [(0,rr 0 a1),(1,.fn 351 []),(5,iv x2)] [(0,rE 1 eStr a1)] (zD 2 (jO («as»:=[rr 0 a1,.fn 351 []]) [(.tmp 8),(.tmp 9)] [70,314] true [(0,rE 1 eStr a1)] [] (.cons (zDP (.head _) (fun _=>rfl) rfl) (.cons (.fn (.nil)) (.nil))) (yL.ok a1) h3 (.same rfl rfl) (hbor:=fun _=>⟨fhN,yI⟩)) zB) ?_
 refine J_d 28 [] [12] [(12,bv (x2==(-1)))] [] [] zB ?_
 refine zC 12 (fun h4=>?_) (fun h4=>?_)
 ·refine J_g 116 [] [(4,rr 0 a1)] [(0,rE 1 eStr a1)] zB ?_
  exact zBI (ds:=[rr 0 a1]) (ds':=[so 1 eStr a1]) (.cons (.cell (.move (.head _) (List.length_map _) (by decide) (.nil))) (.nil) (by decide)) rfl
 ·refine J_d 60 [] [6,12] [(6,iv (w64 (x2+1)))] [] [] zB ?_
  refine zEE (yP.ok q _ (fun v24=>J_j ?_) (a1,x2,w64 (x2+1)))
  refine zA (fun x25 h26=>?_)
  refine zA (fun x27 h28=>?_)
  refine J_g 62 [] [(0,rr 0 v24.1),(5,iv v24.2)] [(0,rE 1 eStr x27)] (zD 2 (zKD 70 9 1 0 eStr (.tmp 36) (some (.tmp 37)) none h26) (zIU 3 (zM4 (l:=v24.2) (a:=ByteArray.empty) 70 9 1 0 eStr (.tmp 38) h28 (.keep rfl (.nil))) zB)) ?_
  refine zHT (σ':=St.mk' [(0,rr 0 x27),(5,iv v24.2)] [(0,rE 1 eStr x27)]) (by simp only [rr,zGQ h28]) ?_
  refine zA (fun x29 h30=>?_)
  refine J_g 126 [] [(4,rr 1 x29)] [(1,rE 1 eStr x29)] (zD 2 (zKy 70 9 1 0 1 eStr (.tmp 39) none (some (.tmp 40)) h30) zB) ?_
  exact zBI (ds:=[rr 1 x29]) (ds':=[so 1 eStr x29]) (.cons (.cell (.move (.head _) (List.length_map _) (by decide) (.nil))) (.nil) (by decide)) rfl
noncomputable def zOw:Code:=(Tryz.f329.body).getD .skip
theorem zBb.ok (a1:ByteArray):Ok Tryz.prog 329 [sv a1] [] ((zBb a1).map fun r=>(so 1 eStr r,[])):=by
 refine zH zOw Tryz.f329 0 6 (fun q=>?_)
 unfold zBb
 refine J_g 2 [] [(0,sv a1)] [] zB ?_
 refine zA (fun x2 h3=>?_)
 refine zA (fun x4 h5=>?_)
 refine J_g 6 [] [(2,rr 1 x4)] [(1,rE 1 eStr x4)] (zD 1 (jO («as»:=[sv a1,sv (bs [32])]) [(.tmp 3),(.const (.string (bs [32])))] [9,9] false [] [] (.cons (.same rfl) (.cons (.same rfl) (.nil))) (strings_Split.ok a1 (bs [32])) h3 (.own 0)) (zD 2 (jO («as»:=[rr 0 x2,.fn 351 []]) [(.tmp 4),(.func 351)] [70,314] false [(0,rE 1 eStr x2)] [0] (.cons (.rf rfl) (.cons (.fn (.nil)) (.nil))) (zX.ok x2) h5 (.own 1)) zB)) ?_
 exact zBI (ds:=[rr 1 x4]) (ds':=[so 1 eStr x4]) (.cons (.cell (.move (.head _) (List.length_map _) (by decide) (.nil))) (.nil) (by decide)) rfl
noncomputable def c227:Code:=(Tryz.f227.body).getD .skip
theorem uV.ok (x2:(List ByteArray)) (q:Wd) (kn:(List Int)→Option (D×List Ent)) (hk:∀v:(List Int),J (q.g Tryz.prog 227 0 39) c227 (atI c227 63) (St.mk' [(2,pp 0),(4,pp 2)] [(0,.box [iv 0,iv 0,iv 0,iv 0]),(2,rE 1 zJ v)]) (some v) kn):
  ∀s15:((List Int)×Int),J (q.g Tryz.prog 227 0 39) c227 (atI c227 500) (St.mk' [(2,pp 0),(4,pp 2),(14,rr 1 x2),(15,iv (x2.length:Int)),(16,iv s15.2)] [(0,.box [iv 0,iv 0,iv 0,iv 0]),(1,rE 1 eStr x2),(2,rE 1 zJ s15.1)]) (uV x2 s15) (Fl.go (fun r:zN=>some (.ag (zN.enc r),[])) kn):=by
 refine zAz (fun g ih s15=>?_)
 unfold uG
 refine J_d 1000 [] [17] [(17,bv (decide (s15.2< (x2.length:Int))))] [] [] zB ?_
 refine zC 17 (fun h16=>?_) (fun h16=>?_)
 ·refine zA (fun x17 h18=>?_)
  refine J_d 16024 [] [5,6,17] [(5,iv s15.2),(6,sv x17)] [] [] (zD 1 (jT (kk:=.i64) 70 9 1 1 eStr (.tmp 14) (.tmp 16) h18) (zD 2 (jR (d:=sv x17) 9 1 1 0 eStr (.tmp 19) h18 (by kernel_rfl)) zB)) ?_
  refine zA (fun x19 h20=>?_)
  refine zA (fun x21 h22=>?_)
  refine J_d 32050 [] [6] [] [2] [(2,rE 1 zJ (s15.1.set s15.2.toNat x19))] (zD 2 (xH [(.tmp 22),(.const (.int .i64 3))] [9,3] (jG.ok x17 3) h20) (zD 3 (zKW (kk:=.i64) 273 2 1 2 zJ (.tmp 4) (.tmp 21) 3 h22) (zIU 4 (zMc (b:=x19) 2 1 2 0 zJ (iv x19) (.tmp 24) (.tmp 23) (zEu h22) rfl) zB))) ?_
  refine zA (fun x23 h24=>?_)
  refine J_d 64102 [] [5,28] [(28,bv (decide (x23<0)))] [] [] (zD 1 (zKW (kk:=.i64) 273 2 1 2 zJ (.tmp 4) (.tmp 25) 3 h24) (zD 2 (jR (d:=iv x23) 2 1 2 0 zJ (.tmp 26) (zEu h24) (by kernel_rfl)) zB)) ?_
  refine zC 28 (fun h25=>?_) (fun h25=>?_)
  ·refine J_g 256412 [] [(2,pp 0)] [(0,.box [iv 5,iv 0,iv 0,iv 0])] zB ?_
   exact zU rfl
  ·refine J_d 4007 [] [16,28] [(16,iv (w64 (s15.2+1)))] [] [] zB ?_
   exact J_q (J_b (ih (s15.1.set s15.2.toNat x19,w64 (s15.2+1)))) rfl
 ·exact yQ (hk s15.1) rfl
theorem vM.ok (a1:ByteArray):Ok Tryz.prog 227 [sv a1] [] ((vM a1).map fun r=>(.ag (zN.enc r),[])):=by
 refine zH c227 Tryz.f227 0 39 (fun q=>?_)
 unfold vM
 refine J_g 2 [(0,0)] [(0,sv a1),(2,pp 0)] [(0,.box [iv 0,iv 0,iv 0,iv 0])] zB ?_
 refine zA (fun x2 h3=>?_)
 refine J_g 6 [] [(2,pp 0),(3,rr 1 x2)] [(0,.box [iv 0,iv 0,iv 0,iv 0]),(1,rE 1 eStr x2)] (zD 1 (jO («as»:=[sv a1,sv (bs [46])]) [(.tmp 7),(.const (.string (bs [46])))] [9,9] false [] [] (.cons (.same rfl) (.cons (.same rfl) (.nil))) (strings_Split.ok a1 (bs [46])) h3 (.own 1)) zB) ?_
 refine J_g 14 [(1,2)] [(2,pp 0),(3,rr 1 x2),(4,pp 2)] [(0,.box [iv 0,iv 0,iv 0,iv 0]),(1,rE 1 eStr x2),(2,.box [iv 0,iv 0,iv 0])] (zD 0 (zLy 273 [.int .i64 0,.int .i64 0,.int .i64 0]) zB) ?_
 refine zHU [(2,pp 0),(3,rr 1 x2),(4,pp 2)] [(2,.box [iv 0,iv 0,iv 0]),(0,.box [iv 0,iv 0,iv 0,iv 0]),(1,rE 1 eStr x2)] (by kernel_rfl) ?_
 refine zLx 2 (z:=1) (xs:=([0,0,0]:(List Int)).map zJ) (by kernel_rfl) (by kernel_rfl) (by kernel_rfl) (by kernel_rfl) rfl ?_
 refine zHU [(2,pp 0),(3,rr 1 x2),(4,pp 2)] [(0,.box [iv 0,iv 0,iv 0,iv 0]),(1,rE 1 eStr x2),(2,rE 1 zJ ([0,0,0]:(List Int)))] (by kernel_rfl) ?_
 refine J_d 60 [] [12] [(12,bv (decide ((x2.length:Int)>3)))] [] [] zB ?_
 refine zC 12 (fun h4=>?_) (fun h4=>?_)
 ·refine J_g 244 [] [(2,pp 0)] [(0,.box [iv 5,iv 0,iv 0,iv 0])] zB ?_
  exact zU rfl
 ·refine J_d 124 [] [3,12,14,15,16] [(14,rr 1 x2),(15,iv (x2.length:Int)),(16,iv 0)] [] [] zB ?_
  refine uQ (K0:=(fun r:zN=>some (.ag (zN.enc r),[]))) (fun _=>rfl) (uV.ok x2 q _ (fun v26=>J_j ?_) (([0,0,0]:(List Int)),0))
  refine zA (fun x27 h28=>?_)
  refine zA (fun x29 h30=>?_)
  refine zA (fun x31 h32=>?_)
  refine J_g 126 [] [(2,pp 0)] [(0,.box [iv 0,iv x27,iv x29,iv x31])] (zD 0 (zKW (kk:=.i64) 273 2 1 2 zJ (.tmp 4) (.const (.int .i64 0)) 3 h28) (zD 1 (jR (d:=iv x27) 2 1 2 0 zJ (.tmp 31) (zEu h28) (by kernel_rfl)) (zD 2 (zKW (kk:=.i64) 273 2 1 2 zJ (.tmp 4) (.const (.int .i64 1)) 3 h30) (zD 3 (jR (d:=iv x29) 2 1 2 0 zJ (.tmp 33) (zEu h30) (by kernel_rfl)) (zD 4 (zKW (kk:=.i64) 273 2 1 2 zJ (.tmp 4) (.const (.int .i64 2)) 3 h32) (zD 5 (jR (d:=iv x31) 2 1 2 0 zJ (.tmp 35) (zEu h32) (by kernel_rfl)) zB)))))) ?_
  exact zU rfl
noncomputable def zOI:Code:=(Tryz.f149.body).getD .skip
theorem zAx.ok (a1:(List Pack)) (a2:(List ByteArray)):Ok Tryz.prog 149 [sl 8 (Pack.enc false) a1,sl 1 eStr a2] [] ((zAx a1 a2).map fun r=>(iv r,[])):=by
 refine zH zOI Tryz.f149 0 23 (fun q=>?_)
 unfold zAx
 refine J_g 2 [] [(0,sl 8 (Pack.enc false) a1),(1,sl 1 eStr a2)] [] zB ?_
 refine J_d 12 [] [8] [(8,bv ((a2.length:Int) !=2))] [] [] zB ?_
 refine zC 8 (fun h3=>?_) (fun h3=>?_)
 ·refine J_g 52 [] [(4,iv (-1))] [] zB ?_
  exact zU rfl
 ·refine zA (fun x4 h5=>?_)
  refine zA (fun x6 h7=>?_)
  refine J_g 14 [(4,0)] [(0,sl 8 (Pack.enc false) a1),(1,sl 1 eStr a2),(5,pp 0)] [(0,.box (zN.enc x6))] (zD 1 (zAc (kk:=.i64) 70 9 1 eStr (.tmp 9) (.const (.int .i64 1)) h5) (zD 3 (xH [(.tmp 11)] [9] (vM.ok x4) h7) zB)) ?_
  refine J_d 60 [] [15] [(15,bv (x6.Code !=0))] [] [] zB ?_
  refine zC 15 (fun h8=>?_) (fun h8=>?_)
  ·refine J_g 244 [] [(4,iv (-1))] [] zB ?_
   exact zU rfl
  ·refine zA (fun x9 h10=>?_)
   refine zA (fun x11 h12=>?_)
   refine J_g 62 [] [(4,iv x11)] [] (zD 2 (zAc (kk:=.i64) 70 9 1 eStr (.tmp 17) (.const (.int .i64 0)) h10) (zD 6 (xH [(.tmp 16),(.tmp 19),(.tmp 21)] [24,9,86] (zB7.ok a1 x9 x6.Version) h12) zB)) ?_
   exact zU rfl
noncomputable def zMS:Code:=(Tryz.f293.body).getD .skip
theorem zA3.ok (a1:(List Pack)) (x7:(List ByteArray)) (q:Wd) (kn:(List Int)→Option (D×List Ent)) (hk:∀v:(List Int),J (q.g Tryz.prog 293 0 51) zMS (atI zMS 63) (St.mk' [(4,pp 0),(6,rr 1 v)] [(0,.box [iv 0,iv 0,nv]),(1,rE 1 zJ v)]) (some v) kn):
  ∀s23:((List Int)×Int),J (q.g Tryz.prog 293 0 51) zMS (atI zMS 500) (St.mk' [(0,sl 8 (Pack.enc false) a1),(4,pp 0),(6,rr 1 s23.1),(22,rr 2 x7),(23,iv (x7.length:Int)),(24,iv s23.2)] [(0,.box [iv 0,iv 0,nv]),(1,rE 1 zJ s23.1),(2,rE 1 eStr x7)]) (zA3 a1 x7 s23) (Fl.go (fun r:yE=>some (.ag [iv r.Code,iv r.At,so 1 zJ r.Set],[])) kn):=by
 refine zAz (fun g ih s23=>?_)
 unfold tO
 refine J_d 1000 [] [25] [(25,bv (decide (s23.2< (x7.length:Int))))] [] [] zB ?_
 refine zC 25 (fun h24=>?_) (fun h24=>?_)
 ·refine zA (fun x25 h26=>?_)
  refine J_d 16024 [] [7,8,25] [(7,iv s23.2),(8,sv x25)] [] [] (zD 1 (jT (kk:=.i64) 70 9 1 2 eStr (.tmp 22) (.tmp 24) h26) (zD 2 (jR (d:=sv x25) 9 1 2 0 eStr (.tmp 27) h26 (by kernel_rfl)) zB)) ?_
  refine zA (fun x27 h28=>?_)
  refine zA (fun x29 h30=>?_)
  refine J_d 32050 [] [8,9] [(9,iv x29)] [] [] (zD 2 (jO («as»:=[sv x25]) [(.tmp 30)] [9] false [] [] (.cons (.same rfl) (.nil)) (zBb.ok x25) h28 (.own 3)) (zD 3 (jO («as»:=[sl 8 (Pack.enc false) a1,rr 3 x27]) [(.tmp 29),(.tmp 31)] [24,70] true [(3,rE 1 eStr x27)] [] (.cons (.same rfl) (.cons (zDP (.head _) (fun _=>rfl) rfl) (.nil))) (zAx.ok a1 x27) h30 (.same rfl rfl) (hbor:=fun _=>⟨fhN,yI⟩)) zB)) ?_
  refine xC (atI zMS 128205) (fun v34:Bool=>St.mk' [(0,sl 8 (Pack.enc false) a1),(4,pp 0),(6,rr 1 s23.1),(7,iv s23.2),(9,iv x29),(22,rr 2 x7),(23,iv (x7.length:Int)),(24,iv s23.2),(39,bv v34)] [(0,.box [iv 0,iv 0,nv]),(1,rE 1 zJ s23.1),(2,rE 1 eStr x7)]) (fun v34=>?_) (fun jv34=>?_)
  ·refine zC 39 (fun h35=>?_) (fun h35=>?_)
   ·refine J_g 512820 [] [(4,pp 0)] [(0,.box [iv 5,iv s23.2,nv])] zB ?_
    exact zBI (ds:=[.ag [iv 5,iv s23.2,nv]]) (ds':=[.ag [iv 5,iv s23.2,so 1 zJ ([]:List Int)]]) (.cons (.ag (.keep rfl (.keep rfl (.nilsl true 1 (.nil))))) (.nil) (by decide)) rfl
   ·refine zA (fun x36 h37=>?_)
    refine J_g 64103 [] [(0,sl 8 (Pack.enc false) a1),(4,pp 0),(6,rr 4 x36),(22,rr 2 x7),(23,iv (x7.length:Int)),(24,iv s23.2)] [(0,.box [iv 0,iv 0,nv]),(2,rE 1 eStr x7),(4,rE 1 zJ x36)] (zD 2 (zCR 42 2 1 3 zJ [x29] [0] [(.tmp 43)] [iv x29]) (zD 3 (zFG 42 42 2 2 1 8 4 1 3 zJ (.tmp 42) (.tmp 44) h37) zB)) ?_
    refine J_d 4007 [] [24] [(24,iv (w64 (s23.2+1)))] [] [] zB ?_
    refine zAy 4 1 (Nat.le_of_ble_eq_true rfl) (Nat.le_of_ble_eq_true rfl) ?_
    exact J_q (J_b (ih (x36,w64 (s23.2+1)))) rfl
  ·refine wR (fun h31=>?_) (fun h31=>?_)
   ·refine J_d 128204 [] [39] [(39,bv true)] [] [] (xR 2 [(34,bv (decide (x29<0)))] [] h31 zB) ?_
    exact yQ (J_j (jv34 true)) rfl
   ·refine zA (fun x32 h33=>?_)
    refine J_d 128204 [] [39] [(39,bv x32)] [] [] (xR 2 [(34,bv (decide (x29<0)))] [] h31 (zCN 5 2 35 false (jO («as»:=[rr 1 s23.1,iv x29]) [(.tmp 36),(.tmp 37)] [42,2] true [(1,rE 1 zJ s23.1)] [] (.cons (zDP (.head _) (fun _=>rfl) rfl) (.cons (.same rfl) (.nil))) (zR.ok s23.1 x29) h33 (.same rfl rfl) (hbor:=fun _=>⟨fhN,yI⟩)) zB)) ?_
    exact yQ (J_j (jv34 x32)) rfl
 ·exact yQ (hk s23.1) rfl
theorem zAt.ok (a1:(List Pack)) (a2:ByteArray):Ok Tryz.prog 293 [sl 8 (Pack.enc false) a1,sv a2] [] ((zAt a1 a2).map fun r=>(.ag [iv r.Code,iv r.At,so 1 zJ r.Set],[])):=by
 refine zH zMS Tryz.f293 0 51 (fun q=>?_)
 unfold zAt
 refine J_d 2 [(0,0)] [4] [(4,pp 0)] [0] [(0,.box [iv 0,iv 0,nv])] zB ?_
 refine zA (fun x3 h4=>?_)
 refine J_g 12 [] [(0,sl 8 (Pack.enc false) a1),(1,sv a2),(4,pp 0),(5,iv x3)] [(0,.box [iv 0,iv 0,nv])] (zD 1 (xH [(.tmp 10)] [24] (xV.ok a1) h4) zB) ?_
 refine J_d 26 [] [13] [(13,bv (x3 !=0))] [] [] zB ?_
 refine zC 13 (fun h5=>?_) (fun h5=>?_)
 ·refine J_g 108 [] [(4,pp 0)] [(0,.box [iv x3,iv 0,nv])] zB ?_
  exact zBI (ds:=[.ag [iv x3,iv 0,nv]]) (ds':=[.ag [iv x3,iv 0,so 1 zJ ([]:List Int)]]) (.cons (.ag (.keep rfl (.keep rfl (.nilsl true 1 (.nil))))) (.nil) (by decide)) rfl
 ·refine J_d 28 [] [5,13,18] [(18,bv (decide ((a2.size:Int)>4000)))] [] [] zB ?_
  refine zC 18 (fun h6=>?_) (fun h6=>?_)
  ·refine J_g 116 [] [(4,pp 0)] [(0,.box [iv 2,iv 0,nv])] zB ?_
   exact zBI (ds:=[.ag [iv 2,iv 0,nv]]) (ds':=[.ag [iv 2,iv 0,so 1 zJ ([]:List Int)]]) (.cons (.ag (.keep rfl (.keep rfl (.nilsl true 1 (.nil))))) (.nil) (by decide)) rfl
  ·refine J_d 30 [] [6,18] [(6,rr 1 ([]:List Int))] [1] [(1,rE 1 zJ ([]:List Int))] (zD 0 (zCR 42 2 1 1 zJ ([]:List Int) [] [] []) zB) ?_
   refine zA (fun x7 h8=>?_)
   refine J_d 124 [] [1,22,23,24] [(22,rr 2 x7),(23,iv (x7.length:Int)),(24,iv 0)] [2] [(2,rE 1 eStr x7)] (zD 1 (jO («as»:=[sv a2]) [(.tmp 21)] [9] false [] [] (.cons (.same rfl) (.nil)) (zAZ.ok a2) h8 (.own 2)) zB) ?_
   refine uQ (K0:=(fun r:yE=>some (.ag [iv r.Code,iv r.At,so 1 zJ r.Set],[]))) (fun _=>rfl) (zA3.ok a1 x7 q _ (fun v38=>J_j ?_) (([]:List Int),0))
   refine zA (fun x39 h40=>?_)
   refine J_g 126 [] [(4,pp 0),(6,rr 1 v38)] [(0,.box [iv 0,iv 0,nv]),(1,rE 1 zJ x39)] (zD 1 (jO («as»:=[rr 1 v38]) [(.tmp 47)] [42] false [(1,rE 1 zJ v38)] [1] (.cons (.rf rfl) (.nil)) (xB.ok v38) h40 (.tu (.nil))) zB) ?_
   refine zA (fun u41 h42=>?_)
   refine zHT (σ':=St.mk' [(4,pp 0),(6,rr 1 x39)] [(0,.box [iv 0,iv 0,nv]),(1,rE 1 zJ x39)]) (by simp only [rr,zGM h42]) ?_
   refine J_g 254 [] [(4,pp 0)] [(0,.box [iv 0,iv 0,rr 1 x39]),(1,rE 1 zJ x39)] zB ?_
   exact zBI (ds:=[.ag [iv 0,iv 0,rr 1 x39]]) (ds':=[.ag [iv 0,iv 0,so 1 zJ x39]]) (.cons (.ag (.keep rfl (.keep rfl (.move (.tail _ (.head _)) (List.length_map _) (by decide) (.nil))))) (.nil) (by decide)) rfl
noncomputable def zO9:Code:=(Tryz.f247.body).getD .skip
theorem zCx.ok (a1:(List Pack)) (a2:zI) (a3:Int):Ok Tryz.prog 247 [sl 8 (Pack.enc false) a1,.ag (zI.enc false a2),iv a3] [] ((zCx a1 a2 a3).map fun r=>(.tu [so 1 zJ r.1,iv r.2],[])):=by
 refine zH zO9 Tryz.f247 0 31 (fun q=>?_)
 unfold zCx
 refine J_d 2 [(0,0)] [1,4] [(4,pp 0)] [0] [(0,.box (zI.enc false a2))] zB ?_
 refine zA (fun x4 h5=>?_)
 refine zA (fun x6 h7=>?_)
 refine J_d 12 [] [15] [(15,bv (!x6))] [] [] (zD 1 (jO («as»:=[.ag (zI.enc false a2)]) [(.tmp 11)] [27] false [] [] (.cons (.same rfl) (.nil)) (xP.ok a2) h5 (.own 1)) (zD 3 (jO («as»:=[rr 1 x4,iv a3]) [(.tmp 12),(.tmp 13)] [42,2] true [(1,rE 1 zJ x4)] [] (.cons (zDP (.head _) (fun _=>rfl) rfl) (.cons (.same rfl) (.nil))) (zR.ok x4 a3) h7 (.same rfl rfl) (hbor:=fun _=>⟨fhN,yI⟩)) zB)) ?_
 refine zC 15 (fun h8=>?_) (fun h8=>?_)
 ·refine J_g 52 [] [(6,nv),(7,iv 4)] [] zB ?_
  exact zBI (ds:=[nv,iv 4]) (ds':=[so 1 zJ ([]:List Int),iv 4]) (.cons (.cell (.nilsl true 1 (.nil))) (.cons (.cell (.keep rfl (.nil))) (.nil) (by decide)) (by decide)) rfl
 ·refine zA (fun x9 h10=>?_)
  refine zA (fun x11 h12=>?_)
  refine J_d 14 [] [2,4,8,15] [(8,sl 1 eU8 x11.1)] [0] [] (zD 2 (xH [(.tmp 18)] [2] (tK.ok a3) h10) (zD 3 (xH [(.tmp 17),(.tmp 19)] [27,9] (yN.ok a2 x9) h12) zB)) ?_
  refine zA (fun x13 h14=>?_)
  refine J_g 30 [(4,1)] [(10,pp 1)] [(0,rE 1 zJ x13.Set),(1,.box [iv x13.Code,iv x13.At,rr 0 x13.Set])] (zD 2 (zLw (xs:=x11.1) 111 9 5 (.tmp 24)) (zD 3 (jO («as»:=[sl 8 (Pack.enc false) a1,sv (b2s x11.1)]) [(.tmp 23),(.tmp 25)] [24,9] false [] [] (.cons (.same rfl) (.cons (.same rfl) (.nil))) (zAt.ok a1 (b2s x11.1)) h14 (.ag (.cons (.same rfl rfl) (.cons (.same rfl rfl) (.cons (.own 0) (.nil)))))) zB)) ?_
  refine J_g 62 [] [(6,rr 0 x13.Set),(7,iv x13.Code)] [(0,rE 1 zJ x13.Set)] zB ?_
  exact zBI (ds:=[rr 0 x13.Set,iv x13.Code]) (ds':=[so 1 zJ x13.Set,iv x13.Code]) (.cons (.cell (.move (.head _) (List.length_map _) (by decide) (.nil))) (.cons (.cell (.keep rfl (.nil))) (.nil) (by decide)) (by decide)) rfl
noncomputable def c213:Code:=(Tryz.f213.body).getD .skip
theorem vP.ok (a1:Version):Ok Tryz.prog 213 [.ag (Version.enc a1)] [] ((vP a1).map fun r=>(sv r,[])):=by
 refine zH c213 Tryz.f213 0 16 (fun q=>?_)
 unfold vP
 refine J_g 2 [(0,0)] [(1,pp 0)] [(0,.box (Version.enc a1))] zB ?_
 refine zA (fun x2 h3=>?_)
 refine zA (fun x4 h5=>?_)
 refine zA (fun x6 h7=>?_)
 refine zA (fun x8 h9=>?_)
 refine zA (fun x10 h11=>?_)
 refine zA (fun x12 h13=>?_)
 refine zA (fun x14 h15=>?_)
 refine J_g 6 [] [(2,sv x14)] [] (zD 2 (xH [(.tmp 4)] [2] (zAL.ok a1.A) h3) (zD 3 (zDv 9 9 (.tmp 5) (.const (.string (bs [46]))) h5) (zD 6 (xH [(.tmp 8)] [2] (zAL.ok a1.B) h7) (zD 7 (zDv 9 9 (.tmp 6) (.tmp 9) h9) (zD 8 (zDv 9 9 (.tmp 10) (.const (.string (bs [46]))) h11) (zD 11 (xH [(.tmp 13)] [2] (zAL.ok a1.C) h13) (zD 12 (zDv 9 9 (.tmp 11) (.tmp 14) h15) zB))))))) ?_
 exact zU rfl
noncomputable def zOB:Code:=(Tryz.f135.body).getD .skip
theorem kS.ok (a1:Pack):Ok Tryz.prog 135 [.ag (Pack.enc false a1)] [] ((kS a1).map fun r=>(sv r,[])):=by
 refine zH zOB Tryz.f135 0 11 (fun q=>?_)
 unfold kS
 refine J_g 2 [(0,0)] [(1,pp 0)] [(0,.box (Pack.enc false a1))] zB ?_
 refine zA (fun x2 h3=>?_)
 refine zA (fun x4 h5=>?_)
 refine zA (fun x6 h7=>?_)
 refine zA (fun x8 h9=>?_)
 refine J_g 6 [] [(2,sv x8)] [] (zD 2 (zDv 9 9 (.const (.string (bs [112,107,103,47]))) (.tmp 4) h3) (zD 3 (zDv 9 9 (.tmp 5) (.const (.string (bs [45]))) h5) (zD 6 (xH [(.tmp 8)] [86] (vP.ok a1.Version) h7) (zD 7 (zDv 9 9 (.tmp 6) (.tmp 9) h9) zB)))) ?_
 exact zU rfl
theorem xY.ok (a1:List ByteArray):Ok Tryz.prog 294 [rr 0 a1] [rE 1 eStr a1] ((xY a1).map fun r=>(.tu [],[rE 1 eStr r])):=by
 unfold xY
 split
 ·refine zL6 (fun blk off cap w hH hb=>?_) (fun p cap w=>Tryz.slices_Sort_string_none p cap w)
  have k:=Tryz.slices_Sort_string blk off cap (a1.map (·.data.toList)) w hH hb (by rw [List.length_map]; omega)
  rw [List.length_map] at k
  exact k
 ·exact fun _ h=>by cases h
noncomputable def zLi:Code:=(Tryz.f295.body).getD .skip
theorem xJ.ok (s41:Int) (x48:(List ByteArray)) (q:Wd) (kn:((List ByteArray)×Int)→Option (D×List Ent)) (hk:∀v:((List ByteArray)×Int),J (q.g Tryz.prog 295 1 61) zLi (atI zLi 14923) (St.mk' [(0,rr 0 v.1),(3,iv v.2)] [(0,rE 1 eStr v.1)]) (some v) kn):
  ∀s61:((List ByteArray)×Int×Int),J (q.g Tryz.prog 295 1 61) zLi (atI zLi 119380) (St.mk' [(0,rr 0 s61.1),(3,iv s61.2.1),(4,.sub 0 s41.toNat x48.length),(5,iv s61.2.2)] [(0,rE 1 eStr s61.1)]) (xJ s41 x48 s61) kn:=by
 refine zAz (fun g ih s61=>?_)
 unfold xS
 refine J_d 477520 [] [32] [(32,bv (decide (s61.2.2< (x48.length:Int))))] [] [] (zD 2 (zLO 70 9 0 s41.toNat x48.length (.tmp 30)) zB) ?_
 refine zC 32 (fun h62=>?_) (fun h62=>?_)
 ·refine zA (fun x63 h64=>?_)
  refine zA (fun x65 h66=>?_)
  refine J_d 1910088 [] [32,44] [(44,bv (!(seq x63 x65)))] [] [] (zD 2 (zJu (kk:=.i64) 70 9 1 0 eStr (.tmp 35) (.tmp 36) h64) (zD 3 (jR (d:=sv x63) 9 1 0 0 eStr (.tmp 37) (zDE h64) (by kernel_rfl)) (zD 7 (zJu (kk:=.i64) 70 9 1 0 eStr (.tmp 39) (.tmp 41) h66) (zD 8 (jR (d:=sv x65) 9 1 0 0 eStr (.tmp 42) (zDE h66) (by kernel_rfl)) zB)))) ?_
  refine xC (aft zLi 955044) (fun v72:((List ByteArray)×Int)=>St.mk' [(0,rr 0 v72.1),(3,iv v72.2),(4,.sub 0 s41.toNat x48.length),(5,iv s61.2.2)] [(0,rE 1 eStr v72.1)]) (fun v72=>?_) (fun jv72=>?_)
  ·refine J_d 477523 [] [5] [(5,iv (w64 (s61.2.2+1)))] [] [] zB ?_
   exact J_q (J_b (ih (v72.1,v72.2,w64 (s61.2.2+1)))) rfl
  ·refine zC 44 (fun h67=>?_) (fun h67=>?_)
   ·refine zA (fun x68 h69=>?_)
    refine zA (fun x70 h71=>?_)
    refine J_g 7640356 [] [(0,rr 0 s61.1),(3,iv s61.2.1),(4,.sub 0 s41.toNat x48.length),(5,iv s61.2.2)] [(0,rE 1 eStr (s61.1.set s61.2.1.toNat x68))] (zD 4 (zJu (kk:=.i64) 70 9 1 0 eStr (.tmp 47) (.tmp 48) h69) (zD 5 (jR (d:=sv x68) 9 1 0 0 eStr (.tmp 49) (zDE h69) (by kernel_rfl)) (zD 6 (jT (kk:=.i64) 70 9 1 0 eStr (.tmp 45) (.tmp 46) h71) (zIU 7 (zMc (b:=x68) 9 1 0 0 eStr (sv x68) (.tmp 51) (.tmp 50) h71 rfl) zB)))) ?_
    refine zHT (σ':=St.mk' [(0,rr 0 (s61.1.set s61.2.1.toNat x68)),(3,iv s61.2.1),(4,.sub 0 s41.toNat x48.length),(5,iv s61.2.2)] [(0,rE 1 eStr (s61.1.set s61.2.1.toNat x68))]) (by simp only [rr,List.length_set]) ?_
    refine J_d 7640357 [] [3] [(3,iv (w64 (s61.2.1+1)))] [] [] zB ?_
    exact yQ (J_j (jv72 (s61.1.set s61.2.1.toNat x68,w64 (s61.2.1+1)))) rfl
   ·exact yQ (J_j (jv72 (s61.1,s61.2.1))) rfl
 ·exact yQ (hk (s61.1,s61.2.1)) rfl
theorem xW.ok (a1:(List ByteArray)) (q:Wd) (kn:Unit→Option (D×List Ent)) (hk:∀v:Unit,J (q.g Tryz.prog 295 1 61) zLi (atI zLi 15) (St.mk' [(0,rr 0 a1)] [(0,rE 1 eStr a1)]) (some v) kn):
  ∀s41:Int,J (q.g Tryz.prog 295 1 61) zLi (atI zLi 116) (St.mk' [(0,rr 0 a1),(3,iv s41)] [(0,rE 1 eStr a1)]) (xW a1 s41) (Fl.go (fun r:(List ByteArray)=>some (so 1 eStr r,[])) kn):=by
 refine zAz (fun g ih s41=>?_)
 unfold yU
 refine J_d 464 [] [13] [(13,bv (decide (s41< (a1.length:Int))))] [] [] zB ?_
 refine zC 13 (fun h42=>?_) (fun h42=>?_)
 ·refine zA (fun x43 h44=>?_)
  refine zA (fun x45 h46=>?_)
  refine J_d 1864 [] [13,25] [(25,bv (seq x43 x45))] [] [] (zD 2 (jT (kk:=.i64) 70 9 1 0 eStr (.tmp 16) (.tmp 17) h44) (zD 3 (jR (d:=sv x43) 9 1 0 0 eStr (.tmp 18) h44 (by kernel_rfl)) (zD 7 (jT (kk:=.i64) 70 9 1 0 eStr (.tmp 20) (.tmp 22) h46) (zD 8 (jR (d:=sv x45) 9 1 0 0 eStr (.tmp 23) h46 (by kernel_rfl)) zB)))) ?_
  refine zC 25 (fun h47=>?_) (fun h47=>?_)
  ·refine zA (fun x48 h49=>?_)
   refine J_g 7460 [] [(0,rr 0 a1),(3,iv s41),(4,.sub 0 s41.toNat x48.length)] [(0,rE 1 eStr a1)] (zD 2 (zKD 70 9 1 0 eStr (.tmp 26) (some (.tmp 27)) none h49) zB) ?_
   refine J_d 29844 [] [5] [(5,iv 1)] [] [] zB ?_
   refine zEE (xJ.ok s41 x48 q _ (fun v73=>J_j ?_) (a1,s41,1))
   refine zA (fun x74 h75=>?_)
   refine zA (fun x76 h77=>?_)
   refine J_g 29846 [] [(0,rr 0 v73.1),(3,iv v73.2)] [(0,rE 1 eStr x76)] (zD 2 (zKD 70 9 1 0 eStr (.tmp 54) (some (.tmp 55)) none h75) (zIU 3 (zM4 (l:=v73.2) (a:=ByteArray.empty) 70 9 1 0 eStr (.tmp 56) h77 (.keep rfl (.nil))) zB)) ?_
   refine zHT (σ':=St.mk' [(0,rr 0 x76),(3,iv v73.2)] [(0,rE 1 eStr x76)]) (by simp only [rr,zGQ h77]) ?_
   refine zA (fun x78 h79=>?_)
   refine J_g 59694 [] [(2,rr 1 x78)] [(1,rE 1 eStr x78)] (zD 2 (zKy 70 9 1 0 1 eStr (.tmp 57) none (some (.tmp 58)) h79) zB) ?_
   exact zBI (ds:=[rr 1 x78]) (ds':=[so 1 eStr x78]) (.cons (.cell (.move (.head _) (List.length_map _) (by decide) (.nil))) (.nil) (by decide)) rfl
  ·refine J_d 467 [] [3,25] [(3,iv (w64 (s41+1)))] [] [] zB ?_
   exact J_q (J_b (ih (w64 (s41+1)))) rfl
 ·exact yQ (hk ()) rfl
theorem xL.ok (a1:(List ByteArray)):Ok Tryz.prog 295 [rr 0 a1] [rE 1 eStr a1] ((xL a1).map fun r=>(so 1 eStr r,[])):=by
 refine zH zLi Tryz.f295 1 61 (fun q=>?_)
 unfold xL
 refine J_g 2 [] [(0,rr 0 a1)] [(0,rE 1 eStr a1)] zB ?_
 refine J_d 12 [] [8] [(8,bv (decide ((a1.length:Int)<2)))] [] [] zB ?_
 refine zC 8 (fun h2=>?_) (fun h2=>?_)
 ·refine J_g 52 [] [(2,rr 0 a1)] [(0,rE 1 eStr a1)] zB ?_
  exact zBI (ds:=[rr 0 a1]) (ds':=[so 1 eStr a1]) (.cons (.cell (.move (.head _) (List.length_map _) (by decide) (.nil))) (.nil) (by decide)) rfl
 ·refine J_d 28 [] [3,8] [(3,iv 1)] [] [] zB ?_
  refine uQ (K0:=(fun r:(List ByteArray)=>some (so 1 eStr r,[]))) (fun _=>rfl) (xW.ok a1 q _ (fun v80=>J_j ?_) 1)
  refine J_g 30 [] [(2,rr 0 a1)] [(0,rE 1 eStr a1)] zB ?_
  exact zBI (ds:=[rr 0 a1]) (ds':=[so 1 eStr a1]) (.cons (.cell (.move (.head _) (List.length_map _) (by decide) (.nil))) (.nil) (by decide)) rfl
noncomputable def zOL:Code:=(Tryz.f248.body).getD .skip
theorem zAP.ok (a1:(List ByteArray)):Ok Tryz.prog 248 [rr 0 a1] [rE 1 eStr a1] ((zAP a1).map fun r=>(so 1 eStr r,[])):=by
 refine zH zOL Tryz.f248 1 7 (fun q=>?_)
 unfold zAP
 refine J_d 2 [] [] [] [] [] zB ?_
 refine zA (fun x2 h3=>?_)
 refine J_g 6 [] [(0,rr 0 a1)] [(0,rE 1 eStr x2)] (zD 1 (jO («as»:=[rr 0 a1]) [(.tmp 3)] [70] false [(0,rE 1 eStr a1)] [0] (.cons (.rf rfl) (.nil)) (xY.ok a1) h3 (.tu (.nil))) zB) ?_
 refine zA (fun u4 h5=>?_)
 refine zHT (σ':=St.mk' [(0,rr 0 x2)] [(0,rE 1 eStr x2)]) (by simp only [rr,zGM h5]) ?_
 refine zA (fun x6 h7=>?_)
 refine J_g 14 [] [(2,rr 1 x6)] [(1,rE 1 eStr x6)] (zD 1 (jO («as»:=[rr 0 x2]) [(.tmp 5)] [70] false [(0,rE 1 eStr x2)] [0] (.cons (.rf rfl) (.nil)) (xL.ok x2) h7 (.own 1)) zB) ?_
 exact zBI (ds:=[rr 1 x6]) (ds':=[so 1 eStr x6]) (.cons (.cell (.move (.head _) (List.length_map _) (by decide) (.nil))) (.nil) (by decide)) rfl
noncomputable def c173:Code:=(Tryz.f173.body).getD .skip
theorem wM.ok (a1:(List Pack)) (a2:zI) (a3:(List Int)) (s30:((List ByteArray)×Int)) (x34:((List Int)×Int)) (q:Wd) (kn:(List ByteArray)→Option (D×List Ent)) (hk:∀v:(List ByteArray),J (q.g Tryz.prog 173 0 50) c173 (aft c173 1868) (St.mk' [(0,sl 8 (Pack.enc false) a1),(4,pp 0),(8,rr 1 v),(16,sl 1 zJ a3),(17,iv (a3.length:Int)),(18,iv s30.2)] [(0,.box (zI.enc false a2)),(1,rE 1 eStr v)]) (some v) kn):
  ∀s46:((List ByteArray)×Int),J (q.g Tryz.prog 173 0 50) c173 (atI c173 119612) (St.mk' [(0,sl 8 (Pack.enc false) a1),(4,pp 0),(8,rr 1 s46.1),(16,sl 1 zJ a3),(17,iv (a3.length:Int)),(18,iv s30.2),(32,rr 2 x34.1),(33,iv (x34.1.length:Int)),(34,iv s46.2)] [(0,.box (zI.enc false a2)),(1,rE 1 eStr s46.1),(2,rE 1 zJ x34.1)]) (wM a1 a2 a3 s30 x34 s46) kn:=by
 refine zAz (fun g ih s46=>?_)
 unfold uT
 refine J_d 239224 [] [35] [(35,bv (decide (s46.2< (x34.1.length:Int))))] [] [] zB ?_
 refine zC 35 (fun h47=>?_) (fun h47=>?_)
 ·refine zA (fun x48 h49=>?_)
  refine J_d 3827608 [] [14,35] [(14,iv x48)] [] [] (zD 0 (jT (kk:=.i64) 42 2 1 2 zJ (.tmp 32) (.tmp 34) h49) (zD 1 (jR (d:=iv x48) 2 1 2 0 zJ (.tmp 36) h49 (by kernel_rfl)) zB)) ?_
  refine zA (fun x50 h51=>?_)
  refine zA (fun x52 h53=>?_)
  refine zA (fun x54 h55=>?_)
  refine J_g 3827609 [] [(0,sl 8 (Pack.enc false) a1),(4,pp 0),(8,rr 4 x54),(16,sl 1 zJ a3),(17,iv (a3.length:Int)),(18,iv s30.2),(32,rr 2 x34.1),(33,iv (x34.1.length:Int)),(34,iv s46.2)] [(0,.box (zI.enc false a2)),(2,rE 1 zJ x34.1),(4,rE 1 eStr x54)] (zD 3 (zAc (kk:=.i64) 24 89 8 (Pack.enc false) (.tmp 39) (.tmp 40) h51) (zD 5 (xH [(.tmp 42)] [89] (kS.ok x50) h53) (zD 6 (zCR 70 9 1 3 eStr [x52] [0] [(.tmp 43)] [sv x52]) (zD 7 (zFG 70 70 9 9 1 16 4 1 3 eStr (.tmp 38) (.tmp 44) h55) zB)))) ?_
  refine J_d 956903 [] [34] [(34,iv (w64 (s46.2+1)))] [] [] zB ?_
  refine zAy 4 1 (Nat.le_of_ble_eq_true rfl) (Nat.le_of_ble_eq_true rfl) ?_
  exact J_q (J_b (ih (x54,w64 (s46.2+1)))) rfl
 ·exact yQ (hk s46.1) rfl
theorem jL.ok (a1:(List Pack)) (a2:zI) (a3:(List Int)) (q:Wd) (kn:(List ByteArray)→Option (D×List Ent)) (hk:∀v:(List ByteArray),J (q.g Tryz.prog 173 0 50) c173 (atI c173 15) (St.mk' [(8,rr 1 v)] [(1,rE 1 eStr v)]) (some v) kn):
  ∀s30:((List ByteArray)×Int),J (q.g Tryz.prog 173 0 50) c173 (atI c173 116) (St.mk' [(0,sl 8 (Pack.enc false) a1),(4,pp 0),(8,rr 1 s30.1),(16,sl 1 zJ a3),(17,iv (a3.length:Int)),(18,iv s30.2)] [(0,.box (zI.enc false a2)),(1,rE 1 eStr s30.1)]) (jL a1 a2 a3 s30) (Fl.go (fun r:((List ByteArray)×Int)=>some (.tu [so 1 eStr r.1,iv r.2],[])) kn):=by
 refine zAz (fun g ih s30=>?_)
 unfold vF
 refine J_d 232 [] [19] [(19,bv (decide (s30.2< (a3.length:Int))))] [] [] zB ?_
 refine zC 19 (fun h31=>?_) (fun h31=>?_)
 ·refine zA (fun x32 h33=>?_)
  refine J_d 3736 [] [10,19] [(10,iv x32)] [] [] (zD 0 (zAc (kk:=.i64) 42 2 1 zJ (.tmp 16) (.tmp 18) h33) zB) ?_
  refine zA (fun x34 h35=>?_)
  refine J_g 7474 [] [(0,sl 8 (Pack.enc false) a1),(4,pp 0),(8,rr 1 s30.1),(11,rr 2 x34.1),(12,iv x34.2),(16,sl 1 zJ a3),(17,iv (a3.length:Int)),(18,iv s30.2)] [(0,.box (zI.enc false a2)),(1,rE 1 eStr s30.1),(2,rE 1 zJ x34.1)] (zD 3 (jO («as»:=[sl 8 (Pack.enc false) a1,.ag (zI.enc false a2),iv x32]) [(.tmp 23),(.tmp 24),(.tmp 25)] [24,27,2] false [] [] (.cons (.same rfl) (.cons (.same rfl) (.cons (.same rfl) (.nil)))) (zCx.ok a1 a2 x32) h35 (.tu (.cons (.own 2) (.cons (.same rfl rfl) (.nil))))) zB) ?_
  refine J_d 29900 [] [30] [(30,bv (x34.2 !=0))] [] [] zB ?_
  refine zC 30 (fun h36=>?_) (fun h36=>?_)
  ·refine J_g 119604 [] [(6,nv),(7,iv x34.2)] [] zB ?_
   exact zBI (ds:=[nv,iv x34.2]) (ds':=[so 1 eStr ([]:List ByteArray),iv x34.2]) (.cons (.cell (.nilsl true 1 (.nil))) (.cons (.cell (.keep rfl (.nil))) (.nil) (by decide)) (by decide)) rfl
  ·refine J_d 29902 [] [11,12,30,32,33,34] [(32,rr 2 x34.1),(33,iv (x34.1.length:Int)),(34,iv 0)] [] [] zB ?_
   refine zEE (wM.ok a1 a2 a3 s30 x34 q _ (fun v56=>J_j ?_) (s30.1,0))
   refine J_d 935 [] [18] [(18,iv (w64 (s30.2+1)))] [] [] zB ?_
   exact J_q (J_b (ih (v56,w64 (s30.2+1)))) rfl
 ·exact yQ (hk s30.1) rfl
theorem jU.ok (a1:(List Pack)) (a2:zI) (a3:(List Int)):Ok Tryz.prog 173 [sl 8 (Pack.enc false) a1,.ag (zI.enc false a2),sl 1 zJ a3] [] ((jU a1 a2 a3).map fun r=>(.tu [so 1 eStr r.1,iv r.2],[])):=by
 refine zH c173 Tryz.f173 0 50 (fun q=>?_)
 unfold jU
 refine J_g 2 [(0,0)] [(0,sl 8 (Pack.enc false) a1),(2,sl 1 zJ a3),(4,pp 0)] [(0,.box (zI.enc false a2))] zB ?_
 refine J_g 6 [] [(0,sl 8 (Pack.enc false) a1),(2,sl 1 zJ a3),(4,pp 0),(8,rr 1 ([]:List ByteArray))] [(0,.box (zI.enc false a2)),(1,rE 1 eStr ([]:List ByteArray))] (zD 0 (zCR 70 9 1 1 eStr ([]:List ByteArray) [] [] []) zB) ?_
 refine J_d 28 [] [2,16,17,18] [(16,sl 1 zJ a3),(17,iv (a3.length:Int)),(18,iv 0)] [] [] zB ?_
 refine uQ (K0:=(fun r:((List ByteArray)×Int)=>some (.tu [so 1 eStr r.1,iv r.2],[]))) (fun _=>rfl) (jL.ok a1 a2 a3 q _ (fun v57=>J_j ?_) (([]:List ByteArray),0))
 refine zA (fun x58 h59=>?_)
 refine J_g 30 [] [(6,rr 2 x58),(7,iv 0)] [(2,rE 1 eStr x58)] (zD 1 (jO («as»:=[rr 1 v57]) [(.tmp 48)] [70] false [(1,rE 1 eStr v57)] [1] (.cons (.rf rfl) (.nil)) (zAP.ok v57) h59 (.own 2)) zB) ?_
 exact zBI (ds:=[rr 2 x58,iv 0]) (ds':=[so 1 eStr x58,iv 0]) (.cons (.cell (.move (.head _) (List.length_map _) (by decide) (.nil))) (.cons (.cell (.keep rfl (.nil))) (.nil) (by decide)) (by decide)) rfl
noncomputable def c94:Code:=(Tryz.f94.body).getD .skip
theorem vV.ok (a1:(List Pack)) (a2:zI) (a3:(List Int)):Ok Tryz.prog 94 [sl 8 (Pack.enc false) a1,.ag (zI.enc false a2),sl 1 zJ a3] [] ((vV a1 a2 a3).map fun r=>(.tu [so 1 eStr r.1,iv r.2],[])):=by
 refine zH c94 Tryz.f94 0 25 (fun q=>?_)
 unfold vV
 refine J_d 2 [(0,0)] [1,4] [(4,pp 0)] [0] [(0,.box (zI.enc false a2))] zB ?_
 refine zA (fun x4 h5=>?_)
 refine J_g 6 [] [(0,sl 8 (Pack.enc false) a1),(4,pp 0),(8,rr 1 x4.1),(9,iv x4.2)] [(0,.box (zI.enc false a2)),(1,rE 1 zJ x4.1)] (zD 2 (jO («as»:=[.ag (zI.enc false a2),sl 1 zJ a3]) [(.tmp 11),(.tmp 12)] [27,42] false [] [] (.cons (.same rfl) (.cons (.same rfl) (.nil))) (wS.ok a2 a3) h5 (.tu (.cons (.own 1) (.cons (.same rfl rfl) (.nil))))) zB) ?_
 refine J_d 28 [] [17] [(17,bv (x4.2 !=0))] [] [] zB ?_
 refine zC 17 (fun h6=>?_) (fun h6=>?_)
 ·refine J_g 116 [] [(6,nv),(7,iv x4.2)] [] zB ?_
  exact zBI (ds:=[nv,iv x4.2]) (ds':=[so 1 eStr ([]:List ByteArray),iv x4.2]) (.cons (.cell (.nilsl true 1 (.nil))) (.cons (.cell (.keep rfl (.nil))) (.nil) (by decide)) (by decide)) rfl
 ·refine zA (fun x7 h8=>?_)
  refine J_g 30 [] [(6,rr 2 x7.1),(7,iv x7.2)] [(2,rE 1 eStr x7.1)] (zD 3 (jO («as»:=[sl 8 (Pack.enc false) a1,.ag (zI.enc false a2),rr 1 x4.1]) [(.tmp 19),(.tmp 20),(.tmp 21)] [24,27,42] true [(1,rE 1 zJ x4.1)] [] (.cons (.same rfl) (.cons (.same rfl) (.cons (zDP (.head _) (fun _=>rfl) rfl) (.nil)))) (jU.ok a1 a2 x4.1) h8 (.tu (.cons (.own 2) (.cons (.same rfl rfl) (.nil)))) (hbor:=fun _=>⟨fhN,(zMy (flatK (zDt (zED (fun _=>(flatK yI zDx)) _)) (flatK yI zDx)))⟩)) zB) ?_
  exact zBI (ds:=[rr 2 x7.1,iv x7.2]) (ds':=[so 1 eStr x7.1,iv x7.2]) (.cons (.cell (.move (.head _) (List.length_map _) (by decide) (.nil))) (.cons (.cell (.keep rfl (.nil))) (.nil) (by decide)) (by decide)) rfl
noncomputable def c97:Code:=(Tryz.f97.body).getD .skip
theorem zCp.ok (a3:(List ByteArray)) (x30:(List ByteArray)) (q:Wd) (kn:(List ByteArray)→Option (D×List Ent)) (hk:∀v:(List ByteArray),J (q.g Tryz.prog 97 0 47) c97 (atI c97 31) (St.mk' [(7,rr 1 v)] [(1,rE 1 eStr v)]) (some v) kn):
  ∀s41:((List ByteArray)×Int),J (q.g Tryz.prog 97 0 47) c97 (atI c97 244) (St.mk' [(2,sl 1 eStr a3),(7,rr 1 s41.1),(31,rr 2 x30),(32,iv (x30.length:Int)),(33,iv s41.2)] [(1,rE 1 eStr s41.1),(2,rE 1 eStr x30)]) (zCp a3 x30 s41) kn:=by
 refine zAz (fun g ih s41=>?_)
 unfold zBB
 refine J_d 488 [] [34] [(34,bv (decide (s41.2< (x30.length:Int))))] [] [] zB ?_
 refine zC 34 (fun h42=>?_) (fun h42=>?_)
 ·refine zA (fun x43 h44=>?_)
  refine J_d 7832 [] [11,34] [(11,sv x43)] [] [] (zD 0 (jT (kk:=.i64) 70 9 1 2 eStr (.tmp 31) (.tmp 33) h44) (zD 1 (jR (d:=sv x43) 9 1 2 0 eStr (.tmp 35) h44 (by kernel_rfl)) zB)) ?_
  refine zA (fun x45 h46=>?_)
  refine J_d 15666 [] [40] [(40,bv (!x45))] [] [] (zD 2 (xH [(.tmp 37),(.tmp 38)] [70,9] (yR.ok a3 x43) h46) zB) ?_
  refine xC (aft c97 3916) (fun v50:(List ByteArray)=>St.mk' [(2,sl 1 eStr a3),(7,rr 4 v50),(31,rr 2 x30),(32,iv (x30.length:Int)),(33,iv s41.2)] [(2,rE 1 eStr x30),(4,rE 1 eStr v50)]) (fun v50=>?_) (fun jv50=>?_)
  ·refine J_d 1959 [] [33] [(33,iv (w64 (s41.2+1)))] [] [] zB ?_
   refine zAy 4 1 (Nat.le_of_ble_eq_true rfl) (Nat.le_of_ble_eq_true rfl) ?_
   exact J_q (J_b (ih (v50,w64 (s41.2+1)))) rfl
  ·refine zC 40 (fun h47=>?_) (fun h47=>?_)
   ·refine zA (fun x48 h49=>?_)
    refine J_d 31334 [] [7,11,40] [(7,rr 4 x48)] [1,4] [(4,rE 1 eStr x48)] (zD 2 (zCR 70 9 1 3 eStr [x43] [0] [(.tmp 42)] [sv x43]) (zD 3 (zFG 70 70 9 9 1 16 4 1 3 eStr (.tmp 41) (.tmp 43) h49) zB)) ?_
    exact yQ (J_j (jv50 x48)) rfl
   ·refine zAy 1 4 (Nat.le_of_ble_eq_true rfl) (Nat.le_of_ble_eq_true rfl) ?_
    exact yQ (J_j (jv50 s41.1)) rfl
 ·exact yQ (hk s41.1) rfl
theorem zCm.ok (a1:zI) (a2:(List Int)) (a3:(List ByteArray)) (x4:(List Int)) (q:Wd) (kn:(List ByteArray)→Option (D×List Ent)) (hk:∀v:(List ByteArray),J (q.g Tryz.prog 97 0 47) c97 (atI c97 15) (St.mk' [(2,sl 1 eStr a3),(3,pp 0),(7,rr 1 v)] [(0,.box (zI.enc false a1)),(1,rE 1 eStr v)]) (some v) kn):
  ∀s17:((List ByteArray)×Int),J (q.g Tryz.prog 97 0 47) c97 (atI c97 116) (St.mk' [(1,sl 1 zJ a2),(2,sl 1 eStr a3),(3,pp 0),(7,rr 1 s17.1),(14,rr 2 x4),(15,iv (x4.length:Int)),(16,iv s17.2)] [(0,.box (zI.enc false a1)),(1,rE 1 eStr s17.1),(2,rE 1 zJ x4)]) (zCm a1 a2 a3 x4 s17) kn:=by
 refine zAz (fun g ih s17=>?_)
 unfold zBD
 refine J_d 232 [] [17] [(17,bv (decide (s17.2< (x4.length:Int))))] [] [] zB ?_
 refine zC 17 (fun h18=>?_) (fun h18=>?_)
 ·refine zA (fun x19 h20=>?_)
  refine J_d 3736 [] [9,17] [(9,iv x19)] [] [] (zD 0 (jT (kk:=.i64) 42 2 1 2 zJ (.tmp 14) (.tmp 16) h20) (zD 1 (jR (d:=iv x19) 2 1 2 0 zJ (.tmp 18) h20 (by kernel_rfl)) zB)) ?_
  refine zA (fun x21 h22=>?_)
  refine J_d 7474 [] [23] [(23,bv (!x21))] [] [] (zD 2 (xH [(.tmp 20),(.tmp 21)] [42,2] (zR.ok a2 x19) h22) zB) ?_
  refine xC (aft c97 1868) (fun v28:(List ByteArray)=>St.mk' [(1,sl 1 zJ a2),(2,sl 1 eStr a3),(3,pp 0),(7,rr 4 v28),(14,rr 2 x4),(15,iv (x4.length:Int)),(16,iv s17.2)] [(0,.box (zI.enc false a1)),(2,rE 1 zJ x4),(4,rE 1 eStr v28)]) (fun v28=>?_) (fun jv28=>?_)
  ·refine J_d 935 [] [16] [(16,iv (w64 (s17.2+1)))] [] [] zB ?_
   refine zAy 4 1 (Nat.le_of_ble_eq_true rfl) (Nat.le_of_ble_eq_true rfl) ?_
   exact J_q (J_b (ih (v28,w64 (s17.2+1)))) rfl
  ·refine zC 23 (fun h23=>?_) (fun h23=>?_)
   ·refine zA (fun x24 h25=>?_)
    refine zA (fun x26 h27=>?_)
    refine J_d 14950 [] [7,9,23] [(7,rr 4 x26)] [1,4] [(4,rE 1 eStr x26)] (zD 2 (xH [(.tmp 25)] [2] (tK.ok x19) h25) (zD 3 (zCR 70 9 1 3 eStr [x24] [0] [(.tmp 26)] [sv x24]) (zD 4 (zFG 70 70 9 9 1 16 4 1 3 eStr (.tmp 24) (.tmp 27) h27) zB))) ?_
    exact yQ (J_j (jv28 x26)) rfl
   ·refine zAy 1 4 (Nat.le_of_ble_eq_true rfl) (Nat.le_of_ble_eq_true rfl) ?_
    exact yQ (J_j (jv28 s17.1)) rfl
 ·exact yQ (hk s17.1) rfl
theorem zCy.ok (a1:zI) (a2:(List Int)) (a3:(List ByteArray)):Ok Tryz.prog 97 [.ag (zI.enc false a1),sl 1 zJ a2,sl 1 eStr a3] [] ((zCy a1 a2 a3).map fun r=>(so 1 eStr r,[])):=by
 refine zH c97 Tryz.f97 0 47 (fun q=>?_)
 unfold zCy
 refine J_g 2 [(0,0)] [(1,sl 1 zJ a2),(2,sl 1 eStr a3),(3,pp 0)] [(0,.box (zI.enc false a1))] zB ?_
 refine J_d 6 [] [7] [(7,rr 1 ([]:List ByteArray))] [1] [(1,rE 1 eStr ([]:List ByteArray))] (zD 0 (zCR 70 9 1 1 eStr ([]:List ByteArray) [] [] []) zB) ?_
 refine zA (fun x4 h5=>?_)
 refine J_d 28 [] [14,15,16] [(14,rr 2 x4),(15,iv (x4.length:Int)),(16,iv 0)] [2] [(2,rE 1 zJ x4)] (zD 1 (jO («as»:=[.ag (zI.enc false a1)]) [(.tmp 13)] [27] false [] [] (.cons (.same rfl) (.nil)) (xP.ok a1) h5 (.own 2)) zB) ?_
 refine zEE (zCm.ok a1 a2 a3 x4 q _ (fun v29=>J_j ?_) (([]:List ByteArray),0))
 refine zA (fun x30 h31=>?_)
 refine J_d 60 [] [3,31,32,33] [(31,rr 2 x30),(32,iv (x30.length:Int)),(33,iv 0)] [0,2] [(2,rE 1 eStr x30)] (zD 1 (jO («as»:=[.ag (zI.enc false a1),sv (bs [112,107,103,47])]) [(.tmp 30),(.const (.string (bs [112,107,103,47])))] [27,9] false [] [] (.cons (.same rfl) (.cons (.same rfl) (.nil))) (wW.ok a1 (bs [112,107,103,47])) h31 (.own 2)) zB) ?_
 refine zEE (zCp.ok a3 x30 q _ (fun v51=>J_j ?_) (v29,0))
 refine J_g 62 [] [(6,rr 1 v51)] [(1,rE 1 eStr v51)] zB ?_
 exact zBI (ds:=[rr 1 v51]) (ds':=[so 1 eStr v51]) (.cons (.cell (.move (.head _) (List.length_map _) (by decide) (.nil))) (.nil) (by decide)) rfl
noncomputable def c96:Code:=(Tryz.f96.body).getD .skip
theorem vE.ok (a1:zI) (a2:(List ByteArray)) (q:Wd) (kn:Int→Option (D×List Ent)) (hk:∀v:Int,J (q.g Tryz.prog 96 0 28) c96 (atI c96 15) (St.mk' [(5,iv v)] []) (some v) kn):
  ∀s8:(Int×Int),J (q.g Tryz.prog 96 0 28) c96 (atI c96 116) (St.mk' [(2,pp 0),(5,iv s8.1),(10,sl 1 eStr a2),(11,iv (a2.length:Int)),(12,iv s8.2)] [(0,.box (zI.enc false a1))]) (vE a1 a2 s8) kn:=by
 refine zAz (fun g ih s8=>?_)
 unfold uL
 refine J_d 232 [] [13] [(13,bv (decide (s8.2< (a2.length:Int))))] [] [] zB ?_
 refine zC 13 (fun h9=>?_) (fun h9=>?_)
 ·refine zA (fun x10 h11=>?_)
  refine J_d 3736 [] [7,13] [(7,sv x10)] [] [] (zD 0 (zAc (kk:=.i64) 70 9 1 eStr (.tmp 10) (.tmp 12) h11) zB) ?_
  refine zA (fun x12 h13=>?_)
  refine J_g 7474 [] [(2,pp 0),(5,iv s8.1),(8,sl 1 eU8 x12.1),(10,sl 1 eStr a2),(11,iv (a2.length:Int)),(12,iv s8.2)] [(0,.box (zI.enc false a1))] (zD 2 (xH [(.tmp 17),(.tmp 18)] [27,9] (yN.ok a1 x10) h13) zB) ?_
  refine J_g 7475 [] [(2,pp 0),(5,iv (w64 (s8.1+(x12.1.length:Int)))),(10,sl 1 eStr a2),(11,iv (a2.length:Int)),(12,iv s8.2)] [(0,.box (zI.enc false a1))] zB ?_
  refine J_d 935 [] [12] [(12,iv (w64 (s8.2+1)))] [] [] zB ?_
  exact J_q (J_b (ih (w64 (s8.1+(x12.1.length:Int)),w64 (s8.2+1)))) rfl
 ·exact yQ (hk s8.1) rfl
theorem tN.ok (a1:zI) (a2:(List ByteArray)):Ok Tryz.prog 96 [.ag (zI.enc false a1),sl 1 eStr a2] [] ((tN a1 a2).map fun r=>(iv r,[])):=by
 refine zH c96 Tryz.f96 0 28 (fun q=>?_)
 unfold tN
 refine J_g 2 [(0,0)] [(1,sl 1 eStr a2),(2,pp 0)] [(0,.box (zI.enc false a1))] zB ?_
 refine J_g 6 [] [(1,sl 1 eStr a2),(2,pp 0),(5,iv 0)] [(0,.box (zI.enc false a1))] zB ?_
 refine J_d 28 [] [1,10,11,12] [(10,sl 1 eStr a2),(11,iv (a2.length:Int)),(12,iv 0)] [] [] zB ?_
 refine zEE (vE.ok a1 a2 q _ (fun v14=>J_j ?_) (0,0))
 refine J_g 30 [] [(4,iv v14)] [] zB ?_
 exact zU rfl
noncomputable def c39:Code:=(Tryz.f39.body).getD .skip
theorem zAq.ok (a1:(List Pack)) (a2:zI):Ok Tryz.prog 39 [sl 8 (Pack.enc false) a1,.ag (zI.enc false a2)] [] ((zAq a1 a2).map fun r=>(.ag (yM.enc r),[])):=by
 refine zH c39 Tryz.f39 0 37 (fun q=>?_)
 unfold zAq
 refine J_d 2 [(0,0),(1,1)] [1,3,4] [(3,pp 0),(4,pp 1)] [0,1] [(0,.box (zI.enc false a2)),(1,.box [iv 0,iv 0])] zB ?_
 refine zA (fun x3 h4=>?_)
 refine J_g 6 [] [(0,sl 8 (Pack.enc false) a1),(3,pp 0),(4,pp 1),(5,iv x3)] [(0,.box (zI.enc false a2)),(1,.box [iv 0,iv 0])] (zD 2 (xH [(.tmp 9),(.tmp 10)] [24,27] (tC.ok a1 a2) h4) zB) ?_
 refine J_g 14 [] [(0,sl 8 (Pack.enc false) a1),(3,pp 0),(4,pp 1),(5,iv x3),(6,rr 2 ([]:List ByteArray))] [(0,.box (zI.enc false a2)),(1,.box [iv 0,iv 0]),(2,rE 1 eStr ([]:List ByteArray))] (zD 0 (zCR 70 9 1 2 eStr ([]:List ByteArray) [] [] []) zB) ?_
 refine J_d 60 [] [14] [(14,bv (x3==0))] [] [] zB ?_
 refine xC (atI c39 31) (fun v8:(Int×(List ByteArray))=>St.mk' [(3,pp 0),(4,pp 1),(5,iv v8.1),(6,rr 3 v8.2)] [(0,.box (zI.enc false a2)),(1,.box [iv 0,iv 0]),(3,rE 1 eStr v8.2)]) (fun v8=>?_) (fun jv8=>?_)
 ·refine J_d 124 [] [22] [(22,bv (v8.1 !=0))] [] [] zB ?_
  refine zC 22 (fun h9=>?_) (fun h9=>?_)
  ·refine J_g 500 [] [(4,pp 1)] [(1,.box [iv v8.1,iv 0])] zB ?_
   exact zU rfl
  ·refine zA (fun x10 h11=>?_)
   refine J_d 126 [] [5,7,22] [(7,rr 4 x10.1)] [4] [(4,rE 1 zJ x10.1)] (zD 1 (jO («as»:=[.ag (zI.enc false a2),nv]) [(.tmp 26),(.const (.slice none 0 0))] [27,42] false [] [] (.cons (.same rfl) (.cons (.nil false 1) (.nil))) (wS.ok a2 ([]:List Int)) h11 (.tu (.cons (.own 4) (.cons (.same rfl rfl) (.nil))))) zB) ?_
   refine zA (fun x12 h13=>?_)
   refine zA (fun x14 h15=>?_)
   refine J_g 254 [] [(4,pp 1)] [(1,.box [iv 0,iv x14])] (zD 4 (jO («as»:=[.ag (zI.enc false a2),rr 4 x10.1,rr 3 v8.2]) [(.tmp 31),(.tmp 32),(.tmp 33)] [27,42,70] true [(4,rE 1 zJ x10.1),(3,rE 1 eStr v8.2)] [] (.cons (.same rfl) (.cons (zDP (.head _) (fun _=>rfl) rfl) (.cons (zDP (.tail _ (.head _)) (fun _=>rfl) rfl) (.nil)))) (zCy.ok a2 x10.1 v8.2) h13 (.own 5) (hbor:=fun _=>⟨fhN,(zDt (zED (fun _=>(flatK yI zDx)) _))⟩)) (zD 5 (jO («as»:=[.ag (zI.enc false a2),rr 5 x12]) [(.tmp 30),(.tmp 34)] [27,70] true [(5,rE 1 eStr x12)] [] (.cons (.same rfl) (.cons (zDP (.head _) (fun _=>rfl) rfl) (.nil))) (tN.ok a2 x12) h15 (.same rfl rfl) (hbor:=fun _=>⟨fhN,yI⟩)) zB)) ?_
   exact zU rfl
 ·refine zC 14 (fun h5=>?_) (fun h5=>?_)
  ·refine zA (fun x6 h7=>?_)
   refine J_d 122 [] [0,5,6,14] [(5,iv x6.2),(6,rr 3 x6.1)] [2,3] [(3,rE 1 eStr x6.1)] (zD 2 (jO («as»:=[sl 8 (Pack.enc false) a1,.ag (zI.enc false a2),nv]) [(.tmp 16),(.tmp 17),(.const (.slice none 0 0))] [24,27,42] false [] [] (.cons (.same rfl) (.cons (.same rfl) (.cons (.nil false 1) (.nil)))) (vV.ok a1 a2 ([]:List Int)) h7 (.tu (.cons (.own 3) (.cons (.same rfl rfl) (.nil))))) zB) ?_
   exact yQ (J_j (jv8 (x6.2,x6.1))) rfl
  ·refine zAy 2 3 (Nat.le_of_ble_eq_true rfl) (Nat.le_of_ble_eq_true rfl) ?_
   exact yQ (J_j (jv8 (x3,([]:List ByteArray)))) rfl
noncomputable def c23:Code:=(Tryz.f23.body).getD .skip
theorem uS.ok (a1:yM) (a2:yM):Ok Tryz.prog 23 [.ag (yM.enc a1),.ag (yM.enc a2)] [] ((uS a1 a2).map fun r=>(bv r,[])):=by
 refine zH c23 Tryz.f23 0 15 (fun q=>?_)
 unfold uS
 refine J_g 2 [(0,0),(1,1)] [(2,pp 0),(3,pp 1)] [(0,.box (yM.enc a1)),(1,.box (yM.enc a2))] zB ?_
 refine J_d 12 [] [9] [(9,bv (a1.Code !=a2.Code))] [] [] zB ?_
 refine zC 9 (fun h3=>?_) (fun h3=>?_)
 ·refine J_g 52 [] [(4,bv false)] [] zB ?_
  exact zU rfl
 ·refine J_g 28 [] [(14,bv (a1.Value !=a2.Value))] [] zB ?_
  refine zC 14 (fun h4=>?_) (fun h4=>?_)
  ·refine J_g 116 [] [(4,bv false)] [] zB ?_
   exact zU rfl
  ·refine J_g 30 [] [(4,bv true)] [] zB ?_
   exact zU rfl
noncomputable def c119:Code:=(Tryz.f119.body).getD .skip
theorem wH.ok (a1:Version) (a2:Version):Ok Tryz.prog 119 [.ag (Version.enc a1),.ag (Version.enc a2)] [] ((wH a1 a2).map fun r=>(bv r,[])):=by
 refine zH c119 Tryz.f119 0 20 (fun q=>?_)
 unfold wH
 refine J_g 2 [(0,0),(1,1)] [(2,pp 0),(3,pp 1)] [(0,.box (Version.enc a1)),(1,.box (Version.enc a2))] zB ?_
 refine J_d 12 [] [9] [(9,bv (a1.A !=a2.A))] [] [] zB ?_
 refine zC 9 (fun h3=>?_) (fun h3=>?_)
 ·refine J_g 52 [] [(4,bv false)] [] zB ?_
  exact zU rfl
 ·refine J_d 28 [] [9,14] [(14,bv (a1.B !=a2.B))] [] [] zB ?_
  refine zC 14 (fun h4=>?_) (fun h4=>?_)
  ·refine J_g 116 [] [(4,bv false)] [] zB ?_
   exact zU rfl
  ·refine J_g 60 [] [(19,bv (a1.C !=a2.C))] [] zB ?_
   refine zC 19 (fun h5=>?_) (fun h5=>?_)
   ·refine J_g 244 [] [(4,bv false)] [] zB ?_
    exact zU rfl
   ·refine J_g 62 [] [(4,bv true)] [] zB ?_
    exact zU rfl
noncomputable def c98:Code:=(Tryz.f98.body).getD .skip
theorem zAn.ok (a1:(List ByteArray)) (a2:(List ByteArray)) (q:Wd) (kn:Unit→Option (D×List Ent)) (hk:∀v:Unit,J (q.g Tryz.prog 98 0 26) c98 (atI c98 15) (St.mk' [] []) (some v) kn):
  ∀s10:Int,J (q.g Tryz.prog 98 0 26) c98 (atI c98 116) (St.mk' [(0,sl 1 eStr a1),(1,sl 1 eStr a2),(5,iv s10)] []) (zAn a1 a2 s10) (Fl.go (fun r:Bool=>some (bv r,[])) kn):=by
 refine zAz (fun g ih s10=>?_)
 unfold zAI
 refine J_d 464 [] [14] [(14,bv (decide (s10< (a1.length:Int))))] [] [] zB ?_
 refine zC 14 (fun h11=>?_) (fun h11=>?_)
 ·refine zA (fun x12 h13=>?_)
  refine zA (fun x14 h15=>?_)
  refine J_d 1864 [] [14,25] [(25,bv (!(seq x12 x14)))] [] [] (zD 2 (zAc (kk:=.i64) 70 9 1 eStr (.tmp 17) (.tmp 18) h13) (zD 6 (zAc (kk:=.i64) 70 9 1 eStr (.tmp 21) (.tmp 22) h15) zB)) ?_
  refine zC 25 (fun h16=>?_) (fun h16=>?_)
  ·refine J_g 7460 [] [(4,bv false)] [] zB ?_
   exact zU rfl
  ·refine J_d 467 [] [5,25] [(5,iv (w64 (s10+1)))] [] [] zB ?_
   exact J_q (J_b (ih (w64 (s10+1)))) rfl
 ·exact yQ (hk ()) rfl
theorem kZ.ok (a1:(List ByteArray)) (a2:(List ByteArray)):Ok Tryz.prog 98 [sl 1 eStr a1,sl 1 eStr a2] [] ((kZ a1 a2).map fun r=>(bv r,[])):=by
 refine zH c98 Tryz.f98 0 26 (fun q=>?_)
 unfold kZ
 refine J_g 2 [] [(0,sl 1 eStr a1),(1,sl 1 eStr a2)] [] zB ?_
 refine J_d 12 [] [10] [(10,bv ((a1.length:Int) !=(a2.length:Int)))] [] [] zB ?_
 refine zC 10 (fun h3=>?_) (fun h3=>?_)
 ·refine J_g 52 [] [(4,bv false)] [] zB ?_
  exact zU rfl
 ·refine J_d 28 [] [5,10] [(5,iv 0)] [] [] zB ?_
  refine uQ (K0:=(fun r:Bool=>some (bv r,[]))) (fun _=>rfl) (zAn.ok a1 a2 q _ (fun v17=>J_j ?_) 0)
  refine J_g 30 [] [(4,bv true)] [] zB ?_
  exact zU rfl
noncomputable def zON:Code:=(Tryz.f153.body).getD .skip
theorem zBW.ok (a1:Term) (a2:Term):Ok Tryz.prog 153 [.ag (Term.enc a1),.ag (Term.enc a2)] [] ((zBW a1 a2).map fun r=>(bv r,[])):=by
 refine zH zON Tryz.f153 0 22 (fun q=>?_)
 unfold zBW
 refine J_g 2 [(0,0),(1,1)] [(2,pp 0),(3,pp 1)] [(0,.box (Term.enc a1)),(1,.box (Term.enc a2))] zB ?_
 refine J_d 12 [] [9] [(9,bv (!(seq a1.Name a2.Name)))] [] [] zB ?_
 refine zC 9 (fun h3=>?_) (fun h3=>?_)
 ·refine J_g 52 [] [(4,bv false)] [] zB ?_
  exact zU rfl
 ·refine zA (fun x4 h5=>?_)
  refine J_d 28 [] [9,15] [(15,bv (!x4))] [] [] (zD 4 (xH [(.tmp 11),(.tmp 13)] [86,86] (wH.ok a1.Low a2.Low) h5) zB) ?_
  refine zC 15 (fun h6=>?_) (fun h6=>?_)
  ·refine J_g 116 [] [(4,bv false)] [] zB ?_
   exact zU rfl
  ·refine zA (fun x7 h8=>?_)
   refine J_g 60 [] [(21,bv (!x7))] [] (zD 4 (xH [(.tmp 17),(.tmp 19)] [86,86] (wH.ok a1.High a2.High) h8) zB) ?_
   refine zC 21 (fun h9=>?_) (fun h9=>?_)
   ·refine J_g 244 [] [(4,bv false)] [] zB ?_
    exact zU rfl
   ·refine J_g 62 [] [(4,bv true)] [] zB ?_
    exact zU rfl
noncomputable def c76:Code:=(Tryz.f76.body).getD .skip
theorem zAW.ok (a1:(List Term)) (a2:(List Term)) (q:Wd) (kn:Unit→Option (D×List Ent)) (hk:∀v:Unit,J (q.g Tryz.prog 76 0 27) c76 (atI c76 15) (St.mk' [] []) (some v) kn):
  ∀s12:Int,J (q.g Tryz.prog 76 0 27) c76 (atI c76 116) (St.mk' [(0,sl 7 Term.enc a1),(1,sl 7 Term.enc a2),(5,iv s12)] []) (zAW a1 a2 s12) (Fl.go (fun r:Bool=>some (bv r,[])) kn):=by
 refine zAz (fun g ih s12=>?_)
 unfold zBJ
 refine J_d 464 [] [14] [(14,bv (decide (s12< (a1.length:Int))))] [] [] zB ?_
 refine zC 14 (fun h13=>?_) (fun h13=>?_)
 ·refine zA (fun x14 h15=>?_)
  refine zA (fun x16 h17=>?_)
  refine zA (fun x18 h19=>?_)
  refine J_d 1864 [] [14,26] [(26,bv (!x18))] [] [] (zD 2 (zAc (kk:=.i64) 53 153 7 Term.enc (.tmp 17) (.tmp 18) h15) (zD 6 (zAc (kk:=.i64) 53 153 7 Term.enc (.tmp 21) (.tmp 22) h17) (zD 8 (xH [(.tmp 20),(.tmp 24)] [153,153] (zBW.ok x14 x16) h19) zB))) ?_
  refine zC 26 (fun h20=>?_) (fun h20=>?_)
  ·refine J_g 7460 [] [(4,bv false)] [] zB ?_
   exact zU rfl
  ·refine J_d 467 [] [5,26] [(5,iv (w64 (s12+1)))] [] [] zB ?_
   exact J_q (J_b (ih (w64 (s12+1)))) rfl
 ·exact yQ (hk ()) rfl
theorem kJ.ok (a1:(List Term)) (a2:(List Term)):Ok Tryz.prog 76 [sl 7 Term.enc a1,sl 7 Term.enc a2] [] ((kJ a1 a2).map fun r=>(bv r,[])):=by
 refine zH c76 Tryz.f76 0 27 (fun q=>?_)
 unfold kJ
 refine J_g 2 [] [(0,sl 7 Term.enc a1),(1,sl 7 Term.enc a2)] [] zB ?_
 refine J_d 12 [] [10] [(10,bv ((a1.length:Int) !=(a2.length:Int)))] [] [] zB ?_
 refine zC 10 (fun h3=>?_) (fun h3=>?_)
 ·refine J_g 52 [] [(4,bv false)] [] zB ?_
  exact zU rfl
 ·refine J_d 28 [] [5,10] [(5,iv 0)] [] [] zB ?_
  refine uQ (K0:=(fun r:Bool=>some (bv r,[]))) (fun _=>rfl) (zAW.ok a1 a2 q _ (fun v21=>J_j ?_) 0)
  refine J_g 30 [] [(4,bv true)] [] zB ?_
  exact zU rfl
noncomputable def zMX:Code:=(Tryz.f120.body).getD .skip
theorem zA8.ok (a1:(List (List Term))) (a2:(List (List Term))) (q:Wd) (kn:Unit→Option (D×List Ent)) (hk:∀v:Unit,J (q.g Tryz.prog 120 0 27) zMX (atI zMX 15) (St.mk' [] []) (some v) kn):
  ∀s12:Int,J (q.g Tryz.prog 120 0 27) zMX (atI zMX 116) (St.mk' [(0,sl 1 (eSl false 7 Term.enc) a1),(1,sl 1 (eSl false 7 Term.enc) a2),(5,iv s12)] []) (zA8 a1 a2 s12) (Fl.go (fun r:Bool=>some (bv r,[])) kn):=by
 refine zAz (fun g ih s12=>?_)
 unfold zB4
 refine J_d 464 [] [14] [(14,bv (decide (s12< (a1.length:Int))))] [] [] zB ?_
 refine zC 14 (fun h13=>?_) (fun h13=>?_)
 ·refine zA (fun x14 h15=>?_)
  refine zA (fun x16 h17=>?_)
  refine zA (fun x18 h19=>?_)
  refine J_d 1864 [] [14,26] [(26,bv (!x18))] [] [] (zD 2 (zAc (kk:=.i64) 87 53 1 (eSl false 7 Term.enc) (.tmp 17) (.tmp 18) h15) (zD 6 (zAc (kk:=.i64) 87 53 1 (eSl false 7 Term.enc) (.tmp 21) (.tmp 22) h17) (zD 8 (xH [(.tmp 20),(.tmp 24)] [53,53] (kJ.ok x14 x16) h19) zB))) ?_
  refine zC 26 (fun h20=>?_) (fun h20=>?_)
  ·refine J_g 7460 [] [(4,bv false)] [] zB ?_
   exact zU rfl
  ·refine J_d 467 [] [5,26] [(5,iv (w64 (s12+1)))] [] [] zB ?_
   exact J_q (J_b (ih (w64 (s12+1)))) rfl
 ·exact yQ (hk ()) rfl
theorem zAu.ok (a1:(List (List Term))) (a2:(List (List Term))):Ok Tryz.prog 120 [sl 1 (eSl false 7 Term.enc) a1,sl 1 (eSl false 7 Term.enc) a2] [] ((zAu a1 a2).map fun r=>(bv r,[])):=by
 refine zH zMX Tryz.f120 0 27 (fun q=>?_)
 unfold zAu
 refine J_g 2 [] [(0,sl 1 (eSl false 7 Term.enc) a1),(1,sl 1 (eSl false 7 Term.enc) a2)] [] zB ?_
 refine J_d 12 [] [10] [(10,bv ((a1.length:Int) !=(a2.length:Int)))] [] [] zB ?_
 refine zC 10 (fun h3=>?_) (fun h3=>?_)
 ·refine J_g 52 [] [(4,bv false)] [] zB ?_
  exact zU rfl
 ·refine J_d 28 [] [5,10] [(5,iv 0)] [] [] zB ?_
  refine uQ (K0:=(fun r:Bool=>some (bv r,[]))) (fun _=>rfl) (zA8.ok a1 a2 q _ (fun v21=>J_j ?_) 0)
  refine J_g 30 [] [(4,bv true)] [] zB ?_
  exact zU rfl
noncomputable def c54:Code:=(Tryz.f54.body).getD .skip
theorem zBX.ok (a1:Pack) (a2:Pack):Ok Tryz.prog 54 [.ag (Pack.enc false a1),.ag (Pack.enc false a2)] [] ((zBX a1 a2).map fun r=>(bv r,[])):=by
 refine zH c54 Tryz.f54 0 39 (fun q=>?_)
 unfold zBX
 refine J_g 2 [(0,0),(1,1)] [(2,pp 0),(3,pp 1)] [(0,.box (Pack.enc false a1)),(1,.box (Pack.enc false a2))] zB ?_
 refine J_d 12 [] [9] [(9,bv (!(seq a1.Name a2.Name)))] [] [] zB ?_
 refine zC 9 (fun h3=>?_) (fun h3=>?_)
 ·refine J_g 52 [] [(4,bv false)] [] zB ?_
  exact zU rfl
 ·refine zA (fun x4 h5=>?_)
  refine J_d 28 [] [9,15] [(15,bv (!x4))] [] [] (zD 4 (xH [(.tmp 11),(.tmp 13)] [86,86] (wH.ok a1.Version a2.Version) h5) zB) ?_
  refine zC 15 (fun h6=>?_) (fun h6=>?_)
  ·refine J_g 116 [] [(4,bv false)] [] zB ?_
   exact zU rfl
  ·refine J_d 60 [] [15,20] [(20,bv (a1.Size !=a2.Size))] [] [] zB ?_
   refine zC 20 (fun h7=>?_) (fun h7=>?_)
   ·refine J_g 244 [] [(4,bv false)] [] zB ?_
    exact zU rfl
   ·refine zA (fun x8 h9=>?_)
    refine J_d 124 [] [20,26] [(26,bv (!x8))] [] [] (zD 4 (xH [(.tmp 22),(.tmp 24)] [70,70] (kZ.ok a1.Provides a2.Provides) h9) zB) ?_
    refine zC 26 (fun h10=>?_) (fun h10=>?_)
    ·refine J_g 500 [] [(4,bv false)] [] zB ?_
     exact zU rfl
    ·refine zA (fun x11 h12=>?_)
     refine J_d 252 [] [26,32] [(32,bv (!x11))] [] [] (zD 4 (xH [(.tmp 28),(.tmp 30)] [87,87] (zAu.ok a1.Needs a2.Needs) h12) zB) ?_
     refine zC 32 (fun h13=>?_) (fun h13=>?_)
     ·refine J_g 1012 [] [(4,bv false)] [] zB ?_
      exact zU rfl
     ·refine zA (fun x14 h15=>?_)
      refine J_g 508 [] [(38,bv (!x14))] [] (zD 4 (xH [(.tmp 34),(.tmp 36)] [53,53] (kJ.ok a1.Bars a2.Bars) h15) zB) ?_
      refine zC 38 (fun h16=>?_) (fun h16=>?_)
      ·refine J_g 2036 [] [(4,bv false)] [] zB ?_
       exact zU rfl
      ·refine J_g 510 [] [(4,bv true)] [] zB ?_
       exact zU rfl
noncomputable def c14:Code:=(Tryz.f14.body).getD .skip
theorem zAQ.ok (a1:(List Pack)) (a2:(List Pack)) (q:Wd) (kn:Unit→Option (D×List Ent)) (hk:∀v:Unit,J (q.g Tryz.prog 14 0 27) c14 (atI c14 15) (St.mk' [] []) (some v) kn):
  ∀s12:Int,J (q.g Tryz.prog 14 0 27) c14 (atI c14 116) (St.mk' [(0,sl 8 (Pack.enc false) a1),(1,sl 8 (Pack.enc false) a2),(5,iv s12)] []) (zAQ a1 a2 s12) (Fl.go (fun r:Bool=>some (bv r,[])) kn):=by
 refine zAz (fun g ih s12=>?_)
 unfold zBL
 refine J_d 464 [] [14] [(14,bv (decide (s12< (a1.length:Int))))] [] [] zB ?_
 refine zC 14 (fun h13=>?_) (fun h13=>?_)
 ·refine zA (fun x14 h15=>?_)
  refine zA (fun x16 h17=>?_)
  refine zA (fun x18 h19=>?_)
  refine J_d 1864 [] [14,26] [(26,bv (!x18))] [] [] (zD 2 (zAc (kk:=.i64) 24 89 8 (Pack.enc false) (.tmp 17) (.tmp 18) h15) (zD 6 (zAc (kk:=.i64) 24 89 8 (Pack.enc false) (.tmp 21) (.tmp 22) h17) (zD 8 (xH [(.tmp 20),(.tmp 24)] [89,89] (zBX.ok x14 x16) h19) zB))) ?_
  refine zC 26 (fun h20=>?_) (fun h20=>?_)
  ·refine J_g 7460 [] [(4,bv false)] [] zB ?_
   exact zU rfl
  ·refine J_d 467 [] [5,26] [(5,iv (w64 (s12+1)))] [] [] zB ?_
   exact J_q (J_b (ih (w64 (s12+1)))) rfl
 ·exact yQ (hk ()) rfl
theorem zAV.ok (a1:(List Pack)) (a2:(List Pack)):Ok Tryz.prog 14 [sl 8 (Pack.enc false) a1,sl 8 (Pack.enc false) a2] [] ((zAV a1 a2).map fun r=>(bv r,[])):=by
 refine zH c14 Tryz.f14 0 27 (fun q=>?_)
 unfold zAV
 refine J_g 2 [] [(0,sl 8 (Pack.enc false) a1),(1,sl 8 (Pack.enc false) a2)] [] zB ?_
 refine J_d 12 [] [10] [(10,bv ((a1.length:Int) !=(a2.length:Int)))] [] [] zB ?_
 refine zC 10 (fun h3=>?_) (fun h3=>?_)
 ·refine J_g 52 [] [(4,bv false)] [] zB ?_
  exact zU rfl
 ·refine J_d 28 [] [5,10] [(5,iv 0)] [] [] zB ?_
  refine uQ (K0:=(fun r:Bool=>some (bv r,[]))) (fun _=>rfl) (zAQ.ok a1 a2 q _ (fun v21=>J_j ?_) 0)
  refine J_g 30 [] [(4,bv true)] [] zB ?_
  exact zU rfl
noncomputable def zNf:Code:=(Tryz.f216.body).getD .skip
theorem zBx.ok (a1:(List Int)) (a2:(List Int)) (q:Wd) (kn:Unit→Option (D×List Ent)) (hk:∀v:Unit,J (q.g Tryz.prog 216 0 26) zNf (atI zNf 15) (St.mk' [] []) (some v) kn):
  ∀s10:Int,J (q.g Tryz.prog 216 0 26) zNf (atI zNf 116) (St.mk' [(0,sl 1 eU8 a1),(1,sl 1 eU8 a2),(5,iv s10)] []) (zBx a1 a2 s10) (Fl.go (fun r:Bool=>some (bv r,[])) kn):=by
 refine zAz (fun g ih s10=>?_)
 unfold zBM
 refine J_d 464 [] [14] [(14,bv (decide (s10< (a1.length:Int))))] [] [] zB ?_
 refine zC 14 (fun h11=>?_) (fun h11=>?_)
 ·refine zA (fun x12 h13=>?_)
  refine zA (fun x14 h15=>?_)
  refine J_d 1864 [] [14,25] [(25,bv (x12 !=x14))] [] [] (zD 2 (zAc (kk:=.i64) 111 5 1 eU8 (.tmp 17) (.tmp 18) h13) (zD 6 (zAc (kk:=.i64) 111 5 1 eU8 (.tmp 21) (.tmp 22) h15) zB)) ?_
  refine zC 25 (fun h16=>?_) (fun h16=>?_)
  ·refine J_g 7460 [] [(4,bv false)] [] zB ?_
   exact zU rfl
  ·refine J_d 467 [] [5,25] [(5,iv (w64 (s10+1)))] [] [] zB ?_
   exact J_q (J_b (ih (w64 (s10+1)))) rfl
 ·exact yQ (hk ()) rfl
theorem zBd.ok (a1:(List Int)) (a2:(List Int)):Ok Tryz.prog 216 [sl 1 eU8 a1,sl 1 eU8 a2] [] ((zBd a1 a2).map fun r=>(bv r,[])):=by
 refine zH zNf Tryz.f216 0 26 (fun q=>?_)
 unfold zBd
 refine J_g 2 [] [(0,sl 1 eU8 a1),(1,sl 1 eU8 a2)] [] zB ?_
 refine J_d 12 [] [10] [(10,bv ((a1.length:Int) !=(a2.length:Int)))] [] [] zB ?_
 refine zC 10 (fun h3=>?_) (fun h3=>?_)
 ·refine J_g 52 [] [(4,bv false)] [] zB ?_
  exact zU rfl
 ·refine J_d 28 [] [5,10] [(5,iv 0)] [] [] zB ?_
  refine uQ (K0:=(fun r:Bool=>some (bv r,[]))) (fun _=>rfl) (zBx.ok a1 a2 q _ (fun v17=>J_j ?_) 0)
  refine J_g 30 [] [(4,bv true)] [] zB ?_
  exact zU rfl
noncomputable def zPa:Code:=(Tryz.f140.body).getD .skip
theorem zCf.ok (a1:File) (a2:File):Ok Tryz.prog 140 [.ag (File.enc false a1),.ag (File.enc false a2)] [] ((zCf a1 a2).map fun r=>(bv r,[])):=by
 refine zH zPa Tryz.f140 0 16 (fun q=>?_)
 unfold zCf
 refine J_g 2 [(0,0),(1,1)] [(2,pp 0),(3,pp 1)] [(0,.box (File.enc false a1)),(1,.box (File.enc false a2))] zB ?_
 refine J_d 12 [] [9] [(9,bv (!(seq a1.Path a2.Path)))] [] [] zB ?_
 refine zC 9 (fun h3=>?_) (fun h3=>?_)
 ·refine J_g 52 [] [(4,bv false)] [] zB ?_
  exact zU rfl
 ·refine zA (fun x4 h5=>?_)
  refine J_g 28 [] [(15,bv (!x4))] [] (zD 4 (xH [(.tmp 11),(.tmp 13)] [111,111] (zBd.ok a1.Data a2.Data) h5) zB) ?_
  refine zC 15 (fun h6=>?_) (fun h6=>?_)
  ·refine J_g 116 [] [(4,bv false)] [] zB ?_
   exact zU rfl
  ·refine J_g 30 [] [(4,bv true)] [] zB ?_
   exact zU rfl
noncomputable def c73:Code:=(Tryz.f73.body).getD .skip
theorem zBo.ok (a1:(List File)) (a2:(List File)) (q:Wd) (kn:Unit→Option (D×List Ent)) (hk:∀v:Unit,J (q.g Tryz.prog 73 0 27) c73 (atI c73 15) (St.mk' [] []) (some v) kn):
  ∀s12:Int,J (q.g Tryz.prog 73 0 27) c73 (atI c73 116) (St.mk' [(0,sl 2 (File.enc false) a1),(1,sl 2 (File.enc false) a2),(5,iv s12)] []) (zBo a1 a2 s12) (Fl.go (fun r:Bool=>some (bv r,[])) kn):=by
 refine zAz (fun g ih s12=>?_)
 unfold zBP
 refine J_d 464 [] [14] [(14,bv (decide (s12< (a1.length:Int))))] [] [] zB ?_
 refine zC 14 (fun h13=>?_) (fun h13=>?_)
 ·refine zA (fun x14 h15=>?_)
  refine zA (fun x16 h17=>?_)
  refine zA (fun x18 h19=>?_)
  refine J_d 1864 [] [14,26] [(26,bv (!x18))] [] [] (zD 2 (zAc (kk:=.i64) 25 113 2 (File.enc false) (.tmp 17) (.tmp 18) h15) (zD 6 (zAc (kk:=.i64) 25 113 2 (File.enc false) (.tmp 21) (.tmp 22) h17) (zD 8 (xH [(.tmp 20),(.tmp 24)] [113,113] (zCf.ok x14 x16) h19) zB))) ?_
  refine zC 26 (fun h20=>?_) (fun h20=>?_)
  ·refine J_g 7460 [] [(4,bv false)] [] zB ?_
   exact zU rfl
  ·refine J_d 467 [] [5,26] [(5,iv (w64 (s12+1)))] [] [] zB ?_
   exact J_q (J_b (ih (w64 (s12+1)))) rfl
 ·exact yQ (hk ()) rfl
theorem zBh.ok (a1:(List File)) (a2:(List File)):Ok Tryz.prog 73 [sl 2 (File.enc false) a1,sl 2 (File.enc false) a2] [] ((zBh a1 a2).map fun r=>(bv r,[])):=by
 refine zH c73 Tryz.f73 0 27 (fun q=>?_)
 unfold zBh
 refine J_g 2 [] [(0,sl 2 (File.enc false) a1),(1,sl 2 (File.enc false) a2)] [] zB ?_
 refine J_d 12 [] [10] [(10,bv ((a1.length:Int) !=(a2.length:Int)))] [] [] zB ?_
 refine zC 10 (fun h3=>?_) (fun h3=>?_)
 ·refine J_g 52 [] [(4,bv false)] [] zB ?_
  exact zU rfl
 ·refine J_d 28 [] [5,10] [(5,iv 0)] [] [] zB ?_
  refine uQ (K0:=(fun r:Bool=>some (bv r,[]))) (fun _=>rfl) (zBo.ok a1 a2 q _ (fun v21=>J_j ?_) 0)
  refine J_g 30 [] [(4,bv true)] [] zB ?_
  exact zU rfl
noncomputable def c24:Code:=(Tryz.f24.body).getD .skip
theorem zCc.ok (a1:zI) (a2:zI):Ok Tryz.prog 24 [.ag (zI.enc false a1),.ag (zI.enc false a2)] [] ((zCc a1 a2).map fun r=>(bv r,[])):=by
 refine zH c24 Tryz.f24 0 31 (fun q=>?_)
 unfold zCc
 refine J_g 2 [(0,0),(1,1)] [(2,pp 0),(3,pp 1)] [(0,.box (zI.enc false a1)),(1,.box (zI.enc false a2))] zB ?_
 refine zA (fun x3 h4=>?_)
 refine J_d 12 [] [10] [(10,bv (!x3))] [] [] (zD 4 (xH [(.tmp 6),(.tmp 8)] [25,25] (zBh.ok a1.Files a2.Files) h4) zB) ?_
 refine zC 10 (fun h5=>?_) (fun h5=>?_)
 ·refine J_g 52 [] [(4,bv false)] [] zB ?_
  exact zU rfl
 ·refine J_d 28 [] [10,15] [(15,bv (a1.Budget !=a2.Budget))] [] [] zB ?_
  refine zC 15 (fun h6=>?_) (fun h6=>?_)
  ·refine J_g 116 [] [(4,bv false)] [] zB ?_
   exact zU rfl
  ·refine J_d 60 [] [15,20] [(20,bv (a1.Writes !=a2.Writes))] [] [] zB ?_
   refine zC 20 (fun h7=>?_) (fun h7=>?_)
   ·refine J_g 244 [] [(4,bv false)] [] zB ?_
    exact zU rfl
   ·refine J_d 124 [] [20,25] [(25,bv (a1.Stop !=a2.Stop))] [] [] zB ?_
    refine zC 25 (fun h8=>?_) (fun h8=>?_)
    ·refine J_g 500 [] [(4,bv false)] [] zB ?_
     exact zU rfl
    ·refine J_g 252 [] [(30,bv (!(a1.Down==a2.Down)))] [] zB ?_
     refine zC 30 (fun h9=>?_) (fun h9=>?_)
     ·refine J_g 1012 [] [(4,bv false)] [] zB ?_
      exact zU rfl
     ·refine J_g 254 [] [(4,bv true)] [] zB ?_
      exact zU rfl
noncomputable def c7:Code:=(Tryz.f7.body).getD .skip
theorem wL.ok (a1:(List Pack)) (a2:zI):Ok Tryz.prog 7 [sl 8 (Pack.enc false) a1,.ag (zI.enc false a2)] [] ((wL a1 a2).map fun r=>(bv r,[])):=by
 refine zH c7 Tryz.f7 0 46 (fun q=>?_)
 unfold wL
 refine J_g 2 [(0,0)] [(0,sl 8 (Pack.enc false) a1),(3,pp 0)] [(0,.box (zI.enc false a2))] zB ?_
 refine J_d 6 [] [5] [(5,iv 1048576)] [] [] zB ?_
 refine zA (fun x3 h4=>?_)
 refine J_g 14 [] [(0,sl 8 (Pack.enc false) a1),(3,pp 0),(5,iv x3)] [(0,.box (zI.enc false a2))] (zD 2 (xH [(.tmp 10),(.tmp 11)] [22,3] (zAN.ok a1 1048576) h4) zB) ?_
 refine J_d 60 [] [14] [(14,bv (decide (x3<0)))] [] [] zB ?_
 refine zC 14 (fun h5=>?_) (fun h5=>?_)
 ·refine J_g 244 [] [(4,bv true)] [] zB ?_
  exact zU rfl
 ·refine zA (fun x6 h7=>?_)
  refine J_g 62 [] [(0,sl 8 (Pack.enc false) a1),(3,pp 0),(5,iv x6)] [(0,.box (zI.enc false a2))] (zD 2 (xH [(.tmp 15),(.tmp 16)] [41,3] (zBY.ok a2 x3) h7) zB) ?_
  refine J_d 252 [] [5,19] [(19,bv (decide (x6<0)))] [] [] zB ?_
  refine zC 19 (fun h8=>?_) (fun h8=>?_)
  ·refine J_g 1012 [] [(4,bv true)] [] zB ?_
   exact zU rfl
  ·refine zA (fun x9 h10=>?_)
   refine zA (fun x11 h12=>?_)
   refine zA (fun x13 h14=>?_)
   refine J_d 254 [(5,3)] [6,19] [(6,pp 3)] [3] [(3,.box (yM.enc x13))] (zD 1 (jO («as»:=[sl 8 (Pack.enc false) a1]) [(.tmp 20)] [22] false [] [] (.cons (.same rfl) (.nil)) (uD.ok a1) h10 (.own 1)) (zD 3 (jO («as»:=[.ag (zI.enc false a2)]) [(.tmp 22)] [41] false [] [] (.cons (.same rfl) (.nil)) (jI.ok a2) h12 (.ag (.cons (.own 2) (.cons (.same rfl rfl) (.cons (.same rfl rfl) (.cons (.same rfl rfl) (.cons (.same rfl rfl) (.nil)))))))) (zD 4 (jO («as»:=[rr 1 x9,.ag [rr 2 x11.Files,iv x11.Budget,iv x11.Writes,iv x11.Stop,bv x11.Down]]) [(.tmp 21),(.tmp 23)] [24,27] true [(1,rE 8 (Pack.enc true) x9),(2,rE 2 (File.enc true) x11.Files)] [] (.cons (zDP (.head _) (Pack.ro true) rfl) (.cons (.ag (.cons (zDP (.tail _ (.head _)) (File.ro true) rfl) (.cons (.same rfl) (.cons (.same rfl) (.cons (.same rfl) (.cons (.same rfl) (.nil))))))) (.nil))) (zAp.ok x9 x11) h14 (.ag (.cons (.same rfl rfl) (.cons (.same rfl rfl) (.nil)))) (hbor:=fun _=>⟨fhN,(zKw (yM.fl _))⟩)) zB))) ?_
   refine zA (fun x15 h16=>?_)
   refine J_d 510 [] [7] [(7,rr 4 x15)] [4] [(4,rE 8 (Pack.enc true) x15)] (zD 1 (jO («as»:=[sl 8 (Pack.enc false) a1]) [(.tmp 25)] [22] false [] [] (.cons (.same rfl) (.nil)) (uD.ok a1) h16 (.own 4)) zB) ?_
   refine zA (fun x17 h18=>?_)
   refine J_d 1022 [(2,6)] [8] [(8,pp 6)] [5,6] [(5,rE 2 (File.enc true) x17.Files),(6,.box [rr 5 x17.Files,iv x17.Budget,iv x17.Writes,iv x17.Stop,bv x17.Down])] (zD 1 (jO («as»:=[.ag (zI.enc false a2)]) [(.tmp 27)] [41] false [] [] (.cons (.same rfl) (.nil)) (jI.ok a2) h18 (.ag (.cons (.own 5) (.cons (.same rfl rfl) (.cons (.same rfl rfl) (.cons (.same rfl rfl) (.cons (.same rfl rfl) (.nil)))))))) zB) ?_
   refine zA (fun x19 h20=>?_)
   refine J_d 2046 [(3,7)] [9] [(9,pp 7)] [7] [(7,.box (yM.enc x19))] (zD 2 (jO («as»:=[rr 4 x15,.ag [rr 5 x17.Files,iv x17.Budget,iv x17.Writes,iv x17.Stop,bv x17.Down]]) [(.tmp 29),(.tmp 30)] [24,27] true [(4,rE 8 (Pack.enc true) x15),(5,rE 2 (File.enc true) x17.Files)] [] (.cons (zDP (.head _) (Pack.ro true) rfl) (.cons (.ag (.cons (zDP (.tail _ (.head _)) (File.ro true) rfl) (.cons (.same rfl) (.cons (.same rfl) (.cons (.same rfl) (.cons (.same rfl) (.nil))))))) (.nil))) (zAq.ok x15 x17) h20 (.ag (.cons (.same rfl rfl) (.cons (.same rfl rfl) (.nil)))) (hbor:=fun _=>⟨fhN,(zKw (yM.fl _))⟩)) zB) ?_
   refine zA (fun x21 h22=>?_)
   refine J_d 8188 [] [6,9,35] [(35,bv (!x21))] [3,7] [] (zD 2 (xH [(.tmp 32),(.tmp 33)] [45,45] (uS.ok x19 x13) h22) zB) ?_
   refine zC 35 (fun h23=>?_) (fun h23=>?_)
   ·refine J_g 32756 [] [(4,bv false)] [] zB ?_
    exact zU rfl
   ·refine zA (fun x24 h25=>?_)
    refine zA (fun x26 h27=>?_)
    refine J_d 16380 [] [0,7,35,40] [(40,bv (!x26))] [4] [] (zD 2 (jO («as»:=[sl 8 (Pack.enc false) a1]) [(.tmp 37)] [22] false [] [] (.cons (.same rfl) (.nil)) (uD.ok a1) h25 (.own 7)) (zD 3 (jO («as»:=[rr 4 x15,rr 7 x24]) [(.tmp 36),(.tmp 38)] [24,24] true [(4,rE 8 (Pack.enc true) x15),(7,rE 8 (Pack.enc true) x24)] [] (.cons (zDP (.head _) (Pack.ro true) rfl) (.cons (zDP (.tail _ (.head _)) (Pack.ro true) rfl) (.nil))) (zAV.ok x15 x24) h27 (.same rfl rfl) (hbor:=fun _=>⟨fhN,yI⟩)) zB)) ?_
    refine zC 40 (fun h28=>?_) (fun h28=>?_)
    ·refine J_g 65524 [] [(4,bv false)] [] zB ?_
     exact zU rfl
    ·refine zA (fun x29 h30=>?_)
     refine zA (fun x31 h32=>?_)
     refine J_g 32764 [] [(45,bv (!x31))] [] (zD 2 (jO («as»:=[.ag (zI.enc false a2)]) [(.tmp 42)] [41] false [] [] (.cons (.same rfl) (.nil)) (jI.ok a2) h30 (.ag (.cons (.own 7) (.cons (.same rfl rfl) (.cons (.same rfl rfl) (.cons (.same rfl rfl) (.cons (.same rfl rfl) (.nil)))))))) (zD 3 (jO («as»:=[.ag [rr 5 x17.Files,iv x17.Budget,iv x17.Writes,iv x17.Stop,bv x17.Down],.ag [rr 7 x29.Files,iv x29.Budget,iv x29.Writes,iv x29.Stop,bv x29.Down]]) [(.tmp 41),(.tmp 43)] [27,27] true [(5,rE 2 (File.enc true) x17.Files),(7,rE 2 (File.enc true) x29.Files)] [] (.cons (.ag (.cons (zDP (.head _) (File.ro true) rfl) (.cons (.same rfl) (.cons (.same rfl) (.cons (.same rfl) (.cons (.same rfl) (.nil))))))) (.cons (.ag (.cons (zDP (.tail _ (.head _)) (File.ro true) rfl) (.cons (.same rfl) (.cons (.same rfl) (.cons (.same rfl) (.cons (.same rfl) (.nil))))))) (.nil))) (zCc.ok x17 x29) h32 (.same rfl rfl) (hbor:=fun _=>⟨fhN,yI⟩)) zB)) ?_
     refine zC 45 (fun h33=>?_) (fun h33=>?_)
     ·refine J_g 131060 [] [(4,bv false)] [] zB ?_
      exact zU rfl
     ·refine J_g 32766 [] [(4,bv true)] [] zB ?_
      exact zU rfl
end Go.Told

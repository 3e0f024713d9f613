import Derived.Test.YtlagdfkkokgakaaGreatDoorOkBatchCostx1
set_option linter.unusedVariables false
set_option maxRecDepth 4000
namespace Go.Told
open Go Go.Im Go.Proofs
theorem strings_Repeat.ok (a1:ByteArray) (a2:Int):Ok Tryz.prog 198 [sv a1,iv a2] [] ((strings_Repeat a1 a2).map fun r=>(sv r,[])):=by
 unfold strings_Repeat
 split
 ·rename_i h
  obtain ⟨h0,h1,h2⟩:=h
  obtain ⟨n,rfl⟩:=Int.eq_ofNat_of_zero_le h0
  exact zJK (vs:=[.string a1,.int .i64 n]) (fun w=>Tryz.strings_Repeat a1 n w (by omega) h2)
 ·exact fun _ h=>by cases h
noncomputable def c116:Code:=(Tryz.f116.body).getD .skip
theorem zAz.ok (a1:Int):Ok Tryz.prog 116 [iv a1] [] ((zAz a1).map fun r=>(sv r,[])):=by
 refine zH c116 Tryz.f116 0 13 (fun q=>?_)
 unfold zAz
 refine J_g 2 [] [(0,iv a1)] [] zB ?_
 refine zA (fun x2 h3=>?_)
 refine J_g 6 [] [(3,sv x2)] [] (zG 1 (yT [(.tmp 4)] [2] (uN.ok a1) h3) zB) ?_
 refine zA (fun x4 h5=>?_)
 refine zA (fun x6 h7=>?_)
 refine zA (fun x8 h9=>?_)
 refine J_g 14 [] [(2,sv x8)] [] (zG 3 (yT [(.const (.string (bs [48]))),(.tmp 8)] [9,3] (strings_Repeat.ok (bs [48]) (w64 (6-(x2.size:Int)))) h5) (zG 4 (zBZ 9 9 (.const (.string (bs [103,101,110,47]))) (.tmp 9) h7) (zG 6 (zBZ 9 9 (.tmp 10) (.tmp 11) h9) zB))) ?_
 exact zT rfl
theorem strings_Join.ok (a1:List ByteArray) (a2:ByteArray):Ok Tryz.prog 271 [sl 1 eStr a1,sv a2] [] ((strings_Join a1 a2).map fun r=>(sv r,[])):=by
 unfold strings_Join
 split
 ·rename_i h
  exact zKH (fun h=>⟨by subst h; rfl,fun a c w=>Tryz.strings_Join_none a c a2 w⟩) (fun bk o c w hc hb hcap=>Tryz.strings_Join bk o c a1 a2 w hc hb h.1 hcap h.2)
 ·exact fun _ h=>by cases h
noncomputable def zMT:Code:=(Tryz.f214.body).getD .skip
theorem zB3.ok (a1:(List ByteArray)):Ok Tryz.prog 214 [sl 1 eStr a1] [] ((zB3 a1).map fun r=>(sv r,[])):=by
 refine zH zMT Tryz.f214 0 5 (fun q=>?_)
 unfold zB3
 refine J_d 2 [] [] [] [] [] zB ?_
 refine zA (fun x2 h3=>?_)
 refine J_g 6 [] [(2,sv x2)] [] (zG 1 (yT [(.tmp 3),(.const (.string (bs [32])))] [70,9] (strings_Join.ok a1 (bs [32])) h3) zB) ?_
 exact zT rfl
noncomputable def zLA:Code:=(Tryz.f137.body).getD .skip
theorem zAo.ok (a1:(List Pack)) (a2:(List Int)) (q:Wd) (kn:ByteArray→Option (D×List Ent)) (hk:∀v:ByteArray,J (q.g Tryz.prog 137 0 32) zLA (atI zLA 15) (St.mk' [(5,sv v)] []) (some v) kn):
  ∀s18:(ByteArray×Int),J (q.g Tryz.prog 137 0 32) zLA (atI zLA 116) (St.mk' [(0,sl 8 (Pack.enc false) a1),(5,sv s18.1),(8,sl 1 yE a2),(9,iv (a2.length:Int)),(10,iv s18.2)] []) (zAo a1 a2 s18) kn:=by
 refine zAU (fun g ih s18=>?_)
 unfold kT
 refine J_d 232 [] [11] [(11,bv (decide (s18.2< (a2.length:Int))))] [] [] zB ?_
 refine zD 11 (fun h19=>?_) (fun h19=>?_)
 ·refine zA (fun x20 h21=>?_)
  refine J_d 3736 [] [7,11] [(7,iv x20)] [] [] (zG 0 (uE (kk:=.i64) 42 2 1 yE (.tmp 8) (.tmp 10) h21) zB) ?_
  refine zA (fun x22 h23=>?_)
  refine zA (fun x24 h25=>?_)
  refine zA (fun x26 h27=>?_)
  refine zA (fun x28 h29=>?_)
  refine zA (fun x30 h31=>?_)
  refine zA (fun x32 h33=>?_)
  refine J_g 3737 [] [(0,sl 8 (Pack.enc false) a1),(5,sv x32),(8,sl 1 yE a2),(9,iv (a2.length:Int)),(10,iv s18.2)] [] (zG 3 (uE (kk:=.i64) 24 89 8 (Pack.enc false) (.tmp 15) (.tmp 16) h23) (zG 8 (uE (kk:=.i64) 24 89 8 (Pack.enc false) (.tmp 20) (.tmp 21) h25) (zG 11 (yT [(.tmp 24)] [86] (xH.ok x24.Version) h27) (zG 12 (zDZ 70 9 1 0 eStr [x22.Name,x26] [0,1] [(.tmp 19),(.tmp 25)] [sv x22.Name,sv x26]) (zG 13 (zBI («as»:=[rr 0 [x22.Name,x26]]) [(.tmp 26)] [70] true [(0,rE 1 eStr [x22.Name,x26])] [] (.cons (zFv (.head _) (fun _=>rfl) rfl) (.nil)) (zB3.ok [x22.Name,x26]) h29 (.same rfl rfl) (hbor:=fun _=>⟨fhN,xJ⟩)) (zG 14 (zBZ 9 9 (.tmp 27) (.const (.string (bs [10]))) h31) (zG 15 (zBZ 9 9 (.tmp 14) (.tmp 28) h33) zB))))))) ?_
  refine J_d 935 [] [10] [(10,iv (w64 (s18.2+1)))] [] [] zB ?_
  exact J_q (J_b (ih (x32,w64 (s18.2+1)))) rfl
 ·exact xC (hk s18.1) rfl
theorem zA0.ok (a1:(List Pack)) (a2:(List Int)):Ok Tryz.prog 137 [sl 8 (Pack.enc false) a1,sl 1 yE a2] [] ((zA0 a1 a2).map fun r=>(sv r,[])):=by
 refine zH zLA Tryz.f137 0 32 (fun q=>?_)
 unfold zA0
 refine J_g 2 [] [(0,sl 8 (Pack.enc false) a1),(1,sl 1 yE a2)] [] zB ?_
 refine J_g 6 [] [(0,sl 8 (Pack.enc false) a1),(1,sl 1 yE a2),(5,sv (bs []))] [] zB ?_
 refine J_d 28 [] [1,8,9,10] [(8,sl 1 yE a2),(9,iv (a2.length:Int)),(10,iv 0)] [] [] zB ?_
 refine zDT (zAo.ok a1 a2 q _ (fun v34=>J_j ?_) (bs [],0))
 refine J_g 30 [] [(4,sv v34)] [] zB ?_
 exact zT rfl
noncomputable def c71:Code:=(Tryz.f71.body).getD .skip
theorem zAY.ok (a1:(List Pack)) (a2:zI) (a3:(List Int)) (x4:(List Int)) (q:Wd) (kn:(List File)→Option (D×List Ent)) (hk:∀v:(List File),J (q.g Tryz.prog 71 0 52) c71 (atI c71 15) (St.mk' [(0,sl 8 (Pack.enc false) a1),(2,sl 1 yE a3),(4,pp 0),(7,rr 1 v)] [(0,.box (zI.enc false a2)),(1,rE 2 (File.enc true) v)]) (some v) kn):
  ∀s19:((List File)×Int),J (q.g Tryz.prog 71 0 52) c71 (atI c71 116) (St.mk' [(0,sl 8 (Pack.enc false) a1),(2,sl 1 yE a3),(4,pp 0),(7,rr 1 s19.1),(15,rr 2 x4),(16,iv (x4.length:Int)),(17,iv s19.2)] [(0,.box (zI.enc false a2)),(1,rE 2 (File.enc true) s19.1),(2,rE 1 yE x4)]) (zAY a1 a2 a3 x4 s19) kn:=by
 refine zAU (fun g ih s19=>?_)
 unfold zAl
 refine J_d 232 [] [18] [(18,bv (decide (s19.2< (x4.length:Int))))] [] [] zB ?_
 refine zD 18 (fun h20=>?_) (fun h20=>?_)
 ·refine zA (fun x21 h22=>?_)
  refine J_d 3736 [] [9,18] [(9,iv x21)] [] [] (zG 0 (zC5 (kk:=.i64) 42 2 1 2 yE (.tmp 15) (.tmp 17) h22) (zG 1 (zEh (d:=iv x21) 2 1 2 0 yE (.tmp 19) h22 (by kernel_rfl)) zB)) ?_
  refine zA (fun x23 h24=>?_)
  refine zA (fun x25 h26=>?_)
  refine zA (fun x27 h28=>?_)
  refine zA (fun x29 h30=>?_)
  refine zA (fun x31 h32=>?_)
  refine J_g 3737 [] [(0,sl 8 (Pack.enc false) a1),(2,sl 1 yE a3),(4,pp 0),(7,rr 5 x31),(15,rr 2 x4),(16,iv (x4.length:Int)),(17,iv s19.2)] [(0,.box (zI.enc false a2)),(2,rE 1 yE x4),(5,rE 2 (File.enc true) x31)] (zG 3 (uE (kk:=.i64) 24 89 8 (Pack.enc false) (.tmp 22) (.tmp 23) h24) (zG 5 (yT [(.tmp 25)] [89] (wV.ok x23) h26) (zG 8 (uE (kk:=.i64) 24 89 8 (Pack.enc false) (.tmp 27) (.tmp 28) h28) (zG 10 (zBI («as»:=[.ag (Pack.enc false x27)]) [(.tmp 30)] [89] false [] [] (.cons (.same rfl) (.nil)) (wF.ok x27) h30 (.own 3)) (zG 12 (zMC (ds:=[sv x25,rr 3 x29]) (ts:=[3]) 25 113 2 4 (File.enc true) [({Path:=x25,Data:=x29}:File)] [0] [(.tmp 32)] [.ag [sv x25,rr 3 x29]] [(3,rE 1 eU8 x29)] (.keep rfl (.move (.head _) (List.length_map _) (by decide) (.nil)))) (zG 13 (zJY 25 25 113 113 2 40 5 1 4 (File.enc true) (.tmp 21) (.tmp 33) h32) zB)))))) ?_
  refine J_d 935 [] [17] [(17,iv (w64 (s19.2+1)))] [] [] zB ?_
  refine zDB 5 1 (Nat.le_of_ble_eq_true rfl) (Nat.le_of_ble_eq_true rfl) ?_
  exact J_q (J_b (ih (x31,w64 (s19.2+1)))) rfl
 ·exact xC (hk s19.1) rfl
theorem zBp.ok (a1:(List Pack)) (a2:zI) (a3:(List Int)):Ok Tryz.prog 71 [sl 8 (Pack.enc false) a1,.ag (zI.enc false a2),sl 1 yE a3] [] ((zBp a1 a2 a3).map fun r=>(so 2 (File.enc false) r,[])):=by
 refine zH c71 Tryz.f71 0 52 (fun q=>?_)
 unfold zBp
 refine J_g 2 [(0,0)] [(0,sl 8 (Pack.enc false) a1),(2,sl 1 yE a3),(4,pp 0)] [(0,.box (zI.enc false a2))] zB ?_
 refine J_d 6 [] [7] [(7,rr 1 ([]:List File))] [1] [(1,rE 2 (File.enc false) ([]:List File))] (zG 0 (zDZ 25 113 2 1 (File.enc false) ([]:List File) [] [] []) zB) ?_
 refine zA (fun x4 h5=>?_)
 refine J_d 28 [] [15,16,17] [(15,rr 2 x4),(16,iv (x4.length:Int)),(17,iv 0)] [2] [(2,rE 1 yE x4)] (zG 3 (zBI («as»:=[sl 8 (Pack.enc false) a1,.ag (zI.enc false a2),sl 1 yE a3]) [(.tmp 12),(.tmp 13),(.tmp 14)] [24,27,42] false [] [] (.cons (.same rfl) (.cons (.same rfl) (.cons (.same rfl) (.nil)))) (zAh.ok a1 a2 a3) h5 (.own 2)) zB) ?_
 refine zDT (zAY.ok a1 a2 a3 x4 q _ (fun v33=>J_j ?_) (([]:List File),0))
 refine zA (fun x34 h35=>?_)
 refine J_d 30 [] [4,10] [(10,iv x34)] [0] [] (zG 1 (yT [(.tmp 36)] [27] (wW.ok a2) h35) zB) ?_
 refine zA (fun x36 h37=>?_)
 refine zA (fun x38 h39=>?_)
 refine zA (fun x40 h41=>?_)
 refine zMx [(0,sl 8 (Pack.enc false) a1),(2,sl 1 yE a3),(7,rr 1 v33),(10,iv x34)] [(1,rE 2 (File.enc true) v33)] (by kernel_rfl) ?_
 refine zM4 1 (zDl (enc:=(File.enc true)) (enc':=(File.enc false)) (File.ro true) _) ?_
 refine zMx [(0,sl 8 (Pack.enc false) a1),(2,sl 1 yE a3),(7,rr 1 v33),(10,iv x34)] [(1,rE 2 (File.enc false) v33)] (by kernel_rfl) ?_
 refine zA (fun x42 h43=>?_)
 refine J_g 62 [] [(6,rr 3 x42)] [(3,rE 2 (File.enc false) x42)] (zG 2 (yT [(.tmp 39)] [2] (zAz.ok x34) h37) (zG 5 (yT [(.tmp 41),(.tmp 42)] [24,42] (zA0.ok a1 a3) h39) (zG 6 (zL1 (s:=x38) 9 111 5 (.tmp 43)) (zG 9 (yT [(.tmp 46)] [2] (uN.ok x34) h41) (zG 10 (zL1 (s:=x40) 9 111 5 (.tmp 47)) (zG 12 (zDZ 25 113 2 2 (File.enc false) [({Path:=x36,Data:=s2b x38}:File),({Path:=bs [99,117,114],Data:=s2b x40}:File)] [0,1] [(.tmp 45),(.tmp 49)] [.ag [sv x36,sl 1 eU8 (s2b x38)],.ag [sv (bs [99,117,114]),sl 1 eU8 (s2b x40)]]) (zG 13 (zJY 25 25 113 113 2 40 3 1 2 (File.enc false) (.tmp 38) (.tmp 50) h43) zB))))))) ?_
 exact zDJ (ds:=[rr 3 x42]) (ds':=[so 2 (File.enc false) x42]) (.cons (.cell (.move (.head _) (List.length_map _) (by decide) (.nil))) (.nil) (by decide)) rfl
noncomputable def c72:Code:=(Tryz.f72.body).getD .skip
theorem jG.ok (a1:zI) (a2:File):Ok Tryz.prog 72 [.ag (zI.enc false a1),.ag (File.enc false a2)] [] ((jG a1 a2).map fun r=>(iv r,[])):=by
 refine zH c72 Tryz.f72 0 20 (fun q=>?_)
 unfold jG
 refine J_g 2 [(0,0),(1,1)] [(2,pp 0),(3,pp 1)] [(0,.box (zI.enc false a1)),(1,.box (File.enc false a2))] zB ?_
 refine zA (fun x3 h4=>?_)
 refine J_g 6 [] [(3,pp 1),(5,sl 1 eU8 x3.1)] [(1,.box (File.enc false a2))] (zG 3 (yT [(.tmp 8),(.tmp 10)] [27,9] (yS.ok a1 a2.Path) h4) zB) ?_
 refine J_g 14 [] [(4,iv (w64 ((a2.Data.length:Int)-(x3.1.length:Int))))] [] zB ?_
 exact zT rfl
noncomputable def c22:Code:=(Tryz.f22.body).getD .skip
theorem vY.ok (a2:zI) (x17:(List File)) (q:Wd) (kn:Int→Option (D×List Ent)) (hk:∀v:Int,J (q.g Tryz.prog 22 0 47) c22 (atI c22 127) (St.mk' [(6,pp 1),(8,iv v)] [(1,.box [iv 0,iv 0])]) (some v) kn):
  ∀s24:(Int×Int),J (q.g Tryz.prog 22 0 47) c22 (atI c22 1012) (St.mk' [(4,pp 0),(6,pp 1),(8,iv s24.1),(33,rr 2 x17),(34,iv (x17.length:Int)),(35,iv s24.2)] [(0,.box (zI.enc false a2)),(1,.box [iv 0,iv 0]),(2,rE 2 (File.enc false) x17)]) (vY a2 x17 s24) kn:=by
 refine zAU (fun g ih s24=>?_)
 unfold uS
 refine J_d 2024 [] [36] [(36,bv (decide (s24.2< (x17.length:Int))))] [] [] zB ?_
 refine zD 36 (fun h25=>?_) (fun h25=>?_)
 ·refine zA (fun x26 h27=>?_)
  refine J_d 32408 [(2,3)] [10,36] [(10,pp 3)] [3] [(3,.box (File.enc false x26))] (zG 0 (zC5 (kk:=.i64) 25 113 2 2 (File.enc false) (.tmp 33) (.tmp 35) h27) (zG 1 (zEh (d:=.ag (File.enc false x26)) 113 2 2 0 (File.enc false) (.tmp 37) h27 (by kernel_rfl)) zB)) ?_
  refine zA (fun x28 h29=>?_)
  refine J_g 32409 [] [(4,pp 0),(6,pp 1),(8,iv (w64 (s24.1+x28))),(33,rr 2 x17),(34,iv (x17.length:Int)),(35,iv s24.2)] [(0,.box (zI.enc false a2)),(1,.box [iv 0,iv 0]),(2,rE 2 (File.enc false) x17)] (zG 3 (yT [(.tmp 40),(.tmp 41)] [27,113] (jG.ok a2 x26) h29) zB) ?_
  refine J_d 8103 [] [35] [(35,iv (w64 (s24.2+1)))] [] [] zB ?_
  exact J_q (J_b (ih (w64 (s24.1+x28),w64 (s24.2+1)))) rfl
 ·exact xC (hk s24.1) rfl
theorem vQ.ok (a1:(List Pack)) (a2:zI) (a3:(List Int)):Ok Tryz.prog 22 [sl 8 (Pack.enc false) a1,.ag (zI.enc false a2),sl 1 yE a3] [] ((vQ a1 a2 a3).map fun r=>(.ag (yL.enc r),[])):=by
 refine zH c22 Tryz.f22 0 47 (fun q=>?_)
 unfold vQ
 refine J_d 2 [(0,0),(1,1)] [1,4,6] [(4,pp 0),(6,pp 1)] [0,1] [(0,.box (zI.enc false a2)),(1,.box [iv 0,iv 0])] zB ?_
 refine zA (fun x4 h5=>?_)
 refine zA (fun x6 h7=>?_)
 refine zA (fun x8 h9=>?_)
 refine J_d 6 [] [7] [(7,iv x8)] [] [] (zG 2 (yT [(.tmp 11),(.tmp 12)] [24,27] (vM.ok a1 a2) h5) (zG 5 (yT [(.tmp 14),(.tmp 15)] [24,42] (kG.ok a1 a3) h7) (zG 6 (zDZ 42 2 1 2 yE [x4,x6] [0,1] [(.tmp 13),(.tmp 16)] [iv x4,iv x6]) (zG 7 (zBI («as»:=[rr 2 [x4,x6]]) [(.tmp 17)] [42] true [(2,rE 1 yE [x4,x6])] [] (.cons (zFv (.head _) (fun _=>rfl) rfl) (.nil)) (xA.ok [x4,x6]) h9 (.same rfl rfl) (hbor:=fun _=>⟨fhN,xJ⟩)) zB)))) ?_
 refine vC (atI c22 29) (fun v13:Bool=>St.mk' [(0,sl 8 (Pack.enc false) a1),(2,sl 1 yE a3),(4,pp 0),(6,pp 1),(7,iv x8),(25,bv v13)] [(0,.box (zI.enc false a2)),(1,.box [iv 0,iv 0])]) (fun v13=>?_) (fun jv13=>?_)
 ·refine vC (atI c22 15) (fun v15:Int=>St.mk' [(0,sl 8 (Pack.enc false) a1),(2,sl 1 yE a3),(4,pp 0),(6,pp 1),(7,iv v15)] [(0,.box (zI.enc false a2)),(1,.box [iv 0,iv 0])]) (fun v15=>?_) (fun jv15=>?_)
  ·refine J_d 60 [] [27] [(27,bv (v15 !=0))] [] [] zB ?_
   refine zD 27 (fun h16=>?_) (fun h16=>?_)
   ·refine J_g 244 [] [(6,pp 1)] [(1,.box [iv v15,iv 0])] zB ?_
    exact zT rfl
   ·refine J_d 62 [] [7,8,27] [(8,iv 0)] [] [] zB ?_
    refine zA (fun x17 h18=>?_)
    refine J_d 252 [] [0,2,33,34,35] [(33,rr 2 x17),(34,iv (x17.length:Int)),(35,iv 0)] [2] [(2,rE 2 (File.enc false) x17)] (zG 3 (zBI («as»:=[sl 8 (Pack.enc false) a1,.ag (zI.enc false a2),sl 1 yE a3]) [(.tmp 30),(.tmp 31),(.tmp 32)] [24,27,42] false [] [] (.cons (.same rfl) (.cons (.same rfl) (.cons (.same rfl) (.nil)))) (zBp.ok a1 a2 a3) h18 (.own 2)) zB) ?_
    refine zDT (vY.ok a2 x17 q _ (fun v30=>J_j ?_) (0,0))
    refine J_g 254 [] [(6,pp 1)] [(1,.box [iv 0,iv v30])] zB ?_
    exact zT rfl
  ·refine zD 25 (fun h14=>?_) (fun h14=>?_)
   ·refine J_d 58 [] [7,25] [(7,iv 2)] [] [] zB ?_
    exact xC (J_j (jv15 2)) rfl
   ·exact xC (J_j (jv15 x8)) rfl
 ·refine wG (fun h10=>?_) (fun h10=>?_)
  ·refine zA (fun x11 h12=>?_)
   refine J_d 28 [] [25] [(25,bv (decide (x11>999999)))] [] [] (xK 2 [(20,bv (x8==0))] [] h10 (zBU 4 2 21 true (yT [(.tmp 22)] [27] (wW.ok a2) h12) zB)) ?_
   exact xC (J_j (jv13 (decide (x11>999999)))) rfl
  ·refine J_d 28 [] [25] [(25,bv false)] [] [] (xK 2 [(20,bv (x8==0))] [] h10 zB) ?_
   exact xC (J_j (jv13 false)) rfl
noncomputable def c23:Code:=(Tryz.f23.body).getD .skip
theorem vJ.ok (a1:yL) (a2:yL):Ok Tryz.prog 23 [.ag (yL.enc a1),.ag (yL.enc a2)] [] ((vJ a1 a2).map fun r=>(bv r,[])):=by
 refine zH c23 Tryz.f23 0 15 (fun q=>?_)
 unfold vJ
 refine J_g 2 [(0,0),(1,1)] [(2,pp 0),(3,pp 1)] [(0,.box (yL.enc a1)),(1,.box (yL.enc a2))] zB ?_
 refine J_d 12 [] [9] [(9,bv (a1.Code !=a2.Code))] [] [] zB ?_
 refine zD 9 (fun h3=>?_) (fun h3=>?_)
 ·refine J_g 52 [] [(4,bv false)] [] zB ?_
  exact zT rfl
 ·refine J_g 28 [] [(14,bv (a1.Value !=a2.Value))] [] zB ?_
  refine zD 14 (fun h4=>?_) (fun h4=>?_)
  ·refine J_g 116 [] [(4,bv false)] [] zB ?_
   exact zT rfl
  ·refine J_g 30 [] [(4,bv true)] [] zB ?_
   exact zT rfl
noncomputable def c119:Code:=(Tryz.f119.body).getD .skip
theorem xL.ok (a1:Version) (a2:Version):Ok Tryz.prog 119 [.ag (Version.enc a1),.ag (Version.enc a2)] [] ((xL a1 a2).map fun r=>(bv r,[])):=by
 refine zH c119 Tryz.f119 0 20 (fun q=>?_)
 unfold xL
 refine J_g 2 [(0,0),(1,1)] [(2,pp 0),(3,pp 1)] [(0,.box (Version.enc a1)),(1,.box (Version.enc a2))] zB ?_
 refine J_d 12 [] [9] [(9,bv (a1.A !=a2.A))] [] [] zB ?_
 refine zD 9 (fun h3=>?_) (fun h3=>?_)
 ·refine J_g 52 [] [(4,bv false)] [] zB ?_
  exact zT rfl
 ·refine J_d 28 [] [9,14] [(14,bv (a1.B !=a2.B))] [] [] zB ?_
  refine zD 14 (fun h4=>?_) (fun h4=>?_)
  ·refine J_g 116 [] [(4,bv false)] [] zB ?_
   exact zT rfl
  ·refine J_g 60 [] [(19,bv (a1.C !=a2.C))] [] zB ?_
   refine zD 19 (fun h5=>?_) (fun h5=>?_)
   ·refine J_g 244 [] [(4,bv false)] [] zB ?_
    exact zT rfl
   ·refine J_g 62 [] [(4,bv true)] [] zB ?_
    exact zT rfl
noncomputable def c98:Code:=(Tryz.f98.body).getD .skip
theorem jN.ok (a1:(List ByteArray)) (a2:(List ByteArray)) (q:Wd) (kn:Unit→Option (D×List Ent)) (hk:∀v:Unit,J (q.g Tryz.prog 98 0 26) c98 (atI c98 15) (St.mk' [] []) (some v) kn):
  ∀s10:Int,J (q.g Tryz.prog 98 0 26) c98 (atI c98 116) (St.mk' [(0,sl 1 eStr a1),(1,sl 1 eStr a2),(5,iv s10)] []) (jN a1 a2 s10) (Fl.go (fun r:Bool=>some (bv r,[])) kn):=by
 refine zAU (fun g ih s10=>?_)
 unfold zAa
 refine J_d 464 [] [14] [(14,bv (decide (s10< (a1.length:Int))))] [] [] zB ?_
 refine zD 14 (fun h11=>?_) (fun h11=>?_)
 ·refine zA (fun x12 h13=>?_)
  refine zA (fun x14 h15=>?_)
  refine J_d 1864 [] [14,25] [(25,bv (!(seq x12 x14)))] [] [] (zG 2 (uE (kk:=.i64) 70 9 1 eStr (.tmp 17) (.tmp 18) h13) (zG 6 (uE (kk:=.i64) 70 9 1 eStr (.tmp 21) (.tmp 22) h15) zB)) ?_
  refine zD 25 (fun h16=>?_) (fun h16=>?_)
  ·refine J_g 7460 [] [(4,bv false)] [] zB ?_
   exact zT rfl
  ·refine J_d 467 [] [5,25] [(5,iv (w64 (s10+1)))] [] [] zB ?_
   exact J_q (J_b (ih (w64 (s10+1)))) rfl
 ·exact xC (hk ()) rfl
theorem jF.ok (a1:(List ByteArray)) (a2:(List ByteArray)):Ok Tryz.prog 98 [sl 1 eStr a1,sl 1 eStr a2] [] ((jF a1 a2).map fun r=>(bv r,[])):=by
 refine zH c98 Tryz.f98 0 26 (fun q=>?_)
 unfold jF
 refine J_g 2 [] [(0,sl 1 eStr a1),(1,sl 1 eStr a2)] [] zB ?_
 refine J_d 12 [] [10] [(10,bv ((a1.length:Int) !=(a2.length:Int)))] [] [] zB ?_
 refine zD 10 (fun h3=>?_) (fun h3=>?_)
 ·refine J_g 52 [] [(4,bv false)] [] zB ?_
  exact zT rfl
 ·refine J_d 28 [] [5,10] [(5,iv 0)] [] [] zB ?_
  refine jL (K0:=(fun r:Bool=>some (bv r,[]))) (fun _=>rfl) (jN.ok a1 a2 q _ (fun v17=>J_j ?_) 0)
  refine J_g 30 [] [(4,bv true)] [] zB ?_
  exact zT rfl
noncomputable def zN8:Code:=(Tryz.f153.body).getD .skip
theorem zBr.ok (a1:Term) (a2:Term):Ok Tryz.prog 153 [.ag (Term.enc a1),.ag (Term.enc a2)] [] ((zBr a1 a2).map fun r=>(bv r,[])):=by
 refine zH zN8 Tryz.f153 0 22 (fun q=>?_)
 unfold zBr
 refine J_g 2 [(0,0),(1,1)] [(2,pp 0),(3,pp 1)] [(0,.box (Term.enc a1)),(1,.box (Term.enc a2))] zB ?_
 refine J_d 12 [] [9] [(9,bv (!(seq a1.Name a2.Name)))] [] [] zB ?_
 refine zD 9 (fun h3=>?_) (fun h3=>?_)
 ·refine J_g 52 [] [(4,bv false)] [] zB ?_
  exact zT rfl
 ·refine zA (fun x4 h5=>?_)
  refine J_d 28 [] [9,15] [(15,bv (!x4))] [] [] (zG 4 (yT [(.tmp 11),(.tmp 13)] [86,86] (xL.ok a1.Low a2.Low) h5) zB) ?_
  refine zD 15 (fun h6=>?_) (fun h6=>?_)
  ·refine J_g 116 [] [(4,bv false)] [] zB ?_
   exact zT rfl
  ·refine zA (fun x7 h8=>?_)
   refine J_g 60 [] [(21,bv (!x7))] [] (zG 4 (yT [(.tmp 17),(.tmp 19)] [86,86] (xL.ok a1.High a2.High) h8) zB) ?_
   refine zD 21 (fun h9=>?_) (fun h9=>?_)
   ·refine J_g 244 [] [(4,bv false)] [] zB ?_
    exact zT rfl
   ·refine J_g 62 [] [(4,bv true)] [] zB ?_
    exact zT rfl
noncomputable def c76:Code:=(Tryz.f76.body).getD .skip
theorem zAL.ok (a1:(List Term)) (a2:(List Term)) (q:Wd) (kn:Unit→Option (D×List Ent)) (hk:∀v:Unit,J (q.g Tryz.prog 76 0 27) c76 (atI c76 15) (St.mk' [] []) (some v) kn):
  ∀s12:Int,J (q.g Tryz.prog 76 0 27) c76 (atI c76 116) (St.mk' [(0,sl 7 Term.enc a1),(1,sl 7 Term.enc a2),(5,iv s12)] []) (zAL a1 a2 s12) (Fl.go (fun r:Bool=>some (bv r,[])) kn):=by
 refine zAU (fun g ih s12=>?_)
 unfold zBg
 refine J_d 464 [] [14] [(14,bv (decide (s12< (a1.length:Int))))] [] [] zB ?_
 refine zD 14 (fun h13=>?_) (fun h13=>?_)
 ·refine zA (fun x14 h15=>?_)
  refine zA (fun x16 h17=>?_)
  refine zA (fun x18 h19=>?_)
  refine J_d 1864 [] [14,26] [(26,bv (!x18))] [] [] (zG 2 (uE (kk:=.i64) 53 153 7 Term.enc (.tmp 17) (.tmp 18) h15) (zG 6 (uE (kk:=.i64) 53 153 7 Term.enc (.tmp 21) (.tmp 22) h17) (zG 8 (yT [(.tmp 20),(.tmp 24)] [153,153] (zBr.ok x14 x16) h19) zB))) ?_
  refine zD 26 (fun h20=>?_) (fun h20=>?_)
  ·refine J_g 7460 [] [(4,bv false)] [] zB ?_
   exact zT rfl
  ·refine J_d 467 [] [5,26] [(5,iv (w64 (s12+1)))] [] [] zB ?_
   exact J_q (J_b (ih (w64 (s12+1)))) rfl
 ·exact xC (hk ()) rfl
theorem tQ.ok (a1:(List Term)) (a2:(List Term)):Ok Tryz.prog 76 [sl 7 Term.enc a1,sl 7 Term.enc a2] [] ((tQ a1 a2).map fun r=>(bv r,[])):=by
 refine zH c76 Tryz.f76 0 27 (fun q=>?_)
 unfold tQ
 refine J_g 2 [] [(0,sl 7 Term.enc a1),(1,sl 7 Term.enc a2)] [] zB ?_
 refine J_d 12 [] [10] [(10,bv ((a1.length:Int) !=(a2.length:Int)))] [] [] zB ?_
 refine zD 10 (fun h3=>?_) (fun h3=>?_)
 ·refine J_g 52 [] [(4,bv false)] [] zB ?_
  exact zT rfl
 ·refine J_d 28 [] [5,10] [(5,iv 0)] [] [] zB ?_
  refine jL (K0:=(fun r:Bool=>some (bv r,[]))) (fun _=>rfl) (zAL.ok a1 a2 q _ (fun v21=>J_j ?_) 0)
  refine J_g 30 [] [(4,bv true)] [] zB ?_
  exact zT rfl
noncomputable def zLO:Code:=(Tryz.f120.body).getD .skip
theorem kK.ok (a1:(List (List Term))) (a2:(List (List Term))) (q:Wd) (kn:Unit→Option (D×List Ent)) (hk:∀v:Unit,J (q.g Tryz.prog 120 0 27) zLO (atI zLO 15) (St.mk' [] []) (some v) kn):
  ∀s12:Int,J (q.g Tryz.prog 120 0 27) zLO (atI zLO 116) (St.mk' [(0,sl 1 (eSl false 7 Term.enc) a1),(1,sl 1 (eSl false 7 Term.enc) a2),(5,iv s12)] []) (kK a1 a2 s12) (Fl.go (fun r:Bool=>some (bv r,[])) kn):=by
 refine zAU (fun g ih s12=>?_)
 unfold zAR
 refine J_d 464 [] [14] [(14,bv (decide (s12< (a1.length:Int))))] [] [] zB ?_
 refine zD 14 (fun h13=>?_) (fun h13=>?_)
 ·refine zA (fun x14 h15=>?_)
  refine zA (fun x16 h17=>?_)
  refine zA (fun x18 h19=>?_)
  refine J_d 1864 [] [14,26] [(26,bv (!x18))] [] [] (zG 2 (uE (kk:=.i64) 87 53 1 (eSl false 7 Term.enc) (.tmp 17) (.tmp 18) h15) (zG 6 (uE (kk:=.i64) 87 53 1 (eSl false 7 Term.enc) (.tmp 21) (.tmp 22) h17) (zG 8 (yT [(.tmp 20),(.tmp 24)] [53,53] (tQ.ok x14 x16) h19) zB))) ?_
  refine zD 26 (fun h20=>?_) (fun h20=>?_)
  ·refine J_g 7460 [] [(4,bv false)] [] zB ?_
   exact zT rfl
  ·refine J_d 467 [] [5,26] [(5,iv (w64 (s12+1)))] [] [] zB ?_
   exact J_q (J_b (ih (w64 (s12+1)))) rfl
 ·exact xC (hk ()) rfl
theorem jX.ok (a1:(List (List Term))) (a2:(List (List Term))):Ok Tryz.prog 120 [sl 1 (eSl false 7 Term.enc) a1,sl 1 (eSl false 7 Term.enc) a2] [] ((jX a1 a2).map fun r=>(bv r,[])):=by
 refine zH zLO Tryz.f120 0 27 (fun q=>?_)
 unfold jX
 refine J_g 2 [] [(0,sl 1 (eSl false 7 Term.enc) a1),(1,sl 1 (eSl false 7 Term.enc) a2)] [] zB ?_
 refine J_d 12 [] [10] [(10,bv ((a1.length:Int) !=(a2.length:Int)))] [] [] zB ?_
 refine zD 10 (fun h3=>?_) (fun h3=>?_)
 ·refine J_g 52 [] [(4,bv false)] [] zB ?_
  exact zT rfl
 ·refine J_d 28 [] [5,10] [(5,iv 0)] [] [] zB ?_
  refine jL (K0:=(fun r:Bool=>some (bv r,[]))) (fun _=>rfl) (kK.ok a1 a2 q _ (fun v21=>J_j ?_) 0)
  refine J_g 30 [] [(4,bv true)] [] zB ?_
  exact zT rfl
noncomputable def c54:Code:=(Tryz.f54.body).getD .skip
theorem zBu.ok (a1:Pack) (a2:Pack):Ok Tryz.prog 54 [.ag (Pack.enc false a1),.ag (Pack.enc false a2)] [] ((zBu a1 a2).map fun r=>(bv r,[])):=by
 refine zH c54 Tryz.f54 0 39 (fun q=>?_)
 unfold zBu
 refine J_g 2 [(0,0),(1,1)] [(2,pp 0),(3,pp 1)] [(0,.box (Pack.enc false a1)),(1,.box (Pack.enc false a2))] zB ?_
 refine J_d 12 [] [9] [(9,bv (!(seq a1.Name a2.Name)))] [] [] zB ?_
 refine zD 9 (fun h3=>?_) (fun h3=>?_)
 ·refine J_g 52 [] [(4,bv false)] [] zB ?_
  exact zT rfl
 ·refine zA (fun x4 h5=>?_)
  refine J_d 28 [] [9,15] [(15,bv (!x4))] [] [] (zG 4 (yT [(.tmp 11),(.tmp 13)] [86,86] (xL.ok a1.Version a2.Version) h5) zB) ?_
  refine zD 15 (fun h6=>?_) (fun h6=>?_)
  ·refine J_g 116 [] [(4,bv false)] [] zB ?_
   exact zT rfl
  ·refine J_d 60 [] [15,20] [(20,bv (a1.Size !=a2.Size))] [] [] zB ?_
   refine zD 20 (fun h7=>?_) (fun h7=>?_)
   ·refine J_g 244 [] [(4,bv false)] [] zB ?_
    exact zT rfl
   ·refine zA (fun x8 h9=>?_)
    refine J_d 124 [] [20,26] [(26,bv (!x8))] [] [] (zG 4 (yT [(.tmp 22),(.tmp 24)] [70,70] (jF.ok a1.Provides a2.Provides) h9) zB) ?_
    refine zD 26 (fun h10=>?_) (fun h10=>?_)
    ·refine J_g 500 [] [(4,bv false)] [] zB ?_
     exact zT rfl
    ·refine zA (fun x11 h12=>?_)
     refine J_d 252 [] [26,32] [(32,bv (!x11))] [] [] (zG 4 (yT [(.tmp 28),(.tmp 30)] [87,87] (jX.ok a1.Needs a2.Needs) h12) zB) ?_
     refine zD 32 (fun h13=>?_) (fun h13=>?_)
     ·refine J_g 1012 [] [(4,bv false)] [] zB ?_
      exact zT rfl
     ·refine zA (fun x14 h15=>?_)
      refine J_g 508 [] [(38,bv (!x14))] [] (zG 4 (yT [(.tmp 34),(.tmp 36)] [53,53] (tQ.ok a1.Bars a2.Bars) h15) zB) ?_
      refine zD 38 (fun h16=>?_) (fun h16=>?_)
      ·refine J_g 2036 [] [(4,bv false)] [] zB ?_
       exact zT rfl
      ·refine J_g 510 [] [(4,bv true)] [] zB ?_
       exact zT rfl
noncomputable def c14:Code:=(Tryz.f14.body).getD .skip
theorem zAI.ok (a1:(List Pack)) (a2:(List Pack)) (q:Wd) (kn:Unit→Option (D×List Ent)) (hk:∀v:Unit,J (q.g Tryz.prog 14 0 27) c14 (atI c14 15) (St.mk' [] []) (some v) kn):
  ∀s12:Int,J (q.g Tryz.prog 14 0 27) c14 (atI c14 116) (St.mk' [(0,sl 8 (Pack.enc false) a1),(1,sl 8 (Pack.enc false) a2),(5,iv s12)] []) (zAI a1 a2 s12) (Fl.go (fun r:Bool=>some (bv r,[])) kn):=by
 refine zAU (fun g ih s12=>?_)
 unfold zBf
 refine J_d 464 [] [14] [(14,bv (decide (s12< (a1.length:Int))))] [] [] zB ?_
 refine zD 14 (fun h13=>?_) (fun h13=>?_)
 ·refine zA (fun x14 h15=>?_)
  refine zA (fun x16 h17=>?_)
  refine zA (fun x18 h19=>?_)
  refine J_d 1864 [] [14,26] [(26,bv (!x18))] [] [] (zG 2 (uE (kk:=.i64) 24 89 8 (Pack.enc false) (.tmp 17) (.tmp 18) h15) (zG 6 (uE (kk:=.i64) 24 89 8 (Pack.enc false) (.tmp 21) (.tmp 22) h17) (zG 8 (yT [(.tmp 20),(.tmp 24)] [89,89] (zBu.ok x14 x16) h19) zB))) ?_
  refine zD 26 (fun h20=>?_) (fun h20=>?_)
  ·refine J_g 7460 [] [(4,bv false)] [] zB ?_
   exact zT rfl
  ·refine J_d 467 [] [5,26] [(5,iv (w64 (s12+1)))] [] [] zB ?_
   exact J_q (J_b (ih (w64 (s12+1)))) rfl
 ·exact xC (hk ()) rfl
theorem zAq.ok (a1:(List Pack)) (a2:(List Pack)):Ok Tryz.prog 14 [sl 8 (Pack.enc false) a1,sl 8 (Pack.enc false) a2] [] ((zAq a1 a2).map fun r=>(bv r,[])):=by
 refine zH c14 Tryz.f14 0 27 (fun q=>?_)
 unfold zAq
 refine J_g 2 [] [(0,sl 8 (Pack.enc false) a1),(1,sl 8 (Pack.enc false) a2)] [] zB ?_
 refine J_d 12 [] [10] [(10,bv ((a1.length:Int) !=(a2.length:Int)))] [] [] zB ?_
 refine zD 10 (fun h3=>?_) (fun h3=>?_)
 ·refine J_g 52 [] [(4,bv false)] [] zB ?_
  exact zT rfl
 ·refine J_d 28 [] [5,10] [(5,iv 0)] [] [] zB ?_
  refine jL (K0:=(fun r:Bool=>some (bv r,[]))) (fun _=>rfl) (zAI.ok a1 a2 q _ (fun v21=>J_j ?_) 0)
  refine J_g 30 [] [(4,bv true)] [] zB ?_
  exact zT rfl
noncomputable def zLN:Code:=(Tryz.f216.body).getD .skip
theorem zAw.ok (a1:(List Int)) (a2:(List Int)) (q:Wd) (kn:Unit→Option (D×List Ent)) (hk:∀v:Unit,J (q.g Tryz.prog 216 0 26) zLN (atI zLN 15) (St.mk' [] []) (some v) kn):
  ∀s10:Int,J (q.g Tryz.prog 216 0 26) zLN (atI zLN 116) (St.mk' [(0,sl 1 eU8 a1),(1,sl 1 eU8 a2),(5,iv s10)] []) (zAw a1 a2 s10) (Fl.go (fun r:Bool=>some (bv r,[])) kn):=by
 refine zAU (fun g ih s10=>?_)
 unfold zBj
 refine J_d 464 [] [14] [(14,bv (decide (s10< (a1.length:Int))))] [] [] zB ?_
 refine zD 14 (fun h11=>?_) (fun h11=>?_)
 ·refine zA (fun x12 h13=>?_)
  refine zA (fun x14 h15=>?_)
  refine J_d 1864 [] [14,25] [(25,bv (x12 !=x14))] [] [] (zG 2 (uE (kk:=.i64) 111 5 1 eU8 (.tmp 17) (.tmp 18) h13) (zG 6 (uE (kk:=.i64) 111 5 1 eU8 (.tmp 21) (.tmp 22) h15) zB)) ?_
  refine zD 25 (fun h16=>?_) (fun h16=>?_)
  ·refine J_g 7460 [] [(4,bv false)] [] zB ?_
   exact zT rfl
  ·refine J_d 467 [] [5,25] [(5,iv (w64 (s10+1)))] [] [] zB ?_
   exact J_q (J_b (ih (w64 (s10+1)))) rfl
 ·exact xC (hk ()) rfl
theorem zA1.ok (a1:(List Int)) (a2:(List Int)):Ok Tryz.prog 216 [sl 1 eU8 a1,sl 1 eU8 a2] [] ((zA1 a1 a2).map fun r=>(bv r,[])):=by
 refine zH zLN Tryz.f216 0 26 (fun q=>?_)
 unfold zA1
 refine J_g 2 [] [(0,sl 1 eU8 a1),(1,sl 1 eU8 a2)] [] zB ?_
 refine J_d 12 [] [10] [(10,bv ((a1.length:Int) !=(a2.length:Int)))] [] [] zB ?_
 refine zD 10 (fun h3=>?_) (fun h3=>?_)
 ·refine J_g 52 [] [(4,bv false)] [] zB ?_
  exact zT rfl
 ·refine J_d 28 [] [5,10] [(5,iv 0)] [] [] zB ?_
  refine jL (K0:=(fun r:Bool=>some (bv r,[]))) (fun _=>rfl) (zAw.ok a1 a2 q _ (fun v17=>J_j ?_) 0)
  refine J_g 30 [] [(4,bv true)] [] zB ?_
  exact zT rfl
noncomputable def zNi:Code:=(Tryz.f140.body).getD .skip
theorem zB1.ok (a1:File) (a2:File):Ok Tryz.prog 140 [.ag (File.enc false a1),.ag (File.enc false a2)] [] ((zB1 a1 a2).map fun r=>(bv r,[])):=by
 refine zH zNi Tryz.f140 0 16 (fun q=>?_)
 unfold zB1
 refine J_g 2 [(0,0),(1,1)] [(2,pp 0),(3,pp 1)] [(0,.box (File.enc false a1)),(1,.box (File.enc false a2))] zB ?_
 refine J_d 12 [] [9] [(9,bv (!(seq a1.Path a2.Path)))] [] [] zB ?_
 refine zD 9 (fun h3=>?_) (fun h3=>?_)
 ·refine J_g 52 [] [(4,bv false)] [] zB ?_
  exact zT rfl
 ·refine zA (fun x4 h5=>?_)
  refine J_g 28 [] [(15,bv (!x4))] [] (zG 4 (yT [(.tmp 11),(.tmp 13)] [111,111] (zA1.ok a1.Data a2.Data) h5) zB) ?_
  refine zD 15 (fun h6=>?_) (fun h6=>?_)
  ·refine J_g 116 [] [(4,bv false)] [] zB ?_
   exact zT rfl
  ·refine J_g 30 [] [(4,bv true)] [] zB ?_
   exact zT rfl
noncomputable def c73:Code:=(Tryz.f73.body).getD .skip
theorem zA9.ok (a1:(List File)) (a2:(List File)) (q:Wd) (kn:Unit→Option (D×List Ent)) (hk:∀v:Unit,J (q.g Tryz.prog 73 0 27) c73 (atI c73 15) (St.mk' [] []) (some v) kn):
  ∀s12:Int,J (q.g Tryz.prog 73 0 27) c73 (atI c73 116) (St.mk' [(0,sl 2 (File.enc false) a1),(1,sl 2 (File.enc false) a2),(5,iv s12)] []) (zA9 a1 a2 s12) (Fl.go (fun r:Bool=>some (bv r,[])) kn):=by
 refine zAU (fun g ih s12=>?_)
 unfold zBm
 refine J_d 464 [] [14] [(14,bv (decide (s12< (a1.length:Int))))] [] [] zB ?_
 refine zD 14 (fun h13=>?_) (fun h13=>?_)
 ·refine zA (fun x14 h15=>?_)
  refine zA (fun x16 h17=>?_)
  refine zA (fun x18 h19=>?_)
  refine J_d 1864 [] [14,26] [(26,bv (!x18))] [] [] (zG 2 (uE (kk:=.i64) 25 113 2 (File.enc false) (.tmp 17) (.tmp 18) h15) (zG 6 (uE (kk:=.i64) 25 113 2 (File.enc false) (.tmp 21) (.tmp 22) h17) (zG 8 (yT [(.tmp 20),(.tmp 24)] [113,113] (zB1.ok x14 x16) h19) zB))) ?_
  refine zD 26 (fun h20=>?_) (fun h20=>?_)
  ·refine J_g 7460 [] [(4,bv false)] [] zB ?_
   exact zT rfl
  ·refine J_d 467 [] [5,26] [(5,iv (w64 (s12+1)))] [] [] zB ?_
   exact J_q (J_b (ih (w64 (s12+1)))) rfl
 ·exact xC (hk ()) rfl
theorem zA2.ok (a1:(List File)) (a2:(List File)):Ok Tryz.prog 73 [sl 2 (File.enc false) a1,sl 2 (File.enc false) a2] [] ((zA2 a1 a2).map fun r=>(bv r,[])):=by
 refine zH c73 Tryz.f73 0 27 (fun q=>?_)
 unfold zA2
 refine J_g 2 [] [(0,sl 2 (File.enc false) a1),(1,sl 2 (File.enc false) a2)] [] zB ?_
 refine J_d 12 [] [10] [(10,bv ((a1.length:Int) !=(a2.length:Int)))] [] [] zB ?_
 refine zD 10 (fun h3=>?_) (fun h3=>?_)
 ·refine J_g 52 [] [(4,bv false)] [] zB ?_
  exact zT rfl
 ·refine J_d 28 [] [5,10] [(5,iv 0)] [] [] zB ?_
  refine jL (K0:=(fun r:Bool=>some (bv r,[]))) (fun _=>rfl) (zA9.ok a1 a2 q _ (fun v21=>J_j ?_) 0)
  refine J_g 30 [] [(4,bv true)] [] zB ?_
  exact zT rfl
noncomputable def c24:Code:=(Tryz.f24.body).getD .skip
theorem zBo.ok (a1:zI) (a2:zI):Ok Tryz.prog 24 [.ag (zI.enc false a1),.ag (zI.enc false a2)] [] ((zBo a1 a2).map fun r=>(bv r,[])):=by
 refine zH c24 Tryz.f24 0 31 (fun q=>?_)
 unfold zBo
 refine J_g 2 [(0,0),(1,1)] [(2,pp 0),(3,pp 1)] [(0,.box (zI.enc false a1)),(1,.box (zI.enc false a2))] zB ?_
 refine zA (fun x3 h4=>?_)
 refine J_d 12 [] [10] [(10,bv (!x3))] [] [] (zG 4 (yT [(.tmp 6),(.tmp 8)] [25,25] (zA2.ok a1.Files a2.Files) h4) zB) ?_
 refine zD 10 (fun h5=>?_) (fun h5=>?_)
 ·refine J_g 52 [] [(4,bv false)] [] zB ?_
  exact zT rfl
 ·refine J_d 28 [] [10,15] [(15,bv (a1.Budget !=a2.Budget))] [] [] zB ?_
  refine zD 15 (fun h6=>?_) (fun h6=>?_)
  ·refine J_g 116 [] [(4,bv false)] [] zB ?_
   exact zT rfl
  ·refine J_d 60 [] [15,20] [(20,bv (a1.Writes !=a2.Writes))] [] [] zB ?_
   refine zD 20 (fun h7=>?_) (fun h7=>?_)
   ·refine J_g 244 [] [(4,bv false)] [] zB ?_
    exact zT rfl
   ·refine J_d 124 [] [20,25] [(25,bv (a1.Stop !=a2.Stop))] [] [] zB ?_
    refine zD 25 (fun h8=>?_) (fun h8=>?_)
    ·refine J_g 500 [] [(4,bv false)] [] zB ?_
     exact zT rfl
    ·refine J_g 252 [] [(30,bv (!(a1.Down==a2.Down)))] [] zB ?_
     refine zD 30 (fun h9=>?_) (fun h9=>?_)
     ·refine J_g 1012 [] [(4,bv false)] [] zB ?_
      exact zT rfl
     ·refine J_g 254 [] [(4,bv true)] [] zB ?_
      exact zT rfl
noncomputable def c25:Code:=(Tryz.f25.body).getD .skip
theorem kL.ok (a1:(List Int)) (a2:(List Int)) (q:Wd) (kn:Unit→Option (D×List Ent)) (hk:∀v:Unit,J (q.g Tryz.prog 25 0 26) c25 (atI c25 15) (St.mk' [] []) (some v) kn):
  ∀s10:Int,J (q.g Tryz.prog 25 0 26) c25 (atI c25 116) (St.mk' [(0,sl 1 yE a1),(1,sl 1 yE a2),(5,iv s10)] []) (kL a1 a2 s10) (Fl.go (fun r:Bool=>some (bv r,[])) kn):=by
 refine zAU (fun g ih s10=>?_)
 unfold zAQ
 refine J_d 464 [] [14] [(14,bv (decide (s10< (a1.length:Int))))] [] [] zB ?_
 refine zD 14 (fun h11=>?_) (fun h11=>?_)
 ·refine zA (fun x12 h13=>?_)
  refine zA (fun x14 h15=>?_)
  refine J_d 1864 [] [14,25] [(25,bv (x12 !=x14))] [] [] (zG 2 (uE (kk:=.i64) 42 2 1 yE (.tmp 17) (.tmp 18) h13) (zG 6 (uE (kk:=.i64) 42 2 1 yE (.tmp 21) (.tmp 22) h15) zB)) ?_
  refine zD 25 (fun h16=>?_) (fun h16=>?_)
  ·refine J_g 7460 [] [(4,bv false)] [] zB ?_
   exact zT rfl
  ·refine J_d 467 [] [5,25] [(5,iv (w64 (s10+1)))] [] [] zB ?_
   exact J_q (J_b (ih (w64 (s10+1)))) rfl
 ·exact xC (hk ()) rfl
theorem kE.ok (a1:(List Int)) (a2:(List Int)):Ok Tryz.prog 25 [sl 1 yE a1,sl 1 yE a2] [] ((kE a1 a2).map fun r=>(bv r,[])):=by
 refine zH c25 Tryz.f25 0 26 (fun q=>?_)
 unfold kE
 refine J_g 2 [] [(0,sl 1 yE a1),(1,sl 1 yE a2)] [] zB ?_
 refine J_d 12 [] [10] [(10,bv ((a1.length:Int) !=(a2.length:Int)))] [] [] zB ?_
 refine zD 10 (fun h3=>?_) (fun h3=>?_)
 ·refine J_g 52 [] [(4,bv false)] [] zB ?_
  exact zT rfl
 ·refine J_d 28 [] [5,10] [(5,iv 0)] [] [] zB ?_
  refine jL (K0:=(fun r:Bool=>some (bv r,[]))) (fun _=>rfl) (kL.ok a1 a2 q _ (fun v17=>J_j ?_) 0)
  refine J_g 30 [] [(4,bv true)] [] zB ?_
  exact zT rfl
noncomputable def c4:Code:=(Tryz.f4.body).getD .skip
theorem xG.ok (a1:(List Pack)) (a2:zI) (a3:(List Int)):Ok Tryz.prog 4 [sl 8 (Pack.enc false) a1,.ag (zI.enc false a2),sl 1 yE a3] [] ((xG a1 a2 a3).map fun r=>(bv r,[])):=by
 refine zH c4 Tryz.f4 0 62 (fun q=>?_)
 unfold xG
 refine J_g 2 [(0,0)] [(0,sl 8 (Pack.enc false) a1),(2,sl 1 yE a3),(4,pp 0)] [(0,.box (zI.enc false a2))] zB ?_
 refine J_d 12 [] [15] [(15,bv (decide ((a3.length:Int)>1048576)))] [] [] zB ?_
 refine zD 15 (fun h4=>?_) (fun h4=>?_)
 ·refine J_g 52 [] [(6,bv true)] [] zB ?_
  exact zT rfl
 ·refine J_d 14 [] [7,15] [(7,iv 1048576)] [] [] zB ?_
  refine zA (fun x5 h6=>?_)
  refine J_g 30 [] [(0,sl 8 (Pack.enc false) a1),(2,sl 1 yE a3),(4,pp 0),(7,iv x5)] [(0,.box (zI.enc false a2))] (zG 2 (yT [(.tmp 16),(.tmp 17)] [22,3] (zAC.ok a1 1048576) h6) zB) ?_
  refine J_d 124 [] [20] [(20,bv (decide (x5<0)))] [] [] zB ?_
  refine zD 20 (fun h7=>?_) (fun h7=>?_)
  ·refine J_g 500 [] [(6,bv true)] [] zB ?_
   exact zT rfl
  ·refine zA (fun x8 h9=>?_)
   refine J_g 126 [] [(0,sl 8 (Pack.enc false) a1),(2,sl 1 yE a3),(4,pp 0),(7,iv x8)] [(0,.box (zI.enc false a2))] (zG 2 (yT [(.tmp 21),(.tmp 22)] [41,3] (zBn.ok a2 x5) h9) zB) ?_
   refine J_d 508 [] [7,25] [(25,bv (decide (x8<0)))] [] [] zB ?_
   refine zD 25 (fun h10=>?_) (fun h10=>?_)
   ·refine J_g 2036 [] [(6,bv true)] [] zB ?_
    exact zT rfl
   ·refine zA (fun x11 h12=>?_)
    refine zA (fun x13 h14=>?_)
    refine zA (fun x15 h16=>?_)
    refine zA (fun x17 h18=>?_)
    refine J_d 510 [(7,4)] [8,25] [(8,pp 4)] [4] [(4,.box (yL.enc x17))] (zG 1 (zBI («as»:=[sl 8 (Pack.enc false) a1]) [(.tmp 26)] [22] false [] [] (.cons (.same rfl) (.nil)) (vB.ok a1) h12 (.own 1)) (zG 3 (zBI («as»:=[.ag (zI.enc false a2)]) [(.tmp 28)] [41] false [] [] (.cons (.same rfl) (.nil)) (uI.ok a2) h14 (.ag (.cons (.own 2) (.cons (.same rfl rfl) (.cons (.same rfl rfl) (.cons (.same rfl rfl) (.cons (.same rfl rfl) (.nil)))))))) (zG 5 (zBI («as»:=[sl 1 yE a3]) [(.tmp 30)] [42] false [] [] (.cons (.same rfl) (.nil)) (wI.ok a3) h16 (.own 3)) (zG 6 (zBI («as»:=[rr 1 x11,.ag [rr 2 x13.Files,iv x13.Budget,iv x13.Writes,iv x13.Stop,bv x13.Down],rr 3 x15]) [(.tmp 27),(.tmp 29),(.tmp 31)] [24,27,42] true [(1,rE 8 (Pack.enc true) x11),(2,rE 2 (File.enc true) x13.Files),(3,rE 1 yE x15)] [] (.cons (zFv (.head _) (Pack.ro true) rfl) (.cons (.ag (.cons (zFv (.tail _ (.head _)) (File.ro true) rfl) (.cons (.same rfl) (.cons (.same rfl) (.cons (.same rfl) (.cons (.same rfl) (.nil))))))) (.cons (zFv (.tail _ (.tail _ (.head _))) (fun _=>rfl) rfl) (.nil)))) (vO.ok x11 x13 x15) h18 (.ag (.cons (.same rfl rfl) (.cons (.same rfl rfl) (.nil)))) (hbor:=fun _=>⟨fhN,(zIB (yL.fl _))⟩)) zB)))) ?_
    refine zA (fun x19 h20=>?_)
    refine J_d 1022 [] [9] [(9,rr 5 x19)] [5] [(5,rE 8 (Pack.enc true) x19)] (zG 1 (zBI («as»:=[sl 8 (Pack.enc false) a1]) [(.tmp 33)] [22] false [] [] (.cons (.same rfl) (.nil)) (vB.ok a1) h20 (.own 5)) zB) ?_
    refine zA (fun x21 h22=>?_)
    refine J_d 2046 [(2,7)] [10] [(10,pp 7)] [6,7] [(6,rE 2 (File.enc true) x21.Files),(7,.box [rr 6 x21.Files,iv x21.Budget,iv x21.Writes,iv x21.Stop,bv x21.Down])] (zG 1 (zBI («as»:=[.ag (zI.enc false a2)]) [(.tmp 35)] [41] false [] [] (.cons (.same rfl) (.nil)) (uI.ok a2) h22 (.ag (.cons (.own 6) (.cons (.same rfl rfl) (.cons (.same rfl rfl) (.cons (.same rfl rfl) (.cons (.same rfl rfl) (.nil)))))))) zB) ?_
    refine zA (fun x23 h24=>?_)
    refine J_d 4094 [] [11] [(11,rr 8 x23)] [8] [(8,rE 1 yE x23)] (zG 1 (zBI («as»:=[sl 1 yE a3]) [(.tmp 37)] [42] false [] [] (.cons (.same rfl) (.nil)) (wI.ok a3) h24 (.own 8)) zB) ?_
    refine zA (fun x25 h26=>?_)
    refine J_d 8190 [(4,9)] [12] [(12,pp 9)] [9] [(9,.box (yL.enc x25))] (zG 3 (zBI («as»:=[rr 5 x19,.ag [rr 6 x21.Files,iv x21.Budget,iv x21.Writes,iv x21.Stop,bv x21.Down],rr 8 x23]) [(.tmp 39),(.tmp 40),(.tmp 41)] [24,27,42] true [(5,rE 8 (Pack.enc true) x19),(6,rE 2 (File.enc true) x21.Files),(8,rE 1 yE x23)] [] (.cons (zFv (.head _) (Pack.ro true) rfl) (.cons (.ag (.cons (zFv (.tail _ (.head _)) (File.ro true) rfl) (.cons (.same rfl) (.cons (.same rfl) (.cons (.same rfl) (.cons (.same rfl) (.nil))))))) (.cons (zFv (.tail _ (.tail _ (.head _))) (fun _=>rfl) rfl) (.nil)))) (vQ.ok x19 x21 x23) h26 (.ag (.cons (.same rfl rfl) (.cons (.same rfl rfl) (.nil)))) (hbor:=fun _=>⟨fhN,(zIB (yL.fl _))⟩)) zB) ?_
    refine zA (fun x27 h28=>?_)
    refine J_d 32764 [] [8,12,46] [(46,bv (!x27))] [4,9] [] (zG 2 (yT [(.tmp 43),(.tmp 44)] [45,45] (vJ.ok x25 x17) h28) zB) ?_
    refine zD 46 (fun h29=>?_) (fun h29=>?_)
    ·refine J_g 131060 [] [(6,bv false)] [] zB ?_
     exact zT rfl
    ·refine zA (fun x30 h31=>?_)
     refine zA (fun x32 h33=>?_)
     refine J_d 65532 [] [0,9,46,51] [(51,bv (!x32))] [5] [] (zG 2 (zBI («as»:=[sl 8 (Pack.enc false) a1]) [(.tmp 48)] [22] false [] [] (.cons (.same rfl) (.nil)) (vB.ok a1) h31 (.own 9)) (zG 3 (zBI («as»:=[rr 5 x19,rr 9 x30]) [(.tmp 47),(.tmp 49)] [24,24] true [(5,rE 8 (Pack.enc true) x19),(9,rE 8 (Pack.enc true) x30)] [] (.cons (zFv (.head _) (Pack.ro true) rfl) (.cons (zFv (.tail _ (.head _)) (Pack.ro true) rfl) (.nil))) (zAq.ok x19 x30) h33 (.same rfl rfl) (hbor:=fun _=>⟨fhN,xJ⟩)) zB)) ?_
     refine zD 51 (fun h34=>?_) (fun h34=>?_)
     ·refine J_g 262132 [] [(6,bv false)] [] zB ?_
      exact zT rfl
     ·refine zA (fun x35 h36=>?_)
      refine zA (fun x37 h38=>?_)
      refine J_d 131068 [] [4,10,51,56] [(56,bv (!x37))] [0,6,7] [] (zG 2 (zBI («as»:=[.ag (zI.enc false a2)]) [(.tmp 53)] [41] false [] [] (.cons (.same rfl) (.nil)) (uI.ok a2) h36 (.ag (.cons (.own 9) (.cons (.same rfl rfl) (.cons (.same rfl rfl) (.cons (.same rfl rfl) (.cons (.same rfl rfl) (.nil)))))))) (zG 3 (zBI («as»:=[.ag [rr 6 x21.Files,iv x21.Budget,iv x21.Writes,iv x21.Stop,bv x21.Down],.ag [rr 9 x35.Files,iv x35.Budget,iv x35.Writes,iv x35.Stop,bv x35.Down]]) [(.tmp 52),(.tmp 54)] [27,27] true [(6,rE 2 (File.enc true) x21.Files),(9,rE 2 (File.enc true) x35.Files)] [] (.cons (.ag (.cons (zFv (.head _) (File.ro true) rfl) (.cons (.same rfl) (.cons (.same rfl) (.cons (.same rfl) (.cons (.same rfl) (.nil))))))) (.cons (.ag (.cons (zFv (.tail _ (.head _)) (File.ro true) rfl) (.cons (.same rfl) (.cons (.same rfl) (.cons (.same rfl) (.cons (.same rfl) (.nil))))))) (.nil))) (zBo.ok x21 x35) h38 (.same rfl rfl) (hbor:=fun _=>⟨fhN,xJ⟩)) zB)) ?_
      refine zD 56 (fun h39=>?_) (fun h39=>?_)
      ·refine J_g 524276 [] [(6,bv false)] [] zB ?_
       exact zT rfl
      ·refine zA (fun x40 h41=>?_)
       refine zA (fun x42 h43=>?_)
       refine J_g 262140 [] [(61,bv (!x42))] [] (zG 2 (zBI («as»:=[sl 1 yE a3]) [(.tmp 58)] [42] false [] [] (.cons (.same rfl) (.nil)) (wI.ok a3) h41 (.own 9)) (zG 3 (zBI («as»:=[rr 8 x23,rr 9 x40]) [(.tmp 57),(.tmp 59)] [42,42] true [(8,rE 1 yE x23),(9,rE 1 yE x40)] [] (.cons (zFv (.head _) (fun _=>rfl) rfl) (.cons (zFv (.tail _ (.head _)) (fun _=>rfl) rfl) (.nil))) (kE.ok x23 x40) h43 (.same rfl rfl) (hbor:=fun _=>⟨fhN,xJ⟩)) zB)) ?_
       refine zD 61 (fun h44=>?_) (fun h44=>?_)
       ·refine J_g 1048564 [] [(6,bv false)] [] zB ?_
        exact zT rfl
       ·refine J_g 262142 [] [(6,bv true)] [] zB ?_
        exact zT rfl
end Go.Told

import Derived.Test.YtobkkecdnlecgaaGreatDoorOkRollbackTox1
set_option linter.unusedVariables false
set_option maxRecDepth 4000
namespace Go.Told
open Go Go.Im Go.Proofs
noncomputable def c173:Code:=(Tryz.f173.body).getD .skip
theorem kN.ok (a1:Pack) (q:Wd) (kn:Unit→Option (D×List Ent)) (hk:∀v:Unit,J (q.g Tryz.prog 173 0 93) c173 (atI c173 63) (St.mk' [(1,pp 0)] [(0,.box (Pack.enc false a1))]) (some v) kn):
  ∀s54:Int,J (q.g Tryz.prog 173 0 93) c173 (atI c173 500) (St.mk' [(1,pp 0),(75,sl 1 (eSl false 7 Term.enc) a1.Needs),(76,iv (a1.Needs.length:Int)),(77,iv s54)] [(0,.box (Pack.enc false a1))]) (kN a1 s54) (Fl.go (fun r:Int=>some (iv r,[])) kn):=by
 refine kQ (fun g ih s54=>?_)
 unfold zAv
 refine J_d 1000 [] [78] [(78,bv (decide (s54< (a1.Needs.length:Int))))] [] [] zB ?_
 refine zD 78 (fun h55=>?_) (fun h55=>?_)
 ·refine zA (fun x56 h57=>?_)
  refine J_g 16024 [] [(1,pp 0),(8,sl 7 Term.enc x56),(75,sl 1 (eSl false 7 Term.enc) a1.Needs),(76,iv (a1.Needs.length:Int)),(77,iv s54)] [(0,.box (Pack.enc false a1))] (zF 0 (tL (kk:=.i64) 100 75 1 (eSl false 7 Term.enc) (.tmp 75) (.tmp 77) h57) zB) ?_
  refine J_d 64100 [] [83] [(83,bv ((x56.length:Int)==0))] [] [] zB ?_
  refine zD 83 (fun h58=>?_) (fun h58=>?_)
  ·refine J_g 256404 [] [(2,iv 1)] [] zB ?_
   exact zN rfl
  ·refine zA (fun x59 h60=>?_)
   refine J_g 64102 [] [(1,pp 0),(9,iv x59),(75,sl 1 (eSl false 7 Term.enc) a1.Needs),(76,iv (a1.Needs.length:Int)),(77,iv s54)] [(0,.box (Pack.enc false a1))] (zF 1 (xU [(.tmp 84)] [75] (vC.ok x56) h60) zB) ?_
   refine J_d 128206 [] [87] [(87,bv (x59 !=0))] [] [] zB ?_
   refine zD 87 (fun h61=>?_) (fun h61=>?_)
   ·refine J_g 512828 [] [(2,iv x59)] [] zB ?_
    exact zN rfl
   ·refine J_d 4007 [] [9,77,87] [(77,iv (w64 (s54+1)))] [] [] zB ?_
    exact J_q (J_b (ih (w64 (s54+1)))) rfl
 ·exact xA (hk ()) rfl
theorem kP.ok (a1:Pack) (q:Wd) (kn:Unit→Option (D×List Ent)) (hk:∀v:Unit,J (q.g Tryz.prog 173 0 93) c173 (atI c173 31) (St.mk' [(1,pp 0)] [(0,.box (Pack.enc false a1))]) (some v) kn):
  ∀s32:Int,J (q.g Tryz.prog 173 0 93) c173 (atI c173 244) (St.mk' [(1,pp 0),(49,sl 1 eStr a1.Provides),(50,iv (a1.Provides.length:Int)),(51,iv s32)] [(0,.box (Pack.enc false a1))]) (kP a1 s32) (Fl.go (fun r:Int=>some (iv r,[])) kn):=by
 refine kQ (fun g ih s32=>?_)
 unfold zA3
 refine J_d 488 [] [52] [(52,bv (decide (s32< (a1.Provides.length:Int))))] [] [] zB ?_
 refine zD 52 (fun h33=>?_) (fun h33=>?_)
 ·refine zA (fun x34 h35=>?_)
  refine J_d 7832 [] [4,5,52] [(4,iv s32),(5,sv x34)] [] [] (zF 1 (tL (kk:=.i64) 86 9 1 eStr (.tmp 49) (.tmp 51) h35) zB) ?_
  refine zA (fun x36 h37=>?_)
  refine J_g 31332 [] [(1,pp 0),(4,iv s32),(5,sv x34),(6,iv x36),(49,sl 1 eStr a1.Provides),(50,iv (a1.Provides.length:Int)),(51,iv s32)] [(0,.box (Pack.enc false a1))] (zF 1 (xU [(.tmp 56)] [9] (vB.ok x34) h37) zB) ?_
  refine J_d 62666 [] [59] [(59,bv (x36 !=0))] [] [] zB ?_
  refine zD 59 (fun h38=>?_) (fun h38=>?_)
  ·refine J_g 250668 [] [(2,iv x36)] [] zB ?_
   exact zN rfl
  ·refine xS (atI c173 31335) (fun v44:Bool=>St.mk' [(1,pp 0),(49,sl 1 eStr a1.Provides),(50,iv (a1.Provides.length:Int)),(51,iv s32),(72,bv v44)] [(0,.box (Pack.enc false a1))]) (fun v44=>?_) (fun jv44=>?_)
   ·refine zD 72 (fun h45=>?_) (fun h45=>?_)
    ·refine J_g 125340 [] [(2,iv 6)] [] zB ?_
     exact zN rfl
    ·refine J_d 1959 [] [51,72] [(51,iv (w64 (s32+1)))] [] [] zB ?_
     exact J_q (J_b (ih (w64 (s32+1)))) rfl
   ·refine wH (fun h39=>?_) (fun h39=>?_)
    ·refine J_d 31334 [] [4,5,6,59,72] [(72,bv true)] [] [] (xW 4 [(64,bv (seq x34 a1.Name))] [] h39 zB) ?_
     exact xA (J_j (jv44 true)) rfl
    ·refine zA (fun x40 h41=>?_)
     refine zA (fun x42 h43=>?_)
     refine J_d 31334 [] [4,5,6,59,72] [(72,bv x42)] [] [] (xW 4 [(64,bv (seq x34 a1.Name))] [] h39 (zBS 8 4 65 false (zQJ 86 9 1 eStr (.tmp 67) none (some (.tmp 68)) h41) (zBS 10 4 65 false (xU [(.tmp 69),(.tmp 70)] [86,9] (wN.ok x40 x34) h43) zB))) ?_
     exact xA (J_j (jv44 x42)) rfl
 ·exact xA (hk ()) rfl
theorem zAI.ok (a1:Pack):Ok Tryz.prog 173 [.ag (Pack.enc false a1)] [] ((zAI a1).map fun r=>(iv r,[])):=by
 refine zG c173 Tryz.f173 0 93 (fun q=>?_)
 unfold zAI
 refine J_g 2 [(0,0)] [(1,pp 0)] [(0,.box (Pack.enc false a1))] zB ?_
 refine zA (fun x2 h3=>?_)
 refine zA (fun x4 h5=>?_)
 refine zA (fun x6 h7=>?_)
 refine J_g 12 [] [(1,pp 0),(3,iv x6)] [(0,.box (Pack.enc false a1))] (zF 2 (xU [(.tmp 11)] [9] (vB.ok a1.Name) h3) (zF 5 (xU [(.tmp 14)] [99] (wI.ok a1.Version) h5) (zF 6 (zE6 39 2 1 1 zS [x2,x4] [0,1] [(.tmp 12),(.tmp 15)] [iv x2,iv x4]) (zF 7 (uJ («as»:=[rr 1 [x2,x4]]) [(.tmp 16)] [39] true [(1,rE 1 zS [x2,x4])] [] (.cons (zFe (.head _) (fun _=>rfl) rfl) (.nil)) (zAE.ok [x2,x4]) h7 (.same rfl rfl) (hbor:=fun _=>⟨fhN,yJ⟩)) zB)))) ?_
 refine J_d 26 [] [19] [(19,bv (x6 !=0))] [] [] zB ?_
 refine zD 19 (fun h8=>?_) (fun h8=>?_)
 ·refine J_g 108 [] [(2,iv x6)] [] zB ?_
  exact zN rfl
 ·refine zA (fun x9 h10=>?_)
  refine J_d 56 [] [3,19,21] [(21,bv (!x9))] [] [] (zF 2 (xU [(.tmp 23),(.const (.int .i64 1)),(.const (.int .i64 200))] [2,2,2] (xM.ok a1.Size 1 200) h10) zB) ?_
  refine zD 21 (fun h11=>?_) (fun h11=>?_)
  ·refine J_g 228 [] [(2,iv 3)] [] zB ?_
   exact zN rfl
  ·refine xS (atI c173 231) (fun v17:Bool=>St.mk' [(1,pp 0),(26,bv v17)] [(0,.box (Pack.enc false a1))]) (fun v17=>?_) (fun jv17=>?_)
   ·refine zD 26 (fun h18=>?_) (fun h18=>?_)
    ·refine J_g 924 [] [(2,iv 2)] [] zB ?_
     exact zN rfl
    ·refine J_d 60 [] [26,49,50,51] [(49,sl 1 eStr a1.Provides),(50,iv (a1.Provides.length:Int)),(51,iv 0)] [] [] zB ?_
     refine uR (K0:=(fun r:Int=>some (iv r,[]))) (fun _=>rfl) (kP.ok a1 q _ (fun v46=>J_j ?_) 0)
     refine J_d 124 [] [75,76,77] [(75,sl 1 (eSl false 7 Term.enc) a1.Needs),(76,iv (a1.Needs.length:Int)),(77,iv 0)] [] [] zB ?_
     refine uR (K0:=(fun r:Int=>some (iv r,[]))) (fun _=>rfl) (kN.ok a1 q _ (fun v62=>J_j ?_) 0)
     refine zA (fun x63 h64=>?_)
     refine J_g 126 [] [(2,iv x63)] [] (zF 2 (xU [(.tmp 91)] [75] (vC.ok a1.Bars) h64) zB) ?_
     exact zN rfl
   ·refine wH (fun h12=>?_) (fun h12=>?_)
    ·refine J_d 230 [] [21,26] [(26,bv true)] [] [] (xW 4 [(30,bv (decide ((a1.Provides.length:Int)>4)))] [] h12 zB) ?_
     exact xA (J_j (jv17 true)) rfl
    ·refine wH (fun h13=>?_) (fun h13=>?_)
     ·refine J_d 230 [] [21,26] [(26,bv true)] [] [] (xW 4 [(30,bv (decide ((a1.Provides.length:Int)>4)))] [] h12 (xW 10 [(36,bv (decide ((a1.Needs.length:Int)>4)))] [] h13 zB)) ?_
      exact xA (J_j (jv17 true)) rfl
     ·refine wH (fun h14=>?_) (fun h14=>?_)
      ·refine J_d 230 [] [21,26] [(26,bv true)] [] [] (xW 4 [(30,bv (decide ((a1.Provides.length:Int)>4)))] [] h12 (xW 10 [(36,bv (decide ((a1.Needs.length:Int)>4)))] [] h13 (xW 16 [(42,bv (decide ((a1.Bars.length:Int)>4)))] [] h14 zB))) ?_
       exact xA (J_j (jv17 true)) rfl
      ·refine zA (fun x15 h16=>?_)
       refine J_d 230 [] [21,26] [(26,bv x15)] [] [] (xW 4 [(30,bv (decide ((a1.Provides.length:Int)>4)))] [] h12 (xW 10 [(36,bv (decide ((a1.Needs.length:Int)>4)))] [] h13 (xW 16 [(42,bv (decide ((a1.Bars.length:Int)>4)))] [] h14 (zBS 19 16 43 false (uJ («as»:=[sl 1 (eSl false 7 Term.enc) a1.Needs,.fn 242 []]) [(.tmp 45),(.func 242)] [100,154] false [] [] (.cons (.same rfl) (.cons (.fn (.nil)) (.nil))) (zO.ok a1.Needs) h16 (.same rfl rfl)) zB)))) ?_
       exact xA (J_j (jv17 x15)) rfl
noncomputable def zSq:Code:=(Tryz.f244.body).getD .skip
theorem zDW.ok (a1:Pack) (a2:ByteArray) (a3:Version):Ok Tryz.prog 244 [.ag (Pack.enc false a1),pp 0,pp 1] [.box [sv a2],.box (Version.enc a3)] ((zDW a1 a2 a3).map fun r=>(bv r,[.box [sv a2],.box (Version.enc a3)])):=by
 refine zG zSq Tryz.f244 2 15 (fun q=>?_)
 unfold zDW
 refine J_d 2 [(0,2)] [0,3] [(3,pp 2)] [2] [(2,.box (Pack.enc false a1))] zB ?_
 refine wH (fun h4=>?_) (fun h4=>?_)
 ·refine J_d 6 [] [1,2,3,4] [(4,bv (a1.Version.A==a3.A&&(a1.Version.B==a3.B&&(a1.Version.C==a3.C&&true))))] [2] [] (xW 4 [(8,bv (seq a1.Name a2))] [] h4 (zBS 8 4 9 true (zN1 (b:=.eql) (r:=(a1.Version.A==a3.A&&(a1.Version.B==a3.B&&(a1.Version.C==a3.C&&true)))) 99 99 (.tmp 11) (.tmp 12) [.int .i64 a1.Version.A,.int .i64 a1.Version.B,.int .i64 a1.Version.C] [.int .i64 a3.A,.int .i64 a3.B,.int .i64 a3.C] (.inl ⟨rfl,rfl⟩)) zB)) ?_
  exact zN rfl
 ·refine J_d 6 [] [1,2,3,4] [(4,bv false)] [2] [] (xW 4 [(8,bv (seq a1.Name a2))] [] h4 zB) ?_
  exact zN rfl
noncomputable def zQT:Code:=(Tryz.f243.body).getD .skip
theorem xH.ok (a1:(List Pack)) (a2:ByteArray) (a3:Version) (q:Wd) (kn:Unit→Option (D×List Ent)) (hk:∀v:Unit,J (q.g Tryz.prog 243 2 19) zQT (atI zQT 7) (St.mk' [] [(0,.box [sv a2]),(1,.box (Version.enc a3))]) (some v) kn):
  ∀s10:Int,J (q.g Tryz.prog 243 2 19) zQT (atI zQT 52) (St.mk' [(0,sl 8 (Pack.enc false) a1),(1,.fn 244 [pp 0,pp 1]),(7,iv (a1.length:Int)),(8,iv s10)] [(0,.box [sv a2]),(1,.box (Version.enc a3))]) (xH a1 a2 a3 s10) (Fl.go (fun r:Int=>some (iv r,[.box [sv a2],.box (Version.enc a3)])) kn):=by
 refine kQ (fun g ih s10=>?_)
 unfold xD
 refine J_d 104 [] [9] [(9,bv (decide (s10< (a1.length:Int))))] [] [] zB ?_
 refine zD 9 (fun h11=>?_) (fun h11=>?_)
 ·refine J_d 1688 [] [5,9] [(5,iv s10)] [] [] zB ?_
  refine zA (fun x12 h13=>?_)
  refine zA (fun x14 h15=>?_)
  refine J_d 3378 [] [16] [(16,bv x14)] [] [] (zF 3 (tL (kk:=.i64) 30 102 8 (Pack.enc false) (.tmp 12) (.tmp 13) h13) (zF 5 (zGj [(0,.box [sv a2]),(1,.box (Version.enc a3))] [] (zJg 11 [(.tmp 15)] [102] false [(0,.box [sv a2]),(1,.box (Version.enc a3))] [0,1] [.ag (Pack.enc false x12)] [pp 0,pp 1] (.cons (.same rfl) (.cons (.pt rfl) (.cons (.pt rfl) (.nil)))) (zDW.ok x12 a2 a3) h15 (.same rfl rfl))) zB)) ?_
  refine zD 16 (fun h16=>?_) (fun h16=>?_)
  ·refine J_d 13516 [] [0,1,4,5,7,8,16] [(4,iv s10)] [] [] zB ?_
   exact zN rfl
  ·refine J_d 423 [] [5,8,16] [(8,iv (w64 (s10+1)))] [] [] zB ?_
   exact J_q (J_b (ih (w64 (s10+1)))) rfl
 ·exact xA (hk ()) rfl
theorem yX.ok (a1:(List Pack)) (a2:ByteArray) (a3:Version):Ok Tryz.prog 243 [sl 8 (Pack.enc false) a1,.fn 244 [pp 0,pp 1]] [.box [sv a2],.box (Version.enc a3)] ((yX a1 a2 a3).map fun r=>(iv r,[.box [sv a2],.box (Version.enc a3)])):=by
 refine zG zQT Tryz.f243 2 19 (fun q=>?_)
 unfold yX
 refine J_g 2 [] [(0,sl 8 (Pack.enc false) a1),(1,.fn 244 [pp 0,pp 1])] [(0,.box [sv a2]),(1,.box (Version.enc a3))] zB ?_
 refine J_d 12 [] [7,8] [(7,iv (a1.length:Int)),(8,iv 0)] [] [] zB ?_
 refine uR (K0:=(fun r:Int=>some (iv r,[.box [sv a2],.box (Version.enc a3)]))) (fun _=>rfl) (xH.ok a1 a2 a3 q _ (fun v17=>J_j ?_) 0)
 refine J_d 14 [] [4] [(4,iv (-1))] [] [] zB ?_
 exact zN rfl
noncomputable def zSf:Code:=(Tryz.f174.body).getD .skip
theorem zDe.ok (a1:(List Pack)) (a2:ByteArray) (a3:Version):Ok Tryz.prog 174 [sl 8 (Pack.enc false) a1,sv a2,.ag (Version.enc a3)] [] ((zDe a1 a2 a3).map fun r=>(iv r,[])):=by
 refine zG zSf Tryz.f174 0 10 (fun q=>?_)
 unfold zDe
 refine J_d 2 [(0,0),(1,1)] [1,2,4,5] [(4,pp 0),(5,pp 1)] [0,1] [(0,.box [sv a2]),(1,.box (Version.enc a3))] zB ?_
 refine zA (fun x4 h5=>?_)
 refine J_g 6 [] [(6,iv x4)] [] (zF 2 (zGj [(0,.box [sv a2]),(1,.box (Version.enc a3))] [] (uJ («as»:=[sl 8 (Pack.enc false) a1,.fn 244 [pp 0,pp 1]]) [(.tmp 7),(.tmp 8)] [30,249] false [(0,.box [sv a2]),(1,.box (Version.enc a3))] [0,1] (.cons (.same rfl) (.cons (.fn (.cons (.pt rfl) (.cons (.pt rfl) (.nil)))) (.nil))) (yX.ok a1 a2 a3) h5 (.same rfl rfl))) zB) ?_
 exact zN rfl
noncomputable def c99:Code:=(Tryz.f99.body).getD .skip
theorem jQ.ok (a1:(List Pack)) (q:Wd) (kn:Unit→Option (D×List Ent)) (hk:∀v:Unit,J (q.g Tryz.prog 99 0 31) c99 (atI c99 15) (St.mk' [] []) (some v) kn):
  ∀s14:Int,J (q.g Tryz.prog 99 0 31) c99 (atI c99 116) (St.mk' [(0,sl 8 (Pack.enc false) a1),(9,sl 8 (Pack.enc false) a1),(10,iv (a1.length:Int)),(11,iv s14)] []) (jQ a1 s14) (Fl.go (fun r:Int=>some (iv r,[])) kn):=by
 refine kQ (fun g ih s14=>?_)
 unfold tX
 refine J_d 232 [] [12] [(12,bv (decide (s14< (a1.length:Int))))] [] [] zB ?_
 refine zD 12 (fun h15=>?_) (fun h15=>?_)
 ·refine zA (fun x16 h17=>?_)
  refine J_d 3736 [(3,0)] [3,4,12] [(3,iv s14),(4,pp 0)] [0] [(0,.box (Pack.enc false x16))] (zF 1 (tL (kk:=.i64) 30 102 8 (Pack.enc false) (.tmp 9) (.tmp 11) h17) zB) ?_
  refine zA (fun x18 h19=>?_)
  refine J_g 14948 [] [(0,sl 8 (Pack.enc false) a1),(3,iv s14),(4,pp 0),(5,iv x18),(9,sl 8 (Pack.enc false) a1),(10,iv (a1.length:Int)),(11,iv s14)] [(0,.box (Pack.enc false x16))] (zF 1 (xU [(.tmp 16)] [102] (zAI.ok x16) h19) zB) ?_
  refine J_d 29898 [] [19] [(19,bv (x18 !=0))] [] [] zB ?_
  refine zD 19 (fun h20=>?_) (fun h20=>?_)
  ·refine J_g 119596 [] [(2,iv x18)] [] zB ?_
   exact zN rfl
  ·refine zA (fun x21 h22=>?_)
   refine zA (fun x23 h24=>?_)
   refine J_d 14950 [] [3,4,5,19,29] [(29,bv (decide (x23≥0)))] [0] [] (zF 2 (zQJ 30 102 8 (Pack.enc false) (.tmp 21) none (some (.tmp 22)) h22) (zF 7 (xU [(.tmp 23),(.tmp 25),(.tmp 27)] [30,9,99] (zDe.ok x21 x16.Name x16.Version) h24) zB)) ?_
   refine zD 29 (fun h25=>?_) (fun h25=>?_)
   ·refine J_g 59804 [] [(2,iv 6)] [] zB ?_
    exact zN rfl
   ·refine J_d 935 [] [11,29] [(11,iv (w64 (s14+1)))] [] [] zB ?_
    exact J_q (J_b (ih (w64 (s14+1)))) rfl
 ·exact xA (hk ()) rfl
theorem wV.ok (a1:(List Pack)):Ok Tryz.prog 99 [sl 8 (Pack.enc false) a1] [] ((wV a1).map fun r=>(iv r,[])):=by
 refine zG c99 Tryz.f99 0 31 (fun q=>?_)
 unfold wV
 refine J_g 2 [] [(0,sl 8 (Pack.enc false) a1)] [] zB ?_
 refine J_d 12 [] [8] [(8,bv (decide ((a1.length:Int)>24)))] [] [] zB ?_
 refine zD 8 (fun h2=>?_) (fun h2=>?_)
 ·refine J_g 52 [] [(2,iv 2)] [] zB ?_
  exact zN rfl
 ·refine J_d 28 [] [8,9,10,11] [(9,sl 8 (Pack.enc false) a1),(10,iv (a1.length:Int)),(11,iv 0)] [] [] zB ?_
  refine uR (K0:=(fun r:Int=>some (iv r,[]))) (fun _=>rfl) (jQ.ok a1 q _ (fun v26=>J_j ?_) 0)
  refine J_g 30 [] [(2,iv 0)] [] zB ?_
  exact zN rfl
noncomputable def c152:Code:=(Tryz.f152.body).getD .skip
theorem kI.ok (a1:ByteArray) (q:Wd) (kn:Unit→Option (D×List Ent)) (hk:∀v:Unit,J (q.g Tryz.prog 152 0 37) c152 (atI c152 15) (St.mk' [] []) (some v) kn):
  ∀s15:Int,J (q.g Tryz.prog 152 0 37) c152 (atI c152 116) (St.mk' [(0,sv a1),(14,iv (a1.size:Int)),(15,iv s15)] []) (kI a1 s15) (Fl.go (fun r:Int=>some (iv r,[])) kn):=by
 refine kQ (fun g ih s15=>?_)
 unfold zDM
 refine J_d 232 [] [16] [(16,bv (decide (s15< (a1.size:Int))))] [] [] zB ?_
 refine zD 16 (fun h16=>?_) (fun h16=>?_)
 ·refine J_d 3736 [] [3,16] [(3,iv s15)] [] [] zB ?_
  refine zA (fun x17 h18=>?_)
  refine J_d 7474 [] [3,4] [(4,uv x17)] [] [] (zF 2 (zJZ (kk:=.i64) 9 (.tmp 18) (.tmp 19) h18) zB) ?_
  refine zA (fun x19 h20=>?_)
  refine xS (atI c152 14951) (fun v24:Bool=>St.mk' [(0,sv a1),(14,iv (a1.size:Int)),(15,iv s15),(35,bv v24)] []) (fun v24=>?_) (fun jv24=>?_)
  ·refine zD 35 (fun h25=>?_) (fun h25=>?_)
   ·refine J_g 59804 [] [(2,iv 5)] [] zB ?_
    exact zN rfl
   ·refine J_d 935 [] [15,35] [(15,iv (w64 (s15+1)))] [] [] zB ?_
    exact J_q (J_b (ih (w64 (s15+1)))) rfl
  ·refine wH (fun h21=>?_) (fun h21=>?_)
   ·refine wH (fun h22=>?_) (fun h22=>?_)
    ·refine wH (fun h23=>?_) (fun h23=>?_)
     ·refine J_d 14950 [] [4,35] [(35,bv (x17 !=47))] [] [] (zF 1 (xU [(.tmp 21)] [5] (wF.ok x17) h20) (xW 3 [(23,bv (!x19))] [] h21 (xW 7 [(27,bv (x17 !=46))] [] h22 (xW 11 [(31,bv (x17 !=45))] [] h23 zB)))) ?_
      exact xA (J_j (jv24 (x17 !=47))) rfl
     ·refine J_d 14950 [] [4,35] [(35,bv false)] [] [] (zF 1 (xU [(.tmp 21)] [5] (wF.ok x17) h20) (xW 3 [(23,bv (!x19))] [] h21 (xW 7 [(27,bv (x17 !=46))] [] h22 (xW 11 [(31,bv (x17 !=45))] [] h23 zB)))) ?_
      exact xA (J_j (jv24 false)) rfl
    ·refine J_d 14950 [] [4,35] [(35,bv false)] [] [] (zF 1 (xU [(.tmp 21)] [5] (wF.ok x17) h20) (xW 3 [(23,bv (!x19))] [] h21 (xW 7 [(27,bv (x17 !=46))] [] h22 zB))) ?_
     exact xA (J_j (jv24 false)) rfl
   ·refine J_d 14950 [] [4,35] [(35,bv false)] [] [] (zF 1 (xU [(.tmp 21)] [5] (wF.ok x17) h20) (xW 3 [(23,bv (!x19))] [] h21 zB)) ?_
    exact xA (J_j (jv24 false)) rfl
 ·exact xA (hk ()) rfl
theorem vS.ok (a1:ByteArray):Ok Tryz.prog 152 [sv a1] [] ((vS a1).map fun r=>(iv r,[])):=by
 refine zG c152 Tryz.f152 0 37 (fun q=>?_)
 unfold vS
 refine J_g 2 [] [(0,sv a1)] [] zB ?_
 refine xS (atI c152 13) (fun v3:Bool=>St.mk' [(0,sv a1),(12,bv v3)] []) (fun v3=>?_) (fun jv3=>?_)
 ·refine zD 12 (fun h4=>?_) (fun h4=>?_)
  ·refine J_g 52 [] [(2,iv 5)] [] zB ?_
   exact zN rfl
  ·refine J_g 28 [] [(0,sv a1),(14,iv (a1.size:Int)),(15,iv 0)] [] zB ?_
   refine uR (K0:=(fun r:Int=>some (iv r,[]))) (fun _=>rfl) (kI.ok a1 q _ (fun v26=>J_j ?_) 0)
   refine J_g 30 [] [(2,iv 0)] [] zB ?_
   exact zN rfl
 ·refine wH (fun h2=>?_) (fun h2=>?_)
  ·refine J_g 12 [] [(0,sv a1),(12,bv true)] [] (xW 3 [(7,bv (decide ((a1.size:Int)<1)))] [] h2 zB) ?_
   exact xA (J_j (jv3 true)) rfl
  ·refine J_g 12 [] [(0,sv a1),(12,bv (decide ((a1.size:Int)>40)))] [] (xW 3 [(7,bv (decide ((a1.size:Int)<1)))] [] h2 zB) ?_
   exact xA (J_j (jv3 (decide ((a1.size:Int)>40)))) rfl
noncomputable def zQ3:Code:=(Tryz.f153.body).getD .skip
theorem zBX.ok (a1:zC) (q:Wd) (kn:Int→Option (D×List Ent)) (hk:∀v:Int,J (q.g Tryz.prog 153 0 20) zQ3 (atI zQ3 15) (St.mk' [(3,iv v)] []) (some v) kn):
  ∀s5:(Int×Int),J (q.g Tryz.prog 153 0 20) zQ3 (atI zQ3 116) (St.mk' [(3,iv s5.1),(7,sl 2 (File.enc false) a1.Files),(8,iv (a1.Files.length:Int)),(9,iv s5.2)] []) (zBX a1 s5) kn:=by
 refine kQ (fun g ih s5=>?_)
 unfold zE5
 refine J_d 232 [] [10] [(10,bv (decide (s5.2< (a1.Files.length:Int))))] [] [] zB ?_
 refine zD 10 (fun h6=>?_) (fun h6=>?_)
 ·refine zA (fun x7 h8=>?_)
  refine J_g 3736 [(2,0)] [(3,iv s5.1),(5,pp 0),(7,sl 2 (File.enc false) a1.Files),(8,iv (a1.Files.length:Int)),(9,iv s5.2)] [(0,.box (File.enc false x7))] (zF 0 (tL (kk:=.i64) 31 138 2 (File.enc false) (.tmp 7) (.tmp 9) h8) zB) ?_
  refine J_g 3737 [] [(3,iv (w64 (s5.1+(x7.Data.length:Int)))),(7,sl 2 (File.enc false) a1.Files),(8,iv (a1.Files.length:Int)),(9,iv s5.2)] [] zB ?_
  refine J_d 935 [] [9] [(9,iv (w64 (s5.2+1)))] [] [] zB ?_
  exact J_q (J_b (ih (w64 (s5.1+(x7.Data.length:Int)),w64 (s5.2+1)))) rfl
 ·exact xA (hk s5.1) rfl
theorem vU.ok (a1:zC):Ok Tryz.prog 153 [.ag (zC.enc false a1)] [] ((vU a1).map fun r=>(iv r,[])):=by
 refine zG zQ3 Tryz.f153 0 20 (fun q=>?_)
 unfold vU
 refine J_g 2 [(0,0)] [(1,pp 0)] [(0,.box (zC.enc false a1))] zB ?_
 refine J_g 6 [] [(1,pp 0),(3,iv 0)] [(0,.box (zC.enc false a1))] zB ?_
 refine J_g 28 [] [(3,iv 0),(7,sl 2 (File.enc false) a1.Files),(8,iv (a1.Files.length:Int)),(9,iv 0)] [] zB ?_
 refine zEH (zBX.ok a1 q _ (fun v9=>J_j ?_) (0,0))
 refine J_g 30 [] [(2,iv v9)] [] zB ?_
 exact zN rfl
noncomputable def zPk:Code:=(Tryz.f100.body).getD .skip
theorem kJ.ok (a1:zC) (q:Wd) (kn:Unit→Option (D×List Ent)) (hk:∀v:Unit,J (q.g Tryz.prog 100 0 68) zPk (atI zPk 15) (St.mk' [(1,pp 0)] [(0,.box (zC.enc false a1))]) (some v) kn):
  ∀s25:Int,J (q.g Tryz.prog 100 0 68) zPk (atI zPk 116) (St.mk' [(1,pp 0),(29,sl 2 (File.enc false) a1.Files),(30,iv (a1.Files.length:Int)),(31,iv s25)] [(0,.box (zC.enc false a1))]) (kJ a1 s25) (Fl.go (fun r:Int=>some (iv r,[])) kn):=by
 refine kQ (fun g ih s25=>?_)
 unfold zDQ
 refine J_d 232 [] [32] [(32,bv (decide (s25< (a1.Files.length:Int))))] [] [] zB ?_
 refine zD 32 (fun h26=>?_) (fun h26=>?_)
 ·refine zA (fun x27 h28=>?_)
  refine J_d 3736 [(3,1)] [3,4,32] [(3,iv s25),(4,pp 1)] [1] [(1,.box (File.enc false x27))] (zF 1 (tL (kk:=.i64) 31 138 2 (File.enc false) (.tmp 29) (.tmp 31) h28) zB) ?_
  refine zA (fun x29 h30=>?_)
  refine J_g 14948 [] [(1,pp 0),(3,iv s25),(4,pp 1),(5,iv x29),(29,sl 2 (File.enc false) a1.Files),(30,iv (a1.Files.length:Int)),(31,iv s25)] [(0,.box (zC.enc false a1)),(1,.box (File.enc false x27))] (zF 2 (xU [(.tmp 37)] [9] (vS.ok x27.Path) h30) zB) ?_
  refine J_d 29898 [] [40] [(40,bv (x29 !=0))] [] [] zB ?_
  refine zD 40 (fun h31=>?_) (fun h31=>?_)
  ·refine J_g 119596 [] [(2,iv x29)] [] zB ?_
   exact zN rfl
  ·refine xS (atI zPk 29901) (fun v35:Bool=>St.mk' [(1,pp 0),(4,pp 1),(29,sl 2 (File.enc false) a1.Files),(30,iv (a1.Files.length:Int)),(31,iv s25),(42,bv v35)] [(0,.box (zC.enc false a1)),(1,.box (File.enc false x27))]) (fun v35=>?_) (fun jv35=>?_)
   ·refine zD 42 (fun h36=>?_) (fun h36=>?_)
    ·refine J_g 119604 [] [(2,iv 1)] [] zB ?_
     exact zN rfl
    ·refine J_d 119606 [] [4,42,57] [(57,bv (decide ((x27.Data.length:Int)>4000)))] [1] [] zB ?_
     refine zD 57 (fun h37=>?_) (fun h37=>?_)
     ·refine J_g 478428 [] [(2,iv 2)] [] zB ?_
      exact zN rfl
     ·refine J_d 935 [] [31,57] [(31,iv (w64 (s25+1)))] [] [] zB ?_
      exact J_q (J_b (ih (w64 (s25+1)))) rfl
   ·refine wH (fun h32=>?_) (fun h32=>?_)
    ·refine zA (fun x33 h34=>?_)
     refine J_d 29900 [] [3,5,40,42] [(42,bv (slt x27.Path x33.Path||seq x27.Path x33.Path))] [] [] (xW 2 [(44,bv (decide (s25>0)))] [] h32 (zBS 9 2 45 true (tL (kk:=.i64) 31 138 2 (File.enc false) (.tmp 49) (.tmp 51) h34) zB)) ?_
     exact xA (J_j (jv35 (slt x27.Path x33.Path||seq x27.Path x33.Path))) rfl
    ·refine J_d 29900 [] [3,5,40,42] [(42,bv false)] [] [] (xW 2 [(44,bv (decide (s25>0)))] [] h32 zB) ?_
     exact xA (J_j (jv35 false)) rfl
 ·exact xA (hk ()) rfl
theorem zAK.ok (a1:zC):Ok Tryz.prog 100 [.ag (zC.enc false a1)] [] ((zAK a1).map fun r=>(iv r,[])):=by
 refine zG zPk Tryz.f100 0 68 (fun q=>?_)
 unfold zAK
 refine J_g 2 [(0,0)] [(1,pp 0)] [(0,.box (zC.enc false a1))] zB ?_
 refine zA (fun x2 h3=>?_)
 refine xS (atI zPk 25) (fun v10:Bool=>St.mk' [(1,pp 0),(6,bv v10)] [(0,.box (zC.enc false a1))]) (fun v10=>?_) (fun jv10=>?_)
 ·refine zD 6 (fun h11=>?_) (fun h11=>?_)
  ·refine J_g 100 [] [(2,iv 3)] [] zB ?_
   exact zN rfl
  ·refine J_d 102 [] [6,23] [(23,bv (decide ((a1.Files.length:Int)>120)))] [] [] zB ?_
   refine zD 23 (fun h12=>?_) (fun h12=>?_)
   ·refine J_g 412 [] [(2,iv 2)] [] zB ?_
    exact zN rfl
   ·refine J_d 28 [] [23,29,30,31] [(29,sl 2 (File.enc false) a1.Files),(30,iv (a1.Files.length:Int)),(31,iv 0)] [] [] zB ?_
    refine uR (K0:=(fun r:Int=>some (iv r,[]))) (fun _=>rfl) (kJ.ok a1 q _ (fun v38=>J_j ?_) 0)
    refine zA (fun x39 h40=>?_)
    refine J_g 60 [] [(67,bv (decide (x39>a1.Budget)))] [] (zF 1 (xU [(.tmp 63)] [33] (vU.ok a1) h40) zB) ?_
    refine zD 67 (fun h41=>?_) (fun h41=>?_)
    ·refine J_g 244 [] [(2,iv 8)] [] zB ?_
     exact zN rfl
    ·refine J_g 62 [] [(2,iv 0)] [] zB ?_
     exact zN rfl
 ·refine wH (fun h4=>?_) (fun h4=>?_)
  ·refine J_d 24 [] [6] [(6,bv true)] [] [] (zF 2 (xU [(.tmp 8),(.const (.int .i64 0)),(.const (.int .i64 20000))] [2,2,2] (xM.ok a1.Budget 0 20000) h3) (xW 4 [(10,bv (!x2))] [] h4 zB)) ?_
   exact xA (J_j (jv10 true)) rfl
  ·refine zA (fun x5 h6=>?_)
   refine wH (fun h7=>?_) (fun h7=>?_)
   ·refine J_d 24 [] [6] [(6,bv true)] [] [] (zF 2 (xU [(.tmp 8),(.const (.int .i64 0)),(.const (.int .i64 20000))] [2,2,2] (xM.ok a1.Budget 0 20000) h3) (xW 4 [(10,bv (!x2))] [] h4 (zBS 7 4 11 false (xU [(.tmp 13),(.const (.int .i64 0)),(.const (.int .i64 1000000000))] [2,2,2] (xM.ok a1.Writes 0 1000000000) h6) (xW 10 [(16,bv (!x5))] [] h7 zB)))) ?_
    exact xA (J_j (jv10 true)) rfl
   ·refine zA (fun x8 h9=>?_)
    refine J_d 24 [] [6] [(6,bv (!x8))] [] [] (zF 2 (xU [(.tmp 8),(.const (.int .i64 0)),(.const (.int .i64 20000))] [2,2,2] (xM.ok a1.Budget 0 20000) h3) (xW 4 [(10,bv (!x2))] [] h4 (zBS 7 4 11 false (xU [(.tmp 13),(.const (.int .i64 0)),(.const (.int .i64 1000000000))] [2,2,2] (xM.ok a1.Writes 0 1000000000) h6) (xW 10 [(16,bv (!x5))] [] h7 (zBS 13 10 17 false (xU [(.tmp 19),(.const (.int .i64 (-1))),(.const (.int .i64 1000000000))] [2,2,2] (xM.ok a1.Stop (-1) 1000000000) h9) zB))))) ?_
    exact xA (J_j (jv10 (!x8))) rfl
noncomputable def zRV:Code:=(Tryz.f221.body).getD .skip
theorem wL.ok (a1:(List Int)):Ok Tryz.prog 221 [sl 1 eU8 a1] [] ((wL a1).map fun r=>(so 1 eU8 r,[])):=by
 refine zG zRV Tryz.f221 0 8 (fun q=>?_)
 unfold wL
 refine J_g 2 [] [(0,sl 1 eU8 a1)] [] zB ?_
 refine J_d 12 [] [4] [(4,.nb a1.length)] [] [] (zF 1 (zN6 (xs:=a1) 121 5 121 1 eU8 (.tmp 3)) zB) ?_
 refine zR8 4 rfl (fun h2=>?_) ?_
 ·obtain rfl:a1=[]:=List.eq_nil_of_length_eq_zero h2
  refine zOR (e':=some ([]:List Int)) (by kernel_rfl) ?_
  refine J_g 52 [] [(2,nv)] [] zB ?_
  exact zCT (ds:=[nv]) (ds':=[so 1 eU8 ([]:List Int)]) (.cons (.cell (.nilsl true 1 (.nil))) (.nil) (by decide)) rfl
 ·refine zA (fun x3 h4=>?_)
  refine J_g 14 [] [(2,rr 1 x3)] [(1,rE 1 eU8 x3)] (zF 0 (zE6 121 5 1 0 eU8 ([]:List Int) [] [] []) (zF 2 (zNx 121 121 5 5 1 1 1 0 eU8 (.tmp 5) (.tmp 6) h4) zB)) ?_
  exact zCT (ds:=[rr 1 x3]) (ds':=[so 1 eU8 x3]) (.cons (.cell (.move (.head _) (List.length_map _) (by decide) (.nil))) (.nil) (by decide)) rfl
noncomputable def zQv:Code:=(Tryz.f200.body).getD .skip
theorem tJ.ok (a1:zC) (q:Wd) (kn:(List File)→Option (D×List Ent)) (hk:∀v:(List File),J (q.g Tryz.prog 200 0 28) zQv (atI zQv 31) (St.mk' [(2,pp 1),(3,pp 2)] [(1,.box [nv,iv 0,iv 0,iv 0,bv false]),(2,.box [rr 3 v,iv a1.Budget,iv a1.Writes,iv a1.Stop,bv a1.Down]),(3,rE 2 (File.enc true) v)]) (some v) kn):
  ∀s16:((List File)×Int),J (q.g Tryz.prog 200 0 28) zQv (atI zQv 244) (St.mk' [(2,pp 1),(3,pp 2),(9,sl 2 (File.enc false) a1.Files),(10,iv (a1.Files.length:Int)),(11,iv s16.2)] [(1,.box [nv,iv 0,iv 0,iv 0,bv false]),(2,.box [rr 3 s16.1,iv a1.Budget,iv a1.Writes,iv a1.Stop,bv a1.Down]),(3,rE 2 (File.enc true) s16.1)]) (tJ a1 s16) kn:=by
 refine kQ (fun g ih s16=>?_)
 unfold zCU
 refine J_d 488 [] [12] [(12,bv (decide (s16.2< (a1.Files.length:Int))))] [] [] zB ?_
 refine zD 12 (fun h17=>?_) (fun h17=>?_)
 ·refine zA (fun x18 h19=>?_)
  refine J_d 7832 [(2,4)] [5,12] [(5,pp 4)] [4] [(4,.box (File.enc false x18))] (zF 0 (tL (kk:=.i64) 31 138 2 (File.enc false) (.tmp 9) (.tmp 11) h19) zB) ?_
  refine zA (fun x20 h21=>?_)
  refine zA (fun x22 h23=>?_)
  refine J_g 7833 [] [(2,pp 1),(3,pp 2),(9,sl 2 (File.enc false) a1.Files),(10,iv (a1.Files.length:Int)),(11,iv s16.2)] [(1,.box [nv,iv 0,iv 0,iv 0,bv false]),(2,.box [rr 7 x22,iv a1.Budget,iv a1.Writes,iv a1.Stop,bv a1.Down]),(7,rE 2 (File.enc true) x22)] (zF 6 (uJ («as»:=[sl 1 eU8 x18.Data]) [(.tmp 20)] [121] false [] [] (.cons (.same rfl) (.nil)) (wL.ok x18.Data) h21 (.own 5)) (zF 8 (zRe (ds:=[sv x18.Path,rr 5 x20]) (ts:=[5]) 31 138 2 6 (File.enc true) [({Path:=x18.Path,Data:=x20}:File)] [0] [(.tmp 22)] [.ag [sv x18.Path,rr 5 x20]] [(5,rE 1 eU8 x20)] (.keep rfl (.move (.head _) (List.length_map _) (by decide) (.nil)))) (zF 9 (zHJ 31 31 138 138 2 40 7 3 6 (File.enc true) (.tmp 16) (.tmp 23) h23) zB))) ?_
  refine J_d 1959 [] [11] [(11,iv (w64 (s16.2+1)))] [] [] zB ?_
  refine zBR 7 3 (Nat.le_of_ble_eq_true rfl) (Nat.le_of_ble_eq_true rfl) ?_
  exact J_q (J_b (ih (x22,w64 (s16.2+1)))) rfl
 ·exact xA (hk s16.1) rfl
theorem uK.ok (a1:zC):Ok Tryz.prog 200 [.ag (zC.enc false a1)] [] ((uK a1).map fun r=>(.ag (zC.enc true r),[])):=by
 refine zG zQv Tryz.f200 0 28 (fun q=>?_)
 unfold uK
 refine J_g 2 [(0,0),(1,1)] [(1,pp 0),(2,pp 1)] [(0,.box (zC.enc false a1)),(1,.box [nv,iv 0,iv 0,iv 0,bv false])] zB ?_
 refine J_g 6 [(1,2)] [(1,pp 0),(2,pp 1),(3,pp 2)] [(0,.box (zC.enc false a1)),(1,.box [nv,iv 0,iv 0,iv 0,bv false]),(2,.box (zC.enc false a1))] zB ?_
 refine J_g 14 [] [(1,pp 0),(2,pp 1),(3,pp 2)] [(0,.box (zC.enc false a1)),(1,.box [nv,iv 0,iv 0,iv 0,bv false]),(2,.box [nv,iv a1.Budget,iv a1.Writes,iv a1.Stop,bv a1.Down])] zB ?_
 refine J_d 60 [] [1,9,10,11] [(9,sl 2 (File.enc false) a1.Files),(10,iv (a1.Files.length:Int)),(11,iv 0)] [0] [] zB ?_
 refine zOQ 2 0 3 2 rfl rfl (Nat.le_of_ble_eq_true rfl) (by kernel_rfl) ?_
 refine zEH (tJ.ok a1 q _ (fun v24=>J_j ?_) (([]:List File),0))
 refine J_g 62 [] [(2,pp 1)] [(1,.box [rr 3 v24,iv a1.Budget,iv a1.Writes,iv a1.Stop,bv a1.Down]),(3,rE 2 (File.enc true) v24)] zB ?_
 exact zCT (ds:=[.ag [rr 3 v24,iv a1.Budget,iv a1.Writes,iv a1.Stop,bv a1.Down]]) (ds':=[.ag [so 2 (File.enc true) v24,iv a1.Budget,iv a1.Writes,iv a1.Stop,bv a1.Down]]) (.cons (.ag (.move (.tail _ (.head _)) (List.length_map _) (by decide) (.keep rfl (.keep rfl (.keep rfl (.keep rfl (.nil))))))) (.nil) (by decide)) rfl
theorem bytealg_CompareString.ok (a1 a2:ByteArray):Ok Tryz.prog 278 [sv a1,sv a2] [] ((bytealg_CompareString a1 a2).map fun r=>(iv r,[])):=
 zR3 (vs:=[.string a1,.string a2]) (fun w=>Tryz.bytealg_CompareString a1 a2 w)
noncomputable def c212:Code:=(Tryz.f212.body).getD .skip
theorem strings_Compare.ok (a1:ByteArray) (a2:ByteArray):Ok Tryz.prog 212 [sv a1,sv a2] [] ((strings_Compare a1 a2).map fun r=>(iv r,[])):=by
 refine zG c212 Tryz.f212 0 8 (fun q=>?_)
 unfold strings_Compare
 refine J_d 2 [] [] [] [] [] zB ?_
 refine zA (fun x3 h4=>?_)
 refine J_g 6 [] [(4,iv x3)] [] (zF 2 (xU [(.tmp 5),(.tmp 6)] [9,9] (bytealg_CompareString.ok a1 a2) h4) zB) ?_
 exact zN rfl
noncomputable def zSD:Code:=(Tryz.f211.body).getD .skip
theorem vM.ok (a1:File) (a2:ByteArray):Ok Tryz.prog 211 [.ag (File.enc false a1),sv a2] [] ((vM a1 a2).map fun r=>(iv r,[])):=by
 refine zG zSD Tryz.f211 0 9 (fun q=>?_)
 unfold vM
 refine J_g 2 [(0,0)] [(1,sv a2),(2,pp 0)] [(0,.box (File.enc false a1))] zB ?_
 refine zA (fun x3 h4=>?_)
 refine J_g 6 [] [(4,iv x3)] [] (zF 3 (xU [(.tmp 6),(.tmp 7)] [9,9] (strings_Compare.ok a1.Path a2) h4) zB) ?_
 exact zN rfl
noncomputable def c210:Code:=(Tryz.f210.body).getD .skip
theorem zW.ok (a1:(List File)) (a2:ByteArray) (q:Wd) (kn:Int→Option (D×List Ent)) (hk:∀v:Int,J (q.g Tryz.prog 210 0 49) c210 (atI c210 31) (St.mk' [(0,sl 2 (File.enc false) a1),(1,sv a2),(2,.fn 211 []),(8,iv (a1.length:Int)),(9,iv v)] []) (some v) kn):
  ∀s9:(Int×Int),J (q.g Tryz.prog 210 0 49) c210 (atI c210 120) (St.mk' [(0,sl 2 (File.enc false) a1),(1,sv a2),(2,.fn 211 []),(8,iv (a1.length:Int)),(9,iv s9.1),(10,iv s9.2)] []) (zW a1 a2 s9) kn:=by
 refine kQ (fun g ih s9=>?_)
 unfold yN
 refine J_d 480 [] [17] [(17,bv (decide (s9.1<s9.2)))] [] [] zB ?_
 refine zD 17 (fun h10=>?_) (fun h10=>?_)
 ·refine J_d 964 [] [11,17] [(11,iv (w64 ((IntKind.u64.wrap (w64 (s9.1+s9.2))).fdiv (2^(min (1:Int).toNat 64)))))] [] [] zB ?_
  refine zA (fun x11 h12=>?_)
  refine zA (fun x13 h14=>?_)
  refine J_d 1930 [] [31] [(31,bv (decide (x13<0)))] [] [] (zF 3 (tL (kk:=.i64) 31 138 2 (File.enc false) (.tmp 25) (.tmp 26) h12) (zF 6 (zN0 («as»:=[.ag (File.enc false x11),sv a2]) (caps:=[]) 24 [(.tmp 28),(.tmp 29)] [138,9] (vM.ok x11 a2) h14) zB)) ?_
  refine zD 31 (fun h15=>?_) (fun h15=>?_)
  ·refine J_d 3862 [] [9,11,31] [(9,iv (w64 ((w64 ((IntKind.u64.wrap (w64 (s9.1+s9.2))).fdiv (2^(min (1:Int).toNat 64))))+1)))] [] [] zB ?_
   exact J_q (J_b (ih (w64 ((w64 ((IntKind.u64.wrap (w64 (s9.1+s9.2))).fdiv (2^(min (1:Int).toNat 64))))+1),s9.2))) rfl
  ·refine J_d 3863 [] [10,11,31] [(10,iv (w64 ((IntKind.u64.wrap (w64 (s9.1+s9.2))).fdiv (2^(min (1:Int).toNat 64)))))] [] [] zB ?_
   exact J_q (J_b (ih (s9.1,w64 ((IntKind.u64.wrap (w64 (s9.1+s9.2))).fdiv (2^(min (1:Int).toNat 64)))))) rfl
 ·exact xA (hk s9.1) rfl
theorem zJ.ok (a1:(List File)) (a2:ByteArray):Ok Tryz.prog 210 [sl 2 (File.enc false) a1,sv a2,.fn 211 []] [] ((zJ a1 a2).map fun r=>(.tu [iv r.1,bv r.2],[])):=by
 refine zG c210 Tryz.f210 0 49 (fun q=>?_)
 unfold zJ
 refine J_g 2 [] [(0,sl 2 (File.enc false) a1),(1,sv a2),(2,.fn 211 [])] [] zB ?_
 refine J_g 6 [] [(0,sl 2 (File.enc false) a1),(1,sv a2),(2,.fn 211 []),(8,iv (a1.length:Int))] [] zB ?_
 refine J_d 14 [] [9,10] [(9,iv 0),(10,iv (a1.length:Int))] [] [] zB ?_
 refine zEH (zW.ok a1 a2 q _ (fun v16=>J_j ?_) (0,(a1.length:Int)))
 refine wH (fun h17=>?_) (fun h17=>?_)
 ·refine zA (fun x18 h19=>?_)
  refine zA (fun x20 h21=>?_)
  refine J_g 62 [] [(6,iv v16),(7,bv (x20==0))] [] (xW 4 [(38,bv (decide (v16< (a1.length:Int))))] [] h17 (zBS 8 4 39 true (tL (kk:=.i64) 31 138 2 (File.enc false) (.tmp 41) (.tmp 42) h19) (zBS 11 4 39 true (zN0 («as»:=[.ag (File.enc false x18),sv a2]) (caps:=[]) 40 [(.tmp 44),(.tmp 45)] [138,9] (vM.ok x18 a2) h21) zB))) ?_
  exact zOo rfl
 ·refine J_g 62 [] [(6,iv v16),(7,bv false)] [] (xW 4 [(38,bv (decide (v16< (a1.length:Int))))] [] h17 zB) ?_
  exact zOo rfl
noncomputable def c138:Code:=(Tryz.f138.body).getD .skip
theorem wS.ok (a1:zC) (a2:ByteArray):Ok Tryz.prog 138 [.ag (zC.enc false a1),sv a2] [] ((wS a1 a2).map fun r=>(.tu [iv r.1,bv r.2],[])):=by
 refine zG c138 Tryz.f138 0 12 (fun q=>?_)
 unfold wS
 refine J_g 2 [(0,0)] [(1,sv a2),(2,pp 0)] [(0,.box (zC.enc false a1))] zB ?_
 refine zA (fun x3 h4=>?_)
 refine J_g 6 [] [(4,iv x3.1),(5,bv x3.2)] [] (zF 3 (uJ («as»:=[sl 2 (File.enc false) a1.Files,sv a2,.fn 211 []]) [(.tmp 7),(.tmp 8),(.func 211)] [31,9,238] false [] [] (.cons (.same rfl) (.cons (.same rfl) (.cons (.fn (.nil)) (.nil)))) (zJ.ok a1.Files a2) h4 (.tu (.cons (.same rfl rfl) (.cons (.same rfl rfl) (.nil))))) zB) ?_
 exact zOo rfl
noncomputable def zS4:Code:=(Tryz.f104.body).getD .skip
theorem yT.ok (a1:zC) (a2:ByteArray):Ok Tryz.prog 104 [.ag (zC.enc false a1),sv a2] [] ((yT a1 a2).map fun r=>(.tu [sl 1 eU8 r.1,bv r.2],[])):=by
 refine zG zS4 Tryz.f104 0 22 (fun q=>?_)
 unfold yT
 refine J_g 2 [(0,0)] [(1,sv a2),(2,pp 0)] [(0,.box (zC.enc false a1))] zB ?_
 refine zA (fun x3 h4=>?_)
 refine J_g 6 [] [(2,pp 0),(6,iv x3.1),(7,bv x3.2)] [(0,.box (zC.enc false a1))] (zF 2 (xU [(.tmp 9),(.tmp 10)] [33,9] (wS.ok a1 a2) h4) zB) ?_
 refine J_d 28 [] [7,15] [(15,bv (!x3.2))] [] [] zB ?_
 refine zD 15 (fun h5=>?_) (fun h5=>?_)
 ·refine J_g 116 [] [(4,nv),(5,bv false)] [] zB ?_
  exact zCT (ds:=[nv,bv false]) (ds':=[sl 1 eU8 ([]:List Int),bv false]) (.cons (.cell (.nilsl false 1 (.nil))) (.cons (.cell (.keep rfl (.nil))) (.nil) (by decide)) (by decide)) rfl
 ·refine zA (fun x6 h7=>?_)
  refine J_g 30 [] [(4,sl 1 eU8 x6.Data),(5,bv true)] [] (zF 3 (tL (kk:=.i64) 31 138 2 (File.enc false) (.tmp 17) (.tmp 18) h7) zB) ?_
  exact zOo rfl
noncomputable def c64:Code:=(Tryz.f64.body).getD .skip
theorem uZ.ok (a1:zC):Ok Tryz.prog 64 [pp 0] [.box (zC.enc true a1)] ((uZ a1).map fun r=>(bv r,[.box (zC.enc true a1)])):=by
 refine zG c64 Tryz.f64 1 13 (fun q=>?_)
 unfold uZ
 refine jK 0 (cs':=[rr 1 a1.Files,iv a1.Budget,iv a1.Writes,iv a1.Stop,bv a1.Down]) (es:=[(1,rE 2 (File.enc true) a1.Files)]) rfl (.cons (.own 1) (.cons (.same rfl rfl) (.cons (.same rfl rfl) (.cons (.same rfl rfl) (.cons (.same rfl rfl) (.nil)))))) rfl (by kernel_rfl) (by kernel_rfl) ?_
 refine zB4 [(0,pp 0)] [(0,.box [rr 1 a1.Files,iv a1.Budget,iv a1.Writes,iv a1.Stop,bv a1.Down]),(1,rE 2 (File.enc true) a1.Files)] (by kernel_rfl) ?_
 refine J_d 2 [] [] [] [] [] zB ?_
 refine zA (fun x2 h3=>?_)
 refine J_g 6 [] [(4,bv x2.2)] [(0,.box [rr 1 a1.Files,iv a1.Budget,iv a1.Writes,iv a1.Stop,bv a1.Down]),(1,rE 2 (File.enc true) a1.Files)] (zF 3 (uJ («as»:=[.ag [rr 1 a1.Files,iv a1.Budget,iv a1.Writes,iv a1.Stop,bv a1.Down],sv (bs [112,108,97,110])]) [(.tmp 8),(.const (.string (bs [112,108,97,110])))] [72,9] true [(1,rE 2 (File.enc true) a1.Files)] [] (.cons (.ag (.cons (zFe (.head _) (File.ro true) rfl) (.cons (.same rfl) (.cons (.same rfl) (.cons (.same rfl) (.cons (.same rfl) (.nil))))))) (.cons (.same rfl) (.nil))) (zQp (fun r=>(.tu [.ln r.1.length,bv r.2],[])) (yT.ok a1 (bs [112,108,97,110])) (fun r=>.tu (.cons zQh (.cons .same (.nil))))) h3 (.tu (.cons (.same rfl rfl) (.cons (.same rfl rfl) (.nil)))) (hbor:=fun _=>⟨fhN,(zIW (flatK trivial (flatK yJ zEU)))⟩)) zB) ?_
 refine J_g 14 [] [(2,bv x2.2)] [(0,.box [rr 1 a1.Files,iv a1.Budget,iv a1.Writes,iv a1.Stop,bv a1.Down]),(1,rE 2 (File.enc true) a1.Files)] zB ?_
 refine jM 0 (cs':=[so 2 (File.enc true) a1.Files,iv a1.Budget,iv a1.Writes,iv a1.Stop,bv a1.Down]) (ts:=[1]) rfl (.move (.head _) (List.length_map _) (by decide) (.keep rfl (.keep rfl (.keep rfl (.keep rfl (.nil)))))) ?_
 refine zB4 [(2,bv x2.2)] [(0,.box (zC.enc true a1))] (by kernel_rfl) ?_
 exact zN rfl
noncomputable def zSt:Code:=(Tryz.f277.body).getD .skip
theorem xX.ok (a1:ByteArray) (a2:ByteArray):Ok Tryz.prog 277 [sv a1,sv a2] [] ((xX a1 a2).map fun r=>(bv r,[])):=by
 refine zG zSt Tryz.f277 0 18 (fun q=>?_)
 unfold xX
 refine J_d 2 [] [] [] [] [] zB ?_
 refine wH (fun h3=>?_) (fun h3=>?_)
 ·refine zA (fun x4 h5=>?_)
  refine J_g 6 [] [(4,bv (seq x4 a2))] [] (xW 5 [(9,bv (decide ((a1.size:Int)≥(a2.size:Int))))] [] h3 (zBS 9 5 10 true (zPT 9 (.tmp 11) none (some (.tmp 13)) h5) zB)) ?_
  exact zN rfl
 ·refine J_g 6 [] [(4,bv false)] [] (xW 5 [(9,bv (decide ((a1.size:Int)≥(a2.size:Int))))] [] h3 zB) ?_
  exact zN rfl
noncomputable def c208:Code:=(Tryz.f208.body).getD .skip
theorem strings_HasPrefix.ok (a1:ByteArray) (a2:ByteArray):Ok Tryz.prog 208 [sv a1,sv a2] [] ((strings_HasPrefix a1 a2).map fun r=>(bv r,[])):=by
 refine zG c208 Tryz.f208 0 8 (fun q=>?_)
 unfold strings_HasPrefix
 refine J_d 2 [] [] [] [] [] zB ?_
 refine zA (fun x3 h4=>?_)
 refine J_g 6 [] [(4,bv x3)] [] (zF 2 (xU [(.tmp 5),(.tmp 6)] [9,9] (xX.ok a1 a2) h4) zB) ?_
 exact zN rfl
noncomputable def zPM:Code:=(Tryz.f136.body).getD .skip
theorem jJ.ok (a1:zC) (a2:ByteArray) (q:Wd) (kn:(List ByteArray)→Option (D×List Ent)) (hk:∀v:(List ByteArray),J (q.g Tryz.prog 136 0 27) zPM (atI zPM 15) (St.mk' [(5,rr 1 v)] [(1,rE 1 eStr v)]) (some v) kn):
  ∀s12:((List ByteArray)×Int),J (q.g Tryz.prog 136 0 27) zPM (atI zPM 116) (St.mk' [(1,sv a2),(5,rr 1 s12.1),(10,sl 2 (File.enc false) a1.Files),(11,iv (a1.Files.length:Int)),(12,iv s12.2)] [(1,rE 1 eStr s12.1)]) (jJ a1 a2 s12) kn:=by
 refine kQ (fun g ih s12=>?_)
 unfold zD9
 refine J_d 232 [] [13] [(13,bv (decide (s12.2< (a1.Files.length:Int))))] [] [] zB ?_
 refine zD 13 (fun h13=>?_) (fun h13=>?_)
 ·refine zA (fun x14 h15=>?_)
  refine J_d 3736 [(2,2)] [7,13] [(7,pp 2)] [2] [(2,.box (File.enc false x14))] (zF 0 (tL (kk:=.i64) 31 138 2 (File.enc false) (.tmp 10) (.tmp 12) h15) zB) ?_
  refine zA (fun x16 h17=>?_)
  refine J_d 7474 [] [19] [(19,bv x16)] [] [] (zF 3 (xU [(.tmp 17),(.tmp 18)] [9,9] (strings_HasPrefix.ok x14.Path a2) h17) zB) ?_
  refine xS (aft zPM 1868) (fun v21:(List ByteArray)=>St.mk' [(1,sv a2),(5,rr 4 v21),(10,sl 2 (File.enc false) a1.Files),(11,iv (a1.Files.length:Int)),(12,iv s12.2)] [(4,rE 1 eStr v21)]) (fun v21=>?_) (fun jv21=>?_)
  ·refine J_d 935 [] [12] [(12,iv (w64 (s12.2+1)))] [] [] zB ?_
   refine zBR 4 1 (Nat.le_of_ble_eq_true rfl) (Nat.le_of_ble_eq_true rfl) ?_
   exact J_q (J_b (ih (v21,w64 (s12.2+1)))) rfl
  ·refine zD 19 (fun h18=>?_) (fun h18=>?_)
   ·refine zA (fun x19 h20=>?_)
    refine J_d 14950 [] [5,7,19] [(5,rr 4 x19)] [1,2,4] [(4,rE 1 eStr x19)] (zF 3 (zE6 86 9 1 3 eStr [x14.Path] [0] [(.tmp 22)] [sv x14.Path]) (zF 4 (zHJ 86 86 9 9 1 16 4 1 3 eStr (.tmp 20) (.tmp 23) h20) zB)) ?_
    exact xA (J_j (jv21 x19)) rfl
   ·refine zBR 1 4 (Nat.le_of_ble_eq_true rfl) (Nat.le_of_ble_eq_true rfl) ?_
    exact xA (J_j (jv21 s12.1)) rfl
 ·exact xA (hk s12.1) rfl
theorem kR.ok (a1:zC) (a2:ByteArray):Ok Tryz.prog 136 [.ag (zC.enc false a1),sv a2] [] ((kR a1 a2).map fun r=>(so 1 eStr r,[])):=by
 refine zG zPM Tryz.f136 0 27 (fun q=>?_)
 unfold kR
 refine J_g 2 [(0,0)] [(1,sv a2),(2,pp 0)] [(0,.box (zC.enc false a1))] zB ?_
 refine J_g 6 [] [(1,sv a2),(2,pp 0),(5,rr 1 ([]:List ByteArray))] [(0,.box (zC.enc false a1)),(1,rE 1 eStr ([]:List ByteArray))] (zF 0 (zE6 86 9 1 1 eStr ([]:List ByteArray) [] [] []) zB) ?_
 refine J_d 28 [] [2,10,11,12] [(10,sl 2 (File.enc false) a1.Files),(11,iv (a1.Files.length:Int)),(12,iv 0)] [0] [] zB ?_
 refine zEH (jJ.ok a1 a2 q _ (fun v22=>J_j ?_) (([]:List ByteArray),0))
 refine J_g 30 [] [(4,rr 1 v22)] [(1,rE 1 eStr v22)] zB ?_
 exact zCT (ds:=[rr 1 v22]) (ds':=[so 1 eStr v22]) (.cons (.cell (.move (.head _) (List.length_map _) (by decide) (.nil))) (.nil) (by decide)) rfl
noncomputable def zPj:Code:=(Tryz.f176.body).getD .skip
theorem zDd.ok (a1:ByteArray) (q:Wd) (kn:Int→Option (D×List Ent)) (hk:∀v:Int,J (q.g Tryz.prog 176 0 40) zPj (atI zPj 31) (St.mk' [(5,iv v)] []) (some v) kn):
  ∀s16:(Int×Int),J (q.g Tryz.prog 176 0 40) zPj (atI zPj 244) (St.mk' [(0,sv a1),(5,iv s16.1),(16,iv (a1.size:Int)),(17,iv s16.2)] []) (zDd a1 s16) (Fl.go (fun r:Int=>some (iv r,[])) kn):=by
 refine kQ (fun g ih s16=>?_)
 unfold zCK
 refine J_d 488 [] [18] [(18,bv (decide (s16.2< (a1.size:Int))))] [] [] zB ?_
 refine zD 18 (fun h17=>?_) (fun h17=>?_)
 ·refine J_d 7832 [] [6,18] [(6,iv s16.2)] [] [] zB ?_
  refine zA (fun x18 h19=>?_)
  refine xS (atI zPj 31333) (fun v23:Bool=>St.mk' [(0,sv a1),(5,iv s16.1),(6,iv s16.2),(16,iv (a1.size:Int)),(17,iv s16.2),(29,bv v23)] []) (fun v23=>?_) (fun jv23=>?_)
  ·refine zD 29 (fun h24=>?_) (fun h24=>?_)
   ·refine J_g 125332 [] [(4,iv (-1))] [] zB ?_
    exact zN rfl
   ·refine zA (fun x25 h26=>?_)
    refine J_g 15667 [] [(0,sv a1),(5,iv (w64 ((w64 (10*s16.1))+(w64 (IntKind.u8.wrap (x25-48)))))),(16,iv (a1.size:Int)),(17,iv s16.2)] [] (zF 4 (zJZ (kk:=.i64) 9 (.tmp 32) (.tmp 33) h26) zB) ?_
    refine J_d 1959 [] [17] [(17,iv (w64 (s16.2+1)))] [] [] zB ?_
    exact J_q (J_b (ih (w64 ((w64 (10*s16.1))+(w64 (IntKind.u8.wrap (x25-48)))),w64 (s16.2+1)))) rfl
  ·refine wH (fun h20=>?_) (fun h20=>?_)
   ·refine J_d 31332 [] [29] [(29,bv true)] [] [] (zF 2 (zJZ (kk:=.i64) 9 (.tmp 20) (.tmp 21) h19) (xW 4 [(23,bv (decide (x18<48)))] [] h20 zB)) ?_
    exact xA (J_j (jv23 true)) rfl
   ·refine zA (fun x21 h22=>?_)
    refine J_d 31332 [] [29] [(29,bv (decide (x21>57)))] [] [] (zF 2 (zJZ (kk:=.i64) 9 (.tmp 20) (.tmp 21) h19) (xW 4 [(23,bv (decide (x18<48)))] [] h20 (zBS 7 4 24 false (zJZ (kk:=.i64) 9 (.tmp 25) (.tmp 26) h22) zB))) ?_
    exact xA (J_j (jv23 (decide (x21>57)))) rfl
 ·exact xA (hk s16.1) rfl
theorem zBq.ok (a1:ByteArray) (a2:Int):Ok Tryz.prog 176 [sv a1,iv a2] [] ((zBq a1 a2).map fun r=>(iv r,[])):=by
 refine zG zPj Tryz.f176 0 40 (fun q=>?_)
 unfold zBq
 refine J_d 2 [] [] [] [] [] zB ?_
 refine xS (atI zPj 13) (fun v4:Bool=>St.mk' [(0,sv a1),(14,bv v4)] []) (fun v4=>?_) (fun jv4=>?_)
 ·refine zD 14 (fun h5=>?_) (fun h5=>?_)
  ·refine J_g 52 [] [(4,iv (-1))] [] zB ?_
   exact zN rfl
  ·refine J_g 14 [] [(0,sv a1),(5,iv 0)] [] zB ?_
   refine J_d 60 [] [16,17] [(16,iv (a1.size:Int)),(17,iv 0)] [] [] zB ?_
   refine uR (K0:=(fun r:Int=>some (iv r,[]))) (fun _=>rfl) (zDd.ok a1 q _ (fun v27=>J_j ?_) (0,0))
   refine J_g 62 [] [(4,iv v27)] [] zB ?_
   exact zN rfl
 ·refine wH (fun h3=>?_) (fun h3=>?_)
  ·refine J_g 12 [] [(0,sv a1),(14,bv true)] [] (xW 2 [(8,bv (seq a1 (bs [])))] [] h3 zB) ?_
   exact xA (J_j (jv4 true)) rfl
  ·refine J_g 12 [] [(0,sv a1),(14,bv (decide ((a1.size:Int)>a2)))] [] (xW 2 [(8,bv (seq a1 (bs [])))] [] h3 zB) ?_
   exact xA (J_j (jv4 (decide ((a1.size:Int)>a2)))) rfl
noncomputable def zPG:Code:=(Tryz.f128.body).getD .skip
theorem zBo.ok (x2:(List ByteArray)) (q:Wd) (kn:(List Int)→Option (D×List Ent)) (hk:∀v:(List Int),J (q.g Tryz.prog 128 0 31) zPG (atI zPG 15) (St.mk' [(3,rr 1 v)] [(1,rE 1 zS v)]) (some v) kn):
  ∀s17:((List Int)×Int),J (q.g Tryz.prog 128 0 31) zPG (atI zPG 116) (St.mk' [(3,rr 1 s17.1),(9,rr 2 x2),(10,iv (x2.length:Int)),(11,iv s17.2)] [(1,rE 1 zS s17.1),(2,rE 1 eStr x2)]) (zBo x2 s17) kn:=by
 refine kQ (fun g ih s17=>?_)
 unfold zAC
 refine J_d 232 [] [12] [(12,bv (decide (s17.2< (x2.length:Int))))] [] [] zB ?_
 refine zD 12 (fun h18=>?_) (fun h18=>?_)
 ·refine zA (fun x19 h20=>?_)
  refine J_d 3736 [] [5,12] [(5,sv x19)] [] [] (zF 0 (tY (kk:=.i64) 86 9 1 2 eStr (.tmp 9) (.tmp 11) h20) (zF 1 (zDR (d:=sv x19) 9 1 2 0 eStr (.tmp 13) h20 (by kernel_rfl)) zB)) ?_
  refine zA (fun x21 h22=>?_)
  refine zA (fun x23 h24=>?_)
  refine J_d 7474 [] [6] [(6,iv x23)] [] [] (zF 1 (zPT 9 (.tmp 15) (some (.const (.int .i64 4))) none h22) (zF 2 (xU [(.tmp 16),(.const (.int .i64 6))] [9,3] (zBq.ok x21 6) h24) zB)) ?_
  refine xS (atI zPG 14951) (fun v26:Bool=>St.mk' [(3,rr 1 s17.1),(6,iv x23),(9,rr 2 x2),(10,iv (x2.length:Int)),(11,iv s17.2),(24,bv v26)] [(1,rE 1 zS s17.1),(2,rE 1 eStr x2)]) (fun v26=>?_) (fun jv26=>?_)
  ·refine xS (aft zPG 1868) (fun v30:(List Int)=>St.mk' [(3,rr 4 v30),(9,rr 2 x2),(10,iv (x2.length:Int)),(11,iv s17.2)] [(2,rE 1 eStr x2),(4,rE 1 zS v30)]) (fun v30=>?_) (fun jv30=>?_)
   ·refine J_d 935 [] [11] [(11,iv (w64 (s17.2+1)))] [] [] zB ?_
    refine zBR 4 1 (Nat.le_of_ble_eq_true rfl) (Nat.le_of_ble_eq_true rfl) ?_
    exact J_q (J_b (ih (v30,w64 (s17.2+1)))) rfl
   ·refine zD 24 (fun h27=>?_) (fun h27=>?_)
    ·refine zA (fun x28 h29=>?_)
     refine J_d 29902 [] [3,6,24] [(3,rr 4 x28)] [1,4] [(4,rE 1 zS x28)] (zF 2 (zE6 39 2 1 3 zS [x23] [0] [(.tmp 26)] [iv x23]) (zF 3 (zHJ 39 39 2 2 1 8 4 1 3 zS (.tmp 25) (.tmp 27) h29) zB)) ?_
     exact xA (J_j (jv30 x28)) rfl
    ·refine zBR 1 4 (Nat.le_of_ble_eq_true rfl) (Nat.le_of_ble_eq_true rfl) ?_
     exact xA (J_j (jv30 s17.1)) rfl
  ·refine wH (fun h25=>?_) (fun h25=>?_)
   ·refine J_d 14950 [] [5,24] [(24,bv ((x19.size:Int)==10))] [] [] (xW 2 [(19,bv (decide (x23≥1)))] [] h25 zB) ?_
    exact xA (J_j (jv26 ((x19.size:Int)==10))) rfl
   ·refine J_d 14950 [] [5,24] [(24,bv false)] [] [] (xW 2 [(19,bv (decide (x23≥1)))] [] h25 zB) ?_
    exact xA (J_j (jv26 false)) rfl
 ·exact xA (hk s17.1) rfl
theorem zAL.ok (a1:zC):Ok Tryz.prog 128 [.ag (zC.enc false a1)] [] ((zAL a1).map fun r=>(so 1 zS r,[])):=by
 refine zG zPG Tryz.f128 0 31 (fun q=>?_)
 unfold zAL
 refine J_g 2 [(0,0)] [(1,pp 0)] [(0,.box (zC.enc false a1))] zB ?_
 refine J_d 6 [] [3] [(3,rr 1 ([]:List Int))] [1] [(1,rE 1 zS ([]:List Int))] (zF 0 (zE6 39 2 1 1 zS ([]:List Int) [] [] []) zB) ?_
 refine zA (fun x2 h3=>?_)
 refine J_d 28 [] [1,9,10,11] [(9,rr 2 x2),(10,iv (x2.length:Int)),(11,iv 0)] [0,2] [(2,rE 1 eStr x2)] (zF 1 (uJ («as»:=[.ag (zC.enc false a1),sv (bs [103,101,110,47])]) [(.tmp 8),(.const (.string (bs [103,101,110,47])))] [33,9] false [] [] (.cons (.same rfl) (.cons (.same rfl) (.nil))) (kR.ok a1 (bs [103,101,110,47])) h3 (.own 2)) zB) ?_
 refine zEH (zBo.ok x2 q _ (fun v31=>J_j ?_) (([]:List Int),0))
 refine J_g 30 [] [(2,rr 1 v31)] [(1,rE 1 zS v31)] zB ?_
 exact zCT (ds:=[rr 1 v31]) (ds':=[so 1 zS v31]) (.cons (.cell (.move (.head _) (List.length_map _) (by decide) (.nil))) (.nil) (by decide)) rfl
noncomputable def zQS:Code:=(Tryz.f204.body).getD .skip
theorem uP.ok (a1:(List Int)) (a2:Int) (q:Wd) (kn:Unit→Option (D×List Ent)) (hk:∀v:Unit,J (q.g Tryz.prog 204 0 19) zQS (atI zQS 7) (St.mk' [] []) (some v) kn):
  ∀s7:Int,J (q.g Tryz.prog 204 0 19) zQS (atI zQS 52) (St.mk' [(0,sl 1 zS a1),(1,iv a2),(7,iv (a1.length:Int)),(8,iv s7)] []) (uP a1 a2 s7) (Fl.go (fun r:Int=>some (iv r,[])) kn):=by
 refine kQ (fun g ih s7=>?_)
 unfold vZ
 refine J_d 104 [] [9] [(9,bv (decide (s7< (a1.length:Int))))] [] [] zB ?_
 refine zD 9 (fun h8=>?_) (fun h8=>?_)
 ·refine J_d 1688 [] [5,9] [(5,iv s7)] [] [] zB ?_
  refine zA (fun x9 h10=>?_)
  refine J_d 3378 [] [16] [(16,bv (a2==x9))] [] [] (zF 3 (tL (kk:=.i64) 39 2 1 zS (.tmp 12) (.tmp 13) h10) zB) ?_
  refine zD 16 (fun h11=>?_) (fun h11=>?_)
  ·refine J_g 13516 [] [(4,iv s7)] [] zB ?_
   exact zN rfl
  ·refine J_d 423 [] [5,8,16] [(8,iv (w64 (s7+1)))] [] [] zB ?_
   exact J_q (J_b (ih (w64 (s7+1)))) rfl
 ·exact xA (hk ()) rfl
theorem uW.ok (a1:(List Int)) (a2:Int):Ok Tryz.prog 204 [sl 1 zS a1,iv a2] [] ((uW a1 a2).map fun r=>(iv r,[])):=by
 refine zG zQS Tryz.f204 0 19 (fun q=>?_)
 unfold uW
 refine J_g 2 [] [(0,sl 1 zS a1),(1,iv a2)] [] zB ?_
 refine J_d 12 [] [7,8] [(7,iv (a1.length:Int)),(8,iv 0)] [] [] zB ?_
 refine uR (K0:=(fun r:Int=>some (iv r,[]))) (fun _=>rfl) (uP.ok a1 a2 q _ (fun v12=>J_j ?_) 0)
 refine J_g 14 [] [(4,iv (-1))] [] zB ?_
 exact zN rfl
noncomputable def c131:Code:=(Tryz.f131.body).getD .skip
theorem xV.ok (a1:(List Int)) (a2:Int):Ok Tryz.prog 131 [sl 1 zS a1,iv a2] [] ((xV a1 a2).map fun r=>(bv r,[])):=by
 refine zG c131 Tryz.f131 0 9 (fun q=>?_)
 unfold xV
 refine J_d 2 [] [] [] [] [] zB ?_
 refine zA (fun x3 h4=>?_)
 refine J_g 6 [] [(4,bv (decide (x3≥0)))] [] (zF 2 (xU [(.tmp 5),(.tmp 6)] [39,2] (uW.ok a1 a2) h4) zB) ?_
 exact zN rfl
theorem uS.ok (a1 a2:Int):Ok Tryz.prog 156 [iv a1,iv a2] [] ((uS a1 a2).map fun r=>(sv r,[])):=by
 unfold uS
 split
 ·rename_i h
  obtain ⟨rfl,h0,h1⟩:=h
  exact zPF (vs:=[.int .i64 a1,.int .i64 10]) (fun w hG=>Tryz.strconv_FormatInt_10 a1 h0 h1 w (zNZ (g:=1) hG (by kernel_rfl) (by kernel_rfl)))
 ·exact fun _ h=>by cases h
noncomputable def c84:Code:=(Tryz.f84.body).getD .skip
theorem zAj.ok (a1:Int):Ok Tryz.prog 84 [iv a1] [] ((zAj a1).map fun r=>(sv r,[])):=by
 refine zG c84 Tryz.f84 0 5 (fun q=>?_)
 unfold zAj
 refine J_g 2 [] [(0,iv a1)] [] zB ?_
 refine zA (fun x2 h3=>?_)
 refine J_g 6 [] [(2,sv x2)] [] (zF 1 (xU [(.tmp 3),(.const (.int .i64 10))] [2,3] (uS.ok a1 10) h3) zB) ?_
 exact zN rfl
theorem strings_Repeat.ok (a1:ByteArray) (a2:Int):Ok Tryz.prog 207 [sv a1,iv a2] [] ((strings_Repeat a1 a2).map fun r=>(sv r,[])):=by
 unfold strings_Repeat
 split
 ·rename_i h
  obtain ⟨h0,h1,h2⟩:=h
  obtain ⟨n,rfl⟩:=Int.eq_ofNat_of_zero_le h0
  exact zOi (vs:=[.string a1,.int .i64 n]) (fun w=>Tryz.strings_Repeat a1 n w (by omega) h2)
 ·exact fun _ h=>by cases h
noncomputable def zS9:Code:=(Tryz.f135.body).getD .skip
theorem zCk.ok (a1:Int):Ok Tryz.prog 135 [iv a1] [] ((zCk a1).map fun r=>(sv r,[])):=by
 refine zG zS9 Tryz.f135 0 13 (fun q=>?_)
 unfold zCk
 refine J_g 2 [] [(0,iv a1)] [] zB ?_
 refine zA (fun x2 h3=>?_)
 refine J_g 6 [] [(3,sv x2)] [] (zF 1 (xU [(.tmp 4)] [2] (zAj.ok a1) h3) zB) ?_
 refine zA (fun x4 h5=>?_)
 refine zA (fun x6 h7=>?_)
 refine zA (fun x8 h9=>?_)
 refine J_g 14 [] [(2,sv x8)] [] (zF 3 (xU [(.const (.string (bs [48]))),(.tmp 8)] [9,3] (strings_Repeat.ok (bs [48]) (w64 (6-(x2.size:Int)))) h5) (zF 4 (zEE 9 9 (.const (.string (bs [103,101,110,47]))) (.tmp 9) h7) (zF 6 (zEE 9 9 (.tmp 10) (.tmp 11) h9) zB))) ?_
 exact zN rfl
theorem strings_Split.ok (a1 a2:ByteArray):Ok Tryz.prog 183 [sv a1,sv a2] [] ((strings_Split a1 a2).map fun r=>(so 1 eStr r,[])):=by
 unfold strings_Split
 split
 ·rename_i h
  refine zO7 (t:=9) (fun w hG=>?_)
  obtain ⟨m,hm⟩:=zMS (g:=0) hG (by kernel_rfl)
  rw [Lib.splitB_all a2 h.2 0 _ a1 rfl]
  exact Tryz.strings_Split a1 a2 m w h.1 hm h.2
 ·exact fun _ h=>by cases h
noncomputable def c105:Code:=(Tryz.f105.body).getD .skip
theorem zCa.ok (a1:ByteArray):Ok Tryz.prog 105 [sv a1] [] ((zCa a1).map fun r=>(so 1 eStr r,[])):=by
 refine zG c105 Tryz.f105 0 19 (fun q=>?_)
 unfold zCa
 refine J_g 2 [] [(0,sv a1)] [] zB ?_
 refine zA (fun x2 h3=>?_)
 refine J_g 6 [] [(3,rr 0 x2)] [(0,rE 1 eStr x2)] (zF 1 (uJ («as»:=[sv a1,sv (bs [10])]) [(.tmp 4),(.const (.string (bs [10])))] [9,9] false [] [] (.cons (.same rfl) (.cons (.same rfl) (.nil))) (strings_Split.ok a1 (bs [10])) h3 (.own 0)) zB) ?_
 refine zA (fun x4 h5=>?_)
 refine J_d 28 [] [12] [(12,bv (seq x4 (bs [])))] [] [] (zF 4 (tY (kk:=.i64) 86 9 1 0 eStr (.tmp 6) (.tmp 9) h5) (zF 5 (zDR (d:=sv x4) 9 1 0 0 eStr (.tmp 10) h5 (by kernel_rfl)) zB)) ?_
 refine xS (atI c105 15) (fun v9:(List ByteArray)=>St.mk' [(3,rr 1 v9)] [(1,rE 1 eStr v9)]) (fun v9=>?_) (fun jv9=>?_)
 ·refine J_g 30 [] [(2,rr 1 v9)] [(1,rE 1 eStr v9)] zB ?_
  exact zCT (ds:=[rr 1 v9]) (ds':=[so 1 eStr v9]) (.cons (.cell (.move (.head _) (List.length_map _) (by decide) (.nil))) (.nil) (by decide)) rfl
 ·refine zD 12 (fun h6=>?_) (fun h6=>?_)
  ·refine zA (fun x7 h8=>?_)
   refine J_g 58 [] [(3,rr 1 x7)] [(1,rE 1 eStr x7)] (zF 4 (zOg 86 9 1 0 1 eStr (.tmp 13) none (some (.tmp 16)) h8) zB) ?_
   exact xA (J_j (jv9 x7)) rfl
  ·refine zBR 0 1 (Nat.le_of_ble_eq_true rfl) (Nat.le_of_ble_eq_true rfl) ?_
   exact xA (J_j (jv9 x2)) rfl
noncomputable def zSB:Code:=(Tryz.f280.body).getD .skip
theorem tO.ok (a1:ByteArray):Ok Tryz.prog 280 [sv a1] [] ((tO a1).map fun r=>(bv r,[])):=by
 refine zG zSB Tryz.f280 0 5 (fun q=>?_)
 unfold tO
 refine J_g 2 [] [(0,sv a1)] [] zB ?_
 refine J_g 6 [] [(2,bv (seq a1 (bs [])))] [] zB ?_
 exact zN rfl
noncomputable def zNN:Code:=(Tryz.f316.body).getD .skip
theorem xR.ok (a1:(List ByteArray)) (q:Wd) (kn:Unit→Option (D×List Ent)) (hk:∀v:Unit,J (q.g Tryz.prog 316 0 19) zNN (atI zNN 7) (St.mk' [] []) (some v) kn):
  ∀s8:Int,J (q.g Tryz.prog 316 0 19) zNN (atI zNN 52) (St.mk' [(0,sl 1 eStr a1),(1,.fn 280 []),(7,iv (a1.length:Int)),(8,iv s8)] []) (xR a1 s8) (Fl.go (fun r:Int=>some (iv r,[])) kn):=by
 refine kQ (fun g ih s8=>?_)
 unfold yZ
 refine J_d 104 [] [9] [(9,bv (decide (s8< (a1.length:Int))))] [] [] zB ?_
 refine zD 9 (fun h9=>?_) (fun h9=>?_)
 ·refine J_d 1688 [] [5,9] [(5,iv s8)] [] [] zB ?_
  refine zA (fun x10 h11=>?_)
  refine zA (fun x12 h13=>?_)
  refine J_d 3378 [] [16] [(16,bv x12)] [] [] (zF 3 (tL (kk:=.i64) 86 9 1 eStr (.tmp 12) (.tmp 13) h11) (zF 5 (zN0 («as»:=[sv x10]) (caps:=[]) 11 [(.tmp 15)] [9] (tO.ok x10) h13) zB)) ?_
  refine zD 16 (fun h14=>?_) (fun h14=>?_)
  ·refine J_g 13516 [] [(4,iv s8)] [] zB ?_
   exact zN rfl
  ·refine J_d 423 [] [5,8,16] [(8,iv (w64 (s8+1)))] [] [] zB ?_
   exact J_q (J_b (ih (w64 (s8+1)))) rfl
 ·exact xA (hk ()) rfl
theorem xL.ok (a1:(List ByteArray)):Ok Tryz.prog 316 [sl 1 eStr a1,.fn 280 []] [] ((xL a1).map fun r=>(iv r,[])):=by
 refine zG zNN Tryz.f316 0 19 (fun q=>?_)
 unfold xL
 refine J_g 2 [] [(0,sl 1 eStr a1),(1,.fn 280 [])] [] zB ?_
 refine J_d 12 [] [7,8] [(7,iv (a1.length:Int)),(8,iv 0)] [] [] zB ?_
 refine uR (K0:=(fun r:Int=>some (iv r,[]))) (fun _=>rfl) (xR.ok a1 q _ (fun v15=>J_j ?_) 0)
 refine J_g 14 [] [(4,iv (-1))] [] zB ?_
 exact zN rfl
noncomputable def zPP:Code:=(Tryz.f279.body).getD .skip
theorem xO.ok (q:Wd) (kn:((List ByteArray)×Int)→Option (D×List Ent)) (hk:∀v:((List ByteArray)×Int),J (q.g Tryz.prog 279 1 42) zPP (atI zPP 31) (St.mk' [(0,rr 0 v.1),(5,iv v.2)] [(0,rE 1 eStr v.1)]) (some v) kn):
  ∀s14:((List ByteArray)×Int×Int),J (q.g Tryz.prog 279 1 42) zPP (atI zPP 244) (St.mk' [(0,rr 0 s14.1),(1,.fn 280 []),(5,iv s14.2.1),(6,iv s14.2.2)] [(0,rE 1 eStr s14.1)]) (xO s14) kn:=by
 refine kQ (fun g ih s14=>?_)
 unfold yU
 refine J_d 976 [] [19] [(19,bv (decide (s14.2.2< (s14.1.length:Int))))] [] [] zB ?_
 refine zD 19 (fun h15=>?_) (fun h15=>?_)
 ·refine zA (fun x16 h17=>?_)
  refine J_d 3912 [] [7,19] [(7,sv x16)] [] [] (zF 2 (tY (kk:=.i64) 86 9 1 0 eStr (.tmp 22) (.tmp 23) h17) (zF 3 (zDR (d:=sv x16) 9 1 0 0 eStr (.tmp 24) h17 (by kernel_rfl)) zB)) ?_
  refine zA (fun x18 h19=>?_)
  refine J_d 7826 [] [29] [(29,bv (!x18))] [] [] (zF 2 (zN0 («as»:=[sv x16]) (caps:=[]) 26 [(.tmp 27)] [9] (tO.ok x16) h19) zB) ?_
  refine xS (aft zPP 1956) (fun v23:((List ByteArray)×Int)=>St.mk' [(0,rr 0 v23.1),(1,.fn 280 []),(5,iv v23.2),(6,iv s14.2.2)] [(0,rE 1 eStr v23.1)]) (fun v23=>?_) (fun jv23=>?_)
  ·refine J_d 979 [] [6] [(6,iv (w64 (s14.2.2+1)))] [] [] zB ?_
   exact J_q (J_b (ih (v23.1,v23.2,w64 (s14.2.2+1)))) rfl
  ·refine zD 29 (fun h20=>?_) (fun h20=>?_)
   ·refine zA (fun x21 h22=>?_)
    refine J_g 31308 [] [(0,rr 0 s14.1),(1,.fn 280 []),(5,iv s14.2.1),(6,iv s14.2.2)] [(0,rE 1 eStr (s14.1.set s14.2.1.toNat x16))] (zF 3 (tY (kk:=.i64) 86 9 1 0 eStr (.tmp 30) (.tmp 31) h22) (zFR 4 (zHI (b:=x16) 9 1 0 0 eStr (sv x16) (.tmp 33) (.tmp 32) h22 rfl) zB)) ?_
    refine zFo (σ':=St.mk' [(0,rr 0 (s14.1.set s14.2.1.toNat x16)),(1,.fn 280 []),(5,iv s14.2.1),(6,iv s14.2.2)] [(0,rE 1 eStr (s14.1.set s14.2.1.toNat x16))]) (by simp only [rr,List.length_set]) ?_
    refine J_d 31309 [] [5] [(5,iv (w64 (s14.2.1+1)))] [] [] zB ?_
    exact xA (J_j (jv23 (s14.1.set s14.2.1.toNat x16,w64 (s14.2.1+1)))) rfl
   ·exact xA (J_j (jv23 (s14.1,s14.2.1))) rfl
 ·exact xA (hk (s14.1,s14.2.1)) rfl
theorem yH.ok (a1:(List ByteArray)):Ok Tryz.prog 279 [rr 0 a1,.fn 280 []] [rE 1 eStr a1] ((yH a1).map fun r=>(so 1 eStr r,[])):=by
 refine zG zPP Tryz.f279 1 42 (fun q=>?_)
 unfold yH
 refine J_d 2 [] [] [] [] [] zB ?_
 refine zA (fun x2 h3=>?_)
 refine J_g 6 [] [(0,rr 0 a1),(1,.fn 280 []),(5,iv x2)] [(0,rE 1 eStr a1)] (zF 2 (uJ («as»:=[rr 0 a1,.fn 280 []]) [(.tmp 8),(.tmp 9)] [86,281] true [(0,rE 1 eStr a1)] [] (.cons (zFe (.head _) (fun _=>rfl) rfl) (.cons (.fn (.nil)) (.nil))) (xL.ok a1) h3 (.same rfl rfl) (hbor:=fun _=>⟨fhN,yJ⟩)) zB) ?_
 refine J_d 28 [] [12] [(12,bv (x2==(-1)))] [] [] zB ?_
 refine zD 12 (fun h4=>?_) (fun h4=>?_)
 ·refine J_g 116 [] [(4,rr 0 a1)] [(0,rE 1 eStr a1)] zB ?_
  exact zCT (ds:=[rr 0 a1]) (ds':=[so 1 eStr a1]) (.cons (.cell (.move (.head _) (List.length_map _) (by decide) (.nil))) (.nil) (by decide)) rfl
 ·refine J_d 60 [] [6,12] [(6,iv (w64 (x2+1)))] [] [] zB ?_
  refine zEH (xO.ok q _ (fun v24=>J_j ?_) (a1,x2,w64 (x2+1)))
  refine zA (fun x25 h26=>?_)
  refine zA (fun x27 h28=>?_)
  refine J_g 62 [] [(0,rr 0 v24.1),(5,iv v24.2)] [(0,rE 1 eStr x27)] (zF 2 (zOF 86 9 1 0 eStr (.tmp 36) (some (.tmp 37)) none h26) (zFR 3 (zQu (l:=v24.2) (a:=ByteArray.empty) 86 9 1 0 eStr (.tmp 38) h28 (.keep rfl (.nil))) zB)) ?_
  refine zFo (σ':=St.mk' [(0,rr 0 x27),(5,iv v24.2)] [(0,rE 1 eStr x27)]) (by simp only [rr,zLt h28]) ?_
  refine zA (fun x29 h30=>?_)
  refine J_g 126 [] [(4,rr 1 x29)] [(1,rE 1 eStr x29)] (zF 2 (zOg 86 9 1 0 1 eStr (.tmp 39) none (some (.tmp 40)) h30) zB) ?_
  exact zCT (ds:=[rr 1 x29]) (ds':=[so 1 eStr x29]) (.cons (.cell (.move (.head _) (List.length_map _) (by decide) (.nil))) (.nil) (by decide)) rfl
noncomputable def zSz:Code:=(Tryz.f219.body).getD .skip
theorem zCd.ok (a1:ByteArray):Ok Tryz.prog 219 [sv a1] [] ((zCd a1).map fun r=>(so 1 eStr r,[])):=by
 refine zG zSz Tryz.f219 0 6 (fun q=>?_)
 unfold zCd
 refine J_g 2 [] [(0,sv a1)] [] zB ?_
 refine zA (fun x2 h3=>?_)
 refine zA (fun x4 h5=>?_)
 refine J_g 6 [] [(2,rr 1 x4)] [(1,rE 1 eStr x4)] (zF 1 (uJ («as»:=[sv a1,sv (bs [32])]) [(.tmp 3),(.const (.string (bs [32])))] [9,9] false [] [] (.cons (.same rfl) (.cons (.same rfl) (.nil))) (strings_Split.ok a1 (bs [32])) h3 (.own 0)) (zF 2 (uJ («as»:=[rr 0 x2,.fn 280 []]) [(.tmp 4),(.func 280)] [86,281] false [(0,rE 1 eStr x2)] [0] (.cons (.rf rfl) (.cons (.fn (.nil)) (.nil))) (yH.ok x2) h5 (.own 1)) zB)) ?_
 exact zCT (ds:=[rr 1 x4]) (ds':=[so 1 eStr x4]) (.cons (.cell (.move (.head _) (List.length_map _) (by decide) (.nil))) (.nil) (by decide)) rfl
noncomputable def zPY:Code:=(Tryz.f189.body).getD .skip
theorem jR.ok (x2:(List ByteArray)) (q:Wd) (kn:(List Int)→Option (D×List Ent)) (hk:∀v:(List Int),J (q.g Tryz.prog 189 0 39) zPY (atI zPY 63) (St.mk' [(2,pp 0),(4,pp 2)] [(0,.box [iv 0,iv 0,iv 0,iv 0]),(2,rE 1 zS v)]) (some v) kn):
  ∀s15:((List Int)×Int),J (q.g Tryz.prog 189 0 39) zPY (atI zPY 500) (St.mk' [(2,pp 0),(4,pp 2),(14,rr 1 x2),(15,iv (x2.length:Int)),(16,iv s15.2)] [(0,.box [iv 0,iv 0,iv 0,iv 0]),(1,rE 1 eStr x2),(2,rE 1 zS s15.1)]) (jR x2 s15) (Fl.go (fun r:zQ=>some (.ag (zQ.enc r),[])) kn):=by
 refine kQ (fun g ih s15=>?_)
 unfold tQ
 refine J_d 1000 [] [17] [(17,bv (decide (s15.2< (x2.length:Int))))] [] [] zB ?_
 refine zD 17 (fun h16=>?_) (fun h16=>?_)
 ·refine zA (fun x17 h18=>?_)
  refine J_d 16024 [] [5,6,17] [(5,iv s15.2),(6,sv x17)] [] [] (zF 1 (tY (kk:=.i64) 86 9 1 1 eStr (.tmp 14) (.tmp 16) h18) (zF 2 (zDR (d:=sv x17) 9 1 1 0 eStr (.tmp 19) h18 (by kernel_rfl)) zB)) ?_
  refine zA (fun x19 h20=>?_)
  refine zA (fun x21 h22=>?_)
  refine J_d 32050 [] [6] [] [2] [(2,rE 1 zS (s15.1.set s15.2.toNat x19))] (zF 2 (xU [(.tmp 22),(.const (.int .i64 3))] [9,3] (zBq.ok x17 3) h20) (zF 3 (zNg (kk:=.i64) 253 2 1 2 zS (.tmp 4) (.tmp 21) 3 h22) (zFR 4 (zHI (b:=x19) 2 1 2 0 zS (iv x19) (.tmp 24) (.tmp 23) (zFQ h22) rfl) zB))) ?_
  refine zA (fun x23 h24=>?_)
  refine J_d 64102 [] [5,28] [(28,bv (decide (x23<0)))] [] [] (zF 1 (zNg (kk:=.i64) 253 2 1 2 zS (.tmp 4) (.tmp 25) 3 h24) (zF 2 (zDR (d:=iv x23) 2 1 2 0 zS (.tmp 26) (zFQ h24) (by kernel_rfl)) zB)) ?_
  refine zD 28 (fun h25=>?_) (fun h25=>?_)
  ·refine J_g 256412 [] [(2,pp 0)] [(0,.box [iv 5,iv 0,iv 0,iv 0])] zB ?_
   exact zN rfl
  ·refine J_d 4007 [] [16,28] [(16,iv (w64 (s15.2+1)))] [] [] zB ?_
   exact J_q (J_b (ih (s15.1.set s15.2.toNat x19,w64 (s15.2+1)))) rfl
 ·exact xA (hk s15.1) rfl
theorem uV.ok (a1:ByteArray):Ok Tryz.prog 189 [sv a1] [] ((uV a1).map fun r=>(.ag (zQ.enc r),[])):=by
 refine zG zPY Tryz.f189 0 39 (fun q=>?_)
 unfold uV
 refine J_g 2 [(0,0)] [(0,sv a1),(2,pp 0)] [(0,.box [iv 0,iv 0,iv 0,iv 0])] zB ?_
 refine zA (fun x2 h3=>?_)
 refine J_g 6 [] [(2,pp 0),(3,rr 1 x2)] [(0,.box [iv 0,iv 0,iv 0,iv 0]),(1,rE 1 eStr x2)] (zF 1 (uJ («as»:=[sv a1,sv (bs [46])]) [(.tmp 7),(.const (.string (bs [46])))] [9,9] false [] [] (.cons (.same rfl) (.cons (.same rfl) (.nil))) (strings_Split.ok a1 (bs [46])) h3 (.own 1)) zB) ?_
 refine J_g 14 [(1,2)] [(2,pp 0),(3,rr 1 x2),(4,pp 2)] [(0,.box [iv 0,iv 0,iv 0,iv 0]),(1,rE 1 eStr x2),(2,.box [iv 0,iv 0,iv 0])] (zF 0 (zNV 253 [.int .i64 0,.int .i64 0,.int .i64 0]) zB) ?_
 refine zB4 [(2,pp 0),(3,rr 1 x2),(4,pp 2)] [(2,.box [iv 0,iv 0,iv 0]),(0,.box [iv 0,iv 0,iv 0,iv 0]),(1,rE 1 eStr x2)] (by kernel_rfl) ?_
 refine zO0 2 (z:=1) (xs:=([0,0,0]:(List Int)).map zS) (by kernel_rfl) (by kernel_rfl) (by kernel_rfl) (by kernel_rfl) rfl ?_
 refine zB4 [(2,pp 0),(3,rr 1 x2),(4,pp 2)] [(0,.box [iv 0,iv 0,iv 0,iv 0]),(1,rE 1 eStr x2),(2,rE 1 zS ([0,0,0]:(List Int)))] (by kernel_rfl) ?_
 refine J_d 60 [] [12] [(12,bv (decide ((x2.length:Int)>3)))] [] [] zB ?_
 refine zD 12 (fun h4=>?_) (fun h4=>?_)
 ·refine J_g 244 [] [(2,pp 0)] [(0,.box [iv 5,iv 0,iv 0,iv 0])] zB ?_
  exact zN rfl
 ·refine J_d 124 [] [3,12,14,15,16] [(14,rr 1 x2),(15,iv (x2.length:Int)),(16,iv 0)] [] [] zB ?_
  refine uR (K0:=(fun r:zQ=>some (.ag (zQ.enc r),[]))) (fun _=>rfl) (jR.ok x2 q _ (fun v26=>J_j ?_) (([0,0,0]:(List Int)),0))
  refine zA (fun x27 h28=>?_)
  refine zA (fun x29 h30=>?_)
  refine zA (fun x31 h32=>?_)
  refine J_g 126 [] [(2,pp 0)] [(0,.box [iv 0,iv x27,iv x29,iv x31])] (zF 0 (zNg (kk:=.i64) 253 2 1 2 zS (.tmp 4) (.const (.int .i64 0)) 3 h28) (zF 1 (zDR (d:=iv x27) 2 1 2 0 zS (.tmp 31) (zFQ h28) (by kernel_rfl)) (zF 2 (zNg (kk:=.i64) 253 2 1 2 zS (.tmp 4) (.const (.int .i64 1)) 3 h30) (zF 3 (zDR (d:=iv x29) 2 1 2 0 zS (.tmp 33) (zFQ h30) (by kernel_rfl)) (zF 4 (zNg (kk:=.i64) 253 2 1 2 zS (.tmp 4) (.const (.int .i64 2)) 3 h32) (zF 5 (zDR (d:=iv x31) 2 1 2 0 zS (.tmp 35) (zFQ h32) (by kernel_rfl)) zB)))))) ?_
  exact zN rfl
noncomputable def c218:Code:=(Tryz.f218.body).getD .skip
theorem zBz.ok (a1:(List Pack)) (a2:(List ByteArray)):Ok Tryz.prog 218 [sl 8 (Pack.enc false) a1,sl 1 eStr a2] [] ((zBz a1 a2).map fun r=>(iv r,[])):=by
 refine zG c218 Tryz.f218 0 23 (fun q=>?_)
 unfold zBz
 refine J_g 2 [] [(0,sl 8 (Pack.enc false) a1),(1,sl 1 eStr a2)] [] zB ?_
 refine J_d 12 [] [8] [(8,bv ((a2.length:Int) !=2))] [] [] zB ?_
 refine zD 8 (fun h3=>?_) (fun h3=>?_)
 ·refine J_g 52 [] [(4,iv (-1))] [] zB ?_
  exact zN rfl
 ·refine zA (fun x4 h5=>?_)
  refine zA (fun x6 h7=>?_)
  refine J_g 14 [(4,0)] [(0,sl 8 (Pack.enc false) a1),(1,sl 1 eStr a2),(5,pp 0)] [(0,.box (zQ.enc x6))] (zF 1 (tL (kk:=.i64) 86 9 1 eStr (.tmp 9) (.const (.int .i64 1)) h5) (zF 3 (xU [(.tmp 11)] [9] (uV.ok x4) h7) zB)) ?_
  refine J_d 60 [] [15] [(15,bv (x6.Code !=0))] [] [] zB ?_
  refine zD 15 (fun h8=>?_) (fun h8=>?_)
  ·refine J_g 244 [] [(4,iv (-1))] [] zB ?_
   exact zN rfl
  ·refine zA (fun x9 h10=>?_)
   refine zA (fun x11 h12=>?_)
   refine J_g 62 [] [(4,iv x11)] [] (zF 2 (tL (kk:=.i64) 86 9 1 eStr (.tmp 17) (.const (.int .i64 0)) h10) (zF 6 (xU [(.tmp 16),(.tmp 19),(.tmp 21)] [30,9,99] (zDe.ok a1 x9 x6.Version) h12) zB)) ?_
   exact zN rfl
theorem uQ.ok (a1:List Int):Ok Tryz.prog 133 [rr 0 a1] [rE 1 zS a1] ((uQ a1).map fun r=>(.tu [],[rE 1 zS r])):=by
 unfold uQ
 split
 ·exact zPz (enc:=Value.int .i64) (by simp [List.length_mergeSort]) (fun blk off cap w hH hb=>Tryz.slices_Sort_int blk off cap a1 w hH hb (by omega)) (fun _ p cap w=>Tryz.slices_Sort_int_none p cap w)
 ·exact fun _ h=>by cases h
noncomputable def zPQ:Code:=(Tryz.f151.body).getD .skip
theorem zB8.ok (a1:(List Pack)) (x7:(List ByteArray)) (q:Wd) (kn:(List Int)→Option (D×List Ent)) (hk:∀v:(List Int),J (q.g Tryz.prog 151 0 51) zPQ (atI zPQ 63) (St.mk' [(4,pp 0),(6,rr 1 v)] [(0,.box [iv 0,iv 0,nv]),(1,rE 1 zS v)]) (some v) kn):
  ∀s23:((List Int)×Int),J (q.g Tryz.prog 151 0 51) zPQ (atI zPQ 500) (St.mk' [(0,sl 8 (Pack.enc false) a1),(4,pp 0),(6,rr 1 s23.1),(22,rr 2 x7),(23,iv (x7.length:Int)),(24,iv s23.2)] [(0,.box [iv 0,iv 0,nv]),(1,rE 1 zS s23.1),(2,rE 1 eStr x7)]) (zB8 a1 x7 s23) (Fl.go (fun r:xI=>some (.ag [iv r.Code,iv r.At,so 1 zS r.Set],[])) kn):=by
 refine kQ (fun g ih s23=>?_)
 unfold kM
 refine J_d 1000 [] [25] [(25,bv (decide (s23.2< (x7.length:Int))))] [] [] zB ?_
 refine zD 25 (fun h24=>?_) (fun h24=>?_)
 ·refine zA (fun x25 h26=>?_)
  refine J_d 16024 [] [7,8,25] [(7,iv s23.2),(8,sv x25)] [] [] (zF 1 (tY (kk:=.i64) 86 9 1 2 eStr (.tmp 22) (.tmp 24) h26) (zF 2 (zDR (d:=sv x25) 9 1 2 0 eStr (.tmp 27) h26 (by kernel_rfl)) zB)) ?_
  refine zA (fun x27 h28=>?_)
  refine zA (fun x29 h30=>?_)
  refine J_d 32050 [] [8,9] [(9,iv x29)] [] [] (zF 2 (uJ («as»:=[sv x25]) [(.tmp 30)] [9] false [] [] (.cons (.same rfl) (.nil)) (zCd.ok x25) h28 (.own 3)) (zF 3 (uJ («as»:=[sl 8 (Pack.enc false) a1,rr 3 x27]) [(.tmp 29),(.tmp 31)] [30,86] true [(3,rE 1 eStr x27)] [] (.cons (.same rfl) (.cons (zFe (.head _) (fun _=>rfl) rfl) (.nil))) (zBz.ok a1 x27) h30 (.same rfl rfl) (hbor:=fun _=>⟨fhN,yJ⟩)) zB)) ?_
  refine xS (atI zPQ 128205) (fun v34:Bool=>St.mk' [(0,sl 8 (Pack.enc false) a1),(4,pp 0),(6,rr 1 s23.1),(7,iv s23.2),(9,iv x29),(22,rr 2 x7),(23,iv (x7.length:Int)),(24,iv s23.2),(39,bv v34)] [(0,.box [iv 0,iv 0,nv]),(1,rE 1 zS s23.1),(2,rE 1 eStr x7)]) (fun v34=>?_) (fun jv34=>?_)
  ·refine zD 39 (fun h35=>?_) (fun h35=>?_)
   ·refine J_g 512820 [] [(4,pp 0)] [(0,.box [iv 5,iv s23.2,nv])] zB ?_
    exact zCT (ds:=[.ag [iv 5,iv s23.2,nv]]) (ds':=[.ag [iv 5,iv s23.2,so 1 zS ([]:List Int)]]) (.cons (.ag (.keep rfl (.keep rfl (.nilsl true 1 (.nil))))) (.nil) (by decide)) rfl
   ·refine zA (fun x36 h37=>?_)
    refine J_g 64103 [] [(0,sl 8 (Pack.enc false) a1),(4,pp 0),(6,rr 4 x36),(22,rr 2 x7),(23,iv (x7.length:Int)),(24,iv s23.2)] [(0,.box [iv 0,iv 0,nv]),(2,rE 1 eStr x7),(4,rE 1 zS x36)] (zF 2 (zE6 39 2 1 3 zS [x29] [0] [(.tmp 43)] [iv x29]) (zF 3 (zHJ 39 39 2 2 1 8 4 1 3 zS (.tmp 42) (.tmp 44) h37) zB)) ?_
    refine J_d 4007 [] [24] [(24,iv (w64 (s23.2+1)))] [] [] zB ?_
    refine zBR 4 1 (Nat.le_of_ble_eq_true rfl) (Nat.le_of_ble_eq_true rfl) ?_
    exact J_q (J_b (ih (x36,w64 (s23.2+1)))) rfl
  ·refine wH (fun h31=>?_) (fun h31=>?_)
   ·refine J_d 128204 [] [39] [(39,bv true)] [] [] (xW 2 [(34,bv (decide (x29<0)))] [] h31 zB) ?_
    exact xA (J_j (jv34 true)) rfl
   ·refine zA (fun x32 h33=>?_)
    refine J_d 128204 [] [39] [(39,bv x32)] [] [] (xW 2 [(34,bv (decide (x29<0)))] [] h31 (zBS 5 2 35 false (uJ («as»:=[rr 1 s23.1,iv x29]) [(.tmp 36),(.tmp 37)] [39,2] true [(1,rE 1 zS s23.1)] [] (.cons (zFe (.head _) (fun _=>rfl) rfl) (.cons (.same rfl) (.nil))) (xV.ok s23.1 x29) h33 (.same rfl rfl) (hbor:=fun _=>⟨fhN,yJ⟩)) zB)) ?_
    exact xA (J_j (jv34 x32)) rfl
 ·exact xA (hk s23.1) rfl
theorem zBt.ok (a1:(List Pack)) (a2:ByteArray):Ok Tryz.prog 151 [sl 8 (Pack.enc false) a1,sv a2] [] ((zBt a1 a2).map fun r=>(.ag [iv r.Code,iv r.At,so 1 zS r.Set],[])):=by
 refine zG zPQ Tryz.f151 0 51 (fun q=>?_)
 unfold zBt
 refine J_d 2 [(0,0)] [4] [(4,pp 0)] [0] [(0,.box [iv 0,iv 0,nv])] zB ?_
 refine zA (fun x3 h4=>?_)
 refine J_g 12 [] [(0,sl 8 (Pack.enc false) a1),(1,sv a2),(4,pp 0),(5,iv x3)] [(0,.box [iv 0,iv 0,nv])] (zF 1 (xU [(.tmp 10)] [30] (wV.ok a1) h4) zB) ?_
 refine J_d 26 [] [13] [(13,bv (x3 !=0))] [] [] zB ?_
 refine zD 13 (fun h5=>?_) (fun h5=>?_)
 ·refine J_g 108 [] [(4,pp 0)] [(0,.box [iv x3,iv 0,nv])] zB ?_
  exact zCT (ds:=[.ag [iv x3,iv 0,nv]]) (ds':=[.ag [iv x3,iv 0,so 1 zS ([]:List Int)]]) (.cons (.ag (.keep rfl (.keep rfl (.nilsl true 1 (.nil))))) (.nil) (by decide)) rfl
 ·refine J_d 28 [] [5,13,18] [(18,bv (decide ((a2.size:Int)>4000)))] [] [] zB ?_
  refine zD 18 (fun h6=>?_) (fun h6=>?_)
  ·refine J_g 116 [] [(4,pp 0)] [(0,.box [iv 2,iv 0,nv])] zB ?_
   exact zCT (ds:=[.ag [iv 2,iv 0,nv]]) (ds':=[.ag [iv 2,iv 0,so 1 zS ([]:List Int)]]) (.cons (.ag (.keep rfl (.keep rfl (.nilsl true 1 (.nil))))) (.nil) (by decide)) rfl
  ·refine J_d 30 [] [6,18] [(6,rr 1 ([]:List Int))] [1] [(1,rE 1 zS ([]:List Int))] (zF 0 (zE6 39 2 1 1 zS ([]:List Int) [] [] []) zB) ?_
   refine zA (fun x7 h8=>?_)
   refine J_d 124 [] [1,22,23,24] [(22,rr 2 x7),(23,iv (x7.length:Int)),(24,iv 0)] [2] [(2,rE 1 eStr x7)] (zF 1 (uJ («as»:=[sv a2]) [(.tmp 21)] [9] false [] [] (.cons (.same rfl) (.nil)) (zCa.ok a2) h8 (.own 2)) zB) ?_
   refine uR (K0:=(fun r:xI=>some (.ag [iv r.Code,iv r.At,so 1 zS r.Set],[]))) (fun _=>rfl) (zB8.ok a1 x7 q _ (fun v38=>J_j ?_) (([]:List Int),0))
   refine zA (fun x39 h40=>?_)
   refine J_g 126 [] [(4,pp 0),(6,rr 1 v38)] [(0,.box [iv 0,iv 0,nv]),(1,rE 1 zS x39)] (zF 1 (uJ («as»:=[rr 1 v38]) [(.tmp 47)] [39] false [(1,rE 1 zS v38)] [1] (.cons (.rf rfl) (.nil)) (uQ.ok v38) h40 (.tu (.nil))) zB) ?_
   refine zA (fun u41 h42=>?_)
   refine zFo (σ':=St.mk' [(4,pp 0),(6,rr 1 x39)] [(0,.box [iv 0,iv 0,nv]),(1,rE 1 zS x39)]) (by simp only [rr,zDt h42]) ?_
   refine J_g 254 [] [(4,pp 0)] [(0,.box [iv 0,iv 0,rr 1 x39]),(1,rE 1 zS x39)] zB ?_
   exact zCT (ds:=[.ag [iv 0,iv 0,rr 1 x39]]) (ds':=[.ag [iv 0,iv 0,so 1 zS x39]]) (.cons (.ag (.keep rfl (.keep rfl (.move (.tail _ (.head _)) (List.length_map _) (by decide) (.nil))))) (.nil) (by decide)) rfl
noncomputable def c82:Code:=(Tryz.f82.body).getD .skip
theorem zEb.ok (a1:(List Pack)) (a2:zC) (a3:Int):Ok Tryz.prog 82 [sl 8 (Pack.enc false) a1,.ag (zC.enc false a2),iv a3] [] ((zEb a1 a2 a3).map fun r=>(.tu [so 1 zS r.1,iv r.2],[])):=by
 refine zG c82 Tryz.f82 0 31 (fun q=>?_)
 unfold zEb
 refine J_d 2 [(0,0)] [1,4] [(4,pp 0)] [0] [(0,.box (zC.enc false a2))] zB ?_
 refine zA (fun x4 h5=>?_)
 refine zA (fun x6 h7=>?_)
 refine J_d 12 [] [15] [(15,bv (!x6))] [] [] (zF 1 (uJ («as»:=[.ag (zC.enc false a2)]) [(.tmp 11)] [33] false [] [] (.cons (.same rfl) (.nil)) (zAL.ok a2) h5 (.own 1)) (zF 3 (uJ («as»:=[rr 1 x4,iv a3]) [(.tmp 12),(.tmp 13)] [39,2] true [(1,rE 1 zS x4)] [] (.cons (zFe (.head _) (fun _=>rfl) rfl) (.cons (.same rfl) (.nil))) (xV.ok x4 a3) h7 (.same rfl rfl) (hbor:=fun _=>⟨fhN,yJ⟩)) zB)) ?_
 refine zD 15 (fun h8=>?_) (fun h8=>?_)
 ·refine J_g 52 [] [(6,nv),(7,iv 4)] [] zB ?_
  exact zCT (ds:=[nv,iv 4]) (ds':=[so 1 zS ([]:List Int),iv 4]) (.cons (.cell (.nilsl true 1 (.nil))) (.cons (.cell (.keep rfl (.nil))) (.nil) (by decide)) (by decide)) rfl
 ·refine zA (fun x9 h10=>?_)
  refine zA (fun x11 h12=>?_)
  refine J_d 14 [] [2,4,8,15] [(8,sl 1 eU8 x11.1)] [0] [] (zF 2 (xU [(.tmp 18)] [2] (zCk.ok a3) h10) (zF 3 (xU [(.tmp 17),(.tmp 19)] [33,9] (yT.ok a2 x9) h12) zB)) ?_
  refine zA (fun x13 h14=>?_)
  refine J_g 30 [(4,1)] [(10,pp 1)] [(0,rE 1 zS x13.Set),(1,.box [iv x13.Code,iv x13.At,rr 0 x13.Set])] (zF 2 (zOb (xs:=x11.1) 121 9 5 (.tmp 24)) (zF 3 (uJ («as»:=[sl 8 (Pack.enc false) a1,sv (b2s x11.1)]) [(.tmp 23),(.tmp 25)] [30,9] false [] [] (.cons (.same rfl) (.cons (.same rfl) (.nil))) (zBt.ok a1 (b2s x11.1)) h14 (.ag (.cons (.same rfl rfl) (.cons (.same rfl rfl) (.cons (.own 0) (.nil)))))) zB)) ?_
  refine J_g 62 [] [(6,rr 0 x13.Set),(7,iv x13.Code)] [(0,rE 1 zS x13.Set)] zB ?_
  exact zCT (ds:=[rr 0 x13.Set,iv x13.Code]) (ds':=[so 1 zS x13.Set,iv x13.Code]) (.cons (.cell (.move (.head _) (List.length_map _) (by decide) (.nil))) (.cons (.cell (.keep rfl (.nil))) (.nil) (by decide)) (by decide)) rfl
noncomputable def zQj:Code:=(Tryz.f245.body).getD .skip
theorem zDN.ok (a1:(List Pack)) (a2:(List Int)) (a3:ByteArray) (q:Wd) (kn:Unit→Option (D×List Ent)) (hk:∀v:Unit,J (q.g Tryz.prog 245 0 24) zQj (atI zQj 7) (St.mk' [] []) (some v) kn):
  ∀s10:Int,J (q.g Tryz.prog 245 0 24) zQj (atI zQj 52) (St.mk' [(0,sl 8 (Pack.enc false) a1),(2,sv a3),(9,sl 1 zS a2),(10,iv (a2.length:Int)),(11,iv s10)] []) (zDN a1 a2 a3 s10) (Fl.go (fun r:Int=>some (iv r,[])) kn):=by
 refine kQ (fun g ih s10=>?_)
 unfold zCY
 refine J_d 104 [] [12] [(12,bv (decide (s10< (a2.length:Int))))] [] [] zB ?_
 refine zD 12 (fun h11=>?_) (fun h11=>?_)
 ·refine zA (fun x12 h13=>?_)
  refine J_d 1688 [] [8,12] [(8,iv x12)] [] [] (zF 0 (tL (kk:=.i64) 39 2 1 zS (.tmp 9) (.tmp 11) h13) zB) ?_
  refine zA (fun x14 h15=>?_)
  refine J_d 3378 [] [21] [(21,bv (seq x14.Name a3))] [] [] (zF 2 (tL (kk:=.i64) 30 102 8 (Pack.enc false) (.tmp 15) (.tmp 16) h15) zB) ?_
  refine zD 21 (fun h16=>?_) (fun h16=>?_)
  ·refine J_g 13516 [] [(6,iv x12)] [] zB ?_
   exact zN rfl
  ·refine J_d 423 [] [8,11,21] [(11,iv (w64 (s10+1)))] [] [] zB ?_
   exact J_q (J_b (ih (w64 (s10+1)))) rfl
 ·exact xA (hk ()) rfl
theorem zEe.ok (a1:(List Pack)) (a2:(List Int)) (a3:ByteArray):Ok Tryz.prog 245 [sl 8 (Pack.enc false) a1,sl 1 zS a2,sv a3] [] ((zEe a1 a2 a3).map fun r=>(iv r,[])):=by
 refine zG zQj Tryz.f245 0 24 (fun q=>?_)
 unfold zEe
 refine J_g 2 [] [(0,sl 8 (Pack.enc false) a1),(1,sl 1 zS a2),(2,sv a3)] [] zB ?_
 refine J_d 12 [] [1,9,10,11] [(9,sl 1 zS a2),(10,iv (a2.length:Int)),(11,iv 0)] [] [] zB ?_
 refine uR (K0:=(fun r:Int=>some (iv r,[]))) (fun _=>rfl) (zDN.ok a1 a2 a3 q _ (fun v17=>J_j ?_) 0)
 refine J_g 14 [] [(6,iv (-1))] [] zB ?_
 exact zN rfl
noncomputable def zSl:Code:=(Tryz.f295.body).getD .skip
theorem zAZ.ok (a1:Pack):Ok Tryz.prog 295 [.ag (Pack.enc false a1)] [] ((zAZ a1).map fun r=>(so 1 eStr r,[])):=by
 refine zG zSl Tryz.f295 0 9 (fun q=>?_)
 unfold zAZ
 refine J_g 2 [(0,0)] [(1,pp 0)] [(0,.box (Pack.enc false a1))] zB ?_
 refine zA (fun x2 h3=>?_)
 refine J_g 6 [] [(2,rr 2 x2)] [(2,rE 1 eStr x2)] (zF 2 (zE6 86 9 1 1 eStr [a1.Name] [0] [(.tmp 4)] [sv a1.Name]) (zF 5 (zNx 86 86 9 9 1 16 2 1 eStr (.tmp 5) (.tmp 7) h3) zB)) ?_
 exact zCT (ds:=[rr 2 x2]) (ds':=[so 1 eStr x2]) (.cons (.cell (.move (.head _) (List.length_map _) (by decide) (.nil))) (.nil) (by decide)) rfl
noncomputable def zSa:Code:=(Tryz.f297.body).getD .skip
theorem zBs.ok (a1:Term) (a2:ByteArray) (a3:Version):Ok Tryz.prog 297 [.ag (Term.enc a1),sv a2,.ag (Version.enc a3)] [] ((zBs a1 a2 a3).map fun r=>(bv r,[])):=by
 refine zG zSa Tryz.f297 0 25 (fun q=>?_)
 unfold zBs
 refine J_g 2 [(0,0),(1,1)] [(1,sv a2),(3,pp 0),(5,pp 1)] [(0,.box (Term.enc a1)),(1,.box (Version.enc a3))] zB ?_
 refine wH (fun h4=>?_) (fun h4=>?_)
 ·refine zA (fun x5 h6=>?_)
  refine wH (fun h7=>?_) (fun h7=>?_)
  ·refine zA (fun x8 h9=>?_)
   refine J_g 6 [] [(6,bv (decide (x8<0)))] [] (xW 4 [(10,bv (seq a1.Name a2))] [] h4 (zBS 8 4 11 true (xU [(.tmp 13),(.tmp 14)] [99,99] (uN.ok a1.Low a3) h6) (xW 11 [(17,bv (decide (x5≤0)))] [] h7 (zBS 15 11 18 true (xU [(.tmp 19),(.tmp 21)] [99,99] (uN.ok a3 a1.High) h9) zB)))) ?_
   exact zN rfl
  ·refine J_g 6 [] [(6,bv false)] [] (xW 4 [(10,bv (seq a1.Name a2))] [] h4 (zBS 8 4 11 true (xU [(.tmp 13),(.tmp 14)] [99,99] (uN.ok a1.Low a3) h6) (xW 11 [(17,bv (decide (x5≤0)))] [] h7 zB))) ?_
   exact zN rfl
 ·refine J_g 6 [] [(6,bv false)] [] (xW 4 [(10,bv (seq a1.Name a2))] [] h4 zB) ?_
  exact zN rfl
noncomputable def zSA:Code:=(Tryz.f296.body).getD .skip
theorem kF.ok (a1:ByteArray) (a2:Term) (a3:Pack):Ok Tryz.prog 296 [sv a1,pp 0,pp 1] [.box (Term.enc a2),.box (Pack.enc false a3)] ((kF a1 a2 a3).map fun r=>(bv r,[.box (Term.enc a2),.box (Pack.enc false a3)])):=by
 refine zG zSA Tryz.f296 2 10 (fun q=>?_)
 unfold kF
 refine J_d 2 [] [] [] [] [] zB ?_
 refine zA (fun x4 h5=>?_)
 refine J_d 6 [] [0,1,2,4] [(4,bv x4)] [] [] (zF 4 (xU [(.tmp 5),(.tmp 6),(.tmp 8)] [149,9,99] (zBs.ok a2 a1 a3.Version) h5) zB) ?_
 exact zN rfl
theorem yR.ok (a1:(List ByteArray)) (a2:Term) (a3:Pack) (q:Wd) (kn:Unit→Option (D×List Ent)) (hk:∀v:Unit,J (q.g Tryz.prog 316 3 19) zNN (atI zNN 7) (St.mk' [] [(0,rE 1 eStr a1),(1,.box (Term.enc a2)),(2,.box (Pack.enc false a3))]) (some v) kn):
  ∀s10:Int,J (q.g Tryz.prog 316 3 19) zNN (atI zNN 52) (St.mk' [(0,rr 0 a1),(1,.fn 296 [pp 1,pp 2]),(7,iv (a1.length:Int)),(8,iv s10)] [(0,rE 1 eStr a1),(1,.box (Term.enc a2)),(2,.box (Pack.enc false a3))]) (yR a1 a2 a3 s10) (Fl.go (fun r:Int=>some (iv r,[rE 1 eStr a1,.box (Term.enc a2),.box (Pack.enc false a3)])) kn):=by
 refine kQ (fun g ih s10=>?_)
 unfold yL
 refine J_d 104 [] [9] [(9,bv (decide (s10< (a1.length:Int))))] [] [] zB ?_
 refine zD 9 (fun h11=>?_) (fun h11=>?_)
 ·refine J_d 1688 [] [5,9] [(5,iv s10)] [] [] zB ?_
  refine zA (fun x12 h13=>?_)
  refine zA (fun x14 h15=>?_)
  refine J_d 3378 [] [16] [(16,bv x14)] [] [] (zF 3 (tY (kk:=.i64) 86 9 1 0 eStr (.tmp 12) (.tmp 13) h13) (zF 4 (zDR (d:=sv x12) 9 1 0 0 eStr (.tmp 14) h13 (by kernel_rfl)) (zF 5 (zGj [(1,.box (Term.enc a2)),(2,.box (Pack.enc false a3))] [] (zJg 11 [(.tmp 15)] [9] false [(1,.box (Term.enc a2)),(2,.box (Pack.enc false a3))] [1,2] [sv x12] [pp 1,pp 2] (.cons (.same rfl) (.cons (.pt rfl) (.cons (.pt rfl) (.nil)))) (kF.ok x12 a2 a3) h15 (.same rfl rfl))) zB))) ?_
  refine zD 16 (fun h16=>?_) (fun h16=>?_)
  ·refine J_d 13516 [] [0,1,4,5,7,8,16] [(4,iv s10)] [] [] zB ?_
   exact zN rfl
  ·refine J_d 423 [] [5,8,16] [(8,iv (w64 (s10+1)))] [] [] zB ?_
   exact J_q (J_b (ih (w64 (s10+1)))) rfl
 ·exact xA (hk ()) rfl
theorem yD.ok (a1:(List ByteArray)) (a2:Term) (a3:Pack):Ok Tryz.prog 316 [rr 0 a1,.fn 296 [pp 1,pp 2]] [rE 1 eStr a1,.box (Term.enc a2),.box (Pack.enc false a3)] ((yD a1 a2 a3).map fun r=>(iv r,[rE 1 eStr a1,.box (Term.enc a2),.box (Pack.enc false a3)])):=by
 refine zG zNN Tryz.f316 3 19 (fun q=>?_)
 unfold yD
 refine J_g 2 [] [(0,rr 0 a1),(1,.fn 296 [pp 1,pp 2])] [(0,rE 1 eStr a1),(1,.box (Term.enc a2)),(2,.box (Pack.enc false a3))] zB ?_
 refine J_d 12 [] [7,8] [(7,iv (a1.length:Int)),(8,iv 0)] [] [] zB ?_
 refine uR (K0:=(fun r:Int=>some (iv r,[rE 1 eStr a1,.box (Term.enc a2),.box (Pack.enc false a3)]))) (fun _=>rfl) (yR.ok a1 a2 a3 q _ (fun v17=>J_j ?_) 0)
 refine J_d 14 [] [4] [(4,iv (-1))] [] [] zB ?_
 exact zN rfl
noncomputable def zRW:Code:=(Tryz.f294.body).getD .skip
theorem zX.ok (a1:(List ByteArray)) (a2:Term) (a3:Pack):Ok Tryz.prog 294 [rr 0 a1,.fn 296 [pp 1,pp 2]] [rE 1 eStr a1,.box (Term.enc a2),.box (Pack.enc false a3)] ((zX a1 a2 a3).map fun r=>(bv r,[rE 1 eStr a1,.box (Term.enc a2),.box (Pack.enc false a3)])):=by
 refine zG zRW Tryz.f294 3 9 (fun q=>?_)
 unfold zX
 refine J_d 2 [] [] [] [] [] zB ?_
 refine zA (fun x4 h5=>?_)
 refine J_d 6 [] [0,1,4] [(4,bv (decide (x4≥0)))] [] [] (zF 2 (zGj [(0,rE 1 eStr a1),(1,.box (Term.enc a2)),(2,.box (Pack.enc false a3))] [] (uJ («as»:=[rr 0 a1,.fn 296 [pp 1,pp 2]]) [(.tmp 5),(.tmp 6)] [86,281] false [(0,rE 1 eStr a1),(1,.box (Term.enc a2)),(2,.box (Pack.enc false a3))] [0,1,2] (.cons (.rf rfl) (.cons (.fn (.cons (.pt rfl) (.cons (.pt rfl) (.nil)))) (.nil))) (yD.ok a1 a2 a3) h5 (.same rfl rfl))) zB) ?_
 exact zN rfl
noncomputable def zSp:Code:=(Tryz.f249.body).getD .skip
theorem vV.ok (a1:Pack) (a2:Term):Ok Tryz.prog 249 [.ag (Pack.enc false a1),.ag (Term.enc a2)] [] ((vV a1 a2).map fun r=>(bv r,[])):=by
 refine zG zSp Tryz.f249 0 9 (fun q=>?_)
 unfold vV
 refine J_g 2 [(0,0),(1,1)] [(2,pp 0),(3,pp 1)] [(0,.box (Pack.enc false a1)),(1,.box (Term.enc a2))] zB ?_
 refine zA (fun x3 h4=>?_)
 refine zA (fun x5 h6=>?_)
 refine J_g 6 [] [(4,bv x5)] [] (zF 1 (uJ («as»:=[.ag (Pack.enc false a1)]) [(.tmp 5)] [102] false [] [] (.cons (.same rfl) (.nil)) (zAZ.ok a1) h4 (.own 2)) (zF 3 (zGj [(2,rE 1 eStr x3),(1,.box (Term.enc a2)),(0,.box (Pack.enc false a1))] [] (uJ («as»:=[rr 2 x3,.fn 296 [pp 1,pp 0]]) [(.tmp 6),(.tmp 7)] [86,281] false [(2,rE 1 eStr x3),(1,.box (Term.enc a2)),(0,.box (Pack.enc false a1))] [2,1,0] (.cons (.rf rfl) (.cons (.fn (.cons (.pt rfl) (.cons (.pt rfl) (.nil)))) (.nil))) (zX.ok x3 a2 a1) h6 (.same rfl rfl))) zB)) ?_
 exact zN rfl
noncomputable def zQI:Code:=(Tryz.f258.body).getD .skip
theorem yV.ok (a1:(List Term)) (a2:Pack) (q:Wd) (kn:Unit→Option (D×List Ent)) (hk:∀v:Unit,J (q.g Tryz.prog 258 0 19) zQI (atI zQI 7) (St.mk' [] []) (some v) kn):
  ∀s9:Int,J (q.g Tryz.prog 258 0 19) zQI (atI zQI 52) (St.mk' [(0,sl 7 Term.enc a1),(1,.fb 249 [.ag (Pack.enc false a2)]),(7,iv (a1.length:Int)),(8,iv s9)] []) (yV a1 a2 s9) (Fl.go (fun r:Int=>some (iv r,[])) kn):=by
 refine kQ (fun g ih s9=>?_)
 unfold yQ
 refine J_d 104 [] [9] [(9,bv (decide (s9< (a1.length:Int))))] [] [] zB ?_
 refine zD 9 (fun h10=>?_) (fun h10=>?_)
 ·refine J_d 1688 [] [5,9] [(5,iv s9)] [] [] zB ?_
  refine zA (fun x11 h12=>?_)
  refine zA (fun x13 h14=>?_)
  refine J_d 3378 [] [16] [(16,bv x13)] [] [] (zF 3 (tL (kk:=.i64) 75 149 7 Term.enc (.tmp 12) (.tmp 13) h12) (zF 5 (zR1 («as»:=[.ag (Term.enc x11)]) (caps:=[.ag (Pack.enc false a2)]) 11 [(.tmp 15)] [149] (vV.ok a2 x11) h14) zB)) ?_
  refine zD 16 (fun h15=>?_) (fun h15=>?_)
  ·refine J_g 13516 [] [(4,iv s9)] [] zB ?_
   exact zN rfl
  ·refine J_d 423 [] [5,8,16] [(8,iv (w64 (s9+1)))] [] [] zB ?_
   exact J_q (J_b (ih (w64 (s9+1)))) rfl
 ·exact xA (hk ()) rfl
theorem yE.ok (a1:(List Term)) (a2:Pack):Ok Tryz.prog 258 [sl 7 Term.enc a1,.fb 249 [.ag (Pack.enc false a2)]] [] ((yE a1 a2).map fun r=>(iv r,[])):=by
 refine zG zQI Tryz.f258 0 19 (fun q=>?_)
 unfold yE
 refine J_g 2 [] [(0,sl 7 Term.enc a1),(1,.fb 249 [.ag (Pack.enc false a2)])] [] zB ?_
 refine J_d 12 [] [7,8] [(7,iv (a1.length:Int)),(8,iv 0)] [] [] zB ?_
 refine uR (K0:=(fun r:Int=>some (iv r,[]))) (fun _=>rfl) (yV.ok a1 a2 q _ (fun v16=>J_j ?_) 0)
 refine J_g 14 [] [(4,iv (-1))] [] zB ?_
 exact zN rfl
noncomputable def c193:Code:=(Tryz.f193.body).getD .skip
theorem yB.ok (a1:(List Term)) (a2:Pack):Ok Tryz.prog 193 [sl 7 Term.enc a1,.fb 249 [.ag (Pack.enc false a2)]] [] ((yB a1 a2).map fun r=>(bv r,[])):=by
 refine zG c193 Tryz.f193 0 9 (fun q=>?_)
 unfold yB
 refine J_d 2 [] [] [] [] [] zB ?_
 refine zA (fun x3 h4=>?_)
 refine J_g 6 [] [(4,bv (decide (x3≥0)))] [] (zF 2 (uJ («as»:=[sl 7 Term.enc a1,.fb 249 [.ag (Pack.enc false a2)]]) [(.tmp 5),(.tmp 6)] [75,221] false [] [] (.cons (.same rfl) (.cons (.fb (.cons (.same rfl) (.nil))) (.nil))) (yE.ok a1 a2) h4 (.same rfl rfl)) zB) ?_
 exact zN rfl
noncomputable def zSw:Code:=(Tryz.f247.body).getD .skip
theorem uF.ok (a1:Pack) (a2:(List Term)):Ok Tryz.prog 247 [.ag (Pack.enc false a1),sl 7 Term.enc a2] [] ((uF a1 a2).map fun r=>(bv r,[])):=by
 refine zG zSw Tryz.f247 0 9 (fun q=>?_)
 unfold uF
 refine J_d 2 [(0,0)] [0,2] [(2,pp 0)] [0] [(0,.box (Pack.enc false a1))] zB ?_
 refine zA (fun x3 h4=>?_)
 refine J_g 6 [] [(4,bv x3)] [] (zF 2 (zRl 249 [(.tmp 6)] [.ag (Pack.enc false a1)]) (zF 3 (uJ («as»:=[sl 7 Term.enc a2,.fb 249 [.ag (Pack.enc false a1)]]) [(.tmp 5),(.tmp 7)] [75,221] false [] [] (.cons (.same rfl) (.cons (.fb (.cons (.same rfl) (.nil))) (.nil))) (yB.ok a2 a1) h4 (.same rfl rfl)) zB)) ?_
 exact zN rfl
noncomputable def zS1:Code:=(Tryz.f246.body).getD .skip
theorem zCM.ok (a1:Int) (a2:(List Pack)) (a3:(List Term)):Ok Tryz.prog 246 [iv a1,pp 0,pp 1] [.box [sl 8 (Pack.enc false) a2],.box [sl 7 Term.enc a3]] ((zCM a1 a2 a3).map fun r=>(bv r,[.box [sl 8 (Pack.enc false) a2],.box [sl 7 Term.enc a3]])):=by
 refine zG zS1 Tryz.f246 2 11 (fun q=>?_)
 unfold zCM
 refine J_d 2 [] [] [] [] [] zB ?_
 refine zA (fun x4 h5=>?_)
 refine zA (fun x6 h7=>?_)
 refine J_d 6 [] [0,1,2,4] [(4,bv x6)] [] [] (zF 2 (tL (kk:=.i64) 30 102 8 (Pack.enc false) (.tmp 5) (.tmp 6) h5) (zF 5 (xU [(.tmp 8),(.tmp 9)] [102,75] (uF.ok x4 a3) h7) zB)) ?_
 exact zN rfl
noncomputable def c203:Code:=(Tryz.f203.body).getD .skip
theorem xJ.ok (a1:(List Int)) (a2:(List Pack)) (a3:(List Term)) (q:Wd) (kn:Unit→Option (D×List Ent)) (hk:∀v:Unit,J (q.g Tryz.prog 203 2 19) c203 (atI c203 7) (St.mk' [] [(0,.box [sl 8 (Pack.enc false) a2]),(1,.box [sl 7 Term.enc a3])]) (some v) kn):
  ∀s10:Int,J (q.g Tryz.prog 203 2 19) c203 (atI c203 52) (St.mk' [(0,sl 1 zS a1),(1,.fn 246 [pp 0,pp 1]),(7,iv (a1.length:Int)),(8,iv s10)] [(0,.box [sl 8 (Pack.enc false) a2]),(1,.box [sl 7 Term.enc a3])]) (xJ a1 a2 a3 s10) (Fl.go (fun r:Int=>some (iv r,[.box [sl 8 (Pack.enc false) a2],.box [sl 7 Term.enc a3]])) kn):=by
 refine kQ (fun g ih s10=>?_)
 unfold xG
 refine J_d 104 [] [9] [(9,bv (decide (s10< (a1.length:Int))))] [] [] zB ?_
 refine zD 9 (fun h11=>?_) (fun h11=>?_)
 ·refine J_d 1688 [] [5,9] [(5,iv s10)] [] [] zB ?_
  refine zA (fun x12 h13=>?_)
  refine zA (fun x14 h15=>?_)
  refine J_d 3378 [] [16] [(16,bv x14)] [] [] (zF 3 (tL (kk:=.i64) 39 2 1 zS (.tmp 12) (.tmp 13) h13) (zF 5 (zGj [(0,.box [sl 8 (Pack.enc false) a2]),(1,.box [sl 7 Term.enc a3])] [] (zJg 11 [(.tmp 15)] [2] false [(0,.box [sl 8 (Pack.enc false) a2]),(1,.box [sl 7 Term.enc a3])] [0,1] [iv x12] [pp 0,pp 1] (.cons (.same rfl) (.cons (.pt rfl) (.cons (.pt rfl) (.nil)))) (zCM.ok x12 a2 a3) h15 (.same rfl rfl))) zB)) ?_
  refine zD 16 (fun h16=>?_) (fun h16=>?_)
  ·refine J_d 13516 [] [0,1,4,5,7,8,16] [(4,iv s10)] [] [] zB ?_
   exact zN rfl
  ·refine J_d 423 [] [5,8,16] [(8,iv (w64 (s10+1)))] [] [] zB ?_
   exact J_q (J_b (ih (w64 (s10+1)))) rfl
 ·exact xA (hk ()) rfl
theorem xC.ok (a1:(List Int)) (a2:(List Pack)) (a3:(List Term)):Ok Tryz.prog 203 [sl 1 zS a1,.fn 246 [pp 0,pp 1]] [.box [sl 8 (Pack.enc false) a2],.box [sl 7 Term.enc a3]] ((xC a1 a2 a3).map fun r=>(iv r,[.box [sl 8 (Pack.enc false) a2],.box [sl 7 Term.enc a3]])):=by
 refine zG c203 Tryz.f203 2 19 (fun q=>?_)
 unfold xC
 refine J_g 2 [] [(0,sl 1 zS a1),(1,.fn 246 [pp 0,pp 1])] [(0,.box [sl 8 (Pack.enc false) a2]),(1,.box [sl 7 Term.enc a3])] zB ?_
 refine J_d 12 [] [7,8] [(7,iv (a1.length:Int)),(8,iv 0)] [] [] zB ?_
 refine uR (K0:=(fun r:Int=>some (iv r,[.box [sl 8 (Pack.enc false) a2],.box [sl 7 Term.enc a3]]))) (fun _=>rfl) (xJ.ok a1 a2 a3 q _ (fun v17=>J_j ?_) 0)
 refine J_d 14 [] [4] [(4,iv (-1))] [] [] zB ?_
 exact zN rfl
noncomputable def zRC:Code:=(Tryz.f129.body).getD .skip
theorem zY.ok (a1:(List Int)) (a2:(List Pack)) (a3:(List Term)):Ok Tryz.prog 129 [sl 1 zS a1,.fn 246 [pp 0,pp 1]] [.box [sl 8 (Pack.enc false) a2],.box [sl 7 Term.enc a3]] ((zY a1 a2 a3).map fun r=>(bv r,[.box [sl 8 (Pack.enc false) a2],.box [sl 7 Term.enc a3]])):=by
 refine zG zRC Tryz.f129 2 9 (fun q=>?_)
 unfold zY
 refine J_d 2 [] [] [] [] [] zB ?_
 refine zA (fun x4 h5=>?_)
 refine J_d 6 [] [0,1,4] [(4,bv (decide (x4≥0)))] [] [] (zF 2 (zGj [(0,.box [sl 8 (Pack.enc false) a2]),(1,.box [sl 7 Term.enc a3])] [] (uJ («as»:=[sl 1 zS a1,.fn 246 [pp 0,pp 1]]) [(.tmp 5),(.tmp 6)] [39,174] false [(0,.box [sl 8 (Pack.enc false) a2]),(1,.box [sl 7 Term.enc a3])] [0,1] (.cons (.same rfl) (.cons (.fn (.cons (.pt rfl) (.cons (.pt rfl) (.nil)))) (.nil))) (xC.ok a1 a2 a3) h5 (.same rfl rfl))) zB) ?_
 exact zN rfl
noncomputable def zSj:Code:=(Tryz.f248.body).getD .skip
theorem zCN.ok (a1:Int) (a2:Int) (a3:(List Pack)) (a4:Term):Ok Tryz.prog 248 [iv a1,pp 0,pp 1,pp 2] [.box [iv a2],.box [sl 8 (Pack.enc false) a3],.box (Term.enc a4)] ((zCN a1 a2 a3 a4).map fun r=>(bv r,[.box [iv a2],.box [sl 8 (Pack.enc false) a3],.box (Term.enc a4)])):=by
 refine zG zSj Tryz.f248 3 17 (fun q=>?_)
 unfold zCN
 refine J_d 2 [] [] [] [] [] zB ?_
 refine wH (fun h5=>?_) (fun h5=>?_)
 ·refine zA (fun x6 h7=>?_)
  refine zA (fun x8 h9=>?_)
  refine J_d 6 [] [0,1,2,3,5] [(5,bv x8)] [] [] (xW 3 [(8,bv (a1 !=a2))] [] h5 (zBS 6 3 9 true (tL (kk:=.i64) 30 102 8 (Pack.enc false) (.tmp 10) (.tmp 11) h7) (zBS 9 3 9 true (xU [(.tmp 13),(.tmp 14)] [102,149] (vV.ok x6 a4) h9) zB))) ?_
  exact zN rfl
 ·refine J_d 6 [] [0,1,2,3,5] [(5,bv false)] [] [] (xW 3 [(8,bv (a1 !=a2))] [] h5 zB) ?_
  exact zN rfl
theorem xK.ok (a1:(List Int)) (a2:Int) (a3:(List Pack)) (a4:Term) (q:Wd) (kn:Unit→Option (D×List Ent)) (hk:∀v:Unit,J (q.g Tryz.prog 203 3 19) c203 (atI c203 7) (St.mk' [] [(0,.box [iv a2]),(1,.box [sl 8 (Pack.enc false) a3]),(2,.box (Term.enc a4))]) (some v) kn):
  ∀s11:Int,J (q.g Tryz.prog 203 3 19) c203 (atI c203 52) (St.mk' [(0,sl 1 zS a1),(1,.fn 248 [pp 0,pp 1,pp 2]),(7,iv (a1.length:Int)),(8,iv s11)] [(0,.box [iv a2]),(1,.box [sl 8 (Pack.enc false) a3]),(2,.box (Term.enc a4))]) (xK a1 a2 a3 a4 s11) (Fl.go (fun r:Int=>some (iv r,[.box [iv a2],.box [sl 8 (Pack.enc false) a3],.box (Term.enc a4)])) kn):=by
 refine kQ (fun g ih s11=>?_)
 unfold xE
 refine J_d 104 [] [9] [(9,bv (decide (s11< (a1.length:Int))))] [] [] zB ?_
 refine zD 9 (fun h12=>?_) (fun h12=>?_)
 ·refine J_d 1688 [] [5,9] [(5,iv s11)] [] [] zB ?_
  refine zA (fun x13 h14=>?_)
  refine zA (fun x15 h16=>?_)
  refine J_d 3378 [] [16] [(16,bv x15)] [] [] (zF 3 (tL (kk:=.i64) 39 2 1 zS (.tmp 12) (.tmp 13) h14) (zF 5 (zGj [(0,.box [iv a2]),(1,.box [sl 8 (Pack.enc false) a3]),(2,.box (Term.enc a4))] [] (zJg 11 [(.tmp 15)] [2] false [(0,.box [iv a2]),(1,.box [sl 8 (Pack.enc false) a3]),(2,.box (Term.enc a4))] [0,1,2] [iv x13] [pp 0,pp 1,pp 2] (.cons (.same rfl) (.cons (.pt rfl) (.cons (.pt rfl) (.cons (.pt rfl) (.nil))))) (zCN.ok x13 a2 a3 a4) h16 (.same rfl rfl))) zB)) ?_
  refine zD 16 (fun h17=>?_) (fun h17=>?_)
  ·refine J_d 13516 [] [0,1,4,5,7,8,16] [(4,iv s11)] [] [] zB ?_
   exact zN rfl
  ·refine J_d 423 [] [5,8,16] [(8,iv (w64 (s11+1)))] [] [] zB ?_
   exact J_q (J_b (ih (w64 (s11+1)))) rfl
 ·exact xA (hk ()) rfl
theorem xB.ok (a1:(List Int)) (a2:Int) (a3:(List Pack)) (a4:Term):Ok Tryz.prog 203 [sl 1 zS a1,.fn 248 [pp 0,pp 1,pp 2]] [.box [iv a2],.box [sl 8 (Pack.enc false) a3],.box (Term.enc a4)] ((xB a1 a2 a3 a4).map fun r=>(iv r,[.box [iv a2],.box [sl 8 (Pack.enc false) a3],.box (Term.enc a4)])):=by
 refine zG c203 Tryz.f203 3 19 (fun q=>?_)
 unfold xB
 refine J_g 2 [] [(0,sl 1 zS a1),(1,.fn 248 [pp 0,pp 1,pp 2])] [(0,.box [iv a2]),(1,.box [sl 8 (Pack.enc false) a3]),(2,.box (Term.enc a4))] zB ?_
 refine J_d 12 [] [7,8] [(7,iv (a1.length:Int)),(8,iv 0)] [] [] zB ?_
 refine uR (K0:=(fun r:Int=>some (iv r,[.box [iv a2],.box [sl 8 (Pack.enc false) a3],.box (Term.enc a4)]))) (fun _=>rfl) (xK.ok a1 a2 a3 a4 q _ (fun v18=>J_j ?_) 0)
 refine J_d 14 [] [4] [(4,iv (-1))] [] [] zB ?_
 exact zN rfl
theorem zZ.ok (a1:(List Int)) (a2:Int) (a3:(List Pack)) (a4:Term):Ok Tryz.prog 129 [sl 1 zS a1,.fn 248 [pp 0,pp 1,pp 2]] [.box [iv a2],.box [sl 8 (Pack.enc false) a3],.box (Term.enc a4)] ((zZ a1 a2 a3 a4).map fun r=>(bv r,[.box [iv a2],.box [sl 8 (Pack.enc false) a3],.box (Term.enc a4)])):=by
 refine zG zRC Tryz.f129 3 9 (fun q=>?_)
 unfold zZ
 refine J_d 2 [] [] [] [] [] zB ?_
 refine zA (fun x5 h6=>?_)
 refine J_d 6 [] [0,1,4] [(4,bv (decide (x5≥0)))] [] [] (zF 2 (zGj [(0,.box [iv a2]),(1,.box [sl 8 (Pack.enc false) a3]),(2,.box (Term.enc a4))] [] (uJ («as»:=[sl 1 zS a1,.fn 248 [pp 0,pp 1,pp 2]]) [(.tmp 5),(.tmp 6)] [39,174] false [(0,.box [iv a2]),(1,.box [sl 8 (Pack.enc false) a3]),(2,.box (Term.enc a4))] [0,1,2] (.cons (.same rfl) (.cons (.fn (.cons (.pt rfl) (.cons (.pt rfl) (.cons (.pt rfl) (.nil))))) (.nil))) (xB.ok a1 a2 a3 a4) h6 (.same rfl rfl))) zB) ?_
 exact zN rfl
noncomputable def zKu:Code:=(Tryz.f177.body).getD .skip
theorem zDk.ok (a1:(List Pack)) (a2:(List Int)) (s56:((List zR)×Int)) (x58:Int) (x60:Pack) (q:Wd) (kn:(List zR)→Option (D×List Ent)) (hk:∀v:(List zR),J (q.g Tryz.prog 177 0 77) zKu (aft zKu 1868) (St.mk' [(1,sl 1 zS a2),(2,pp 0),(5,rr 5 v),(14,sl 1 zS a2),(15,iv (a2.length:Int)),(16,iv s56.2)] [(0,.box [sl 8 (Pack.enc false) a1]),(5,rE 3 zR.enc v)]) (some v) kn):
  ∀s99:((List zR)×Int),J (q.g Tryz.prog 177 0 77) zKu (atI zKu 239228) (St.mk' [(1,sl 1 zS a2),(2,pp 0),(5,rr 5 s99.1),(7,pp 2),(14,sl 1 zS a2),(15,iv (a2.length:Int)),(16,iv s56.2),(58,sl 7 Term.enc x60.Bars),(59,iv (x60.Bars.length:Int)),(60,iv s99.2)] [(0,.box [sl 8 (Pack.enc false) a1]),(2,.box [iv x58]),(5,rE 3 zR.enc s99.1)]) (zDk a1 a2 s56 x58 x60 s99) kn:=by
 refine kQ (fun g ih s99=>?_)
 unfold zCo
 refine J_d 478456 [] [61] [(61,bv (decide (s99.2< (x60.Bars.length:Int))))] [] [] zB ?_
 refine zD 61 (fun h100=>?_) (fun h100=>?_)
 ·refine zA (fun x101 h102=>?_)
  refine J_d 7655320 [(3,6)] [11,12,61] [(11,iv s99.2),(12,pp 6)] [6] [(6,.box (Term.enc x101))] (zF 1 (tL (kk:=.i64) 75 149 7 Term.enc (.tmp 58) (.tmp 60) h102) zB) ?_
  refine zA (fun x103 h104=>?_)
  refine J_d 15310642 [] [12,67] [(67,bv x103)] [6] [] (zF 2 (zGj [(2,.box [iv x58]),(0,.box [sl 8 (Pack.enc false) a1]),(6,.box (Term.enc x101))] [] (uJ («as»:=[sl 1 zS a2,.fn 248 [pp 2,pp 0,pp 6]]) [(.tmp 65),(.tmp 66)] [39,174] false [(2,.box [iv x58]),(0,.box [sl 8 (Pack.enc false) a1]),(6,.box (Term.enc x101))] [2,0,6] (.cons (.same rfl) (.cons (.fn (.cons (.pt rfl) (.cons (.pt rfl) (.cons (.pt rfl) (.nil))))) (.nil))) (zZ.ok a2 x58 a1 x101) h104 (.same rfl rfl))) zB) ?_
  refine xS (aft zKu 3827660) (fun v108:(List zR)=>St.mk' [(1,sl 1 zS a2),(2,pp 0),(5,rr 7 v108),(7,pp 2),(14,sl 1 zS a2),(15,iv (a2.length:Int)),(16,iv s56.2),(58,sl 7 Term.enc x60.Bars),(59,iv (x60.Bars.length:Int)),(60,iv s99.2)] [(0,.box [sl 8 (Pack.enc false) a1]),(2,.box [iv x58]),(7,rE 3 zR.enc v108)]) (fun v108=>?_) (fun jv108=>?_)
  ·refine J_d 1913831 [] [60] [(60,iv (w64 (s99.2+1)))] [] [] zB ?_
   refine zBR 7 5 (Nat.le_of_ble_eq_true rfl) (Nat.le_of_ble_eq_true rfl) ?_
   exact J_q (J_b (ih (v108,w64 (s99.2+1)))) rfl
  ·refine zD 67 (fun h105=>?_) (fun h105=>?_)
   ·refine zA (fun x106 h107=>?_)
    refine J_d 30621286 [] [5,11,67] [(5,rr 7 x106)] [5,7] [(7,rE 3 zR.enc x106)] (zF 4 (zE6 133 199 3 6 zR.enc [({Kind:=3,Pack:=x58,At:=s99.2}:zR)] [0] [(.tmp 71)] [.ag [iv 3,iv x58,iv s99.2]]) (zF 5 (zHJ 133 133 199 199 3 24 7 5 6 zR.enc (.tmp 68) (.tmp 72) h107) zB)) ?_
    exact xA (J_j (jv108 x106)) rfl
   ·refine zBR 5 7 (Nat.le_of_ble_eq_true rfl) (Nat.le_of_ble_eq_true rfl) ?_
    exact xA (J_j (jv108 s99.1)) rfl
 ·exact xA (hk s99.1) rfl
theorem zDa.ok (a1:(List Pack)) (a2:(List Int)) (s56:((List zR)×Int)) (x58:Int) (x60:Pack) (q:Wd) (kn:(List zR)→Option (D×List Ent)) (hk:∀v:(List zR),J (q.g Tryz.prog 177 0 77) zKu (atI zKu 29903) (St.mk' [(1,sl 1 zS a2),(2,pp 0),(5,rr 5 v),(7,pp 2),(8,pp 3),(14,sl 1 zS a2),(15,iv (a2.length:Int)),(16,iv s56.2)] [(0,.box [sl 8 (Pack.enc false) a1]),(2,.box [iv x58]),(3,.box (Pack.enc false x60)),(5,rE 3 zR.enc v)]) (some v) kn):
  ∀s79:((List zR)×Int),J (q.g Tryz.prog 177 0 77) zKu (atI zKu 239220) (St.mk' [(1,sl 1 zS a2),(2,pp 0),(5,rr 5 s79.1),(7,pp 2),(8,pp 3),(14,sl 1 zS a2),(15,iv (a2.length:Int)),(16,iv s56.2),(39,sl 1 (eSl false 7 Term.enc) x60.Needs),(40,iv (x60.Needs.length:Int)),(41,iv s79.2)] [(0,.box [sl 8 (Pack.enc false) a1]),(2,.box [iv x58]),(3,.box (Pack.enc false x60)),(5,rE 3 zR.enc s79.1)]) (zDa a1 a2 s56 x58 x60 s79) kn:=by
 refine kQ (fun g ih s79=>?_)
 unfold zCH
 refine J_d 478440 [] [42] [(42,bv (decide (s79.2< (x60.Needs.length:Int))))] [] [] zB ?_
 refine zD 42 (fun h80=>?_) (fun h80=>?_)
 ·refine zA (fun x81 h82=>?_)
  refine J_d 7655064 [(3,6)] [9,10,42] [(9,iv s79.2),(10,pp 6)] [6] [(6,.box [sl 7 Term.enc x81])] (zF 1 (tL (kk:=.i64) 100 75 1 (eSl false 7 Term.enc) (.tmp 39) (.tmp 41) h82) zB) ?_
  refine zA (fun x83 h84=>?_)
  refine J_d 15310130 [] [10,49] [(49,bv (!x83))] [6] [] (zF 2 (zGj [(0,.box [sl 8 (Pack.enc false) a1]),(6,.box [sl 7 Term.enc x81])] [] (uJ («as»:=[sl 1 zS a2,.fn 246 [pp 0,pp 6]]) [(.tmp 46),(.tmp 47)] [39,174] false [(0,.box [sl 8 (Pack.enc false) a1]),(6,.box [sl 7 Term.enc x81])] [0,6] (.cons (.same rfl) (.cons (.fn (.cons (.pt rfl) (.cons (.pt rfl) (.nil)))) (.nil))) (zY.ok a2 a1 x81) h84 (.same rfl rfl))) zB) ?_
  refine xS (aft zKu 3827532) (fun v88:(List zR)=>St.mk' [(1,sl 1 zS a2),(2,pp 0),(5,rr 7 v88),(7,pp 2),(8,pp 3),(14,sl 1 zS a2),(15,iv (a2.length:Int)),(16,iv s56.2),(39,sl 1 (eSl false 7 Term.enc) x60.Needs),(40,iv (x60.Needs.length:Int)),(41,iv s79.2)] [(0,.box [sl 8 (Pack.enc false) a1]),(2,.box [iv x58]),(3,.box (Pack.enc false x60)),(7,rE 3 zR.enc v88)]) (fun v88=>?_) (fun jv88=>?_)
  ·refine J_d 1913767 [] [41] [(41,iv (w64 (s79.2+1)))] [] [] zB ?_
   refine zBR 7 5 (Nat.le_of_ble_eq_true rfl) (Nat.le_of_ble_eq_true rfl) ?_
   exact J_q (J_b (ih (v88,w64 (s79.2+1)))) rfl
  ·refine zD 49 (fun h85=>?_) (fun h85=>?_)
   ·refine zA (fun x86 h87=>?_)
    refine J_d 30620262 [] [5,9,49] [(5,rr 7 x86)] [5,7] [(7,rE 3 zR.enc x86)] (zF 4 (zE6 133 199 3 6 zR.enc [({Kind:=2,Pack:=x58,At:=s79.2}:zR)] [0] [(.tmp 53)] [.ag [iv 2,iv x58,iv s79.2]]) (zF 5 (zHJ 133 133 199 199 3 24 7 5 6 zR.enc (.tmp 50) (.tmp 54) h87) zB)) ?_
    exact xA (J_j (jv88 x86)) rfl
   ·refine zBR 5 7 (Nat.le_of_ble_eq_true rfl) (Nat.le_of_ble_eq_true rfl) ?_
    exact xA (J_j (jv88 s79.1)) rfl
 ·exact xA (hk s79.1) rfl
theorem zDi.ok (a1:(List Pack)) (a2:(List Int)) (q:Wd) (kn:(List zR)→Option (D×List Ent)) (hk:∀v:(List zR),J (q.g Tryz.prog 177 0 77) zKu (atI zKu 15) (St.mk' [(5,rr 1 v)] [(1,rE 3 zR.enc v)]) (some v) kn):
  ∀s56:((List zR)×Int),J (q.g Tryz.prog 177 0 77) zKu (atI zKu 116) (St.mk' [(1,sl 1 zS a2),(2,pp 0),(5,rr 1 s56.1),(14,sl 1 zS a2),(15,iv (a2.length:Int)),(16,iv s56.2)] [(0,.box [sl 8 (Pack.enc false) a1]),(1,rE 3 zR.enc s56.1)]) (zDi a1 a2 s56) kn:=by
 refine kQ (fun g ih s56=>?_)
 unfold zCB
 refine J_d 232 [] [17] [(17,bv (decide (s56.2< (a2.length:Int))))] [] [] zB ?_
 refine zD 17 (fun h57=>?_) (fun h57=>?_)
 ·refine zA (fun x58 h59=>?_)
  refine J_d 3736 [(3,2)] [6,7,17] [(6,iv s56.2),(7,pp 2)] [2] [(2,.box [iv x58])] (zF 1 (tL (kk:=.i64) 39 2 1 zS (.tmp 14) (.tmp 16) h59) zB) ?_
  refine zA (fun x60 h61=>?_)
  refine J_d 7474 [(4,3)] [8] [(8,pp 3)] [3] [(3,.box (Pack.enc false x60))] (zF 2 (tL (kk:=.i64) 30 102 8 (Pack.enc false) (.tmp 21) (.tmp 22) h61) zB) ?_
  refine zA (fun x62 h63=>?_)
  refine zA (fun x64 h65=>?_)
  refine J_d 29900 [] [6,32] [(32,bv (decide (x64≥0)))] [] [] (zF 3 (zQJ 39 2 1 zS (.tmp 26) none (some (.tmp 27)) h63) (zF 6 (xU [(.tmp 25),(.tmp 28),(.tmp 30)] [30,39,9] (zEe.ok a1 x62 x60.Name) h65) zB)) ?_
  refine xS (atI zKu 14951) (fun v69:(List zR)=>St.mk' [(1,sl 1 zS a2),(2,pp 0),(5,rr 5 v69),(7,pp 2),(8,pp 3),(14,sl 1 zS a2),(15,iv (a2.length:Int)),(16,iv s56.2)] [(0,.box [sl 8 (Pack.enc false) a1]),(2,.box [iv x58]),(3,.box (Pack.enc false x60)),(5,rE 3 zR.enc v69)]) (fun v69=>?_) (fun jv69=>?_)
  ·refine J_d 59804 [] [39,40,41] [(39,sl 1 (eSl false 7 Term.enc) x60.Needs),(40,iv (x60.Needs.length:Int)),(41,iv 0)] [] [] zB ?_
   refine zEH (zDa.ok a1 a2 s56 x58 x60 q _ (fun v89=>J_j ?_) (v69,0))
   refine J_d 59806 [] [8,58,59,60] [(58,sl 7 Term.enc x60.Bars),(59,iv (x60.Bars.length:Int)),(60,iv 0)] [3] [] zB ?_
   refine zEH (zDk.ok a1 a2 s56 x58 x60 q _ (fun v109=>J_j ?_) (v89,0))
   refine J_d 935 [] [16] [(16,iv (w64 (s56.2+1)))] [] [] zB ?_
   refine zBR 5 1 (Nat.le_of_ble_eq_true rfl) (Nat.le_of_ble_eq_true rfl) ?_
   exact J_q (J_b (ih (v109,w64 (s56.2+1)))) rfl
  ·refine zD 32 (fun h66=>?_) (fun h66=>?_)
   ·refine zA (fun x67 h68=>?_)
    refine J_d 59802 [] [5,32] [(5,rr 5 x67)] [1,5] [(5,rE 3 zR.enc x67)] (zF 3 (zE6 133 199 3 4 zR.enc [({Kind:=1,Pack:=x58,At:=0}:zR)] [0] [(.tmp 35)] [.ag [iv 1,iv x58,iv 0]]) (zF 4 (zHJ 133 133 199 199 3 24 5 1 4 zR.enc (.tmp 33) (.tmp 36) h68) zB)) ?_
    exact xA (J_j (jv69 x67)) rfl
   ·refine zBR 1 5 (Nat.le_of_ble_eq_true rfl) (Nat.le_of_ble_eq_true rfl) ?_
    exact xA (J_j (jv69 s56.1)) rfl
 ·exact xA (hk s56.1) rfl
theorem zD6.ok (a1:(List Pack)) (a2:(List Int)):Ok Tryz.prog 177 [sl 8 (Pack.enc false) a1,sl 1 zS a2] [] ((zD6 a1 a2).map fun r=>(so 3 zR.enc r,[])):=by
 refine zG zKu Tryz.f177 0 77 (fun q=>?_)
 unfold zD6
 refine J_g 2 [(0,0)] [(1,sl 1 zS a2),(2,pp 0)] [(0,.box [sl 8 (Pack.enc false) a1])] zB ?_
 refine J_g 6 [] [(1,sl 1 zS a2),(2,pp 0),(5,rr 1 ([]:List zR))] [(0,.box [sl 8 (Pack.enc false) a1]),(1,rE 3 zR.enc ([]:List zR))] (zF 0 (zE6 133 199 3 1 zR.enc ([]:List zR) [] [] []) zB) ?_
 refine J_d 28 [] [14,15,16] [(14,sl 1 zS a2),(15,iv (a2.length:Int)),(16,iv 0)] [] [] zB ?_
 refine zEH (zDi.ok a1 a2 q _ (fun v110=>J_j ?_) (([]:List zR),0))
 refine J_g 30 [] [(4,rr 1 v110)] [(1,rE 3 zR.enc v110)] zB ?_
 exact zCT (ds:=[rr 1 v110]) (ds':=[so 3 zR.enc v110]) (.cons (.cell (.move (.head _) (List.length_map _) (by decide) (.nil))) (.nil) (by decide)) rfl
noncomputable def zRT:Code:=(Tryz.f102.body).getD .skip
theorem jA.ok (a1:(List Pack)) (a2:(List Int)):Ok Tryz.prog 102 [sl 8 (Pack.enc false) a1,sl 1 zS a2] [] ((jA a1 a2).map fun r=>(bv r,[])):=by
 refine zG zRT Tryz.f102 0 10 (fun q=>?_)
 unfold jA
 refine J_d 2 [] [] [] [] [] zB ?_
 refine zA (fun x3 h4=>?_)
 refine J_g 6 [] [(4,bv ((x3.length:Int)==0))] [] (zF 2 (uJ («as»:=[sl 8 (Pack.enc false) a1,sl 1 zS a2]) [(.tmp 5),(.tmp 6)] [30,39] false [] [] (.cons (.same rfl) (.cons (.same rfl) (.nil))) (zD6.ok a1 a2) h4 (.own 0)) zB) ?_
 exact zN rfl
noncomputable def zSx:Code:=(Tryz.f132.body).getD .skip
theorem tC.ok (a1:(List Int)):Ok Tryz.prog 132 [sl 1 zS a1] [] ((tC a1).map fun r=>(so 1 zS r,[])):=by
 refine zG zSx Tryz.f132 0 8 (fun q=>?_)
 unfold tC
 refine J_g 2 [] [(0,sl 1 zS a1)] [] zB ?_
 refine J_d 12 [] [4] [(4,.nb a1.length)] [] [] (zF 1 (zN6 (xs:=a1) 39 2 39 1 zS (.tmp 3)) zB) ?_
 refine zR8 4 rfl (fun h2=>?_) ?_
 ·obtain rfl:a1=[]:=List.eq_nil_of_length_eq_zero h2
  refine zOR (e':=some ([]:List Int)) (by kernel_rfl) ?_
  refine J_g 52 [] [(2,nv)] [] zB ?_
  exact zCT (ds:=[nv]) (ds':=[so 1 zS ([]:List Int)]) (.cons (.cell (.nilsl true 1 (.nil))) (.nil) (by decide)) rfl
 ·refine zA (fun x3 h4=>?_)
  refine J_g 14 [] [(2,rr 1 x3)] [(1,rE 1 zS x3)] (zF 0 (zE6 39 2 1 0 zS ([]:List Int) [] [] []) (zF 2 (zNx 39 39 2 2 1 8 1 0 zS (.tmp 5) (.tmp 6) h4) zB)) ?_
  exact zCT (ds:=[rr 1 x3]) (ds':=[so 1 zS x3]) (.cons (.cell (.move (.head _) (List.length_map _) (by decide) (.nil))) (.nil) (by decide)) rfl
noncomputable def zS8:Code:=(Tryz.f252.body).getD .skip
theorem uY.ok (a1:Version):Ok Tryz.prog 252 [.ag (Version.enc a1)] [] ((uY a1).map fun r=>(sv r,[])):=by
 refine zG zS8 Tryz.f252 0 16 (fun q=>?_)
 unfold uY
 refine J_g 2 [(0,0)] [(1,pp 0)] [(0,.box (Version.enc a1))] zB ?_
 refine zA (fun x2 h3=>?_)
 refine zA (fun x4 h5=>?_)
 refine zA (fun x6 h7=>?_)
 refine zA (fun x8 h9=>?_)
 refine zA (fun x10 h11=>?_)
 refine zA (fun x12 h13=>?_)
 refine zA (fun x14 h15=>?_)
 refine J_g 6 [] [(2,sv x14)] [] (zF 2 (xU [(.tmp 4)] [2] (zAj.ok a1.A) h3) (zF 3 (zEE 9 9 (.tmp 5) (.const (.string (bs [46]))) h5) (zF 6 (xU [(.tmp 8)] [2] (zAj.ok a1.B) h7) (zF 7 (zEE 9 9 (.tmp 6) (.tmp 9) h9) (zF 8 (zEE 9 9 (.tmp 10) (.const (.string (bs [46]))) h11) (zF 11 (xU [(.tmp 13)] [2] (zAj.ok a1.C) h13) (zF 12 (zEE 9 9 (.tmp 11) (.tmp 14) h15) zB))))))) ?_
 exact zN rfl
noncomputable def zS0:Code:=(Tryz.f180.body).getD .skip
theorem zAT.ok (a1:Pack):Ok Tryz.prog 180 [.ag (Pack.enc false a1)] [] ((zAT a1).map fun r=>(sv r,[])):=by
 refine zG zS0 Tryz.f180 0 11 (fun q=>?_)
 unfold zAT
 refine J_g 2 [(0,0)] [(1,pp 0)] [(0,.box (Pack.enc false a1))] zB ?_
 refine zA (fun x2 h3=>?_)
 refine zA (fun x4 h5=>?_)
 refine zA (fun x6 h7=>?_)
 refine zA (fun x8 h9=>?_)
 refine J_g 6 [] [(2,sv x8)] [] (zF 2 (zEE 9 9 (.const (.string (bs [112,107,103,47]))) (.tmp 4) h3) (zF 3 (zEE 9 9 (.tmp 5) (.const (.string (bs [45]))) h5) (zF 6 (xU [(.tmp 8)] [99] (uY.ok a1.Version) h7) (zF 7 (zEE 9 9 (.tmp 6) (.tmp 9) h9) zB)))) ?_
 exact zN rfl
noncomputable def c182:Code:=(Tryz.f182.body).getD .skip
theorem zAD.ok (a1:Pack) (q:Wd) (kn:(List Int)→Option (D×List Ent)) (hk:∀v:(List Int),J (q.g Tryz.prog 182 0 47) c182 (atI c182 63) (St.mk' [(5,rr 1 v)] [(1,rE 1 eU8 v)]) (some v) kn):
  ∀s13:(Int×(List Int)×Int),J (q.g Tryz.prog 182 0 47) c182 (atI c182 500) (St.mk' [(3,uv s13.1),(5,rr 1 s13.2.1),(35,iv a1.Size),(36,iv s13.2.2)] [(1,rE 1 eU8 s13.2.1)]) (zAD a1 s13) kn:=by
 refine kQ (fun g ih s13=>?_)
 unfold kZ
 refine J_d 1000 [] [37] [(37,bv (decide (s13.2.2<a1.Size)))] [] [] zB ?_
 refine zD 37 (fun h14=>?_) (fun h14=>?_)
 ·refine zA (fun x15 h16=>?_)
  refine J_g 16024 [] [(3,uv s13.1),(5,rr 3 x15),(35,iv a1.Size),(36,iv s13.2.2)] [(3,rE 1 eU8 x15)] (zF 2 (zE6 121 5 1 2 eU8 [s13.1] [0] [(.tmp 39)] [uv s13.1]) (zF 3 (zHJ 121 121 5 5 1 1 3 1 2 eU8 (.tmp 38) (.tmp 40) h16) zB)) ?_
  refine J_g 16025 [] [(3,uv (IntKind.u8.wrap ((IntKind.u8.wrap (31*s13.1))+7))),(5,rr 3 x15),(35,iv a1.Size),(36,iv s13.2.2)] [(3,rE 1 eU8 x15)] zB ?_
  refine J_d 4007 [] [36] [(36,iv (w64 (s13.2.2+1)))] [] [] zB ?_
  refine zBR 3 1 (Nat.le_of_ble_eq_true rfl) (Nat.le_of_ble_eq_true rfl) ?_
  exact J_q (J_b (ih (IntKind.u8.wrap ((IntKind.u8.wrap (31*s13.1))+7),x15,w64 (s13.2.2+1)))) rfl
 ·exact xA (hk s13.2.1) rfl
theorem zAx.ok (a1:Pack) (q:Wd) (kn:Int→Option (D×List Ent)) (hk:∀v:Int,J (q.g Tryz.prog 182 0 47) c182 (atI c182 15) (St.mk' [(1,pp 0),(3,uv v)] [(0,.box (Pack.enc false a1))]) (some v) kn):
  ∀s5:(Int×Int),J (q.g Tryz.prog 182 0 47) c182 (atI c182 116) (St.mk' [(1,pp 0),(3,uv s5.1),(22,iv (a1.Name.size:Int)),(23,iv s5.2)] [(0,.box (Pack.enc false a1))]) (zAx a1 s5) kn:=by
 refine kQ (fun g ih s5=>?_)
 unfold kV
 refine J_d 232 [] [24] [(24,bv (decide (s5.2< (a1.Name.size:Int))))] [] [] zB ?_
 refine zD 24 (fun h6=>?_) (fun h6=>?_)
 ·refine J_d 3736 [] [4,24] [(4,iv s5.2)] [] [] zB ?_
  refine zA (fun x7 h8=>?_)
  refine J_g 3737 [] [(1,pp 0),(3,uv (IntKind.u8.wrap (s5.1+x7))),(22,iv (a1.Name.size:Int)),(23,iv s5.2)] [(0,.box (Pack.enc false a1))] (zF 4 (zJZ (kk:=.i64) 9 (.tmp 28) (.tmp 29) h8) zB) ?_
  refine J_d 935 [] [23] [(23,iv (w64 (s5.2+1)))] [] [] zB ?_
  exact J_q (J_b (ih (IntKind.u8.wrap (s5.1+x7),w64 (s5.2+1)))) rfl
 ·exact xA (hk s5.1) rfl
theorem zAi.ok (a1:Pack):Ok Tryz.prog 182 [.ag (Pack.enc false a1)] [] ((zAi a1).map fun r=>(so 1 eU8 r,[])):=by
 refine zG c182 Tryz.f182 0 47 (fun q=>?_)
 unfold zAi
 refine J_g 2 [(0,0)] [(1,pp 0)] [(0,.box (Pack.enc false a1))] zB ?_
 refine J_g 6 [] [(1,pp 0),(3,uv (IntKind.u8.wrap ((IntKind.u8.wrap ((IntKind.u8.wrap (a1.Version.A))+(IntKind.u8.wrap (a1.Version.B))))+(IntKind.u8.wrap (a1.Version.C)))))] [(0,.box (Pack.enc false a1))] zB ?_
 refine J_d 28 [] [22,23] [(22,iv (a1.Name.size:Int)),(23,iv 0)] [] [] zB ?_
 refine zEH (zAx.ok a1 q _ (fun v9=>J_j ?_) (IntKind.u8.wrap ((IntKind.u8.wrap ((IntKind.u8.wrap (a1.Version.A))+(IntKind.u8.wrap (a1.Version.B))))+(IntKind.u8.wrap (a1.Version.C))),0))
 refine J_g 30 [] [(1,pp 0),(3,uv v9),(5,rr 1 ([]:List Int))] [(0,.box (Pack.enc false a1)),(1,rE 1 eU8 ([]:List Int))] (zF 0 (zE6 121 5 1 1 eU8 ([]:List Int) [] [] []) zB) ?_
 refine J_d 124 [] [1,35,36] [(35,iv a1.Size),(36,iv 0)] [0] [] zB ?_
 refine zEH (zAD.ok a1 q _ (fun v17=>J_j ?_) (v9,([]:List Int),0))
 refine J_g 126 [] [(2,rr 1 v17)] [(1,rE 1 eU8 v17)] zB ?_
 exact zCT (ds:=[rr 1 v17]) (ds':=[so 1 eU8 v17]) (.cons (.cell (.move (.head _) (List.length_map _) (by decide) (.nil))) (.nil) (by decide)) rfl
noncomputable def zQG:Code:=(Tryz.f181.body).getD .skip
theorem jC.ok (a1:(List Int)) (a2:(List Int)) (q:Wd) (kn:Unit→Option (D×List Ent)) (hk:∀v:Unit,J (q.g Tryz.prog 181 0 26) zQG (atI zQG 15) (St.mk' [] []) (some v) kn):
  ∀s10:Int,J (q.g Tryz.prog 181 0 26) zQG (atI zQG 116) (St.mk' [(0,sl 1 eU8 a1),(1,sl 1 eU8 a2),(12,iv (a1.length:Int)),(13,iv s10)] []) (jC a1 a2 s10) (Fl.go (fun r:Bool=>some (bv r,[])) kn):=by
 refine kQ (fun g ih s10=>?_)
 unfold uO
 refine J_d 232 [] [14] [(14,bv (decide (s10< (a1.length:Int))))] [] [] zB ?_
 refine zD 14 (fun h11=>?_) (fun h11=>?_)
 ·refine J_d 3736 [] [5,14] [(5,iv s10)] [] [] zB ?_
  refine zA (fun x12 h13=>?_)
  refine zA (fun x14 h15=>?_)
  refine J_d 7474 [] [5,24] [(24,bv (x12 !=x14))] [] [] (zF 2 (tL (kk:=.i64) 121 5 1 eU8 (.tmp 16) (.tmp 17) h13) (zF 6 (tL (kk:=.i64) 121 5 1 eU8 (.tmp 20) (.tmp 21) h15) zB)) ?_
  refine zD 24 (fun h16=>?_) (fun h16=>?_)
  ·refine J_g 29900 [] [(4,bv false)] [] zB ?_
   exact zN rfl
  ·refine J_d 935 [] [13,24] [(13,iv (w64 (s10+1)))] [] [] zB ?_
   exact J_q (J_b (ih (w64 (s10+1)))) rfl
 ·exact xA (hk ()) rfl
theorem uG.ok (a1:(List Int)) (a2:(List Int)):Ok Tryz.prog 181 [sl 1 eU8 a1,sl 1 eU8 a2] [] ((uG a1 a2).map fun r=>(bv r,[])):=by
 refine zG zQG Tryz.f181 0 26 (fun q=>?_)
 unfold uG
 refine J_g 2 [] [(0,sl 1 eU8 a1),(1,sl 1 eU8 a2)] [] zB ?_
 refine J_d 12 [] [10] [(10,bv ((a1.length:Int) !=(a2.length:Int)))] [] [] zB ?_
 refine zD 10 (fun h3=>?_) (fun h3=>?_)
 ·refine J_g 52 [] [(4,bv false)] [] zB ?_
  exact zN rfl
 ·refine J_d 28 [] [10,12,13] [(12,iv (a1.length:Int)),(13,iv 0)] [] [] zB ?_
  refine uR (K0:=(fun r:Bool=>some (bv r,[]))) (fun _=>rfl) (jC.ok a1 a2 q _ (fun v17=>J_j ?_) 0)
  refine J_g 30 [] [(4,bv true)] [] zB ?_
  exact zN rfl
noncomputable def zS7:Code:=(Tryz.f179.body).getD .skip
theorem zAF.ok (a1:Int) (a2:zC) (a3:(List Pack)):Ok Tryz.prog 179 [iv a1,pp 0,pp 1] [.box (zC.enc false a2),.box [sl 8 (Pack.enc false) a3]] ((zAF a1 a2 a3).map fun r=>(bv r,[.box (zC.enc false a2),.box [sl 8 (Pack.enc false) a3]])):=by
 refine zG zS7 Tryz.f179 2 29 (fun q=>?_)
 unfold zAF
 refine J_d 2 [] [] [] [] [] zB ?_
 refine zA (fun x4 h5=>?_)
 refine zA (fun x6 h7=>?_)
 refine zA (fun x8 h9=>?_)
 refine J_d 6 [] [1,5,6] [(5,sl 1 eU8 x8.1),(6,bv x8.2)] [] [] (zF 3 (tL (kk:=.i64) 30 102 8 (Pack.enc false) (.tmp 9) (.tmp 10) h5) (zF 5 (xU [(.tmp 12)] [102] (zAT.ok x4) h7) (zF 6 (xU [(.tmp 8),(.tmp 13)] [33,9] (yT.ok a2 x6) h9) zB))) ?_
 refine wH (fun h10=>?_) (fun h10=>?_)
 ·refine J_d 14 [] [0,2,4,5,6] [(4,bv true)] [] [] (xW 2 [(18,bv (!x8.2))] [] h10 zB) ?_
  exact zN rfl
 ·refine zA (fun x11 h12=>?_)
  refine zA (fun x13 h14=>?_)
  refine zA (fun x15 h16=>?_)
  refine J_d 14 [] [0,2,4,5,6] [(4,bv (!x15))] [] [] (xW 2 [(18,bv (!x8.2))] [] h10 (zBS 6 2 19 false (tL (kk:=.i64) 30 102 8 (Pack.enc false) (.tmp 21) (.tmp 22) h12) (zBS 8 2 19 false (uJ («as»:=[.ag (Pack.enc false x11)]) [(.tmp 24)] [102] false [] [] (.cons (.same rfl) (.nil)) (zAi.ok x11) h14 (.own 2)) (zBS 9 2 19 false (uJ («as»:=[sl 1 eU8 x8.1,rr 2 x13]) [(.tmp 20),(.tmp 25)] [121,121] true [(2,rE 1 eU8 x13)] [] (.cons (.same rfl) (.cons (zFe (.head _) (fun _=>rfl) rfl) (.nil))) (uG.ok x8.1 x13) h16 (.same rfl rfl) (hbor:=fun _=>⟨fhN,yJ⟩)) zB)))) ?_
  exact zN rfl
noncomputable def zRJ:Code:=(Tryz.f251.body).getD .skip
theorem yY.ok (a1:Int) (a2:zC) (a3:(List Pack)):Ok Tryz.prog 251 [iv a1,.pb [.fn 179 [pp 0,pp 1]]] [.box (zC.enc false a2),.box [sl 8 (Pack.enc false) a3]] ((yY a1 a2 a3).map fun r=>(bv r,[.box (zC.enc false a2),.box [sl 8 (Pack.enc false) a3]])):=by
 refine zG zRJ Tryz.f251 2 8 (fun q=>?_)
 unfold yY
 refine J_d 2 [] [] [] [] [] zB ?_
 refine zA (fun x4 h5=>?_)
 refine J_d 6 [] [0,1,3] [(3,bv (!x4))] [] [] (zF 0 (zHt (d:=.fn 179 [pp 0,pp 1]) 174 (.tmp 1) [.fn 179 [pp 0,pp 1]]) (zF 2 (zGj [(0,.box (zC.enc false a2)),(1,.box [sl 8 (Pack.enc false) a3])] [] (zJg 4 [(.tmp 5)] [2] false [(0,.box (zC.enc false a2)),(1,.box [sl 8 (Pack.enc false) a3])] [0,1] [iv a1] [pp 0,pp 1] (.cons (.same rfl) (.cons (.pt rfl) (.cons (.pt rfl) (.nil)))) (zAF.ok a1 a2 a3) h5 (.same rfl rfl))) zB)) ?_
 exact zN rfl
theorem yO.ok (a1:(List Int)) (a2:zC) (a3:(List Pack)) (q:Wd) (kn:Unit→Option (D×List Ent)) (hk:∀v:Unit,J (q.g Tryz.prog 203 3 19) c203 (atI c203 7) (St.mk' [] [(0,rE 1 zS a1),(1,.box (zC.enc false a2)),(2,.box [sl 8 (Pack.enc false) a3])]) (some v) kn):
  ∀s10:Int,J (q.g Tryz.prog 203 3 19) c203 (atI c203 52) (St.mk' [(0,rr 0 a1),(1,.fn 251 [.pb [.fn 179 [pp 1,pp 2]]]),(7,iv (a1.length:Int)),(8,iv s10)] [(0,rE 1 zS a1),(1,.box (zC.enc false a2)),(2,.box [sl 8 (Pack.enc false) a3])]) (yO a1 a2 a3 s10) (Fl.go (fun r:Int=>some (iv r,[rE 1 zS a1,.box (zC.enc false a2),.box [sl 8 (Pack.enc false) a3]])) kn):=by
 refine kQ (fun g ih s10=>?_)
 unfold zV
 refine J_d 104 [] [9] [(9,bv (decide (s10< (a1.length:Int))))] [] [] zB ?_
 refine zD 9 (fun h11=>?_) (fun h11=>?_)
 ·refine J_d 1688 [] [5,9] [(5,iv s10)] [] [] zB ?_
  refine zA (fun x12 h13=>?_)
  refine zA (fun x14 h15=>?_)
  refine J_d 3378 [] [16] [(16,bv x14)] [] [] (zF 3 (tY (kk:=.i64) 39 2 1 0 zS (.tmp 12) (.tmp 13) h13) (zF 4 (zDR (d:=iv x12) 2 1 0 0 zS (.tmp 14) h13 (by kernel_rfl)) (zF 5 (zGj [(1,.box (zC.enc false a2)),(2,.box [sl 8 (Pack.enc false) a3])] [] (zJg 11 [(.tmp 15)] [2] false [(1,.box (zC.enc false a2)),(2,.box [sl 8 (Pack.enc false) a3])] [1,2] [iv x12] [.pb [.fn 179 [pp 1,pp 2]]] (.cons (.same rfl) (.cons (.pb (.cons (.fn (.cons (.pt rfl) (.cons (.pt rfl) (.nil)))) (.nil))) (.nil))) (yY.ok x12 a2 a3) h15 (.same rfl rfl))) zB))) ?_
  refine zD 16 (fun h16=>?_) (fun h16=>?_)
  ·refine J_d 13516 [] [0,1,4,5,7,8,16] [(4,iv s10)] [] [] zB ?_
   exact zN rfl
  ·refine J_d 423 [] [5,8,16] [(8,iv (w64 (s10+1)))] [] [] zB ?_
   exact J_q (J_b (ih (w64 (s10+1)))) rfl
 ·exact xA (hk ()) rfl
theorem yA.ok (a1:(List Int)) (a2:zC) (a3:(List Pack)):Ok Tryz.prog 203 [rr 0 a1,.fn 251 [.pb [.fn 179 [pp 1,pp 2]]]] [rE 1 zS a1,.box (zC.enc false a2),.box [sl 8 (Pack.enc false) a3]] ((yA a1 a2 a3).map fun r=>(iv r,[rE 1 zS a1,.box (zC.enc false a2),.box [sl 8 (Pack.enc false) a3]])):=by
 refine zG c203 Tryz.f203 3 19 (fun q=>?_)
 unfold yA
 refine J_g 2 [] [(0,rr 0 a1),(1,.fn 251 [.pb [.fn 179 [pp 1,pp 2]]])] [(0,rE 1 zS a1),(1,.box (zC.enc false a2)),(2,.box [sl 8 (Pack.enc false) a3])] zB ?_
 refine J_d 12 [] [7,8] [(7,iv (a1.length:Int)),(8,iv 0)] [] [] zB ?_
 refine uR (K0:=(fun r:Int=>some (iv r,[rE 1 zS a1,.box (zC.enc false a2),.box [sl 8 (Pack.enc false) a3]]))) (fun _=>rfl) (yO.ok a1 a2 a3 q _ (fun v17=>J_j ?_) 0)
 refine J_d 14 [] [4] [(4,iv (-1))] [] [] zB ?_
 exact zN rfl
noncomputable def zPS:Code:=(Tryz.f250.body).getD .skip
theorem yI.ok (a2:zC) (a3:(List Pack)) (q:Wd) (kn:((List Int)×Int)→Option (D×List Ent)) (hk:∀v:((List Int)×Int),J (q.g Tryz.prog 250 3 42) zPS (atI zPS 31) (St.mk' [(0,rr 2 v.1),(5,iv v.2)] [(0,.box (zC.enc false a2)),(1,.box [sl 8 (Pack.enc false) a3]),(2,rE 1 zS v.1)]) (some v) kn):
  ∀s16:((List Int)×Int×Int),J (q.g Tryz.prog 250 3 42) zPS (atI zPS 244) (St.mk' [(0,rr 2 s16.1),(1,.fn 251 [.pb [.fn 179 [pp 0,pp 1]]]),(5,iv s16.2.1),(6,iv s16.2.2)] [(0,.box (zC.enc false a2)),(1,.box [sl 8 (Pack.enc false) a3]),(2,rE 1 zS s16.1)]) (yI a2 a3 s16) kn:=by
 refine kQ (fun g ih s16=>?_)
 unfold zU
 refine J_d 976 [] [19] [(19,bv (decide (s16.2.2< (s16.1.length:Int))))] [] [] zB ?_
 refine zD 19 (fun h17=>?_) (fun h17=>?_)
 ·refine zA (fun x18 h19=>?_)
  refine J_d 3912 [] [7,19] [(7,iv x18)] [] [] (zF 2 (tY (kk:=.i64) 39 2 1 2 zS (.tmp 22) (.tmp 23) h19) (zF 3 (zDR (d:=iv x18) 2 1 2 0 zS (.tmp 24) h19 (by kernel_rfl)) zB)) ?_
  refine zA (fun x20 h21=>?_)
  refine J_d 7826 [] [29] [(29,bv (!x20))] [] [] (zF 2 (zGj [(0,.box (zC.enc false a2)),(1,.box [sl 8 (Pack.enc false) a3])] [] (zJg 26 [(.tmp 27)] [2] false [(0,.box (zC.enc false a2)),(1,.box [sl 8 (Pack.enc false) a3])] [0,1] [iv x18] [.pb [.fn 179 [pp 0,pp 1]]] (.cons (.same rfl) (.cons (.pb (.cons (.fn (.cons (.pt rfl) (.cons (.pt rfl) (.nil)))) (.nil))) (.nil))) (yY.ok x18 a2 a3) h21 (.same rfl rfl))) zB) ?_
  refine xS (aft zPS 1956) (fun v25:((List Int)×Int)=>St.mk' [(0,rr 2 v25.1),(1,.fn 251 [.pb [.fn 179 [pp 0,pp 1]]]),(5,iv v25.2),(6,iv s16.2.2)] [(0,.box (zC.enc false a2)),(1,.box [sl 8 (Pack.enc false) a3]),(2,rE 1 zS v25.1)]) (fun v25=>?_) (fun jv25=>?_)
  ·refine J_d 979 [] [6] [(6,iv (w64 (s16.2.2+1)))] [] [] zB ?_
   exact J_q (J_b (ih (v25.1,v25.2,w64 (s16.2.2+1)))) rfl
  ·refine zD 29 (fun h22=>?_) (fun h22=>?_)
   ·refine zA (fun x23 h24=>?_)
    refine J_g 31308 [] [(0,rr 2 s16.1),(1,.fn 251 [.pb [.fn 179 [pp 0,pp 1]]]),(5,iv s16.2.1),(6,iv s16.2.2)] [(0,.box (zC.enc false a2)),(1,.box [sl 8 (Pack.enc false) a3]),(2,rE 1 zS (s16.1.set s16.2.1.toNat x18))] (zF 3 (tY (kk:=.i64) 39 2 1 2 zS (.tmp 30) (.tmp 31) h24) (zFR 4 (zHI (b:=x18) 2 1 2 0 zS (iv x18) (.tmp 33) (.tmp 32) h24 rfl) zB)) ?_
    refine zFo (σ':=St.mk' [(0,rr 2 (s16.1.set s16.2.1.toNat x18)),(1,.fn 251 [.pb [.fn 179 [pp 0,pp 1]]]),(5,iv s16.2.1),(6,iv s16.2.2)] [(0,.box (zC.enc false a2)),(1,.box [sl 8 (Pack.enc false) a3]),(2,rE 1 zS (s16.1.set s16.2.1.toNat x18))]) (by simp only [rr,List.length_set]) ?_
    refine J_d 31309 [] [5] [(5,iv (w64 (s16.2.1+1)))] [] [] zB ?_
    exact xA (J_j (jv25 (s16.1.set s16.2.1.toNat x18,w64 (s16.2.1+1)))) rfl
   ·exact xA (J_j (jv25 (s16.1,s16.2.1))) rfl
 ·exact xA (hk (s16.1,s16.2.1)) rfl
theorem zP.ok (a1:(List Int)) (a2:zC) (a3:(List Pack)):Ok Tryz.prog 250 [rr 2 a1,.fn 251 [.pb [.fn 179 [pp 0,pp 1]]]] [.box (zC.enc false a2),.box [sl 8 (Pack.enc false) a3],rE 1 zS a1] ((zP a1 a2 a3).map fun r=>(so 1 zS r,[.box (zC.enc false a2),.box [sl 8 (Pack.enc false) a3]])):=by
 refine zG zPS Tryz.f250 3 42 (fun q=>?_)
 unfold zP
 refine J_d 2 [] [] [] [] [] zB ?_
 refine zA (fun x4 h5=>?_)
 refine J_g 6 [] [(0,rr 2 a1),(1,.fn 251 [.pb [.fn 179 [pp 0,pp 1]]]),(5,iv x4)] [(0,.box (zC.enc false a2)),(1,.box [sl 8 (Pack.enc false) a3]),(2,rE 1 zS a1)] (zF 2 (zGj [(2,rE 1 zS a1),(0,.box (zC.enc false a2)),(1,.box [sl 8 (Pack.enc false) a3])] [] (uJ («as»:=[rr 2 a1,.fn 251 [.pb [.fn 179 [pp 0,pp 1]]]]) [(.tmp 8),(.tmp 9)] [39,174] false [(2,rE 1 zS a1),(0,.box (zC.enc false a2)),(1,.box [sl 8 (Pack.enc false) a3])] [2,0,1] (.cons (.rf rfl) (.cons (.fn (.cons (.pb (.cons (.fn (.cons (.pt rfl) (.cons (.pt rfl) (.nil)))) (.nil))) (.nil))) (.nil))) (yA.ok a1 a2 a3) h5 (.same rfl rfl))) zB) ?_
 refine J_d 28 [] [12] [(12,bv (x4==(-1)))] [] [] zB ?_
 refine zD 12 (fun h6=>?_) (fun h6=>?_)
 ·refine J_g 116 [] [(4,rr 2 a1)] [(0,.box (zC.enc false a2)),(1,.box [sl 8 (Pack.enc false) a3]),(2,rE 1 zS a1)] zB ?_
  exact zCT (ds:=[rr 2 a1]) (ds':=[so 1 zS a1]) (.cons (.cell (.move (.tail _ (.tail _ (.head _))) (List.length_map _) (by decide) (.nil))) (.nil) (by decide)) rfl
 ·refine J_d 60 [] [6,12] [(6,iv (w64 (x4+1)))] [] [] zB ?_
  refine zEH (yI.ok a2 a3 q _ (fun v26=>J_j ?_) (a1,x4,w64 (x4+1)))
  refine zA (fun x27 h28=>?_)
  refine zA (fun x29 h30=>?_)
  refine J_g 62 [] [(0,rr 2 v26.1),(5,iv v26.2)] [(0,.box (zC.enc false a2)),(1,.box [sl 8 (Pack.enc false) a3]),(2,rE 1 zS x29)] (zF 2 (zOF 39 2 1 2 zS (.tmp 36) (some (.tmp 37)) none h28) (zFR 3 (zQu (l:=v26.2) (a:=0) 39 2 1 2 zS (.tmp 38) h30 (.keep rfl (.nil))) zB)) ?_
  refine zFo (σ':=St.mk' [(0,rr 2 x29),(5,iv v26.2)] [(0,.box (zC.enc false a2)),(1,.box [sl 8 (Pack.enc false) a3]),(2,rE 1 zS x29)]) (by simp only [rr,zLt h30]) ?_
  refine zA (fun x31 h32=>?_)
  refine J_g 126 [] [(4,rr 3 x31)] [(0,.box (zC.enc false a2)),(1,.box [sl 8 (Pack.enc false) a3]),(3,rE 1 zS x31)] (zF 2 (zOg 39 2 1 2 3 zS (.tmp 39) none (some (.tmp 40)) h32) zB) ?_
  exact zCT (ds:=[rr 3 x31]) (ds':=[so 1 zS x31]) (.cons (.cell (.move (.tail _ (.tail _ (.head _))) (List.length_map _) (by decide) (.nil))) (.nil) (by decide)) rfl
noncomputable def zS6:Code:=(Tryz.f178.body).getD .skip
theorem wQ.ok (a1:(List Int)) (a2:zC) (a3:(List Pack)):Ok Tryz.prog 178 [sl 1 zS a1,.fn 179 [pp 0,pp 1]] [.box (zC.enc false a2),.box [sl 8 (Pack.enc false) a3]] ((wQ a1 a2 a3).map fun r=>(so 1 zS r,[.box (zC.enc false a2),.box [sl 8 (Pack.enc false) a3]])):=by
 refine zG zS6 Tryz.f178 2 9 (fun q=>?_)
 unfold wQ
 refine J_d 2 [] [1,3] [(3,.pb [.fn 179 [pp 0,pp 1]])] [] [] (zF 0 (zMG 174 (.tmp 1) (.fn 179 [pp 0,pp 1])) zB) ?_
 refine zA (fun x4 h5=>?_)
 refine zA (fun x6 h7=>?_)
 refine J_g 6 [] [(4,rr 3 x6)] [(0,.box (zC.enc false a2)),(1,.box [sl 8 (Pack.enc false) a3]),(3,rE 1 zS x6)] (zF 1 (uJ («as»:=[sl 1 zS a1]) [(.tmp 5)] [39] false [] [] (.cons (.same rfl) (.nil)) (tC.ok a1) h5 (.own 2)) (zF 3 (uJ («as»:=[rr 2 x4,.fn 251 [.pb [.fn 179 [pp 0,pp 1]]]]) [(.tmp 6),(.tmp 7)] [39,174] false [(0,.box (zC.enc false a2)),(1,.box [sl 8 (Pack.enc false) a3]),(2,rE 1 zS x4)] [0,1,2] (.cons (.rf rfl) (.cons (.fn (.cons (.pb (.cons (.fn (.cons (.pt rfl) (.cons (.pt rfl) (.nil)))) (.nil))) (.nil))) (.nil))) (zP.ok x4 a2 a3) h7 (.own 3)) zB)) ?_
 exact zCT (ds:=[rr 3 x6]) (ds':=[so 1 zS x6]) (.cons (.cell (.move (.tail _ (.tail _ (.head _))) (List.length_map _) (by decide) (.nil))) (.nil) (by decide)) rfl
noncomputable def zRK:Code:=(Tryz.f103.body).getD .skip
theorem zCv.ok (a1:(List Pack)) (a2:zC) (a3:(List Int)):Ok Tryz.prog 103 [sl 8 (Pack.enc false) a1,.ag (zC.enc false a2),sl 1 zS a3] [] ((zCv a1 a2 a3).map fun r=>(so 1 zS r,[])):=by
 refine zG zRK Tryz.f103 0 10 (fun q=>?_)
 unfold zCv
 refine J_g 2 [(0,0),(1,1)] [(2,sl 1 zS a3),(3,pp 0),(4,pp 1)] [(0,.box [sl 8 (Pack.enc false) a1]),(1,.box (zC.enc false a2))] zB ?_
 refine zA (fun x4 h5=>?_)
 refine J_g 6 [] [(6,rr 2 x4)] [(2,rE 1 zS x4)] (zF 2 (zGj [(1,.box (zC.enc false a2)),(0,.box [sl 8 (Pack.enc false) a1])] [(2,rE 1 zS x4)] (uJ («as»:=[sl 1 zS a3,.fn 179 [pp 1,pp 0]]) [(.tmp 7),(.tmp 8)] [39,174] false [(1,.box (zC.enc false a2)),(0,.box [sl 8 (Pack.enc false) a1])] [1,0] (.cons (.same rfl) (.cons (.fn (.cons (.pt rfl) (.cons (.pt rfl) (.nil)))) (.nil))) (wQ.ok a3 a2 a1) h5 (.own 2))) zB) ?_
 exact zCT (ds:=[rr 2 x4]) (ds':=[so 1 zS x4]) (.cons (.cell (.move (.head _) (List.length_map _) (by decide) (.nil))) (.nil) (by decide)) rfl
noncomputable def c49:Code:=(Tryz.f49.body).getD .skip
theorem zCi.ok (a1:(List Pack)) (a2:zC) (a3:(List Int)):Ok Tryz.prog 49 [sl 8 (Pack.enc false) a1,.ag (zC.enc false a2),sl 1 zS a3] [] ((zCi a1 a2 a3).map fun r=>(bv r,[])):=by
 refine zG c49 Tryz.f49 0 18 (fun q=>?_)
 unfold zCi
 refine J_d 2 [(0,0)] [1,4] [(4,pp 0)] [0] [(0,.box (zC.enc false a2))] zB ?_
 refine zA (fun x4 h5=>?_)
 refine wH (fun h6=>?_) (fun h6=>?_)
 ·refine zA (fun x7 h8=>?_)
  refine J_g 6 [] [(6,bv ((x7.length:Int)==0))] [] (zF 2 (xU [(.tmp 7),(.tmp 8)] [30,39] (jA.ok a1 a3) h5) (xW 3 [(9,bv x4)] [] h6 (zBS 7 3 10 true (uJ («as»:=[sl 8 (Pack.enc false) a1,.ag (zC.enc false a2),sl 1 zS a3]) [(.tmp 11),(.tmp 12),(.tmp 13)] [30,33,39] false [] [] (.cons (.same rfl) (.cons (.same rfl) (.cons (.same rfl) (.nil)))) (zCv.ok a1 a2 a3) h8 (.own 1)) zB))) ?_
  exact zN rfl
 ·refine J_g 6 [] [(6,bv false)] [] (zF 2 (xU [(.tmp 7),(.tmp 8)] [30,39] (jA.ok a1 a3) h5) (xW 3 [(9,bv x4)] [] h6 zB)) ?_
  exact zN rfl
section
open Go.Shelf Go.RowKit Go.Lib
set_option linter.unusedVariables false
set_option linter.unusedSimpArgs false
set_option maxHeartbeats 4000000 in
set_option maxRecDepth 100000 in
theorem zLP (b off n c i vb voff m vc:Nat) (cs vs:List Value) (w:World) (hi:i<n) (hm:0<m) (hroom:n+m≤c) (h63:n+m≤9223372036854775807) (hvb:vb≠b)
  (hcl:cs.length=n*2) (hvl:vs.length=m*2)
  (hcs:∀j v,cs[j]? =some v→w.cell? ⟨b,off+j,none⟩=some v) (hsp:∀j,j< (n+m)*2→(w.cell? ⟨b,off+j,none⟩).isSome =true) (hfz:∀j,j< (n+m)*2→w.frozen? ⟨b,off+j,none⟩=false)
  (hvs:∀j v,vs[j]? =some v→w.cell? ⟨vb,voff+j,none⟩=some v) (h1c:∀v∈cs,v.oneCell'=true) (h1v:∀v∈vs,v.oneCell'=true)
  (tA tB:TypeId) (kA kB:Nat) (hsa:w.shape? vb=some (tA,kA)) (hsb:w.shape? b=some (tB,kB)) (hkB:kB≠0) (hfa:w.frozen? ⟨vb,voff,none⟩=false) (hfe:w.frozen? ⟨vb,kA,none⟩=false):
  Calls Tryz.prog 220 #[.slice (some ⟨b,off,none⟩) n c,.int .i64 i,.slice (some ⟨vb,voff,none⟩) m vc] w fun e w'=>
   e= .returned (.slice (some ⟨b,off,none⟩) (n+m) c)∧w'=(w.drew.setCells b (off+(i+m)*2) (cs.drop (i*2))).setCells b (off+i*2) vs:=by
 have hz1:¬((m:Int)=0):=by omega
 have hz2:¬((i:Int)=(n:Int)):=by omega
 have hsz:(Tryz.prog.info? 138).map (·.size)=some 2:=by kernel_rfl
 have hov:∀lb cb,(callFunc 281 #[.slice (some ⟨vb,voff,none⟩) m vc,.slice (some ⟨b,off+(i+m)*2,none⟩) lb cb]).run Tryz.prog w= .ok (.value (.bool false)) w:=fun lb cb=>by
  rw [run_callFunc_extern Tryz.func281 (by kernel_rfl) (by kernel_rfl) (by kernel_rfl) (e:=Extern.SlicesOverlaps.overlaps #[31,31] #[4]) (by kernel_rfl),
   Lib.run_overlaps_apart w 31 4 138 Tryz.underlying31 2 Tryz.sizeOf138 ⟨vb,voff,none⟩ ⟨b,off+(i+m)*2,none⟩ m vc lb cb hvb tA tB kA kB hsa hsb hkB hfa hfe]
  rfl
 have hdl:(cs.drop (i*2)).length =(n-i)*2:=by rw [List.length_drop,hcl]; omega
 have mixed:Tryz.prog.follows .mixedOrders =true:=by kernel_rfl
 have hw1:IntKind.i64.wrap ((i:Int)+(m:Int))=(i:Int)+(m:Int):=by rw [IntKind.wrap_i64]; omega
 have hb1:(0:Int)≤(i:Int)+(m:Int):=by omega
 have hin:i≤n:=by omega
 have htn:((i:Int)+(m:Int)).toNat =i+m:=by omega
 have hb2:¬(c=i+m):=by omega
 have hb3:(i:Int)≤(n:Int)+(m:Int):=by omega
 have hb4:¬(c=i):=by omega
 have hcp1:∀ty dc sc,(Builtin.copy_ #[31,31] ty #[.slice (some ⟨b,off+(i+m)*2,none⟩) (n+m-(i+m)) dc,.slice (some ⟨b,off+i*2,none⟩) (n+m-i) sc]).run Tryz.prog w.drew= .ok (goInt (Nat.min (n+m-i) (n+m-(i+m)))) (w.drew.setCells b (off+(i+m)*2) (cs.drop (i*2))):=fun ty dc sc=>
  zF5 w.drew _ _ ty 138 2 b (off+(i+m)*2) (n+m-(i+m)) dc ⟨b,off+i*2,none⟩ (n+m-i) sc (cs.drop (i*2)) Tryz.underlying31 hsz (by rw [hdl]; simp only [Nat.min_def]; split<;>omega)
   (fun j v hj=>by rw [Addr.add_lit,Nat.add_assoc]; exact hcs (i*2+j) v (by rwa [List.getElem?_drop] at hj))
   (fun j hj=>by rw [Nat.add_assoc]; exact hsp _ (by omega)) (fun j hj=>by rw [Nat.add_assoc]; exact hfz _ (by omega)) (fun v hv=>h1c v (List.mem_of_mem_drop hv))
 obtain ⟨W1,hW1⟩:∃W1,W1=w.drew.setCells b (off+(i+m)*2) (cs.drop (i*2)):=⟨_,rfl⟩
 have hsp1:∀k,k< (n+m)*2→(W1.cell? ⟨b,off+k,none⟩).isSome =true:=fun k hk=>by
  rw [hW1]
  exact isSome_setCells b _ _ _ (fun j hj=>by rw [Nat.add_assoc]; exact hsp _ (by omega)) _ (hsp k hk)
 have hcp2:∀(W:World),(∀x,W.cell? x=W1.cell? x)→(∀x,W.frozen? x=W1.frozen? x)→∀ty dc,(Builtin.copy_ #[31,31] ty #[.slice (some ⟨b,off+i*2,none⟩) (n+m-i) dc,.slice (some ⟨vb,voff,none⟩) m vc]).run Tryz.prog W= .ok (goInt (Nat.min m (n+m-i))) (W.setCells b (off+i*2) vs):=fun W hWc hWf ty dc=>
  zF5 W _ _ ty 138 2 b (off+i*2) (n+m-i) dc ⟨vb,voff,none⟩ m vc vs Tryz.underlying31 hsz (by rw [hvl]; simp only [Nat.min_def]; split<;>omega)
   (fun j v hj=>by
    rw [Addr.add_lit,hWc,hW1,World.cell?_setCells_out b _ _ _ _ (fun h _=>absurd h hvb)]
    exact hvs j v hj)
   (fun j hj=>by rw [hWc,Nat.add_assoc]; exact hsp1 _ (by omega)) (fun j hj=>by rw [hWf,hW1,World.frozen?_setCells,Nat.add_assoc]; exact hfz _ (by omega)) h1v
 rw [←hW1] at hcp1
 clear hsp hfz hcs hvs hsp1 h1c h1v hdl hcl hvl
 go_enter Tryz.func220,Tryz.ntmps220
 go_wp2_with (simp only [hov])
 go_region_law_o (refine step_copy_runI rfl _ _ 31 31 rfl _ _ (by simp [Act.eval,Act.put]) (by simp [Act.eval,Act.put]) (hcp1 _ _ _) ?_)
 go_wp2_with (at_builtin; refine wpList_copy_runI _ rfl _ _ 31 31 rfl _ _ rfl rfl (hcp2 _ (fun _=>rfl) (fun _=>rfl) _ _) ?_)
 go_ret
 first|exact ⟨rfl,rfl⟩|exact ⟨rfl,by rw [hW1]⟩
set_option maxHeartbeats 4000000 in
set_option maxRecDepth 100000 in
theorem zLA (base:Option Addr) (n c vb voff m vc:Nat) (w w1:World) (r:Value) (hm:0<m) (hnc:n≤c) (h63:n+m≤9223372036854775807) (hnil:base=none→n=0∧c=0)
  (hrun:(Builtin.append_ #[31,31] 31 #[.slice base n c,.slice (some ⟨vb,voff,none⟩) m vc]).run Tryz.prog w= .ok r w1):
  Calls Tryz.prog 220 #[.slice base n c,.int .i64 n,.slice (some ⟨vb,voff,none⟩) m vc] w fun e w'=>e= .returned r∧w'=w1:=by
 have hz1:¬((m:Int)=0):=by omega
 have mixed:Tryz.prog.follows .mixedOrders =true:=by kernel_rfl
 go_enter Tryz.func220,Tryz.ntmps220
 cases base with
 |none=>
  obtain ⟨rfl,rfl⟩:=hnil rfl
  go_wp2_with (at_builtin; refine Lib.wpList_append_run _ rfl _ _ _ _ rfl _ _ rfl rfl _ _ hrun ?_)
  go_ret
  exact ⟨rfl,rfl⟩
 |some a=>
  obtain ⟨ab,ao,asp⟩:=a
  go_wp2_with (at_builtin; refine Lib.wpList_append_run _ rfl _ _ _ _ rfl _ _ rfl rfl _ _ hrun ?_)
  all_goals (go_ret; exact ⟨rfl,rfl⟩)
set_option maxHeartbeats 4000000 in
set_option maxRecDepth 100000 in
theorem zM9 (b off n c i vb voff m vc:Nat) (cs vs:List Value) (w:World) (hi:i<n) (hm:0<m) (hnc:n≤c) (hroom:c<n+m) (hbig:(n+m)*40≤140737488355328)
  (hcl:cs.length=n*2) (hvl:vs.length=m*2)
  (hcs:∀j v,cs[j]? =some v→w.cell? ⟨b,off+j,none⟩=some v)
  (hvs:∀j v,vs[j]? =some v→w.cell? ⟨vb,voff+j,none⟩=some v) (h1c:∀v∈cs,v.oneCell'=true) (h1v:∀v∈vs,v.oneCell'=true) (zv:Value) (hzv:Tryz.t138.zero=some zv) (hzs:zv.cells.size=2):
  Calls Tryz.prog 220 #[.slice (some ⟨b,off,none⟩) n c,.int .i64 i,.slice (some ⟨vb,voff,none⟩) m vc] w fun e w'=>
   e= .returned (.slice (some ⟨w.heap.size,0,none⟩) (n+m) (grownCap w (n+m) c 138))∧
   w'=(((w.alloc (.cells ((cs.take (i*2)).toArray ++Builtin.zeroCells zv.cells (n+m-i)++Builtin.zeroCells zv.cells (grownCap w (n+m) c 138-(n+m))) 138)).drew.setCells w.heap.size (i*2) vs).drew).setCells w.heap.size ((i+m)*2) (cs.drop (i*2)):=by
 have mixed:Tryz.prog.follows .mixedOrders =true:=by kernel_rfl
 have hi0:Tryz.prog.info? 138=some Tryz.t138:=by kernel_rfl
 have hzz:Tryz.t138.size=2:=by kernel_rfl
 have hzb:Tryz.t138.bytes=40:=by kernel_rfl
 have hz1:¬((m:Int)=0):=by omega
 have hz2:¬((i:Int)=(n:Int)):=by omega
 have hz3:(c:Int)< (n:Int)+(m:Int):=by omega
 have hsz:(Tryz.prog.info? 138).map (·.size)=some 2:=by kernel_rfl
 have hbw:b<w.heap.size:=block_lt_of_cell (hcs 0 _ (List.getElem?_eq_getElem (by omega)))
 have hvw:vb<w.heap.size:=block_lt_of_cell (hvs 0 _ (List.getElem?_eq_getElem (by omega)))
 have hkk:(n:Int)+(m:Int)-(i:Int)=((n+m-i:Nat):Int):=by omega
 have hik:i+(n+m-i)=n+m:=by omega
 have hold:(Builtin.firstCells Tryz.t138.size i (.slice (some ⟨b,off,none⟩) i c)).run Tryz.prog w.drew= .ok (cs.take (i*2)).toArray w.drew:=by
  rw [hzz]
  exact run_firstCells_some w.drew 2 i ⟨b,off,none⟩ i c (cs.take (i*2)) (by rw [List.length_take]; omega) (fun j v hj=>by
   rw [Addr.add_lit]
   rw [List.getElem?_take] at hj
   split at hj
   ·exact hcs j v hj
   ·cases hj)
 have hrz:∀ty,(Builtin.append_ #[31,3] ty #[.slice (some ⟨b,off,none⟩) i c,.int .i64 ((n:Int)+(m:Int)-(i:Int))]).run Tryz.prog w=
   .ok (.slice (some ⟨w.heap.size,0,none⟩) (n+m) (grownCap w (n+m) c 138)) (w.drew.alloc (.cells ((cs.take (i*2)).toArray ++Builtin.zeroCells zv.cells (n+m-i)++Builtin.zeroCells zv.cells (grownCap w (n+m) c 138-(n+m))) 138)):=fun ty=>by
  have h:=Lib.run_append_grow_zeros w 31 3 ty 138 Tryz.t138 _ .i64 .i64 Tryz.underlying31 Tryz.underlying3 hi0 hzv (some ⟨b,off,none⟩) i c (cs.take (i*2)) hold (n+m-i) (by omega) (by omega) (by omega) (by omega) (by rw [hzb]; omega) (by rw [hzb,hik]; exact growslice_fits hroom hbig)
  rw [hik] at h
  rw [hkk]
  exact h
 obtain ⟨G,hG⟩:∃G,G=grownCap w (n+m) c 138:=⟨_,rfl⟩
 obtain ⟨ROW,hROW⟩:∃ROW:Array Value,ROW=(cs.take (i*2)).toArray ++Builtin.zeroCells zv.cells (n+m-i)++Builtin.zeroCells zv.cells (G-(n+m)):=⟨_,rfl⟩
 rw [←hG] at hrz ⊢
 rw [←hROW] at hrz ⊢
 have hRl:(n+m)*2≤ROW.size:=by
  rw [hROW]
  simp [Builtin.zeroCells,hzs]
  omega
 obtain ⟨W1,hW1⟩:∃W1,W1=w.drew.alloc (.cells ROW 138):=⟨_,rfl⟩
 rw [←hW1] at hrz
 have hN:∀j,j< (n+m)*2→(W1.cell? ⟨w.heap.size,j,none⟩).isSome =true:=fun j hj=>by
  rw [hW1,World.cell?_alloc_at (w:=w.drew) ROW _ w.heap.size j rfl,Array.getElem?_eq_getElem (by omega)]; rfl
 have hNf:∀j,W1.frozen? ⟨w.heap.size,j,none⟩=false:=fun j=>by rw [hW1]; exact World.frozen?_alloc_at (w:=w.drew) ROW _ w.heap.size j rfl
 have hOb:∀j v,w.cell? ⟨b,j,none⟩=some v→W1.cell? ⟨b,j,none⟩=some v:=fun j v h=>by rw [hW1,World.cell?_alloc_past (w:=w.drew) _ b j hbw]; exact h
 have hOv:∀j v,w.cell? ⟨vb,j,none⟩=some v→W1.cell? ⟨vb,j,none⟩=some v:=fun j v h=>by rw [hW1,World.cell?_alloc_past (w:=w.drew) _ vb j hvw]; exact h
 have hcpA:∀(W:World),(∀x,W.cell? x=W1.cell? x)→(∀x,W.frozen? x=W1.frozen? x)→∀ty dc,(Builtin.copy_ #[31,31] ty #[.slice (some ⟨w.heap.size,i*2,none⟩) (n+m-i) dc,.slice (some ⟨vb,voff,none⟩) m vc]).run Tryz.prog W= .ok (goInt (Nat.min m (n+m-i))) (W.setCells w.heap.size (i*2) vs):=fun W hWc hWf ty dc=>
  zF5 W _ _ ty 138 2 w.heap.size (i*2) (n+m-i) dc ⟨vb,voff,none⟩ m vc vs Tryz.underlying31 hsz (by rw [hvl]; simp only [Nat.min_def]; split<;>omega)
   (fun j v hj=>by rw [Addr.add_lit,hWc]; exact hOv _ v (hvs j v hj))
   (fun j hj=>by rw [hWc]; exact hN _ (by omega)) (fun j hj=>by rw [hWf]; exact hNf _) h1v
 have hGn:n+m≤G:=by rw [hG]; exact grownCap_ge w _ _ _
 have hG63:G≤9223372036854775807:=by
  have:=grownCap_le_maxLen w (n+m) c 138 (by unfold maxLen; omega)
  rw [←hG] at this
  unfold maxLen at this
  omega
 have hGi:¬(G=i):=by omega
 have hGim:¬(G=i+m):=by omega
 have hci:¬(c=i):=by omega
 have hbN:b≠w.heap.size:=by omega
 have hdl:(cs.drop (i*2)).length =(n-i)*2:=by rw [List.length_drop,hcl]; omega
 have hcpB:∀(W:World),(∀x,W.cell? x=(W1.setCells w.heap.size (i*2) vs).cell? x)→(∀x,W.frozen? x=(W1.setCells w.heap.size (i*2) vs).frozen? x)→∀ty dc sc,(Builtin.copy_ #[31,31] ty #[.slice (some ⟨w.heap.size,(i+m)*2,none⟩) (n+m-(i+m)) dc,.slice (some ⟨b,off+i*2,none⟩) (n-i) sc]).run Tryz.prog W= .ok (goInt (Nat.min (n-i) (n+m-(i+m)))) (W.setCells w.heap.size ((i+m)*2) (cs.drop (i*2))):=fun W hWc hWf ty dc sc=>
  zF5 W _ _ ty 138 2 w.heap.size ((i+m)*2) (n+m-(i+m)) dc ⟨b,off+i*2,none⟩ (n-i) sc (cs.drop (i*2)) Tryz.underlying31 hsz (by rw [hdl]; simp only [Nat.min_def]; split<;>omega)
   (fun j v hj=>by
    rw [Addr.add_lit,hWc,World.cell?_setCells_out _ _ _ _ _ (fun h _=>absurd h hbN),Nat.add_assoc]
    exact hOb _ v (hcs (i*2+j) v (by rwa [List.getElem?_drop] at hj)))
   (fun j hj=>by rw [hWc]; exact isSome_setCells _ _ _ _ (fun t ht=>hN _ (by omega)) _ (hN _ (by omega)))
   (fun j hj=>by rw [hWf,World.frozen?_setCells]; exact hNf _) (fun v hv=>h1c v (List.mem_of_mem_drop hv))
 subst hW1
 have hE1:∀x,((w.alloc (.cells ROW 138)).drew).cell? x=(w.drew.alloc (.cells ROW 138)).cell? x:=fun x=>rfl
 have hE2:∀x,((w.alloc (.cells ROW 138)).drew).frozen? x=(w.drew.alloc (.cells ROW 138)).frozen? x:=fun x=>rfl
 have hF1:∀x,(((w.alloc (.cells ROW 138)).drew.setCells w.heap.size (i*2) vs).drew).cell? x=((w.drew.alloc (.cells ROW 138)).setCells w.heap.size (i*2) vs).cell? x:=fun x=>rfl
 have hF2:∀x,(((w.alloc (.cells ROW 138)).drew.setCells w.heap.size (i*2) vs).drew).frozen? x=((w.drew.alloc (.cells ROW 138)).setCells w.heap.size (i*2) vs).frozen? x:=fun x=>rfl
 have hw1:IntKind.i64.wrap ((i:Int)+(m:Int))=(i:Int)+(m:Int):=by rw [IntKind.wrap_i64]; omega
 have hb1:(0:Int)≤(i:Int)+(m:Int):=by omega
 have hin:i≤n:=by omega
 have htn:((i:Int)+(m:Int)).toNat =i+m:=by omega
 have hb3:(i:Int)≤(n:Int):=by omega
 clear hkk hik hold hROW hG hRl hcs hvs hOb hOv hN hNf h1c h1v hcl hvl hdl hzv hzs
 go_enter Tryz.func220,Tryz.ntmps220
 go_wp2_with (first
  |(at_builtin; refine Lib.wpList_append_run _ rfl _ _ _ _ rfl _ _ rfl rfl _ _ (hrz _) ?_)
  |(at_builtin; refine wpList_copy_runI _ rfl _ _ 31 31 rfl _ _ rfl rfl (hcpA _ hE1 hE2 _ _) ?_)
  |(at_builtin; refine wpList_copy_runI _ rfl _ _ 31 31 rfl _ _ rfl rfl (hcpB _ (fun _=>rfl) (fun _=>rfl) _ _ _) ?_))
 go_region_law_o (refine step_copy_runI rfl _ _ 31 31 rfl (.slice (some ⟨w.heap.size,(i+m)*2,none⟩) (n+m-(i+m)) (G-(i+m))) (.slice (some ⟨b,off+i*2,none⟩) (n-i) (c-i)) (by simp [Act.eval,Act.put]) (by simp [Act.eval,Act.put]) (hcpB _ hF1 hF2 3 (G-(i+m)) (c-i)) ?_)
 go_wp2
 go_ret
 exact ⟨rfl,rfl⟩
theorem zOe (n m:Nat) (i:Int) (h0:0≤i) (h1:i≤n) (hm:0<m) (hbig:n+m≤1099511627776) (w:World) (v u:Value) (wx wy:List Value) (bx bz:List Nat) (hD1:Dst w 2 n v wx bx) (hD2:Dst w 2 m u wy bz) (hd:∀b∈bx,b∉bz) (q1:∀q∈wx,Value.oneCell q=true) (q2:∀q∈wy,Value.oneCell q=true):
  Calls Tryz.prog 220 #[v,.int .i64 i,u] w fun e w'=>∃r,e= .returned r∧zMz w w' 2 (n+m) 0 (wx.take (i.toNat*2)++(wy++wx.drop (i.toNat*2))) [] bx r:=by
 obtain ⟨k,rfl⟩:=Int.eq_ofNat_of_zero_le h0
 have hk:k≤n:=by omega
 rw [Int.toNat_natCast]
 have e1:∀q∈wx,q.oneCell'=true:=fun q hq=>by rw [zG4]; exact q1 q hq
 have e2:∀q∈wy,q.oneCell'=true:=fun q hq=>by rw [zG4]; exact q2 q hq
 rcases hD2 with ⟨_,hm0,_⟩|⟨vb,voff,vc,rfl,rfl,hmc,hO2,hl2⟩
 ·omega
 have hvs:∀j v,wy[j]? =some v→w.cell? ⟨vb,voff+j,none⟩=some v:=fun j v hj=>by
  obtain ⟨hlt,rfl⟩:=List.getElem?_eq_some_iff.1 hj
  exact hO2.has.cell j hlt
 by_cases hkn:k=n
 ·subst hkn
  have hsrc:Go.Src Tryz.prog 2 31 (.slice (some ⟨vb,voff,none⟩) m vc) m wy w:=zFr Tryz.underlying31 q2 (.inr ⟨vb,voff,vc,rfl,hO2.has,hl2⟩)
  have hl1:wx.length=k*2:=by
   rcases hD1 with ⟨_,rfl,rfl,_⟩|⟨_,_,_,_,_,_,_,h⟩
   ·rfl
   ·exact h
  obtain ⟨r,w1,hrun,hA⟩:=zF1 (ty:=31) (T:=31) (U:=31) (bytes:=40) (zv:=zHH Tryz.prog 138) Tryz.underlying31 (by kernel_rfl) (by kernel_rfl) hD1 hsrc (by omega) (by omega)
  have hA':zMz w w1 2 (k+m) 0 (wx.take (k*2)++(wy++wx.drop (k*2))) [] bx r:=by
   rw [List.take_of_length_le (by omega),List.drop_of_length_le (by omega),List.append_nil]
   obtain ⟨g1,g2⟩:=hA
   refine ⟨g1,?_⟩
   rcases g2 with ⟨g2,_⟩|⟨b,off,c,g3,g4,g5,g6⟩
   ·omega
   ·exact .inr ⟨b,off,c,g3,g4,by rw [List.append_nil]; exact g5,g6⟩
  rcases hD1 with ⟨rfl,rfl,rfl,rfl⟩|⟨b,off,c,rfl,rfl,hnc,hO1,_⟩
  ·refine (zLA none 0 0 vb voff m vc w w1 r hm (Nat.le_refl _) (by omega) (fun _=>⟨rfl,rfl⟩) hrun).mono ?_
   rintro e w' ⟨rfl,rfl⟩
   exact ⟨_,rfl,hA'⟩
  ·refine (zLA (some ⟨b,off,none⟩) k c vb voff m vc w w1 r hm hnc (by omega) (fun h=>by cases h) hrun).mono ?_
   rintro e w' ⟨rfl,rfl⟩
   exact ⟨_,rfl,hA'⟩
 ·rcases hD1 with ⟨_,hn0,_⟩|⟨b,off,c,rfl,rfl,hnc,hO1,hl1⟩
  ·omega
  have hvb:vb≠b:=fun e=>hd b (by simp) (by simp [e])
  have hcs:∀j v,wx[j]? =some v→w.cell? ⟨b,off+j,none⟩=some v:=fun j v hj=>by
   obtain ⟨hlt,rfl⟩:=List.getElem?_eq_some_iff.1 hj
   exact hO1.has.cell j hlt
  by_cases hroom:n+m≤c
  ·obtain ⟨arr,e,lo,hi,g1,g2,g3,g4⟩:=id hO1
   obtain ⟨arr2,e',lo2,hi2,p1,p2,p3,p4⟩:=hO2
   refine (zLP b off n c k vb voff m vc wx wy w (by omega) hm hroom (by omega) hvb hl1 hl2 hcs (fun j hj=>?_) (fun j hj=>zGv g1 g2 (by omega)) hvs e1 e2 e' e arr2.size arr.size (by simp [World.shape?,p1]) (by simp [World.shape?,g1]) (by omega) (zGv p1 p2 (by omega)) (zGv p1 p2 (Nat.le_refl _))).mono ?_
   ·rw [cell_of g1,Array.getElem?_eq_getElem (by omega)]; rfl
   ·rintro e' w' ⟨rfl,rfl⟩
    refine ⟨_,rfl,?_⟩
    rw [vY,vY]
    exact zMs (w:=w) (w0:=w.drew) ⟨rfl,rfl,rfl⟩ hO1 hl1 hl2 hk hroom
  ·refine (zM9 b off n c k vb voff m vc wx wy w (by omega) hm hnc (by omega) (by omega) hl1 hl2 hcs hvs e1 e2 (zHH Tryz.prog 138) (by kernel_rfl) (by kernel_rfl)).mono ?_
   rintro e' w' ⟨rfl,rfl⟩
   refine ⟨_,rfl,?_⟩
   have hge:=grownCap_ge w (n+m) c 138
   have hz2:(zHH Tryz.prog 138).cells.size =2:=by kernel_rfl
   rw [←drew_setCells,vY,vY]
   refine zMz.world (zMB (w:=w) (w0:=(w.alloc (.cells ((wx.take (k*2)).toArray ++Builtin.zeroCells (zHH Tryz.prog 138).cells (n+m-k)++Builtin.zeroCells (zHH Tryz.prog 138).cells (grownCap w (n+m) c 138-(n+m))) 138)).drew) (c:=grownCap w (n+m) c 138) (z:=2) (blk:=[b]) ⟨rfl,rfl,rfl⟩ (fun q hq=>?_) ?_ hl1 hl2 hk hge) (by omega) rfl ⟨rfl,rfl⟩
   ·rw [Array.append_assoc,Array.getElem?_append_left (by simp; omega)]
    simp [List.getElem?_take,hq]
   ·simp [Builtin.zeroCells,hz2]
    omega
theorem vL.ok (a1:List File) (a2:Int) (a3:List File):Ok Tryz.prog 220 [rr 0 a1,iv a2,rr 1 a3] [rE 2 (File.enc true) a1,rE 2 (File.enc true) a3] ((vL a1 a2 a3).map fun r=>(so 2 (File.enc true) r,[])):=by
 unfold vL
 split
 ·rename_i h
  obtain ⟨h0,h1,h2,h3⟩:=h
  exact zM2 (fun _=>rfl) h0 h1 (fun w v u wx wy bx bz hD1 hD2 hd _ q1 q2=>zOe a1.length a3.length a2 h0 h1 h2 h3 w v u wx wy bx bz hD1 hD2 hd q1 q2)
 ·exact fun _ h=>by cases h
end
noncomputable def zRD:Code:=(Tryz.f155.body).getD .skip
theorem kW.ok (a1:zC) (a2:ByteArray) (a3:(List Int)):Ok Tryz.prog 155 [pp 0,sv a2,sl 1 eU8 a3] [.box (zC.enc true a1)] ((kW a1 a2 a3).map fun r=>(.tu [],[.box (zC.enc true r)])):=by
 refine zG zRD Tryz.f155 1 39 (fun q=>?_)
 unfold kW
 refine jK 0 (cs':=[rr 1 a1.Files,iv a1.Budget,iv a1.Writes,iv a1.Stop,bv a1.Down]) (es:=[(1,rE 2 (File.enc true) a1.Files)]) rfl (.cons (.own 1) (.cons (.same rfl rfl) (.cons (.same rfl rfl) (.cons (.same rfl rfl) (.cons (.same rfl rfl) (.nil)))))) rfl (by kernel_rfl) (by kernel_rfl) ?_
 refine zB4 [(0,pp 0),(1,sv a2),(2,sl 1 eU8 a3)] [(0,.box [rr 1 a1.Files,iv a1.Budget,iv a1.Writes,iv a1.Stop,bv a1.Down]),(1,rE 2 (File.enc true) a1.Files)] (by kernel_rfl) ?_
 refine zA (fun x4 h5=>?_)
 refine J_g 2 [] [(0,pp 0),(1,sv a2),(2,sl 1 eU8 a3),(6,iv x4.1),(7,bv x4.2)] [(0,.box [rr 1 a1.Files,iv a1.Budget,iv a1.Writes,iv a1.Stop,bv a1.Down]),(1,rE 2 (File.enc true) a1.Files)] (zF 4 (uJ («as»:=[.ag [rr 1 a1.Files,iv a1.Budget,iv a1.Writes,iv a1.Stop,bv a1.Down],sv a2]) [(.tmp 11),(.tmp 12)] [72,9] true [(1,rE 2 (File.enc true) a1.Files)] [] (.cons (.ag (.cons (zFe (.head _) (File.ro true) rfl) (.cons (.same rfl) (.cons (.same rfl) (.cons (.same rfl) (.cons (.same rfl) (.nil))))))) (.cons (.same rfl) (.nil))) (wS.ok a1 a2) h5 (.tu (.cons (.same rfl rfl) (.cons (.same rfl rfl) (.nil)))) (hbor:=fun _=>⟨fhN,(zIW (flatK yJ (flatK yJ zEU)))⟩)) zB) ?_
 refine J_d 12 [] [7,17] [(17,bv (!x4.2))] [] [] zB ?_
 refine xS (atI zRD 7) (fun v9:(List File)=>St.mk' [(0,pp 0),(2,sl 1 eU8 a3),(6,iv x4.1)] [(0,.box [rr 3 v9,iv a1.Budget,iv a1.Writes,iv a1.Stop,bv a1.Down]),(3,rE 2 (File.enc true) v9)]) (fun v9=>?_) (fun jv9=>?_)
 ·refine zA (fun x10 h11=>?_)
  refine zA (fun x12 h13=>?_)
  refine J_g 7 [] [] [(0,.box [rr 3 v9,iv a1.Budget,iv a1.Writes,iv a1.Stop,bv a1.Down]),(3,rE 2 (File.enc true) (v9.set x4.1.toNat ({Path:=x12.Path,Data:=x10}:File)))] (zF 6 (uJ («as»:=[sl 1 eU8 a3]) [(.tmp 35)] [121] false [] [] (.cons (.same rfl) (.nil)) (wL.ok a3) h11 (.own 4)) (zF 7 (tY (kk:=.i64) 31 138 2 3 (File.enc true) (.tmp 33) (.tmp 34) h13) (zFR 9 (zM1 (b:=({Path:=x12.Path,Data:=x10}:File)) (es':=[so 1 eU8 x10]) (ts:=[4]) 121 2 3 1 (File.enc true) (rr 4 x10) (.tmp 38) (.tmp 36) [(4,rE 1 eU8 x10)] h13 (.move (.head _) (List.length_map _) (by decide) (.nil)) rfl) zB))) ?_
  refine zFo (σ':=St.mk' [] [(0,.box [rr 3 (v9.set x4.1.toNat ({Path:=x12.Path,Data:=x10}:File)),iv a1.Budget,iv a1.Writes,iv a1.Stop,bv a1.Down]),(3,rE 2 (File.enc true) (v9.set x4.1.toNat ({Path:=x12.Path,Data:=x10}:File)))]) (by simp only [rr,List.length_set]) ?_
  refine jM 0 (cs':=[so 2 (File.enc true) (v9.set x4.1.toNat ({Path:=x12.Path,Data:=x10}:File)),iv a1.Budget,iv a1.Writes,iv a1.Stop,bv a1.Down]) (ts:=[3]) rfl (.move (.head _) (List.length_map _) (by decide) (.keep rfl (.keep rfl (.keep rfl (.keep rfl (.nil)))))) ?_
  refine zB4 [] [(0,.box [so 2 (File.enc true) (v9.set x4.1.toNat ({Path:=x12.Path,Data:=x10}:File)),iv a1.Budget,iv a1.Writes,iv a1.Stop,bv a1.Down])] (by kernel_rfl) ?_
  exact zOo rfl
 ·refine zD 17 (fun h6=>?_) (fun h6=>?_)
  ·refine zA (fun x7 h8=>?_)
   refine J_d 26 [] [1,17] [] [0,1,3] [(0,.box [rr 3 x7,iv a1.Budget,iv a1.Writes,iv a1.Stop,bv a1.Down]),(3,rE 2 (File.enc true) x7)] (zF 8 (zRe (ds:=[sv a2,nv]) (ts:=[]) 31 138 2 2 (File.enc true) [({Path:=a2,Data:=([]:List Int)}:File)] [0] [(.tmp 25)] [.ag [sv a2,nv]] [] (.keep rfl (.nilsl true 1 (.nil)))) (zF 9 (uJ («as»:=[rr 1 a1.Files,iv x4.1,rr 2 [({Path:=a2,Data:=([]:List Int)}:File)]]) [(.tmp 22),(.tmp 23),(.tmp 26)] [31,3,31] false [(1,rE 2 (File.enc true) a1.Files),(2,rE 2 (File.enc true) [({Path:=a2,Data:=([]:List Int)}:File)])] [1,2] (.cons (.rf rfl) (.cons (.same rfl) (.cons (.rf rfl) (.nil)))) (vL.ok a1.Files x4.1 [({Path:=a2,Data:=([]:List Int)}:File)]) h8 (.own 3)) zB)) ?_
   exact xA (J_j (jv9 x7)) rfl
  ·refine zBR 1 3 (Nat.le_of_ble_eq_true rfl) (Nat.le_of_ble_eq_true rfl) ?_
   exact xA (J_j (jv9 a1.Files)) rfl
noncomputable def c154:Code:=(Tryz.f154.body).getD .skip
theorem vK.ok (a1:zC) (a2:ByteArray) (a3:(List Int)):Ok Tryz.prog 154 [.pb [pp 0],pp 1,pp 2] [.box (zC.enc true a1),.box [sv a2],.box [sl 1 eU8 a3]] ((vK a1 a2 a3).map fun r=>(.tu [],[.box (zC.enc true r),.box [sv a2],.box [sl 1 eU8 a3]])):=by
 refine zG c154 Tryz.f154 3 7 (fun q=>?_)
 unfold vK
 refine jK 0 (cs':=[rr 3 a1.Files,iv a1.Budget,iv a1.Writes,iv a1.Stop,bv a1.Down]) (es:=[(3,rE 2 (File.enc true) a1.Files)]) rfl (.cons (.own 3) (.cons (.same rfl rfl) (.cons (.same rfl rfl) (.cons (.same rfl rfl) (.cons (.same rfl rfl) (.nil)))))) rfl (by kernel_rfl) (by kernel_rfl) ?_
 refine zB4 [(0,.pb [pp 0]),(1,pp 1),(2,pp 2)] [(0,.box [rr 3 a1.Files,iv a1.Budget,iv a1.Writes,iv a1.Stop,bv a1.Down]),(1,.box [sv a2]),(2,.box [sl 1 eU8 a3]),(3,rE 2 (File.enc true) a1.Files)] (by kernel_rfl) ?_
 refine jM 0 (cs':=[so 2 (File.enc true) a1.Files,iv a1.Budget,iv a1.Writes,iv a1.Stop,bv a1.Down]) (ts:=[3]) rfl (.move (.tail _ (.tail _ (.head _))) (List.length_map _) (by decide) (.keep rfl (.keep rfl (.keep rfl (.keep rfl (.nil)))))) ?_
 refine zB4 [(0,.pb [pp 0]),(1,pp 1),(2,pp 2)] [(0,.box (zC.enc true a1)),(1,.box [sv a2]),(2,.box [sl 1 eU8 a3])] (by kernel_rfl) ?_
 refine zA (fun x4 h5=>?_)
 refine J_g 1 [] [] [(0,.box (zC.enc true x4)),(1,.box [sv a2]),(2,.box [sl 1 eU8 a3])] (zF 0 (zHt (d:=pp 0) 72 (.tmp 0) [pp 0]) (zF 3 (uJ («as»:=[pp 0,sv a2,sl 1 eU8 a3]) [(.tmp 3),(.tmp 4),(.tmp 5)] [72,9,121] false [(0,.box (zC.enc true a1))] [0] (.cons (.pt rfl) (.cons (.same rfl) (.cons (.same rfl) (.nil)))) (kW.ok a1 a2 a3) h5 (.tu (.nil))) zB)) ?_
 refine jK 0 (cs':=[rr 3 x4.Files,iv x4.Budget,iv x4.Writes,iv x4.Stop,bv x4.Down]) (es:=[(3,rE 2 (File.enc true) x4.Files)]) rfl (.cons (.own 3) (.cons (.same rfl rfl) (.cons (.same rfl rfl) (.cons (.same rfl rfl) (.cons (.same rfl rfl) (.nil)))))) rfl (by kernel_rfl) (by kernel_rfl) ?_
 refine zB4 [] [(0,.box [rr 3 x4.Files,iv x4.Budget,iv x4.Writes,iv x4.Stop,bv x4.Down]),(1,.box [sv a2]),(2,.box [sl 1 eU8 a3]),(3,rE 2 (File.enc true) x4.Files)] (by kernel_rfl) ?_
 refine jM 0 (cs':=[so 2 (File.enc true) x4.Files,iv x4.Budget,iv x4.Writes,iv x4.Stop,bv x4.Down]) (ts:=[3]) rfl (.move (.tail _ (.tail _ (.head _))) (List.length_map _) (by decide) (.keep rfl (.keep rfl (.keep rfl (.keep rfl (.nil)))))) ?_
 refine zB4 [] [(0,.box (zC.enc true x4)),(1,.box [sv a2]),(2,.box [sl 1 eU8 a3])] (by kernel_rfl) ?_
 exact zOo rfl
noncomputable def c139:Code:=(Tryz.f139.body).getD .skip
theorem yK.ok (a1:zC) (a2:ByteArray) (a3:(List Int)):Ok Tryz.prog 139 [pp 0,.fn 154 [.pb [pp 0],pp 1,pp 2]] [.box (zC.enc true a1),.box [sv a2],.box [sl 1 eU8 a3]] ((yK a1 a2 a3).map fun r=>(iv r.1,[.box (zC.enc true r.2),.box [sv a2],.box [sl 1 eU8 a3]])):=by
 refine zG c139 Tryz.f139 3 33 (fun q=>?_)
 unfold yK
 refine jK 0 (cs':=[rr 3 a1.Files,iv a1.Budget,iv a1.Writes,iv a1.Stop,bv a1.Down]) (es:=[(3,rE 2 (File.enc true) a1.Files)]) rfl (.cons (.own 3) (.cons (.same rfl rfl) (.cons (.same rfl rfl) (.cons (.same rfl rfl) (.cons (.same rfl rfl) (.nil)))))) rfl (by kernel_rfl) (by kernel_rfl) ?_
 refine zB4 [(0,pp 0),(1,.fn 154 [.pb [pp 0],pp 1,pp 2])] [(0,.box [rr 3 a1.Files,iv a1.Budget,iv a1.Writes,iv a1.Stop,bv a1.Down]),(1,.box [sv a2]),(2,.box [sl 1 eU8 a3]),(3,rE 2 (File.enc true) a1.Files)] (by kernel_rfl) ?_
 refine J_d 2 [] [] [] [] [] zB ?_
 refine xS (atI c139 13) (fun v5:Bool=>St.mk' [(0,pp 0),(1,.fn 154 [.pb [pp 0],pp 1,pp 2]),(20,bv v5)] [(0,.box [rr 3 a1.Files,iv a1.Budget,iv a1.Writes,iv a1.Stop,bv a1.Down]),(1,.box [sv a2]),(2,.box [sl 1 eU8 a3]),(3,rE 2 (File.enc true) a1.Files)]) (fun v5=>?_) (fun jv5=>?_)
 ·refine zD 20 (fun h6=>?_) (fun h6=>?_)
  ·refine J_g 52 [] [] [(0,.box [rr 3 a1.Files,iv a1.Budget,iv a1.Writes,iv a1.Stop,bv true]),(1,.box [sv a2]),(2,.box [sl 1 eU8 a3]),(3,rE 2 (File.enc true) a1.Files)] zB ?_
   refine J_g 106 [] [(4,iv 9)] [(0,.box [rr 3 a1.Files,iv a1.Budget,iv a1.Writes,iv a1.Stop,bv true]),(1,.box [sv a2]),(2,.box [sl 1 eU8 a3]),(3,rE 2 (File.enc true) a1.Files)] zB ?_
   refine jM 0 (cs':=[so 2 (File.enc true) a1.Files,iv a1.Budget,iv a1.Writes,iv a1.Stop,bv true]) (ts:=[3]) rfl (.move (.tail _ (.tail _ (.head _))) (List.length_map _) (by decide) (.keep rfl (.keep rfl (.keep rfl (.keep rfl (.nil)))))) ?_
   refine zB4 [(4,iv 9)] [(0,.box [so 2 (File.enc true) a1.Files,iv a1.Budget,iv a1.Writes,iv a1.Stop,bv true]),(1,.box [sv a2]),(2,.box [sl 1 eU8 a3])] (by kernel_rfl) ?_
   exact zN rfl
  ·refine jM 0 (cs':=[so 2 (File.enc true) a1.Files,iv a1.Budget,iv a1.Writes,iv a1.Stop,bv a1.Down]) (ts:=[3]) rfl (.move (.tail _ (.tail _ (.head _))) (List.length_map _) (by decide) (.keep rfl (.keep rfl (.keep rfl (.keep rfl (.nil)))))) ?_
   refine zB4 [(0,pp 0),(1,.fn 154 [.pb [pp 0],pp 1,pp 2]),(20,bv false)] [(0,.box (zC.enc true a1)),(1,.box [sv a2]),(2,.box [sl 1 eU8 a3])] (by kernel_rfl) ?_
   refine zA (fun x7 h8=>?_)
   refine J_g 14 [] [(0,pp 0)] [(0,.box (zC.enc true x7)),(1,.box [sv a2]),(2,.box [sl 1 eU8 a3])] (zF 1 (zJg 24 [] [] false [(0,.box (zC.enc true a1)),(1,.box [sv a2]),(2,.box [sl 1 eU8 a3])] [0,1,2] [] [.pb [pp 0],pp 1,pp 2] (.cons (.pb (.cons (.pt rfl) (.nil))) (.cons (.pt rfl) (.cons (.pt rfl) (.nil)))) (vK.ok a1 a2 a3) h8 (.tu (.nil))) zB) ?_
   refine jK 0 (cs':=[rr 3 x7.Files,iv x7.Budget,iv x7.Writes,iv x7.Stop,bv x7.Down]) (es:=[(3,rE 2 (File.enc true) x7.Files)]) rfl (.cons (.own 3) (.cons (.same rfl rfl) (.cons (.same rfl rfl) (.cons (.same rfl rfl) (.cons (.same rfl rfl) (.nil)))))) rfl (by kernel_rfl) (by kernel_rfl) ?_
   refine zB4 [(0,pp 0)] [(0,.box [rr 3 x7.Files,iv x7.Budget,iv x7.Writes,iv x7.Stop,bv x7.Down]),(1,.box [sv a2]),(2,.box [sl 1 eU8 a3]),(3,rE 2 (File.enc true) x7.Files)] (by kernel_rfl) ?_
   refine J_g 30 [] [] [(0,.box [rr 3 x7.Files,iv x7.Budget,iv (w64 (x7.Writes+1)),iv x7.Stop,bv x7.Down]),(1,.box [sv a2]),(2,.box [sl 1 eU8 a3]),(3,rE 2 (File.enc true) x7.Files)] zB ?_
   refine J_g 62 [] [(4,iv 0)] [(0,.box [rr 3 x7.Files,iv x7.Budget,iv (w64 (x7.Writes+1)),iv x7.Stop,bv x7.Down]),(1,.box [sv a2]),(2,.box [sl 1 eU8 a3]),(3,rE 2 (File.enc true) x7.Files)] zB ?_
   refine jM 0 (cs':=[so 2 (File.enc true) x7.Files,iv x7.Budget,iv (w64 (x7.Writes+1)),iv x7.Stop,bv x7.Down]) (ts:=[3]) rfl (.move (.tail _ (.tail _ (.head _))) (List.length_map _) (by decide) (.keep rfl (.keep rfl (.keep rfl (.keep rfl (.nil)))))) ?_
   refine zB4 [(4,iv 0)] [(0,.box [so 2 (File.enc true) x7.Files,iv x7.Budget,iv (w64 (x7.Writes+1)),iv x7.Stop,bv x7.Down]),(1,.box [sv a2]),(2,.box [sl 1 eU8 a3])] (by kernel_rfl) ?_
   exact zN rfl
 ·refine wH (fun h4=>?_) (fun h4=>?_)
  ·refine J_d 12 [] [20] [(20,bv (decide (a1.Writes≥a1.Stop)))] [] [] (xW 5 [(9,bv (decide (a1.Stop≥0)))] [] h4 zB) ?_
   exact xA (J_j (jv5 (decide (a1.Writes≥a1.Stop)))) rfl
  ·refine J_d 12 [] [20] [(20,bv false)] [] [] (xW 5 [(9,bv (decide (a1.Stop≥0)))] [] h4 zB) ?_
   exact xA (J_j (jv5 false)) rfl
noncomputable def c83:Code:=(Tryz.f83.body).getD .skip
theorem vP.ok (a1:zC) (a2:ByteArray) (a3:(List Int)):Ok Tryz.prog 83 [pp 0,sv a2,sl 1 eU8 a3] [.box (zC.enc true a1)] ((vP a1 a2 a3).map fun r=>(iv r.1,[.box (zC.enc true r.2)])):=by
 refine zG c83 Tryz.f83 1 56 (fun q=>?_)
 unfold vP
 refine jK 0 (cs':=[rr 1 a1.Files,iv a1.Budget,iv a1.Writes,iv a1.Stop,bv a1.Down]) (es:=[(1,rE 2 (File.enc true) a1.Files)]) rfl (.cons (.own 1) (.cons (.same rfl rfl) (.cons (.same rfl rfl) (.cons (.same rfl rfl) (.cons (.same rfl rfl) (.nil)))))) rfl (by kernel_rfl) (by kernel_rfl) ?_
 refine zB4 [(0,pp 0),(1,sv a2),(2,sl 1 eU8 a3)] [(0,.box [rr 1 a1.Files,iv a1.Budget,iv a1.Writes,iv a1.Stop,bv a1.Down]),(1,rE 2 (File.enc true) a1.Files)] (by kernel_rfl) ?_
 refine J_d 2 [(1,2),(2,3)] [0,1,2,3,4,5] [(3,.pb [pp 0]),(4,pp 2),(5,pp 3)] [2,3] [(2,.box [sv a2]),(3,.box [sl 1 eU8 a3])] (zF 0 (zMG 72 (.tmp 0) (pp 0)) zB) ?_
 refine zA (fun x4 h5=>?_)
 refine J_d 6 [] [7,8] [(7,.ln x4.1.length),(8,bv x4.2)] [] [] (zF 0 (zHt (d:=pp 0) 72 (.tmp 3) [pp 0]) (zF 4 (uJ («as»:=[.ag [rr 1 a1.Files,iv a1.Budget,iv a1.Writes,iv a1.Stop,bv a1.Down],sv a2]) [(.tmp 12),(.tmp 13)] [72,9] true [(1,rE 2 (File.enc true) a1.Files)] [] (.cons (.ag (.cons (zFe (.head _) (File.ro true) rfl) (.cons (.same rfl) (.cons (.same rfl) (.cons (.same rfl) (.cons (.same rfl) (.nil))))))) (.cons (.same rfl) (.nil))) (zQp (fun r=>(.tu [.ln r.1.length,bv r.2],[])) (yT.ok a1 a2) (fun r=>.tu (.cons zQh (.cons .same (.nil))))) h5 (.tu (.cons (.same rfl rfl) (.cons (.same rfl rfl) (.nil)))) (hbor:=fun _=>⟨fhN,(zIW (flatK trivial (flatK yJ zEU)))⟩)) zB)) ?_
 refine zA (fun x6 h7=>?_)
 refine J_d 56 [] [17] [(17,bv (x6 !=0))] [] [] (zF 1 (xU [(.tmp 18)] [9] (vS.ok a2) h7) zB) ?_
 refine zD 17 (fun h8=>?_) (fun h8=>?_)
 ·refine J_g 228 [] [(6,iv 5)] [(0,.box [rr 1 a1.Files,iv a1.Budget,iv a1.Writes,iv a1.Stop,bv a1.Down]),(1,rE 2 (File.enc true) a1.Files)] zB ?_
  refine jM 0 (cs':=[so 2 (File.enc true) a1.Files,iv a1.Budget,iv a1.Writes,iv a1.Stop,bv a1.Down]) (ts:=[1]) rfl (.move (.head _) (List.length_map _) (by decide) (.keep rfl (.keep rfl (.keep rfl (.keep rfl (.nil)))))) ?_
  refine zB4 [(6,iv 5)] [(0,.box (zC.enc true a1))] (by kernel_rfl) ?_
  exact zN rfl
 ·refine xS (atI c83 231) (fun v11:Bool=>St.mk' [(3,.pb [pp 0]),(4,pp 2),(5,pp 3),(7,.ln x4.1.length),(21,bv v11)] [(0,.box [rr 1 a1.Files,iv a1.Budget,iv a1.Writes,iv a1.Stop,bv a1.Down]),(1,rE 2 (File.enc true) a1.Files),(2,.box [sv a2]),(3,.box [sl 1 eU8 a3])]) (fun v11=>?_) (fun jv11=>?_)
  ·refine zD 21 (fun h12=>?_) (fun h12=>?_)
   ·refine J_g 924 [] [(6,iv 2)] [(0,.box [rr 1 a1.Files,iv a1.Budget,iv a1.Writes,iv a1.Stop,bv a1.Down]),(1,rE 2 (File.enc true) a1.Files)] zB ?_
    refine jM 0 (cs':=[so 2 (File.enc true) a1.Files,iv a1.Budget,iv a1.Writes,iv a1.Stop,bv a1.Down]) (ts:=[1]) rfl (.move (.head _) (List.length_map _) (by decide) (.keep rfl (.keep rfl (.keep rfl (.keep rfl (.nil)))))) ?_
    refine zB4 [(6,iv 2)] [(0,.box (zC.enc true a1))] (by kernel_rfl) ?_
    exact zN rfl
   ·refine zA (fun x13 h14=>?_)
    refine J_d 926 [] [7,21,37] [(37,bv (decide ((w64 ((w64 (x13-(x4.1.length:Int)))+(a3.length:Int)))>a1.Budget)))] [] [] (zF 0 (zHt (d:=pp 0) 72 (.tmp 3) [pp 0]) (zF 3 (uJ («as»:=[.ag [rr 1 a1.Files,iv a1.Budget,iv a1.Writes,iv a1.Stop,bv a1.Down]]) [(.tmp 40)] [72] true [(1,rE 2 (File.enc true) a1.Files)] [] (.cons (.ag (.cons (zFe (.head _) (File.ro true) rfl) (.cons (.same rfl) (.cons (.same rfl) (.cons (.same rfl) (.cons (.same rfl) (.nil))))))) (.nil)) (vU.ok a1) h14 (.same rfl rfl) (hbor:=fun _=>⟨fhN,yJ⟩)) (zF 10 (zHt (d:=pp 0) 72 (.tmp 3) [pp 0]) zB))) ?_
    refine zD 37 (fun h15=>?_) (fun h15=>?_)
    ·refine J_g 3708 [] [(6,iv 8)] [(0,.box [rr 1 a1.Files,iv a1.Budget,iv a1.Writes,iv a1.Stop,bv a1.Down]),(1,rE 2 (File.enc true) a1.Files)] zB ?_
     refine jM 0 (cs':=[so 2 (File.enc true) a1.Files,iv a1.Budget,iv a1.Writes,iv a1.Stop,bv a1.Down]) (ts:=[1]) rfl (.move (.head _) (List.length_map _) (by decide) (.keep rfl (.keep rfl (.keep rfl (.keep rfl (.nil)))))) ?_
     refine zB4 [(6,iv 8)] [(0,.box (zC.enc true a1))] (by kernel_rfl) ?_
     exact zN rfl
    ·refine jM 0 (cs':=[so 2 (File.enc true) a1.Files,iv a1.Budget,iv a1.Writes,iv a1.Stop,bv a1.Down]) (ts:=[1]) rfl (.move (.head _) (List.length_map _) (by decide) (.keep rfl (.keep rfl (.keep rfl (.keep rfl (.nil)))))) ?_
     refine zB4 [(3,.pb [pp 0]),(4,pp 2),(5,pp 3),(37,bv false)] [(0,.box (zC.enc true a1)),(2,.box [sv a2]),(3,.box [sl 1 eU8 a3])] (by kernel_rfl) ?_
     refine zA (fun x16 h17=>?_)
     refine J_g 30 [] [(6,iv x16.1)] [(0,.box (zC.enc true x16.2))] (zF 0 (zHt (d:=pp 0) 72 (.tmp 3) [pp 0]) (zF 2 (uJ («as»:=[pp 0,.fn 154 [.pb [pp 0],pp 2,pp 3]]) [(.tmp 53),(.tmp 54)] [72,1] false [(0,.box (zC.enc true a1)),(2,.box [sv a2]),(3,.box [sl 1 eU8 a3])] [0,2,3] (.cons (.pt rfl) (.cons (.fn (.cons (.pb (.cons (.pt rfl) (.nil))) (.cons (.pt rfl) (.cons (.pt rfl) (.nil))))) (.nil))) (yK.ok a1 a2 a3) h17 (.same rfl rfl)) zB)) ?_
     refine jK 0 (cs':=[rr 1 x16.2.Files,iv x16.2.Budget,iv x16.2.Writes,iv x16.2.Stop,bv x16.2.Down]) (es:=[(1,rE 2 (File.enc true) x16.2.Files)]) rfl (.cons (.own 1) (.cons (.same rfl rfl) (.cons (.same rfl rfl) (.cons (.same rfl rfl) (.cons (.same rfl rfl) (.nil)))))) rfl (by kernel_rfl) (by kernel_rfl) ?_
     refine zB4 [(6,iv x16.1)] [(0,.box [rr 1 x16.2.Files,iv x16.2.Budget,iv x16.2.Writes,iv x16.2.Stop,bv x16.2.Down]),(1,rE 2 (File.enc true) x16.2.Files)] (by kernel_rfl) ?_
     refine jM 0 (cs':=[so 2 (File.enc true) x16.2.Files,iv x16.2.Budget,iv x16.2.Writes,iv x16.2.Stop,bv x16.2.Down]) (ts:=[1]) rfl (.move (.head _) (List.length_map _) (by decide) (.keep rfl (.keep rfl (.keep rfl (.keep rfl (.nil)))))) ?_
     refine zB4 [(6,iv x16.1)] [(0,.box (zC.enc true x16.2))] (by kernel_rfl) ?_
     exact zN rfl
  ·refine wH (fun h9=>?_) (fun h9=>?_)
   ·refine J_d 230 [] [8,17,21] [(21,bv true)] [] [] (xW 3 [(24,bv (decide ((a3.length:Int)>4000)))] [] h9 (zJF 6 (zJG (i:=6) (g:=3) (t:=25) (b:=false) (v:=(.bool true)) (.inl rfl) (by kernel_rfl) (by kernel_rfl)) (zJF 7 (zJG (i:=7) (g:=6) (t:=28) (b:=true) (v:=undef) (.inr rfl) (by kernel_rfl) (by kernel_rfl)) (zJF 8 (zJG (i:=8) (g:=6) (t:=28) (b:=true) (v:=undef) (.inr rfl) (by kernel_rfl) (by kernel_rfl)) (zJF 9 (zJG (i:=9) (g:=6) (t:=28) (b:=true) (v:=undef) (.inr rfl) (by kernel_rfl) (by kernel_rfl)) (zJF 10 (zJG (i:=10) (g:=6) (t:=28) (b:=true) (v:=undef) (.inr rfl) (by kernel_rfl) (by kernel_rfl)) (zJF 11 (zJG (i:=11) (g:=6) (t:=28) (b:=true) (v:=undef) (.inr rfl) (by kernel_rfl) (by kernel_rfl)) (zJF 12 (zJG (i:=12) (g:=6) (t:=28) (b:=true) (v:=undef) (.inr rfl) (by kernel_rfl) (by kernel_rfl)) zB)))))))) ?_
    exact xA (J_j (jv11 true)) rfl
   ·refine wH (fun h10=>?_) (fun h10=>?_)
    ·refine J_d 230 [] [8,17,21] [(21,bv ((a1.Files.length:Int)==120))] [] [] (xW 3 [(24,bv (decide ((a3.length:Int)>4000)))] [] h9 (zHN 6 3 25 false [(27,bv (!x4.2))] [] h10 (zBS 7 6 28 true (zHt (d:=pp 0) 72 (.tmp 3) [pp 0]) zB))) ?_
     exact xA (J_j (jv11 ((a1.Files.length:Int)==120))) rfl
    ·refine J_d 230 [] [8,17,21] [(21,bv false)] [] [] (xW 3 [(24,bv (decide ((a3.length:Int)>4000)))] [] h9 (zHN 6 3 25 false [(27,bv (!x4.2))] [] h10 zB)) ?_
     exact xA (J_j (jv11 false)) rfl
noncomputable def c81:Code:=(Tryz.f81.body).getD .skip
theorem jL.ok (a1:zC) (a2:(List Pack)) (a3:Int):Ok Tryz.prog 81 [pp 0,pp 1,pp 2] [.box (zC.enc true a1),.box [sl 8 (Pack.enc false) a2],.box [iv a3]] ((jL a1 a2 a3).map fun r=>(iv r.1,[.box (zC.enc true r.2),.box [sl 8 (Pack.enc false) a2],.box [iv a3]])):=by
 refine zG c81 Tryz.f81 3 35 (fun q=>?_)
 unfold jL
 refine jK 0 (cs':=[rr 3 a1.Files,iv a1.Budget,iv a1.Writes,iv a1.Stop,bv a1.Down]) (es:=[(3,rE 2 (File.enc true) a1.Files)]) rfl (.cons (.own 3) (.cons (.same rfl rfl) (.cons (.same rfl rfl) (.cons (.same rfl rfl) (.cons (.same rfl rfl) (.nil)))))) rfl (by kernel_rfl) (by kernel_rfl) ?_
 refine zB4 [(0,pp 0),(1,pp 1),(2,pp 2)] [(0,.box [rr 3 a1.Files,iv a1.Budget,iv a1.Writes,iv a1.Stop,bv a1.Down]),(1,.box [sl 8 (Pack.enc false) a2]),(2,.box [iv a3]),(3,rE 2 (File.enc true) a1.Files)] (by kernel_rfl) ?_
 refine J_g 2 [] [(0,pp 0),(1,pp 1),(2,pp 2)] [(0,.box [rr 3 a1.Files,iv a1.Budget,iv a1.Writes,iv a1.Stop,bv a1.Down]),(1,.box [sl 8 (Pack.enc false) a2]),(2,.box [iv a3]),(3,rE 2 (File.enc true) a1.Files)] zB ?_
 refine jM 0 (cs':=[so 2 (File.enc true) a1.Files,iv a1.Budget,iv a1.Writes,iv a1.Stop,bv a1.Down]) (ts:=[3]) rfl (.move (.tail _ (.tail _ (.head _))) (List.length_map _) (by decide) (.keep rfl (.keep rfl (.keep rfl (.keep rfl (.nil)))))) ?_
 refine zB4 [(0,pp 0),(1,pp 1),(2,pp 2)] [(0,.box (zC.enc true a1)),(1,.box [sl 8 (Pack.enc false) a2]),(2,.box [iv a3])] (by kernel_rfl) ?_
 refine zA (fun x4 h5=>?_)
 refine J_g 12 [] [(0,pp 0),(1,pp 1),(2,pp 2),(8,bv x4)] [(0,.box (zC.enc true a1)),(1,.box [sl 8 (Pack.enc false) a2]),(2,.box [iv a3])] (zF 1 (zGj [(0,.box (zC.enc true a1))] [] (uJ («as»:=[pp 0]) [(.tmp 7)] [72] false [(0,.box (zC.enc true a1))] [0] (.cons (.pt rfl) (.nil)) (uZ.ok a1) h5 (.same rfl rfl))) zB) ?_
 refine jK 0 (cs':=[rr 3 a1.Files,iv a1.Budget,iv a1.Writes,iv a1.Stop,bv a1.Down]) (es:=[(3,rE 2 (File.enc true) a1.Files)]) rfl (.cons (.own 3) (.cons (.same rfl rfl) (.cons (.same rfl rfl) (.cons (.same rfl rfl) (.cons (.same rfl rfl) (.nil)))))) rfl (by kernel_rfl) (by kernel_rfl) ?_
 refine zB4 [(0,pp 0),(1,pp 1),(2,pp 2),(8,bv x4)] [(0,.box [rr 3 a1.Files,iv a1.Budget,iv a1.Writes,iv a1.Stop,bv a1.Down]),(1,.box [sl 8 (Pack.enc false) a2]),(2,.box [iv a3]),(3,rE 2 (File.enc true) a1.Files)] (by kernel_rfl) ?_
 refine zD 8 (fun h6=>?_) (fun h6=>?_)
 ·refine J_g 52 [] [(4,iv 6)] [(0,.box [rr 3 a1.Files,iv a1.Budget,iv a1.Writes,iv a1.Stop,bv a1.Down]),(1,.box [sl 8 (Pack.enc false) a2]),(2,.box [iv a3]),(3,rE 2 (File.enc true) a1.Files)] zB ?_
  refine jM 0 (cs':=[so 2 (File.enc true) a1.Files,iv a1.Budget,iv a1.Writes,iv a1.Stop,bv a1.Down]) (ts:=[3]) rfl (.move (.tail _ (.tail _ (.head _))) (List.length_map _) (by decide) (.keep rfl (.keep rfl (.keep rfl (.keep rfl (.nil)))))) ?_
  refine zB4 [(4,iv 6)] [(0,.box (zC.enc true a1)),(1,.box [sl 8 (Pack.enc false) a2]),(2,.box [iv a3])] (by kernel_rfl) ?_
  exact zN rfl
 ·refine zA (fun x7 h8=>?_)
  refine J_g 14 [] [(0,pp 0),(1,pp 1),(2,pp 2),(5,rr 4 x7.1),(6,iv x7.2)] [(0,.box [rr 3 a1.Files,iv a1.Budget,iv a1.Writes,iv a1.Stop,bv a1.Down]),(1,.box [sl 8 (Pack.enc false) a2]),(2,.box [iv a3]),(3,rE 2 (File.enc true) a1.Files),(4,rE 1 zS x7.1)] (zF 5 (uJ («as»:=[sl 8 (Pack.enc false) a2,.ag [rr 3 a1.Files,iv a1.Budget,iv a1.Writes,iv a1.Stop,bv a1.Down],iv a3]) [(.tmp 10),(.tmp 13),(.tmp 14)] [30,33,2] true [(3,rE 2 (File.enc true) a1.Files)] [] (.cons (.same rfl) (.cons (.ag (.cons (zFe (.head _) (File.ro true) rfl) (.cons (.same rfl) (.cons (.same rfl) (.cons (.same rfl) (.cons (.same rfl) (.nil))))))) (.cons (.same rfl) (.nil)))) (zEb.ok a2 a1 a3) h8 (.tu (.cons (.own 4) (.cons (.same rfl rfl) (.nil)))) (hbor:=fun _=>⟨fhN,(zIW (flatK (zFE (zH5 (fun _=>(flatK yJ zEU)) _)) (flatK yJ zEU)))⟩)) zB) ?_
  refine J_d 120 [] [18] [(18,bv (x7.2 !=0))] [] [] zB ?_
  refine zD 18 (fun h9=>?_) (fun h9=>?_)
  ·refine J_g 484 [] [(4,iv x7.2)] [(0,.box [rr 3 a1.Files,iv a1.Budget,iv a1.Writes,iv a1.Stop,bv a1.Down]),(1,.box [sl 8 (Pack.enc false) a2]),(2,.box [iv a3]),(3,rE 2 (File.enc true) a1.Files)] zB ?_
   refine jM 0 (cs':=[so 2 (File.enc true) a1.Files,iv a1.Budget,iv a1.Writes,iv a1.Stop,bv a1.Down]) (ts:=[3]) rfl (.move (.tail _ (.tail _ (.head _))) (List.length_map _) (by decide) (.keep rfl (.keep rfl (.keep rfl (.keep rfl (.nil)))))) ?_
   refine zB4 [(4,iv x7.2)] [(0,.box (zC.enc true a1)),(1,.box [sl 8 (Pack.enc false) a2]),(2,.box [iv a3])] (by kernel_rfl) ?_
   exact zN rfl
  ·refine zA (fun x10 h11=>?_)
   refine J_d 486 [] [1,5,6,18,22] [(22,bv (!x10))] [4] [] (zF 5 (uJ («as»:=[sl 8 (Pack.enc false) a2,.ag [rr 3 a1.Files,iv a1.Budget,iv a1.Writes,iv a1.Stop,bv a1.Down],rr 4 x7.1]) [(.tmp 23),(.tmp 26),(.tmp 27)] [30,33,39] true [(3,rE 2 (File.enc true) a1.Files),(4,rE 1 zS x7.1)] [] (.cons (.same rfl) (.cons (.ag (.cons (zFe (.head _) (File.ro true) rfl) (.cons (.same rfl) (.cons (.same rfl) (.cons (.same rfl) (.cons (.same rfl) (.nil))))))) (.cons (zFe (.tail _ (.head _)) (fun _=>rfl) rfl) (.nil)))) (zCi.ok a2 a1 x7.1) h11 (.same rfl rfl) (hbor:=fun _=>⟨fhN,yJ⟩)) zB) ?_
   refine zD 22 (fun h12=>?_) (fun h12=>?_)
   ·refine J_g 1948 [] [(4,iv 1)] [(0,.box [rr 3 a1.Files,iv a1.Budget,iv a1.Writes,iv a1.Stop,bv a1.Down]),(1,.box [sl 8 (Pack.enc false) a2]),(2,.box [iv a3]),(3,rE 2 (File.enc true) a1.Files)] zB ?_
    refine jM 0 (cs':=[so 2 (File.enc true) a1.Files,iv a1.Budget,iv a1.Writes,iv a1.Stop,bv a1.Down]) (ts:=[3]) rfl (.move (.tail _ (.tail _ (.head _))) (List.length_map _) (by decide) (.keep rfl (.keep rfl (.keep rfl (.keep rfl (.nil)))))) ?_
    refine zB4 [(4,iv 1)] [(0,.box (zC.enc true a1)),(1,.box [sl 8 (Pack.enc false) a2]),(2,.box [iv a3])] (by kernel_rfl) ?_
    exact zN rfl
   ·refine zA (fun x13 h14=>?_)
    refine jM 0 (cs':=[so 2 (File.enc true) a1.Files,iv a1.Budget,iv a1.Writes,iv a1.Stop,bv a1.Down]) (ts:=[3]) rfl (.move (.tail _ (.tail _ (.head _))) (List.length_map _) (by decide) (.keep rfl (.keep rfl (.keep rfl (.keep rfl (.nil)))))) ?_
    refine zB4 [(0,pp 0),(2,pp 2),(22,bv false)] [(0,.box (zC.enc true a1)),(1,.box [sl 8 (Pack.enc false) a2]),(2,.box [iv a3])] (by kernel_rfl) ?_
    refine zA (fun x15 h16=>?_)
    refine J_g 62 [] [(4,iv x15.1)] [(0,.box (zC.enc true x15.2)),(1,.box [sl 8 (Pack.enc false) a2]),(2,.box [iv a3])] (zF 2 (xU [(.tmp 31)] [2] (zAj.ok a3) h14) (zF 3 (zQn (s:=x13) 9 121 5 (.tmp 32)) (zF 4 (uJ («as»:=[pp 0,sv (bs [99,117,114]),sl 1 eU8 (s2b x13)]) [(.tmp 30),(.const (.string (bs [99,117,114]))),(.tmp 33)] [72,9,121] false [(0,.box (zC.enc true a1))] [0] (.cons (.pt rfl) (.cons (.same rfl) (.cons (.same rfl) (.nil)))) (vP.ok a1 (bs [99,117,114]) (s2b x13)) h16 (.same rfl rfl)) zB))) ?_
    refine jK 0 (cs':=[rr 3 x15.2.Files,iv x15.2.Budget,iv x15.2.Writes,iv x15.2.Stop,bv x15.2.Down]) (es:=[(3,rE 2 (File.enc true) x15.2.Files)]) rfl (.cons (.own 3) (.cons (.same rfl rfl) (.cons (.same rfl rfl) (.cons (.same rfl rfl) (.cons (.same rfl rfl) (.nil)))))) rfl (by kernel_rfl) (by kernel_rfl) ?_
    refine zB4 [(4,iv x15.1)] [(0,.box [rr 3 x15.2.Files,iv x15.2.Budget,iv x15.2.Writes,iv x15.2.Stop,bv x15.2.Down]),(1,.box [sl 8 (Pack.enc false) a2]),(2,.box [iv a3]),(3,rE 2 (File.enc true) x15.2.Files)] (by kernel_rfl) ?_
    refine jM 0 (cs':=[so 2 (File.enc true) x15.2.Files,iv x15.2.Budget,iv x15.2.Writes,iv x15.2.Stop,bv x15.2.Down]) (ts:=[3]) rfl (.move (.tail _ (.tail _ (.head _))) (List.length_map _) (by decide) (.keep rfl (.keep rfl (.keep rfl (.keep rfl (.nil)))))) ?_
    refine zB4 [(4,iv x15.1)] [(0,.box (zC.enc true x15.2)),(1,.box [sl 8 (Pack.enc false) a2]),(2,.box [iv a3])] (by kernel_rfl) ?_
    exact zN rfl
noncomputable def c201:Code:=(Tryz.f201.body).getD .skip
theorem zEm.ok (a1:zC) (a2:Int):Ok Tryz.prog 201 [.ag (zC.enc false a1),iv a2] [] ((zEm a1 a2).map fun r=>(.ag (zH.enc false r),[])):=by
 refine zG c201 Tryz.f201 0 16 (fun q=>?_)
 unfold zEm
 refine J_g 2 [(0,0),(1,1)] [(1,iv a2),(2,pp 0),(4,pp 1)] [(0,.box (zC.enc false a1)),(1,.box [iv 0,nv,iv 0,iv 0,iv 0,bv false])] zB ?_
 refine xS (atI c201 13) (fun v4:Bool=>St.mk' [(1,iv a2),(2,pp 0),(4,pp 1),(10,bv v4)] [(0,.box (zC.enc false a1)),(1,.box [iv 0,nv,iv 0,iv 0,iv 0,bv false])]) (fun v4=>?_) (fun jv4=>?_)
 ·refine zD 10 (fun h5=>?_) (fun h5=>?_)
  ·refine J_g 52 [] [(4,pp 1)] [(1,.box [iv a2,nv,iv 0,iv 0,iv 0,bv false])] zB ?_
   exact zCT (ds:=[.ag [iv a2,nv,iv 0,iv 0,iv 0,bv false]]) (ds':=[.ag [iv a2,sl 2 (File.enc false) ([]:List File),iv 0,iv 0,iv 0,bv false]]) (.cons (.ag (.keep rfl (.nilsl false 2 (.keep rfl (.keep rfl (.keep rfl (.keep rfl (.nil)))))))) (.nil) (by decide)) rfl
  ·refine J_g 14 [] [(4,pp 1)] [(1,.box [iv a2,sl 2 (File.enc false) a1.Files,iv a1.Budget,iv a1.Writes,iv a1.Stop,bv a1.Down])] zB ?_
   exact zN rfl
 ·refine wH (fun h3=>?_) (fun h3=>?_)
  ·refine J_d 12 [] [10] [(10,bv (a2 !=9))] [] [] (xW 2 [(6,bv (a2 !=0))] [] h3 zB) ?_
   exact xA (J_j (jv4 (a2 !=9))) rfl
  ·refine J_d 12 [] [10] [(10,bv false)] [] [] (xW 2 [(6,bv (a2 !=0))] [] h3 zB) ?_
   exact xA (J_j (jv4 false)) rfl
theorem zLZ.ok (a1:zC) (a2:Int):Ok Tryz.prog 201 [.ag [rr 0 a1.Files,iv a1.Budget,iv a1.Writes,iv a1.Stop,bv a1.Down],iv a2] [rE 2 (File.enc true) a1.Files] ((zEm a1 a2).map fun r=>(.ag (zH.enc true r),[])):=by
 refine zG c201 Tryz.f201 1 16 (fun q=>?_)
 unfold zEm
 refine J_d 2 [(0,1),(1,2)] [0,2,4] [(2,pp 1),(4,pp 2)] [1,2] [(1,.box [rr 0 a1.Files,iv a1.Budget,iv a1.Writes,iv a1.Stop,bv a1.Down]),(2,.box [iv 0,nv,iv 0,iv 0,iv 0,bv false])] zB ?_
 refine xS (atI c201 13) (fun v4:Bool=>St.mk' [(1,iv a2),(2,pp 1),(4,pp 2),(10,bv v4)] [(0,rE 2 (File.enc true) a1.Files),(1,.box [rr 0 a1.Files,iv a1.Budget,iv a1.Writes,iv a1.Stop,bv a1.Down]),(2,.box [iv 0,nv,iv 0,iv 0,iv 0,bv false])]) (fun v4=>?_) (fun jv4=>?_)
 ·refine zD 10 (fun h5=>?_) (fun h5=>?_)
  ·refine J_g 52 [] [(4,pp 2)] [(0,rE 2 (File.enc true) a1.Files),(2,.box [iv a2,nv,iv 0,iv 0,iv 0,bv false])] zB ?_
   exact zCT (ds:=[.ag [iv a2,nv,iv 0,iv 0,iv 0,bv false]]) (ds':=[.ag [iv a2,so 2 (File.enc true) ([]:List File),iv 0,iv 0,iv 0,bv false]]) (.cons (.ag (.keep rfl (.nilsl true 2 (.keep rfl (.keep rfl (.keep rfl (.keep rfl (.nil)))))))) (.nil) (by decide)) rfl
  ·refine J_g 14 [] [(4,pp 2)] [(0,rE 2 (File.enc true) a1.Files),(2,.box [iv a2,rr 0 a1.Files,iv a1.Budget,iv a1.Writes,iv a1.Stop,bv a1.Down])] zB ?_
   exact zCT (ds:=[.ag [iv a2,rr 0 a1.Files,iv a1.Budget,iv a1.Writes,iv a1.Stop,bv a1.Down]]) (ds':=[.ag [iv a2,so 2 (File.enc true) a1.Files,iv a1.Budget,iv a1.Writes,iv a1.Stop,bv a1.Down]]) (.cons (.ag (.keep rfl (.move (.head _) (List.length_map _) (by decide) (.keep rfl (.keep rfl (.keep rfl (.keep rfl (.nil)))))))) (.nil) (by decide)) rfl
 ·refine wH (fun h3=>?_) (fun h3=>?_)
  ·refine J_d 12 [] [10] [(10,bv (a2 !=9))] [] [] (xW 2 [(6,bv (a2 !=0))] [] h3 zB) ?_
   exact xA (J_j (jv4 (a2 !=9))) rfl
  ·refine J_d 12 [] [10] [(10,bv false)] [] [] (xW 2 [(6,bv (a2 !=0))] [] h3 zB) ?_
   exact xA (J_j (jv4 false)) rfl
noncomputable def zR0:Code:=(Tryz.f126.body).getD .skip
theorem xZ.ok (a1:zC) (a2:(List Pack)) (a3:Int):Ok Tryz.prog 126 [.ag (zC.enc false a1),.fn 81 [pp 0,pp 1]] [.box [sl 8 (Pack.enc false) a2],.box [iv a3]] ((xZ a1 a2 a3).map fun r=>(.ag (zH.enc true r),[.box [sl 8 (Pack.enc false) a2],.box [iv a3]])):=by
 refine zG zR0 Tryz.f126 2 26 (fun q=>?_)
 unfold xZ
 refine J_d 2 [(0,2),(1,3)] [0,2,4] [(2,pp 2),(4,pp 3)] [2,3] [(2,.box (zC.enc false a1)),(3,.box [iv 0,nv,iv 0,iv 0,iv 0,bv false])] zB ?_
 refine zA (fun x4 h5=>?_)
 refine J_d 6 [] [5] [(5,iv x4)] [] [] (zF 1 (xU [(.tmp 7)] [33] (zAK.ok a1) h5) zB) ?_
 refine xS (atI zR0 29) (fun v7:Bool=>St.mk' [(1,.fn 81 [pp 0,pp 1]),(2,pp 2),(4,pp 3),(5,iv x4),(14,bv v7)] [(0,.box [sl 8 (Pack.enc false) a2]),(1,.box [iv a3]),(2,.box (zC.enc false a1)),(3,.box [iv 0,nv,iv 0,iv 0,iv 0,bv false])]) (fun v7=>?_) (fun jv7=>?_)
 ·refine xS (atI zR0 15) (fun v9:Int=>St.mk' [(1,.fn 81 [pp 0,pp 1]),(2,pp 2),(4,pp 3),(5,iv v9)] [(0,.box [sl 8 (Pack.enc false) a2]),(1,.box [iv a3]),(2,.box (zC.enc false a1)),(3,.box [iv 0,nv,iv 0,iv 0,iv 0,bv false])]) (fun v9=>?_) (fun jv9=>?_)
  ·refine J_d 60 [] [16] [(16,bv (v9 !=0))] [] [] zB ?_
   refine zD 16 (fun h10=>?_) (fun h10=>?_)
   ·refine J_g 244 [] [(4,pp 3)] [(0,.box [sl 8 (Pack.enc false) a2]),(1,.box [iv a3]),(3,.box [iv v9,nv,iv 0,iv 0,iv 0,bv false])] zB ?_
    exact zCT (ds:=[.ag [iv v9,nv,iv 0,iv 0,iv 0,bv false]]) (ds':=[.ag [iv v9,so 2 (File.enc true) ([]:List File),iv 0,iv 0,iv 0,bv false]]) (.cons (.ag (.keep rfl (.nilsl true 2 (.keep rfl (.keep rfl (.keep rfl (.keep rfl (.nil)))))))) (.nil) (by decide)) rfl
   ·refine zA (fun x11 h12=>?_)
    refine J_g 62 [(2,5)] [(1,.fn 81 [pp 0,pp 1]),(4,pp 3),(6,pp 5)] [(0,.box [sl 8 (Pack.enc false) a2]),(1,.box [iv a3]),(3,.box [iv 0,nv,iv 0,iv 0,iv 0,bv false]),(4,rE 2 (File.enc true) x11.Files),(5,.box [rr 4 x11.Files,iv x11.Budget,iv x11.Writes,iv x11.Stop,bv x11.Down])] (zF 1 (uJ («as»:=[.ag (zC.enc false a1)]) [(.tmp 19)] [33] false [] [] (.cons (.same rfl) (.nil)) (uK.ok a1) h12 (.ag (.cons (.own 4) (.cons (.same rfl rfl) (.cons (.same rfl rfl) (.cons (.same rfl rfl) (.cons (.same rfl rfl) (.nil)))))))) zB) ?_
    refine jM 5 (cs':=[so 2 (File.enc true) x11.Files,iv x11.Budget,iv x11.Writes,iv x11.Stop,bv x11.Down]) (ts:=[4]) rfl (.move (.tail _ (.tail _ (.tail _ (.head _)))) (List.length_map _) (by decide) (.keep rfl (.keep rfl (.keep rfl (.keep rfl (.nil)))))) ?_
    refine zB4 [(1,.fn 81 [pp 0,pp 1]),(4,pp 3),(6,pp 5)] [(0,.box [sl 8 (Pack.enc false) a2]),(1,.box [iv a3]),(3,.box [iv 0,nv,iv 0,iv 0,iv 0,bv false]),(5,.box (zC.enc true x11))] (by kernel_rfl) ?_
    refine zA (fun x13 h14=>?_)
    refine J_g 126 [] [(4,pp 3),(5,iv x13.1),(6,pp 5)] [(0,.box [sl 8 (Pack.enc false) a2]),(1,.box [iv a3]),(3,.box [iv 0,nv,iv 0,iv 0,iv 0,bv false]),(5,.box (zC.enc true x13.2))] (zF 1 (zJg 21 [(.tmp 6)] [72] false [(5,.box (zC.enc true x11)),(0,.box [sl 8 (Pack.enc false) a2]),(1,.box [iv a3])] [5,0,1] [pp 5] [pp 0,pp 1] (.cons (.pt rfl) (.cons (.pt rfl) (.cons (.pt rfl) (.nil)))) (jL.ok x11 a2 a3) h14 (.same rfl rfl)) zB) ?_
    refine jK 5 (cs':=[rr 6 x13.2.Files,iv x13.2.Budget,iv x13.2.Writes,iv x13.2.Stop,bv x13.2.Down]) (es:=[(6,rE 2 (File.enc true) x13.2.Files)]) rfl (.cons (.own 6) (.cons (.same rfl rfl) (.cons (.same rfl rfl) (.cons (.same rfl rfl) (.cons (.same rfl rfl) (.nil)))))) rfl (by kernel_rfl) (by kernel_rfl) ?_
    refine zB4 [(4,pp 3),(5,iv x13.1),(6,pp 5)] [(0,.box [sl 8 (Pack.enc false) a2]),(1,.box [iv a3]),(3,.box [iv 0,nv,iv 0,iv 0,iv 0,bv false]),(5,.box [rr 6 x13.2.Files,iv x13.2.Budget,iv x13.2.Writes,iv x13.2.Stop,bv x13.2.Down]),(6,rE 2 (File.enc true) x13.2.Files)] (by kernel_rfl) ?_
    refine zA (fun x15 h16=>?_)
    refine J_g 254 [] [(4,pp 3)] [(0,.box [sl 8 (Pack.enc false) a2]),(1,.box [iv a3]),(3,.box [iv x15.Code,rr 7 x15.zC.Files,iv x15.zC.Budget,iv x15.zC.Writes,iv x15.zC.Stop,bv x15.zC.Down]),(7,rE 2 (File.enc true) x15.zC.Files)] (zF 2 (uJ («as»:=[.ag [rr 6 x13.2.Files,iv x13.2.Budget,iv x13.2.Writes,iv x13.2.Stop,bv x13.2.Down],iv x13.1]) [(.tmp 23),(.tmp 24)] [33,2] false [(6,rE 2 (File.enc true) x13.2.Files)] [6] (.cons (.ag (.cons (.rf rfl) (.cons (.same rfl) (.cons (.same rfl) (.cons (.same rfl) (.cons (.same rfl) (.nil))))))) (.cons (.same rfl) (.nil))) (zLZ.ok x13.2 x13.1) h16 (.ag (.cons (.same rfl rfl) (.cons (.own 7) (.cons (.same rfl rfl) (.cons (.same rfl rfl) (.cons (.same rfl rfl) (.cons (.same rfl rfl) (.nil))))))))) zB) ?_
    exact zCT (ds:=[.ag [iv x15.Code,rr 7 x15.zC.Files,iv x15.zC.Budget,iv x15.zC.Writes,iv x15.zC.Stop,bv x15.zC.Down]]) (ds':=[.ag (zH.enc true x15)]) (.cons (.ag (.keep rfl (.move (.tail _ (.tail _ (.tail _ (.head _)))) (List.length_map _) (by decide) (.keep rfl (.keep rfl (.keep rfl (.keep rfl (.nil)))))))) (.nil) (by decide)) rfl
  ·refine zD 14 (fun h8=>?_) (fun h8=>?_)
   ·refine J_d 58 [] [5,14] [(5,iv 9)] [] [] zB ?_
    exact xA (J_j (jv9 9)) rfl
   ·exact xA (J_j (jv9 x4)) rfl
 ·refine wH (fun h6=>?_) (fun h6=>?_)
  ·refine J_d 28 [] [14] [(14,bv a1.Down)] [] [] (xW 2 [(10,bv (x4==0))] [] h6 zB) ?_
   exact xA (J_j (jv7 a1.Down)) rfl
  ·refine J_d 28 [] [14] [(14,bv false)] [] [] (xW 2 [(10,bv (x4==0))] [] h6 zB) ?_
   exact xA (J_j (jv7 false)) rfl
noncomputable def c62:Code:=(Tryz.f62.body).getD .skip
theorem wB.ok (a1:(List Pack)) (a2:zC) (a3:(List Pack)) (a4:Int):Ok Tryz.prog 62 [sl 8 (Pack.enc false) a1,.ag (zC.enc false a2),.fn 81 [pp 0,pp 1]] [.box [sl 8 (Pack.enc false) a3],.box [iv a4]] ((wB a1 a2 a3 a4).map fun r=>(.ag (zH.enc true r),[.box [sl 8 (Pack.enc false) a3],.box [iv a4]])):=by
 refine zG c62 Tryz.f62 2 17 (fun q=>?_)
 unfold wB
 refine J_d 2 [(0,2),(1,3)] [1,4,6] [(4,pp 2),(6,pp 3)] [2,3] [(2,.box (zC.enc false a2)),(3,.box [iv 0,nv,iv 0,iv 0,iv 0,bv false])] zB ?_
 refine zA (fun x5 h6=>?_)
 refine J_g 12 [] [(2,.fn 81 [pp 0,pp 1]),(4,pp 2),(6,pp 3),(7,iv x5)] [(0,.box [sl 8 (Pack.enc false) a3]),(1,.box [iv a4]),(2,.box (zC.enc false a2)),(3,.box [iv 0,nv,iv 0,iv 0,iv 0,bv false])] (zF 1 (xU [(.tmp 8)] [30] (wV.ok a1) h6) zB) ?_
 refine J_d 26 [] [11] [(11,bv (x5 !=0))] [] [] zB ?_
 refine zD 11 (fun h7=>?_) (fun h7=>?_)
 ·refine J_g 108 [] [(6,pp 3)] [(0,.box [sl 8 (Pack.enc false) a3]),(1,.box [iv a4]),(3,.box [iv x5,nv,iv 0,iv 0,iv 0,bv false])] zB ?_
  exact zCT (ds:=[.ag [iv x5,nv,iv 0,iv 0,iv 0,bv false]]) (ds':=[.ag [iv x5,so 2 (File.enc true) ([]:List File),iv 0,iv 0,iv 0,bv false]]) (.cons (.ag (.keep rfl (.nilsl true 2 (.keep rfl (.keep rfl (.keep rfl (.keep rfl (.nil)))))))) (.nil) (by decide)) rfl
 ·refine zA (fun x8 h9=>?_)
  refine J_g 14 [] [(6,pp 3)] [(0,.box [sl 8 (Pack.enc false) a3]),(1,.box [iv a4]),(3,.box [iv x8.Code,rr 4 x8.zC.Files,iv x8.zC.Budget,iv x8.zC.Writes,iv x8.zC.Stop,bv x8.zC.Down]),(4,rE 2 (File.enc true) x8.zC.Files)] (zF 2 (zGj [(0,.box [sl 8 (Pack.enc false) a3]),(1,.box [iv a4])] [(4,rE 2 (File.enc true) x8.zC.Files)] (uJ («as»:=[.ag (zC.enc false a2),.fn 81 [pp 0,pp 1]]) [(.tmp 14),(.tmp 15)] [33,111] false [(0,.box [sl 8 (Pack.enc false) a3]),(1,.box [iv a4])] [0,1] (.cons (.same rfl) (.cons (.fn (.cons (.pt rfl) (.cons (.pt rfl) (.nil)))) (.nil))) (xZ.ok a2 a3 a4) h9 (.ag (.cons (.same rfl rfl) (.cons (.own 4) (.cons (.same rfl rfl) (.cons (.same rfl rfl) (.cons (.same rfl rfl) (.cons (.same rfl rfl) (.nil)))))))))) zB) ?_
  exact zCT (ds:=[.ag [iv x8.Code,rr 4 x8.zC.Files,iv x8.zC.Budget,iv x8.zC.Writes,iv x8.zC.Stop,bv x8.zC.Down]]) (ds':=[.ag (zH.enc true x8)]) (.cons (.ag (.keep rfl (.move (.tail _ (.tail _ (.tail _ (.head _)))) (List.length_map _) (by decide) (.keep rfl (.keep rfl (.keep rfl (.keep rfl (.nil)))))))) (.nil) (by decide)) rfl
noncomputable def c30:Code:=(Tryz.f30.body).getD .skip
theorem vD.ok (a1:(List Pack)) (a2:zC) (a3:Int):Ok Tryz.prog 30 [sl 8 (Pack.enc false) a1,.ag (zC.enc false a2),iv a3] [] ((vD a1 a2 a3).map fun r=>(.ag (zH.enc true r),[])):=by
 refine zG c30 Tryz.f30 0 11 (fun q=>?_)
 unfold vD
 refine J_g 2 [(0,0),(1,1),(2,2),(3,3)] [(3,pp 0),(4,pp 1),(5,pp 2),(6,pp 3)] [(0,.box [sl 8 (Pack.enc false) a1]),(1,.box (zC.enc false a2)),(2,.box [iv a3]),(3,.box [iv 0,nv,iv 0,iv 0,iv 0,bv false])] zB ?_
 refine zA (fun x4 h5=>?_)
 refine J_g 6 [] [(6,pp 3)] [(3,.box [iv x4.Code,rr 4 x4.zC.Files,iv x4.zC.Budget,iv x4.zC.Writes,iv x4.zC.Stop,bv x4.zC.Down]),(4,rE 2 (File.enc true) x4.zC.Files)] (zF 3 (zGj [(0,.box [sl 8 (Pack.enc false) a1]),(2,.box [iv a3])] [(4,rE 2 (File.enc true) x4.zC.Files)] (uJ («as»:=[sl 8 (Pack.enc false) a1,.ag (zC.enc false a2),.fn 81 [pp 0,pp 2]]) [(.tmp 7),(.tmp 8),(.tmp 9)] [30,33,111] false [(0,.box [sl 8 (Pack.enc false) a1]),(2,.box [iv a3])] [0,2] (.cons (.same rfl) (.cons (.same rfl) (.cons (.fn (.cons (.pt rfl) (.cons (.pt rfl) (.nil)))) (.nil)))) (wB.ok a1 a2 a1 a3) h5 (.ag (.cons (.same rfl rfl) (.cons (.own 4) (.cons (.same rfl rfl) (.cons (.same rfl rfl) (.cons (.same rfl rfl) (.cons (.same rfl rfl) (.nil)))))))))) zB) ?_
 exact zCT (ds:=[.ag [iv x4.Code,rr 4 x4.zC.Files,iv x4.zC.Budget,iv x4.zC.Writes,iv x4.zC.Stop,bv x4.zC.Down]]) (ds':=[.ag (zH.enc true x4)]) (.cons (.ag (.keep rfl (.move (.tail _ (.head _)) (List.length_map _) (by decide) (.keep rfl (.keep rfl (.keep rfl (.keep rfl (.nil)))))))) (.nil) (by decide)) rfl
noncomputable def zQ0:Code:=(Tryz.f214.body).getD .skip
theorem zC8.ok (a1:(List Int)) (a2:(List Int)) (q:Wd) (kn:Unit→Option (D×List Ent)) (hk:∀v:Unit,J (q.g Tryz.prog 214 0 26) zQ0 (atI zQ0 15) (St.mk' [] []) (some v) kn):
  ∀s10:Int,J (q.g Tryz.prog 214 0 26) zQ0 (atI zQ0 116) (St.mk' [(0,sl 1 eU8 a1),(1,sl 1 eU8 a2),(5,iv s10)] []) (zC8 a1 a2 s10) (Fl.go (fun r:Bool=>some (bv r,[])) kn):=by
 refine kQ (fun g ih s10=>?_)
 unfold zDr
 refine J_d 464 [] [14] [(14,bv (decide (s10< (a1.length:Int))))] [] [] zB ?_
 refine zD 14 (fun h11=>?_) (fun h11=>?_)
 ·refine zA (fun x12 h13=>?_)
  refine zA (fun x14 h15=>?_)
  refine J_d 1864 [] [14,25] [(25,bv (x12 !=x14))] [] [] (zF 2 (tL (kk:=.i64) 121 5 1 eU8 (.tmp 17) (.tmp 18) h13) (zF 6 (tL (kk:=.i64) 121 5 1 eU8 (.tmp 21) (.tmp 22) h15) zB)) ?_
  refine zD 25 (fun h16=>?_) (fun h16=>?_)
  ·refine J_g 7460 [] [(4,bv false)] [] zB ?_
   exact zN rfl
  ·refine J_d 467 [] [5,25] [(5,iv (w64 (s10+1)))] [] [] zB ?_
   exact J_q (J_b (ih (w64 (s10+1)))) rfl
 ·exact xA (hk ()) rfl
theorem zC7.ok (a1:(List Int)) (a2:(List Int)):Ok Tryz.prog 214 [sl 1 eU8 a1,sl 1 eU8 a2] [] ((zC7 a1 a2).map fun r=>(bv r,[])):=by
 refine zG zQ0 Tryz.f214 0 26 (fun q=>?_)
 unfold zC7
 refine J_g 2 [] [(0,sl 1 eU8 a1),(1,sl 1 eU8 a2)] [] zB ?_
 refine J_d 12 [] [10] [(10,bv ((a1.length:Int) !=(a2.length:Int)))] [] [] zB ?_
 refine zD 10 (fun h3=>?_) (fun h3=>?_)
 ·refine J_g 52 [] [(4,bv false)] [] zB ?_
  exact zN rfl
 ·refine J_d 28 [] [5,10] [(5,iv 0)] [] [] zB ?_
  refine uR (K0:=(fun r:Bool=>some (bv r,[]))) (fun _=>rfl) (zC8.ok a1 a2 q _ (fun v17=>J_j ?_) 0)
  refine J_g 30 [] [(4,bv true)] [] zB ?_
  exact zN rfl
noncomputable def c146:Code:=(Tryz.f146.body).getD .skip
theorem zDu.ok (a1:File) (a2:File):Ok Tryz.prog 146 [.ag (File.enc false a1),.ag (File.enc false a2)] [] ((zDu a1 a2).map fun r=>(bv r,[])):=by
 refine zG c146 Tryz.f146 0 16 (fun q=>?_)
 unfold zDu
 refine J_g 2 [(0,0),(1,1)] [(2,pp 0),(3,pp 1)] [(0,.box (File.enc false a1)),(1,.box (File.enc false a2))] zB ?_
 refine J_d 12 [] [9] [(9,bv (!(seq a1.Path a2.Path)))] [] [] zB ?_
 refine zD 9 (fun h3=>?_) (fun h3=>?_)
 ·refine J_g 52 [] [(4,bv false)] [] zB ?_
  exact zN rfl
 ·refine zA (fun x4 h5=>?_)
  refine J_g 28 [] [(15,bv (!x4))] [] (zF 4 (xU [(.tmp 11),(.tmp 13)] [121,121] (zC7.ok a1.Data a2.Data) h5) zB) ?_
  refine zD 15 (fun h6=>?_) (fun h6=>?_)
  ·refine J_g 116 [] [(4,bv false)] [] zB ?_
   exact zN rfl
  ·refine J_g 30 [] [(4,bv true)] [] zB ?_
   exact zN rfl
noncomputable def c70:Code:=(Tryz.f70.body).getD .skip
theorem zCA.ok (a1:(List File)) (a2:(List File)) (q:Wd) (kn:Unit→Option (D×List Ent)) (hk:∀v:Unit,J (q.g Tryz.prog 70 0 27) c70 (atI c70 15) (St.mk' [] []) (some v) kn):
  ∀s12:Int,J (q.g Tryz.prog 70 0 27) c70 (atI c70 116) (St.mk' [(0,sl 2 (File.enc false) a1),(1,sl 2 (File.enc false) a2),(5,iv s12)] []) (zCA a1 a2 s12) (Fl.go (fun r:Bool=>some (bv r,[])) kn):=by
 refine kQ (fun g ih s12=>?_)
 unfold zDs
 refine J_d 464 [] [14] [(14,bv (decide (s12< (a1.length:Int))))] [] [] zB ?_
 refine zD 14 (fun h13=>?_) (fun h13=>?_)
 ·refine zA (fun x14 h15=>?_)
  refine zA (fun x16 h17=>?_)
  refine zA (fun x18 h19=>?_)
  refine J_d 1864 [] [14,26] [(26,bv (!x18))] [] [] (zF 2 (tL (kk:=.i64) 31 138 2 (File.enc false) (.tmp 17) (.tmp 18) h15) (zF 6 (tL (kk:=.i64) 31 138 2 (File.enc false) (.tmp 21) (.tmp 22) h17) (zF 8 (xU [(.tmp 20),(.tmp 24)] [138,138] (zDu.ok x14 x16) h19) zB))) ?_
  refine zD 26 (fun h20=>?_) (fun h20=>?_)
  ·refine J_g 7460 [] [(4,bv false)] [] zB ?_
   exact zN rfl
  ·refine J_d 467 [] [5,26] [(5,iv (w64 (s12+1)))] [] [] zB ?_
   exact J_q (J_b (ih (w64 (s12+1)))) rfl
 ·exact xA (hk ()) rfl
theorem zCu.ok (a1:(List File)) (a2:(List File)):Ok Tryz.prog 70 [sl 2 (File.enc false) a1,sl 2 (File.enc false) a2] [] ((zCu a1 a2).map fun r=>(bv r,[])):=by
 refine zG c70 Tryz.f70 0 27 (fun q=>?_)
 unfold zCu
 refine J_g 2 [] [(0,sl 2 (File.enc false) a1),(1,sl 2 (File.enc false) a2)] [] zB ?_
 refine J_d 12 [] [10] [(10,bv ((a1.length:Int) !=(a2.length:Int)))] [] [] zB ?_
 refine zD 10 (fun h3=>?_) (fun h3=>?_)
 ·refine J_g 52 [] [(4,bv false)] [] zB ?_
  exact zN rfl
 ·refine J_d 28 [] [5,10] [(5,iv 0)] [] [] zB ?_
  refine uR (K0:=(fun r:Bool=>some (bv r,[]))) (fun _=>rfl) (zCA.ok a1 a2 q _ (fun v21=>J_j ?_) 0)
  refine J_g 30 [] [(4,bv true)] [] zB ?_
  exact zN rfl
noncomputable def c22:Code:=(Tryz.f22.body).getD .skip
theorem zB0.ok (a1:zC) (a2:zC):Ok Tryz.prog 22 [.ag (zC.enc false a1),.ag (zC.enc false a2)] [] ((zB0 a1 a2).map fun r=>(bv r,[])):=by
 refine zG c22 Tryz.f22 0 31 (fun q=>?_)
 unfold zB0
 refine J_g 2 [(0,0),(1,1)] [(2,pp 0),(3,pp 1)] [(0,.box (zC.enc false a1)),(1,.box (zC.enc false a2))] zB ?_
 refine zA (fun x3 h4=>?_)
 refine J_d 12 [] [10] [(10,bv (!x3))] [] [] (zF 4 (xU [(.tmp 6),(.tmp 8)] [31,31] (zCu.ok a1.Files a2.Files) h4) zB) ?_
 refine zD 10 (fun h5=>?_) (fun h5=>?_)
 ·refine J_g 52 [] [(4,bv false)] [] zB ?_
  exact zN rfl
 ·refine J_d 28 [] [10,15] [(15,bv (a1.Budget !=a2.Budget))] [] [] zB ?_
  refine zD 15 (fun h6=>?_) (fun h6=>?_)
  ·refine J_g 116 [] [(4,bv false)] [] zB ?_
   exact zN rfl
  ·refine J_d 60 [] [15,20] [(20,bv (a1.Writes !=a2.Writes))] [] [] zB ?_
   refine zD 20 (fun h7=>?_) (fun h7=>?_)
   ·refine J_g 244 [] [(4,bv false)] [] zB ?_
    exact zN rfl
   ·refine J_d 124 [] [20,25] [(25,bv (a1.Stop !=a2.Stop))] [] [] zB ?_
    refine zD 25 (fun h8=>?_) (fun h8=>?_)
    ·refine J_g 500 [] [(4,bv false)] [] zB ?_
     exact zN rfl
    ·refine J_g 252 [] [(30,bv (!(a1.Down==a2.Down)))] [] zB ?_
     refine zD 30 (fun h9=>?_) (fun h9=>?_)
     ·refine J_g 1012 [] [(4,bv false)] [] zB ?_
      exact zN rfl
     ·refine J_g 254 [] [(4,bv true)] [] zB ?_
      exact zN rfl
noncomputable def c20:Code:=(Tryz.f20.body).getD .skip
theorem wK.ok (a1:zH) (a2:zH):Ok Tryz.prog 20 [.ag (zH.enc false a1),.ag (zH.enc false a2)] [] ((wK a1 a2).map fun r=>(bv r,[])):=by
 refine zG c20 Tryz.f20 0 16 (fun q=>?_)
 unfold wK
 refine J_g 2 [(0,0),(1,1)] [(2,pp 0),(3,pp 1)] [(0,.box (zH.enc false a1)),(1,.box (zH.enc false a2))] zB ?_
 refine J_d 12 [] [9] [(9,bv (a1.Code !=a2.Code))] [] [] zB ?_
 refine zD 9 (fun h3=>?_) (fun h3=>?_)
 ·refine J_g 52 [] [(4,bv false)] [] zB ?_
  exact zN rfl
 ·refine zA (fun x4 h5=>?_)
  refine J_g 28 [] [(15,bv (!x4))] [] (zF 4 (xU [(.tmp 11),(.tmp 13)] [33,33] (zB0.ok a1.zC a2.zC) h5) zB) ?_
  refine zD 15 (fun h6=>?_) (fun h6=>?_)
  ·refine J_g 116 [] [(4,bv false)] [] zB ?_
   exact zN rfl
  ·refine J_g 30 [] [(4,bv true)] [] zB ?_
   exact zN rfl
noncomputable def zSr:Code:=(Tryz.f142.body).getD .skip
theorem vF.ok (a1:Version) (a2:Version):Ok Tryz.prog 142 [.ag (Version.enc a1),.ag (Version.enc a2)] [] ((vF a1 a2).map fun r=>(bv r,[])):=by
 refine zG zSr Tryz.f142 0 20 (fun q=>?_)
 unfold vF
 refine J_g 2 [(0,0),(1,1)] [(2,pp 0),(3,pp 1)] [(0,.box (Version.enc a1)),(1,.box (Version.enc a2))] zB ?_
 refine J_d 12 [] [9] [(9,bv (a1.A !=a2.A))] [] [] zB ?_
 refine zD 9 (fun h3=>?_) (fun h3=>?_)
 ·refine J_g 52 [] [(4,bv false)] [] zB ?_
  exact zN rfl
 ·refine J_d 28 [] [9,14] [(14,bv (a1.B !=a2.B))] [] [] zB ?_
  refine zD 14 (fun h4=>?_) (fun h4=>?_)
  ·refine J_g 116 [] [(4,bv false)] [] zB ?_
   exact zN rfl
  ·refine J_g 60 [] [(19,bv (a1.C !=a2.C))] [] zB ?_
   refine zD 19 (fun h5=>?_) (fun h5=>?_)
   ·refine J_g 244 [] [(4,bv false)] [] zB ?_
    exact zN rfl
   ·refine J_g 62 [] [(4,bv true)] [] zB ?_
    exact zN rfl
noncomputable def c143:Code:=(Tryz.f143.body).getD .skip
theorem zBd.ok (a1:(List ByteArray)) (a2:(List ByteArray)) (q:Wd) (kn:Unit→Option (D×List Ent)) (hk:∀v:Unit,J (q.g Tryz.prog 143 0 26) c143 (atI c143 15) (St.mk' [] []) (some v) kn):
  ∀s10:Int,J (q.g Tryz.prog 143 0 26) c143 (atI c143 116) (St.mk' [(0,sl 1 eStr a1),(1,sl 1 eStr a2),(5,iv s10)] []) (zBd a1 a2 s10) (Fl.go (fun r:Bool=>some (bv r,[])) kn):=by
 refine kQ (fun g ih s10=>?_)
 unfold zBY
 refine J_d 464 [] [14] [(14,bv (decide (s10< (a1.length:Int))))] [] [] zB ?_
 refine zD 14 (fun h11=>?_) (fun h11=>?_)
 ·refine zA (fun x12 h13=>?_)
  refine zA (fun x14 h15=>?_)
  refine J_d 1864 [] [14,25] [(25,bv (!(seq x12 x14)))] [] [] (zF 2 (tL (kk:=.i64) 86 9 1 eStr (.tmp 17) (.tmp 18) h13) (zF 6 (tL (kk:=.i64) 86 9 1 eStr (.tmp 21) (.tmp 22) h15) zB)) ?_
  refine zD 25 (fun h16=>?_) (fun h16=>?_)
  ·refine J_g 7460 [] [(4,bv false)] [] zB ?_
   exact zN rfl
  ·refine J_d 467 [] [5,25] [(5,iv (w64 (s10+1)))] [] [] zB ?_
   exact J_q (J_b (ih (w64 (s10+1)))) rfl
 ·exact xA (hk ()) rfl
theorem zAJ.ok (a1:(List ByteArray)) (a2:(List ByteArray)):Ok Tryz.prog 143 [sl 1 eStr a1,sl 1 eStr a2] [] ((zAJ a1 a2).map fun r=>(bv r,[])):=by
 refine zG c143 Tryz.f143 0 26 (fun q=>?_)
 unfold zAJ
 refine J_g 2 [] [(0,sl 1 eStr a1),(1,sl 1 eStr a2)] [] zB ?_
 refine J_d 12 [] [10] [(10,bv ((a1.length:Int) !=(a2.length:Int)))] [] [] zB ?_
 refine zD 10 (fun h3=>?_) (fun h3=>?_)
 ·refine J_g 52 [] [(4,bv false)] [] zB ?_
  exact zN rfl
 ·refine J_d 28 [] [5,10] [(5,iv 0)] [] [] zB ?_
  refine uR (K0:=(fun r:Bool=>some (bv r,[]))) (fun _=>rfl) (zBd.ok a1 a2 q _ (fun v17=>J_j ?_) 0)
  refine J_g 30 [] [(4,bv true)] [] zB ?_
  exact zN rfl
noncomputable def c213:Code:=(Tryz.f213.body).getD .skip
theorem zD2.ok (a1:Term) (a2:Term):Ok Tryz.prog 213 [.ag (Term.enc a1),.ag (Term.enc a2)] [] ((zD2 a1 a2).map fun r=>(bv r,[])):=by
 refine zG c213 Tryz.f213 0 22 (fun q=>?_)
 unfold zD2
 refine J_g 2 [(0,0),(1,1)] [(2,pp 0),(3,pp 1)] [(0,.box (Term.enc a1)),(1,.box (Term.enc a2))] zB ?_
 refine J_d 12 [] [9] [(9,bv (!(seq a1.Name a2.Name)))] [] [] zB ?_
 refine zD 9 (fun h3=>?_) (fun h3=>?_)
 ·refine J_g 52 [] [(4,bv false)] [] zB ?_
  exact zN rfl
 ·refine zA (fun x4 h5=>?_)
  refine J_d 28 [] [9,15] [(15,bv (!x4))] [] [] (zF 4 (xU [(.tmp 11),(.tmp 13)] [99,99] (vF.ok a1.Low a2.Low) h5) zB) ?_
  refine zD 15 (fun h6=>?_) (fun h6=>?_)
  ·refine J_g 116 [] [(4,bv false)] [] zB ?_
   exact zN rfl
  ·refine zA (fun x7 h8=>?_)
   refine J_g 60 [] [(21,bv (!x7))] [] (zF 4 (xU [(.tmp 17),(.tmp 19)] [99,99] (vF.ok a1.High a2.High) h8) zB) ?_
   refine zD 21 (fun h9=>?_) (fun h9=>?_)
   ·refine J_g 244 [] [(4,bv false)] [] zB ?_
    exact zN rfl
   ·refine J_g 62 [] [(4,bv true)] [] zB ?_
    exact zN rfl
noncomputable def c145:Code:=(Tryz.f145.body).getD .skip
theorem zC1.ok (a1:(List Term)) (a2:(List Term)) (q:Wd) (kn:Unit→Option (D×List Ent)) (hk:∀v:Unit,J (q.g Tryz.prog 145 0 27) c145 (atI c145 15) (St.mk' [] []) (some v) kn):
  ∀s12:Int,J (q.g Tryz.prog 145 0 27) c145 (atI c145 116) (St.mk' [(0,sl 7 Term.enc a1),(1,sl 7 Term.enc a2),(5,iv s12)] []) (zC1 a1 a2 s12) (Fl.go (fun r:Bool=>some (bv r,[])) kn):=by
 refine kQ (fun g ih s12=>?_)
 unfold zDo
 refine J_d 464 [] [14] [(14,bv (decide (s12< (a1.length:Int))))] [] [] zB ?_
 refine zD 14 (fun h13=>?_) (fun h13=>?_)
 ·refine zA (fun x14 h15=>?_)
  refine zA (fun x16 h17=>?_)
  refine zA (fun x18 h19=>?_)
  refine J_d 1864 [] [14,26] [(26,bv (!x18))] [] [] (zF 2 (tL (kk:=.i64) 75 149 7 Term.enc (.tmp 17) (.tmp 18) h15) (zF 6 (tL (kk:=.i64) 75 149 7 Term.enc (.tmp 21) (.tmp 22) h17) (zF 8 (xU [(.tmp 20),(.tmp 24)] [149,149] (zD2.ok x14 x16) h19) zB))) ?_
  refine zD 26 (fun h20=>?_) (fun h20=>?_)
  ·refine J_g 7460 [] [(4,bv false)] [] zB ?_
   exact zN rfl
  ·refine J_d 467 [] [5,26] [(5,iv (w64 (s12+1)))] [] [] zB ?_
   exact J_q (J_b (ih (w64 (s12+1)))) rfl
 ·exact xA (hk ()) rfl
theorem zAr.ok (a1:(List Term)) (a2:(List Term)):Ok Tryz.prog 145 [sl 7 Term.enc a1,sl 7 Term.enc a2] [] ((zAr a1 a2).map fun r=>(bv r,[])):=by
 refine zG c145 Tryz.f145 0 27 (fun q=>?_)
 unfold zAr
 refine J_g 2 [] [(0,sl 7 Term.enc a1),(1,sl 7 Term.enc a2)] [] zB ?_
 refine J_d 12 [] [10] [(10,bv ((a1.length:Int) !=(a2.length:Int)))] [] [] zB ?_
 refine zD 10 (fun h3=>?_) (fun h3=>?_)
 ·refine J_g 52 [] [(4,bv false)] [] zB ?_
  exact zN rfl
 ·refine J_d 28 [] [5,10] [(5,iv 0)] [] [] zB ?_
  refine uR (K0:=(fun r:Bool=>some (bv r,[]))) (fun _=>rfl) (zC1.ok a1 a2 q _ (fun v21=>J_j ?_) 0)
  refine J_g 30 [] [(4,bv true)] [] zB ?_
  exact zN rfl
noncomputable def zQy:Code:=(Tryz.f144.body).getD .skip
theorem zBI.ok (a1:(List (List Term))) (a2:(List (List Term))) (q:Wd) (kn:Unit→Option (D×List Ent)) (hk:∀v:Unit,J (q.g Tryz.prog 144 0 27) zQy (atI zQy 15) (St.mk' [] []) (some v) kn):
  ∀s12:Int,J (q.g Tryz.prog 144 0 27) zQy (atI zQy 116) (St.mk' [(0,sl 1 (eSl false 7 Term.enc) a1),(1,sl 1 (eSl false 7 Term.enc) a2),(5,iv s12)] []) (zBI a1 a2 s12) (Fl.go (fun r:Bool=>some (bv r,[])) kn):=by
 refine kQ (fun g ih s12=>?_)
 unfold zCO
 refine J_d 464 [] [14] [(14,bv (decide (s12< (a1.length:Int))))] [] [] zB ?_
 refine zD 14 (fun h13=>?_) (fun h13=>?_)
 ·refine zA (fun x14 h15=>?_)
  refine zA (fun x16 h17=>?_)
  refine zA (fun x18 h19=>?_)
  refine J_d 1864 [] [14,26] [(26,bv (!x18))] [] [] (zF 2 (tL (kk:=.i64) 100 75 1 (eSl false 7 Term.enc) (.tmp 17) (.tmp 18) h15) (zF 6 (tL (kk:=.i64) 100 75 1 (eSl false 7 Term.enc) (.tmp 21) (.tmp 22) h17) (zF 8 (xU [(.tmp 20),(.tmp 24)] [75,75] (zAr.ok x14 x16) h19) zB))) ?_
  refine zD 26 (fun h20=>?_) (fun h20=>?_)
  ·refine J_g 7460 [] [(4,bv false)] [] zB ?_
   exact zN rfl
  ·refine J_d 467 [] [5,26] [(5,iv (w64 (s12+1)))] [] [] zB ?_
   exact J_q (J_b (ih (w64 (s12+1)))) rfl
 ·exact xA (hk ()) rfl
theorem zBv.ok (a1:(List (List Term))) (a2:(List (List Term))):Ok Tryz.prog 144 [sl 1 (eSl false 7 Term.enc) a1,sl 1 (eSl false 7 Term.enc) a2] [] ((zBv a1 a2).map fun r=>(bv r,[])):=by
 refine zG zQy Tryz.f144 0 27 (fun q=>?_)
 unfold zBv
 refine J_g 2 [] [(0,sl 1 (eSl false 7 Term.enc) a1),(1,sl 1 (eSl false 7 Term.enc) a2)] [] zB ?_
 refine J_d 12 [] [10] [(10,bv ((a1.length:Int) !=(a2.length:Int)))] [] [] zB ?_
 refine zD 10 (fun h3=>?_) (fun h3=>?_)
 ·refine J_g 52 [] [(4,bv false)] [] zB ?_
  exact zN rfl
 ·refine J_d 28 [] [5,10] [(5,iv 0)] [] [] zB ?_
  refine uR (K0:=(fun r:Bool=>some (bv r,[]))) (fun _=>rfl) (zBI.ok a1 a2 q _ (fun v21=>J_j ?_) 0)
  refine J_g 30 [] [(4,bv true)] [] zB ?_
  exact zN rfl
noncomputable def c69:Code:=(Tryz.f69.body).getD .skip
theorem zD1.ok (a1:Pack) (a2:Pack):Ok Tryz.prog 69 [.ag (Pack.enc false a1),.ag (Pack.enc false a2)] [] ((zD1 a1 a2).map fun r=>(bv r,[])):=by
 refine zG c69 Tryz.f69 0 39 (fun q=>?_)
 unfold zD1
 refine J_g 2 [(0,0),(1,1)] [(2,pp 0),(3,pp 1)] [(0,.box (Pack.enc false a1)),(1,.box (Pack.enc false a2))] zB ?_
 refine J_d 12 [] [9] [(9,bv (!(seq a1.Name a2.Name)))] [] [] zB ?_
 refine zD 9 (fun h3=>?_) (fun h3=>?_)
 ·refine J_g 52 [] [(4,bv false)] [] zB ?_
  exact zN rfl
 ·refine zA (fun x4 h5=>?_)
  refine J_d 28 [] [9,15] [(15,bv (!x4))] [] [] (zF 4 (xU [(.tmp 11),(.tmp 13)] [99,99] (vF.ok a1.Version a2.Version) h5) zB) ?_
  refine zD 15 (fun h6=>?_) (fun h6=>?_)
  ·refine J_g 116 [] [(4,bv false)] [] zB ?_
   exact zN rfl
  ·refine J_d 60 [] [15,20] [(20,bv (a1.Size !=a2.Size))] [] [] zB ?_
   refine zD 20 (fun h7=>?_) (fun h7=>?_)
   ·refine J_g 244 [] [(4,bv false)] [] zB ?_
    exact zN rfl
   ·refine zA (fun x8 h9=>?_)
    refine J_d 124 [] [20,26] [(26,bv (!x8))] [] [] (zF 4 (xU [(.tmp 22),(.tmp 24)] [86,86] (zAJ.ok a1.Provides a2.Provides) h9) zB) ?_
    refine zD 26 (fun h10=>?_) (fun h10=>?_)
    ·refine J_g 500 [] [(4,bv false)] [] zB ?_
     exact zN rfl
    ·refine zA (fun x11 h12=>?_)
     refine J_d 252 [] [26,32] [(32,bv (!x11))] [] [] (zF 4 (xU [(.tmp 28),(.tmp 30)] [100,100] (zBv.ok a1.Needs a2.Needs) h12) zB) ?_
     refine zD 32 (fun h13=>?_) (fun h13=>?_)
     ·refine J_g 1012 [] [(4,bv false)] [] zB ?_
      exact zN rfl
     ·refine zA (fun x14 h15=>?_)
      refine J_g 508 [] [(38,bv (!x14))] [] (zF 4 (xU [(.tmp 34),(.tmp 36)] [75,75] (zAr.ok a1.Bars a2.Bars) h15) zB) ?_
      refine zD 38 (fun h16=>?_) (fun h16=>?_)
      ·refine J_g 2036 [] [(4,bv false)] [] zB ?_
       exact zN rfl
      ·refine J_g 510 [] [(4,bv true)] [] zB ?_
       exact zN rfl
noncomputable def c21:Code:=(Tryz.f21.body).getD .skip
theorem zCh.ok (a1:(List Pack)) (a2:(List Pack)) (q:Wd) (kn:Unit→Option (D×List Ent)) (hk:∀v:Unit,J (q.g Tryz.prog 21 0 27) c21 (atI c21 15) (St.mk' [] []) (some v) kn):
  ∀s12:Int,J (q.g Tryz.prog 21 0 27) c21 (atI c21 116) (St.mk' [(0,sl 8 (Pack.enc false) a1),(1,sl 8 (Pack.enc false) a2),(5,iv s12)] []) (zCh a1 a2 s12) (Fl.go (fun r:Bool=>some (bv r,[])) kn):=by
 refine kQ (fun g ih s12=>?_)
 unfold zDm
 refine J_d 464 [] [14] [(14,bv (decide (s12< (a1.length:Int))))] [] [] zB ?_
 refine zD 14 (fun h13=>?_) (fun h13=>?_)
 ·refine zA (fun x14 h15=>?_)
  refine zA (fun x16 h17=>?_)
  refine zA (fun x18 h19=>?_)
  refine J_d 1864 [] [14,26] [(26,bv (!x18))] [] [] (zF 2 (tL (kk:=.i64) 30 102 8 (Pack.enc false) (.tmp 17) (.tmp 18) h15) (zF 6 (tL (kk:=.i64) 30 102 8 (Pack.enc false) (.tmp 21) (.tmp 22) h17) (zF 8 (xU [(.tmp 20),(.tmp 24)] [102,102] (zD1.ok x14 x16) h19) zB))) ?_
  refine zD 26 (fun h20=>?_) (fun h20=>?_)
  ·refine J_g 7460 [] [(4,bv false)] [] zB ?_
   exact zN rfl
  ·refine J_d 467 [] [5,26] [(5,iv (w64 (s12+1)))] [] [] zB ?_
   exact J_q (J_b (ih (w64 (s12+1)))) rfl
 ·exact xA (hk ()) rfl
theorem zC3.ok (a1:(List Pack)) (a2:(List Pack)):Ok Tryz.prog 21 [sl 8 (Pack.enc false) a1,sl 8 (Pack.enc false) a2] [] ((zC3 a1 a2).map fun r=>(bv r,[])):=by
 refine zG c21 Tryz.f21 0 27 (fun q=>?_)
 unfold zC3
 refine J_g 2 [] [(0,sl 8 (Pack.enc false) a1),(1,sl 8 (Pack.enc false) a2)] [] zB ?_
 refine J_d 12 [] [10] [(10,bv ((a1.length:Int) !=(a2.length:Int)))] [] [] zB ?_
 refine zD 10 (fun h3=>?_) (fun h3=>?_)
 ·refine J_g 52 [] [(4,bv false)] [] zB ?_
  exact zN rfl
 ·refine J_d 28 [] [5,10] [(5,iv 0)] [] [] zB ?_
  refine uR (K0:=(fun r:Bool=>some (bv r,[]))) (fun _=>rfl) (zCh.ok a1 a2 q _ (fun v21=>J_j ?_) 0)
  refine J_g 30 [] [(4,bv true)] [] zB ?_
  exact zN rfl
noncomputable def c71:Code:=(Tryz.f71.body).getD .skip
theorem zBP.ok (q:Wd) (kn:ByteArray→Option (D×List Ent)) (hk:∀v:ByteArray,J (q.g Tryz.prog 71 0 20) c71 (atI c71 31) (St.mk' [(3,sv v)] []) (some v) kn):
  ∀s6:(Int×ByteArray),J (q.g Tryz.prog 71 0 20) c71 (atI c71 120) (St.mk' [(0,iv s6.1),(3,sv s6.2)] []) (zBP s6) kn:=by
 refine kQ (fun g ih s6=>?_)
 unfold zCP
 refine J_d 480 [] [7] [(7,bv (decide (s6.1>0)))] [] [] zB ?_
 refine zD 7 (fun h7=>?_) (fun h7=>?_)
 ·refine zA (fun x8 h9=>?_)
  refine J_g 964 [] [(0,iv s6.1),(3,sv x8)] [] (zF 4 (zE6 121 5 1 0 eU8 [IntKind.u8.wrap (w64 (48+(s6.1.tmod 10)))] [0] [(.tmp 11)] [uv (IntKind.u8.wrap (w64 (48+(s6.1.tmod 10))))]) (zF 5 (zNa (xs:=[IntKind.u8.wrap (w64 (48+(s6.1.tmod 10)))]) 121 9 5 0 (.tmp 12)) (zF 7 (zEE 9 9 (.tmp 13) (.tmp 14) h9) zB))) ?_
  refine J_g 965 [] [(0,iv (w64 (s6.1.tdiv 10))),(3,sv x8)] [] zB ?_
  exact J_q (J_b (ih (w64 (s6.1.tdiv 10),x8))) rfl
 ·exact xA (hk s6.2) rfl
theorem wD.ok (a1:Int):Ok Tryz.prog 71 [iv a1] [] ((wD a1).map fun r=>(sv r,[])):=by
 refine zG c71 Tryz.f71 0 20 (fun q=>?_)
 unfold wD
 refine J_g 2 [] [(0,iv a1)] [] zB ?_
 refine J_g 12 [] [(0,iv a1),(5,bv (decide (a1≤0)))] [] zB ?_
 refine zD 5 (fun h2=>?_) (fun h2=>?_)
 ·refine J_g 52 [] [(2,sv (bs [109,48]))] [] zB ?_
  exact zN rfl
 ·refine J_g 14 [] [(0,iv a1),(3,sv (bs []))] [] zB ?_
  refine zEH (zBP.ok q _ (fun v10=>J_j ?_) (a1,bs []))
  refine zA (fun x11 h12=>?_)
  refine J_g 62 [] [(2,sv x11)] [] (zF 1 (zEE 9 9 (.const (.string (bs [109]))) (.tmp 18) h12) zB) ?_
  exact zN rfl
noncomputable def c72:Code:=(Tryz.f72.body).getD .skip
theorem jS.ok (q:Wd) (kn:((List ByteArray)×Int)→Option (D×List Ent)) (hk:∀v:((List ByteArray)×Int),J (q.g Tryz.prog 72 1 20) c72 (atI c72 7) (St.mk' [(1,iv v.2)] [(0,rE 1 eStr v.1)]) (some v) kn):
  ∀s8:((List ByteArray)×Int×Int),J (q.g Tryz.prog 72 1 20) c72 (atI c72 52) (St.mk' [(0,rr 0 s8.1),(1,iv s8.2.1),(5,iv s8.2.2)] [(0,rE 1 eStr s8.1)]) (jS s8) kn:=by
 refine kQ (fun g ih s8=>?_)
 unfold jF
 refine J_d 208 [] [9] [(9,bv (decide (s8.2.2< (s8.1.length:Int))))] [] [] zB ?_
 refine zD 9 (fun h9=>?_) (fun h9=>?_)
 ·refine zA (fun x10 h11=>?_)
  refine zA (fun x12 h13=>?_)
  refine J_g 840 [] [(0,rr 0 s8.1),(1,iv s8.2.1),(5,iv s8.2.2)] [(0,rE 1 eStr (s8.1.set s8.2.2.toNat x10))] (zF 3 (xU [(.tmp 14)] [3] (wD.ok s8.2.1) h11) (zF 4 (tY (kk:=.i64) 86 9 1 0 eStr (.tmp 12) (.tmp 13) h13) (zFR 5 (zHI (b:=x10) 9 1 0 0 eStr (sv x10) (.tmp 16) (.tmp 15) h13 rfl) zB))) ?_
  refine zFo (σ':=St.mk' [(0,rr 0 (s8.1.set s8.2.2.toNat x10)),(1,iv s8.2.1),(5,iv s8.2.2)] [(0,rE 1 eStr (s8.1.set s8.2.2.toNat x10))]) (by simp only [rr,List.length_set]) ?_
  refine J_g 841 [] [(0,rr 0 (s8.1.set s8.2.2.toNat x10)),(1,iv (w64 (s8.2.1+1))),(5,iv s8.2.2)] [(0,rE 1 eStr (s8.1.set s8.2.2.toNat x10))] zB ?_
  refine J_d 211 [] [5] [(5,iv (w64 (s8.2.2+1)))] [] [] zB ?_
  exact J_q (J_b (ih (s8.1.set s8.2.2.toNat x10,w64 (s8.2.1+1),w64 (s8.2.2+1)))) rfl
 ·exact xA (hk (s8.1,s8.2.1)) rfl
theorem uT.ok (a1:(List ByteArray)) (a2:Int):Ok Tryz.prog 72 [rr 0 a1,iv a2] [rE 1 eStr a1] ((uT a1 a2).map fun r=>(iv r.1,[rE 1 eStr r.2])):=by
 refine zG c72 Tryz.f72 1 20 (fun q=>?_)
 unfold uT
 refine J_g 2 [] [(0,rr 0 a1),(1,iv a2)] [(0,rE 1 eStr a1)] zB ?_
 refine J_d 12 [] [5] [(5,iv 0)] [] [] zB ?_
 refine zEH (jS.ok q _ (fun v14=>J_j ?_) (a1,a2,0))
 refine J_g 14 [] [(4,iv v14.2)] [(0,rE 1 eStr v14.1)] zB ?_
 exact zN rfl
end Go.Told

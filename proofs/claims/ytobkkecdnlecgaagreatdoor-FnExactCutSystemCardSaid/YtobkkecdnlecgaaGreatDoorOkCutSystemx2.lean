import Derived.Test.YtobkkecdnlecgaaGreatDoorOkCutSystemx1
set_option linter.unusedVariables false
set_option maxRecDepth 4000
namespace Go.Told
open Go Go.Im Go.Proofs
noncomputable def zS3:Code:=(Tryz.f209.body).getD .skip
theorem uJ.ok (a1:(List ByteArray)) (a2:ByteArray) (q:Wd) (kn:Unit→Option (D×List Ent)) (hk:∀v:Unit,J (q.g Tryz.prog 209 0 19) zS3 (atI zS3 7) (St.mk' [] []) (some v) kn):
  ∀s7:Int,J (q.g Tryz.prog 209 0 19) zS3 (atI zS3 52) (St.mk' [(0,sl 1 eStr a1),(1,sv a2),(7,iv (a1.length:Int)),(8,iv s7)] []) (uJ a1 a2 s7) (Fl.go (fun r:Int=>some (iv r,[])) kn):=by
 refine tQ (fun g ih s7=>?_)
 unfold uE
 refine J_d 104 [] [9] [(9,bv (decide (s7< (a1.length:Int))))] [] [] zB ?_
 refine zG 9 (fun h8=>?_) (fun h8=>?_)
 ·refine J_d 1688 [] [5,9] [(5,iv s7)] [] [] zB ?_
  refine zA (fun x9 h10=>?_)
  refine J_d 3378 [] [16] [(16,bv (seq a2 x9))] [] [] (zF 3 (vI (kk:=.i64) 86 9 1 eStr (.tmp 12) (.tmp 13) h10) zB) ?_
  refine zG 16 (fun h11=>?_) (fun h11=>?_)
  ·refine J_g 13516 [] [(4,iv s7)] [] zB ?_
   exact zM rfl
  ·refine J_d 423 [] [5,8,16] [(8,iv (w64 (s7+1)))] [] [] zB ?_
   exact J_q (J_b (ih (w64 (s7+1)))) rfl
 ·exact yN (hk ()) rfl
theorem uR.ok (a1:(List ByteArray)) (a2:ByteArray):Ok Tryz.prog 209 [sl 1 eStr a1,sv a2] [] ((uR a1 a2).map fun r=>(iv r,[])):=by
 refine zH zS3 Tryz.f209 0 19 (fun q=>?_)
 unfold uR
 refine J_g 2 [] [(0,sl 1 eStr a1),(1,sv a2)] [] zB ?_
 refine J_d 12 [] [7,8] [(7,iv (a1.length:Int)),(8,iv 0)] [] [] zB ?_
 refine vZ (K0:=(fun r:Int=>some (iv r,[]))) (fun _=>rfl) (uJ.ok a1 a2 q _ (fun v12=>J_j ?_) 0)
 refine J_g 14 [] [(4,iv (-1))] [] zB ?_
 exact zM rfl
noncomputable def zUf:Code:=(Tryz.f137.body).getD .skip
theorem wX.ok (a1:(List ByteArray)) (a2:ByteArray):Ok Tryz.prog 137 [sl 1 eStr a1,sv a2] [] ((wX a1 a2).map fun r=>(bv r,[])):=by
 refine zH zUf Tryz.f137 0 9 (fun q=>?_)
 unfold wX
 refine J_d 2 [] [] [] [] [] zB ?_
 refine zA (fun x3 h4=>?_)
 refine J_g 6 [] [(4,bv (decide (x3≥0)))] [] (zF 2 (xC [(.tmp 5),(.tmp 6)] [86,9] (uR.ok a1 a2) h4) zB) ?_
 exact zM rfl
noncomputable def zUz:Code:=(Tryz.f254.body).getD .skip
theorem zDZ.ok:Ok Tryz.prog 254 [] [] ((zDZ).map fun r=>(.ag (Version.enc r),[])):=by
 refine zH zUz Tryz.f254 0 2 (fun q=>?_)
 unfold zDZ
 refine J_g 2 [(0,0)] [(0,pp 0)] [(0,.box [iv 0,iv 0,iv 0])] zB ?_
 refine J_g 6 [] [(0,pp 0)] [(0,.box [iv 1000,iv 0,iv 0])] zB ?_
 exact zM rfl
noncomputable def zTE:Code:=(Tryz.f310.body).getD .skip
theorem jM.ok (a1:Int):Ok Tryz.prog 310 [iv a1] [] ((jM a1).map fun r=>(bv r,[])):=by
 refine zH zTE Tryz.f310 0 6 (fun q=>?_)
 unfold jM
 refine J_g 2 [] [(0,iv a1)] [] zB ?_
 refine J_g 6 [] [(2,bv (a1 !=a1))] [] zB ?_
 exact zM rfl
noncomputable def zUw:Code:=(Tryz.f303.body).getD .skip
theorem wW.ok (a1:Int) (a2:Int):Ok Tryz.prog 303 [iv a1,iv a2] [] ((wW a1 a2).map fun r=>(iv r,[])):=by
 refine zH zUw Tryz.f303 0 20 (fun q=>?_)
 unfold wW
 refine J_d 2 [] [] [] [] [] zB ?_
 refine zA (fun x3 h4=>?_)
 refine J_d 6 [] [5] [(5,bv x3)] [] [] (zF 1 (xC [(.tmp 7)] [2] (jM.ok a1) h4) zB) ?_
 refine zA (fun x5 h6=>?_)
 refine J_g 14 [] [(0,iv a1),(1,iv a2),(5,bv x3),(6,bv x5)] [] (zF 1 (xC [(.tmp 9)] [2] (jM.ok a2) h6) zB) ?_
 refine J_d 60 [] [5,11] [(11,bv x3)] [] [] zB ?_
 refine zG 11 (fun h7=>?_) (fun h7=>?_)
 ·refine J_g 488 [] [(12,bv x5)] [] zB ?_
  refine zG 12 (fun h8=>?_) (fun h8=>?_)
  ·refine J_g 1956 [] [(4,iv 0)] [] zB ?_
   exact zM rfl
  ·refine J_g 490 [] [(4,iv (-1))] [] zB ?_
   exact zM rfl
 ·refine J_g 124 [] [(0,iv a1),(1,iv a2),(13,bv x5)] [] zB ?_
  refine zG 13 (fun h9=>?_) (fun h9=>?_)
  ·refine J_g 500 [] [(4,iv 1)] [] zB ?_
   exact zM rfl
  ·refine J_d 252 [] [13,16] [(16,bv (decide (a1<a2)))] [] [] zB ?_
   refine zG 16 (fun h10=>?_) (fun h10=>?_)
   ·refine J_g 1012 [] [(4,iv (-1))] [] zB ?_
    exact zM rfl
   ·refine J_g 508 [] [(19,bv (decide (a1>a2)))] [] zB ?_
    refine zG 19 (fun h11=>?_) (fun h11=>?_)
    ·refine J_g 2036 [] [(4,iv 1)] [] zB ?_
     exact zM rfl
    ·refine J_g 510 [] [(4,iv 0)] [] zB ?_
     exact zM rfl
noncomputable def zRJ:Code:=(Tryz.f302.body).getD .skip
theorem zEW.ok (a1:(List Int)) (q:Wd) (kn:Unit→Option (D×List Ent)) (hk:∀v:Unit,J (q.g Tryz.prog 302 0 18) zRJ (atI zRJ 15) (St.mk' [(3,iv 0)] []) (some v) kn):
  ∀s6:Int,J (q.g Tryz.prog 302 0 18) zRJ (atI zRJ 116) (St.mk' [(3,iv 0),(6,sl 1 zU a1),(7,iv (a1.length:Int)),(8,iv s6)] []) (zEW a1 s6) (Fl.go (fun r:Int=>some (iv r,[])) kn):=by
 refine tQ (fun g ih s6=>?_)
 unfold zEg
 refine J_d 232 [] [9] [(9,bv (decide (s6< (a1.length:Int))))] [] [] zB ?_
 refine zG 9 (fun h7=>?_) (fun h7=>?_)
 ·refine zA (fun x8 h9=>?_)
  refine J_g 3736 [] [(3,iv 0),(5,iv x8),(6,sl 1 zU a1),(7,iv (a1.length:Int)),(8,iv s6)] [] (zF 0 (vI (kk:=.i64) 318 3 1 zU (.tmp 6) (.tmp 8) h9) zB) ?_
  refine J_d 7474 [] [14] [(14,bv (x8 !=0))] [] [] zB ?_
  refine zG 14 (fun h10=>?_) (fun h10=>?_)
  ·refine J_g 29900 [] [(2,iv x8)] [] zB ?_
   exact zM rfl
  ·refine J_d 935 [] [5,8,14] [(8,iv (w64 (s6+1)))] [] [] zB ?_
   exact J_q (J_b (ih (w64 (s6+1)))) rfl
 ·exact yN (hk ()) rfl
theorem zFH.ok (a1:(List Int)):Ok Tryz.prog 302 [sl 1 zU a1] [] ((zFH a1).map fun r=>(iv r,[])):=by
 refine zH zRJ Tryz.f302 0 18 (fun q=>?_)
 unfold zFH
 refine J_g 2 [] [(0,sl 1 zU a1)] [] zB ?_
 refine J_g 6 [] [(0,sl 1 zU a1),(3,iv 0)] [] zB ?_
 refine J_g 28 [] [(3,iv 0),(6,sl 1 zU a1),(7,iv (a1.length:Int)),(8,iv 0)] [] zB ?_
 refine vZ (K0:=(fun r:Int=>some (iv r,[]))) (fun _=>rfl) (zEW.ok a1 q _ (fun v11=>J_j ?_) 0)
 refine J_g 30 [] [(2,iv 0)] [] zB ?_
 exact zM rfl
noncomputable def zTH:Code:=(Tryz.f257.body).getD .skip
theorem uV.ok (a1:Version) (a2:Version):Ok Tryz.prog 257 [.ag (Version.enc a1),.ag (Version.enc a2)] [] ((uV a1 a2).map fun r=>(iv r,[])):=by
 refine zH zTH Tryz.f257 0 22 (fun q=>?_)
 unfold uV
 refine J_g 2 [(0,0),(1,1)] [(2,pp 0),(3,pp 1)] [(0,.box (Version.enc a1)),(1,.box (Version.enc a2))] zB ?_
 refine zA (fun x3 h4=>?_)
 refine zA (fun x5 h6=>?_)
 refine zA (fun x7 h8=>?_)
 refine zA (fun x9 h10=>?_)
 refine J_g 6 [] [(4,iv x9)] [] (zF 4 (xC [(.tmp 6),(.tmp 8)] [2,2] (wW.ok a1.A a2.A) h4) (zF 9 (xC [(.tmp 11),(.tmp 13)] [2,2] (wW.ok a1.B a2.B) h6) (zF 14 (xC [(.tmp 16),(.tmp 18)] [2,2] (wW.ok a1.C a2.C) h8) (zF 15 (zFk 318 3 1 2 zU [x3,x5,x7] [0,1,2] [(.tmp 9),(.tmp 14),(.tmp 19)] [iv x3,iv x5,iv x7]) (zF 16 (vQ («as»:=[rr 2 [x3,x5,x7]]) [(.tmp 20)] [318] true [(2,rE 1 zU [x3,x5,x7])] [] (.cons (zFE (.head _) (fun _=>rfl) rfl) (.nil)) (zFH.ok [x3,x5,x7]) h10 (.same rfl rfl) (hbor:=fun _=>⟨fhN,zQ⟩)) zB))))) ?_
 exact zM rfl
noncomputable def zT0:Code:=(Tryz.f190.body).getD .skip
theorem vJ.ok (a1:Term):Ok Tryz.prog 190 [.ag (Term.enc a1)] [] ((vJ a1).map fun r=>(iv r,[])):=by
 refine zH zT0 Tryz.f190 0 35 (fun q=>?_)
 unfold vJ
 refine J_g 2 [(0,0)] [(1,pp 0)] [(0,.box (Term.enc a1))] zB ?_
 refine zA (fun x2 h3=>?_)
 refine J_g 12 [] [(1,pp 0),(3,iv x2)] [(0,.box (Term.enc a1))] (zF 2 (xC [(.tmp 6)] [9] (wZ.ok a1.Name) h3) zB) ?_
 refine J_d 26 [] [9] [(9,bv (x2 !=0))] [] [] zB ?_
 refine zG 9 (fun h4=>?_) (fun h4=>?_)
 ·refine J_g 108 [] [(2,iv x2)] [] zB ?_
  exact zM rfl
 ·refine zA (fun x5 h6=>?_)
  refine J_g 28 [] [(1,pp 0),(4,iv x5)] [(0,.box (Term.enc a1))] (zF 2 (xC [(.tmp 12)] [99] (wV.ok a1.Low) h6) zB) ?_
  refine J_d 58 [] [15] [(15,bv (x5 !=0))] [] [] zB ?_
  refine zG 15 (fun h7=>?_) (fun h7=>?_)
  ·refine J_g 236 [] [(2,iv x5)] [] zB ?_
   exact zM rfl
  ·refine zA (fun x8 h9=>?_)
   refine wH (atI zT0 121) (fun v13:Bool=>St.mk' [(1,pp 0),(17,bv v13)] [(0,.box (Term.enc a1))]) (fun v13=>?_) (fun jv13=>?_)
   ·refine zG 17 (fun h14=>?_) (fun h14=>?_)
    ·refine J_g 484 [] [(2,iv 3)] [] zB ?_
     exact zM rfl
    ·refine zA (fun x15 h16=>?_)
     refine J_g 486 [] [(28,bv (decide (x15≥0)))] [] (zF 4 (xC [(.tmp 30),(.tmp 32)] [99,99] (uV.ok a1.Low a1.High) h16) zB) ?_
     refine zG 28 (fun h17=>?_) (fun h17=>?_)
     ·refine J_g 1948 [] [(2,iv 1)] [] zB ?_
      exact zM rfl
     ·refine J_g 62 [] [(2,iv 0)] [] zB ?_
      exact zM rfl
   ·refine wT (fun h10=>?_) (fun h10=>?_)
    ·refine zA (fun x11 h12=>?_)
     refine J_d 120 [] [4,15,17] [(17,bv (x11 !=0))] [] [] (zF 2 (xC [] [] (zDZ.ok) h9) (zF 3 (zLk (b:=.neq) (r:=(a1.High.A==x8.A&&(a1.High.B==x8.B&&(a1.High.C==x8.C&&true)))) 99 99 (.tmp 19) (.tmp 20) [.int .i64 a1.High.A,.int .i64 a1.High.B,.int .i64 a1.High.C] [.int .i64 x8.A,.int .i64 x8.B,.int .i64 x8.C] (.inr ⟨rfl,rfl⟩)) (wE 4 [(21,bv (!(a1.High.A==x8.A&&(a1.High.B==x8.B&&(a1.High.C==x8.C&&true)))))] [] h10 (zBr 7 4 22 true (xC [(.tmp 24)] [99] (wV.ok a1.High) h12) zB)))) ?_
     exact yN (J_j (jv13 (x11 !=0))) rfl
    ·refine J_d 120 [] [4,15,17] [(17,bv false)] [] [] (zF 2 (xC [] [] (zDZ.ok) h9) (zF 3 (zLk (b:=.neq) (r:=(a1.High.A==x8.A&&(a1.High.B==x8.B&&(a1.High.C==x8.C&&true)))) 99 99 (.tmp 19) (.tmp 20) [.int .i64 a1.High.A,.int .i64 a1.High.B,.int .i64 a1.High.C] [.int .i64 x8.A,.int .i64 x8.B,.int .i64 x8.C] (.inr ⟨rfl,rfl⟩)) (wE 4 [(21,bv (!(a1.High.A==x8.A&&(a1.High.B==x8.B&&(a1.High.C==x8.C&&true)))))] [] h10 zB))) ?_
     exact yN (J_j (jv13 false)) rfl
noncomputable def zS6:Code:=(Tryz.f191.body).getD .skip
theorem zAV.ok (a1:(List Term)) (q:Wd) (kn:Unit→Option (D×List Ent)) (hk:∀v:Unit,J (q.g Tryz.prog 191 0 18) zS6 (atI zS6 7) (St.mk' [] []) (some v) kn):
  ∀s8:Int,J (q.g Tryz.prog 191 0 18) zS6 (atI zS6 52) (St.mk' [(6,sl 7 Term.enc a1),(7,iv (a1.length:Int)),(8,iv s8)] []) (zAV a1 s8) (Fl.go (fun r:Int=>some (iv r,[])) kn):=by
 refine tQ (fun g ih s8=>?_)
 unfold zA6
 refine J_d 104 [] [9] [(9,bv (decide (s8< (a1.length:Int))))] [] [] zB ?_
 refine zG 9 (fun h9=>?_) (fun h9=>?_)
 ·refine zA (fun x10 h11=>?_)
  refine J_d 1688 [(2,0)] [4,9] [(4,pp 0)] [0] [(0,.box (Term.enc x10))] (zF 0 (vI (kk:=.i64) 75 149 7 Term.enc (.tmp 6) (.tmp 8) h11) zB) ?_
  refine zA (fun x12 h13=>?_)
  refine J_g 3378 [] [(5,iv x12),(6,sl 7 Term.enc a1),(7,iv (a1.length:Int)),(8,iv s8)] [] (zF 1 (xC [(.tmp 12)] [149] (vJ.ok x10) h13) zB) ?_
  refine J_d 6758 [] [15] [(15,bv (x12 !=0))] [] [] zB ?_
  refine zG 15 (fun h14=>?_) (fun h14=>?_)
  ·refine J_g 27036 [] [(2,iv x12)] [] zB ?_
   exact zM rfl
  ·refine J_d 423 [] [5,8,15] [(8,iv (w64 (s8+1)))] [] [] zB ?_
   exact J_q (J_b (ih (w64 (s8+1)))) rfl
 ·exact yN (hk ()) rfl
theorem wY.ok (a1:(List Term)):Ok Tryz.prog 191 [sl 7 Term.enc a1] [] ((wY a1).map fun r=>(iv r,[])):=by
 refine zH zS6 Tryz.f191 0 18 (fun q=>?_)
 unfold wY
 refine J_g 2 [] [(0,sl 7 Term.enc a1)] [] zB ?_
 refine J_g 12 [] [(6,sl 7 Term.enc a1),(7,iv (a1.length:Int)),(8,iv 0)] [] zB ?_
 refine vZ (K0:=(fun r:Int=>some (iv r,[]))) (fun _=>rfl) (zAV.ok a1 q _ (fun v15=>J_j ?_) 0)
 refine J_g 14 [] [(2,iv 0)] [] zB ?_
 exact zM rfl
noncomputable def c173:Code:=(Tryz.f173.body).getD .skip
theorem kX.ok (a1:Pack) (q:Wd) (kn:Unit→Option (D×List Ent)) (hk:∀v:Unit,J (q.g Tryz.prog 173 0 93) c173 (atI c173 63) (St.mk' [(1,pp 0)] [(0,.box (Pack.enc false a1))]) (some v) kn):
  ∀s54:Int,J (q.g Tryz.prog 173 0 93) c173 (atI c173 500) (St.mk' [(1,pp 0),(75,sl 1 (eSl false 7 Term.enc) a1.Needs),(76,iv (a1.Needs.length:Int)),(77,iv s54)] [(0,.box (Pack.enc false a1))]) (kX a1 s54) (Fl.go (fun r:Int=>some (iv r,[])) kn):=by
 refine tQ (fun g ih s54=>?_)
 unfold zAZ
 refine J_d 1000 [] [78] [(78,bv (decide (s54< (a1.Needs.length:Int))))] [] [] zB ?_
 refine zG 78 (fun h55=>?_) (fun h55=>?_)
 ·refine zA (fun x56 h57=>?_)
  refine J_g 16024 [] [(1,pp 0),(8,sl 7 Term.enc x56),(75,sl 1 (eSl false 7 Term.enc) a1.Needs),(76,iv (a1.Needs.length:Int)),(77,iv s54)] [(0,.box (Pack.enc false a1))] (zF 0 (vI (kk:=.i64) 100 75 1 (eSl false 7 Term.enc) (.tmp 75) (.tmp 77) h57) zB) ?_
  refine J_d 64100 [] [83] [(83,bv ((x56.length:Int)==0))] [] [] zB ?_
  refine zG 83 (fun h58=>?_) (fun h58=>?_)
  ·refine J_g 256404 [] [(2,iv 1)] [] zB ?_
   exact zM rfl
  ·refine zA (fun x59 h60=>?_)
   refine J_g 64102 [] [(1,pp 0),(9,iv x59),(75,sl 1 (eSl false 7 Term.enc) a1.Needs),(76,iv (a1.Needs.length:Int)),(77,iv s54)] [(0,.box (Pack.enc false a1))] (zF 1 (xC [(.tmp 84)] [75] (wY.ok x56) h60) zB) ?_
   refine J_d 128206 [] [87] [(87,bv (x59 !=0))] [] [] zB ?_
   refine zG 87 (fun h61=>?_) (fun h61=>?_)
   ·refine J_g 512828 [] [(2,iv x59)] [] zB ?_
    exact zM rfl
   ·refine J_d 4007 [] [9,77,87] [(77,iv (w64 (s54+1)))] [] [] zB ?_
    exact J_q (J_b (ih (w64 (s54+1)))) rfl
 ·exact yN (hk ()) rfl
theorem zAf.ok (a1:Pack) (q:Wd) (kn:Unit→Option (D×List Ent)) (hk:∀v:Unit,J (q.g Tryz.prog 173 0 93) c173 (atI c173 31) (St.mk' [(1,pp 0)] [(0,.box (Pack.enc false a1))]) (some v) kn):
  ∀s32:Int,J (q.g Tryz.prog 173 0 93) c173 (atI c173 244) (St.mk' [(1,pp 0),(49,sl 1 eStr a1.Provides),(50,iv (a1.Provides.length:Int)),(51,iv s32)] [(0,.box (Pack.enc false a1))]) (zAf a1 s32) (Fl.go (fun r:Int=>some (iv r,[])) kn):=by
 refine tQ (fun g ih s32=>?_)
 unfold zAR
 refine J_d 488 [] [52] [(52,bv (decide (s32< (a1.Provides.length:Int))))] [] [] zB ?_
 refine zG 52 (fun h33=>?_) (fun h33=>?_)
 ·refine zA (fun x34 h35=>?_)
  refine J_d 7832 [] [4,5,52] [(4,iv s32),(5,sv x34)] [] [] (zF 1 (vI (kk:=.i64) 86 9 1 eStr (.tmp 49) (.tmp 51) h35) zB) ?_
  refine zA (fun x36 h37=>?_)
  refine J_g 31332 [] [(1,pp 0),(4,iv s32),(5,sv x34),(6,iv x36),(49,sl 1 eStr a1.Provides),(50,iv (a1.Provides.length:Int)),(51,iv s32)] [(0,.box (Pack.enc false a1))] (zF 1 (xC [(.tmp 56)] [9] (wZ.ok x34) h37) zB) ?_
  refine J_d 62666 [] [59] [(59,bv (x36 !=0))] [] [] zB ?_
  refine zG 59 (fun h38=>?_) (fun h38=>?_)
  ·refine J_g 250668 [] [(2,iv x36)] [] zB ?_
   exact zM rfl
  ·refine wH (atI c173 31335) (fun v44:Bool=>St.mk' [(1,pp 0),(49,sl 1 eStr a1.Provides),(50,iv (a1.Provides.length:Int)),(51,iv s32),(72,bv v44)] [(0,.box (Pack.enc false a1))]) (fun v44=>?_) (fun jv44=>?_)
   ·refine zG 72 (fun h45=>?_) (fun h45=>?_)
    ·refine J_g 125340 [] [(2,iv 6)] [] zB ?_
     exact zM rfl
    ·refine J_d 1959 [] [51,72] [(51,iv (w64 (s32+1)))] [] [] zB ?_
     exact J_q (J_b (ih (w64 (s32+1)))) rfl
   ·refine wT (fun h39=>?_) (fun h39=>?_)
    ·refine J_d 31334 [] [4,5,6,59,72] [(72,bv true)] [] [] (wE 4 [(64,bv (seq x34 a1.Name))] [] h39 zB) ?_
     exact yN (J_j (jv44 true)) rfl
    ·refine zA (fun x40 h41=>?_)
     refine zA (fun x42 h43=>?_)
     refine J_d 31334 [] [4,5,6,59,72] [(72,bv x42)] [] [] (wE 4 [(64,bv (seq x34 a1.Name))] [] h39 (zBr 8 4 65 false (zRE 86 9 1 eStr (.tmp 67) none (some (.tmp 68)) h41) (zBr 10 4 65 false (xC [(.tmp 69),(.tmp 70)] [86,9] (wX.ok x40 x34) h43) zB))) ?_
     exact yN (J_j (jv44 x42)) rfl
 ·exact yN (hk ()) rfl
theorem zBu.ok (a1:Pack):Ok Tryz.prog 173 [.ag (Pack.enc false a1)] [] ((zBu a1).map fun r=>(iv r,[])):=by
 refine zH c173 Tryz.f173 0 93 (fun q=>?_)
 unfold zBu
 refine J_g 2 [(0,0)] [(1,pp 0)] [(0,.box (Pack.enc false a1))] zB ?_
 refine zA (fun x2 h3=>?_)
 refine zA (fun x4 h5=>?_)
 refine zA (fun x6 h7=>?_)
 refine J_g 12 [] [(1,pp 0),(3,iv x6)] [(0,.box (Pack.enc false a1))] (zF 2 (xC [(.tmp 11)] [9] (wZ.ok a1.Name) h3) (zF 5 (xC [(.tmp 14)] [99] (wV.ok a1.Version) h5) (zF 6 (zFk 39 2 1 1 zU [x2,x4] [0,1] [(.tmp 12),(.tmp 15)] [iv x2,iv x4]) (zF 7 (vQ («as»:=[rr 1 [x2,x4]]) [(.tmp 16)] [39] true [(1,rE 1 zU [x2,x4])] [] (.cons (zFE (.head _) (fun _=>rfl) rfl) (.nil)) (vS.ok [x2,x4]) h7 (.same rfl rfl) (hbor:=fun _=>⟨fhN,zQ⟩)) zB)))) ?_
 refine J_d 26 [] [19] [(19,bv (x6 !=0))] [] [] zB ?_
 refine zG 19 (fun h8=>?_) (fun h8=>?_)
 ·refine J_g 108 [] [(2,iv x6)] [] zB ?_
  exact zM rfl
 ·refine zA (fun x9 h10=>?_)
  refine J_d 56 [] [3,19,21] [(21,bv (!x9))] [] [] (zF 2 (xC [(.tmp 23),(.const (.int .i64 1)),(.const (.int .i64 200))] [2,2,2] (xZ.ok a1.Size 1 200) h10) zB) ?_
  refine zG 21 (fun h11=>?_) (fun h11=>?_)
  ·refine J_g 228 [] [(2,iv 3)] [] zB ?_
   exact zM rfl
  ·refine wH (atI c173 231) (fun v17:Bool=>St.mk' [(1,pp 0),(26,bv v17)] [(0,.box (Pack.enc false a1))]) (fun v17=>?_) (fun jv17=>?_)
   ·refine zG 26 (fun h18=>?_) (fun h18=>?_)
    ·refine J_g 924 [] [(2,iv 2)] [] zB ?_
     exact zM rfl
    ·refine J_d 60 [] [26,49,50,51] [(49,sl 1 eStr a1.Provides),(50,iv (a1.Provides.length:Int)),(51,iv 0)] [] [] zB ?_
     refine vZ (K0:=(fun r:Int=>some (iv r,[]))) (fun _=>rfl) (zAf.ok a1 q _ (fun v46=>J_j ?_) 0)
     refine J_d 124 [] [75,76,77] [(75,sl 1 (eSl false 7 Term.enc) a1.Needs),(76,iv (a1.Needs.length:Int)),(77,iv 0)] [] [] zB ?_
     refine vZ (K0:=(fun r:Int=>some (iv r,[]))) (fun _=>rfl) (kX.ok a1 q _ (fun v62=>J_j ?_) 0)
     refine zA (fun x63 h64=>?_)
     refine J_g 126 [] [(2,iv x63)] [] (zF 2 (xC [(.tmp 91)] [75] (wY.ok a1.Bars) h64) zB) ?_
     exact zM rfl
   ·refine wT (fun h12=>?_) (fun h12=>?_)
    ·refine J_d 230 [] [21,26] [(26,bv true)] [] [] (wE 4 [(30,bv (decide ((a1.Provides.length:Int)>4)))] [] h12 zB) ?_
     exact yN (J_j (jv17 true)) rfl
    ·refine wT (fun h13=>?_) (fun h13=>?_)
     ·refine J_d 230 [] [21,26] [(26,bv true)] [] [] (wE 4 [(30,bv (decide ((a1.Provides.length:Int)>4)))] [] h12 (wE 10 [(36,bv (decide ((a1.Needs.length:Int)>4)))] [] h13 zB)) ?_
      exact yN (J_j (jv17 true)) rfl
     ·refine wT (fun h14=>?_) (fun h14=>?_)
      ·refine J_d 230 [] [21,26] [(26,bv true)] [] [] (wE 4 [(30,bv (decide ((a1.Provides.length:Int)>4)))] [] h12 (wE 10 [(36,bv (decide ((a1.Needs.length:Int)>4)))] [] h13 (wE 16 [(42,bv (decide ((a1.Bars.length:Int)>4)))] [] h14 zB))) ?_
       exact yN (J_j (jv17 true)) rfl
      ·refine zA (fun x15 h16=>?_)
       refine J_d 230 [] [21,26] [(26,bv x15)] [] [] (wE 4 [(30,bv (decide ((a1.Provides.length:Int)>4)))] [] h12 (wE 10 [(36,bv (decide ((a1.Needs.length:Int)>4)))] [] h13 (wE 16 [(42,bv (decide ((a1.Bars.length:Int)>4)))] [] h14 (zBr 19 16 43 false (vQ («as»:=[sl 1 (eSl false 7 Term.enc) a1.Needs,.fn 242 []]) [(.tmp 45),(.func 242)] [100,154] false [] [] (.cons (.same rfl) (.cons (.fn (.nil)) (.nil))) (zR.ok a1.Needs) h16 (.same rfl rfl)) zB)))) ?_
       exact yN (J_j (jv17 x15)) rfl
noncomputable def zTN:Code:=(Tryz.f244.body).getD .skip
theorem zFp.ok (a1:Pack) (a2:ByteArray) (a3:Version):Ok Tryz.prog 244 [.ag (Pack.enc false a1),pp 0,pp 1] [.box [sv a2],.box (Version.enc a3)] ((zFp a1 a2 a3).map fun r=>(bv r,[.box [sv a2],.box (Version.enc a3)])):=by
 refine zH zTN Tryz.f244 2 15 (fun q=>?_)
 unfold zFp
 refine J_d 2 [(0,2)] [0,3] [(3,pp 2)] [2] [(2,.box (Pack.enc false a1))] zB ?_
 refine wT (fun h4=>?_) (fun h4=>?_)
 ·refine J_d 6 [] [1,2,3,4] [(4,bv (a1.Version.A==a3.A&&(a1.Version.B==a3.B&&(a1.Version.C==a3.C&&true))))] [2] [] (wE 4 [(8,bv (seq a1.Name a2))] [] h4 (zBr 8 4 9 true (zLk (b:=.eql) (r:=(a1.Version.A==a3.A&&(a1.Version.B==a3.B&&(a1.Version.C==a3.C&&true)))) 99 99 (.tmp 11) (.tmp 12) [.int .i64 a1.Version.A,.int .i64 a1.Version.B,.int .i64 a1.Version.C] [.int .i64 a3.A,.int .i64 a3.B,.int .i64 a3.C] (.inl ⟨rfl,rfl⟩)) zB)) ?_
  exact zM rfl
 ·refine J_d 6 [] [1,2,3,4] [(4,bv false)] [2] [] (wE 4 [(8,bv (seq a1.Name a2))] [] h4 zB) ?_
  exact zM rfl
noncomputable def zS1:Code:=(Tryz.f243.body).getD .skip
theorem xO.ok (a1:(List Pack)) (a2:ByteArray) (a3:Version) (q:Wd) (kn:Unit→Option (D×List Ent)) (hk:∀v:Unit,J (q.g Tryz.prog 243 2 19) zS1 (atI zS1 7) (St.mk' [] [(0,.box [sv a2]),(1,.box (Version.enc a3))]) (some v) kn):
  ∀s10:Int,J (q.g Tryz.prog 243 2 19) zS1 (atI zS1 52) (St.mk' [(0,sl 8 (Pack.enc false) a1),(1,.fn 244 [pp 0,pp 1]),(7,iv (a1.length:Int)),(8,iv s10)] [(0,.box [sv a2]),(1,.box (Version.enc a3))]) (xO a1 a2 a3 s10) (Fl.go (fun r:Int=>some (iv r,[.box [sv a2],.box (Version.enc a3)])) kn):=by
 refine tQ (fun g ih s10=>?_)
 unfold xJ
 refine J_d 104 [] [9] [(9,bv (decide (s10< (a1.length:Int))))] [] [] zB ?_
 refine zG 9 (fun h11=>?_) (fun h11=>?_)
 ·refine J_d 1688 [] [5,9] [(5,iv s10)] [] [] zB ?_
  refine zA (fun x12 h13=>?_)
  refine zA (fun x14 h15=>?_)
  refine J_d 3378 [] [16] [(16,bv x14)] [] [] (zF 3 (vI (kk:=.i64) 30 102 8 (Pack.enc false) (.tmp 12) (.tmp 13) h13) (zF 5 (zKg [(0,.box [sv a2]),(1,.box (Version.enc a3))] [] (zKM 11 [(.tmp 15)] [102] false [(0,.box [sv a2]),(1,.box (Version.enc a3))] [0,1] [.ag (Pack.enc false x12)] [pp 0,pp 1] (.cons (.same rfl) (.cons (.pt rfl) (.cons (.pt rfl) (.nil)))) (zFp.ok x12 a2 a3) h15 (.same rfl rfl))) zB)) ?_
  refine zG 16 (fun h16=>?_) (fun h16=>?_)
  ·refine J_d 13516 [] [0,1,4,5,7,8,16] [(4,iv s10)] [] [] zB ?_
   exact zM rfl
  ·refine J_d 423 [] [5,8,16] [(8,iv (w64 (s10+1)))] [] [] zB ?_
   exact J_q (J_b (ih (w64 (s10+1)))) rfl
 ·exact yN (hk ()) rfl
theorem xB.ok (a1:(List Pack)) (a2:ByteArray) (a3:Version):Ok Tryz.prog 243 [sl 8 (Pack.enc false) a1,.fn 244 [pp 0,pp 1]] [.box [sv a2],.box (Version.enc a3)] ((xB a1 a2 a3).map fun r=>(iv r,[.box [sv a2],.box (Version.enc a3)])):=by
 refine zH zS1 Tryz.f243 2 19 (fun q=>?_)
 unfold xB
 refine J_g 2 [] [(0,sl 8 (Pack.enc false) a1),(1,.fn 244 [pp 0,pp 1])] [(0,.box [sv a2]),(1,.box (Version.enc a3))] zB ?_
 refine J_d 12 [] [7,8] [(7,iv (a1.length:Int)),(8,iv 0)] [] [] zB ?_
 refine vZ (K0:=(fun r:Int=>some (iv r,[.box [sv a2],.box (Version.enc a3)]))) (fun _=>rfl) (xO.ok a1 a2 a3 q _ (fun v17=>J_j ?_) 0)
 refine J_d 14 [] [4] [(4,iv (-1))] [] [] zB ?_
 exact zM rfl
noncomputable def zUv:Code:=(Tryz.f174.body).getD .skip
theorem zEp.ok (a1:(List Pack)) (a2:ByteArray) (a3:Version):Ok Tryz.prog 174 [sl 8 (Pack.enc false) a1,sv a2,.ag (Version.enc a3)] [] ((zEp a1 a2 a3).map fun r=>(iv r,[])):=by
 refine zH zUv Tryz.f174 0 10 (fun q=>?_)
 unfold zEp
 refine J_d 2 [(0,0),(1,1)] [1,2,4,5] [(4,pp 0),(5,pp 1)] [0,1] [(0,.box [sv a2]),(1,.box (Version.enc a3))] zB ?_
 refine zA (fun x4 h5=>?_)
 refine J_g 6 [] [(6,iv x4)] [] (zF 2 (zKg [(0,.box [sv a2]),(1,.box (Version.enc a3))] [] (vQ («as»:=[sl 8 (Pack.enc false) a1,.fn 244 [pp 0,pp 1]]) [(.tmp 7),(.tmp 8)] [30,249] false [(0,.box [sv a2]),(1,.box (Version.enc a3))] [0,1] (.cons (.same rfl) (.cons (.fn (.cons (.pt rfl) (.cons (.pt rfl) (.nil)))) (.nil))) (xB.ok a1 a2 a3) h5 (.same rfl rfl))) zB) ?_
 exact zM rfl
noncomputable def c99:Code:=(Tryz.f99.body).getD .skip
theorem jZ.ok (a1:(List Pack)) (q:Wd) (kn:Unit→Option (D×List Ent)) (hk:∀v:Unit,J (q.g Tryz.prog 99 0 31) c99 (atI c99 15) (St.mk' [] []) (some v) kn):
  ∀s14:Int,J (q.g Tryz.prog 99 0 31) c99 (atI c99 116) (St.mk' [(0,sl 8 (Pack.enc false) a1),(9,sl 8 (Pack.enc false) a1),(10,iv (a1.length:Int)),(11,iv s14)] []) (jZ a1 s14) (Fl.go (fun r:Int=>some (iv r,[])) kn):=by
 refine tQ (fun g ih s14=>?_)
 unfold jK
 refine J_d 232 [] [12] [(12,bv (decide (s14< (a1.length:Int))))] [] [] zB ?_
 refine zG 12 (fun h15=>?_) (fun h15=>?_)
 ·refine zA (fun x16 h17=>?_)
  refine J_d 3736 [(3,0)] [3,4,12] [(3,iv s14),(4,pp 0)] [0] [(0,.box (Pack.enc false x16))] (zF 1 (vI (kk:=.i64) 30 102 8 (Pack.enc false) (.tmp 9) (.tmp 11) h17) zB) ?_
  refine zA (fun x18 h19=>?_)
  refine J_g 14948 [] [(0,sl 8 (Pack.enc false) a1),(3,iv s14),(4,pp 0),(5,iv x18),(9,sl 8 (Pack.enc false) a1),(10,iv (a1.length:Int)),(11,iv s14)] [(0,.box (Pack.enc false x16))] (zF 1 (xC [(.tmp 16)] [102] (zBu.ok x16) h19) zB) ?_
  refine J_d 29898 [] [19] [(19,bv (x18 !=0))] [] [] zB ?_
  refine zG 19 (fun h20=>?_) (fun h20=>?_)
  ·refine J_g 119596 [] [(2,iv x18)] [] zB ?_
   exact zM rfl
  ·refine zA (fun x21 h22=>?_)
   refine zA (fun x23 h24=>?_)
   refine J_d 14950 [] [3,4,5,19,29] [(29,bv (decide (x23≥0)))] [0] [] (zF 2 (zRE 30 102 8 (Pack.enc false) (.tmp 21) none (some (.tmp 22)) h22) (zF 7 (xC [(.tmp 23),(.tmp 25),(.tmp 27)] [30,9,99] (zEp.ok x21 x16.Name x16.Version) h24) zB)) ?_
   refine zG 29 (fun h25=>?_) (fun h25=>?_)
   ·refine J_g 59804 [] [(2,iv 6)] [] zB ?_
    exact zM rfl
   ·refine J_d 935 [] [11,29] [(11,iv (w64 (s14+1)))] [] [] zB ?_
    exact J_q (J_b (ih (w64 (s14+1)))) rfl
 ·exact yN (hk ()) rfl
theorem vL.ok (a1:(List Pack)):Ok Tryz.prog 99 [sl 8 (Pack.enc false) a1] [] ((vL a1).map fun r=>(iv r,[])):=by
 refine zH c99 Tryz.f99 0 31 (fun q=>?_)
 unfold vL
 refine J_g 2 [] [(0,sl 8 (Pack.enc false) a1)] [] zB ?_
 refine J_d 12 [] [8] [(8,bv (decide ((a1.length:Int)>24)))] [] [] zB ?_
 refine zG 8 (fun h2=>?_) (fun h2=>?_)
 ·refine J_g 52 [] [(2,iv 2)] [] zB ?_
  exact zM rfl
 ·refine J_d 28 [] [8,9,10,11] [(9,sl 8 (Pack.enc false) a1),(10,iv (a1.length:Int)),(11,iv 0)] [] [] zB ?_
  refine vZ (K0:=(fun r:Int=>some (iv r,[]))) (fun _=>rfl) (jZ.ok a1 q _ (fun v26=>J_j ?_) 0)
  refine J_g 30 [] [(2,iv 0)] [] zB ?_
  exact zM rfl
noncomputable def c152:Code:=(Tryz.f152.body).getD .skip
theorem kW.ok (a1:ByteArray) (q:Wd) (kn:Unit→Option (D×List Ent)) (hk:∀v:Unit,J (q.g Tryz.prog 152 0 37) c152 (atI c152 15) (St.mk' [] []) (some v) kn):
  ∀s15:Int,J (q.g Tryz.prog 152 0 37) c152 (atI c152 116) (St.mk' [(0,sv a1),(14,iv (a1.size:Int)),(15,iv s15)] []) (kW a1 s15) (Fl.go (fun r:Int=>some (iv r,[])) kn):=by
 refine tQ (fun g ih s15=>?_)
 unfold zFc
 refine J_d 232 [] [16] [(16,bv (decide (s15< (a1.size:Int))))] [] [] zB ?_
 refine zG 16 (fun h16=>?_) (fun h16=>?_)
 ·refine J_d 3736 [] [3,16] [(3,iv s15)] [] [] zB ?_
  refine zA (fun x17 h18=>?_)
  refine J_d 7474 [] [3,4] [(4,uv x17)] [] [] (zF 2 (zJL (kk:=.i64) 9 (.tmp 18) (.tmp 19) h18) zB) ?_
  refine zA (fun x19 h20=>?_)
  refine wH (atI c152 14951) (fun v24:Bool=>St.mk' [(0,sv a1),(14,iv (a1.size:Int)),(15,iv s15),(35,bv v24)] []) (fun v24=>?_) (fun jv24=>?_)
  ·refine zG 35 (fun h25=>?_) (fun h25=>?_)
   ·refine J_g 59804 [] [(2,iv 5)] [] zB ?_
    exact zM rfl
   ·refine J_d 935 [] [15,35] [(15,iv (w64 (s15+1)))] [] [] zB ?_
    exact J_q (J_b (ih (w64 (s15+1)))) rfl
  ·refine wT (fun h21=>?_) (fun h21=>?_)
   ·refine wT (fun h22=>?_) (fun h22=>?_)
    ·refine wT (fun h23=>?_) (fun h23=>?_)
     ·refine J_d 14950 [] [4,35] [(35,bv (x17 !=47))] [] [] (zF 1 (xC [(.tmp 21)] [5] (wC.ok x17) h20) (wE 3 [(23,bv (!x19))] [] h21 (wE 7 [(27,bv (x17 !=46))] [] h22 (wE 11 [(31,bv (x17 !=45))] [] h23 zB)))) ?_
      exact yN (J_j (jv24 (x17 !=47))) rfl
     ·refine J_d 14950 [] [4,35] [(35,bv false)] [] [] (zF 1 (xC [(.tmp 21)] [5] (wC.ok x17) h20) (wE 3 [(23,bv (!x19))] [] h21 (wE 7 [(27,bv (x17 !=46))] [] h22 (wE 11 [(31,bv (x17 !=45))] [] h23 zB)))) ?_
      exact yN (J_j (jv24 false)) rfl
    ·refine J_d 14950 [] [4,35] [(35,bv false)] [] [] (zF 1 (xC [(.tmp 21)] [5] (wC.ok x17) h20) (wE 3 [(23,bv (!x19))] [] h21 (wE 7 [(27,bv (x17 !=46))] [] h22 zB))) ?_
     exact yN (J_j (jv24 false)) rfl
   ·refine J_d 14950 [] [4,35] [(35,bv false)] [] [] (zF 1 (xC [(.tmp 21)] [5] (wC.ok x17) h20) (wE 3 [(23,bv (!x19))] [] h21 zB)) ?_
    exact yN (J_j (jv24 false)) rfl
 ·exact yN (hk ()) rfl
theorem zB4.ok (a1:ByteArray):Ok Tryz.prog 152 [sv a1] [] ((zB4 a1).map fun r=>(iv r,[])):=by
 refine zH c152 Tryz.f152 0 37 (fun q=>?_)
 unfold zB4
 refine J_g 2 [] [(0,sv a1)] [] zB ?_
 refine wH (atI c152 13) (fun v3:Bool=>St.mk' [(0,sv a1),(12,bv v3)] []) (fun v3=>?_) (fun jv3=>?_)
 ·refine zG 12 (fun h4=>?_) (fun h4=>?_)
  ·refine J_g 52 [] [(2,iv 5)] [] zB ?_
   exact zM rfl
  ·refine J_g 28 [] [(0,sv a1),(14,iv (a1.size:Int)),(15,iv 0)] [] zB ?_
   refine vZ (K0:=(fun r:Int=>some (iv r,[]))) (fun _=>rfl) (kW.ok a1 q _ (fun v26=>J_j ?_) 0)
   refine J_g 30 [] [(2,iv 0)] [] zB ?_
   exact zM rfl
 ·refine wT (fun h2=>?_) (fun h2=>?_)
  ·refine J_g 12 [] [(0,sv a1),(12,bv true)] [] (wE 3 [(7,bv (decide ((a1.size:Int)<1)))] [] h2 zB) ?_
   exact yN (J_j (jv3 true)) rfl
  ·refine J_g 12 [] [(0,sv a1),(12,bv (decide ((a1.size:Int)>40)))] [] (wE 3 [(7,bv (decide ((a1.size:Int)<1)))] [] h2 zB) ?_
   exact yN (J_j (jv3 (decide ((a1.size:Int)>40)))) rfl
noncomputable def zRZ:Code:=(Tryz.f153.body).getD .skip
theorem zCU.ok (a1:zD) (q:Wd) (kn:Int→Option (D×List Ent)) (hk:∀v:Int,J (q.g Tryz.prog 153 0 20) zRZ (atI zRZ 15) (St.mk' [(3,iv v)] []) (some v) kn):
  ∀s5:(Int×Int),J (q.g Tryz.prog 153 0 20) zRZ (atI zRZ 116) (St.mk' [(3,iv s5.1),(7,sl 2 (File.enc false) a1.Files),(8,iv (a1.Files.length:Int)),(9,iv s5.2)] []) (zCU a1 s5) kn:=by
 refine tQ (fun g ih s5=>?_)
 unfold zFL
 refine J_d 232 [] [10] [(10,bv (decide (s5.2< (a1.Files.length:Int))))] [] [] zB ?_
 refine zG 10 (fun h6=>?_) (fun h6=>?_)
 ·refine zA (fun x7 h8=>?_)
  refine J_g 3736 [(2,0)] [(3,iv s5.1),(5,pp 0),(7,sl 2 (File.enc false) a1.Files),(8,iv (a1.Files.length:Int)),(9,iv s5.2)] [(0,.box (File.enc false x7))] (zF 0 (vI (kk:=.i64) 31 138 2 (File.enc false) (.tmp 7) (.tmp 9) h8) zB) ?_
  refine J_g 3737 [] [(3,iv (w64 (s5.1+(x7.Data.length:Int)))),(7,sl 2 (File.enc false) a1.Files),(8,iv (a1.Files.length:Int)),(9,iv s5.2)] [] zB ?_
  refine J_d 935 [] [9] [(9,iv (w64 (s5.2+1)))] [] [] zB ?_
  exact J_q (J_b (ih (w64 (s5.1+(x7.Data.length:Int)),w64 (s5.2+1)))) rfl
 ·exact yN (hk s5.1) rfl
theorem zDt.ok (a1:zD):Ok Tryz.prog 153 [.ag (zD.enc false a1)] [] ((zDt a1).map fun r=>(iv r,[])):=by
 refine zH zRZ Tryz.f153 0 20 (fun q=>?_)
 unfold zDt
 refine J_g 2 [(0,0)] [(1,pp 0)] [(0,.box (zD.enc false a1))] zB ?_
 refine J_g 6 [] [(1,pp 0),(3,iv 0)] [(0,.box (zD.enc false a1))] zB ?_
 refine J_g 28 [] [(3,iv 0),(7,sl 2 (File.enc false) a1.Files),(8,iv (a1.Files.length:Int)),(9,iv 0)] [] zB ?_
 refine zFJ (zCU.ok a1 q _ (fun v9=>J_j ?_) (0,0))
 refine J_g 30 [] [(2,iv v9)] [] zB ?_
 exact zM rfl
noncomputable def zRo:Code:=(Tryz.f100.body).getD .skip
theorem zAk.ok (a1:zD) (q:Wd) (kn:Unit→Option (D×List Ent)) (hk:∀v:Unit,J (q.g Tryz.prog 100 0 68) zRo (atI zRo 15) (St.mk' [(1,pp 0)] [(0,.box (zD.enc false a1))]) (some v) kn):
  ∀s25:Int,J (q.g Tryz.prog 100 0 68) zRo (atI zRo 116) (St.mk' [(1,pp 0),(29,sl 2 (File.enc false) a1.Files),(30,iv (a1.Files.length:Int)),(31,iv s25)] [(0,.box (zD.enc false a1))]) (zAk a1 s25) (Fl.go (fun r:Int=>some (iv r,[])) kn):=by
 refine tQ (fun g ih s25=>?_)
 unfold zFf
 refine J_d 232 [] [32] [(32,bv (decide (s25< (a1.Files.length:Int))))] [] [] zB ?_
 refine zG 32 (fun h26=>?_) (fun h26=>?_)
 ·refine zA (fun x27 h28=>?_)
  refine J_d 3736 [(3,1)] [3,4,32] [(3,iv s25),(4,pp 1)] [1] [(1,.box (File.enc false x27))] (zF 1 (vI (kk:=.i64) 31 138 2 (File.enc false) (.tmp 29) (.tmp 31) h28) zB) ?_
  refine zA (fun x29 h30=>?_)
  refine J_g 14948 [] [(1,pp 0),(3,iv s25),(4,pp 1),(5,iv x29),(29,sl 2 (File.enc false) a1.Files),(30,iv (a1.Files.length:Int)),(31,iv s25)] [(0,.box (zD.enc false a1)),(1,.box (File.enc false x27))] (zF 2 (xC [(.tmp 37)] [9] (zB4.ok x27.Path) h30) zB) ?_
  refine J_d 29898 [] [40] [(40,bv (x29 !=0))] [] [] zB ?_
  refine zG 40 (fun h31=>?_) (fun h31=>?_)
  ·refine J_g 119596 [] [(2,iv x29)] [] zB ?_
   exact zM rfl
  ·refine wH (atI zRo 29901) (fun v35:Bool=>St.mk' [(1,pp 0),(4,pp 1),(29,sl 2 (File.enc false) a1.Files),(30,iv (a1.Files.length:Int)),(31,iv s25),(42,bv v35)] [(0,.box (zD.enc false a1)),(1,.box (File.enc false x27))]) (fun v35=>?_) (fun jv35=>?_)
   ·refine zG 42 (fun h36=>?_) (fun h36=>?_)
    ·refine J_g 119604 [] [(2,iv 1)] [] zB ?_
     exact zM rfl
    ·refine J_d 119606 [] [4,42,57] [(57,bv (decide ((x27.Data.length:Int)>4000)))] [1] [] zB ?_
     refine zG 57 (fun h37=>?_) (fun h37=>?_)
     ·refine J_g 478428 [] [(2,iv 2)] [] zB ?_
      exact zM rfl
     ·refine J_d 935 [] [31,57] [(31,iv (w64 (s25+1)))] [] [] zB ?_
      exact J_q (J_b (ih (w64 (s25+1)))) rfl
   ·refine wT (fun h32=>?_) (fun h32=>?_)
    ·refine zA (fun x33 h34=>?_)
     refine J_d 29900 [] [3,5,40,42] [(42,bv (slt x27.Path x33.Path||seq x27.Path x33.Path))] [] [] (wE 2 [(44,bv (decide (s25>0)))] [] h32 (zBr 9 2 45 true (vI (kk:=.i64) 31 138 2 (File.enc false) (.tmp 49) (.tmp 51) h34) zB)) ?_
     exact yN (J_j (jv35 (slt x27.Path x33.Path||seq x27.Path x33.Path))) rfl
    ·refine J_d 29900 [] [3,5,40,42] [(42,bv false)] [] [] (wE 2 [(44,bv (decide (s25>0)))] [] h32 zB) ?_
     exact yN (J_j (jv35 false)) rfl
 ·exact yN (hk ()) rfl
theorem jB.ok (a1:zD):Ok Tryz.prog 100 [.ag (zD.enc false a1)] [] ((jB a1).map fun r=>(iv r,[])):=by
 refine zH zRo Tryz.f100 0 68 (fun q=>?_)
 unfold jB
 refine J_g 2 [(0,0)] [(1,pp 0)] [(0,.box (zD.enc false a1))] zB ?_
 refine zA (fun x2 h3=>?_)
 refine wH (atI zRo 25) (fun v10:Bool=>St.mk' [(1,pp 0),(6,bv v10)] [(0,.box (zD.enc false a1))]) (fun v10=>?_) (fun jv10=>?_)
 ·refine zG 6 (fun h11=>?_) (fun h11=>?_)
  ·refine J_g 100 [] [(2,iv 3)] [] zB ?_
   exact zM rfl
  ·refine J_d 102 [] [6,23] [(23,bv (decide ((a1.Files.length:Int)>120)))] [] [] zB ?_
   refine zG 23 (fun h12=>?_) (fun h12=>?_)
   ·refine J_g 412 [] [(2,iv 2)] [] zB ?_
    exact zM rfl
   ·refine J_d 28 [] [23,29,30,31] [(29,sl 2 (File.enc false) a1.Files),(30,iv (a1.Files.length:Int)),(31,iv 0)] [] [] zB ?_
    refine vZ (K0:=(fun r:Int=>some (iv r,[]))) (fun _=>rfl) (zAk.ok a1 q _ (fun v38=>J_j ?_) 0)
    refine zA (fun x39 h40=>?_)
    refine J_g 60 [] [(67,bv (decide (x39>a1.Budget)))] [] (zF 1 (xC [(.tmp 63)] [33] (zDt.ok a1) h40) zB) ?_
    refine zG 67 (fun h41=>?_) (fun h41=>?_)
    ·refine J_g 244 [] [(2,iv 8)] [] zB ?_
     exact zM rfl
    ·refine J_g 62 [] [(2,iv 0)] [] zB ?_
     exact zM rfl
 ·refine wT (fun h4=>?_) (fun h4=>?_)
  ·refine J_d 24 [] [6] [(6,bv true)] [] [] (zF 2 (xC [(.tmp 8),(.const (.int .i64 0)),(.const (.int .i64 20000))] [2,2,2] (xZ.ok a1.Budget 0 20000) h3) (wE 4 [(10,bv (!x2))] [] h4 zB)) ?_
   exact yN (J_j (jv10 true)) rfl
  ·refine zA (fun x5 h6=>?_)
   refine wT (fun h7=>?_) (fun h7=>?_)
   ·refine J_d 24 [] [6] [(6,bv true)] [] [] (zF 2 (xC [(.tmp 8),(.const (.int .i64 0)),(.const (.int .i64 20000))] [2,2,2] (xZ.ok a1.Budget 0 20000) h3) (wE 4 [(10,bv (!x2))] [] h4 (zBr 7 4 11 false (xC [(.tmp 13),(.const (.int .i64 0)),(.const (.int .i64 1000000000))] [2,2,2] (xZ.ok a1.Writes 0 1000000000) h6) (wE 10 [(16,bv (!x5))] [] h7 zB)))) ?_
    exact yN (J_j (jv10 true)) rfl
   ·refine zA (fun x8 h9=>?_)
    refine J_d 24 [] [6] [(6,bv (!x8))] [] [] (zF 2 (xC [(.tmp 8),(.const (.int .i64 0)),(.const (.int .i64 20000))] [2,2,2] (xZ.ok a1.Budget 0 20000) h3) (wE 4 [(10,bv (!x2))] [] h4 (zBr 7 4 11 false (xC [(.tmp 13),(.const (.int .i64 0)),(.const (.int .i64 1000000000))] [2,2,2] (xZ.ok a1.Writes 0 1000000000) h6) (wE 10 [(16,bv (!x5))] [] h7 (zBr 13 10 17 false (xC [(.tmp 19),(.const (.int .i64 (-1))),(.const (.int .i64 1000000000))] [2,2,2] (xZ.ok a1.Stop (-1) 1000000000) h9) zB))))) ?_
    exact yN (J_j (jv10 (!x8))) rfl
noncomputable def c47:Code:=(Tryz.f47.body).getD .skip
theorem kK.ok (a1:(List Pack)) (a2:zD):Ok Tryz.prog 47 [sl 8 (Pack.enc false) a1,.ag (zD.enc false a2)] [] ((kK a1 a2).map fun r=>(iv r,[])):=by
 refine zH c47 Tryz.f47 0 11 (fun q=>?_)
 unfold kK
 refine J_d 2 [(0,0)] [1,3] [(3,pp 0)] [0] [(0,.box (zD.enc false a2))] zB ?_
 refine zA (fun x3 h4=>?_)
 refine zA (fun x5 h6=>?_)
 refine zA (fun x7 h8=>?_)
 refine J_g 6 [] [(4,iv x7)] [] (zF 1 (xC [(.tmp 5)] [30] (vL.ok a1) h4) (zF 3 (xC [(.tmp 7)] [33] (jB.ok a2) h6) (zF 4 (zFk 39 2 1 1 zU [x3,x5] [0,1] [(.tmp 6),(.tmp 8)] [iv x3,iv x5]) (zF 5 (vQ («as»:=[rr 1 [x3,x5]]) [(.tmp 9)] [39] true [(1,rE 1 zU [x3,x5])] [] (.cons (zFE (.head _) (fun _=>rfl) rfl) (.nil)) (vS.ok [x3,x5]) h8 (.same rfl rfl) (hbor:=fun _=>⟨fhN,zQ⟩)) zB)))) ?_
 exact zM rfl
theorem bytealg_CompareString.ok (a1 a2:ByteArray):Ok Tryz.prog 278 [sv a1,sv a2] [] ((bytealg_CompareString a1 a2).map fun r=>(iv r,[])):=
 zRQ (vs:=[.string a1,.string a2]) (fun w=>Tryz.bytealg_CompareString a1 a2 w)
noncomputable def c212:Code:=(Tryz.f212.body).getD .skip
theorem strings_Compare.ok (a1:ByteArray) (a2:ByteArray):Ok Tryz.prog 212 [sv a1,sv a2] [] ((strings_Compare a1 a2).map fun r=>(iv r,[])):=by
 refine zH c212 Tryz.f212 0 8 (fun q=>?_)
 unfold strings_Compare
 refine J_d 2 [] [] [] [] [] zB ?_
 refine zA (fun x3 h4=>?_)
 refine J_g 6 [] [(4,iv x3)] [] (zF 2 (xC [(.tmp 5),(.tmp 6)] [9,9] (bytealg_CompareString.ok a1 a2) h4) zB) ?_
 exact zM rfl
noncomputable def zUp:Code:=(Tryz.f211.body).getD .skip
theorem uF.ok (a1:File) (a2:ByteArray):Ok Tryz.prog 211 [.ag (File.enc false a1),sv a2] [] ((uF a1 a2).map fun r=>(iv r,[])):=by
 refine zH zUp Tryz.f211 0 9 (fun q=>?_)
 unfold uF
 refine J_g 2 [(0,0)] [(1,sv a2),(2,pp 0)] [(0,.box (File.enc false a1))] zB ?_
 refine zA (fun x3 h4=>?_)
 refine J_g 6 [] [(4,iv x3)] [] (zF 3 (xC [(.tmp 6),(.tmp 7)] [9,9] (strings_Compare.ok a1.Path a2) h4) zB) ?_
 exact zM rfl
noncomputable def c210:Code:=(Tryz.f210.body).getD .skip
theorem zY.ok (a1:(List File)) (a2:ByteArray) (q:Wd) (kn:Int→Option (D×List Ent)) (hk:∀v:Int,J (q.g Tryz.prog 210 0 49) c210 (atI c210 31) (St.mk' [(0,sl 2 (File.enc false) a1),(1,sv a2),(2,.fn 211 []),(8,iv (a1.length:Int)),(9,iv v)] []) (some v) kn):
  ∀s9:(Int×Int),J (q.g Tryz.prog 210 0 49) c210 (atI c210 120) (St.mk' [(0,sl 2 (File.enc false) a1),(1,sv a2),(2,.fn 211 []),(8,iv (a1.length:Int)),(9,iv s9.1),(10,iv s9.2)] []) (zY a1 a2 s9) kn:=by
 refine tQ (fun g ih s9=>?_)
 unfold yT
 refine J_d 480 [] [17] [(17,bv (decide (s9.1<s9.2)))] [] [] zB ?_
 refine zG 17 (fun h10=>?_) (fun h10=>?_)
 ·refine J_d 964 [] [11,17] [(11,iv (w64 ((IntKind.u64.wrap (w64 (s9.1+s9.2))).fdiv (2^(min (1:Int).toNat 64)))))] [] [] zB ?_
  refine zA (fun x11 h12=>?_)
  refine zA (fun x13 h14=>?_)
  refine J_d 1930 [] [31] [(31,bv (decide (x13<0)))] [] [] (zF 3 (vI (kk:=.i64) 31 138 2 (File.enc false) (.tmp 25) (.tmp 26) h12) (zF 6 (zP5 («as»:=[.ag (File.enc false x11),sv a2]) (caps:=[]) 24 [(.tmp 28),(.tmp 29)] [138,9] (uF.ok x11 a2) h14) zB)) ?_
  refine zG 31 (fun h15=>?_) (fun h15=>?_)
  ·refine J_d 3862 [] [9,11,31] [(9,iv (w64 ((w64 ((IntKind.u64.wrap (w64 (s9.1+s9.2))).fdiv (2^(min (1:Int).toNat 64))))+1)))] [] [] zB ?_
   exact J_q (J_b (ih (w64 ((w64 ((IntKind.u64.wrap (w64 (s9.1+s9.2))).fdiv (2^(min (1:Int).toNat 64))))+1),s9.2))) rfl
  ·refine J_d 3863 [] [10,11,31] [(10,iv (w64 ((IntKind.u64.wrap (w64 (s9.1+s9.2))).fdiv (2^(min (1:Int).toNat 64)))))] [] [] zB ?_
   exact J_q (J_b (ih (s9.1,w64 ((IntKind.u64.wrap (w64 (s9.1+s9.2))).fdiv (2^(min (1:Int).toNat 64)))))) rfl
 ·exact yN (hk s9.1) rfl
theorem zJ.ok (a1:(List File)) (a2:ByteArray):Ok Tryz.prog 210 [sl 2 (File.enc false) a1,sv a2,.fn 211 []] [] ((zJ a1 a2).map fun r=>(.tu [iv r.1,bv r.2],[])):=by
 refine zH c210 Tryz.f210 0 49 (fun q=>?_)
 unfold zJ
 refine J_g 2 [] [(0,sl 2 (File.enc false) a1),(1,sv a2),(2,.fn 211 [])] [] zB ?_
 refine J_g 6 [] [(0,sl 2 (File.enc false) a1),(1,sv a2),(2,.fn 211 []),(8,iv (a1.length:Int))] [] zB ?_
 refine J_d 14 [] [9,10] [(9,iv 0),(10,iv (a1.length:Int))] [] [] zB ?_
 refine zFJ (zY.ok a1 a2 q _ (fun v16=>J_j ?_) (0,(a1.length:Int)))
 refine wT (fun h17=>?_) (fun h17=>?_)
 ·refine zA (fun x18 h19=>?_)
  refine zA (fun x20 h21=>?_)
  refine J_g 62 [] [(6,iv v16),(7,bv (x20==0))] [] (wE 4 [(38,bv (decide (v16< (a1.length:Int))))] [] h17 (zBr 8 4 39 true (vI (kk:=.i64) 31 138 2 (File.enc false) (.tmp 41) (.tmp 42) h19) (zBr 11 4 39 true (zP5 («as»:=[.ag (File.enc false x18),sv a2]) (caps:=[]) 40 [(.tmp 44),(.tmp 45)] [138,9] (uF.ok x18 a2) h21) zB))) ?_
  exact zO0 rfl
 ·refine J_g 62 [] [(6,iv v16),(7,bv false)] [] (wE 4 [(38,bv (decide (v16< (a1.length:Int))))] [] h17 zB) ?_
  exact zO0 rfl
noncomputable def c138:Code:=(Tryz.f138.body).getD .skip
theorem zA2.ok (a1:zD) (a2:ByteArray):Ok Tryz.prog 138 [.ag (zD.enc false a1),sv a2] [] ((zA2 a1 a2).map fun r=>(.tu [iv r.1,bv r.2],[])):=by
 refine zH c138 Tryz.f138 0 12 (fun q=>?_)
 unfold zA2
 refine J_g 2 [(0,0)] [(1,sv a2),(2,pp 0)] [(0,.box (zD.enc false a1))] zB ?_
 refine zA (fun x3 h4=>?_)
 refine J_g 6 [] [(4,iv x3.1),(5,bv x3.2)] [] (zF 3 (vQ («as»:=[sl 2 (File.enc false) a1.Files,sv a2,.fn 211 []]) [(.tmp 7),(.tmp 8),(.func 211)] [31,9,238] false [] [] (.cons (.same rfl) (.cons (.same rfl) (.cons (.fn (.nil)) (.nil)))) (zJ.ok a1.Files a2) h4 (.tu (.cons (.same rfl rfl) (.cons (.same rfl rfl) (.nil))))) zB) ?_
 exact zO0 rfl
noncomputable def zT3:Code:=(Tryz.f104.body).getD .skip
theorem xY.ok (a1:zD) (a2:ByteArray):Ok Tryz.prog 104 [.ag (zD.enc false a1),sv a2] [] ((xY a1 a2).map fun r=>(.tu [sl 1 eU8 r.1,bv r.2],[])):=by
 refine zH zT3 Tryz.f104 0 22 (fun q=>?_)
 unfold xY
 refine J_g 2 [(0,0)] [(1,sv a2),(2,pp 0)] [(0,.box (zD.enc false a1))] zB ?_
 refine zA (fun x3 h4=>?_)
 refine J_g 6 [] [(2,pp 0),(6,iv x3.1),(7,bv x3.2)] [(0,.box (zD.enc false a1))] (zF 2 (xC [(.tmp 9),(.tmp 10)] [33,9] (zA2.ok a1 a2) h4) zB) ?_
 refine J_d 28 [] [7,15] [(15,bv (!x3.2))] [] [] zB ?_
 refine zG 15 (fun h5=>?_) (fun h5=>?_)
 ·refine J_g 116 [] [(4,nv),(5,bv false)] [] zB ?_
  exact zBq (ds:=[nv,bv false]) (ds':=[sl 1 eU8 ([]:List Int),bv false]) (.cons (.cell (.nilsl false 1 (.nil))) (.cons (.cell (.keep rfl (.nil))) (.nil) (by decide)) (by decide)) rfl
 ·refine zA (fun x6 h7=>?_)
  refine J_g 30 [] [(4,sl 1 eU8 x6.Data),(5,bv true)] [] (zF 3 (vI (kk:=.i64) 31 138 2 (File.enc false) (.tmp 17) (.tmp 18) h7) zB) ?_
  exact zO0 rfl
noncomputable def zQO:Code:=(Tryz.f176.body).getD .skip
theorem zEi.ok (a1:ByteArray) (q:Wd) (kn:Int→Option (D×List Ent)) (hk:∀v:Int,J (q.g Tryz.prog 176 0 40) zQO (atI zQO 31) (St.mk' [(5,iv v)] []) (some v) kn):
  ∀s16:(Int×Int),J (q.g Tryz.prog 176 0 40) zQO (atI zQO 244) (St.mk' [(0,sv a1),(5,iv s16.1),(16,iv (a1.size:Int)),(17,iv s16.2)] []) (zEi a1 s16) (Fl.go (fun r:Int=>some (iv r,[])) kn):=by
 refine tQ (fun g ih s16=>?_)
 unfold zCV
 refine J_d 488 [] [18] [(18,bv (decide (s16.2< (a1.size:Int))))] [] [] zB ?_
 refine zG 18 (fun h17=>?_) (fun h17=>?_)
 ·refine J_d 7832 [] [6,18] [(6,iv s16.2)] [] [] zB ?_
  refine zA (fun x18 h19=>?_)
  refine wH (atI zQO 31333) (fun v23:Bool=>St.mk' [(0,sv a1),(5,iv s16.1),(6,iv s16.2),(16,iv (a1.size:Int)),(17,iv s16.2),(29,bv v23)] []) (fun v23=>?_) (fun jv23=>?_)
  ·refine zG 29 (fun h24=>?_) (fun h24=>?_)
   ·refine J_g 125332 [] [(4,iv (-1))] [] zB ?_
    exact zM rfl
   ·refine zA (fun x25 h26=>?_)
    refine J_g 15667 [] [(0,sv a1),(5,iv (w64 ((w64 (10*s16.1))+(w64 (IntKind.u8.wrap (x25-48)))))),(16,iv (a1.size:Int)),(17,iv s16.2)] [] (zF 4 (zJL (kk:=.i64) 9 (.tmp 32) (.tmp 33) h26) zB) ?_
    refine J_d 1959 [] [17] [(17,iv (w64 (s16.2+1)))] [] [] zB ?_
    exact J_q (J_b (ih (w64 ((w64 (10*s16.1))+(w64 (IntKind.u8.wrap (x25-48)))),w64 (s16.2+1)))) rfl
  ·refine wT (fun h20=>?_) (fun h20=>?_)
   ·refine J_d 31332 [] [29] [(29,bv true)] [] [] (zF 2 (zJL (kk:=.i64) 9 (.tmp 20) (.tmp 21) h19) (wE 4 [(23,bv (decide (x18<48)))] [] h20 zB)) ?_
    exact yN (J_j (jv23 true)) rfl
   ·refine zA (fun x21 h22=>?_)
    refine J_d 31332 [] [29] [(29,bv (decide (x21>57)))] [] [] (zF 2 (zJL (kk:=.i64) 9 (.tmp 20) (.tmp 21) h19) (wE 4 [(23,bv (decide (x18<48)))] [] h20 (zBr 7 4 24 false (zJL (kk:=.i64) 9 (.tmp 25) (.tmp 26) h22) zB))) ?_
    exact yN (J_j (jv23 (decide (x21>57)))) rfl
 ·exact yN (hk s16.1) rfl
theorem zA9.ok (a1:ByteArray) (a2:Int):Ok Tryz.prog 176 [sv a1,iv a2] [] ((zA9 a1 a2).map fun r=>(iv r,[])):=by
 refine zH zQO Tryz.f176 0 40 (fun q=>?_)
 unfold zA9
 refine J_d 2 [] [] [] [] [] zB ?_
 refine wH (atI zQO 13) (fun v4:Bool=>St.mk' [(0,sv a1),(14,bv v4)] []) (fun v4=>?_) (fun jv4=>?_)
 ·refine zG 14 (fun h5=>?_) (fun h5=>?_)
  ·refine J_g 52 [] [(4,iv (-1))] [] zB ?_
   exact zM rfl
  ·refine J_g 14 [] [(0,sv a1),(5,iv 0)] [] zB ?_
   refine J_d 60 [] [16,17] [(16,iv (a1.size:Int)),(17,iv 0)] [] [] zB ?_
   refine vZ (K0:=(fun r:Int=>some (iv r,[]))) (fun _=>rfl) (zEi.ok a1 q _ (fun v27=>J_j ?_) (0,0))
   refine J_g 62 [] [(4,iv v27)] [] zB ?_
   exact zM rfl
 ·refine wT (fun h3=>?_) (fun h3=>?_)
  ·refine J_g 12 [] [(0,sv a1),(14,bv true)] [] (wE 2 [(8,bv (seq a1 (bs [])))] [] h3 zB) ?_
   exact yN (J_j (jv4 true)) rfl
  ·refine J_g 12 [] [(0,sv a1),(14,bv (decide ((a1.size:Int)>a2)))] [] (wE 2 [(8,bv (seq a1 (bs [])))] [] h3 zB) ?_
   exact yN (J_j (jv4 (decide ((a1.size:Int)>a2)))) rfl
noncomputable def zTT:Code:=(Tryz.f277.body).getD .skip
theorem yL.ok (a1:ByteArray) (a2:ByteArray):Ok Tryz.prog 277 [sv a1,sv a2] [] ((yL a1 a2).map fun r=>(bv r,[])):=by
 refine zH zTT Tryz.f277 0 18 (fun q=>?_)
 unfold yL
 refine J_d 2 [] [] [] [] [] zB ?_
 refine wT (fun h3=>?_) (fun h3=>?_)
 ·refine zA (fun x4 h5=>?_)
  refine J_g 6 [] [(4,bv (seq x4 a2))] [] (wE 5 [(9,bv (decide ((a1.size:Int)≥(a2.size:Int))))] [] h3 (zBr 9 5 10 true (zLK 9 (.tmp 11) none (some (.tmp 13)) h5) zB)) ?_
  exact zM rfl
 ·refine J_g 6 [] [(4,bv false)] [] (wE 5 [(9,bv (decide ((a1.size:Int)≥(a2.size:Int))))] [] h3 zB) ?_
  exact zM rfl
noncomputable def c208:Code:=(Tryz.f208.body).getD .skip
theorem strings_HasPrefix.ok (a1:ByteArray) (a2:ByteArray):Ok Tryz.prog 208 [sv a1,sv a2] [] ((strings_HasPrefix a1 a2).map fun r=>(bv r,[])):=by
 refine zH c208 Tryz.f208 0 8 (fun q=>?_)
 unfold strings_HasPrefix
 refine J_d 2 [] [] [] [] [] zB ?_
 refine zA (fun x3 h4=>?_)
 refine J_g 6 [] [(4,bv x3)] [] (zF 2 (xC [(.tmp 5),(.tmp 6)] [9,9] (yL.ok a1 a2) h4) zB) ?_
 exact zM rfl
noncomputable def zRD:Code:=(Tryz.f136.body).getD .skip
theorem jT.ok (a1:zD) (a2:ByteArray) (q:Wd) (kn:(List ByteArray)→Option (D×List Ent)) (hk:∀v:(List ByteArray),J (q.g Tryz.prog 136 0 27) zRD (atI zRD 15) (St.mk' [(5,rr 1 v)] [(1,rE 1 eStr v)]) (some v) kn):
  ∀s12:((List ByteArray)×Int),J (q.g Tryz.prog 136 0 27) zRD (atI zRD 116) (St.mk' [(1,sv a2),(5,rr 1 s12.1),(10,sl 2 (File.enc false) a1.Files),(11,iv (a1.Files.length:Int)),(12,iv s12.2)] [(1,rE 1 eStr s12.1)]) (jT a1 a2 s12) kn:=by
 refine tQ (fun g ih s12=>?_)
 unfold zE7
 refine J_d 232 [] [13] [(13,bv (decide (s12.2< (a1.Files.length:Int))))] [] [] zB ?_
 refine zG 13 (fun h13=>?_) (fun h13=>?_)
 ·refine zA (fun x14 h15=>?_)
  refine J_d 3736 [(2,2)] [7,13] [(7,pp 2)] [2] [(2,.box (File.enc false x14))] (zF 0 (vI (kk:=.i64) 31 138 2 (File.enc false) (.tmp 10) (.tmp 12) h15) zB) ?_
  refine zA (fun x16 h17=>?_)
  refine J_d 7474 [] [19] [(19,bv x16)] [] [] (zF 3 (xC [(.tmp 17),(.tmp 18)] [9,9] (strings_HasPrefix.ok x14.Path a2) h17) zB) ?_
  refine wH (aft zRD 1868) (fun v21:(List ByteArray)=>St.mk' [(1,sv a2),(5,rr 4 v21),(10,sl 2 (File.enc false) a1.Files),(11,iv (a1.Files.length:Int)),(12,iv s12.2)] [(4,rE 1 eStr v21)]) (fun v21=>?_) (fun jv21=>?_)
  ·refine J_d 935 [] [12] [(12,iv (w64 (s12.2+1)))] [] [] zB ?_
   refine zBD 4 1 (Nat.le_of_ble_eq_true rfl) (Nat.le_of_ble_eq_true rfl) ?_
   exact J_q (J_b (ih (v21,w64 (s12.2+1)))) rfl
  ·refine zG 19 (fun h18=>?_) (fun h18=>?_)
   ·refine zA (fun x19 h20=>?_)
    refine J_d 14950 [] [5,7,19] [(5,rr 4 x19)] [1,2,4] [(4,rE 1 eStr x19)] (zF 3 (zFk 86 9 1 3 eStr [x14.Path] [0] [(.tmp 22)] [sv x14.Path]) (zF 4 (zHR 86 86 9 9 1 16 4 1 3 eStr (.tmp 20) (.tmp 23) h20) zB)) ?_
    exact yN (J_j (jv21 x19)) rfl
   ·refine zBD 1 4 (Nat.le_of_ble_eq_true rfl) (Nat.le_of_ble_eq_true rfl) ?_
    exact yN (J_j (jv21 s12.1)) rfl
 ·exact yN (hk s12.1) rfl
theorem zAq.ok (a1:zD) (a2:ByteArray):Ok Tryz.prog 136 [.ag (zD.enc false a1),sv a2] [] ((zAq a1 a2).map fun r=>(so 1 eStr r,[])):=by
 refine zH zRD Tryz.f136 0 27 (fun q=>?_)
 unfold zAq
 refine J_g 2 [(0,0)] [(1,sv a2),(2,pp 0)] [(0,.box (zD.enc false a1))] zB ?_
 refine J_g 6 [] [(1,sv a2),(2,pp 0),(5,rr 1 ([]:List ByteArray))] [(0,.box (zD.enc false a1)),(1,rE 1 eStr ([]:List ByteArray))] (zF 0 (zFk 86 9 1 1 eStr ([]:List ByteArray) [] [] []) zB) ?_
 refine J_d 28 [] [2,10,11,12] [(10,sl 2 (File.enc false) a1.Files),(11,iv (a1.Files.length:Int)),(12,iv 0)] [0] [] zB ?_
 refine zFJ (jT.ok a1 a2 q _ (fun v22=>J_j ?_) (([]:List ByteArray),0))
 refine J_g 30 [] [(4,rr 1 v22)] [(1,rE 1 eStr v22)] zB ?_
 exact zBq (ds:=[rr 1 v22]) (ds':=[so 1 eStr v22]) (.cons (.cell (.move (.head _) (List.length_map _) (by decide) (.nil))) (.nil) (by decide)) rfl
noncomputable def zRk:Code:=(Tryz.f128.body).getD .skip
theorem zBN.ok (x2:(List ByteArray)) (q:Wd) (kn:(List Int)→Option (D×List Ent)) (hk:∀v:(List Int),J (q.g Tryz.prog 128 0 31) zRk (atI zRk 15) (St.mk' [(3,rr 1 v)] [(1,rE 1 zU v)]) (some v) kn):
  ∀s17:((List Int)×Int),J (q.g Tryz.prog 128 0 31) zRk (atI zRk 116) (St.mk' [(3,rr 1 s17.1),(9,rr 2 x2),(10,iv (x2.length:Int)),(11,iv s17.2)] [(1,rE 1 zU s17.1),(2,rE 1 eStr x2)]) (zBN x2 s17) kn:=by
 refine tQ (fun g ih s17=>?_)
 unfold zBa
 refine J_d 232 [] [12] [(12,bv (decide (s17.2< (x2.length:Int))))] [] [] zB ?_
 refine zG 12 (fun h18=>?_) (fun h18=>?_)
 ·refine zA (fun x19 h20=>?_)
  refine J_d 3736 [] [5,12] [(5,sv x19)] [] [] (zF 0 (zAv (kk:=.i64) 86 9 1 2 eStr (.tmp 9) (.tmp 11) h20) (zF 1 (zFq (d:=sv x19) 9 1 2 0 eStr (.tmp 13) h20 (by kernel_rfl)) zB)) ?_
  refine zA (fun x21 h22=>?_)
  refine zA (fun x23 h24=>?_)
  refine J_d 7474 [] [6] [(6,iv x23)] [] [] (zF 1 (zLK 9 (.tmp 15) (some (.const (.int .i64 4))) none h22) (zF 2 (xC [(.tmp 16),(.const (.int .i64 6))] [9,3] (zA9.ok x21 6) h24) zB)) ?_
  refine wH (atI zRk 14951) (fun v26:Bool=>St.mk' [(3,rr 1 s17.1),(6,iv x23),(9,rr 2 x2),(10,iv (x2.length:Int)),(11,iv s17.2),(24,bv v26)] [(1,rE 1 zU s17.1),(2,rE 1 eStr x2)]) (fun v26=>?_) (fun jv26=>?_)
  ·refine wH (aft zRk 1868) (fun v30:(List Int)=>St.mk' [(3,rr 4 v30),(9,rr 2 x2),(10,iv (x2.length:Int)),(11,iv s17.2)] [(2,rE 1 eStr x2),(4,rE 1 zU v30)]) (fun v30=>?_) (fun jv30=>?_)
   ·refine J_d 935 [] [11] [(11,iv (w64 (s17.2+1)))] [] [] zB ?_
    refine zBD 4 1 (Nat.le_of_ble_eq_true rfl) (Nat.le_of_ble_eq_true rfl) ?_
    exact J_q (J_b (ih (v30,w64 (s17.2+1)))) rfl
   ·refine zG 24 (fun h27=>?_) (fun h27=>?_)
    ·refine zA (fun x28 h29=>?_)
     refine J_d 29902 [] [3,6,24] [(3,rr 4 x28)] [1,4] [(4,rE 1 zU x28)] (zF 2 (zFk 39 2 1 3 zU [x23] [0] [(.tmp 26)] [iv x23]) (zF 3 (zHR 39 39 2 2 1 8 4 1 3 zU (.tmp 25) (.tmp 27) h29) zB)) ?_
     exact yN (J_j (jv30 x28)) rfl
    ·refine zBD 1 4 (Nat.le_of_ble_eq_true rfl) (Nat.le_of_ble_eq_true rfl) ?_
     exact yN (J_j (jv30 s17.1)) rfl
  ·refine wT (fun h25=>?_) (fun h25=>?_)
   ·refine J_d 14950 [] [5,24] [(24,bv ((x19.size:Int)==10))] [] [] (wE 2 [(19,bv (decide (x23≥1)))] [] h25 zB) ?_
    exact yN (J_j (jv26 ((x19.size:Int)==10))) rfl
   ·refine J_d 14950 [] [5,24] [(24,bv false)] [] [] (wE 2 [(19,bv (decide (x23≥1)))] [] h25 zB) ?_
    exact yN (J_j (jv26 false)) rfl
 ·exact yN (hk s17.1) rfl
theorem tY.ok (a1:zD):Ok Tryz.prog 128 [.ag (zD.enc false a1)] [] ((tY a1).map fun r=>(so 1 zU r,[])):=by
 refine zH zRk Tryz.f128 0 31 (fun q=>?_)
 unfold tY
 refine J_g 2 [(0,0)] [(1,pp 0)] [(0,.box (zD.enc false a1))] zB ?_
 refine J_d 6 [] [3] [(3,rr 1 ([]:List Int))] [1] [(1,rE 1 zU ([]:List Int))] (zF 0 (zFk 39 2 1 1 zU ([]:List Int) [] [] []) zB) ?_
 refine zA (fun x2 h3=>?_)
 refine J_d 28 [] [1,9,10,11] [(9,rr 2 x2),(10,iv (x2.length:Int)),(11,iv 0)] [0,2] [(2,rE 1 eStr x2)] (zF 1 (vQ («as»:=[.ag (zD.enc false a1),sv (bs [103,101,110,47])]) [(.tmp 8),(.const (.string (bs [103,101,110,47])))] [33,9] false [] [] (.cons (.same rfl) (.cons (.same rfl) (.nil))) (zAq.ok a1 (bs [103,101,110,47])) h3 (.own 2)) zB) ?_
 refine zFJ (zBN.ok x2 q _ (fun v31=>J_j ?_) (([]:List Int),0))
 refine J_g 30 [] [(2,rr 1 v31)] [(1,rE 1 zU v31)] zB ?_
 exact zBq (ds:=[rr 1 v31]) (ds':=[so 1 zU v31]) (.cons (.cell (.move (.head _) (List.length_map _) (by decide) (.nil))) (.nil) (by decide)) rfl
noncomputable def zRW:Code:=(Tryz.f204.body).getD .skip
theorem uY.ok (a1:(List Int)) (a2:Int) (q:Wd) (kn:Unit→Option (D×List Ent)) (hk:∀v:Unit,J (q.g Tryz.prog 204 0 19) zRW (atI zRW 7) (St.mk' [] []) (some v) kn):
  ∀s7:Int,J (q.g Tryz.prog 204 0 19) zRW (atI zRW 52) (St.mk' [(0,sl 1 zU a1),(1,iv a2),(7,iv (a1.length:Int)),(8,iv s7)] []) (uY a1 a2 s7) (Fl.go (fun r:Int=>some (iv r,[])) kn):=by
 refine tQ (fun g ih s7=>?_)
 unfold uK
 refine J_d 104 [] [9] [(9,bv (decide (s7< (a1.length:Int))))] [] [] zB ?_
 refine zG 9 (fun h8=>?_) (fun h8=>?_)
 ·refine J_d 1688 [] [5,9] [(5,iv s7)] [] [] zB ?_
  refine zA (fun x9 h10=>?_)
  refine J_d 3378 [] [16] [(16,bv (a2==x9))] [] [] (zF 3 (vI (kk:=.i64) 39 2 1 zU (.tmp 12) (.tmp 13) h10) zB) ?_
  refine zG 16 (fun h11=>?_) (fun h11=>?_)
  ·refine J_g 13516 [] [(4,iv s7)] [] zB ?_
   exact zM rfl
  ·refine J_d 423 [] [5,8,16] [(8,iv (w64 (s7+1)))] [] [] zB ?_
   exact J_q (J_b (ih (w64 (s7+1)))) rfl
 ·exact yN (hk ()) rfl
theorem tJ.ok (a1:(List Int)) (a2:Int):Ok Tryz.prog 204 [sl 1 zU a1,iv a2] [] ((tJ a1 a2).map fun r=>(iv r,[])):=by
 refine zH zRW Tryz.f204 0 19 (fun q=>?_)
 unfold tJ
 refine J_g 2 [] [(0,sl 1 zU a1),(1,iv a2)] [] zB ?_
 refine J_d 12 [] [7,8] [(7,iv (a1.length:Int)),(8,iv 0)] [] [] zB ?_
 refine vZ (K0:=(fun r:Int=>some (iv r,[]))) (fun _=>rfl) (uY.ok a1 a2 q _ (fun v12=>J_j ?_) 0)
 refine J_g 14 [] [(4,iv (-1))] [] zB ?_
 exact zM rfl
noncomputable def c131:Code:=(Tryz.f131.body).getD .skip
theorem xR.ok (a1:(List Int)) (a2:Int):Ok Tryz.prog 131 [sl 1 zU a1,iv a2] [] ((xR a1 a2).map fun r=>(bv r,[])):=by
 refine zH c131 Tryz.f131 0 9 (fun q=>?_)
 unfold xR
 refine J_d 2 [] [] [] [] [] zB ?_
 refine zA (fun x3 h4=>?_)
 refine J_g 6 [] [(4,bv (decide (x3≥0)))] [] (zF 2 (xC [(.tmp 5),(.tmp 6)] [39,2] (tJ.ok a1 a2) h4) zB) ?_
 exact zM rfl
noncomputable def zTq:Code:=(Tryz.f101.body).getD .skip
theorem tV.ok (a1:zD):Ok Tryz.prog 101 [.ag (zD.enc false a1)] [] ((tV a1).map fun r=>(.tu [iv r.1,iv r.2],[])):=by
 refine zH zTq Tryz.f101 0 25 (fun q=>?_)
 unfold tV
 refine J_g 2 [(0,0)] [(1,pp 0)] [(0,.box (zD.enc false a1))] zB ?_
 refine zA (fun x2 h3=>?_)
 refine J_d 6 [] [4,5] [(4,sl 1 eU8 x2.1),(5,bv x2.2)] [] [] (zF 1 (xC [(.tmp 8),(.const (.string (bs [99,117,114])))] [33,9] (xY.ok a1 (bs [99,117,114])) h3) zB) ?_
 refine zA (fun x4 h5=>?_)
 refine J_d 14 [] [4,6] [(6,iv x4)] [] [] (zF 1 (zL2 (xs:=x2.1) 121 9 5 (.tmp 12)) (zF 2 (xC [(.tmp 13),(.const (.int .i64 6))] [9,3] (zA9.ok (b2s x2.1) 6) h5) zB)) ?_
 refine wH (atI zTq 61) (fun v11:Bool=>St.mk' [(6,iv x4),(23,bv v11)] []) (fun v11=>?_) (fun jv11=>?_)
 ·refine zG 23 (fun h12=>?_) (fun h12=>?_)
  ·refine J_g 244 [] [(2,iv 0),(3,iv 4)] [] zB ?_
   exact zO0 rfl
  ·refine J_g 62 [] [(2,iv x4),(3,iv 0)] [] zB ?_
   exact zO0 rfl
 ·refine wT (fun h6=>?_) (fun h6=>?_)
  ·refine J_g 60 [] [(6,iv x4),(23,bv true)] [] (wE 2 [(16,bv (!x2.2))] [] h6 zB) ?_
   exact yN (J_j (jv11 true)) rfl
  ·refine zA (fun x7 h8=>?_)
   refine zA (fun x9 h10=>?_)
   refine J_g 60 [] [(6,iv x4),(23,bv (!x9))] [] (wE 2 [(16,bv (!x2.2))] [] h6 (zBr 4 2 17 false (vQ («as»:=[.ag (zD.enc false a1)]) [(.tmp 18)] [33] false [] [] (.cons (.same rfl) (.nil)) (tY.ok a1) h8 (.own 1)) (zBr 6 2 17 false (vQ («as»:=[rr 1 x7,iv x4]) [(.tmp 19),(.tmp 20)] [39,2] true [(1,rE 1 zU x7)] [] (.cons (zFE (.head _) (fun _=>rfl) rfl) (.cons (.same rfl) (.nil))) (xR.ok x7 x4) h10 (.same rfl rfl) (hbor:=fun _=>⟨fhN,zQ⟩)) zB))) ?_
   exact yN (J_j (jv11 (!x9))) rfl
theorem tX.ok (a1 a2:Int):Ok Tryz.prog 156 [iv a1,iv a2] [] ((tX a1 a2).map fun r=>(sv r,[])):=by
 unfold tX
 split
 ·rename_i h
  obtain ⟨rfl,h0,h1⟩:=h
  exact zR0 (vs:=[.int .i64 a1,.int .i64 10]) (fun w hG=>Tryz.strconv_FormatInt_10 a1 h0 h1 w (zPN (g:=1) hG (by kernel_rfl) (by kernel_rfl)))
 ·exact fun _ h=>by cases h
noncomputable def c84:Code:=(Tryz.f84.body).getD .skip
theorem zCM.ok (a1:Int):Ok Tryz.prog 84 [iv a1] [] ((zCM a1).map fun r=>(sv r,[])):=by
 refine zH c84 Tryz.f84 0 5 (fun q=>?_)
 unfold zCM
 refine J_g 2 [] [(0,iv a1)] [] zB ?_
 refine zA (fun x2 h3=>?_)
 refine J_g 6 [] [(2,sv x2)] [] (zF 1 (xC [(.tmp 3),(.const (.int .i64 10))] [2,3] (tX.ok a1 10) h3) zB) ?_
 exact zM rfl
theorem strings_Repeat.ok (a1:ByteArray) (a2:Int):Ok Tryz.prog 207 [sv a1,iv a2] [] ((strings_Repeat a1 a2).map fun r=>(sv r,[])):=by
 unfold strings_Repeat
 split
 ·rename_i h
  obtain ⟨h0,h1,h2⟩:=h
  obtain ⟨n,rfl⟩:=Int.eq_ofNat_of_zero_le h0
  exact zPL (vs:=[.string a1,.int .i64 n]) (fun w=>Tryz.strings_Repeat a1 n w (by omega) h2)
 ·exact fun _ h=>by cases h
noncomputable def zT5:Code:=(Tryz.f135.body).getD .skip
theorem zD1.ok (a1:Int):Ok Tryz.prog 135 [iv a1] [] ((zD1 a1).map fun r=>(sv r,[])):=by
 refine zH zT5 Tryz.f135 0 13 (fun q=>?_)
 unfold zD1
 refine J_g 2 [] [(0,iv a1)] [] zB ?_
 refine zA (fun x2 h3=>?_)
 refine J_g 6 [] [(3,sv x2)] [] (zF 1 (xC [(.tmp 4)] [2] (zCM.ok a1) h3) zB) ?_
 refine zA (fun x4 h5=>?_)
 refine zA (fun x6 h7=>?_)
 refine zA (fun x8 h9=>?_)
 refine J_g 14 [] [(2,sv x8)] [] (zF 3 (xC [(.const (.string (bs [48]))),(.tmp 8)] [9,3] (strings_Repeat.ok (bs [48]) (w64 (6-(x2.size:Int)))) h5) (zF 4 (zEf 9 9 (.const (.string (bs [103,101,110,47]))) (.tmp 9) h7) (zF 6 (zEf 9 9 (.tmp 10) (.tmp 11) h9) zB))) ?_
 exact zM rfl
theorem strings_Split.ok (a1 a2:ByteArray):Ok Tryz.prog 183 [sv a1,sv a2] [] ((strings_Split a1 a2).map fun r=>(so 1 eStr r,[])):=by
 unfold strings_Split
 split
 ·rename_i h
  refine zQe (t:=9) (fun w hG=>?_)
  obtain ⟨m,hm⟩:=zOX (g:=0) hG (by kernel_rfl)
  rw [Lib.splitB_all a2 h.2 0 _ a1 rfl]
  exact Tryz.strings_Split a1 a2 m w h.1 hm h.2
 ·exact fun _ h=>by cases h
noncomputable def c105:Code:=(Tryz.f105.body).getD .skip
theorem kT.ok (a1:ByteArray):Ok Tryz.prog 105 [sv a1] [] ((kT a1).map fun r=>(so 1 eStr r,[])):=by
 refine zH c105 Tryz.f105 0 19 (fun q=>?_)
 unfold kT
 refine J_g 2 [] [(0,sv a1)] [] zB ?_
 refine zA (fun x2 h3=>?_)
 refine J_g 6 [] [(3,rr 0 x2)] [(0,rE 1 eStr x2)] (zF 1 (vQ («as»:=[sv a1,sv (bs [10])]) [(.tmp 4),(.const (.string (bs [10])))] [9,9] false [] [] (.cons (.same rfl) (.cons (.same rfl) (.nil))) (strings_Split.ok a1 (bs [10])) h3 (.own 0)) zB) ?_
 refine zA (fun x4 h5=>?_)
 refine J_d 28 [] [12] [(12,bv (seq x4 (bs [])))] [] [] (zF 4 (zAv (kk:=.i64) 86 9 1 0 eStr (.tmp 6) (.tmp 9) h5) (zF 5 (zFq (d:=sv x4) 9 1 0 0 eStr (.tmp 10) h5 (by kernel_rfl)) zB)) ?_
 refine wH (atI c105 15) (fun v9:(List ByteArray)=>St.mk' [(3,rr 1 v9)] [(1,rE 1 eStr v9)]) (fun v9=>?_) (fun jv9=>?_)
 ·refine J_g 30 [] [(2,rr 1 v9)] [(1,rE 1 eStr v9)] zB ?_
  exact zBq (ds:=[rr 1 v9]) (ds':=[so 1 eStr v9]) (.cons (.cell (.move (.head _) (List.length_map _) (by decide) (.nil))) (.nil) (by decide)) rfl
 ·refine zG 12 (fun h6=>?_) (fun h6=>?_)
  ·refine zA (fun x7 h8=>?_)
   refine J_g 58 [] [(3,rr 1 x7)] [(1,rE 1 eStr x7)] (zF 4 (zQo 86 9 1 0 1 eStr (.tmp 13) none (some (.tmp 16)) h8) zB) ?_
   exact yN (J_j (jv9 x7)) rfl
  ·refine zBD 0 1 (Nat.le_of_ble_eq_true rfl) (Nat.le_of_ble_eq_true rfl) ?_
   exact yN (J_j (jv9 x2)) rfl
noncomputable def zUx:Code:=(Tryz.f280.body).getD .skip
theorem jA.ok (a1:ByteArray):Ok Tryz.prog 280 [sv a1] [] ((jA a1).map fun r=>(bv r,[])):=by
 refine zH zUx Tryz.f280 0 5 (fun q=>?_)
 unfold jA
 refine J_g 2 [] [(0,sv a1)] [] zB ?_
 refine J_g 6 [] [(2,bv (seq a1 (bs [])))] [] zB ?_
 exact zM rfl
noncomputable def zPJ:Code:=(Tryz.f316.body).getD .skip
theorem wK.ok (a1:(List ByteArray)) (q:Wd) (kn:Unit→Option (D×List Ent)) (hk:∀v:Unit,J (q.g Tryz.prog 316 0 19) zPJ (atI zPJ 7) (St.mk' [] []) (some v) kn):
  ∀s8:Int,J (q.g Tryz.prog 316 0 19) zPJ (atI zPJ 52) (St.mk' [(0,sl 1 eStr a1),(1,.fn 280 []),(7,iv (a1.length:Int)),(8,iv s8)] []) (wK a1 s8) (Fl.go (fun r:Int=>some (iv r,[])) kn):=by
 refine tQ (fun g ih s8=>?_)
 unfold xD
 refine J_d 104 [] [9] [(9,bv (decide (s8< (a1.length:Int))))] [] [] zB ?_
 refine zG 9 (fun h9=>?_) (fun h9=>?_)
 ·refine J_d 1688 [] [5,9] [(5,iv s8)] [] [] zB ?_
  refine zA (fun x10 h11=>?_)
  refine zA (fun x12 h13=>?_)
  refine J_d 3378 [] [16] [(16,bv x12)] [] [] (zF 3 (vI (kk:=.i64) 86 9 1 eStr (.tmp 12) (.tmp 13) h11) (zF 5 (zP5 («as»:=[sv x10]) (caps:=[]) 11 [(.tmp 15)] [9] (jA.ok x10) h13) zB)) ?_
  refine zG 16 (fun h14=>?_) (fun h14=>?_)
  ·refine J_g 13516 [] [(4,iv s8)] [] zB ?_
   exact zM rfl
  ·refine J_d 423 [] [5,8,16] [(8,iv (w64 (s8+1)))] [] [] zB ?_
   exact J_q (J_b (ih (w64 (s8+1)))) rfl
 ·exact yN (hk ()) rfl
theorem xV.ok (a1:(List ByteArray)):Ok Tryz.prog 316 [sl 1 eStr a1,.fn 280 []] [] ((xV a1).map fun r=>(iv r,[])):=by
 refine zH zPJ Tryz.f316 0 19 (fun q=>?_)
 unfold xV
 refine J_g 2 [] [(0,sl 1 eStr a1),(1,.fn 280 [])] [] zB ?_
 refine J_d 12 [] [7,8] [(7,iv (a1.length:Int)),(8,iv 0)] [] [] zB ?_
 refine vZ (K0:=(fun r:Int=>some (iv r,[]))) (fun _=>rfl) (wK.ok a1 q _ (fun v15=>J_j ?_) 0)
 refine J_g 14 [] [(4,iv (-1))] [] zB ?_
 exact zM rfl
noncomputable def zR4:Code:=(Tryz.f279.body).getD .skip
theorem wB.ok (q:Wd) (kn:((List ByteArray)×Int)→Option (D×List Ent)) (hk:∀v:((List ByteArray)×Int),J (q.g Tryz.prog 279 1 42) zR4 (atI zR4 31) (St.mk' [(0,rr 0 v.1),(5,iv v.2)] [(0,rE 1 eStr v.1)]) (some v) kn):
  ∀s14:((List ByteArray)×Int×Int),J (q.g Tryz.prog 279 1 42) zR4 (atI zR4 244) (St.mk' [(0,rr 0 s14.1),(1,.fn 280 []),(5,iv s14.2.1),(6,iv s14.2.2)] [(0,rE 1 eStr s14.1)]) (wB s14) kn:=by
 refine tQ (fun g ih s14=>?_)
 unfold xA
 refine J_d 976 [] [19] [(19,bv (decide (s14.2.2< (s14.1.length:Int))))] [] [] zB ?_
 refine zG 19 (fun h15=>?_) (fun h15=>?_)
 ·refine zA (fun x16 h17=>?_)
  refine J_d 3912 [] [7,19] [(7,sv x16)] [] [] (zF 2 (zAv (kk:=.i64) 86 9 1 0 eStr (.tmp 22) (.tmp 23) h17) (zF 3 (zFq (d:=sv x16) 9 1 0 0 eStr (.tmp 24) h17 (by kernel_rfl)) zB)) ?_
  refine zA (fun x18 h19=>?_)
  refine J_d 7826 [] [29] [(29,bv (!x18))] [] [] (zF 2 (zP5 («as»:=[sv x16]) (caps:=[]) 26 [(.tmp 27)] [9] (jA.ok x16) h19) zB) ?_
  refine wH (aft zR4 1956) (fun v23:((List ByteArray)×Int)=>St.mk' [(0,rr 0 v23.1),(1,.fn 280 []),(5,iv v23.2),(6,iv s14.2.2)] [(0,rE 1 eStr v23.1)]) (fun v23=>?_) (fun jv23=>?_)
  ·refine J_d 979 [] [6] [(6,iv (w64 (s14.2.2+1)))] [] [] zB ?_
   exact J_q (J_b (ih (v23.1,v23.2,w64 (s14.2.2+1)))) rfl
  ·refine zG 29 (fun h20=>?_) (fun h20=>?_)
   ·refine zA (fun x21 h22=>?_)
    refine J_g 31308 [] [(0,rr 0 s14.1),(1,.fn 280 []),(5,iv s14.2.1),(6,iv s14.2.2)] [(0,rE 1 eStr (s14.1.set s14.2.1.toNat x16))] (zF 3 (zAv (kk:=.i64) 86 9 1 0 eStr (.tmp 30) (.tmp 31) h22) (zHK 4 (zJn (b:=x16) 9 1 0 0 eStr (sv x16) (.tmp 33) (.tmp 32) h22 rfl) zB)) ?_
    refine zGK (σ':=St.mk' [(0,rr 0 (s14.1.set s14.2.1.toNat x16)),(1,.fn 280 []),(5,iv s14.2.1),(6,iv s14.2.2)] [(0,rE 1 eStr (s14.1.set s14.2.1.toNat x16))]) (by simp only [rr,List.length_set]) ?_
    refine J_d 31309 [] [5] [(5,iv (w64 (s14.2.1+1)))] [] [] zB ?_
    exact yN (J_j (jv23 (s14.1.set s14.2.1.toNat x16,w64 (s14.2.1+1)))) rfl
   ·exact yN (J_j (jv23 (s14.1,s14.2.1))) rfl
 ·exact yN (hk (s14.1,s14.2.1)) rfl
theorem yO.ok (a1:(List ByteArray)):Ok Tryz.prog 279 [rr 0 a1,.fn 280 []] [rE 1 eStr a1] ((yO a1).map fun r=>(so 1 eStr r,[])):=by
 refine zH zR4 Tryz.f279 1 42 (fun q=>?_)
 unfold yO
 refine J_d 2 [] [] [] [] [] zB ?_
 refine zA (fun x2 h3=>?_)
 refine J_g 6 [] [(0,rr 0 a1),(1,.fn 280 []),(5,iv x2)] [(0,rE 1 eStr a1)] (zF 2 (vQ («as»:=[rr 0 a1,.fn 280 []]) [(.tmp 8),(.tmp 9)] [86,281] true [(0,rE 1 eStr a1)] [] (.cons (zFE (.head _) (fun _=>rfl) rfl) (.cons (.fn (.nil)) (.nil))) (xV.ok a1) h3 (.same rfl rfl) (hbor:=fun _=>⟨fhN,zQ⟩)) zB) ?_
 refine J_d 28 [] [12] [(12,bv (x2==(-1)))] [] [] zB ?_
 refine zG 12 (fun h4=>?_) (fun h4=>?_)
 ·refine J_g 116 [] [(4,rr 0 a1)] [(0,rE 1 eStr a1)] zB ?_
  exact zBq (ds:=[rr 0 a1]) (ds':=[so 1 eStr a1]) (.cons (.cell (.move (.head _) (List.length_map _) (by decide) (.nil))) (.nil) (by decide)) rfl
 ·refine J_d 60 [] [6,12] [(6,iv (w64 (x2+1)))] [] [] zB ?_
  refine zFJ (wB.ok q _ (fun v24=>J_j ?_) (a1,x2,w64 (x2+1)))
  refine zA (fun x25 h26=>?_)
  refine zA (fun x27 h28=>?_)
  refine J_g 62 [] [(0,rr 0 v24.1),(5,iv v24.2)] [(0,rE 1 eStr x27)] (zF 2 (zSx 86 9 1 0 eStr (.tmp 36) (some (.tmp 37)) none h26) (zHK 3 (zSk (l:=v24.2) (a:=ByteArray.empty) 86 9 1 0 eStr (.tmp 38) h28 (.keep rfl (.nil))) zB)) ?_
  refine zGK (σ':=St.mk' [(0,rr 0 x27),(5,iv v24.2)] [(0,rE 1 eStr x27)]) (by simp only [rr,zNv h28]) ?_
  refine zA (fun x29 h30=>?_)
  refine J_g 126 [] [(4,rr 1 x29)] [(1,rE 1 eStr x29)] (zF 2 (zQo 86 9 1 0 1 eStr (.tmp 39) none (some (.tmp 40)) h30) zB) ?_
  exact zBq (ds:=[rr 1 x29]) (ds':=[so 1 eStr x29]) (.cons (.cell (.move (.head _) (List.length_map _) (by decide) (.nil))) (.nil) (by decide)) rfl
noncomputable def zTZ:Code:=(Tryz.f219.body).getD .skip
theorem zD2.ok (a1:ByteArray):Ok Tryz.prog 219 [sv a1] [] ((zD2 a1).map fun r=>(so 1 eStr r,[])):=by
 refine zH zTZ Tryz.f219 0 6 (fun q=>?_)
 unfold zD2
 refine J_g 2 [] [(0,sv a1)] [] zB ?_
 refine zA (fun x2 h3=>?_)
 refine zA (fun x4 h5=>?_)
 refine J_g 6 [] [(2,rr 1 x4)] [(1,rE 1 eStr x4)] (zF 1 (vQ («as»:=[sv a1,sv (bs [32])]) [(.tmp 3),(.const (.string (bs [32])))] [9,9] false [] [] (.cons (.same rfl) (.cons (.same rfl) (.nil))) (strings_Split.ok a1 (bs [32])) h3 (.own 0)) (zF 2 (vQ («as»:=[rr 0 x2,.fn 280 []]) [(.tmp 4),(.func 280)] [86,281] false [(0,rE 1 eStr x2)] [0] (.cons (.rf rfl) (.cons (.fn (.nil)) (.nil))) (yO.ok x2) h5 (.own 1)) zB)) ?_
 exact zBq (ds:=[rr 1 x4]) (ds':=[so 1 eStr x4]) (.cons (.cell (.move (.head _) (List.length_map _) (by decide) (.nil))) (.nil) (by decide)) rfl
noncomputable def zRO:Code:=(Tryz.f189.body).getD .skip
theorem jY.ok (x2:(List ByteArray)) (q:Wd) (kn:(List Int)→Option (D×List Ent)) (hk:∀v:(List Int),J (q.g Tryz.prog 189 0 39) zRO (atI zRO 63) (St.mk' [(2,pp 0),(4,pp 2)] [(0,.box [iv 0,iv 0,iv 0,iv 0]),(2,rE 1 zU v)]) (some v) kn):
  ∀s15:((List Int)×Int),J (q.g Tryz.prog 189 0 39) zRO (atI zRO 500) (St.mk' [(2,pp 0),(4,pp 2),(14,rr 1 x2),(15,iv (x2.length:Int)),(16,iv s15.2)] [(0,.box [iv 0,iv 0,iv 0,iv 0]),(1,rE 1 eStr x2),(2,rE 1 zU s15.1)]) (jY x2 s15) (Fl.go (fun r:zN=>some (.ag (zN.enc r),[])) kn):=by
 refine tQ (fun g ih s15=>?_)
 unfold jC
 refine J_d 1000 [] [17] [(17,bv (decide (s15.2< (x2.length:Int))))] [] [] zB ?_
 refine zG 17 (fun h16=>?_) (fun h16=>?_)
 ·refine zA (fun x17 h18=>?_)
  refine J_d 16024 [] [5,6,17] [(5,iv s15.2),(6,sv x17)] [] [] (zF 1 (zAv (kk:=.i64) 86 9 1 1 eStr (.tmp 14) (.tmp 16) h18) (zF 2 (zFq (d:=sv x17) 9 1 1 0 eStr (.tmp 19) h18 (by kernel_rfl)) zB)) ?_
  refine zA (fun x19 h20=>?_)
  refine zA (fun x21 h22=>?_)
  refine J_d 32050 [] [6] [] [2] [(2,rE 1 zU (s15.1.set s15.2.toNat x19))] (zF 2 (xC [(.tmp 22),(.const (.int .i64 3))] [9,3] (zA9.ok x17 3) h20) (zF 3 (zP4 (kk:=.i64) 253 2 1 2 zU (.tmp 4) (.tmp 21) 3 h22) (zHK 4 (zJn (b:=x19) 2 1 2 0 zU (iv x19) (.tmp 24) (.tmp 23) (zH8 h22) rfl) zB))) ?_
  refine zA (fun x23 h24=>?_)
  refine J_d 64102 [] [5,28] [(28,bv (decide (x23<0)))] [] [] (zF 1 (zP4 (kk:=.i64) 253 2 1 2 zU (.tmp 4) (.tmp 25) 3 h24) (zF 2 (zFq (d:=iv x23) 2 1 2 0 zU (.tmp 26) (zH8 h24) (by kernel_rfl)) zB)) ?_
  refine zG 28 (fun h25=>?_) (fun h25=>?_)
  ·refine J_g 256412 [] [(2,pp 0)] [(0,.box [iv 5,iv 0,iv 0,iv 0])] zB ?_
   exact zM rfl
  ·refine J_d 4007 [] [16,28] [(16,iv (w64 (s15.2+1)))] [] [] zB ?_
   exact J_q (J_b (ih (s15.1.set s15.2.toNat x19,w64 (s15.2+1)))) rfl
 ·exact yN (hk s15.1) rfl
theorem wU.ok (a1:ByteArray):Ok Tryz.prog 189 [sv a1] [] ((wU a1).map fun r=>(.ag (zN.enc r),[])):=by
 refine zH zRO Tryz.f189 0 39 (fun q=>?_)
 unfold wU
 refine J_g 2 [(0,0)] [(0,sv a1),(2,pp 0)] [(0,.box [iv 0,iv 0,iv 0,iv 0])] zB ?_
 refine zA (fun x2 h3=>?_)
 refine J_g 6 [] [(2,pp 0),(3,rr 1 x2)] [(0,.box [iv 0,iv 0,iv 0,iv 0]),(1,rE 1 eStr x2)] (zF 1 (vQ («as»:=[sv a1,sv (bs [46])]) [(.tmp 7),(.const (.string (bs [46])))] [9,9] false [] [] (.cons (.same rfl) (.cons (.same rfl) (.nil))) (strings_Split.ok a1 (bs [46])) h3 (.own 1)) zB) ?_
 refine J_g 14 [(1,2)] [(2,pp 0),(3,rr 1 x2),(4,pp 2)] [(0,.box [iv 0,iv 0,iv 0,iv 0]),(1,rE 1 eStr x2),(2,.box [iv 0,iv 0,iv 0])] (zF 0 (zQq 253 [.int .i64 0,.int .i64 0,.int .i64 0]) zB) ?_
 refine zOj [(2,pp 0),(3,rr 1 x2),(4,pp 2)] [(2,.box [iv 0,iv 0,iv 0]),(0,.box [iv 0,iv 0,iv 0,iv 0]),(1,rE 1 eStr x2)] (by kernel_rfl) ?_
 refine zPW 2 (z:=1) (xs:=([0,0,0]:(List Int)).map zU) (by kernel_rfl) (by kernel_rfl) (by kernel_rfl) (by kernel_rfl) rfl ?_
 refine zOj [(2,pp 0),(3,rr 1 x2),(4,pp 2)] [(0,.box [iv 0,iv 0,iv 0,iv 0]),(1,rE 1 eStr x2),(2,rE 1 zU ([0,0,0]:(List Int)))] (by kernel_rfl) ?_
 refine J_d 60 [] [12] [(12,bv (decide ((x2.length:Int)>3)))] [] [] zB ?_
 refine zG 12 (fun h4=>?_) (fun h4=>?_)
 ·refine J_g 244 [] [(2,pp 0)] [(0,.box [iv 5,iv 0,iv 0,iv 0])] zB ?_
  exact zM rfl
 ·refine J_d 124 [] [3,12,14,15,16] [(14,rr 1 x2),(15,iv (x2.length:Int)),(16,iv 0)] [] [] zB ?_
  refine vZ (K0:=(fun r:zN=>some (.ag (zN.enc r),[]))) (fun _=>rfl) (jY.ok x2 q _ (fun v26=>J_j ?_) (([0,0,0]:(List Int)),0))
  refine zA (fun x27 h28=>?_)
  refine zA (fun x29 h30=>?_)
  refine zA (fun x31 h32=>?_)
  refine J_g 126 [] [(2,pp 0)] [(0,.box [iv 0,iv x27,iv x29,iv x31])] (zF 0 (zP4 (kk:=.i64) 253 2 1 2 zU (.tmp 4) (.const (.int .i64 0)) 3 h28) (zF 1 (zFq (d:=iv x27) 2 1 2 0 zU (.tmp 31) (zH8 h28) (by kernel_rfl)) (zF 2 (zP4 (kk:=.i64) 253 2 1 2 zU (.tmp 4) (.const (.int .i64 1)) 3 h30) (zF 3 (zFq (d:=iv x29) 2 1 2 0 zU (.tmp 33) (zH8 h30) (by kernel_rfl)) (zF 4 (zP4 (kk:=.i64) 253 2 1 2 zU (.tmp 4) (.const (.int .i64 2)) 3 h32) (zF 5 (zFq (d:=iv x31) 2 1 2 0 zU (.tmp 35) (zH8 h32) (by kernel_rfl)) zB)))))) ?_
  exact zM rfl
noncomputable def c218:Code:=(Tryz.f218.body).getD .skip
theorem zCi.ok (a1:(List Pack)) (a2:(List ByteArray)):Ok Tryz.prog 218 [sl 8 (Pack.enc false) a1,sl 1 eStr a2] [] ((zCi a1 a2).map fun r=>(iv r,[])):=by
 refine zH c218 Tryz.f218 0 23 (fun q=>?_)
 unfold zCi
 refine J_g 2 [] [(0,sl 8 (Pack.enc false) a1),(1,sl 1 eStr a2)] [] zB ?_
 refine J_d 12 [] [8] [(8,bv ((a2.length:Int) !=2))] [] [] zB ?_
 refine zG 8 (fun h3=>?_) (fun h3=>?_)
 ·refine J_g 52 [] [(4,iv (-1))] [] zB ?_
  exact zM rfl
 ·refine zA (fun x4 h5=>?_)
  refine zA (fun x6 h7=>?_)
  refine J_g 14 [(4,0)] [(0,sl 8 (Pack.enc false) a1),(1,sl 1 eStr a2),(5,pp 0)] [(0,.box (zN.enc x6))] (zF 1 (vI (kk:=.i64) 86 9 1 eStr (.tmp 9) (.const (.int .i64 1)) h5) (zF 3 (xC [(.tmp 11)] [9] (wU.ok x4) h7) zB)) ?_
  refine J_d 60 [] [15] [(15,bv (x6.Code !=0))] [] [] zB ?_
  refine zG 15 (fun h8=>?_) (fun h8=>?_)
  ·refine J_g 244 [] [(4,iv (-1))] [] zB ?_
   exact zM rfl
  ·refine zA (fun x9 h10=>?_)
   refine zA (fun x11 h12=>?_)
   refine J_g 62 [] [(4,iv x11)] [] (zF 2 (vI (kk:=.i64) 86 9 1 eStr (.tmp 17) (.const (.int .i64 0)) h10) (zF 6 (xC [(.tmp 16),(.tmp 19),(.tmp 21)] [30,9,99] (zEp.ok a1 x9 x6.Version) h12) zB)) ?_
   exact zM rfl
theorem tO.ok (a1:List Int):Ok Tryz.prog 133 [rr 0 a1] [rE 1 zU a1] ((tO a1).map fun r=>(.tu [],[rE 1 zU r])):=by
 unfold tO
 split
 ·exact zRh (enc:=Value.int .i64) (by simp [List.length_mergeSort]) (fun blk off cap w hH hb=>Tryz.slices_Sort_int blk off cap a1 w hH hb (by omega)) (fun _ p cap w=>Tryz.slices_Sort_int_none p cap w)
 ·exact fun _ h=>by cases h
noncomputable def zRH:Code:=(Tryz.f151.body).getD .skip
theorem zC8.ok (a1:(List Pack)) (x7:(List ByteArray)) (q:Wd) (kn:(List Int)→Option (D×List Ent)) (hk:∀v:(List Int),J (q.g Tryz.prog 151 0 51) zRH (atI zRH 63) (St.mk' [(4,pp 0),(6,rr 1 v)] [(0,.box [iv 0,iv 0,nv]),(1,rE 1 zU v)]) (some v) kn):
  ∀s23:((List Int)×Int),J (q.g Tryz.prog 151 0 51) zRH (atI zRH 500) (St.mk' [(0,sl 8 (Pack.enc false) a1),(4,pp 0),(6,rr 1 s23.1),(22,rr 2 x7),(23,iv (x7.length:Int)),(24,iv s23.2)] [(0,.box [iv 0,iv 0,nv]),(1,rE 1 zU s23.1),(2,rE 1 eStr x7)]) (zC8 a1 x7 s23) (Fl.go (fun r:xK=>some (.ag [iv r.Code,iv r.At,so 1 zU r.Set],[])) kn):=by
 refine tQ (fun g ih s23=>?_)
 unfold kZ
 refine J_d 1000 [] [25] [(25,bv (decide (s23.2< (x7.length:Int))))] [] [] zB ?_
 refine zG 25 (fun h24=>?_) (fun h24=>?_)
 ·refine zA (fun x25 h26=>?_)
  refine J_d 16024 [] [7,8,25] [(7,iv s23.2),(8,sv x25)] [] [] (zF 1 (zAv (kk:=.i64) 86 9 1 2 eStr (.tmp 22) (.tmp 24) h26) (zF 2 (zFq (d:=sv x25) 9 1 2 0 eStr (.tmp 27) h26 (by kernel_rfl)) zB)) ?_
  refine zA (fun x27 h28=>?_)
  refine zA (fun x29 h30=>?_)
  refine J_d 32050 [] [8,9] [(9,iv x29)] [] [] (zF 2 (vQ («as»:=[sv x25]) [(.tmp 30)] [9] false [] [] (.cons (.same rfl) (.nil)) (zD2.ok x25) h28 (.own 3)) (zF 3 (vQ («as»:=[sl 8 (Pack.enc false) a1,rr 3 x27]) [(.tmp 29),(.tmp 31)] [30,86] true [(3,rE 1 eStr x27)] [] (.cons (.same rfl) (.cons (zFE (.head _) (fun _=>rfl) rfl) (.nil))) (zCi.ok a1 x27) h30 (.same rfl rfl) (hbor:=fun _=>⟨fhN,zQ⟩)) zB)) ?_
  refine wH (atI zRH 128205) (fun v34:Bool=>St.mk' [(0,sl 8 (Pack.enc false) a1),(4,pp 0),(6,rr 1 s23.1),(7,iv s23.2),(9,iv x29),(22,rr 2 x7),(23,iv (x7.length:Int)),(24,iv s23.2),(39,bv v34)] [(0,.box [iv 0,iv 0,nv]),(1,rE 1 zU s23.1),(2,rE 1 eStr x7)]) (fun v34=>?_) (fun jv34=>?_)
  ·refine zG 39 (fun h35=>?_) (fun h35=>?_)
   ·refine J_g 512820 [] [(4,pp 0)] [(0,.box [iv 5,iv s23.2,nv])] zB ?_
    exact zBq (ds:=[.ag [iv 5,iv s23.2,nv]]) (ds':=[.ag [iv 5,iv s23.2,so 1 zU ([]:List Int)]]) (.cons (.ag (.keep rfl (.keep rfl (.nilsl true 1 (.nil))))) (.nil) (by decide)) rfl
   ·refine zA (fun x36 h37=>?_)
    refine J_g 64103 [] [(0,sl 8 (Pack.enc false) a1),(4,pp 0),(6,rr 4 x36),(22,rr 2 x7),(23,iv (x7.length:Int)),(24,iv s23.2)] [(0,.box [iv 0,iv 0,nv]),(2,rE 1 eStr x7),(4,rE 1 zU x36)] (zF 2 (zFk 39 2 1 3 zU [x29] [0] [(.tmp 43)] [iv x29]) (zF 3 (zHR 39 39 2 2 1 8 4 1 3 zU (.tmp 42) (.tmp 44) h37) zB)) ?_
    refine J_d 4007 [] [24] [(24,iv (w64 (s23.2+1)))] [] [] zB ?_
    refine zBD 4 1 (Nat.le_of_ble_eq_true rfl) (Nat.le_of_ble_eq_true rfl) ?_
    exact J_q (J_b (ih (x36,w64 (s23.2+1)))) rfl
  ·refine wT (fun h31=>?_) (fun h31=>?_)
   ·refine J_d 128204 [] [39] [(39,bv true)] [] [] (wE 2 [(34,bv (decide (x29<0)))] [] h31 zB) ?_
    exact yN (J_j (jv34 true)) rfl
   ·refine zA (fun x32 h33=>?_)
    refine J_d 128204 [] [39] [(39,bv x32)] [] [] (wE 2 [(34,bv (decide (x29<0)))] [] h31 (zBr 5 2 35 false (vQ («as»:=[rr 1 s23.1,iv x29]) [(.tmp 36),(.tmp 37)] [39,2] true [(1,rE 1 zU s23.1)] [] (.cons (zFE (.head _) (fun _=>rfl) rfl) (.cons (.same rfl) (.nil))) (xR.ok s23.1 x29) h33 (.same rfl rfl) (hbor:=fun _=>⟨fhN,zQ⟩)) zB)) ?_
    exact yN (J_j (jv34 x32)) rfl
 ·exact yN (hk s23.1) rfl
theorem zCj.ok (a1:(List Pack)) (a2:ByteArray):Ok Tryz.prog 151 [sl 8 (Pack.enc false) a1,sv a2] [] ((zCj a1 a2).map fun r=>(.ag [iv r.Code,iv r.At,so 1 zU r.Set],[])):=by
 refine zH zRH Tryz.f151 0 51 (fun q=>?_)
 unfold zCj
 refine J_d 2 [(0,0)] [4] [(4,pp 0)] [0] [(0,.box [iv 0,iv 0,nv])] zB ?_
 refine zA (fun x3 h4=>?_)
 refine J_g 12 [] [(0,sl 8 (Pack.enc false) a1),(1,sv a2),(4,pp 0),(5,iv x3)] [(0,.box [iv 0,iv 0,nv])] (zF 1 (xC [(.tmp 10)] [30] (vL.ok a1) h4) zB) ?_
 refine J_d 26 [] [13] [(13,bv (x3 !=0))] [] [] zB ?_
 refine zG 13 (fun h5=>?_) (fun h5=>?_)
 ·refine J_g 108 [] [(4,pp 0)] [(0,.box [iv x3,iv 0,nv])] zB ?_
  exact zBq (ds:=[.ag [iv x3,iv 0,nv]]) (ds':=[.ag [iv x3,iv 0,so 1 zU ([]:List Int)]]) (.cons (.ag (.keep rfl (.keep rfl (.nilsl true 1 (.nil))))) (.nil) (by decide)) rfl
 ·refine J_d 28 [] [5,13,18] [(18,bv (decide ((a2.size:Int)>4000)))] [] [] zB ?_
  refine zG 18 (fun h6=>?_) (fun h6=>?_)
  ·refine J_g 116 [] [(4,pp 0)] [(0,.box [iv 2,iv 0,nv])] zB ?_
   exact zBq (ds:=[.ag [iv 2,iv 0,nv]]) (ds':=[.ag [iv 2,iv 0,so 1 zU ([]:List Int)]]) (.cons (.ag (.keep rfl (.keep rfl (.nilsl true 1 (.nil))))) (.nil) (by decide)) rfl
  ·refine J_d 30 [] [6,18] [(6,rr 1 ([]:List Int))] [1] [(1,rE 1 zU ([]:List Int))] (zF 0 (zFk 39 2 1 1 zU ([]:List Int) [] [] []) zB) ?_
   refine zA (fun x7 h8=>?_)
   refine J_d 124 [] [1,22,23,24] [(22,rr 2 x7),(23,iv (x7.length:Int)),(24,iv 0)] [2] [(2,rE 1 eStr x7)] (zF 1 (vQ («as»:=[sv a2]) [(.tmp 21)] [9] false [] [] (.cons (.same rfl) (.nil)) (kT.ok a2) h8 (.own 2)) zB) ?_
   refine vZ (K0:=(fun r:xK=>some (.ag [iv r.Code,iv r.At,so 1 zU r.Set],[]))) (fun _=>rfl) (zC8.ok a1 x7 q _ (fun v38=>J_j ?_) (([]:List Int),0))
   refine zA (fun x39 h40=>?_)
   refine J_g 126 [] [(4,pp 0),(6,rr 1 v38)] [(0,.box [iv 0,iv 0,nv]),(1,rE 1 zU x39)] (zF 1 (vQ («as»:=[rr 1 v38]) [(.tmp 47)] [39] false [(1,rE 1 zU v38)] [1] (.cons (.rf rfl) (.nil)) (tO.ok v38) h40 (.tu (.nil))) zB) ?_
   refine zA (fun u41 h42=>?_)
   refine zGK (σ':=St.mk' [(4,pp 0),(6,rr 1 x39)] [(0,.box [iv 0,iv 0,nv]),(1,rE 1 zU x39)]) (by simp only [rr,zCN h42]) ?_
   refine J_g 254 [] [(4,pp 0)] [(0,.box [iv 0,iv 0,rr 1 x39]),(1,rE 1 zU x39)] zB ?_
   exact zBq (ds:=[.ag [iv 0,iv 0,rr 1 x39]]) (ds':=[.ag [iv 0,iv 0,so 1 zU x39]]) (.cons (.ag (.keep rfl (.keep rfl (.move (.tail _ (.head _)) (List.length_map _) (by decide) (.nil))))) (.nil) (by decide)) rfl
noncomputable def c82:Code:=(Tryz.f82.body).getD .skip
theorem zFv.ok (a1:(List Pack)) (a2:zD) (a3:Int):Ok Tryz.prog 82 [sl 8 (Pack.enc false) a1,.ag (zD.enc false a2),iv a3] [] ((zFv a1 a2 a3).map fun r=>(.tu [so 1 zU r.1,iv r.2],[])):=by
 refine zH c82 Tryz.f82 0 31 (fun q=>?_)
 unfold zFv
 refine J_d 2 [(0,0)] [1,4] [(4,pp 0)] [0] [(0,.box (zD.enc false a2))] zB ?_
 refine zA (fun x4 h5=>?_)
 refine zA (fun x6 h7=>?_)
 refine J_d 12 [] [15] [(15,bv (!x6))] [] [] (zF 1 (vQ («as»:=[.ag (zD.enc false a2)]) [(.tmp 11)] [33] false [] [] (.cons (.same rfl) (.nil)) (tY.ok a2) h5 (.own 1)) (zF 3 (vQ («as»:=[rr 1 x4,iv a3]) [(.tmp 12),(.tmp 13)] [39,2] true [(1,rE 1 zU x4)] [] (.cons (zFE (.head _) (fun _=>rfl) rfl) (.cons (.same rfl) (.nil))) (xR.ok x4 a3) h7 (.same rfl rfl) (hbor:=fun _=>⟨fhN,zQ⟩)) zB)) ?_
 refine zG 15 (fun h8=>?_) (fun h8=>?_)
 ·refine J_g 52 [] [(6,nv),(7,iv 4)] [] zB ?_
  exact zBq (ds:=[nv,iv 4]) (ds':=[so 1 zU ([]:List Int),iv 4]) (.cons (.cell (.nilsl true 1 (.nil))) (.cons (.cell (.keep rfl (.nil))) (.nil) (by decide)) (by decide)) rfl
 ·refine zA (fun x9 h10=>?_)
  refine zA (fun x11 h12=>?_)
  refine J_d 14 [] [2,4,8,15] [(8,sl 1 eU8 x11.1)] [0] [] (zF 2 (xC [(.tmp 18)] [2] (zD1.ok a3) h10) (zF 3 (xC [(.tmp 17),(.tmp 19)] [33,9] (xY.ok a2 x9) h12) zB)) ?_
  refine zA (fun x13 h14=>?_)
  refine J_g 30 [(4,1)] [(10,pp 1)] [(0,rE 1 zU x13.Set),(1,.box [iv x13.Code,iv x13.At,rr 0 x13.Set])] (zF 2 (zL2 (xs:=x11.1) 121 9 5 (.tmp 24)) (zF 3 (vQ («as»:=[sl 8 (Pack.enc false) a1,sv (b2s x11.1)]) [(.tmp 23),(.tmp 25)] [30,9] false [] [] (.cons (.same rfl) (.cons (.same rfl) (.nil))) (zCj.ok a1 (b2s x11.1)) h14 (.ag (.cons (.same rfl rfl) (.cons (.same rfl rfl) (.cons (.own 0) (.nil)))))) zB)) ?_
  refine J_g 62 [] [(6,rr 0 x13.Set),(7,iv x13.Code)] [(0,rE 1 zU x13.Set)] zB ?_
  exact zBq (ds:=[rr 0 x13.Set,iv x13.Code]) (ds':=[so 1 zU x13.Set,iv x13.Code]) (.cons (.cell (.move (.head _) (List.length_map _) (by decide) (.nil))) (.cons (.cell (.keep rfl (.nil))) (.nil) (by decide)) (by decide)) rfl
noncomputable def c48:Code:=(Tryz.f48.body).getD .skip
theorem zFu.ok (a1:(List Pack)) (a2:zD):Ok Tryz.prog 48 [sl 8 (Pack.enc false) a1,.ag (zD.enc false a2)] [] ((zFu a1 a2).map fun r=>(.tu [so 1 zU r.1,iv r.2],[])):=by
 refine zH c48 Tryz.f48 0 22 (fun q=>?_)
 unfold zFu
 refine J_d 2 [(0,0)] [1,3] [(3,pp 0)] [0] [(0,.box (zD.enc false a2))] zB ?_
 refine zA (fun x3 h4=>?_)
 refine J_g 6 [] [(0,sl 8 (Pack.enc false) a1),(3,pp 0),(6,iv x3.1),(7,iv x3.2)] [(0,.box (zD.enc false a2))] (zF 1 (xC [(.tmp 9)] [33] (tV.ok a2) h4) zB) ?_
 refine J_d 28 [] [14] [(14,bv (x3.2 !=0))] [] [] zB ?_
 refine zG 14 (fun h5=>?_) (fun h5=>?_)
 ·refine J_g 116 [] [(4,nv),(5,iv x3.2)] [] zB ?_
  exact zBq (ds:=[nv,iv x3.2]) (ds':=[so 1 zU ([]:List Int),iv x3.2]) (.cons (.cell (.nilsl true 1 (.nil))) (.cons (.cell (.keep rfl (.nil))) (.nil) (by decide)) (by decide)) rfl
 ·refine zA (fun x6 h7=>?_)
  refine J_g 30 [] [(4,rr 1 x6.1),(5,iv x6.2)] [(1,rE 1 zU x6.1)] (zF 3 (vQ («as»:=[sl 8 (Pack.enc false) a1,.ag (zD.enc false a2),iv x3.1]) [(.tmp 16),(.tmp 17),(.tmp 18)] [30,33,2] false [] [] (.cons (.same rfl) (.cons (.same rfl) (.cons (.same rfl) (.nil)))) (zFv.ok a1 a2 x3.1) h7 (.tu (.cons (.own 1) (.cons (.same rfl rfl) (.nil))))) zB) ?_
  exact zBq (ds:=[rr 1 x6.1,iv x6.2]) (ds':=[so 1 zU x6.1,iv x6.2]) (.cons (.cell (.move (.head _) (List.length_map _) (by decide) (.nil))) (.cons (.cell (.keep rfl (.nil))) (.nil) (by decide)) (by decide)) rfl
noncomputable def zS9:Code:=(Tryz.f245.body).getD .skip
theorem zFg.ok (a1:(List Pack)) (a2:(List Int)) (a3:ByteArray) (q:Wd) (kn:Unit→Option (D×List Ent)) (hk:∀v:Unit,J (q.g Tryz.prog 245 0 24) zS9 (atI zS9 7) (St.mk' [] []) (some v) kn):
  ∀s10:Int,J (q.g Tryz.prog 245 0 24) zS9 (atI zS9 52) (St.mk' [(0,sl 8 (Pack.enc false) a1),(2,sv a3),(9,sl 1 zU a2),(10,iv (a2.length:Int)),(11,iv s10)] []) (zFg a1 a2 a3 s10) (Fl.go (fun r:Int=>some (iv r,[])) kn):=by
 refine tQ (fun g ih s10=>?_)
 unfold zEh
 refine J_d 104 [] [12] [(12,bv (decide (s10< (a2.length:Int))))] [] [] zB ?_
 refine zG 12 (fun h11=>?_) (fun h11=>?_)
 ·refine zA (fun x12 h13=>?_)
  refine J_d 1688 [] [8,12] [(8,iv x12)] [] [] (zF 0 (vI (kk:=.i64) 39 2 1 zU (.tmp 9) (.tmp 11) h13) zB) ?_
  refine zA (fun x14 h15=>?_)
  refine J_d 3378 [] [21] [(21,bv (seq x14.Name a3))] [] [] (zF 2 (vI (kk:=.i64) 30 102 8 (Pack.enc false) (.tmp 15) (.tmp 16) h15) zB) ?_
  refine zG 21 (fun h16=>?_) (fun h16=>?_)
  ·refine J_g 13516 [] [(6,iv x12)] [] zB ?_
   exact zM rfl
  ·refine J_d 423 [] [8,11,21] [(11,iv (w64 (s10+1)))] [] [] zB ?_
   exact J_q (J_b (ih (w64 (s10+1)))) rfl
 ·exact yN (hk ()) rfl
theorem zFm.ok (a1:(List Pack)) (a2:(List Int)) (a3:ByteArray):Ok Tryz.prog 245 [sl 8 (Pack.enc false) a1,sl 1 zU a2,sv a3] [] ((zFm a1 a2 a3).map fun r=>(iv r,[])):=by
 refine zH zS9 Tryz.f245 0 24 (fun q=>?_)
 unfold zFm
 refine J_g 2 [] [(0,sl 8 (Pack.enc false) a1),(1,sl 1 zU a2),(2,sv a3)] [] zB ?_
 refine J_d 12 [] [1,9,10,11] [(9,sl 1 zU a2),(10,iv (a2.length:Int)),(11,iv 0)] [] [] zB ?_
 refine vZ (K0:=(fun r:Int=>some (iv r,[]))) (fun _=>rfl) (zFg.ok a1 a2 a3 q _ (fun v17=>J_j ?_) 0)
 refine J_g 14 [] [(6,iv (-1))] [] zB ?_
 exact zM rfl
noncomputable def zTD:Code:=(Tryz.f295.body).getD .skip
theorem zCb.ok (a1:Pack):Ok Tryz.prog 295 [.ag (Pack.enc false a1)] [] ((zCb a1).map fun r=>(so 1 eStr r,[])):=by
 refine zH zTD Tryz.f295 0 9 (fun q=>?_)
 unfold zCb
 refine J_g 2 [(0,0)] [(1,pp 0)] [(0,.box (Pack.enc false a1))] zB ?_
 refine zA (fun x2 h3=>?_)
 refine J_g 6 [] [(2,rr 2 x2)] [(2,rE 1 eStr x2)] (zF 2 (zFk 86 9 1 1 eStr [a1.Name] [0] [(.tmp 4)] [sv a1.Name]) (zF 5 (zKQ 86 86 9 9 1 16 2 1 eStr (.tmp 5) (.tmp 7) h3) zB)) ?_
 exact zBq (ds:=[rr 2 x2]) (ds':=[so 1 eStr x2]) (.cons (.cell (.move (.head _) (List.length_map _) (by decide) (.nil))) (.nil) (by decide)) rfl
noncomputable def zTR:Code:=(Tryz.f297.body).getD .skip
theorem zCo.ok (a1:Term) (a2:ByteArray) (a3:Version):Ok Tryz.prog 297 [.ag (Term.enc a1),sv a2,.ag (Version.enc a3)] [] ((zCo a1 a2 a3).map fun r=>(bv r,[])):=by
 refine zH zTR Tryz.f297 0 25 (fun q=>?_)
 unfold zCo
 refine J_g 2 [(0,0),(1,1)] [(1,sv a2),(3,pp 0),(5,pp 1)] [(0,.box (Term.enc a1)),(1,.box (Version.enc a3))] zB ?_
 refine wT (fun h4=>?_) (fun h4=>?_)
 ·refine zA (fun x5 h6=>?_)
  refine wT (fun h7=>?_) (fun h7=>?_)
  ·refine zA (fun x8 h9=>?_)
   refine J_g 6 [] [(6,bv (decide (x8<0)))] [] (wE 4 [(10,bv (seq a1.Name a2))] [] h4 (zBr 8 4 11 true (xC [(.tmp 13),(.tmp 14)] [99,99] (uV.ok a1.Low a3) h6) (wE 11 [(17,bv (decide (x5≤0)))] [] h7 (zBr 15 11 18 true (xC [(.tmp 19),(.tmp 21)] [99,99] (uV.ok a3 a1.High) h9) zB)))) ?_
   exact zM rfl
  ·refine J_g 6 [] [(6,bv false)] [] (wE 4 [(10,bv (seq a1.Name a2))] [] h4 (zBr 8 4 11 true (xC [(.tmp 13),(.tmp 14)] [99,99] (uV.ok a1.Low a3) h6) (wE 11 [(17,bv (decide (x5≤0)))] [] h7 zB))) ?_
   exact zM rfl
 ·refine J_g 6 [] [(6,bv false)] [] (wE 4 [(10,bv (seq a1.Name a2))] [] h4 zB) ?_
  exact zM rfl
noncomputable def zTB:Code:=(Tryz.f296.body).getD .skip
theorem zAc.ok (a1:ByteArray) (a2:Term) (a3:Pack):Ok Tryz.prog 296 [sv a1,pp 0,pp 1] [.box (Term.enc a2),.box (Pack.enc false a3)] ((zAc a1 a2 a3).map fun r=>(bv r,[.box (Term.enc a2),.box (Pack.enc false a3)])):=by
 refine zH zTB Tryz.f296 2 10 (fun q=>?_)
 unfold zAc
 refine J_d 2 [] [] [] [] [] zB ?_
 refine zA (fun x4 h5=>?_)
 refine J_d 6 [] [0,1,2,4] [(4,bv x4)] [] [] (zF 4 (xC [(.tmp 5),(.tmp 6),(.tmp 8)] [149,9,99] (zCo.ok a2 a1 a3.Version) h5) zB) ?_
 exact zM rfl
theorem yV.ok (a1:(List ByteArray)) (a2:Term) (a3:Pack) (q:Wd) (kn:Unit→Option (D×List Ent)) (hk:∀v:Unit,J (q.g Tryz.prog 316 3 19) zPJ (atI zPJ 7) (St.mk' [] [(0,rE 1 eStr a1),(1,.box (Term.enc a2)),(2,.box (Pack.enc false a3))]) (some v) kn):
  ∀s10:Int,J (q.g Tryz.prog 316 3 19) zPJ (atI zPJ 52) (St.mk' [(0,rr 0 a1),(1,.fn 296 [pp 1,pp 2]),(7,iv (a1.length:Int)),(8,iv s10)] [(0,rE 1 eStr a1),(1,.box (Term.enc a2)),(2,.box (Pack.enc false a3))]) (yV a1 a2 a3 s10) (Fl.go (fun r:Int=>some (iv r,[rE 1 eStr a1,.box (Term.enc a2),.box (Pack.enc false a3)])) kn):=by
 refine tQ (fun g ih s10=>?_)
 unfold yQ
 refine J_d 104 [] [9] [(9,bv (decide (s10< (a1.length:Int))))] [] [] zB ?_
 refine zG 9 (fun h11=>?_) (fun h11=>?_)
 ·refine J_d 1688 [] [5,9] [(5,iv s10)] [] [] zB ?_
  refine zA (fun x12 h13=>?_)
  refine zA (fun x14 h15=>?_)
  refine J_d 3378 [] [16] [(16,bv x14)] [] [] (zF 3 (zAv (kk:=.i64) 86 9 1 0 eStr (.tmp 12) (.tmp 13) h13) (zF 4 (zFq (d:=sv x12) 9 1 0 0 eStr (.tmp 14) h13 (by kernel_rfl)) (zF 5 (zKg [(1,.box (Term.enc a2)),(2,.box (Pack.enc false a3))] [] (zKM 11 [(.tmp 15)] [9] false [(1,.box (Term.enc a2)),(2,.box (Pack.enc false a3))] [1,2] [sv x12] [pp 1,pp 2] (.cons (.same rfl) (.cons (.pt rfl) (.cons (.pt rfl) (.nil)))) (zAc.ok x12 a2 a3) h15 (.same rfl rfl))) zB))) ?_
  refine zG 16 (fun h16=>?_) (fun h16=>?_)
  ·refine J_d 13516 [] [0,1,4,5,7,8,16] [(4,iv s10)] [] [] zB ?_
   exact zM rfl
  ·refine J_d 423 [] [5,8,16] [(8,iv (w64 (s10+1)))] [] [] zB ?_
   exact J_q (J_b (ih (w64 (s10+1)))) rfl
 ·exact yN (hk ()) rfl
theorem yH.ok (a1:(List ByteArray)) (a2:Term) (a3:Pack):Ok Tryz.prog 316 [rr 0 a1,.fn 296 [pp 1,pp 2]] [rE 1 eStr a1,.box (Term.enc a2),.box (Pack.enc false a3)] ((yH a1 a2 a3).map fun r=>(iv r,[rE 1 eStr a1,.box (Term.enc a2),.box (Pack.enc false a3)])):=by
 refine zH zPJ Tryz.f316 3 19 (fun q=>?_)
 unfold yH
 refine J_g 2 [] [(0,rr 0 a1),(1,.fn 296 [pp 1,pp 2])] [(0,rE 1 eStr a1),(1,.box (Term.enc a2)),(2,.box (Pack.enc false a3))] zB ?_
 refine J_d 12 [] [7,8] [(7,iv (a1.length:Int)),(8,iv 0)] [] [] zB ?_
 refine vZ (K0:=(fun r:Int=>some (iv r,[rE 1 eStr a1,.box (Term.enc a2),.box (Pack.enc false a3)]))) (fun _=>rfl) (yV.ok a1 a2 a3 q _ (fun v17=>J_j ?_) 0)
 refine J_d 14 [] [4] [(4,iv (-1))] [] [] zB ?_
 exact zM rfl
noncomputable def zU2:Code:=(Tryz.f294.body).getD .skip
theorem zZ.ok (a1:(List ByteArray)) (a2:Term) (a3:Pack):Ok Tryz.prog 294 [rr 0 a1,.fn 296 [pp 1,pp 2]] [rE 1 eStr a1,.box (Term.enc a2),.box (Pack.enc false a3)] ((zZ a1 a2 a3).map fun r=>(bv r,[rE 1 eStr a1,.box (Term.enc a2),.box (Pack.enc false a3)])):=by
 refine zH zU2 Tryz.f294 3 9 (fun q=>?_)
 unfold zZ
 refine J_d 2 [] [] [] [] [] zB ?_
 refine zA (fun x4 h5=>?_)
 refine J_d 6 [] [0,1,4] [(4,bv (decide (x4≥0)))] [] [] (zF 2 (zKg [(0,rE 1 eStr a1),(1,.box (Term.enc a2)),(2,.box (Pack.enc false a3))] [] (vQ («as»:=[rr 0 a1,.fn 296 [pp 1,pp 2]]) [(.tmp 5),(.tmp 6)] [86,281] false [(0,rE 1 eStr a1),(1,.box (Term.enc a2)),(2,.box (Pack.enc false a3))] [0,1,2] (.cons (.rf rfl) (.cons (.fn (.cons (.pt rfl) (.cons (.pt rfl) (.nil)))) (.nil))) (yH.ok a1 a2 a3) h5 (.same rfl rfl))) zB) ?_
 exact zM rfl
noncomputable def zTC:Code:=(Tryz.f249.body).getD .skip
theorem uQ.ok (a1:Pack) (a2:Term):Ok Tryz.prog 249 [.ag (Pack.enc false a1),.ag (Term.enc a2)] [] ((uQ a1 a2).map fun r=>(bv r,[])):=by
 refine zH zTC Tryz.f249 0 9 (fun q=>?_)
 unfold uQ
 refine J_g 2 [(0,0),(1,1)] [(2,pp 0),(3,pp 1)] [(0,.box (Pack.enc false a1)),(1,.box (Term.enc a2))] zB ?_
 refine zA (fun x3 h4=>?_)
 refine zA (fun x5 h6=>?_)
 refine J_g 6 [] [(4,bv x5)] [] (zF 1 (vQ («as»:=[.ag (Pack.enc false a1)]) [(.tmp 5)] [102] false [] [] (.cons (.same rfl) (.nil)) (zCb.ok a1) h4 (.own 2)) (zF 3 (zKg [(2,rE 1 eStr x3),(1,.box (Term.enc a2)),(0,.box (Pack.enc false a1))] [] (vQ («as»:=[rr 2 x3,.fn 296 [pp 1,pp 0]]) [(.tmp 6),(.tmp 7)] [86,281] false [(2,rE 1 eStr x3),(1,.box (Term.enc a2)),(0,.box (Pack.enc false a1))] [2,1,0] (.cons (.rf rfl) (.cons (.fn (.cons (.pt rfl) (.cons (.pt rfl) (.nil)))) (.nil))) (zZ.ok x3 a2 a1) h6 (.same rfl rfl))) zB)) ?_
 exact zM rfl
noncomputable def zPE:Code:=(Tryz.f258.body).getD .skip
theorem yY.ok (a1:(List Term)) (a2:Pack) (q:Wd) (kn:Unit→Option (D×List Ent)) (hk:∀v:Unit,J (q.g Tryz.prog 258 0 19) zPE (atI zPE 7) (St.mk' [] []) (some v) kn):
  ∀s9:Int,J (q.g Tryz.prog 258 0 19) zPE (atI zPE 52) (St.mk' [(0,sl 7 Term.enc a1),(1,.fb 249 [.ag (Pack.enc false a2)]),(7,iv (a1.length:Int)),(8,iv s9)] []) (yY a1 a2 s9) (Fl.go (fun r:Int=>some (iv r,[])) kn):=by
 refine tQ (fun g ih s9=>?_)
 unfold yX
 refine J_d 104 [] [9] [(9,bv (decide (s9< (a1.length:Int))))] [] [] zB ?_
 refine zG 9 (fun h10=>?_) (fun h10=>?_)
 ·refine J_d 1688 [] [5,9] [(5,iv s9)] [] [] zB ?_
  refine zA (fun x11 h12=>?_)
  refine zA (fun x13 h14=>?_)
  refine J_d 3378 [] [16] [(16,bv x13)] [] [] (zF 3 (vI (kk:=.i64) 75 149 7 Term.enc (.tmp 12) (.tmp 13) h12) (zF 5 (zSQ («as»:=[.ag (Term.enc x11)]) (caps:=[.ag (Pack.enc false a2)]) 11 [(.tmp 15)] [149] (uQ.ok a2 x11) h14) zB)) ?_
  refine zG 16 (fun h15=>?_) (fun h15=>?_)
  ·refine J_g 13516 [] [(4,iv s9)] [] zB ?_
   exact zM rfl
  ·refine J_d 423 [] [5,8,16] [(8,iv (w64 (s9+1)))] [] [] zB ?_
   exact J_q (J_b (ih (w64 (s9+1)))) rfl
 ·exact yN (hk ()) rfl
theorem yJ.ok (a1:(List Term)) (a2:Pack):Ok Tryz.prog 258 [sl 7 Term.enc a1,.fb 249 [.ag (Pack.enc false a2)]] [] ((yJ a1 a2).map fun r=>(iv r,[])):=by
 refine zH zPE Tryz.f258 0 19 (fun q=>?_)
 unfold yJ
 refine J_g 2 [] [(0,sl 7 Term.enc a1),(1,.fb 249 [.ag (Pack.enc false a2)])] [] zB ?_
 refine J_d 12 [] [7,8] [(7,iv (a1.length:Int)),(8,iv 0)] [] [] zB ?_
 refine vZ (K0:=(fun r:Int=>some (iv r,[]))) (fun _=>rfl) (yY.ok a1 a2 q _ (fun v16=>J_j ?_) 0)
 refine J_g 14 [] [(4,iv (-1))] [] zB ?_
 exact zM rfl
noncomputable def c193:Code:=(Tryz.f193.body).getD .skip
theorem yC.ok (a1:(List Term)) (a2:Pack):Ok Tryz.prog 193 [sl 7 Term.enc a1,.fb 249 [.ag (Pack.enc false a2)]] [] ((yC a1 a2).map fun r=>(bv r,[])):=by
 refine zH c193 Tryz.f193 0 9 (fun q=>?_)
 unfold yC
 refine J_d 2 [] [] [] [] [] zB ?_
 refine zA (fun x3 h4=>?_)
 refine J_g 6 [] [(4,bv (decide (x3≥0)))] [] (zF 2 (vQ («as»:=[sl 7 Term.enc a1,.fb 249 [.ag (Pack.enc false a2)]]) [(.tmp 5),(.tmp 6)] [75,221] false [] [] (.cons (.same rfl) (.cons (.fb (.cons (.same rfl) (.nil))) (.nil))) (yJ.ok a1 a2) h4 (.same rfl rfl)) zB) ?_
 exact zM rfl
noncomputable def zUr:Code:=(Tryz.f247.body).getD .skip
theorem uL.ok (a1:Pack) (a2:(List Term)):Ok Tryz.prog 247 [.ag (Pack.enc false a1),sl 7 Term.enc a2] [] ((uL a1 a2).map fun r=>(bv r,[])):=by
 refine zH zUr Tryz.f247 0 9 (fun q=>?_)
 unfold uL
 refine J_d 2 [(0,0)] [0,2] [(2,pp 0)] [0] [(0,.box (Pack.enc false a1))] zB ?_
 refine zA (fun x3 h4=>?_)
 refine J_g 6 [] [(4,bv x3)] [] (zF 2 (zSR 249 [(.tmp 6)] [.ag (Pack.enc false a1)]) (zF 3 (vQ («as»:=[sl 7 Term.enc a2,.fb 249 [.ag (Pack.enc false a1)]]) [(.tmp 5),(.tmp 7)] [75,221] false [] [] (.cons (.same rfl) (.cons (.fb (.cons (.same rfl) (.nil))) (.nil))) (yC.ok a2 a1) h4 (.same rfl rfl)) zB)) ?_
 exact zM rfl
noncomputable def zUm:Code:=(Tryz.f246.body).getD .skip
theorem zDU.ok (a1:Int) (a2:(List Pack)) (a3:(List Term)):Ok Tryz.prog 246 [iv a1,pp 0,pp 1] [.box [sl 8 (Pack.enc false) a2],.box [sl 7 Term.enc a3]] ((zDU a1 a2 a3).map fun r=>(bv r,[.box [sl 8 (Pack.enc false) a2],.box [sl 7 Term.enc a3]])):=by
 refine zH zUm Tryz.f246 2 11 (fun q=>?_)
 unfold zDU
 refine J_d 2 [] [] [] [] [] zB ?_
 refine zA (fun x4 h5=>?_)
 refine zA (fun x6 h7=>?_)
 refine J_d 6 [] [0,1,2,4] [(4,bv x6)] [] [] (zF 2 (vI (kk:=.i64) 30 102 8 (Pack.enc false) (.tmp 5) (.tmp 6) h5) (zF 5 (xC [(.tmp 8),(.tmp 9)] [102,75] (uL.ok x4 a3) h7) zB)) ?_
 exact zM rfl
noncomputable def c203:Code:=(Tryz.f203.body).getD .skip
theorem xS.ok (a1:(List Int)) (a2:(List Pack)) (a3:(List Term)) (q:Wd) (kn:Unit→Option (D×List Ent)) (hk:∀v:Unit,J (q.g Tryz.prog 203 2 19) c203 (atI c203 7) (St.mk' [] [(0,.box [sl 8 (Pack.enc false) a2]),(1,.box [sl 7 Term.enc a3])]) (some v) kn):
  ∀s10:Int,J (q.g Tryz.prog 203 2 19) c203 (atI c203 52) (St.mk' [(0,sl 1 zU a1),(1,.fn 246 [pp 0,pp 1]),(7,iv (a1.length:Int)),(8,iv s10)] [(0,.box [sl 8 (Pack.enc false) a2]),(1,.box [sl 7 Term.enc a3])]) (xS a1 a2 a3 s10) (Fl.go (fun r:Int=>some (iv r,[.box [sl 8 (Pack.enc false) a2],.box [sl 7 Term.enc a3]])) kn):=by
 refine tQ (fun g ih s10=>?_)
 unfold xM
 refine J_d 104 [] [9] [(9,bv (decide (s10< (a1.length:Int))))] [] [] zB ?_
 refine zG 9 (fun h11=>?_) (fun h11=>?_)
 ·refine J_d 1688 [] [5,9] [(5,iv s10)] [] [] zB ?_
  refine zA (fun x12 h13=>?_)
  refine zA (fun x14 h15=>?_)
  refine J_d 3378 [] [16] [(16,bv x14)] [] [] (zF 3 (vI (kk:=.i64) 39 2 1 zU (.tmp 12) (.tmp 13) h13) (zF 5 (zKg [(0,.box [sl 8 (Pack.enc false) a2]),(1,.box [sl 7 Term.enc a3])] [] (zKM 11 [(.tmp 15)] [2] false [(0,.box [sl 8 (Pack.enc false) a2]),(1,.box [sl 7 Term.enc a3])] [0,1] [iv x12] [pp 0,pp 1] (.cons (.same rfl) (.cons (.pt rfl) (.cons (.pt rfl) (.nil)))) (zDU.ok x12 a2 a3) h15 (.same rfl rfl))) zB)) ?_
  refine zG 16 (fun h16=>?_) (fun h16=>?_)
  ·refine J_d 13516 [] [0,1,4,5,7,8,16] [(4,iv s10)] [] [] zB ?_
   exact zM rfl
  ·refine J_d 423 [] [5,8,16] [(8,iv (w64 (s10+1)))] [] [] zB ?_
   exact J_q (J_b (ih (w64 (s10+1)))) rfl
 ·exact yN (hk ()) rfl
theorem xH.ok (a1:(List Int)) (a2:(List Pack)) (a3:(List Term)):Ok Tryz.prog 203 [sl 1 zU a1,.fn 246 [pp 0,pp 1]] [.box [sl 8 (Pack.enc false) a2],.box [sl 7 Term.enc a3]] ((xH a1 a2 a3).map fun r=>(iv r,[.box [sl 8 (Pack.enc false) a2],.box [sl 7 Term.enc a3]])):=by
 refine zH c203 Tryz.f203 2 19 (fun q=>?_)
 unfold xH
 refine J_g 2 [] [(0,sl 1 zU a1),(1,.fn 246 [pp 0,pp 1])] [(0,.box [sl 8 (Pack.enc false) a2]),(1,.box [sl 7 Term.enc a3])] zB ?_
 refine J_d 12 [] [7,8] [(7,iv (a1.length:Int)),(8,iv 0)] [] [] zB ?_
 refine vZ (K0:=(fun r:Int=>some (iv r,[.box [sl 8 (Pack.enc false) a2],.box [sl 7 Term.enc a3]]))) (fun _=>rfl) (xS.ok a1 a2 a3 q _ (fun v17=>J_j ?_) 0)
 refine J_d 14 [] [4] [(4,iv (-1))] [] [] zB ?_
 exact zM rfl
noncomputable def zTx:Code:=(Tryz.f129.body).getD .skip
theorem yB.ok (a1:(List Int)) (a2:(List Pack)) (a3:(List Term)):Ok Tryz.prog 129 [sl 1 zU a1,.fn 246 [pp 0,pp 1]] [.box [sl 8 (Pack.enc false) a2],.box [sl 7 Term.enc a3]] ((yB a1 a2 a3).map fun r=>(bv r,[.box [sl 8 (Pack.enc false) a2],.box [sl 7 Term.enc a3]])):=by
 refine zH zTx Tryz.f129 2 9 (fun q=>?_)
 unfold yB
 refine J_d 2 [] [] [] [] [] zB ?_
 refine zA (fun x4 h5=>?_)
 refine J_d 6 [] [0,1,4] [(4,bv (decide (x4≥0)))] [] [] (zF 2 (zKg [(0,.box [sl 8 (Pack.enc false) a2]),(1,.box [sl 7 Term.enc a3])] [] (vQ («as»:=[sl 1 zU a1,.fn 246 [pp 0,pp 1]]) [(.tmp 5),(.tmp 6)] [39,174] false [(0,.box [sl 8 (Pack.enc false) a2]),(1,.box [sl 7 Term.enc a3])] [0,1] (.cons (.same rfl) (.cons (.fn (.cons (.pt rfl) (.cons (.pt rfl) (.nil)))) (.nil))) (xH.ok a1 a2 a3) h5 (.same rfl rfl))) zB) ?_
 exact zM rfl
noncomputable def zUq:Code:=(Tryz.f248.body).getD .skip
theorem zDX.ok (a1:Int) (a2:Int) (a3:(List Pack)) (a4:Term):Ok Tryz.prog 248 [iv a1,pp 0,pp 1,pp 2] [.box [iv a2],.box [sl 8 (Pack.enc false) a3],.box (Term.enc a4)] ((zDX a1 a2 a3 a4).map fun r=>(bv r,[.box [iv a2],.box [sl 8 (Pack.enc false) a3],.box (Term.enc a4)])):=by
 refine zH zUq Tryz.f248 3 17 (fun q=>?_)
 unfold zDX
 refine J_d 2 [] [] [] [] [] zB ?_
 refine wT (fun h5=>?_) (fun h5=>?_)
 ·refine zA (fun x6 h7=>?_)
  refine zA (fun x8 h9=>?_)
  refine J_d 6 [] [0,1,2,3,5] [(5,bv x8)] [] [] (wE 3 [(8,bv (a1 !=a2))] [] h5 (zBr 6 3 9 true (vI (kk:=.i64) 30 102 8 (Pack.enc false) (.tmp 10) (.tmp 11) h7) (zBr 9 3 9 true (xC [(.tmp 13),(.tmp 14)] [102,149] (uQ.ok x6 a4) h9) zB))) ?_
  exact zM rfl
 ·refine J_d 6 [] [0,1,2,3,5] [(5,bv false)] [] [] (wE 3 [(8,bv (a1 !=a2))] [] h5 zB) ?_
  exact zM rfl
theorem xU.ok (a1:(List Int)) (a2:Int) (a3:(List Pack)) (a4:Term) (q:Wd) (kn:Unit→Option (D×List Ent)) (hk:∀v:Unit,J (q.g Tryz.prog 203 3 19) c203 (atI c203 7) (St.mk' [] [(0,.box [iv a2]),(1,.box [sl 8 (Pack.enc false) a3]),(2,.box (Term.enc a4))]) (some v) kn):
  ∀s11:Int,J (q.g Tryz.prog 203 3 19) c203 (atI c203 52) (St.mk' [(0,sl 1 zU a1),(1,.fn 248 [pp 0,pp 1,pp 2]),(7,iv (a1.length:Int)),(8,iv s11)] [(0,.box [iv a2]),(1,.box [sl 8 (Pack.enc false) a3]),(2,.box (Term.enc a4))]) (xU a1 a2 a3 a4 s11) (Fl.go (fun r:Int=>some (iv r,[.box [iv a2],.box [sl 8 (Pack.enc false) a3],.box (Term.enc a4)])) kn):=by
 refine tQ (fun g ih s11=>?_)
 unfold xQ
 refine J_d 104 [] [9] [(9,bv (decide (s11< (a1.length:Int))))] [] [] zB ?_
 refine zG 9 (fun h12=>?_) (fun h12=>?_)
 ·refine J_d 1688 [] [5,9] [(5,iv s11)] [] [] zB ?_
  refine zA (fun x13 h14=>?_)
  refine zA (fun x15 h16=>?_)
  refine J_d 3378 [] [16] [(16,bv x15)] [] [] (zF 3 (vI (kk:=.i64) 39 2 1 zU (.tmp 12) (.tmp 13) h14) (zF 5 (zKg [(0,.box [iv a2]),(1,.box [sl 8 (Pack.enc false) a3]),(2,.box (Term.enc a4))] [] (zKM 11 [(.tmp 15)] [2] false [(0,.box [iv a2]),(1,.box [sl 8 (Pack.enc false) a3]),(2,.box (Term.enc a4))] [0,1,2] [iv x13] [pp 0,pp 1,pp 2] (.cons (.same rfl) (.cons (.pt rfl) (.cons (.pt rfl) (.cons (.pt rfl) (.nil))))) (zDX.ok x13 a2 a3 a4) h16 (.same rfl rfl))) zB)) ?_
  refine zG 16 (fun h17=>?_) (fun h17=>?_)
  ·refine J_d 13516 [] [0,1,4,5,7,8,16] [(4,iv s11)] [] [] zB ?_
   exact zM rfl
  ·refine J_d 423 [] [5,8,16] [(8,iv (w64 (s11+1)))] [] [] zB ?_
   exact J_q (J_b (ih (w64 (s11+1)))) rfl
 ·exact yN (hk ()) rfl
theorem xI.ok (a1:(List Int)) (a2:Int) (a3:(List Pack)) (a4:Term):Ok Tryz.prog 203 [sl 1 zU a1,.fn 248 [pp 0,pp 1,pp 2]] [.box [iv a2],.box [sl 8 (Pack.enc false) a3],.box (Term.enc a4)] ((xI a1 a2 a3 a4).map fun r=>(iv r,[.box [iv a2],.box [sl 8 (Pack.enc false) a3],.box (Term.enc a4)])):=by
 refine zH c203 Tryz.f203 3 19 (fun q=>?_)
 unfold xI
 refine J_g 2 [] [(0,sl 1 zU a1),(1,.fn 248 [pp 0,pp 1,pp 2])] [(0,.box [iv a2]),(1,.box [sl 8 (Pack.enc false) a3]),(2,.box (Term.enc a4))] zB ?_
 refine J_d 12 [] [7,8] [(7,iv (a1.length:Int)),(8,iv 0)] [] [] zB ?_
 refine vZ (K0:=(fun r:Int=>some (iv r,[.box [iv a2],.box [sl 8 (Pack.enc false) a3],.box (Term.enc a4)]))) (fun _=>rfl) (xU.ok a1 a2 a3 a4 q _ (fun v18=>J_j ?_) 0)
 refine J_d 14 [] [4] [(4,iv (-1))] [] [] zB ?_
 exact zM rfl
theorem yA.ok (a1:(List Int)) (a2:Int) (a3:(List Pack)) (a4:Term):Ok Tryz.prog 129 [sl 1 zU a1,.fn 248 [pp 0,pp 1,pp 2]] [.box [iv a2],.box [sl 8 (Pack.enc false) a3],.box (Term.enc a4)] ((yA a1 a2 a3 a4).map fun r=>(bv r,[.box [iv a2],.box [sl 8 (Pack.enc false) a3],.box (Term.enc a4)])):=by
 refine zH zTx Tryz.f129 3 9 (fun q=>?_)
 unfold yA
 refine J_d 2 [] [] [] [] [] zB ?_
 refine zA (fun x5 h6=>?_)
 refine J_d 6 [] [0,1,4] [(4,bv (decide (x5≥0)))] [] [] (zF 2 (zKg [(0,.box [iv a2]),(1,.box [sl 8 (Pack.enc false) a3]),(2,.box (Term.enc a4))] [] (vQ («as»:=[sl 1 zU a1,.fn 248 [pp 0,pp 1,pp 2]]) [(.tmp 5),(.tmp 6)] [39,174] false [(0,.box [iv a2]),(1,.box [sl 8 (Pack.enc false) a3]),(2,.box (Term.enc a4))] [0,1,2] (.cons (.same rfl) (.cons (.fn (.cons (.pt rfl) (.cons (.pt rfl) (.cons (.pt rfl) (.nil))))) (.nil))) (xI.ok a1 a2 a3 a4) h6 (.same rfl rfl))) zB) ?_
 exact zM rfl
noncomputable def zMc:Code:=(Tryz.f177.body).getD .skip
theorem zEo.ok (a1:(List Pack)) (a2:(List Int)) (s56:((List zT)×Int)) (x58:Int) (x60:Pack) (q:Wd) (kn:(List zT)→Option (D×List Ent)) (hk:∀v:(List zT),J (q.g Tryz.prog 177 0 77) zMc (aft zMc 1868) (St.mk' [(1,sl 1 zU a2),(2,pp 0),(5,rr 5 v),(14,sl 1 zU a2),(15,iv (a2.length:Int)),(16,iv s56.2)] [(0,.box [sl 8 (Pack.enc false) a1]),(5,rE 3 zT.enc v)]) (some v) kn):
  ∀s99:((List zT)×Int),J (q.g Tryz.prog 177 0 77) zMc (atI zMc 239228) (St.mk' [(1,sl 1 zU a2),(2,pp 0),(5,rr 5 s99.1),(7,pp 2),(14,sl 1 zU a2),(15,iv (a2.length:Int)),(16,iv s56.2),(58,sl 7 Term.enc x60.Bars),(59,iv (x60.Bars.length:Int)),(60,iv s99.2)] [(0,.box [sl 8 (Pack.enc false) a1]),(2,.box [iv x58]),(5,rE 3 zT.enc s99.1)]) (zEo a1 a2 s56 x58 x60 s99) kn:=by
 refine tQ (fun g ih s99=>?_)
 unfold zD9
 refine J_d 478456 [] [61] [(61,bv (decide (s99.2< (x60.Bars.length:Int))))] [] [] zB ?_
 refine zG 61 (fun h100=>?_) (fun h100=>?_)
 ·refine zA (fun x101 h102=>?_)
  refine J_d 7655320 [(3,6)] [11,12,61] [(11,iv s99.2),(12,pp 6)] [6] [(6,.box (Term.enc x101))] (zF 1 (vI (kk:=.i64) 75 149 7 Term.enc (.tmp 58) (.tmp 60) h102) zB) ?_
  refine zA (fun x103 h104=>?_)
  refine J_d 15310642 [] [12,67] [(67,bv x103)] [6] [] (zF 2 (zKg [(2,.box [iv x58]),(0,.box [sl 8 (Pack.enc false) a1]),(6,.box (Term.enc x101))] [] (vQ («as»:=[sl 1 zU a2,.fn 248 [pp 2,pp 0,pp 6]]) [(.tmp 65),(.tmp 66)] [39,174] false [(2,.box [iv x58]),(0,.box [sl 8 (Pack.enc false) a1]),(6,.box (Term.enc x101))] [2,0,6] (.cons (.same rfl) (.cons (.fn (.cons (.pt rfl) (.cons (.pt rfl) (.cons (.pt rfl) (.nil))))) (.nil))) (yA.ok a2 x58 a1 x101) h104 (.same rfl rfl))) zB) ?_
  refine wH (aft zMc 3827660) (fun v108:(List zT)=>St.mk' [(1,sl 1 zU a2),(2,pp 0),(5,rr 7 v108),(7,pp 2),(14,sl 1 zU a2),(15,iv (a2.length:Int)),(16,iv s56.2),(58,sl 7 Term.enc x60.Bars),(59,iv (x60.Bars.length:Int)),(60,iv s99.2)] [(0,.box [sl 8 (Pack.enc false) a1]),(2,.box [iv x58]),(7,rE 3 zT.enc v108)]) (fun v108=>?_) (fun jv108=>?_)
  ·refine J_d 1913831 [] [60] [(60,iv (w64 (s99.2+1)))] [] [] zB ?_
   refine zBD 7 5 (Nat.le_of_ble_eq_true rfl) (Nat.le_of_ble_eq_true rfl) ?_
   exact J_q (J_b (ih (v108,w64 (s99.2+1)))) rfl
  ·refine zG 67 (fun h105=>?_) (fun h105=>?_)
   ·refine zA (fun x106 h107=>?_)
    refine J_d 30621286 [] [5,11,67] [(5,rr 7 x106)] [5,7] [(7,rE 3 zT.enc x106)] (zF 4 (zFk 133 199 3 6 zT.enc [({Kind:=3,Pack:=x58,At:=s99.2}:zT)] [0] [(.tmp 71)] [.ag [iv 3,iv x58,iv s99.2]]) (zF 5 (zHR 133 133 199 199 3 24 7 5 6 zT.enc (.tmp 68) (.tmp 72) h107) zB)) ?_
    exact yN (J_j (jv108 x106)) rfl
   ·refine zBD 5 7 (Nat.le_of_ble_eq_true rfl) (Nat.le_of_ble_eq_true rfl) ?_
    exact yN (J_j (jv108 s99.1)) rfl
 ·exact yN (hk s99.1) rfl
theorem zEt.ok (a1:(List Pack)) (a2:(List Int)) (s56:((List zT)×Int)) (x58:Int) (x60:Pack) (q:Wd) (kn:(List zT)→Option (D×List Ent)) (hk:∀v:(List zT),J (q.g Tryz.prog 177 0 77) zMc (atI zMc 29903) (St.mk' [(1,sl 1 zU a2),(2,pp 0),(5,rr 5 v),(7,pp 2),(8,pp 3),(14,sl 1 zU a2),(15,iv (a2.length:Int)),(16,iv s56.2)] [(0,.box [sl 8 (Pack.enc false) a1]),(2,.box [iv x58]),(3,.box (Pack.enc false x60)),(5,rE 3 zT.enc v)]) (some v) kn):
  ∀s79:((List zT)×Int),J (q.g Tryz.prog 177 0 77) zMc (atI zMc 239220) (St.mk' [(1,sl 1 zU a2),(2,pp 0),(5,rr 5 s79.1),(7,pp 2),(8,pp 3),(14,sl 1 zU a2),(15,iv (a2.length:Int)),(16,iv s56.2),(39,sl 1 (eSl false 7 Term.enc) x60.Needs),(40,iv (x60.Needs.length:Int)),(41,iv s79.2)] [(0,.box [sl 8 (Pack.enc false) a1]),(2,.box [iv x58]),(3,.box (Pack.enc false x60)),(5,rE 3 zT.enc s79.1)]) (zEt a1 a2 s56 x58 x60 s79) kn:=by
 refine tQ (fun g ih s79=>?_)
 unfold zDD
 refine J_d 478440 [] [42] [(42,bv (decide (s79.2< (x60.Needs.length:Int))))] [] [] zB ?_
 refine zG 42 (fun h80=>?_) (fun h80=>?_)
 ·refine zA (fun x81 h82=>?_)
  refine J_d 7655064 [(3,6)] [9,10,42] [(9,iv s79.2),(10,pp 6)] [6] [(6,.box [sl 7 Term.enc x81])] (zF 1 (vI (kk:=.i64) 100 75 1 (eSl false 7 Term.enc) (.tmp 39) (.tmp 41) h82) zB) ?_
  refine zA (fun x83 h84=>?_)
  refine J_d 15310130 [] [10,49] [(49,bv (!x83))] [6] [] (zF 2 (zKg [(0,.box [sl 8 (Pack.enc false) a1]),(6,.box [sl 7 Term.enc x81])] [] (vQ («as»:=[sl 1 zU a2,.fn 246 [pp 0,pp 6]]) [(.tmp 46),(.tmp 47)] [39,174] false [(0,.box [sl 8 (Pack.enc false) a1]),(6,.box [sl 7 Term.enc x81])] [0,6] (.cons (.same rfl) (.cons (.fn (.cons (.pt rfl) (.cons (.pt rfl) (.nil)))) (.nil))) (yB.ok a2 a1 x81) h84 (.same rfl rfl))) zB) ?_
  refine wH (aft zMc 3827532) (fun v88:(List zT)=>St.mk' [(1,sl 1 zU a2),(2,pp 0),(5,rr 7 v88),(7,pp 2),(8,pp 3),(14,sl 1 zU a2),(15,iv (a2.length:Int)),(16,iv s56.2),(39,sl 1 (eSl false 7 Term.enc) x60.Needs),(40,iv (x60.Needs.length:Int)),(41,iv s79.2)] [(0,.box [sl 8 (Pack.enc false) a1]),(2,.box [iv x58]),(3,.box (Pack.enc false x60)),(7,rE 3 zT.enc v88)]) (fun v88=>?_) (fun jv88=>?_)
  ·refine J_d 1913767 [] [41] [(41,iv (w64 (s79.2+1)))] [] [] zB ?_
   refine zBD 7 5 (Nat.le_of_ble_eq_true rfl) (Nat.le_of_ble_eq_true rfl) ?_
   exact J_q (J_b (ih (v88,w64 (s79.2+1)))) rfl
  ·refine zG 49 (fun h85=>?_) (fun h85=>?_)
   ·refine zA (fun x86 h87=>?_)
    refine J_d 30620262 [] [5,9,49] [(5,rr 7 x86)] [5,7] [(7,rE 3 zT.enc x86)] (zF 4 (zFk 133 199 3 6 zT.enc [({Kind:=2,Pack:=x58,At:=s79.2}:zT)] [0] [(.tmp 53)] [.ag [iv 2,iv x58,iv s79.2]]) (zF 5 (zHR 133 133 199 199 3 24 7 5 6 zT.enc (.tmp 50) (.tmp 54) h87) zB)) ?_
    exact yN (J_j (jv88 x86)) rfl
   ·refine zBD 5 7 (Nat.le_of_ble_eq_true rfl) (Nat.le_of_ble_eq_true rfl) ?_
    exact yN (J_j (jv88 s79.1)) rfl
 ·exact yN (hk s79.1) rfl
theorem zEn.ok (a1:(List Pack)) (a2:(List Int)) (q:Wd) (kn:(List zT)→Option (D×List Ent)) (hk:∀v:(List zT),J (q.g Tryz.prog 177 0 77) zMc (atI zMc 15) (St.mk' [(5,rr 1 v)] [(1,rE 3 zT.enc v)]) (some v) kn):
  ∀s56:((List zT)×Int),J (q.g Tryz.prog 177 0 77) zMc (atI zMc 116) (St.mk' [(1,sl 1 zU a2),(2,pp 0),(5,rr 1 s56.1),(14,sl 1 zU a2),(15,iv (a2.length:Int)),(16,iv s56.2)] [(0,.box [sl 8 (Pack.enc false) a1]),(1,rE 3 zT.enc s56.1)]) (zEn a1 a2 s56) kn:=by
 refine tQ (fun g ih s56=>?_)
 unfold zDJ
 refine J_d 232 [] [17] [(17,bv (decide (s56.2< (a2.length:Int))))] [] [] zB ?_
 refine zG 17 (fun h57=>?_) (fun h57=>?_)
 ·refine zA (fun x58 h59=>?_)
  refine J_d 3736 [(3,2)] [6,7,17] [(6,iv s56.2),(7,pp 2)] [2] [(2,.box [iv x58])] (zF 1 (vI (kk:=.i64) 39 2 1 zU (.tmp 14) (.tmp 16) h59) zB) ?_
  refine zA (fun x60 h61=>?_)
  refine J_d 7474 [(4,3)] [8] [(8,pp 3)] [3] [(3,.box (Pack.enc false x60))] (zF 2 (vI (kk:=.i64) 30 102 8 (Pack.enc false) (.tmp 21) (.tmp 22) h61) zB) ?_
  refine zA (fun x62 h63=>?_)
  refine zA (fun x64 h65=>?_)
  refine J_d 29900 [] [6,32] [(32,bv (decide (x64≥0)))] [] [] (zF 3 (zRE 39 2 1 zU (.tmp 26) none (some (.tmp 27)) h63) (zF 6 (xC [(.tmp 25),(.tmp 28),(.tmp 30)] [30,39,9] (zFm.ok a1 x62 x60.Name) h65) zB)) ?_
  refine wH (atI zMc 14951) (fun v69:(List zT)=>St.mk' [(1,sl 1 zU a2),(2,pp 0),(5,rr 5 v69),(7,pp 2),(8,pp 3),(14,sl 1 zU a2),(15,iv (a2.length:Int)),(16,iv s56.2)] [(0,.box [sl 8 (Pack.enc false) a1]),(2,.box [iv x58]),(3,.box (Pack.enc false x60)),(5,rE 3 zT.enc v69)]) (fun v69=>?_) (fun jv69=>?_)
  ·refine J_d 59804 [] [39,40,41] [(39,sl 1 (eSl false 7 Term.enc) x60.Needs),(40,iv (x60.Needs.length:Int)),(41,iv 0)] [] [] zB ?_
   refine zFJ (zEt.ok a1 a2 s56 x58 x60 q _ (fun v89=>J_j ?_) (v69,0))
   refine J_d 59806 [] [8,58,59,60] [(58,sl 7 Term.enc x60.Bars),(59,iv (x60.Bars.length:Int)),(60,iv 0)] [3] [] zB ?_
   refine zFJ (zEo.ok a1 a2 s56 x58 x60 q _ (fun v109=>J_j ?_) (v89,0))
   refine J_d 935 [] [16] [(16,iv (w64 (s56.2+1)))] [] [] zB ?_
   refine zBD 5 1 (Nat.le_of_ble_eq_true rfl) (Nat.le_of_ble_eq_true rfl) ?_
   exact J_q (J_b (ih (v109,w64 (s56.2+1)))) rfl
  ·refine zG 32 (fun h66=>?_) (fun h66=>?_)
   ·refine zA (fun x67 h68=>?_)
    refine J_d 59802 [] [5,32] [(5,rr 5 x67)] [1,5] [(5,rE 3 zT.enc x67)] (zF 3 (zFk 133 199 3 4 zT.enc [({Kind:=1,Pack:=x58,At:=0}:zT)] [0] [(.tmp 35)] [.ag [iv 1,iv x58,iv 0]]) (zF 4 (zHR 133 133 199 199 3 24 5 1 4 zT.enc (.tmp 33) (.tmp 36) h68) zB)) ?_
    exact yN (J_j (jv69 x67)) rfl
   ·refine zBD 1 5 (Nat.le_of_ble_eq_true rfl) (Nat.le_of_ble_eq_true rfl) ?_
    exact yN (J_j (jv69 s56.1)) rfl
 ·exact yN (hk s56.1) rfl
theorem zEH.ok (a1:(List Pack)) (a2:(List Int)):Ok Tryz.prog 177 [sl 8 (Pack.enc false) a1,sl 1 zU a2] [] ((zEH a1 a2).map fun r=>(so 3 zT.enc r,[])):=by
 refine zH zMc Tryz.f177 0 77 (fun q=>?_)
 unfold zEH
 refine J_g 2 [(0,0)] [(1,sl 1 zU a2),(2,pp 0)] [(0,.box [sl 8 (Pack.enc false) a1])] zB ?_
 refine J_g 6 [] [(1,sl 1 zU a2),(2,pp 0),(5,rr 1 ([]:List zT))] [(0,.box [sl 8 (Pack.enc false) a1]),(1,rE 3 zT.enc ([]:List zT))] (zF 0 (zFk 133 199 3 1 zT.enc ([]:List zT) [] [] []) zB) ?_
 refine J_d 28 [] [14,15,16] [(14,sl 1 zU a2),(15,iv (a2.length:Int)),(16,iv 0)] [] [] zB ?_
 refine zFJ (zEn.ok a1 a2 q _ (fun v110=>J_j ?_) (([]:List zT),0))
 refine J_g 30 [] [(4,rr 1 v110)] [(1,rE 3 zT.enc v110)] zB ?_
 exact zBq (ds:=[rr 1 v110]) (ds':=[so 3 zT.enc v110]) (.cons (.cell (.move (.head _) (List.length_map _) (by decide) (.nil))) (.nil) (by decide)) rfl
noncomputable def zUo:Code:=(Tryz.f102.body).getD .skip
theorem jH.ok (a1:(List Pack)) (a2:(List Int)):Ok Tryz.prog 102 [sl 8 (Pack.enc false) a1,sl 1 zU a2] [] ((jH a1 a2).map fun r=>(bv r,[])):=by
 refine zH zUo Tryz.f102 0 10 (fun q=>?_)
 unfold jH
 refine J_d 2 [] [] [] [] [] zB ?_
 refine zA (fun x3 h4=>?_)
 refine J_g 6 [] [(4,bv ((x3.length:Int)==0))] [] (zF 2 (vQ («as»:=[sl 8 (Pack.enc false) a1,sl 1 zU a2]) [(.tmp 5),(.tmp 6)] [30,39] false [] [] (.cons (.same rfl) (.cons (.same rfl) (.nil))) (zEH.ok a1 a2) h4 (.own 0)) zB) ?_
 exact zM rfl
noncomputable def zTV:Code:=(Tryz.f132.body).getD .skip
theorem tK.ok (a1:(List Int)):Ok Tryz.prog 132 [sl 1 zU a1] [] ((tK a1).map fun r=>(so 1 zU r,[])):=by
 refine zH zTV Tryz.f132 0 8 (fun q=>?_)
 unfold tK
 refine J_g 2 [] [(0,sl 1 zU a1)] [] zB ?_
 refine J_d 12 [] [4] [(4,.nb a1.length)] [] [] (zF 1 (zKs (xs:=a1) 39 2 39 1 zU (.tmp 3)) zB) ?_
 refine zSM 4 rfl (fun h2=>?_) ?_
 ·obtain rfl:a1=[]:=List.eq_nil_of_length_eq_zero h2
  refine zN1 (e':=some ([]:List Int)) (by kernel_rfl) ?_
  refine J_g 52 [] [(2,nv)] [] zB ?_
  exact zBq (ds:=[nv]) (ds':=[so 1 zU ([]:List Int)]) (.cons (.cell (.nilsl true 1 (.nil))) (.nil) (by decide)) rfl
 ·refine zA (fun x3 h4=>?_)
  refine J_g 14 [] [(2,rr 1 x3)] [(1,rE 1 zU x3)] (zF 0 (zFk 39 2 1 0 zU ([]:List Int) [] [] []) (zF 2 (zKQ 39 39 2 2 1 8 1 0 zU (.tmp 5) (.tmp 6) h4) zB)) ?_
  exact zBq (ds:=[rr 1 x3]) (ds':=[so 1 zU x3]) (.cons (.cell (.move (.head _) (List.length_map _) (by decide) (.nil))) (.nil) (by decide)) rfl
noncomputable def zTM:Code:=(Tryz.f252.body).getD .skip
theorem wI.ok (a1:Version):Ok Tryz.prog 252 [.ag (Version.enc a1)] [] ((wI a1).map fun r=>(sv r,[])):=by
 refine zH zTM Tryz.f252 0 16 (fun q=>?_)
 unfold wI
 refine J_g 2 [(0,0)] [(1,pp 0)] [(0,.box (Version.enc a1))] zB ?_
 refine zA (fun x2 h3=>?_)
 refine zA (fun x4 h5=>?_)
 refine zA (fun x6 h7=>?_)
 refine zA (fun x8 h9=>?_)
 refine zA (fun x10 h11=>?_)
 refine zA (fun x12 h13=>?_)
 refine zA (fun x14 h15=>?_)
 refine J_g 6 [] [(2,sv x14)] [] (zF 2 (xC [(.tmp 4)] [2] (zCM.ok a1.A) h3) (zF 3 (zEf 9 9 (.tmp 5) (.const (.string (bs [46]))) h5) (zF 6 (xC [(.tmp 8)] [2] (zCM.ok a1.B) h7) (zF 7 (zEf 9 9 (.tmp 6) (.tmp 9) h9) (zF 8 (zEf 9 9 (.tmp 10) (.const (.string (bs [46]))) h11) (zF 11 (xC [(.tmp 13)] [2] (zCM.ok a1.C) h13) (zF 12 (zEf 9 9 (.tmp 11) (.tmp 14) h15) zB))))))) ?_
 exact zM rfl
noncomputable def zUl:Code:=(Tryz.f180.body).getD .skip
theorem zB5.ok (a1:Pack):Ok Tryz.prog 180 [.ag (Pack.enc false a1)] [] ((zB5 a1).map fun r=>(sv r,[])):=by
 refine zH zUl Tryz.f180 0 11 (fun q=>?_)
 unfold zB5
 refine J_g 2 [(0,0)] [(1,pp 0)] [(0,.box (Pack.enc false a1))] zB ?_
 refine zA (fun x2 h3=>?_)
 refine zA (fun x4 h5=>?_)
 refine zA (fun x6 h7=>?_)
 refine zA (fun x8 h9=>?_)
 refine J_g 6 [] [(2,sv x8)] [] (zF 2 (zEf 9 9 (.const (.string (bs [112,107,103,47]))) (.tmp 4) h3) (zF 3 (zEf 9 9 (.tmp 5) (.const (.string (bs [45]))) h5) (zF 6 (xC [(.tmp 8)] [99] (wI.ok a1.Version) h7) (zF 7 (zEf 9 9 (.tmp 6) (.tmp 9) h9) zB)))) ?_
 exact zM rfl
noncomputable def c182:Code:=(Tryz.f182.body).getD .skip
theorem zBc.ok (a1:Pack) (q:Wd) (kn:(List Int)→Option (D×List Ent)) (hk:∀v:(List Int),J (q.g Tryz.prog 182 0 47) c182 (atI c182 63) (St.mk' [(5,rr 1 v)] [(1,rE 1 eU8 v)]) (some v) kn):
  ∀s13:(Int×(List Int)×Int),J (q.g Tryz.prog 182 0 47) c182 (atI c182 500) (St.mk' [(3,uv s13.1),(5,rr 1 s13.2.1),(35,iv a1.Size),(36,iv s13.2.2)] [(1,rE 1 eU8 s13.2.1)]) (zBc a1 s13) kn:=by
 refine tQ (fun g ih s13=>?_)
 unfold zAB
 refine J_d 1000 [] [37] [(37,bv (decide (s13.2.2<a1.Size)))] [] [] zB ?_
 refine zG 37 (fun h14=>?_) (fun h14=>?_)
 ·refine zA (fun x15 h16=>?_)
  refine J_g 16024 [] [(3,uv s13.1),(5,rr 3 x15),(35,iv a1.Size),(36,iv s13.2.2)] [(3,rE 1 eU8 x15)] (zF 2 (zFk 121 5 1 2 eU8 [s13.1] [0] [(.tmp 39)] [uv s13.1]) (zF 3 (zHR 121 121 5 5 1 1 3 1 2 eU8 (.tmp 38) (.tmp 40) h16) zB)) ?_
  refine J_g 16025 [] [(3,uv (IntKind.u8.wrap ((IntKind.u8.wrap (31*s13.1))+7))),(5,rr 3 x15),(35,iv a1.Size),(36,iv s13.2.2)] [(3,rE 1 eU8 x15)] zB ?_
  refine J_d 4007 [] [36] [(36,iv (w64 (s13.2.2+1)))] [] [] zB ?_
  refine zBD 3 1 (Nat.le_of_ble_eq_true rfl) (Nat.le_of_ble_eq_true rfl) ?_
  exact J_q (J_b (ih (IntKind.u8.wrap ((IntKind.u8.wrap (31*s13.1))+7),x15,w64 (s13.2.2+1)))) rfl
 ·exact yN (hk s13.2.1) rfl
theorem zAQ.ok (a1:Pack) (q:Wd) (kn:Int→Option (D×List Ent)) (hk:∀v:Int,J (q.g Tryz.prog 182 0 47) c182 (atI c182 15) (St.mk' [(1,pp 0),(3,uv v)] [(0,.box (Pack.enc false a1))]) (some v) kn):
  ∀s5:(Int×Int),J (q.g Tryz.prog 182 0 47) c182 (atI c182 116) (St.mk' [(1,pp 0),(3,uv s5.1),(22,iv (a1.Name.size:Int)),(23,iv s5.2)] [(0,.box (Pack.enc false a1))]) (zAQ a1 s5) kn:=by
 refine tQ (fun g ih s5=>?_)
 unfold zA5
 refine J_d 232 [] [24] [(24,bv (decide (s5.2< (a1.Name.size:Int))))] [] [] zB ?_
 refine zG 24 (fun h6=>?_) (fun h6=>?_)
 ·refine J_d 3736 [] [4,24] [(4,iv s5.2)] [] [] zB ?_
  refine zA (fun x7 h8=>?_)
  refine J_g 3737 [] [(1,pp 0),(3,uv (IntKind.u8.wrap (s5.1+x7))),(22,iv (a1.Name.size:Int)),(23,iv s5.2)] [(0,.box (Pack.enc false a1))] (zF 4 (zJL (kk:=.i64) 9 (.tmp 28) (.tmp 29) h8) zB) ?_
  refine J_d 935 [] [23] [(23,iv (w64 (s5.2+1)))] [] [] zB ?_
  exact J_q (J_b (ih (IntKind.u8.wrap (s5.1+x7),w64 (s5.2+1)))) rfl
 ·exact yN (hk s5.1) rfl
theorem zAw.ok (a1:Pack):Ok Tryz.prog 182 [.ag (Pack.enc false a1)] [] ((zAw a1).map fun r=>(so 1 eU8 r,[])):=by
 refine zH c182 Tryz.f182 0 47 (fun q=>?_)
 unfold zAw
 refine J_g 2 [(0,0)] [(1,pp 0)] [(0,.box (Pack.enc false a1))] zB ?_
 refine J_g 6 [] [(1,pp 0),(3,uv (IntKind.u8.wrap ((IntKind.u8.wrap ((IntKind.u8.wrap (a1.Version.A))+(IntKind.u8.wrap (a1.Version.B))))+(IntKind.u8.wrap (a1.Version.C)))))] [(0,.box (Pack.enc false a1))] zB ?_
 refine J_d 28 [] [22,23] [(22,iv (a1.Name.size:Int)),(23,iv 0)] [] [] zB ?_
 refine zFJ (zAQ.ok a1 q _ (fun v9=>J_j ?_) (IntKind.u8.wrap ((IntKind.u8.wrap ((IntKind.u8.wrap (a1.Version.A))+(IntKind.u8.wrap (a1.Version.B))))+(IntKind.u8.wrap (a1.Version.C))),0))
 refine J_g 30 [] [(1,pp 0),(3,uv v9),(5,rr 1 ([]:List Int))] [(0,.box (Pack.enc false a1)),(1,rE 1 eU8 ([]:List Int))] (zF 0 (zFk 121 5 1 1 eU8 ([]:List Int) [] [] []) zB) ?_
 refine J_d 124 [] [1,35,36] [(35,iv a1.Size),(36,iv 0)] [0] [] zB ?_
 refine zFJ (zBc.ok a1 q _ (fun v17=>J_j ?_) (v9,([]:List Int),0))
 refine J_g 126 [] [(2,rr 1 v17)] [(1,rE 1 eU8 v17)] zB ?_
 exact zBq (ds:=[rr 1 v17]) (ds':=[so 1 eU8 v17]) (.cons (.cell (.move (.head _) (List.length_map _) (by decide) (.nil))) (.nil) (by decide)) rfl
noncomputable def zS2:Code:=(Tryz.f181.body).getD .skip
theorem jL.ok (a1:(List Int)) (a2:(List Int)) (q:Wd) (kn:Unit→Option (D×List Ent)) (hk:∀v:Unit,J (q.g Tryz.prog 181 0 26) zS2 (atI zS2 15) (St.mk' [] []) (some v) kn):
  ∀s10:Int,J (q.g Tryz.prog 181 0 26) zS2 (atI zS2 116) (St.mk' [(0,sl 1 eU8 a1),(1,sl 1 eU8 a2),(12,iv (a1.length:Int)),(13,iv s10)] []) (jL a1 a2 s10) (Fl.go (fun r:Bool=>some (bv r,[])) kn):=by
 refine tQ (fun g ih s10=>?_)
 unfold tC
 refine J_d 232 [] [14] [(14,bv (decide (s10< (a1.length:Int))))] [] [] zB ?_
 refine zG 14 (fun h11=>?_) (fun h11=>?_)
 ·refine J_d 3736 [] [5,14] [(5,iv s10)] [] [] zB ?_
  refine zA (fun x12 h13=>?_)
  refine zA (fun x14 h15=>?_)
  refine J_d 7474 [] [5,24] [(24,bv (x12 !=x14))] [] [] (zF 2 (vI (kk:=.i64) 121 5 1 eU8 (.tmp 16) (.tmp 17) h13) (zF 6 (vI (kk:=.i64) 121 5 1 eU8 (.tmp 20) (.tmp 21) h15) zB)) ?_
  refine zG 24 (fun h16=>?_) (fun h16=>?_)
  ·refine J_g 29900 [] [(4,bv false)] [] zB ?_
   exact zM rfl
  ·refine J_d 935 [] [13,24] [(13,iv (w64 (s10+1)))] [] [] zB ?_
   exact J_q (J_b (ih (w64 (s10+1)))) rfl
 ·exact yN (hk ()) rfl
theorem uO.ok (a1:(List Int)) (a2:(List Int)):Ok Tryz.prog 181 [sl 1 eU8 a1,sl 1 eU8 a2] [] ((uO a1 a2).map fun r=>(bv r,[])):=by
 refine zH zS2 Tryz.f181 0 26 (fun q=>?_)
 unfold uO
 refine J_g 2 [] [(0,sl 1 eU8 a1),(1,sl 1 eU8 a2)] [] zB ?_
 refine J_d 12 [] [10] [(10,bv ((a1.length:Int) !=(a2.length:Int)))] [] [] zB ?_
 refine zG 10 (fun h3=>?_) (fun h3=>?_)
 ·refine J_g 52 [] [(4,bv false)] [] zB ?_
  exact zM rfl
 ·refine J_d 28 [] [10,12,13] [(12,iv (a1.length:Int)),(13,iv 0)] [] [] zB ?_
  refine vZ (K0:=(fun r:Bool=>some (bv r,[]))) (fun _=>rfl) (jL.ok a1 a2 q _ (fun v17=>J_j ?_) 0)
  refine J_g 30 [] [(4,bv true)] [] zB ?_
  exact zM rfl
noncomputable def zT9:Code:=(Tryz.f179.body).getD .skip
theorem zBv.ok (a1:Int) (a2:zD) (a3:(List Pack)):Ok Tryz.prog 179 [iv a1,pp 0,pp 1] [.box (zD.enc false a2),.box [sl 8 (Pack.enc false) a3]] ((zBv a1 a2 a3).map fun r=>(bv r,[.box (zD.enc false a2),.box [sl 8 (Pack.enc false) a3]])):=by
 refine zH zT9 Tryz.f179 2 29 (fun q=>?_)
 unfold zBv
 refine J_d 2 [] [] [] [] [] zB ?_
 refine zA (fun x4 h5=>?_)
 refine zA (fun x6 h7=>?_)
 refine zA (fun x8 h9=>?_)
 refine J_d 6 [] [1,5,6] [(5,sl 1 eU8 x8.1),(6,bv x8.2)] [] [] (zF 3 (vI (kk:=.i64) 30 102 8 (Pack.enc false) (.tmp 9) (.tmp 10) h5) (zF 5 (xC [(.tmp 12)] [102] (zB5.ok x4) h7) (zF 6 (xC [(.tmp 8),(.tmp 13)] [33,9] (xY.ok a2 x6) h9) zB))) ?_
 refine wT (fun h10=>?_) (fun h10=>?_)
 ·refine J_d 14 [] [0,2,4,5,6] [(4,bv true)] [] [] (wE 2 [(18,bv (!x8.2))] [] h10 zB) ?_
  exact zM rfl
 ·refine zA (fun x11 h12=>?_)
  refine zA (fun x13 h14=>?_)
  refine zA (fun x15 h16=>?_)
  refine J_d 14 [] [0,2,4,5,6] [(4,bv (!x15))] [] [] (wE 2 [(18,bv (!x8.2))] [] h10 (zBr 6 2 19 false (vI (kk:=.i64) 30 102 8 (Pack.enc false) (.tmp 21) (.tmp 22) h12) (zBr 8 2 19 false (vQ («as»:=[.ag (Pack.enc false x11)]) [(.tmp 24)] [102] false [] [] (.cons (.same rfl) (.nil)) (zAw.ok x11) h14 (.own 2)) (zBr 9 2 19 false (vQ («as»:=[sl 1 eU8 x8.1,rr 2 x13]) [(.tmp 20),(.tmp 25)] [121,121] true [(2,rE 1 eU8 x13)] [] (.cons (.same rfl) (.cons (zFE (.head _) (fun _=>rfl) rfl) (.nil))) (uO.ok x8.1 x13) h16 (.same rfl rfl) (hbor:=fun _=>⟨fhN,zQ⟩)) zB)))) ?_
  exact zM rfl
noncomputable def zUb:Code:=(Tryz.f251.body).getD .skip
theorem xG.ok (a1:Int) (a2:zD) (a3:(List Pack)):Ok Tryz.prog 251 [iv a1,.pb [.fn 179 [pp 0,pp 1]]] [.box (zD.enc false a2),.box [sl 8 (Pack.enc false) a3]] ((xG a1 a2 a3).map fun r=>(bv r,[.box (zD.enc false a2),.box [sl 8 (Pack.enc false) a3]])):=by
 refine zH zUb Tryz.f251 2 8 (fun q=>?_)
 unfold xG
 refine J_d 2 [] [] [] [] [] zB ?_
 refine zA (fun x4 h5=>?_)
 refine J_d 6 [] [0,1,3] [(3,bv (!x4))] [] [] (zF 0 (zFB (d:=.fn 179 [pp 0,pp 1]) 174 (.tmp 1) [.fn 179 [pp 0,pp 1]]) (zF 2 (zKg [(0,.box (zD.enc false a2)),(1,.box [sl 8 (Pack.enc false) a3])] [] (zKM 4 [(.tmp 5)] [2] false [(0,.box (zD.enc false a2)),(1,.box [sl 8 (Pack.enc false) a3])] [0,1] [iv a1] [pp 0,pp 1] (.cons (.same rfl) (.cons (.pt rfl) (.cons (.pt rfl) (.nil)))) (zBv.ok a1 a2 a3) h5 (.same rfl rfl))) zB)) ?_
 exact zM rfl
theorem yS.ok (a1:(List Int)) (a2:zD) (a3:(List Pack)) (q:Wd) (kn:Unit→Option (D×List Ent)) (hk:∀v:Unit,J (q.g Tryz.prog 203 3 19) c203 (atI c203 7) (St.mk' [] [(0,rE 1 zU a1),(1,.box (zD.enc false a2)),(2,.box [sl 8 (Pack.enc false) a3])]) (some v) kn):
  ∀s10:Int,J (q.g Tryz.prog 203 3 19) c203 (atI c203 52) (St.mk' [(0,rr 0 a1),(1,.fn 251 [.pb [.fn 179 [pp 1,pp 2]]]),(7,iv (a1.length:Int)),(8,iv s10)] [(0,rE 1 zU a1),(1,.box (zD.enc false a2)),(2,.box [sl 8 (Pack.enc false) a3])]) (yS a1 a2 a3 s10) (Fl.go (fun r:Int=>some (iv r,[rE 1 zU a1,.box (zD.enc false a2),.box [sl 8 (Pack.enc false) a3]])) kn):=by
 refine tQ (fun g ih s10=>?_)
 unfold zX
 refine J_d 104 [] [9] [(9,bv (decide (s10< (a1.length:Int))))] [] [] zB ?_
 refine zG 9 (fun h11=>?_) (fun h11=>?_)
 ·refine J_d 1688 [] [5,9] [(5,iv s10)] [] [] zB ?_
  refine zA (fun x12 h13=>?_)
  refine zA (fun x14 h15=>?_)
  refine J_d 3378 [] [16] [(16,bv x14)] [] [] (zF 3 (zAv (kk:=.i64) 39 2 1 0 zU (.tmp 12) (.tmp 13) h13) (zF 4 (zFq (d:=iv x12) 2 1 0 0 zU (.tmp 14) h13 (by kernel_rfl)) (zF 5 (zKg [(1,.box (zD.enc false a2)),(2,.box [sl 8 (Pack.enc false) a3])] [] (zKM 11 [(.tmp 15)] [2] false [(1,.box (zD.enc false a2)),(2,.box [sl 8 (Pack.enc false) a3])] [1,2] [iv x12] [.pb [.fn 179 [pp 1,pp 2]]] (.cons (.same rfl) (.cons (.pb (.cons (.fn (.cons (.pt rfl) (.cons (.pt rfl) (.nil)))) (.nil))) (.nil))) (xG.ok x12 a2 a3) h15 (.same rfl rfl))) zB))) ?_
  refine zG 16 (fun h16=>?_) (fun h16=>?_)
  ·refine J_d 13516 [] [0,1,4,5,7,8,16] [(4,iv s10)] [] [] zB ?_
   exact zM rfl
  ·refine J_d 423 [] [5,8,16] [(8,iv (w64 (s10+1)))] [] [] zB ?_
   exact J_q (J_b (ih (w64 (s10+1)))) rfl
 ·exact yN (hk ()) rfl
theorem yE.ok (a1:(List Int)) (a2:zD) (a3:(List Pack)):Ok Tryz.prog 203 [rr 0 a1,.fn 251 [.pb [.fn 179 [pp 1,pp 2]]]] [rE 1 zU a1,.box (zD.enc false a2),.box [sl 8 (Pack.enc false) a3]] ((yE a1 a2 a3).map fun r=>(iv r,[rE 1 zU a1,.box (zD.enc false a2),.box [sl 8 (Pack.enc false) a3]])):=by
 refine zH c203 Tryz.f203 3 19 (fun q=>?_)
 unfold yE
 refine J_g 2 [] [(0,rr 0 a1),(1,.fn 251 [.pb [.fn 179 [pp 1,pp 2]]])] [(0,rE 1 zU a1),(1,.box (zD.enc false a2)),(2,.box [sl 8 (Pack.enc false) a3])] zB ?_
 refine J_d 12 [] [7,8] [(7,iv (a1.length:Int)),(8,iv 0)] [] [] zB ?_
 refine vZ (K0:=(fun r:Int=>some (iv r,[rE 1 zU a1,.box (zD.enc false a2),.box [sl 8 (Pack.enc false) a3]]))) (fun _=>rfl) (yS.ok a1 a2 a3 q _ (fun v17=>J_j ?_) 0)
 refine J_d 14 [] [4] [(4,iv (-1))] [] [] zB ?_
 exact zM rfl
noncomputable def zR8:Code:=(Tryz.f250.body).getD .skip
theorem yP.ok (a2:zD) (a3:(List Pack)) (q:Wd) (kn:((List Int)×Int)→Option (D×List Ent)) (hk:∀v:((List Int)×Int),J (q.g Tryz.prog 250 3 42) zR8 (atI zR8 31) (St.mk' [(0,rr 2 v.1),(5,iv v.2)] [(0,.box (zD.enc false a2)),(1,.box [sl 8 (Pack.enc false) a3]),(2,rE 1 zU v.1)]) (some v) kn):
  ∀s16:((List Int)×Int×Int),J (q.g Tryz.prog 250 3 42) zR8 (atI zR8 244) (St.mk' [(0,rr 2 s16.1),(1,.fn 251 [.pb [.fn 179 [pp 0,pp 1]]]),(5,iv s16.2.1),(6,iv s16.2.2)] [(0,.box (zD.enc false a2)),(1,.box [sl 8 (Pack.enc false) a3]),(2,rE 1 zU s16.1)]) (yP a2 a3 s16) kn:=by
 refine tQ (fun g ih s16=>?_)
 unfold zW
 refine J_d 976 [] [19] [(19,bv (decide (s16.2.2< (s16.1.length:Int))))] [] [] zB ?_
 refine zG 19 (fun h17=>?_) (fun h17=>?_)
 ·refine zA (fun x18 h19=>?_)
  refine J_d 3912 [] [7,19] [(7,iv x18)] [] [] (zF 2 (zAv (kk:=.i64) 39 2 1 2 zU (.tmp 22) (.tmp 23) h19) (zF 3 (zFq (d:=iv x18) 2 1 2 0 zU (.tmp 24) h19 (by kernel_rfl)) zB)) ?_
  refine zA (fun x20 h21=>?_)
  refine J_d 7826 [] [29] [(29,bv (!x20))] [] [] (zF 2 (zKg [(0,.box (zD.enc false a2)),(1,.box [sl 8 (Pack.enc false) a3])] [] (zKM 26 [(.tmp 27)] [2] false [(0,.box (zD.enc false a2)),(1,.box [sl 8 (Pack.enc false) a3])] [0,1] [iv x18] [.pb [.fn 179 [pp 0,pp 1]]] (.cons (.same rfl) (.cons (.pb (.cons (.fn (.cons (.pt rfl) (.cons (.pt rfl) (.nil)))) (.nil))) (.nil))) (xG.ok x18 a2 a3) h21 (.same rfl rfl))) zB) ?_
  refine wH (aft zR8 1956) (fun v25:((List Int)×Int)=>St.mk' [(0,rr 2 v25.1),(1,.fn 251 [.pb [.fn 179 [pp 0,pp 1]]]),(5,iv v25.2),(6,iv s16.2.2)] [(0,.box (zD.enc false a2)),(1,.box [sl 8 (Pack.enc false) a3]),(2,rE 1 zU v25.1)]) (fun v25=>?_) (fun jv25=>?_)
  ·refine J_d 979 [] [6] [(6,iv (w64 (s16.2.2+1)))] [] [] zB ?_
   exact J_q (J_b (ih (v25.1,v25.2,w64 (s16.2.2+1)))) rfl
  ·refine zG 29 (fun h22=>?_) (fun h22=>?_)
   ·refine zA (fun x23 h24=>?_)
    refine J_g 31308 [] [(0,rr 2 s16.1),(1,.fn 251 [.pb [.fn 179 [pp 0,pp 1]]]),(5,iv s16.2.1),(6,iv s16.2.2)] [(0,.box (zD.enc false a2)),(1,.box [sl 8 (Pack.enc false) a3]),(2,rE 1 zU (s16.1.set s16.2.1.toNat x18))] (zF 3 (zAv (kk:=.i64) 39 2 1 2 zU (.tmp 30) (.tmp 31) h24) (zHK 4 (zJn (b:=x18) 2 1 2 0 zU (iv x18) (.tmp 33) (.tmp 32) h24 rfl) zB)) ?_
    refine zGK (σ':=St.mk' [(0,rr 2 (s16.1.set s16.2.1.toNat x18)),(1,.fn 251 [.pb [.fn 179 [pp 0,pp 1]]]),(5,iv s16.2.1),(6,iv s16.2.2)] [(0,.box (zD.enc false a2)),(1,.box [sl 8 (Pack.enc false) a3]),(2,rE 1 zU (s16.1.set s16.2.1.toNat x18))]) (by simp only [rr,List.length_set]) ?_
    refine J_d 31309 [] [5] [(5,iv (w64 (s16.2.1+1)))] [] [] zB ?_
    exact yN (J_j (jv25 (s16.1.set s16.2.1.toNat x18,w64 (s16.2.1+1)))) rfl
   ·exact yN (J_j (jv25 (s16.1,s16.2.1))) rfl
 ·exact yN (hk (s16.1,s16.2.1)) rfl
theorem zS.ok (a1:(List Int)) (a2:zD) (a3:(List Pack)):Ok Tryz.prog 250 [rr 2 a1,.fn 251 [.pb [.fn 179 [pp 0,pp 1]]]] [.box (zD.enc false a2),.box [sl 8 (Pack.enc false) a3],rE 1 zU a1] ((zS a1 a2 a3).map fun r=>(so 1 zU r,[.box (zD.enc false a2),.box [sl 8 (Pack.enc false) a3]])):=by
 refine zH zR8 Tryz.f250 3 42 (fun q=>?_)
 unfold zS
 refine J_d 2 [] [] [] [] [] zB ?_
 refine zA (fun x4 h5=>?_)
 refine J_g 6 [] [(0,rr 2 a1),(1,.fn 251 [.pb [.fn 179 [pp 0,pp 1]]]),(5,iv x4)] [(0,.box (zD.enc false a2)),(1,.box [sl 8 (Pack.enc false) a3]),(2,rE 1 zU a1)] (zF 2 (zKg [(2,rE 1 zU a1),(0,.box (zD.enc false a2)),(1,.box [sl 8 (Pack.enc false) a3])] [] (vQ («as»:=[rr 2 a1,.fn 251 [.pb [.fn 179 [pp 0,pp 1]]]]) [(.tmp 8),(.tmp 9)] [39,174] false [(2,rE 1 zU a1),(0,.box (zD.enc false a2)),(1,.box [sl 8 (Pack.enc false) a3])] [2,0,1] (.cons (.rf rfl) (.cons (.fn (.cons (.pb (.cons (.fn (.cons (.pt rfl) (.cons (.pt rfl) (.nil)))) (.nil))) (.nil))) (.nil))) (yE.ok a1 a2 a3) h5 (.same rfl rfl))) zB) ?_
 refine J_d 28 [] [12] [(12,bv (x4==(-1)))] [] [] zB ?_
 refine zG 12 (fun h6=>?_) (fun h6=>?_)
 ·refine J_g 116 [] [(4,rr 2 a1)] [(0,.box (zD.enc false a2)),(1,.box [sl 8 (Pack.enc false) a3]),(2,rE 1 zU a1)] zB ?_
  exact zBq (ds:=[rr 2 a1]) (ds':=[so 1 zU a1]) (.cons (.cell (.move (.tail _ (.tail _ (.head _))) (List.length_map _) (by decide) (.nil))) (.nil) (by decide)) rfl
 ·refine J_d 60 [] [6,12] [(6,iv (w64 (x4+1)))] [] [] zB ?_
  refine zFJ (yP.ok a2 a3 q _ (fun v26=>J_j ?_) (a1,x4,w64 (x4+1)))
  refine zA (fun x27 h28=>?_)
  refine zA (fun x29 h30=>?_)
  refine J_g 62 [] [(0,rr 2 v26.1),(5,iv v26.2)] [(0,.box (zD.enc false a2)),(1,.box [sl 8 (Pack.enc false) a3]),(2,rE 1 zU x29)] (zF 2 (zSx 39 2 1 2 zU (.tmp 36) (some (.tmp 37)) none h28) (zHK 3 (zSk (l:=v26.2) (a:=0) 39 2 1 2 zU (.tmp 38) h30 (.keep rfl (.nil))) zB)) ?_
  refine zGK (σ':=St.mk' [(0,rr 2 x29),(5,iv v26.2)] [(0,.box (zD.enc false a2)),(1,.box [sl 8 (Pack.enc false) a3]),(2,rE 1 zU x29)]) (by simp only [rr,zNv h30]) ?_
  refine zA (fun x31 h32=>?_)
  refine J_g 126 [] [(4,rr 3 x31)] [(0,.box (zD.enc false a2)),(1,.box [sl 8 (Pack.enc false) a3]),(3,rE 1 zU x31)] (zF 2 (zQo 39 2 1 2 3 zU (.tmp 39) none (some (.tmp 40)) h32) zB) ?_
  exact zBq (ds:=[rr 3 x31]) (ds':=[so 1 zU x31]) (.cons (.cell (.move (.tail _ (.tail _ (.head _))) (List.length_map _) (by decide) (.nil))) (.nil) (by decide)) rfl
noncomputable def zU3:Code:=(Tryz.f178.body).getD .skip
theorem vE.ok (a1:(List Int)) (a2:zD) (a3:(List Pack)):Ok Tryz.prog 178 [sl 1 zU a1,.fn 179 [pp 0,pp 1]] [.box (zD.enc false a2),.box [sl 8 (Pack.enc false) a3]] ((vE a1 a2 a3).map fun r=>(so 1 zU r,[.box (zD.enc false a2),.box [sl 8 (Pack.enc false) a3]])):=by
 refine zH zU3 Tryz.f178 2 9 (fun q=>?_)
 unfold vE
 refine J_d 2 [] [1,3] [(3,.pb [.fn 179 [pp 0,pp 1]])] [] [] (zF 0 (zPg 174 (.tmp 1) (.fn 179 [pp 0,pp 1])) zB) ?_
 refine zA (fun x4 h5=>?_)
 refine zA (fun x6 h7=>?_)
 refine J_g 6 [] [(4,rr 3 x6)] [(0,.box (zD.enc false a2)),(1,.box [sl 8 (Pack.enc false) a3]),(3,rE 1 zU x6)] (zF 1 (vQ («as»:=[sl 1 zU a1]) [(.tmp 5)] [39] false [] [] (.cons (.same rfl) (.nil)) (tK.ok a1) h5 (.own 2)) (zF 3 (vQ («as»:=[rr 2 x4,.fn 251 [.pb [.fn 179 [pp 0,pp 1]]]]) [(.tmp 6),(.tmp 7)] [39,174] false [(0,.box (zD.enc false a2)),(1,.box [sl 8 (Pack.enc false) a3]),(2,rE 1 zU x4)] [0,1,2] (.cons (.rf rfl) (.cons (.fn (.cons (.pb (.cons (.fn (.cons (.pt rfl) (.cons (.pt rfl) (.nil)))) (.nil))) (.nil))) (.nil))) (zS.ok x4 a2 a3) h7 (.own 3)) zB)) ?_
 exact zBq (ds:=[rr 3 x6]) (ds':=[so 1 zU x6]) (.cons (.cell (.move (.tail _ (.tail _ (.head _))) (List.length_map _) (by decide) (.nil))) (.nil) (by decide)) rfl
noncomputable def zUd:Code:=(Tryz.f103.body).getD .skip
theorem zDj.ok (a1:(List Pack)) (a2:zD) (a3:(List Int)):Ok Tryz.prog 103 [sl 8 (Pack.enc false) a1,.ag (zD.enc false a2),sl 1 zU a3] [] ((zDj a1 a2 a3).map fun r=>(so 1 zU r,[])):=by
 refine zH zUd Tryz.f103 0 10 (fun q=>?_)
 unfold zDj
 refine J_g 2 [(0,0),(1,1)] [(2,sl 1 zU a3),(3,pp 0),(4,pp 1)] [(0,.box [sl 8 (Pack.enc false) a1]),(1,.box (zD.enc false a2))] zB ?_
 refine zA (fun x4 h5=>?_)
 refine J_g 6 [] [(6,rr 2 x4)] [(2,rE 1 zU x4)] (zF 2 (zKg [(1,.box (zD.enc false a2)),(0,.box [sl 8 (Pack.enc false) a1])] [(2,rE 1 zU x4)] (vQ («as»:=[sl 1 zU a3,.fn 179 [pp 1,pp 0]]) [(.tmp 7),(.tmp 8)] [39,174] false [(1,.box (zD.enc false a2)),(0,.box [sl 8 (Pack.enc false) a1])] [1,0] (.cons (.same rfl) (.cons (.fn (.cons (.pt rfl) (.cons (.pt rfl) (.nil)))) (.nil))) (vE.ok a3 a2 a1) h5 (.own 2))) zB) ?_
 exact zBq (ds:=[rr 2 x4]) (ds':=[so 1 zU x4]) (.cons (.cell (.move (.head _) (List.length_map _) (by decide) (.nil))) (.nil) (by decide)) rfl
noncomputable def c49:Code:=(Tryz.f49.body).getD .skip
theorem zCY.ok (a1:(List Pack)) (a2:zD) (a3:(List Int)):Ok Tryz.prog 49 [sl 8 (Pack.enc false) a1,.ag (zD.enc false a2),sl 1 zU a3] [] ((zCY a1 a2 a3).map fun r=>(bv r,[])):=by
 refine zH c49 Tryz.f49 0 18 (fun q=>?_)
 unfold zCY
 refine J_d 2 [(0,0)] [1,4] [(4,pp 0)] [0] [(0,.box (zD.enc false a2))] zB ?_
 refine zA (fun x4 h5=>?_)
 refine wT (fun h6=>?_) (fun h6=>?_)
 ·refine zA (fun x7 h8=>?_)
  refine J_g 6 [] [(6,bv ((x7.length:Int)==0))] [] (zF 2 (xC [(.tmp 7),(.tmp 8)] [30,39] (jH.ok a1 a3) h5) (wE 3 [(9,bv x4)] [] h6 (zBr 7 3 10 true (vQ («as»:=[sl 8 (Pack.enc false) a1,.ag (zD.enc false a2),sl 1 zU a3]) [(.tmp 11),(.tmp 12),(.tmp 13)] [30,33,39] false [] [] (.cons (.same rfl) (.cons (.same rfl) (.cons (.same rfl) (.nil)))) (zDj.ok a1 a2 a3) h8 (.own 1)) zB))) ?_
  exact zM rfl
 ·refine J_g 6 [] [(6,bv false)] [] (zF 2 (xC [(.tmp 7),(.tmp 8)] [30,39] (jH.ok a1 a3) h5) (wE 3 [(9,bv x4)] [] h6 zB)) ?_
  exact zM rfl
noncomputable def zTY:Code:=(Tryz.f185.body).getD .skip
theorem zEO.ok (a1:ByteArray):Ok Tryz.prog 185 [sv a1] [] ((zEO a1).map fun r=>(.ag (Term.enc r),[])):=by
 refine zH zTY Tryz.f185 0 6 (fun q=>?_)
 unfold zEO
 refine J_g 2 [(0,0)] [(0,sv a1),(2,pp 0)] [(0,.box [sv ByteArray.empty,iv 0,iv 0,iv 0,iv 0,iv 0,iv 0])] zB ?_
 refine zA (fun x2 h3=>?_)
 refine J_g 6 [] [(2,pp 0)] [(0,.box [sv a1,iv 0,iv 0,iv 0,iv x2.A,iv x2.B,iv x2.C])] (zF 1 (xC [] [] (zDZ.ok) h3) zB) ?_
 exact zM rfl
noncomputable def zT6:Code:=(Tryz.f255.body).getD .skip
theorem wM.ok (a1:ByteArray) (a2:ByteArray):Ok Tryz.prog 255 [sv a1,sv a2] [] ((wM a1 a2).map fun r=>(.tu [sv r.1,bv r.2],[])):=by
 refine zH zT6 Tryz.f255 0 15 (fun q=>?_)
 unfold wM
 refine J_d 2 [] [] [] [] [] zB ?_
 refine zA (fun x3 h4=>?_)
 refine J_d 12 [] [9] [(9,bv (!x3))] [] [] (zF 2 (xC [(.tmp 6),(.tmp 7)] [9,9] (yL.ok a1 a2) h4) zB) ?_
 refine zG 9 (fun h5=>?_) (fun h5=>?_)
 ·refine J_g 52 [] [(4,sv a1),(5,bv false)] [] zB ?_
  exact zO0 rfl
 ·refine zA (fun x6 h7=>?_)
  refine J_g 14 [] [(4,sv x6),(5,bv true)] [] (zF 3 (zLK 9 (.tmp 11) (some (.tmp 13)) none h7) zB) ?_
  exact zO0 rfl
noncomputable def zTJ:Code:=(Tryz.f187.body).getD .skip
theorem strings_CutPrefix.ok (a1:ByteArray) (a2:ByteArray):Ok Tryz.prog 187 [sv a1,sv a2] [] ((strings_CutPrefix a1 a2).map fun r=>(.tu [sv r.1,bv r.2],[])):=by
 refine zH zTJ Tryz.f187 0 11 (fun q=>?_)
 unfold strings_CutPrefix
 refine J_d 2 [] [] [] [] [] zB ?_
 refine zA (fun x3 h4=>?_)
 refine J_g 6 [] [(4,sv x3.1),(5,bv x3.2)] [] (zF 2 (xC [(.tmp 6),(.tmp 7)] [9,9] (wM.ok a1 a2) h4) zB) ?_
 exact zO0 rfl
theorem strings_IndexByte.ok (a1:ByteArray) (a2:Int):Ok Tryz.prog 188 [sv a1,uv a2] [] ((strings_IndexByte a1 a2).map fun r=>(iv r,[])):=
 zRQ (vs:=[.string a1,.int .u8 a2]) (fun w=>Tryz.strings_IndexByte a1 a2 w)
noncomputable def zQz:Code:=(Tryz.f106.body).getD .skip
theorem zAb.ok (a1:ByteArray) (q:Wd) (kn:Int→Option (D×List Ent)) (hk:∀v:Int,J (q.g Tryz.prog 106 0 90) zQz (atI zQz 15) (St.mk' [(0,sv a1),(2,pp 0),(3,iv v)] [(0,.box [iv 0,sv ByteArray.empty,iv 0,iv 0,iv 0,iv 0,iv 0,iv 0])]) (some v) kn):
  ∀s9:Int,J (q.g Tryz.prog 106 0 90) zQz (atI zQz 56) (St.mk' [(0,sv a1),(2,pp 0),(3,iv s9)] [(0,.box [iv 0,sv ByteArray.empty,iv 0,iv 0,iv 0,iv 0,iv 0,iv 0])]) (zAb a1 s9) kn:=by
 refine tQ (fun g ih s9=>?_)
 unfold zCL
 refine wH (atI zQz 225) (fun v15:Bool=>St.mk' [(0,sv a1),(2,pp 0),(3,iv s9),(23,bv v15)] [(0,.box [iv 0,sv ByteArray.empty,iv 0,iv 0,iv 0,iv 0,iv 0,iv 0])]) (fun v15=>?_) (fun jv15=>?_)
 ·refine zG 23 (fun h16=>?_) (fun h16=>?_)
  ·refine J_d 226 [] [3,23] [(3,iv (w64 (s9+1)))] [] [] zB ?_
   exact J_q (J_b (ih (w64 (s9+1)))) rfl
  ·exact yN (hk s9) rfl
 ·refine wT (fun h10=>?_) (fun h10=>?_)
  ·refine zA (fun x11 h12=>?_)
   refine zA (fun x13 h14=>?_)
   refine J_d 224 [] [23] [(23,bv x13)] [] [] (wE 4 [(17,bv (decide (s9< (a1.size:Int))))] [] h10 (zBr 7 4 18 true (zJL (kk:=.i64) 9 (.tmp 19) (.tmp 20) h12) (zBr 8 4 18 true (xC [(.tmp 21)] [5] (wC.ok x11) h14) zB))) ?_
   exact yN (J_j (jv15 x13)) rfl
  ·refine J_d 224 [] [23] [(23,bv false)] [] [] (wE 4 [(17,bv (decide (s9< (a1.size:Int))))] [] h10 zB) ?_
   exact yN (J_j (jv15 false)) rfl
theorem zB3.ok (a1:ByteArray):Ok Tryz.prog 106 [sv a1] [] ((zB3 a1).map fun r=>(.ag (xL.enc r),[])):=by
 refine zH zQz Tryz.f106 0 90 (fun q=>?_)
 unfold zB3
 refine J_g 2 [(0,0)] [(0,sv a1),(2,pp 0)] [(0,.box [iv 0,sv ByteArray.empty,iv 0,iv 0,iv 0,iv 0,iv 0,iv 0])] zB ?_
 refine J_d 6 [] [3] [(3,iv 0)] [] [] zB ?_
 refine zFJ (zAb.ok a1 q _ (fun v17=>J_j ?_) 0)
 refine zA (fun x18 h19=>?_)
 refine zA (fun x20 h21=>?_)
 refine J_d 30 [(4,1)] [4] [(4,pp 1)] [1] [(1,.box (Term.enc x20))] (zF 2 (zLK 9 (.tmp 26) none (some (.tmp 27)) h19) (zF 3 (xC [(.tmp 28)] [9] (zEO.ok x18) h21) zB)) ?_
 refine zA (fun x22 h23=>?_)
 refine J_d 62 [] [0,3,5] [(5,sv x22)] [] [] (zF 2 (zLK 9 (.tmp 30) (some (.tmp 31)) none h23) zB) ?_
 refine zA (fun x24 h25=>?_)
 refine J_d 252 [] [36] [(36,bv (x24 !=0))] [] [] (zF 2 (xC [(.tmp 34)] [9] (wZ.ok x20.Name) h25) zB) ?_
 refine zG 36 (fun h26=>?_) (fun h26=>?_)
 ·refine J_g 1012 [] [(2,pp 0)] [(0,.box [iv 5,sv ByteArray.empty,iv 0,iv 0,iv 0,iv 0,iv 0,iv 0])] zB ?_
  exact zM rfl
 ·refine zA (fun x27 h28=>?_)
  refine J_g 508 [] [(2,pp 0),(4,pp 1),(5,sv x22),(6,sv x27.1),(7,bv x27.2)] [(0,.box [iv 0,sv ByteArray.empty,iv 0,iv 0,iv 0,iv 0,iv 0,iv 0]),(1,.box (Term.enc x20))] (zF 1 (xC [(.tmp 39),(.const (.string (bs [62,61])))] [9,9] (strings_CutPrefix.ok x22 (bs [62,61])) h28) zB) ?_
  refine J_d 1018 [] [7,43] [(43,bv x27.2)] [] [] zB ?_
  refine zKz (atI zQz 255) (fun v41:(Int×Int×Int×ByteArray)=>St.mk' [(2,pp 0),(4,pp 1),(5,sv v41.2.2.2)] [(0,.box [iv 0,sv ByteArray.empty,iv 0,iv 0,iv 0,iv 0,iv 0,iv 0]),(1,.box [sv x20.Name,iv v41.1,iv v41.2.1,iv v41.2.2.1,iv x20.High.A,iv x20.High.B,iv x20.High.C])]) (fun v41=>?_) (fun jv41=>?_)
  ·refine zA (fun x42 h43=>?_)
   refine J_g 1020 [] [(2,pp 0),(4,pp 1),(5,sv v41.2.2.2),(10,sv x42.1),(11,bv x42.2)] [(0,.box [iv 0,sv ByteArray.empty,iv 0,iv 0,iv 0,iv 0,iv 0,iv 0]),(1,.box [sv x20.Name,iv v41.1,iv v41.2.1,iv v41.2.2.1,iv x20.High.A,iv x20.High.B,iv x20.High.C])] (zF 1 (xC [(.tmp 65),(.const (.string (bs [60])))] [9,9] (strings_CutPrefix.ok v41.2.2.2 (bs [60])) h43) zB) ?_
   refine J_d 2042 [] [11,69] [(69,bv x42.2)] [] [] zB ?_
   refine zKz (atI zQz 511) (fun v48:(Int×Int×Int×ByteArray)=>St.mk' [(2,pp 0),(4,pp 1),(5,sv v48.2.2.2)] [(0,.box [iv 0,sv ByteArray.empty,iv 0,iv 0,iv 0,iv 0,iv 0,iv 0]),(1,.box [sv x20.Name,iv v41.1,iv v41.2.1,iv v41.2.2.1,iv v48.1,iv v48.2.1,iv v48.2.2.1])]) (fun v48=>?_) (fun jv48=>?_)
   ·refine J_d 2044 [] [5,80] [(80,bv (!(seq v48.2.2.2 (bs []))))] [] [] zB ?_
    refine zG 80 (fun h49=>?_) (fun h49=>?_)
    ·refine J_g 8180 [] [(2,pp 0)] [(0,.box [iv 5,sv ByteArray.empty,iv 0,iv 0,iv 0,iv 0,iv 0,iv 0])] zB ?_
     exact zM rfl
    ·refine zA (fun x50 h51=>?_)
     refine J_g 4092 [] [(2,pp 0),(4,pp 1),(13,iv x50)] [(0,.box [iv 0,sv ByteArray.empty,iv 0,iv 0,iv 0,iv 0,iv 0,iv 0]),(1,.box [sv x20.Name,iv v41.1,iv v41.2.1,iv v41.2.2.1,iv v48.1,iv v48.2.1,iv v48.2.2.1])] (zF 1 (xC [(.tmp 82)] [149] (vJ.ok ({Name:=x20.Name,Low:=({A:=v41.1,B:=v41.2.1,C:=v41.2.2.1}:Version),High:=({A:=v48.1,B:=v48.2.1,C:=v48.2.2.1}:Version)}:Term)) h51) zB) ?_
     refine J_d 8186 [] [85] [(85,bv (x50 !=0))] [] [] zB ?_
     refine zG 85 (fun h52=>?_) (fun h52=>?_)
     ·refine J_g 32748 [] [(2,pp 0)] [(0,.box [iv x50,sv ByteArray.empty,iv 0,iv 0,iv 0,iv 0,iv 0,iv 0])] zB ?_
      exact zM rfl
     ·refine J_g 4094 [] [(2,pp 0)] [(0,.box [iv 0,sv x20.Name,iv v41.1,iv v41.2.1,iv v41.2.2.1,iv v48.1,iv v48.2.1,iv v48.2.2.1])] zB ?_
      exact zM rfl
   ·refine zG 69 (fun h44=>?_) (fun h44=>?_)
    ·refine zA (fun x45 h46=>?_)
     refine J_g 8172 [(2,2)] [(2,pp 0),(4,pp 1),(12,pp 2)] [(0,.box [iv 0,sv ByteArray.empty,iv 0,iv 0,iv 0,iv 0,iv 0,iv 0]),(1,.box [sv x20.Name,iv v41.1,iv v41.2.1,iv v41.2.2.1,iv x20.High.A,iv x20.High.B,iv x20.High.C]),(2,.box (zN.enc x45))] (zF 1 (xC [(.tmp 70)] [9] (wU.ok x42.1) h46) zB) ?_
     refine J_d 32692 [] [74] [(74,bv (x45.Code !=0))] [] [] zB ?_
     refine zG 74 (fun h47=>?_) (fun h47=>?_)
     ·refine J_g 130772 [] [(2,pp 0)] [(0,.box [iv 5,sv ByteArray.empty,iv 0,iv 0,iv 0,iv 0,iv 0,iv 0])] zB ?_
      exact zM rfl
     ·refine J_d 16347 [] [5,12,74] [(5,sv (bs []))] [1,2] [(1,.box [sv x20.Name,iv v41.1,iv v41.2.1,iv v41.2.2.1,iv x45.Version.A,iv x45.Version.B,iv x45.Version.C])] zB ?_
      exact yN (J_j (jv48 (x45.Version.A,x45.Version.B,x45.Version.C,bs []))) rfl
    ·exact yN (J_j (jv48 (x20.High.A,x20.High.B,x20.High.C,v41.2.2.2))) rfl
  ·refine zG 43 (fun h29=>?_) (fun h29=>?_)
   ·refine zA (fun x30 h31=>?_)
    refine J_g 4076 [] [(2,pp 0),(4,pp 1),(6,sv x27.1),(8,iv x30)] [(0,.box [iv 0,sv ByteArray.empty,iv 0,iv 0,iv 0,iv 0,iv 0,iv 0]),(1,.box (Term.enc x20))] (zF 1 (xC [(.tmp 44),(.const (.int .u8 60))] [9,5] (strings_IndexByte.ok x27.1 60) h31) zB) ?_
    refine J_d 16308 [] [47] [(47,bv (decide (x30<0)))] [] [] zB ?_
    refine wH (atI zQz 8155) (fun v33:Int=>St.mk' [(2,pp 0),(4,pp 1),(6,sv x27.1),(8,iv v33)] [(0,.box [iv 0,sv ByteArray.empty,iv 0,iv 0,iv 0,iv 0,iv 0,iv 0]),(1,.box (Term.enc x20))]) (fun v33=>?_) (fun jv33=>?_)
    ·refine zA (fun x34 h35=>?_)
     refine zA (fun x36 h37=>?_)
     refine J_g 16310 [(4,2)] [(2,pp 0),(4,pp 1),(6,sv x27.1),(8,iv v33),(9,pp 2)] [(0,.box [iv 0,sv ByteArray.empty,iv 0,iv 0,iv 0,iv 0,iv 0,iv 0]),(1,.box (Term.enc x20)),(2,.box (zN.enc x36))] (zF 2 (zLK 9 (.tmp 50) none (some (.tmp 51)) h35) (zF 3 (xC [(.tmp 52)] [9] (wU.ok x34) h37) zB)) ?_
     refine J_d 65244 [] [56] [(56,bv (x36.Code !=0))] [] [] zB ?_
     refine zG 56 (fun h38=>?_) (fun h38=>?_)
     ·refine J_g 260980 [] [(2,pp 0)] [(0,.box [iv 5,sv ByteArray.empty,iv 0,iv 0,iv 0,iv 0,iv 0,iv 0])] zB ?_
      exact zM rfl
     ·refine zA (fun x39 h40=>?_)
      refine J_d 32623 [] [5,6,8,9,56] [(5,sv x39)] [1,2] [(1,.box [sv x20.Name,iv x36.Version.A,iv x36.Version.B,iv x36.Version.C,iv x20.High.A,iv x20.High.B,iv x20.High.C])] (zF 4 (zLK 9 (.tmp 60) (some (.tmp 61)) none h40) zB) ?_
      exact yN (J_j (jv41 (x36.Version.A,x36.Version.B,x36.Version.C,x39))) rfl
    ·refine zG 47 (fun h32=>?_) (fun h32=>?_)
     ·refine J_d 32618 [] [8,47] [(8,iv (x27.1.size:Int))] [] [] zB ?_
      exact yN (J_j (jv33 (x27.1.size:Int))) rfl
     ·exact yN (J_j (jv33 x30)) rfl
   ·exact yN (J_j (jv41 (x20.Low.A,x20.Low.B,x20.Low.C,x22))) rfl
noncomputable def zSS:Code:=(Tryz.f192.body).getD .skip
theorem zA1.ok (a1:Term):Ok Tryz.prog 192 [.ag (Term.enc a1)] [] ((zA1 a1).map fun r=>(sv r,[])):=by
 refine zH zSS Tryz.f192 0 30 (fun q=>?_)
 unfold zA1
 refine J_g 2 [(0,0)] [(1,pp 0)] [(0,.box (Term.enc a1))] zB ?_
 refine zA (fun x2 h3=>?_)
 refine J_d 12 [] [6] [(6,bv (x2 !=0))] [] [] (zF 1 (xC [(.tmp 4)] [149] (vJ.ok a1) h3) zB) ?_
 refine zG 6 (fun h4=>?_) (fun h4=>?_)
 ·refine J_g 52 [] [(2,sv (bs []))] [] zB ?_
  exact zM rfl
 ·refine J_g 14 [] [(1,pp 0),(3,sv a1.Name)] [(0,.box (Term.enc a1))] zB ?_
  refine J_d 60 [] [12] [(12,bv (!(a1.Low.A==0&&(a1.Low.B==0&&(a1.Low.C==0&&true)))))] [] [] (zF 3 (zLk (b:=.neq) (r:=(a1.Low.A==0&&(a1.Low.B==0&&(a1.Low.C==0&&true)))) 99 99 (.tmp 10) (.tmp 11) [.int .i64 a1.Low.A,.int .i64 a1.Low.B,.int .i64 a1.Low.C] [.int .i64 0,.int .i64 0,.int .i64 0] (.inr ⟨rfl,rfl⟩)) zB) ?_
  refine wH (atI zSS 31) (fun v12:ByteArray=>St.mk' [(1,pp 0),(3,sv v12)] [(0,.box (Term.enc a1))]) (fun v12=>?_) (fun jv12=>?_)
  ·refine zA (fun x13 h14=>?_)
   refine J_d 124 [] [22] [(22,bv (!(a1.High.A==x13.A&&(a1.High.B==x13.B&&(a1.High.C==x13.C&&true)))))] [] [] (zF 2 (xC [] [] (zDZ.ok) h14) (zF 3 (zLk (b:=.neq) (r:=(a1.High.A==x13.A&&(a1.High.B==x13.B&&(a1.High.C==x13.C&&true)))) 99 99 (.tmp 20) (.tmp 21) [.int .i64 a1.High.A,.int .i64 a1.High.B,.int .i64 a1.High.C] [.int .i64 x13.A,.int .i64 x13.B,.int .i64 x13.C] (.inr ⟨rfl,rfl⟩)) zB)) ?_
   refine wH (atI zSS 63) (fun v22:ByteArray=>St.mk' [(3,sv v22)] []) (fun v22=>?_) (fun jv22=>?_)
   ·refine J_g 126 [] [(2,sv v22)] [] zB ?_
    exact zM rfl
   ·refine zG 22 (fun h15=>?_) (fun h15=>?_)
    ·refine zA (fun x16 h17=>?_)
     refine zA (fun x18 h19=>?_)
     refine zA (fun x20 h21=>?_)
     refine J_g 250 [] [(3,sv x20)] [] (zF 3 (xC [(.tmp 25)] [99] (wI.ok a1.High) h17) (zF 4 (zEf 9 9 (.const (.string (bs [60]))) (.tmp 26) h19) (zF 5 (zEf 9 9 (.tmp 23) (.tmp 27) h21) zB))) ?_
     exact yN (J_j (jv22 x20)) rfl
    ·exact yN (J_j (jv22 v12)) rfl
  ·refine zG 12 (fun h5=>?_) (fun h5=>?_)
   ·refine zA (fun x6 h7=>?_)
    refine zA (fun x8 h9=>?_)
    refine zA (fun x10 h11=>?_)
    refine J_d 122 [] [3,12] [(3,sv x10)] [] [] (zF 3 (xC [(.tmp 15)] [99] (wI.ok a1.Low) h7) (zF 4 (zEf 9 9 (.const (.string (bs [62,61]))) (.tmp 16) h9) (zF 5 (zEf 9 9 (.tmp 13) (.tmp 17) h11) zB))) ?_
    exact yN (J_j (jv12 x10)) rfl
   ·exact yN (J_j (jv12 a1.Name)) rfl
noncomputable def c107:Code:=(Tryz.f107.body).getD .skip
theorem zBP.ok (a1:(List Term)) (q:Wd) (kn:ByteArray→Option (D×List Ent)) (hk:∀v:ByteArray,J (q.g Tryz.prog 107 0 22) c107 (atI c107 31) (St.mk' [(3,sv v)] []) (some v) kn):
  ∀s14:(ByteArray×Int),J (q.g Tryz.prog 107 0 22) c107 (atI c107 244) (St.mk' [(3,sv s14.1),(9,sl 7 Term.enc a1),(10,iv (a1.length:Int)),(11,iv s14.2)] []) (zBP a1 s14) kn:=by
 refine tQ (fun g ih s14=>?_)
 unfold zAM
 refine J_d 488 [] [12] [(12,bv (decide (s14.2< (a1.length:Int))))] [] [] zB ?_
 refine zG 12 (fun h15=>?_) (fun h15=>?_)
 ·refine zA (fun x16 h17=>?_)
  refine J_d 7832 [(2,0)] [5,12] [(5,pp 0)] [0] [(0,.box (Term.enc x16))] (zF 0 (vI (kk:=.i64) 75 149 7 Term.enc (.tmp 9) (.tmp 11) h17) zB) ?_
  refine zA (fun x18 h19=>?_)
  refine zA (fun x20 h21=>?_)
  refine zA (fun x22 h23=>?_)
  refine J_g 7833 [] [(3,sv x22),(9,sl 7 Term.enc a1),(10,iv (a1.length:Int)),(11,iv s14.2)] [] (zF 2 (xC [(.tmp 16)] [149] (zA1.ok x16) h19) (zF 3 (zEf 9 9 (.tmp 17) (.const (.string (bs [10]))) h21) (zF 4 (zEf 9 9 (.tmp 15) (.tmp 18) h23) zB))) ?_
  refine J_d 1959 [] [11] [(11,iv (w64 (s14.2+1)))] [] [] zB ?_
  exact J_q (J_b (ih (x22,w64 (s14.2+1)))) rfl
 ·exact yN (hk s14.1) rfl
theorem uH.ok (a1:(List Term)):Ok Tryz.prog 107 [sl 7 Term.enc a1] [] ((uH a1).map fun r=>(sv r,[])):=by
 refine zH c107 Tryz.f107 0 22 (fun q=>?_)
 unfold uH
 refine J_d 2 [] [] [] [] [] zB ?_
 refine zA (fun x2 h3=>?_)
 refine J_d 12 [] [8] [(8,bv (x2 !=0))] [] [] (zF 1 (xC [(.tmp 6)] [75] (wY.ok a1) h3) zB) ?_
 refine zG 8 (fun h4=>?_) (fun h4=>?_)
 ·refine J_g 52 [] [(2,sv (bs []))] [] zB ?_
  exact zM rfl
 ·refine J_g 14 [] [(0,sl 7 Term.enc a1),(3,sv (bs []))] [] zB ?_
  refine J_g 60 [] [(3,sv (bs [])),(9,sl 7 Term.enc a1),(10,iv (a1.length:Int)),(11,iv 0)] [] zB ?_
  refine zFJ (zBP.ok a1 q _ (fun v24=>J_j ?_) (bs [],0))
  refine J_g 62 [] [(2,sv v24)] [] zB ?_
  exact zM rfl
noncomputable def c194:Code:=(Tryz.f194.body).getD .skip
theorem zBM.ok (a1:Term) (a2:Term):Ok Tryz.prog 194 [.ag (Term.enc a1),pp 0] [.box (Term.enc a2)] ((zBM a1 a2).map fun r=>(bv r,[.box (Term.enc a2)])):=by
 refine zH c194 Tryz.f194 1 9 (fun q=>?_)
 unfold zBM
 refine J_g 2 [(0,1)] [(1,pp 0),(2,pp 1)] [(0,.box (Term.enc a2)),(1,.box (Term.enc a1))] zB ?_
 refine J_g 6 [] [(3,bv (seq a1.Name a2.Name))] [(0,.box (Term.enc a2))] zB ?_
 exact zM rfl
theorem yZ.ok (a1:(List Term)) (a2:Term) (q:Wd) (kn:Unit→Option (D×List Ent)) (hk:∀v:Unit,J (q.g Tryz.prog 258 1 19) zPE (atI zPE 7) (St.mk' [] [(0,.box (Term.enc a2))]) (some v) kn):
  ∀s9:Int,J (q.g Tryz.prog 258 1 19) zPE (atI zPE 52) (St.mk' [(0,sl 7 Term.enc a1),(1,.fn 194 [pp 0]),(7,iv (a1.length:Int)),(8,iv s9)] [(0,.box (Term.enc a2))]) (yZ a1 a2 s9) (Fl.go (fun r:Int=>some (iv r,[.box (Term.enc a2)])) kn):=by
 refine tQ (fun g ih s9=>?_)
 unfold yU
 refine J_d 104 [] [9] [(9,bv (decide (s9< (a1.length:Int))))] [] [] zB ?_
 refine zG 9 (fun h10=>?_) (fun h10=>?_)
 ·refine J_d 1688 [] [5,9] [(5,iv s9)] [] [] zB ?_
  refine zA (fun x11 h12=>?_)
  refine zA (fun x13 h14=>?_)
  refine J_d 3378 [] [16] [(16,bv x13)] [] [] (zF 3 (vI (kk:=.i64) 75 149 7 Term.enc (.tmp 12) (.tmp 13) h12) (zF 5 (zKg [(0,.box (Term.enc a2))] [] (zKM 11 [(.tmp 15)] [149] false [(0,.box (Term.enc a2))] [0] [.ag (Term.enc x11)] [pp 0] (.cons (.same rfl) (.cons (.pt rfl) (.nil))) (zBM.ok x11 a2) h14 (.same rfl rfl))) zB)) ?_
  refine zG 16 (fun h15=>?_) (fun h15=>?_)
  ·refine J_g 13516 [] [(4,iv s9)] [(0,.box (Term.enc a2))] zB ?_
   exact zM rfl
  ·refine J_d 423 [] [5,8,16] [(8,iv (w64 (s9+1)))] [] [] zB ?_
   exact J_q (J_b (ih (w64 (s9+1)))) rfl
 ·exact yN (hk ()) rfl
theorem yI.ok (a1:(List Term)) (a2:Term):Ok Tryz.prog 258 [sl 7 Term.enc a1,.fn 194 [pp 0]] [.box (Term.enc a2)] ((yI a1 a2).map fun r=>(iv r,[.box (Term.enc a2)])):=by
 refine zH zPE Tryz.f258 1 19 (fun q=>?_)
 unfold yI
 refine J_g 2 [] [(0,sl 7 Term.enc a1),(1,.fn 194 [pp 0])] [(0,.box (Term.enc a2))] zB ?_
 refine J_d 12 [] [7,8] [(7,iv (a1.length:Int)),(8,iv 0)] [] [] zB ?_
 refine vZ (K0:=(fun r:Int=>some (iv r,[.box (Term.enc a2)]))) (fun _=>rfl) (yZ.ok a1 a2 q _ (fun v16=>J_j ?_) 0)
 refine J_d 14 [] [4] [(4,iv (-1))] [] [] zB ?_
 exact zM rfl
theorem zV.ok (a1:(List Term)) (a2:Term):Ok Tryz.prog 193 [sl 7 Term.enc a1,.fn 194 [pp 0]] [.box (Term.enc a2)] ((zV a1 a2).map fun r=>(bv r,[.box (Term.enc a2)])):=by
 refine zH c193 Tryz.f193 1 9 (fun q=>?_)
 unfold zV
 refine J_d 2 [] [] [] [] [] zB ?_
 refine zA (fun x3 h4=>?_)
 refine J_g 6 [] [(4,bv (decide (x3≥0)))] [(0,.box (Term.enc a2))] (zF 2 (zKg [(0,.box (Term.enc a2))] [] (vQ («as»:=[sl 7 Term.enc a1,.fn 194 [pp 0]]) [(.tmp 5),(.tmp 6)] [75,221] false [(0,.box (Term.enc a2))] [0] (.cons (.same rfl) (.cons (.fn (.cons (.pt rfl) (.nil))) (.nil))) (yI.ok a1 a2) h4 (.same rfl rfl))) zB) ?_
 exact zM rfl
noncomputable def zSj:Code:=(Tryz.f108.body).getD .skip
theorem zC4.ok (a1:(List Term)) (q:Wd) (kn:Unit→Option (D×List Ent)) (hk:∀v:Unit,J (q.g Tryz.prog 108 0 18) zSj (atI zSj 7) (St.mk' [] []) (some v) kn):
  ∀s10:Int,J (q.g Tryz.prog 108 0 18) zSj (atI zSj 52) (St.mk' [(0,sl 7 Term.enc a1),(5,sl 7 Term.enc a1),(6,iv (a1.length:Int)),(7,iv s10)] []) (zC4 a1 s10) (Fl.go (fun r:Bool=>some (bv r,[])) kn):=by
 refine tQ (fun g ih s10=>?_)
 unfold zAj
 refine J_d 104 [] [8] [(8,bv (decide (s10< (a1.length:Int))))] [] [] zB ?_
 refine zG 8 (fun h11=>?_) (fun h11=>?_)
 ·refine zA (fun x12 h13=>?_)
  refine J_d 1688 [(3,0)] [3,4,8] [(3,iv s10),(4,pp 0)] [0] [(0,.box (Term.enc x12))] (zF 1 (vI (kk:=.i64) 75 149 7 Term.enc (.tmp 5) (.tmp 7) h13) zB) ?_
  refine zA (fun x14 h15=>?_)
  refine zA (fun x16 h17=>?_)
  refine J_d 3378 [] [3,4,16] [(16,bv x16)] [0] [] (zF 2 (zRE 75 149 7 Term.enc (.tmp 12) none (some (.tmp 13)) h15) (zF 4 (zKg [(0,.box (Term.enc x12))] [] (vQ («as»:=[sl 7 Term.enc x14,.fn 194 [pp 0]]) [(.tmp 14),(.tmp 15)] [75,221] false [(0,.box (Term.enc x12))] [0] (.cons (.same rfl) (.cons (.fn (.cons (.pt rfl) (.nil))) (.nil))) (zV.ok x14 x12) h17 (.same rfl rfl))) zB)) ?_
  refine zG 16 (fun h18=>?_) (fun h18=>?_)
  ·refine J_g 13516 [] [(2,bv true)] [] zB ?_
   exact zM rfl
  ·refine J_d 423 [] [7,16] [(7,iv (w64 (s10+1)))] [] [] zB ?_
   exact J_q (J_b (ih (w64 (s10+1)))) rfl
 ·exact yN (hk ()) rfl
theorem zAY.ok (a1:(List Term)):Ok Tryz.prog 108 [sl 7 Term.enc a1] [] ((zAY a1).map fun r=>(bv r,[])):=by
 refine zH zSj Tryz.f108 0 18 (fun q=>?_)
 unfold zAY
 refine J_g 2 [] [(0,sl 7 Term.enc a1)] [] zB ?_
 refine J_g 12 [] [(0,sl 7 Term.enc a1),(5,sl 7 Term.enc a1),(6,iv (a1.length:Int)),(7,iv 0)] [] zB ?_
 refine vZ (K0:=(fun r:Bool=>some (bv r,[]))) (fun _=>rfl) (zC4.ok a1 q _ (fun v19=>J_j ?_) 0)
 refine J_g 14 [] [(2,bv false)] [] zB ?_
 exact zM rfl
noncomputable def c50:Code:=(Tryz.f50.body).getD .skip
theorem jO.ok (x2:((List Int)×Bool)) (x4:(List ByteArray)) (q:Wd) (kn:(List Term)→Option (D×List Ent)) (hk:∀v:(List Term),J (q.g Tryz.prog 50 0 51) c50 (atI c50 31) (St.mk' [(6,sv (b2s x2.1)),(7,rr 0 v)] [(0,rE 7 Term.enc v)]) (some v) kn):
  ∀s14:((List Term)×Int),J (q.g Tryz.prog 50 0 51) c50 (atI c50 244) (St.mk' [(6,sv (b2s x2.1)),(7,rr 0 s14.1),(20,rr 1 x4),(21,iv (x4.length:Int)),(22,iv s14.2)] [(0,rE 7 Term.enc s14.1),(1,rE 1 eStr x4)]) (jO x2 x4 s14) (Fl.go (fun r:((List Term)×Int)=>some (.tu [so 7 Term.enc r.1,iv r.2],[])) kn):=by
 refine tQ (fun g ih s14=>?_)
 unfold zAs
 refine J_d 488 [] [23] [(23,bv (decide (s14.2< (x4.length:Int))))] [] [] zB ?_
 refine zG 23 (fun h15=>?_) (fun h15=>?_)
 ·refine zA (fun x16 h17=>?_)
  refine J_d 7832 [] [9,23] [(9,sv x16)] [] [] (zF 0 (zAv (kk:=.i64) 86 9 1 1 eStr (.tmp 20) (.tmp 22) h17) (zF 1 (zFq (d:=sv x16) 9 1 1 0 eStr (.tmp 24) h17 (by kernel_rfl)) zB)) ?_
  refine zA (fun x18 h19=>?_)
  refine J_g 15666 [(2,2)] [(6,sv (b2s x2.1)),(7,rr 0 s14.1),(10,pp 2),(20,rr 1 x4),(21,iv (x4.length:Int)),(22,iv s14.2)] [(0,rE 7 Term.enc s14.1),(1,rE 1 eStr x4),(2,.box (xL.enc x18))] (zF 1 (xC [(.tmp 26)] [9] (zB3.ok x16) h19) zB) ?_
  refine J_d 62668 [] [30] [(30,bv (x18.Code !=0))] [] [] zB ?_
  refine zG 30 (fun h20=>?_) (fun h20=>?_)
  ·refine J_g 250676 [] [(2,nv),(3,iv 5)] [] zB ?_
   exact zBq (ds:=[nv,iv 5]) (ds':=[so 7 Term.enc ([]:List Term),iv 5]) (.cons (.cell (.nilsl true 7 (.nil))) (.cons (.cell (.keep rfl (.nil))) (.nil) (by decide)) (by decide)) rfl
  ·refine zA (fun x21 h22=>?_)
   refine J_g 31335 [] [(6,sv (b2s x2.1)),(7,rr 4 x21),(20,rr 1 x4),(21,iv (x4.length:Int)),(22,iv s14.2)] [(1,rE 1 eStr x4),(4,rE 7 Term.enc x21)] (zF 3 (zFk 75 149 7 3 Term.enc [x18.Term] [0] [(.tmp 33)] [.ag (Term.enc x18.Term)]) (zF 4 (zHR 75 75 149 149 7 64 4 0 3 Term.enc (.tmp 31) (.tmp 34) h22) zB)) ?_
   refine J_d 1959 [] [22] [(22,iv (w64 (s14.2+1)))] [] [] zB ?_
   refine zBD 4 0 (Nat.le_of_ble_eq_true rfl) (Nat.le_of_ble_eq_true rfl) ?_
   exact J_q (J_b (ih (x21,w64 (s14.2+1)))) rfl
 ·exact yN (hk s14.1) rfl
theorem zAD.ok (a1:zD):Ok Tryz.prog 50 [.ag (zD.enc false a1)] [] ((zAD a1).map fun r=>(.tu [so 7 Term.enc r.1,iv r.2],[])):=by
 refine zH c50 Tryz.f50 0 51 (fun q=>?_)
 unfold zAD
 refine J_g 2 [(0,0)] [(1,pp 0)] [(0,.box (zD.enc false a1))] zB ?_
 refine zA (fun x2 h3=>?_)
 refine J_g 6 [] [(4,sl 1 eU8 x2.1)] [] (zF 1 (xC [(.tmp 12),(.const (.string (bs [114,111,111,116,115])))] [33,9] (xY.ok a1 (bs [114,111,111,116,115])) h3) zB) ?_
 refine J_g 14 [] [(6,sv (b2s x2.1)),(7,rr 0 ([]:List Term))] [(0,rE 7 Term.enc ([]:List Term))] (zF 1 (zL2 (xs:=x2.1) 121 9 5 (.tmp 16)) (zF 2 (zFk 75 149 7 0 Term.enc ([]:List Term) [] [] []) zB)) ?_
 refine zA (fun x4 h5=>?_)
 refine J_d 60 [] [20,21,22] [(20,rr 1 x4),(21,iv (x4.length:Int)),(22,iv 0)] [1] [(1,rE 1 eStr x4)] (zF 1 (vQ («as»:=[sv (b2s x2.1)]) [(.tmp 19)] [9] false [] [] (.cons (.same rfl) (.nil)) (kT.ok (b2s x2.1)) h5 (.own 1)) zB) ?_
 refine vZ (K0:=(fun r:((List Term)×Int)=>some (.tu [so 7 Term.enc r.1,iv r.2],[]))) (fun _=>rfl) (jO.ok x2 x4 q _ (fun v23=>J_j ?_) (([]:List Term),0))
 refine zA (fun x24 h25=>?_)
 refine wH (atI c50 125) (fun v30:Bool=>St.mk' [(7,rr 0 v23),(49,bv v30)] [(0,rE 7 Term.enc v23)]) (fun v30=>?_) (fun jv30=>?_)
 ·refine zG 49 (fun h31=>?_) (fun h31=>?_)
  ·refine J_g 500 [] [(2,nv),(3,iv 5)] [] zB ?_
   exact zBq (ds:=[nv,iv 5]) (ds':=[so 7 Term.enc ([]:List Term),iv 5]) (.cons (.cell (.nilsl true 7 (.nil))) (.cons (.cell (.keep rfl (.nil))) (.nil) (by decide)) (by decide)) rfl
  ·refine J_g 126 [] [(2,rr 0 v23),(3,iv 0)] [(0,rE 7 Term.enc v23)] zB ?_
   exact zBq (ds:=[rr 0 v23,iv 0]) (ds':=[so 7 Term.enc v23,iv 0]) (.cons (.cell (.move (.head _) (List.length_map _) (by decide) (.nil))) (.cons (.cell (.keep rfl (.nil))) (.nil) (by decide)) (by decide)) rfl
 ·refine wT (fun h26=>?_) (fun h26=>?_)
  ·refine J_d 124 [] [6,49] [(49,bv true)] [] [] (zF 1 (vQ («as»:=[rr 0 v23]) [(.tmp 37)] [75] true [(0,rE 7 Term.enc v23)] [] (.cons (zFE (.head _) (fun _=>rfl) rfl) (.nil)) (uH.ok v23) h25 (.same rfl rfl) (hbor:=fun _=>⟨fhN,zQ⟩)) (wE 4 [(40,bv (!(seq x24 (b2s x2.1))))] [] h26 zB)) ?_
   exact yN (J_j (jv30 true)) rfl
  ·refine wT (fun h27=>?_) (fun h27=>?_)
   ·refine J_d 124 [] [6,49] [(49,bv true)] [] [] (zF 1 (vQ («as»:=[rr 0 v23]) [(.tmp 37)] [75] true [(0,rE 7 Term.enc v23)] [] (.cons (zFE (.head _) (fun _=>rfl) rfl) (.nil)) (uH.ok v23) h25 (.same rfl rfl) (hbor:=fun _=>⟨fhN,zQ⟩)) (wE 4 [(40,bv (!(seq x24 (b2s x2.1))))] [] h26 (wE 9 [(45,bv (decide ((v23.length:Int)>8)))] [] h27 zB))) ?_
    exact yN (J_j (jv30 true)) rfl
   ·refine zA (fun x28 h29=>?_)
    refine J_d 124 [] [6,49] [(49,bv x28)] [] [] (zF 1 (vQ («as»:=[rr 0 v23]) [(.tmp 37)] [75] true [(0,rE 7 Term.enc v23)] [] (.cons (zFE (.head _) (fun _=>rfl) rfl) (.nil)) (uH.ok v23) h25 (.same rfl rfl) (hbor:=fun _=>⟨fhN,zQ⟩)) (wE 4 [(40,bv (!(seq x24 (b2s x2.1))))] [] h26 (wE 9 [(45,bv (decide ((v23.length:Int)>8)))] [] h27 (zBr 11 9 46 false (vQ («as»:=[rr 0 v23]) [(.tmp 47)] [75] true [(0,rE 7 Term.enc v23)] [] (.cons (zFE (.head _) (fun _=>rfl) rfl) (.nil)) (zAY.ok v23) h29 (.same rfl rfl) (hbor:=fun _=>⟨fhN,zQ⟩)) zB)))) ?_
    exact yN (J_j (jv30 x28)) rfl
noncomputable def c11:Code:=(Tryz.f11.body).getD .skip
theorem uU.ok (a1:System):Ok Tryz.prog 11 [.ag (System.enc false a1)] [] ((uU a1).map fun r=>(iv r,[])):=by
 refine zH c11 Tryz.f11 0 41 (fun q=>?_)
 unfold uU
 refine J_g 2 [(0,0)] [(1,pp 0)] [(0,.box (System.enc false a1))] zB ?_
 refine zA (fun x2 h3=>?_)
 refine J_g 12 [] [(1,pp 0),(3,iv x2)] [(0,.box (System.enc false a1))] (zF 4 (xC [(.tmp 7),(.tmp 9)] [30,33] (kK.ok a1.Catalog a1.zD) h3) zB) ?_
 refine J_d 26 [] [12] [(12,bv (x2 !=0))] [] [] zB ?_
 refine zG 12 (fun h4=>?_) (fun h4=>?_)
 ·refine J_g 108 [] [(2,iv x2)] [] zB ?_
  exact zM rfl
 ·refine zA (fun x5 h6=>?_)
  refine J_g 14 [] [(1,pp 0),(4,rr 1 x5.1),(5,iv x5.2)] [(0,.box (System.enc false a1)),(1,rE 1 zU x5.1)] (zF 4 (vQ («as»:=[sl 8 (Pack.enc false) a1.Catalog,.ag (zD.enc false a1.zD)]) [(.tmp 16),(.tmp 18)] [30,33] false [] [] (.cons (.same rfl) (.cons (.same rfl) (.nil))) (zFu.ok a1.Catalog a1.zD) h6 (.tu (.cons (.own 1) (.cons (.same rfl rfl) (.nil))))) zB) ?_
  refine J_d 120 [] [22] [(22,bv (x5.2 !=0))] [] [] zB ?_
  refine zG 22 (fun h7=>?_) (fun h7=>?_)
  ·refine J_g 484 [] [(2,iv x5.2)] [] zB ?_
   exact zM rfl
  ·refine zA (fun x8 h9=>?_)
   refine J_d 486 [] [4,5,22,26] [(26,bv (!x8))] [1] [] (zF 5 (vQ («as»:=[sl 8 (Pack.enc false) a1.Catalog,.ag (zD.enc false a1.zD),rr 1 x5.1]) [(.tmp 28),(.tmp 30),(.tmp 31)] [30,33,39] true [(1,rE 1 zU x5.1)] [] (.cons (.same rfl) (.cons (.same rfl) (.cons (zFE (.head _) (fun _=>rfl) rfl) (.nil)))) (zCY.ok a1.Catalog a1.zD x5.1) h9 (.same rfl rfl) (hbor:=fun _=>⟨fhN,zQ⟩)) zB) ?_
   refine zG 26 (fun h10=>?_) (fun h10=>?_)
   ·refine J_g 1948 [] [(2,iv 1)] [] zB ?_
    exact zM rfl
   ·refine zA (fun x11 h12=>?_)
    refine J_g 62 [] [(5,iv x11.2)] [] (zF 2 (vQ («as»:=[.ag (zD.enc false a1.zD)]) [(.tmp 36)] [33] false [] [] (.cons (.same rfl) (.nil)) (zAD.ok a1.zD) h12 (.tu (.cons (.own 1) (.cons (.same rfl rfl) (.nil))))) zB) ?_
    refine J_g 126 [] [(2,iv x11.2)] [] zB ?_
    exact zM rfl
noncomputable def zUj:Code:=(Tryz.f223.body).getD .skip
theorem zD8.ok (a1:Int):Ok Tryz.prog 223 [iv a1] [] ((zD8 a1).map fun r=>(.ag (outcome.enc true r),[])):=by
 refine zH zUj Tryz.f223 0 6 (fun q=>?_)
 unfold zD8
 refine J_g 2 [(0,0)] [(0,iv a1),(2,pp 0)] [(0,.box [iv 0,iv 0,nv,nv,iv 0,iv 0,iv 0,bv false,bv false])] zB ?_
 refine J_g 6 [] [(2,pp 0)] [(0,.box [iv a1,iv 0,nv,nv,iv 0,iv 0,iv 0,bv false,bv false])] zB ?_
 exact zBq (ds:=[.ag [iv a1,iv 0,nv,nv,iv 0,iv 0,iv 0,bv false,bv false]]) (ds':=[.ag [iv a1,iv 0,so 8 (Pack.enc true) ([]:List Pack),so 2 (File.enc true) ([]:List File),iv 0,iv 0,iv 0,bv false,bv false]]) (.cons (.ag (.keep rfl (.keep rfl (.nilsl true 8 (.nilsl true 2 (.keep rfl (.keep rfl (.keep rfl (.keep rfl (.keep rfl (.nil))))))))))) (.nil) (by decide)) rfl
noncomputable def zT2:Code:=(Tryz.f221.body).getD .skip
theorem jR.ok (a1:(List Int)):Ok Tryz.prog 221 [sl 1 eU8 a1] [] ((jR a1).map fun r=>(so 1 eU8 r,[])):=by
 refine zH zT2 Tryz.f221 0 8 (fun q=>?_)
 unfold jR
 refine J_g 2 [] [(0,sl 1 eU8 a1)] [] zB ?_
 refine J_d 12 [] [4] [(4,.nb a1.length)] [] [] (zF 1 (zKs (xs:=a1) 121 5 121 1 eU8 (.tmp 3)) zB) ?_
 refine zSM 4 rfl (fun h2=>?_) ?_
 ·obtain rfl:a1=[]:=List.eq_nil_of_length_eq_zero h2
  refine zN1 (e':=some ([]:List Int)) (by kernel_rfl) ?_
  refine J_g 52 [] [(2,nv)] [] zB ?_
  exact zBq (ds:=[nv]) (ds':=[so 1 eU8 ([]:List Int)]) (.cons (.cell (.nilsl true 1 (.nil))) (.nil) (by decide)) rfl
 ·refine zA (fun x3 h4=>?_)
  refine J_g 14 [] [(2,rr 1 x3)] [(1,rE 1 eU8 x3)] (zF 0 (zFk 121 5 1 0 eU8 ([]:List Int) [] [] []) (zF 2 (zKQ 121 121 5 5 1 1 1 0 eU8 (.tmp 5) (.tmp 6) h4) zB)) ?_
  exact zBq (ds:=[rr 1 x3]) (ds':=[so 1 eU8 x3]) (.cons (.cell (.move (.head _) (List.length_map _) (by decide) (.nil))) (.nil) (by decide)) rfl
noncomputable def zS4:Code:=(Tryz.f200.body).getD .skip
theorem tL.ok (a1:zD) (q:Wd) (kn:(List File)→Option (D×List Ent)) (hk:∀v:(List File),J (q.g Tryz.prog 200 0 28) zS4 (atI zS4 31) (St.mk' [(2,pp 1),(3,pp 2)] [(1,.box [nv,iv 0,iv 0,iv 0,bv false]),(2,.box [rr 3 v,iv a1.Budget,iv a1.Writes,iv a1.Stop,bv a1.Down]),(3,rE 2 (File.enc true) v)]) (some v) kn):
  ∀s16:((List File)×Int),J (q.g Tryz.prog 200 0 28) zS4 (atI zS4 244) (St.mk' [(2,pp 1),(3,pp 2),(9,sl 2 (File.enc false) a1.Files),(10,iv (a1.Files.length:Int)),(11,iv s16.2)] [(1,.box [nv,iv 0,iv 0,iv 0,bv false]),(2,.box [rr 3 s16.1,iv a1.Budget,iv a1.Writes,iv a1.Stop,bv a1.Down]),(3,rE 2 (File.enc true) s16.1)]) (tL a1 s16) kn:=by
 refine tQ (fun g ih s16=>?_)
 unfold zEd
 refine J_d 488 [] [12] [(12,bv (decide (s16.2< (a1.Files.length:Int))))] [] [] zB ?_
 refine zG 12 (fun h17=>?_) (fun h17=>?_)
 ·refine zA (fun x18 h19=>?_)
  refine J_d 7832 [(2,4)] [5,12] [(5,pp 4)] [4] [(4,.box (File.enc false x18))] (zF 0 (vI (kk:=.i64) 31 138 2 (File.enc false) (.tmp 9) (.tmp 11) h19) zB) ?_
  refine zA (fun x20 h21=>?_)
  refine zA (fun x22 h23=>?_)
  refine J_g 7833 [] [(2,pp 1),(3,pp 2),(9,sl 2 (File.enc false) a1.Files),(10,iv (a1.Files.length:Int)),(11,iv s16.2)] [(1,.box [nv,iv 0,iv 0,iv 0,bv false]),(2,.box [rr 7 x22,iv a1.Budget,iv a1.Writes,iv a1.Stop,bv a1.Down]),(7,rE 2 (File.enc true) x22)] (zF 6 (vQ («as»:=[sl 1 eU8 x18.Data]) [(.tmp 20)] [121] false [] [] (.cons (.same rfl) (.nil)) (jR.ok x18.Data) h21 (.own 5)) (zF 8 (zRa (ds:=[sv x18.Path,rr 5 x20]) (ts:=[5]) 31 138 2 6 (File.enc true) [({Path:=x18.Path,Data:=x20}:File)] [0] [(.tmp 22)] [.ag [sv x18.Path,rr 5 x20]] [(5,rE 1 eU8 x20)] (.keep rfl (.move (.head _) (List.length_map _) (by decide) (.nil)))) (zF 9 (zHR 31 31 138 138 2 40 7 3 6 (File.enc true) (.tmp 16) (.tmp 23) h23) zB))) ?_
  refine J_d 1959 [] [11] [(11,iv (w64 (s16.2+1)))] [] [] zB ?_
  refine zBD 7 3 (Nat.le_of_ble_eq_true rfl) (Nat.le_of_ble_eq_true rfl) ?_
  exact J_q (J_b (ih (x22,w64 (s16.2+1)))) rfl
 ·exact yN (hk s16.1) rfl
theorem uT.ok (a1:zD):Ok Tryz.prog 200 [.ag (zD.enc false a1)] [] ((uT a1).map fun r=>(.ag (zD.enc true r),[])):=by
 refine zH zS4 Tryz.f200 0 28 (fun q=>?_)
 unfold uT
 refine J_g 2 [(0,0),(1,1)] [(1,pp 0),(2,pp 1)] [(0,.box (zD.enc false a1)),(1,.box [nv,iv 0,iv 0,iv 0,bv false])] zB ?_
 refine J_g 6 [(1,2)] [(1,pp 0),(2,pp 1),(3,pp 2)] [(0,.box (zD.enc false a1)),(1,.box [nv,iv 0,iv 0,iv 0,bv false]),(2,.box (zD.enc false a1))] zB ?_
 refine J_g 14 [] [(1,pp 0),(2,pp 1),(3,pp 2)] [(0,.box (zD.enc false a1)),(1,.box [nv,iv 0,iv 0,iv 0,bv false]),(2,.box [nv,iv a1.Budget,iv a1.Writes,iv a1.Stop,bv a1.Down])] zB ?_
 refine J_d 60 [] [1,9,10,11] [(9,sl 2 (File.enc false) a1.Files),(10,iv (a1.Files.length:Int)),(11,iv 0)] [0] [] zB ?_
 refine zOQ 2 0 3 2 rfl rfl (Nat.le_of_ble_eq_true rfl) (by kernel_rfl) ?_
 refine zFJ (tL.ok a1 q _ (fun v24=>J_j ?_) (([]:List File),0))
 refine J_g 62 [] [(2,pp 1)] [(1,.box [rr 3 v24,iv a1.Budget,iv a1.Writes,iv a1.Stop,bv a1.Down]),(3,rE 2 (File.enc true) v24)] zB ?_
 exact zBq (ds:=[.ag [rr 3 v24,iv a1.Budget,iv a1.Writes,iv a1.Stop,bv a1.Down]]) (ds':=[.ag [so 2 (File.enc true) v24,iv a1.Budget,iv a1.Writes,iv a1.Stop,bv a1.Down]]) (.cons (.ag (.move (.tail _ (.head _)) (List.length_map _) (by decide) (.keep rfl (.keep rfl (.keep rfl (.keep rfl (.nil))))))) (.nil) (by decide)) rfl
noncomputable def c160:Code:=(Tryz.f160.body).getD .skip
theorem zER.ok (a1:zD):Ok Tryz.prog 160 [.ag (zD.enc false a1)] [] ((zER a1).map fun r=>(.ag (wD.enc true r),[])):=by
 refine zH c160 Tryz.f160 0 16 (fun q=>?_)
 unfold zER
 refine J_g 2 [(0,0),(1,1)] [(1,pp 0),(2,pp 1)] [(0,.box (zD.enc false a1)),(1,.box [iv 0,nv,iv 0,iv 0,iv 0,bv false])] zB ?_
 refine zA (fun x2 h3=>?_)
 refine J_g 12 [] [(1,pp 0),(2,pp 1),(3,iv x2)] [(0,.box (zD.enc false a1)),(1,.box [iv 0,nv,iv 0,iv 0,iv 0,bv false])] (zF 1 (xC [(.tmp 5)] [33] (jB.ok a1) h3) zB) ?_
 refine J_d 26 [] [8] [(8,bv (x2 !=0))] [] [] zB ?_
 refine zG 8 (fun h4=>?_) (fun h4=>?_)
 ·refine J_g 108 [] [(2,pp 1)] [(1,.box [iv x2,nv,iv 0,iv 0,iv 0,bv false])] zB ?_
  exact zBq (ds:=[.ag [iv x2,nv,iv 0,iv 0,iv 0,bv false]]) (ds':=[.ag [iv x2,so 2 (File.enc true) ([]:List File),iv 0,iv 0,iv 0,bv false]]) (.cons (.ag (.keep rfl (.nilsl true 2 (.keep rfl (.keep rfl (.keep rfl (.keep rfl (.nil)))))))) (.nil) (by decide)) rfl
 ·refine zA (fun x5 h6=>?_)
  refine J_g 14 [(2,3)] [(2,pp 1),(4,pp 3)] [(1,.box [iv 0,nv,iv 0,iv 0,iv 0,bv false]),(2,rE 2 (File.enc true) x5.Files),(3,.box [rr 2 x5.Files,iv x5.Budget,iv x5.Writes,iv x5.Stop,bv x5.Down])] (zF 1 (vQ («as»:=[.ag (zD.enc false a1)]) [(.tmp 11)] [33] false [] [] (.cons (.same rfl) (.nil)) (uT.ok a1) h6 (.ag (.cons (.own 2) (.cons (.same rfl rfl) (.cons (.same rfl rfl) (.cons (.same rfl rfl) (.cons (.same rfl rfl) (.nil)))))))) zB) ?_
  refine J_g 30 [] [(2,pp 1),(4,pp 3)] [(1,.box [iv 0,nv,iv 0,iv 0,iv 0,bv false]),(2,rE 2 (File.enc true) x5.Files),(3,.box [rr 2 x5.Files,iv x5.Budget,iv x5.Writes,iv x5.Stop,bv true])] zB ?_
  refine J_g 62 [] [(2,pp 1)] [(1,.box [iv 0,rr 2 x5.Files,iv x5.Budget,iv x5.Writes,iv x5.Stop,bv true]),(2,rE 2 (File.enc true) x5.Files)] zB ?_
  exact zBq (ds:=[.ag [iv 0,rr 2 x5.Files,iv x5.Budget,iv x5.Writes,iv x5.Stop,bv true]]) (ds':=[.ag [iv 0,so 2 (File.enc true) x5.Files,iv x5.Budget,iv x5.Writes,iv x5.Stop,bv true]]) (.cons (.ag (.keep rfl (.move (.tail _ (.head _)) (List.length_map _) (by decide) (.keep rfl (.keep rfl (.keep rfl (.keep rfl (.nil)))))))) (.nil) (by decide)) rfl
noncomputable def c159:Code:=(Tryz.f159.body).getD .skip
theorem zFK.ok (a1:System):Ok Tryz.prog 159 [.ag (System.enc false a1)] [] ((zFK a1).map fun r=>(.ag (wD.enc true r),[])):=by
 refine zH c159 Tryz.f159 0 6 (fun q=>?_)
 unfold zFK
 refine J_g 2 [(0,0),(1,1)] [(1,pp 0),(2,pp 1)] [(0,.box (System.enc false a1)),(1,.box [iv 0,nv,iv 0,iv 0,iv 0,bv false])] zB ?_
 refine zA (fun x2 h3=>?_)
 refine J_g 6 [] [(2,pp 1)] [(1,.box [iv x2.Code,rr 2 x2.zD.Files,iv x2.zD.Budget,iv x2.zD.Writes,iv x2.zD.Stop,bv x2.zD.Down]),(2,rE 2 (File.enc true) x2.zD.Files)] (zF 2 (vQ («as»:=[.ag (zD.enc false a1.zD)]) [(.tmp 4)] [33] false [] [] (.cons (.same rfl) (.nil)) (zER.ok a1.zD) h3 (.ag (.cons (.same rfl rfl) (.cons (.own 2) (.cons (.same rfl rfl) (.cons (.same rfl rfl) (.cons (.same rfl rfl) (.cons (.same rfl rfl) (.nil))))))))) zB) ?_
 exact zBq (ds:=[.ag [iv x2.Code,rr 2 x2.zD.Files,iv x2.zD.Budget,iv x2.zD.Writes,iv x2.zD.Stop,bv x2.zD.Down]]) (ds':=[.ag (wD.enc true x2)]) (.cons (.ag (.keep rfl (.move (.tail _ (.head _)) (List.length_map _) (by decide) (.keep rfl (.keep rfl (.keep rfl (.keep rfl (.nil)))))))) (.nil) (by decide)) rfl
noncomputable def zTQ:Code:=(Tryz.f287.body).getD .skip
theorem vM.ok (a1:(List ByteArray)):Ok Tryz.prog 287 [sl 1 eStr a1] [] ((vM a1).map fun r=>(so 1 eStr r,[])):=by
 refine zH zTQ Tryz.f287 0 8 (fun q=>?_)
 unfold vM
 refine J_g 2 [] [(0,sl 1 eStr a1)] [] zB ?_
 refine J_d 12 [] [4] [(4,.nb a1.length)] [] [] (zF 1 (zKs (xs:=a1) 86 9 86 1 eStr (.tmp 3)) zB) ?_
 refine zSM 4 rfl (fun h2=>?_) ?_
 ·obtain rfl:a1=[]:=List.eq_nil_of_length_eq_zero h2
  refine zN1 (e':=some ([]:List ByteArray)) (by kernel_rfl) ?_
  refine J_g 52 [] [(2,nv)] [] zB ?_
  exact zBq (ds:=[nv]) (ds':=[so 1 eStr ([]:List ByteArray)]) (.cons (.cell (.nilsl true 1 (.nil))) (.nil) (by decide)) rfl
 ·refine zA (fun x3 h4=>?_)
  refine J_g 14 [] [(2,rr 1 x3)] [(1,rE 1 eStr x3)] (zF 0 (zFk 86 9 1 0 eStr ([]:List ByteArray) [] [] []) (zF 2 (zKQ 86 86 9 9 1 16 1 0 eStr (.tmp 5) (.tmp 6) h4) zB)) ?_
  exact zBq (ds:=[rr 1 x3]) (ds':=[so 1 eStr x3]) (.cons (.cell (.move (.head _) (List.length_map _) (by decide) (.nil))) (.nil) (by decide)) rfl
noncomputable def zUg:Code:=(Tryz.f288.body).getD .skip
theorem xP.ok (a1:(List Term)):Ok Tryz.prog 288 [sl 7 Term.enc a1] [] ((xP a1).map fun r=>(so 7 Term.enc r,[])):=by
 refine zH zUg Tryz.f288 0 8 (fun q=>?_)
 unfold xP
 refine J_g 2 [] [(0,sl 7 Term.enc a1)] [] zB ?_
 refine J_d 12 [] [4] [(4,.nb a1.length)] [] [] (zF 1 (zKs (xs:=a1) 75 149 75 7 Term.enc (.tmp 3)) zB) ?_
 refine zSM 4 rfl (fun h2=>?_) ?_
 ·obtain rfl:a1=[]:=List.eq_nil_of_length_eq_zero h2
  refine zN1 (e':=some ([]:List Term)) (by kernel_rfl) ?_
  refine J_g 52 [] [(2,nv)] [] zB ?_
  exact zBq (ds:=[nv]) (ds':=[so 7 Term.enc ([]:List Term)]) (.cons (.cell (.nilsl true 7 (.nil))) (.nil) (by decide)) rfl
 ·refine zA (fun x3 h4=>?_)
  refine J_g 14 [] [(2,rr 1 x3)] [(1,rE 7 Term.enc x3)] (zF 0 (zFk 75 149 7 0 Term.enc ([]:List Term) [] [] []) (zF 2 (zKQ 75 75 149 149 7 64 1 0 Term.enc (.tmp 5) (.tmp 6) h4) zB)) ?_
  exact zBq (ds:=[rr 1 x3]) (ds':=[so 7 Term.enc x3]) (.cons (.cell (.move (.head _) (List.length_map _) (by decide) (.nil))) (.nil) (by decide)) rfl
noncomputable def zQd:Code:=(Tryz.f224.body).getD .skip
theorem zAr.ok (a1:(List Pack)) (s27:((List Pack)×Int)) (x29:Pack) (x31:(List ByteArray)) (x33:(List Term)) (q:Wd) (kn:(List (List Term))→Option (D×List Ent)) (hk:∀v:(List (List Term)),J (q.g Tryz.prog 224 0 46) zQd (atI zQd 29903) (St.mk' [(3,rr 0 s27.1),(5,pp 1),(6,rr 4 v),(10,sl 8 (Pack.enc false) a1),(11,iv (a1.length:Int)),(12,iv s27.2)] [(0,rE 8 (Pack.enc true) s27.1),(1,.box [sv x29.Name,iv x29.Version.A,iv x29.Version.B,iv x29.Version.C,iv x29.Size,rr 2 x31,sl 1 (eSl false 7 Term.enc) x29.Needs,rr 3 x33]),(2,rE 1 eStr x31),(3,rE 7 Term.enc x33),(4,rE 1 (eSl true 7 Term.enc) v)]) (some v) kn):
  ∀s42:((List (List Term))×Int),J (q.g Tryz.prog 224 0 46) zQd (atI zQd 239220) (St.mk' [(3,rr 0 s27.1),(5,pp 1),(6,rr 4 s42.1),(10,sl 8 (Pack.enc false) a1),(11,iv (a1.length:Int)),(12,iv s27.2),(26,sl 1 (eSl false 7 Term.enc) x29.Needs),(27,iv (x29.Needs.length:Int)),(28,iv s42.2)] [(0,rE 8 (Pack.enc true) s27.1),(1,.box [sv x29.Name,iv x29.Version.A,iv x29.Version.B,iv x29.Version.C,iv x29.Size,rr 2 x31,sl 1 (eSl false 7 Term.enc) x29.Needs,rr 3 x33]),(2,rE 1 eStr x31),(3,rE 7 Term.enc x33),(4,rE 1 (eSl true 7 Term.enc) s42.1)]) (zAr a1 s27 x29 x31 x33 s42) kn:=by
 refine tQ (fun g ih s42=>?_)
 unfold kH
 refine J_d 478440 [] [29] [(29,bv (decide (s42.2< (x29.Needs.length:Int))))] [] [] zB ?_
 refine zG 29 (fun h43=>?_) (fun h43=>?_)
 ·refine zA (fun x44 h45=>?_)
  refine J_d 7655064 [] [8,29] [(8,sl 7 Term.enc x44)] [] [] (zF 0 (vI (kk:=.i64) 100 75 1 (eSl false 7 Term.enc) (.tmp 26) (.tmp 28) h45) zB) ?_
  refine zA (fun x46 h47=>?_)
  refine zA (fun x48 h49=>?_)
  refine J_g 7655065 [] [(3,rr 0 s27.1),(5,pp 1),(6,rr 7 x48),(10,sl 8 (Pack.enc false) a1),(11,iv (a1.length:Int)),(12,iv s27.2),(26,sl 1 (eSl false 7 Term.enc) x29.Needs),(27,iv (x29.Needs.length:Int)),(28,iv s42.2)] [(0,rE 8 (Pack.enc true) s27.1),(1,.box [sv x29.Name,iv x29.Version.A,iv x29.Version.B,iv x29.Version.C,iv x29.Size,rr 2 x31,sl 1 (eSl false 7 Term.enc) x29.Needs,rr 3 x33]),(2,rE 1 eStr x31),(3,rE 7 Term.enc x33),(7,rE 1 (eSl true 7 Term.enc) x48)] (zF 2 (vQ («as»:=[sl 7 Term.enc x44]) [(.tmp 33)] [75] false [] [] (.cons (.same rfl) (.nil)) (xP.ok x44) h47 (.own 5)) (zF 3 (zRa (ds:=[rr 5 x46]) (ts:=[5]) 100 75 1 6 (eSl true 7 Term.enc) [x46] [0] [(.tmp 34)] [rr 5 x46] [(5,rE 7 Term.enc x46)] (.move (.head _) (List.length_map _) (by decide) (.nil))) (zF 4 (zHR 100 100 75 75 1 24 7 4 6 (eSl true 7 Term.enc) (.tmp 32) (.tmp 35) h49) zB))) ?_
  refine J_d 1913767 [] [28] [(28,iv (w64 (s42.2+1)))] [] [] zB ?_
  refine zBD 7 4 (Nat.le_of_ble_eq_true rfl) (Nat.le_of_ble_eq_true rfl) ?_
  exact J_q (J_b (ih (x48,w64 (s42.2+1)))) rfl
 ·exact yN (hk s42.1) rfl
theorem zAA.ok (a1:(List Pack)) (q:Wd) (kn:(List Pack)→Option (D×List Ent)) (hk:∀v:(List Pack),J (q.g Tryz.prog 224 0 46) zQd (atI zQd 15) (St.mk' [(3,rr 0 v)] [(0,rE 8 (Pack.enc true) v)]) (some v) kn):
  ∀s27:((List Pack)×Int),J (q.g Tryz.prog 224 0 46) zQd (atI zQd 116) (St.mk' [(3,rr 0 s27.1),(10,sl 8 (Pack.enc false) a1),(11,iv (a1.length:Int)),(12,iv s27.2)] [(0,rE 8 (Pack.enc true) s27.1)]) (zAA a1 s27) kn:=by
 refine tQ (fun g ih s27=>?_)
 unfold kE
 refine J_d 232 [] [13] [(13,bv (decide (s27.2< (a1.length:Int))))] [] [] zB ?_
 refine zG 13 (fun h28=>?_) (fun h28=>?_)
 ·refine zA (fun x29 h30=>?_)
  refine J_d 3736 [(2,1)] [5,13] [(5,pp 1)] [1] [(1,.box (Pack.enc false x29))] (zF 0 (vI (kk:=.i64) 30 102 8 (Pack.enc false) (.tmp 10) (.tmp 12) h30) zB) ?_
  refine zA (fun x31 h32=>?_)
  refine zA (fun x33 h34=>?_)
  refine J_g 7474 [] [(3,rr 0 s27.1),(5,pp 1),(10,sl 8 (Pack.enc false) a1),(11,iv (a1.length:Int)),(12,iv s27.2)] [(0,rE 8 (Pack.enc true) s27.1),(1,.box [sv x29.Name,iv x29.Version.A,iv x29.Version.B,iv x29.Version.C,iv x29.Size,rr 2 x31,sl 1 (eSl false 7 Term.enc) x29.Needs,rr 3 x33]),(2,rE 1 eStr x31),(3,rE 7 Term.enc x33)] (zF 2 (vQ («as»:=[sl 1 eStr x29.Provides]) [(.tmp 17)] [86] false [] [] (.cons (.same rfl) (.nil)) (vM.ok x29.Provides) h32 (.own 2)) (zF 5 (vQ («as»:=[sl 7 Term.enc x29.Bars]) [(.tmp 20)] [75] false [] [] (.cons (.same rfl) (.nil)) (xP.ok x29.Bars) h34 (.own 3)) zB)) ?_
  refine J_g 14950 [] [(3,rr 0 s27.1),(5,pp 1),(6,rr 4 ([]:List (List Term))),(10,sl 8 (Pack.enc false) a1),(11,iv (a1.length:Int)),(12,iv s27.2)] [(0,rE 8 (Pack.enc true) s27.1),(1,.box [sv x29.Name,iv x29.Version.A,iv x29.Version.B,iv x29.Version.C,iv x29.Size,rr 2 x31,sl 1 (eSl false 7 Term.enc) x29.Needs,rr 3 x33]),(2,rE 1 eStr x31),(3,rE 7 Term.enc x33),(4,rE 1 (eSl false 7 Term.enc) ([]:List (List Term)))] (zF 0 (zFk 100 75 1 4 (eSl false 7 Term.enc) ([]:List (List Term)) [] [] []) zB) ?_
  refine J_d 59804 [] [26,27,28] [(26,sl 1 (eSl false 7 Term.enc) x29.Needs),(27,iv (x29.Needs.length:Int)),(28,iv 0)] [] [] zB ?_
  refine zFJ (zAr.ok a1 s27 x29 x31 x33 q _ (fun v50=>J_j ?_) (([]:List (List Term)),0))
  refine J_d 59806 [] [6] [] [1] [(1,.box [sv x29.Name,iv x29.Version.A,iv x29.Version.B,iv x29.Version.C,iv x29.Size,rr 2 x31,rr 4 v50,rr 3 x33])] zB ?_
  refine zA (fun x51 h52=>?_)
  refine J_g 59807 [] [(3,rr 6 x51),(10,sl 8 (Pack.enc false) a1),(11,iv (a1.length:Int)),(12,iv s27.2)] [(6,rE 8 (Pack.enc true) x51)] (zF 2 (zRa (ds:=[sv x29.Name,iv x29.Version.A,iv x29.Version.B,iv x29.Version.C,iv x29.Size,rr 2 x31,rr 4 v50,rr 3 x33]) (ts:=[2,4,3]) 30 102 8 5 (Pack.enc true) [({Name:=x29.Name,Version:=x29.Version,Size:=x29.Size,Provides:=x31,Needs:=v50,Bars:=x33}:Pack)] [0] [(.tmp 41)] [.ag [sv x29.Name,iv x29.Version.A,iv x29.Version.B,iv x29.Version.C,iv x29.Size,rr 2 x31,rr 4 v50,rr 3 x33]] [(2,rE 1 eStr x31),(4,rE 1 (eSl true 7 Term.enc) v50),(3,rE 7 Term.enc x33)] (.keep rfl (.keep rfl (.keep rfl (.keep rfl (.keep rfl (.move (.head _) (List.length_map _) (by decide) (.move (.tail _ (.head _)) (List.length_map _) (by decide) (.move (.tail _ (.tail _ (.head _))) (List.length_map _) (by decide) (.nil)))))))))) (zF 3 (zHR 30 30 102 102 8 120 6 0 5 (Pack.enc true) (.tmp 40) (.tmp 42) h52) zB)) ?_
  refine J_d 935 [] [12] [(12,iv (w64 (s27.2+1)))] [] [] zB ?_
  refine zBD 6 0 (Nat.le_of_ble_eq_true rfl) (Nat.le_of_ble_eq_true rfl) ?_
  exact J_q (J_b (ih (x51,w64 (s27.2+1)))) rfl
 ·exact yN (hk s27.1) rfl
theorem jU.ok (a1:(List Pack)):Ok Tryz.prog 224 [sl 8 (Pack.enc false) a1] [] ((jU a1).map fun r=>(so 8 (Pack.enc true) r,[])):=by
 refine zH zQd Tryz.f224 0 46 (fun q=>?_)
 unfold jU
 refine J_g 2 [] [(0,sl 8 (Pack.enc false) a1)] [] zB ?_
 refine J_g 6 [] [(0,sl 8 (Pack.enc false) a1),(3,rr 0 ([]:List Pack))] [(0,rE 8 (Pack.enc false) ([]:List Pack))] (zF 0 (zFk 30 102 8 0 (Pack.enc false) ([]:List Pack) [] [] []) zB) ?_
 refine J_d 28 [] [0,10,11,12] [(10,sl 8 (Pack.enc false) a1),(11,iv (a1.length:Int)),(12,iv 0)] [] [] zB ?_
 refine zFJ (zAA.ok a1 q _ (fun v53=>J_j ?_) (([]:List Pack),0))
 refine J_g 30 [] [(2,rr 0 v53)] [(0,rE 8 (Pack.enc true) v53)] zB ?_
 exact zBq (ds:=[rr 0 v53]) (ds':=[so 8 (Pack.enc true) v53]) (.cons (.cell (.move (.head _) (List.length_map _) (by decide) (.nil))) (.nil) (by decide)) rfl
noncomputable def zTu:Code:=(Tryz.f158.body).getD .skip
theorem vR.ok (a1:System):Ok Tryz.prog 158 [.ag (System.enc false a1),.fn 159 []] [] ((vR a1).map fun r=>(.ag (outcome.enc true r),[])):=by
 refine zH zTu Tryz.f158 0 37 (fun q=>?_)
 unfold vR
 refine J_g 2 [(0,0),(1,1)] [(1,.fn 159 []),(2,pp 0),(4,pp 1)] [(0,.box (System.enc false a1)),(1,.box [iv 0,iv 0,nv,nv,iv 0,iv 0,iv 0,bv false,bv false])] zB ?_
 refine zA (fun x2 h3=>?_)
 refine J_g 12 [] [(1,.fn 159 []),(2,pp 0),(4,pp 1),(5,iv x2)] [(0,.box (System.enc false a1)),(1,.box [iv 0,iv 0,nv,nv,iv 0,iv 0,iv 0,bv false,bv false])] (zF 1 (xC [(.tmp 7)] [35] (uU.ok a1) h3) zB) ?_
 refine J_d 26 [] [10] [(10,bv (x2 !=0))] [] [] zB ?_
 refine zG 10 (fun h4=>?_) (fun h4=>?_)
 ·refine zA (fun x5 h6=>?_)
  refine J_g 108 [] [(4,pp 1)] [(1,.box [iv x5.zC.Code,iv x5.zC.Choices,rr 2 x5.zC.System.Catalog,rr 3 x5.zC.System.zD.Files,iv x5.zC.System.zD.Budget,iv x5.zC.System.zD.Writes,iv x5.zC.System.zD.Stop,bv x5.zC.System.zD.Down,bv x5.tells]),(2,rE 8 (Pack.enc true) x5.zC.System.Catalog),(3,rE 2 (File.enc true) x5.zC.System.zD.Files)] (zF 1 (vQ («as»:=[iv x2]) [(.tmp 11)] [2] false [] [] (.cons (.same rfl) (.nil)) (zD8.ok x2) h6 (.ag (.cons (.same rfl rfl) (.cons (.same rfl rfl) (.cons (.own 2) (.cons (.own 3) (.cons (.same rfl rfl) (.cons (.same rfl rfl) (.cons (.same rfl rfl) (.cons (.same rfl rfl) (.cons (.same rfl rfl) (.nil)))))))))))) zB) ?_
  exact zBq (ds:=[.ag [iv x5.zC.Code,iv x5.zC.Choices,rr 2 x5.zC.System.Catalog,rr 3 x5.zC.System.zD.Files,iv x5.zC.System.zD.Budget,iv x5.zC.System.zD.Writes,iv x5.zC.System.zD.Stop,bv x5.zC.System.zD.Down,bv x5.tells]]) (ds':=[.ag (outcome.enc true x5)]) (.cons (.ag (.keep rfl (.keep rfl (.move (.tail _ (.head _)) (List.length_map _) (by decide) (.move (.tail _ (.tail _ (.head _))) (List.length_map _) (by decide) (.keep rfl (.keep rfl (.keep rfl (.keep rfl (.keep rfl (.nil))))))))))) (.nil) (by decide)) rfl
 ·refine zA (fun x7 h8=>?_)
  refine J_d 14 [(3,3)] [1,5,6,10] [(6,pp 3)] [2,3] [(2,rE 2 (File.enc true) x7.zD.Files),(3,.box [iv x7.Code,rr 2 x7.zD.Files,iv x7.zD.Budget,iv x7.zD.Writes,iv x7.zD.Stop,bv x7.zD.Down])] (zF 2 (zKM 13 [(.tmp 14)] [35] false [] [] [.ag (System.enc false a1)] [] (.cons (.same rfl) (.nil)) (zFK.ok a1) h8 (.ag (.cons (.same rfl rfl) (.cons (.own 2) (.cons (.same rfl rfl) (.cons (.same rfl rfl) (.cons (.same rfl rfl) (.cons (.same rfl rfl) (.nil))))))))) zB) ?_
  refine wH (atI zTu 61) (fun v10:Bool=>St.mk' [(2,pp 0),(4,pp 1),(6,pp 3),(23,bv v10)] [(0,.box (System.enc false a1)),(1,.box [iv 0,iv 0,nv,nv,iv 0,iv 0,iv 0,bv false,bv false]),(2,rE 2 (File.enc true) x7.zD.Files),(3,.box [iv x7.Code,rr 2 x7.zD.Files,iv x7.zD.Budget,iv x7.zD.Writes,iv x7.zD.Stop,bv x7.zD.Down])]) (fun v10=>?_) (fun jv10=>?_)
  ·refine zG 23 (fun h11=>?_) (fun h11=>?_)
   ·refine zA (fun x12 h13=>?_)
    refine J_g 244 [] [(4,pp 1)] [(1,.box [iv x12.zC.Code,iv x12.zC.Choices,rr 4 x12.zC.System.Catalog,rr 5 x12.zC.System.zD.Files,iv x12.zC.System.zD.Budget,iv x12.zC.System.zD.Writes,iv x12.zC.System.zD.Stop,bv x12.zC.System.zD.Down,bv x12.tells]),(4,rE 8 (Pack.enc true) x12.zC.System.Catalog),(5,rE 2 (File.enc true) x12.zC.System.zD.Files)] (zF 2 (vQ («as»:=[iv x7.Code]) [(.tmp 25)] [2] false [] [] (.cons (.same rfl) (.nil)) (zD8.ok x7.Code) h13 (.ag (.cons (.same rfl rfl) (.cons (.same rfl rfl) (.cons (.own 4) (.cons (.own 5) (.cons (.same rfl rfl) (.cons (.same rfl rfl) (.cons (.same rfl rfl) (.cons (.same rfl rfl) (.cons (.same rfl rfl) (.nil)))))))))))) zB) ?_
    exact zBq (ds:=[.ag [iv x12.zC.Code,iv x12.zC.Choices,rr 4 x12.zC.System.Catalog,rr 5 x12.zC.System.zD.Files,iv x12.zC.System.zD.Budget,iv x12.zC.System.zD.Writes,iv x12.zC.System.zD.Stop,bv x12.zC.System.zD.Down,bv x12.tells]]) (ds':=[.ag (outcome.enc true x12)]) (.cons (.ag (.keep rfl (.keep rfl (.move (.tail _ (.head _)) (List.length_map _) (by decide) (.move (.tail _ (.tail _ (.head _))) (List.length_map _) (by decide) (.keep rfl (.keep rfl (.keep rfl (.keep rfl (.keep rfl (.nil))))))))))) (.nil) (by decide)) rfl
   ·refine zA (fun x14 h15=>?_)
    refine J_g 62 [] [(4,pp 1)] [(1,.box [iv x7.Code,iv 0,rr 4 x14,rr 2 x7.zD.Files,iv x7.zD.Budget,iv x7.zD.Writes,iv x7.zD.Stop,bv x7.zD.Down,bv true]),(2,rE 2 (File.enc true) x7.zD.Files),(4,rE 8 (Pack.enc true) x14)] (zF 4 (vQ («as»:=[sl 8 (Pack.enc false) a1.Catalog]) [(.tmp 30)] [30] false [] [] (.cons (.same rfl) (.nil)) (jU.ok a1.Catalog) h15 (.own 4)) zB) ?_
    exact zBq (ds:=[.ag [iv x7.Code,iv 0,rr 4 x14,rr 2 x7.zD.Files,iv x7.zD.Budget,iv x7.zD.Writes,iv x7.zD.Stop,bv x7.zD.Down,bv true]]) (ds':=[.ag [iv x7.Code,iv 0,so 8 (Pack.enc true) x14,so 2 (File.enc true) x7.zD.Files,iv x7.zD.Budget,iv x7.zD.Writes,iv x7.zD.Stop,bv x7.zD.Down,bv true]]) (.cons (.ag (.keep rfl (.keep rfl (.move (.tail _ (.tail _ (.head _))) (List.length_map _) (by decide) (.move (.tail _ (.head _)) (List.length_map _) (by decide) (.keep rfl (.keep rfl (.keep rfl (.keep rfl (.keep rfl (.nil))))))))))) (.nil) (by decide)) rfl
  ·refine wT (fun h9=>?_) (fun h9=>?_)
   ·refine J_d 60 [] [23] [(23,bv (x7.Code !=9))] [] [] (wE 3 [(18,bv (x7.Code !=0))] [] h9 zB) ?_
    exact yN (J_j (jv10 (x7.Code !=9))) rfl
   ·refine J_d 60 [] [23] [(23,bv false)] [] [] (wE 3 [(18,bv (x7.Code !=0))] [] h9 zB) ?_
    exact yN (J_j (jv10 false)) rfl
noncomputable def c88:Code:=(Tryz.f88.body).getD .skip
theorem zGG.ok (a1:System):Ok Tryz.prog 88 [.ag (System.enc false a1)] [] ((zGG a1).map fun r=>(.ag (outcome.enc true r),[])):=by
 refine zH c88 Tryz.f88 0 5 (fun q=>?_)
 unfold zGG
 refine J_g 2 [(0,0),(1,1)] [(1,pp 0),(2,pp 1)] [(0,.box (System.enc false a1)),(1,.box [iv 0,iv 0,nv,nv,iv 0,iv 0,iv 0,bv false,bv false])] zB ?_
 refine zA (fun x2 h3=>?_)
 refine J_g 6 [] [(2,pp 1)] [(1,.box [iv x2.zC.Code,iv x2.zC.Choices,rr 2 x2.zC.System.Catalog,rr 3 x2.zC.System.zD.Files,iv x2.zC.System.zD.Budget,iv x2.zC.System.zD.Writes,iv x2.zC.System.zD.Stop,bv x2.zC.System.zD.Down,bv x2.tells]),(2,rE 8 (Pack.enc true) x2.zC.System.Catalog),(3,rE 2 (File.enc true) x2.zC.System.zD.Files)] (zF 1 (vQ («as»:=[.ag (System.enc false a1),.fn 159 []]) [(.tmp 3),(.func 159)] [35,192] false [] [] (.cons (.same rfl) (.cons (.fn (.nil)) (.nil))) (vR.ok a1) h3 (.ag (.cons (.same rfl rfl) (.cons (.same rfl rfl) (.cons (.own 2) (.cons (.own 3) (.cons (.same rfl rfl) (.cons (.same rfl rfl) (.cons (.same rfl rfl) (.cons (.same rfl rfl) (.cons (.same rfl rfl) (.nil)))))))))))) zB) ?_
 exact zBq (ds:=[.ag [iv x2.zC.Code,iv x2.zC.Choices,rr 2 x2.zC.System.Catalog,rr 3 x2.zC.System.zD.Files,iv x2.zC.System.zD.Budget,iv x2.zC.System.zD.Writes,iv x2.zC.System.zD.Stop,bv x2.zC.System.zD.Down,bv x2.tells]]) (ds':=[.ag (outcome.enc true x2)]) (.cons (.ag (.keep rfl (.keep rfl (.move (.tail _ (.head _)) (List.length_map _) (by decide) (.move (.tail _ (.tail _ (.head _))) (List.length_map _) (by decide) (.keep rfl (.keep rfl (.keep rfl (.keep rfl (.keep rfl (.nil))))))))))) (.nil) (by decide)) rfl
noncomputable def c38:Code:=(Tryz.f38.body).getD .skip
theorem uG.ok (a1:System):Ok Tryz.prog 38 [.ag (System.enc false a1)] [] ((uG a1).map fun r=>(.ag (zC.enc true r),[])):=by
 refine zH c38 Tryz.f38 0 6 (fun q=>?_)
 unfold uG
 refine J_g 2 [(0,0),(1,1)] [(1,pp 0),(2,pp 1)] [(0,.box (System.enc false a1)),(1,.box [iv 0,iv 0,nv,nv,iv 0,iv 0,iv 0,bv false])] zB ?_
 refine zA (fun x2 h3=>?_)
 refine J_g 6 [] [(2,pp 1)] [(1,.box [iv x2.zC.Code,iv x2.zC.Choices,rr 2 x2.zC.System.Catalog,rr 3 x2.zC.System.zD.Files,iv x2.zC.System.zD.Budget,iv x2.zC.System.zD.Writes,iv x2.zC.System.zD.Stop,bv x2.zC.System.zD.Down]),(2,rE 8 (Pack.enc true) x2.zC.System.Catalog),(3,rE 2 (File.enc true) x2.zC.System.zD.Files)] (zF 1 (vQ («as»:=[.ag (System.enc false a1)]) [(.tmp 3)] [35] false [] [] (.cons (.same rfl) (.nil)) (zGG.ok a1) h3 (.ag (.cons (.same rfl rfl) (.cons (.same rfl rfl) (.cons (.own 2) (.cons (.own 3) (.cons (.same rfl rfl) (.cons (.same rfl rfl) (.cons (.same rfl rfl) (.cons (.same rfl rfl) (.cons (.same rfl rfl) (.nil)))))))))))) zB) ?_
 exact zBq (ds:=[.ag [iv x2.zC.Code,iv x2.zC.Choices,rr 2 x2.zC.System.Catalog,rr 3 x2.zC.System.zD.Files,iv x2.zC.System.zD.Budget,iv x2.zC.System.zD.Writes,iv x2.zC.System.zD.Stop,bv x2.zC.System.zD.Down]]) (ds':=[.ag (zC.enc true x2.zC)]) (.cons (.ag (.keep rfl (.keep rfl (.move (.tail _ (.head _)) (List.length_map _) (by decide) (.move (.tail _ (.tail _ (.head _))) (List.length_map _) (by decide) (.keep rfl (.keep rfl (.keep rfl (.keep rfl (.nil)))))))))) (.nil) (by decide)) rfl
noncomputable def zTI:Code:=(Tryz.f142.body).getD .skip
theorem vW.ok (a1:Version) (a2:Version):Ok Tryz.prog 142 [.ag (Version.enc a1),.ag (Version.enc a2)] [] ((vW a1 a2).map fun r=>(bv r,[])):=by
 refine zH zTI Tryz.f142 0 20 (fun q=>?_)
 unfold vW
 refine J_g 2 [(0,0),(1,1)] [(2,pp 0),(3,pp 1)] [(0,.box (Version.enc a1)),(1,.box (Version.enc a2))] zB ?_
 refine J_d 12 [] [9] [(9,bv (a1.A !=a2.A))] [] [] zB ?_
 refine zG 9 (fun h3=>?_) (fun h3=>?_)
 ·refine J_g 52 [] [(4,bv false)] [] zB ?_
  exact zM rfl
 ·refine J_d 28 [] [9,14] [(14,bv (a1.B !=a2.B))] [] [] zB ?_
  refine zG 14 (fun h4=>?_) (fun h4=>?_)
  ·refine J_g 116 [] [(4,bv false)] [] zB ?_
   exact zM rfl
  ·refine J_g 60 [] [(19,bv (a1.C !=a2.C))] [] zB ?_
   refine zG 19 (fun h5=>?_) (fun h5=>?_)
   ·refine J_g 244 [] [(4,bv false)] [] zB ?_
    exact zM rfl
   ·refine J_g 62 [] [(4,bv true)] [] zB ?_
    exact zM rfl
noncomputable def c143:Code:=(Tryz.f143.body).getD .skip
theorem zBH.ok (a1:(List ByteArray)) (a2:(List ByteArray)) (q:Wd) (kn:Unit→Option (D×List Ent)) (hk:∀v:Unit,J (q.g Tryz.prog 143 0 26) c143 (atI c143 15) (St.mk' [] []) (some v) kn):
  ∀s10:Int,J (q.g Tryz.prog 143 0 26) c143 (atI c143 116) (St.mk' [(0,sl 1 eStr a1),(1,sl 1 eStr a2),(5,iv s10)] []) (zBH a1 a2 s10) (Fl.go (fun r:Bool=>some (bv r,[])) kn):=by
 refine tQ (fun g ih s10=>?_)
 unfold zCS
 refine J_d 464 [] [14] [(14,bv (decide (s10< (a1.length:Int))))] [] [] zB ?_
 refine zG 14 (fun h11=>?_) (fun h11=>?_)
 ·refine zA (fun x12 h13=>?_)
  refine zA (fun x14 h15=>?_)
  refine J_d 1864 [] [14,25] [(25,bv (!(seq x12 x14)))] [] [] (zF 2 (vI (kk:=.i64) 86 9 1 eStr (.tmp 17) (.tmp 18) h13) (zF 6 (vI (kk:=.i64) 86 9 1 eStr (.tmp 21) (.tmp 22) h15) zB)) ?_
  refine zG 25 (fun h16=>?_) (fun h16=>?_)
  ·refine J_g 7460 [] [(4,bv false)] [] zB ?_
   exact zM rfl
  ·refine J_d 467 [] [5,25] [(5,iv (w64 (s10+1)))] [] [] zB ?_
   exact J_q (J_b (ih (w64 (s10+1)))) rfl
 ·exact yN (hk ()) rfl
theorem zBs.ok (a1:(List ByteArray)) (a2:(List ByteArray)):Ok Tryz.prog 143 [sl 1 eStr a1,sl 1 eStr a2] [] ((zBs a1 a2).map fun r=>(bv r,[])):=by
 refine zH c143 Tryz.f143 0 26 (fun q=>?_)
 unfold zBs
 refine J_g 2 [] [(0,sl 1 eStr a1),(1,sl 1 eStr a2)] [] zB ?_
 refine J_d 12 [] [10] [(10,bv ((a1.length:Int) !=(a2.length:Int)))] [] [] zB ?_
 refine zG 10 (fun h3=>?_) (fun h3=>?_)
 ·refine J_g 52 [] [(4,bv false)] [] zB ?_
  exact zM rfl
 ·refine J_d 28 [] [5,10] [(5,iv 0)] [] [] zB ?_
  refine vZ (K0:=(fun r:Bool=>some (bv r,[]))) (fun _=>rfl) (zBH.ok a1 a2 q _ (fun v17=>J_j ?_) 0)
  refine J_g 30 [] [(4,bv true)] [] zB ?_
  exact zM rfl
noncomputable def c213:Code:=(Tryz.f213.body).getD .skip
theorem zE8.ok (a1:Term) (a2:Term):Ok Tryz.prog 213 [.ag (Term.enc a1),.ag (Term.enc a2)] [] ((zE8 a1 a2).map fun r=>(bv r,[])):=by
 refine zH c213 Tryz.f213 0 22 (fun q=>?_)
 unfold zE8
 refine J_g 2 [(0,0),(1,1)] [(2,pp 0),(3,pp 1)] [(0,.box (Term.enc a1)),(1,.box (Term.enc a2))] zB ?_
 refine J_d 12 [] [9] [(9,bv (!(seq a1.Name a2.Name)))] [] [] zB ?_
 refine zG 9 (fun h3=>?_) (fun h3=>?_)
 ·refine J_g 52 [] [(4,bv false)] [] zB ?_
  exact zM rfl
 ·refine zA (fun x4 h5=>?_)
  refine J_d 28 [] [9,15] [(15,bv (!x4))] [] [] (zF 4 (xC [(.tmp 11),(.tmp 13)] [99,99] (vW.ok a1.Low a2.Low) h5) zB) ?_
  refine zG 15 (fun h6=>?_) (fun h6=>?_)
  ·refine J_g 116 [] [(4,bv false)] [] zB ?_
   exact zM rfl
  ·refine zA (fun x7 h8=>?_)
   refine J_g 60 [] [(21,bv (!x7))] [] (zF 4 (xC [(.tmp 17),(.tmp 19)] [99,99] (vW.ok a1.High a2.High) h8) zB) ?_
   refine zG 21 (fun h9=>?_) (fun h9=>?_)
   ·refine J_g 244 [] [(4,bv false)] [] zB ?_
    exact zM rfl
   ·refine J_g 62 [] [(4,bv true)] [] zB ?_
    exact zM rfl
noncomputable def c145:Code:=(Tryz.f145.body).getD .skip
theorem zDR.ok (a1:(List Term)) (a2:(List Term)) (q:Wd) (kn:Unit→Option (D×List Ent)) (hk:∀v:Unit,J (q.g Tryz.prog 145 0 27) c145 (atI c145 15) (St.mk' [] []) (some v) kn):
  ∀s12:Int,J (q.g Tryz.prog 145 0 27) c145 (atI c145 116) (St.mk' [(0,sl 7 Term.enc a1),(1,sl 7 Term.enc a2),(5,iv s12)] []) (zDR a1 a2 s12) (Fl.go (fun r:Bool=>some (bv r,[])) kn):=by
 refine tQ (fun g ih s12=>?_)
 unfold zE0
 refine J_d 464 [] [14] [(14,bv (decide (s12< (a1.length:Int))))] [] [] zB ?_
 refine zG 14 (fun h13=>?_) (fun h13=>?_)
 ·refine zA (fun x14 h15=>?_)
  refine zA (fun x16 h17=>?_)
  refine zA (fun x18 h19=>?_)
  refine J_d 1864 [] [14,26] [(26,bv (!x18))] [] [] (zF 2 (vI (kk:=.i64) 75 149 7 Term.enc (.tmp 17) (.tmp 18) h15) (zF 6 (vI (kk:=.i64) 75 149 7 Term.enc (.tmp 21) (.tmp 22) h17) (zF 8 (xC [(.tmp 20),(.tmp 24)] [149,149] (zE8.ok x14 x16) h19) zB))) ?_
  refine zG 26 (fun h20=>?_) (fun h20=>?_)
  ·refine J_g 7460 [] [(4,bv false)] [] zB ?_
   exact zM rfl
  ·refine J_d 467 [] [5,26] [(5,iv (w64 (s12+1)))] [] [] zB ?_
   exact J_q (J_b (ih (w64 (s12+1)))) rfl
 ·exact yN (hk ()) rfl
theorem zAW.ok (a1:(List Term)) (a2:(List Term)):Ok Tryz.prog 145 [sl 7 Term.enc a1,sl 7 Term.enc a2] [] ((zAW a1 a2).map fun r=>(bv r,[])):=by
 refine zH c145 Tryz.f145 0 27 (fun q=>?_)
 unfold zAW
 refine J_g 2 [] [(0,sl 7 Term.enc a1),(1,sl 7 Term.enc a2)] [] zB ?_
 refine J_d 12 [] [10] [(10,bv ((a1.length:Int) !=(a2.length:Int)))] [] [] zB ?_
 refine zG 10 (fun h3=>?_) (fun h3=>?_)
 ·refine J_g 52 [] [(4,bv false)] [] zB ?_
  exact zM rfl
 ·refine J_d 28 [] [5,10] [(5,iv 0)] [] [] zB ?_
  refine vZ (K0:=(fun r:Bool=>some (bv r,[]))) (fun _=>rfl) (zDR.ok a1 a2 q _ (fun v21=>J_j ?_) 0)
  refine J_g 30 [] [(4,bv true)] [] zB ?_
  exact zM rfl
noncomputable def zSz:Code:=(Tryz.f144.body).getD .skip
theorem zCu.ok (a1:(List (List Term))) (a2:(List (List Term))) (q:Wd) (kn:Unit→Option (D×List Ent)) (hk:∀v:Unit,J (q.g Tryz.prog 144 0 27) zSz (atI zSz 15) (St.mk' [] []) (some v) kn):
  ∀s12:Int,J (q.g Tryz.prog 144 0 27) zSz (atI zSz 116) (St.mk' [(0,sl 1 (eSl false 7 Term.enc) a1),(1,sl 1 (eSl false 7 Term.enc) a2),(5,iv s12)] []) (zCu a1 a2 s12) (Fl.go (fun r:Bool=>some (bv r,[])) kn):=by
 refine tQ (fun g ih s12=>?_)
 unfold zDT
 refine J_d 464 [] [14] [(14,bv (decide (s12< (a1.length:Int))))] [] [] zB ?_
 refine zG 14 (fun h13=>?_) (fun h13=>?_)
 ·refine zA (fun x14 h15=>?_)
  refine zA (fun x16 h17=>?_)
  refine zA (fun x18 h19=>?_)
  refine J_d 1864 [] [14,26] [(26,bv (!x18))] [] [] (zF 2 (vI (kk:=.i64) 100 75 1 (eSl false 7 Term.enc) (.tmp 17) (.tmp 18) h15) (zF 6 (vI (kk:=.i64) 100 75 1 (eSl false 7 Term.enc) (.tmp 21) (.tmp 22) h17) (zF 8 (xC [(.tmp 20),(.tmp 24)] [75,75] (zAW.ok x14 x16) h19) zB))) ?_
  refine zG 26 (fun h20=>?_) (fun h20=>?_)
  ·refine J_g 7460 [] [(4,bv false)] [] zB ?_
   exact zM rfl
  ·refine J_d 467 [] [5,26] [(5,iv (w64 (s12+1)))] [] [] zB ?_
   exact J_q (J_b (ih (w64 (s12+1)))) rfl
 ·exact yN (hk ()) rfl
theorem zCn.ok (a1:(List (List Term))) (a2:(List (List Term))):Ok Tryz.prog 144 [sl 1 (eSl false 7 Term.enc) a1,sl 1 (eSl false 7 Term.enc) a2] [] ((zCn a1 a2).map fun r=>(bv r,[])):=by
 refine zH zSz Tryz.f144 0 27 (fun q=>?_)
 unfold zCn
 refine J_g 2 [] [(0,sl 1 (eSl false 7 Term.enc) a1),(1,sl 1 (eSl false 7 Term.enc) a2)] [] zB ?_
 refine J_d 12 [] [10] [(10,bv ((a1.length:Int) !=(a2.length:Int)))] [] [] zB ?_
 refine zG 10 (fun h3=>?_) (fun h3=>?_)
 ·refine J_g 52 [] [(4,bv false)] [] zB ?_
  exact zM rfl
 ·refine J_d 28 [] [5,10] [(5,iv 0)] [] [] zB ?_
  refine vZ (K0:=(fun r:Bool=>some (bv r,[]))) (fun _=>rfl) (zCu.ok a1 a2 q _ (fun v21=>J_j ?_) 0)
  refine J_g 30 [] [(4,bv true)] [] zB ?_
  exact zM rfl
noncomputable def c69:Code:=(Tryz.f69.body).getD .skip
theorem zE5.ok (a1:Pack) (a2:Pack):Ok Tryz.prog 69 [.ag (Pack.enc false a1),.ag (Pack.enc false a2)] [] ((zE5 a1 a2).map fun r=>(bv r,[])):=by
 refine zH c69 Tryz.f69 0 39 (fun q=>?_)
 unfold zE5
 refine J_g 2 [(0,0),(1,1)] [(2,pp 0),(3,pp 1)] [(0,.box (Pack.enc false a1)),(1,.box (Pack.enc false a2))] zB ?_
 refine J_d 12 [] [9] [(9,bv (!(seq a1.Name a2.Name)))] [] [] zB ?_
 refine zG 9 (fun h3=>?_) (fun h3=>?_)
 ·refine J_g 52 [] [(4,bv false)] [] zB ?_
  exact zM rfl
 ·refine zA (fun x4 h5=>?_)
  refine J_d 28 [] [9,15] [(15,bv (!x4))] [] [] (zF 4 (xC [(.tmp 11),(.tmp 13)] [99,99] (vW.ok a1.Version a2.Version) h5) zB) ?_
  refine zG 15 (fun h6=>?_) (fun h6=>?_)
  ·refine J_g 116 [] [(4,bv false)] [] zB ?_
   exact zM rfl
  ·refine J_d 60 [] [15,20] [(20,bv (a1.Size !=a2.Size))] [] [] zB ?_
   refine zG 20 (fun h7=>?_) (fun h7=>?_)
   ·refine J_g 244 [] [(4,bv false)] [] zB ?_
    exact zM rfl
   ·refine zA (fun x8 h9=>?_)
    refine J_d 124 [] [20,26] [(26,bv (!x8))] [] [] (zF 4 (xC [(.tmp 22),(.tmp 24)] [86,86] (zBs.ok a1.Provides a2.Provides) h9) zB) ?_
    refine zG 26 (fun h10=>?_) (fun h10=>?_)
    ·refine J_g 500 [] [(4,bv false)] [] zB ?_
     exact zM rfl
    ·refine zA (fun x11 h12=>?_)
     refine J_d 252 [] [26,32] [(32,bv (!x11))] [] [] (zF 4 (xC [(.tmp 28),(.tmp 30)] [100,100] (zCn.ok a1.Needs a2.Needs) h12) zB) ?_
     refine zG 32 (fun h13=>?_) (fun h13=>?_)
     ·refine J_g 1012 [] [(4,bv false)] [] zB ?_
      exact zM rfl
     ·refine zA (fun x14 h15=>?_)
      refine J_g 508 [] [(38,bv (!x14))] [] (zF 4 (xC [(.tmp 34),(.tmp 36)] [75,75] (zAW.ok a1.Bars a2.Bars) h15) zB) ?_
      refine zG 38 (fun h16=>?_) (fun h16=>?_)
      ·refine J_g 2036 [] [(4,bv false)] [] zB ?_
       exact zM rfl
      ·refine J_g 510 [] [(4,bv true)] [] zB ?_
       exact zM rfl
noncomputable def c21:Code:=(Tryz.f21.body).getD .skip
theorem zDr.ok (a1:(List Pack)) (a2:(List Pack)) (q:Wd) (kn:Unit→Option (D×List Ent)) (hk:∀v:Unit,J (q.g Tryz.prog 21 0 27) c21 (atI c21 15) (St.mk' [] []) (some v) kn):
  ∀s12:Int,J (q.g Tryz.prog 21 0 27) c21 (atI c21 116) (St.mk' [(0,sl 8 (Pack.enc false) a1),(1,sl 8 (Pack.enc false) a2),(5,iv s12)] []) (zDr a1 a2 s12) (Fl.go (fun r:Bool=>some (bv r,[])) kn):=by
 refine tQ (fun g ih s12=>?_)
 unfold zE2
 refine J_d 464 [] [14] [(14,bv (decide (s12< (a1.length:Int))))] [] [] zB ?_
 refine zG 14 (fun h13=>?_) (fun h13=>?_)
 ·refine zA (fun x14 h15=>?_)
  refine zA (fun x16 h17=>?_)
  refine zA (fun x18 h19=>?_)
  refine J_d 1864 [] [14,26] [(26,bv (!x18))] [] [] (zF 2 (vI (kk:=.i64) 30 102 8 (Pack.enc false) (.tmp 17) (.tmp 18) h15) (zF 6 (vI (kk:=.i64) 30 102 8 (Pack.enc false) (.tmp 21) (.tmp 22) h17) (zF 8 (xC [(.tmp 20),(.tmp 24)] [102,102] (zE5.ok x14 x16) h19) zB))) ?_
  refine zG 26 (fun h20=>?_) (fun h20=>?_)
  ·refine J_g 7460 [] [(4,bv false)] [] zB ?_
   exact zM rfl
  ·refine J_d 467 [] [5,26] [(5,iv (w64 (s12+1)))] [] [] zB ?_
   exact J_q (J_b (ih (w64 (s12+1)))) rfl
 ·exact yN (hk ()) rfl
theorem zDw.ok (a1:(List Pack)) (a2:(List Pack)):Ok Tryz.prog 21 [sl 8 (Pack.enc false) a1,sl 8 (Pack.enc false) a2] [] ((zDw a1 a2).map fun r=>(bv r,[])):=by
 refine zH c21 Tryz.f21 0 27 (fun q=>?_)
 unfold zDw
 refine J_g 2 [] [(0,sl 8 (Pack.enc false) a1),(1,sl 8 (Pack.enc false) a2)] [] zB ?_
 refine J_d 12 [] [10] [(10,bv ((a1.length:Int) !=(a2.length:Int)))] [] [] zB ?_
 refine zG 10 (fun h3=>?_) (fun h3=>?_)
 ·refine J_g 52 [] [(4,bv false)] [] zB ?_
  exact zM rfl
 ·refine J_d 28 [] [5,10] [(5,iv 0)] [] [] zB ?_
  refine vZ (K0:=(fun r:Bool=>some (bv r,[]))) (fun _=>rfl) (zDr.ok a1 a2 q _ (fun v21=>J_j ?_) 0)
  refine J_g 30 [] [(4,bv true)] [] zB ?_
  exact zM rfl
noncomputable def zSm:Code:=(Tryz.f214.body).getD .skip
theorem zDN.ok (a1:(List Int)) (a2:(List Int)) (q:Wd) (kn:Unit→Option (D×List Ent)) (hk:∀v:Unit,J (q.g Tryz.prog 214 0 26) zSm (atI zSm 15) (St.mk' [] []) (some v) kn):
  ∀s10:Int,J (q.g Tryz.prog 214 0 26) zSm (atI zSm 116) (St.mk' [(0,sl 1 eU8 a1),(1,sl 1 eU8 a2),(5,iv s10)] []) (zDN a1 a2 s10) (Fl.go (fun r:Bool=>some (bv r,[])) kn):=by
 refine tQ (fun g ih s10=>?_)
 unfold zEx
 refine J_d 464 [] [14] [(14,bv (decide (s10< (a1.length:Int))))] [] [] zB ?_
 refine zG 14 (fun h11=>?_) (fun h11=>?_)
 ·refine zA (fun x12 h13=>?_)
  refine zA (fun x14 h15=>?_)
  refine J_d 1864 [] [14,25] [(25,bv (x12 !=x14))] [] [] (zF 2 (vI (kk:=.i64) 121 5 1 eU8 (.tmp 17) (.tmp 18) h13) (zF 6 (vI (kk:=.i64) 121 5 1 eU8 (.tmp 21) (.tmp 22) h15) zB)) ?_
  refine zG 25 (fun h16=>?_) (fun h16=>?_)
  ·refine J_g 7460 [] [(4,bv false)] [] zB ?_
   exact zM rfl
  ·refine J_d 467 [] [5,25] [(5,iv (w64 (s10+1)))] [] [] zB ?_
   exact J_q (J_b (ih (w64 (s10+1)))) rfl
 ·exact yN (hk ()) rfl
theorem zDC.ok (a1:(List Int)) (a2:(List Int)):Ok Tryz.prog 214 [sl 1 eU8 a1,sl 1 eU8 a2] [] ((zDC a1 a2).map fun r=>(bv r,[])):=by
 refine zH zSm Tryz.f214 0 26 (fun q=>?_)
 unfold zDC
 refine J_g 2 [] [(0,sl 1 eU8 a1),(1,sl 1 eU8 a2)] [] zB ?_
 refine J_d 12 [] [10] [(10,bv ((a1.length:Int) !=(a2.length:Int)))] [] [] zB ?_
 refine zG 10 (fun h3=>?_) (fun h3=>?_)
 ·refine J_g 52 [] [(4,bv false)] [] zB ?_
  exact zM rfl
 ·refine J_d 28 [] [5,10] [(5,iv 0)] [] [] zB ?_
  refine vZ (K0:=(fun r:Bool=>some (bv r,[]))) (fun _=>rfl) (zDN.ok a1 a2 q _ (fun v17=>J_j ?_) 0)
  refine J_g 30 [] [(4,bv true)] [] zB ?_
  exact zM rfl
noncomputable def c146:Code:=(Tryz.f146.body).getD .skip
theorem zEB.ok (a1:File) (a2:File):Ok Tryz.prog 146 [.ag (File.enc false a1),.ag (File.enc false a2)] [] ((zEB a1 a2).map fun r=>(bv r,[])):=by
 refine zH c146 Tryz.f146 0 16 (fun q=>?_)
 unfold zEB
 refine J_g 2 [(0,0),(1,1)] [(2,pp 0),(3,pp 1)] [(0,.box (File.enc false a1)),(1,.box (File.enc false a2))] zB ?_
 refine J_d 12 [] [9] [(9,bv (!(seq a1.Path a2.Path)))] [] [] zB ?_
 refine zG 9 (fun h3=>?_) (fun h3=>?_)
 ·refine J_g 52 [] [(4,bv false)] [] zB ?_
  exact zM rfl
 ·refine zA (fun x4 h5=>?_)
  refine J_g 28 [] [(15,bv (!x4))] [] (zF 4 (xC [(.tmp 11),(.tmp 13)] [121,121] (zDC.ok a1.Data a2.Data) h5) zB) ?_
  refine zG 15 (fun h6=>?_) (fun h6=>?_)
  ·refine J_g 116 [] [(4,bv false)] [] zB ?_
   exact zM rfl
  ·refine J_g 30 [] [(4,bv true)] [] zB ?_
   exact zM rfl
noncomputable def c70:Code:=(Tryz.f70.body).getD .skip
theorem zDi.ok (a1:(List File)) (a2:(List File)) (q:Wd) (kn:Unit→Option (D×List Ent)) (hk:∀v:Unit,J (q.g Tryz.prog 70 0 27) c70 (atI c70 15) (St.mk' [] []) (some v) kn):
  ∀s12:Int,J (q.g Tryz.prog 70 0 27) c70 (atI c70 116) (St.mk' [(0,sl 2 (File.enc false) a1),(1,sl 2 (File.enc false) a2),(5,iv s12)] []) (zDi a1 a2 s12) (Fl.go (fun r:Bool=>some (bv r,[])) kn):=by
 refine tQ (fun g ih s12=>?_)
 unfold zEz
 refine J_d 464 [] [14] [(14,bv (decide (s12< (a1.length:Int))))] [] [] zB ?_
 refine zG 14 (fun h13=>?_) (fun h13=>?_)
 ·refine zA (fun x14 h15=>?_)
  refine zA (fun x16 h17=>?_)
  refine zA (fun x18 h19=>?_)
  refine J_d 1864 [] [14,26] [(26,bv (!x18))] [] [] (zF 2 (vI (kk:=.i64) 31 138 2 (File.enc false) (.tmp 17) (.tmp 18) h15) (zF 6 (vI (kk:=.i64) 31 138 2 (File.enc false) (.tmp 21) (.tmp 22) h17) (zF 8 (xC [(.tmp 20),(.tmp 24)] [138,138] (zEB.ok x14 x16) h19) zB))) ?_
  refine zG 26 (fun h20=>?_) (fun h20=>?_)
  ·refine J_g 7460 [] [(4,bv false)] [] zB ?_
   exact zM rfl
  ·refine J_d 467 [] [5,26] [(5,iv (w64 (s12+1)))] [] [] zB ?_
   exact J_q (J_b (ih (w64 (s12+1)))) rfl
 ·exact yN (hk ()) rfl
theorem zDn.ok (a1:(List File)) (a2:(List File)):Ok Tryz.prog 70 [sl 2 (File.enc false) a1,sl 2 (File.enc false) a2] [] ((zDn a1 a2).map fun r=>(bv r,[])):=by
 refine zH c70 Tryz.f70 0 27 (fun q=>?_)
 unfold zDn
 refine J_g 2 [] [(0,sl 2 (File.enc false) a1),(1,sl 2 (File.enc false) a2)] [] zB ?_
 refine J_d 12 [] [10] [(10,bv ((a1.length:Int) !=(a2.length:Int)))] [] [] zB ?_
 refine zG 10 (fun h3=>?_) (fun h3=>?_)
 ·refine J_g 52 [] [(4,bv false)] [] zB ?_
  exact zM rfl
 ·refine J_d 28 [] [5,10] [(5,iv 0)] [] [] zB ?_
  refine vZ (K0:=(fun r:Bool=>some (bv r,[]))) (fun _=>rfl) (zDi.ok a1 a2 q _ (fun v21=>J_j ?_) 0)
  refine J_g 30 [] [(4,bv true)] [] zB ?_
  exact zM rfl
noncomputable def c22:Code:=(Tryz.f22.body).getD .skip
theorem zEI.ok (a1:zD) (a2:zD):Ok Tryz.prog 22 [.ag (zD.enc false a1),.ag (zD.enc false a2)] [] ((zEI a1 a2).map fun r=>(bv r,[])):=by
 refine zH c22 Tryz.f22 0 31 (fun q=>?_)
 unfold zEI
 refine J_g 2 [(0,0),(1,1)] [(2,pp 0),(3,pp 1)] [(0,.box (zD.enc false a1)),(1,.box (zD.enc false a2))] zB ?_
 refine zA (fun x3 h4=>?_)
 refine J_d 12 [] [10] [(10,bv (!x3))] [] [] (zF 4 (xC [(.tmp 6),(.tmp 8)] [31,31] (zDn.ok a1.Files a2.Files) h4) zB) ?_
 refine zG 10 (fun h5=>?_) (fun h5=>?_)
 ·refine J_g 52 [] [(4,bv false)] [] zB ?_
  exact zM rfl
 ·refine J_d 28 [] [10,15] [(15,bv (a1.Budget !=a2.Budget))] [] [] zB ?_
  refine zG 15 (fun h6=>?_) (fun h6=>?_)
  ·refine J_g 116 [] [(4,bv false)] [] zB ?_
   exact zM rfl
  ·refine J_d 60 [] [15,20] [(20,bv (a1.Writes !=a2.Writes))] [] [] zB ?_
   refine zG 20 (fun h7=>?_) (fun h7=>?_)
   ·refine J_g 244 [] [(4,bv false)] [] zB ?_
    exact zM rfl
   ·refine J_d 124 [] [20,25] [(25,bv (a1.Stop !=a2.Stop))] [] [] zB ?_
    refine zG 25 (fun h8=>?_) (fun h8=>?_)
    ·refine J_g 500 [] [(4,bv false)] [] zB ?_
     exact zM rfl
    ·refine J_g 252 [] [(30,bv (!(a1.Down==a2.Down)))] [] zB ?_
     refine zG 30 (fun h9=>?_) (fun h9=>?_)
     ·refine J_g 1012 [] [(4,bv false)] [] zB ?_
      exact zM rfl
     ·refine J_g 254 [] [(4,bv true)] [] zB ?_
      exact zM rfl
noncomputable def c12:Code:=(Tryz.f12.body).getD .skip
theorem kM.ok (a1:System) (a2:System):Ok Tryz.prog 12 [.ag (System.enc false a1),.ag (System.enc false a2)] [] ((kM a1 a2).map fun r=>(bv r,[])):=by
 refine zH c12 Tryz.f12 0 17 (fun q=>?_)
 unfold kM
 refine J_g 2 [(0,0),(1,1)] [(2,pp 0),(3,pp 1)] [(0,.box (System.enc false a1)),(1,.box (System.enc false a2))] zB ?_
 refine zA (fun x3 h4=>?_)
 refine J_d 12 [] [10] [(10,bv (!x3))] [] [] (zF 4 (xC [(.tmp 6),(.tmp 8)] [30,30] (zDw.ok a1.Catalog a2.Catalog) h4) zB) ?_
 refine zG 10 (fun h5=>?_) (fun h5=>?_)
 ·refine J_g 52 [] [(4,bv false)] [] zB ?_
  exact zM rfl
 ·refine zA (fun x6 h7=>?_)
  refine J_g 28 [] [(16,bv (!x6))] [] (zF 4 (xC [(.tmp 12),(.tmp 14)] [33,33] (zEI.ok a1.zD a2.zD) h7) zB) ?_
  refine zG 16 (fun h8=>?_) (fun h8=>?_)
  ·refine J_g 116 [] [(4,bv false)] [] zB ?_
   exact zM rfl
  ·refine J_g 30 [] [(4,bv true)] [] zB ?_
   exact zM rfl
noncomputable def c39:Code:=(Tryz.f39.body).getD .skip
theorem wL.ok (a1:zC) (a2:zC):Ok Tryz.prog 39 [.ag (zC.enc false a1),.ag (zC.enc false a2)] [] ((wL a1 a2).map fun r=>(bv r,[])):=by
 refine zH c39 Tryz.f39 0 21 (fun q=>?_)
 unfold wL
 refine J_g 2 [(0,0),(1,1)] [(2,pp 0),(3,pp 1)] [(0,.box (zC.enc false a1)),(1,.box (zC.enc false a2))] zB ?_
 refine J_d 12 [] [9] [(9,bv (a1.Code !=a2.Code))] [] [] zB ?_
 refine zG 9 (fun h3=>?_) (fun h3=>?_)
 ·refine J_g 52 [] [(4,bv false)] [] zB ?_
  exact zM rfl
 ·refine J_d 28 [] [9,14] [(14,bv (a1.Choices !=a2.Choices))] [] [] zB ?_
  refine zG 14 (fun h4=>?_) (fun h4=>?_)
  ·refine J_g 116 [] [(4,bv false)] [] zB ?_
   exact zM rfl
  ·refine zA (fun x5 h6=>?_)
   refine J_g 60 [] [(20,bv (!x5))] [] (zF 4 (xC [(.tmp 16),(.tmp 18)] [35,35] (kM.ok a1.System a2.System) h6) zB) ?_
   refine zG 20 (fun h7=>?_) (fun h7=>?_)
   ·refine J_g 244 [] [(4,bv false)] [] zB ?_
    exact zM rfl
   ·refine J_g 62 [] [(4,bv true)] [] zB ?_
    exact zM rfl
noncomputable def c71:Code:=(Tryz.f71.body).getD .skip
theorem zCG.ok (q:Wd) (kn:ByteArray→Option (D×List Ent)) (hk:∀v:ByteArray,J (q.g Tryz.prog 71 0 20) c71 (atI c71 31) (St.mk' [(3,sv v)] []) (some v) kn):
  ∀s6:(Int×ByteArray),J (q.g Tryz.prog 71 0 20) c71 (atI c71 120) (St.mk' [(0,iv s6.1),(3,sv s6.2)] []) (zCG s6) kn:=by
 refine tQ (fun g ih s6=>?_)
 unfold zDS
 refine J_d 480 [] [7] [(7,bv (decide (s6.1>0)))] [] [] zB ?_
 refine zG 7 (fun h7=>?_) (fun h7=>?_)
 ·refine zA (fun x8 h9=>?_)
  refine J_g 964 [] [(0,iv s6.1),(3,sv x8)] [] (zF 4 (zFk 121 5 1 0 eU8 [IntKind.u8.wrap (w64 (48+(s6.1.tmod 10)))] [0] [(.tmp 11)] [uv (IntKind.u8.wrap (w64 (48+(s6.1.tmod 10))))]) (zF 5 (zOR (xs:=[IntKind.u8.wrap (w64 (48+(s6.1.tmod 10)))]) 121 9 5 0 (.tmp 12)) (zF 7 (zEf 9 9 (.tmp 13) (.tmp 14) h9) zB))) ?_
  refine J_g 965 [] [(0,iv (w64 (s6.1.tdiv 10))),(3,sv x8)] [] zB ?_
  exact J_q (J_b (ih (w64 (s6.1.tdiv 10),x8))) rfl
 ·exact yN (hk s6.2) rfl
theorem xE.ok (a1:Int):Ok Tryz.prog 71 [iv a1] [] ((xE a1).map fun r=>(sv r,[])):=by
 refine zH c71 Tryz.f71 0 20 (fun q=>?_)
 unfold xE
 refine J_g 2 [] [(0,iv a1)] [] zB ?_
 refine J_g 12 [] [(0,iv a1),(5,bv (decide (a1≤0)))] [] zB ?_
 refine zG 5 (fun h2=>?_) (fun h2=>?_)
 ·refine J_g 52 [] [(2,sv (bs [109,48]))] [] zB ?_
  exact zM rfl
 ·refine J_g 14 [] [(0,iv a1),(3,sv (bs []))] [] zB ?_
  refine zFJ (zCG.ok q _ (fun v10=>J_j ?_) (a1,bs []))
  refine zA (fun x11 h12=>?_)
  refine J_g 62 [] [(2,sv x11)] [] (zF 1 (zEf 9 9 (.const (.string (bs [109]))) (.tmp 18) h12) zB) ?_
  exact zM rfl
end Go.Told

import Derived.Test.YtobkkecdnlecgaaGreatDoorOkShownOfx1
set_option linter.unusedVariables false
set_option maxRecDepth 4000
namespace Go.Told
open Go Go.Im Go.Proofs
noncomputable def zSP:Code:=(Tryz.f242.body).getD .skip
theorem zAv.ok (a1:(List Term)):Ok Tryz.prog 242 [sl 7 Term.enc a1] [] ((zAv a1).map fun r=>(bv r,[])):=by
 refine zH zSP Tryz.f242 0 6 (fun q=>?_)
 unfold zAv
 refine J_g 2 [] [(0,sl 7 Term.enc a1)] [] zB ?_
 refine J_g 6 [] [(2,bv (decide ((a1.length:Int)>4)))] [] zB ?_
 exact zR rfl
noncomputable def zR0:Code:=(Tryz.f293.body).getD .skip
theorem yR.ok (a1:(List (List Term))) (q:Wd) (kn:Unit→Option (D×List Ent)) (hk:∀v:Unit,J (q.g Tryz.prog 293 0 19) zR0 (atI zR0 7) (St.mk' [] []) (some v) kn):
  ∀s8:Int,J (q.g Tryz.prog 293 0 19) zR0 (atI zR0 52) (St.mk' [(0,sl 1 (eSl false 7 Term.enc) a1),(1,.fn 242 []),(7,iv (a1.length:Int)),(8,iv s8)] []) (yR a1 s8) (Fl.go (fun r:Int=>some (iv r,[])) kn):=by
 refine jJ (fun g ih s8=>?_)
 unfold yL
 refine J_g 104 [] [(0,sl 1 (eSl false 7 Term.enc) a1),(1,.fn 242 []),(7,iv (a1.length:Int)),(8,iv s8),(9,bv (decide (s8< (a1.length:Int))))] [] zB ?_
 refine zD 9 (fun h9=>?_) (fun h9=>?_)
 ·refine J_g 1688 [] [(0,sl 1 (eSl false 7 Term.enc) a1),(1,.fn 242 []),(5,iv s8),(7,iv (a1.length:Int)),(8,iv s8)] [] zB ?_
  refine zA (fun x10 h11=>?_)
  refine zA (fun x12 h13=>?_)
  refine J_g 3378 [] [(0,sl 1 (eSl false 7 Term.enc) a1),(1,.fn 242 []),(5,iv s8),(7,iv (a1.length:Int)),(8,iv s8),(16,bv x12)] [] (zC 3 (uN (kk:=.i64) 100 75 1 (eSl false 7 Term.enc) (.tmp 12) (.tmp 13) h11) (zC 5 (zOD («as»:=[sl 7 Term.enc x10]) (caps:=[]) 11 [(.tmp 15)] [75] (zAv.ok x10) h13) zB)) ?_
  refine zD 16 (fun h14=>?_) (fun h14=>?_)
  ·refine J_g 13516 [] [(4,iv s8)] [] zB ?_
   exact zR rfl
  ·refine J_g 423 [] [(0,sl 1 (eSl false 7 Term.enc) a1),(1,.fn 242 []),(7,iv (a1.length:Int)),(8,iv (w64 (s8+1)))] [] zB ?_
   exact J_q (J_b (ih (w64 (s8+1)))) rfl
 ·exact xB (hk ()) rfl
theorem yG.ok (a1:(List (List Term))):Ok Tryz.prog 293 [sl 1 (eSl false 7 Term.enc) a1,.fn 242 []] [] ((yG a1).map fun r=>(iv r,[])):=by
 refine zH zR0 Tryz.f293 0 19 (fun q=>?_)
 unfold yG
 refine J_g 2 [] [(0,sl 1 (eSl false 7 Term.enc) a1),(1,.fn 242 [])] [] zB ?_
 refine J_g 12 [] [(0,sl 1 (eSl false 7 Term.enc) a1),(1,.fn 242 []),(7,iv (a1.length:Int)),(8,iv 0)] [] zB ?_
 refine vY (K0:=(fun r:Int=>some (iv r,[]))) (fun _=>rfl) (yR.ok a1 q _ (fun v15=>J_j ?_) 0)
 refine J_g 14 [] [(4,iv (-1))] [] zB ?_
 exact zR rfl
noncomputable def zTj:Code:=(Tryz.f241.body).getD .skip
theorem zS.ok (a1:(List (List Term))):Ok Tryz.prog 241 [sl 1 (eSl false 7 Term.enc) a1,.fn 242 []] [] ((zS a1).map fun r=>(bv r,[])):=by
 refine zH zTj Tryz.f241 0 9 (fun q=>?_)
 unfold zS
 refine J_g 2 [] [(0,sl 1 (eSl false 7 Term.enc) a1),(1,.fn 242 [])] [] zB ?_
 refine zA (fun x2 h3=>?_)
 refine J_g 6 [] [(4,bv (decide (x2≥0)))] [] (zC 2 (uH («as»:=[sl 1 (eSl false 7 Term.enc) a1,.fn 242 []]) [(.tmp 5),(.tmp 6)] [100,154] false [] [] (.cons (.same rfl) (.cons (.fn (.nil)) (.nil))) (yG.ok a1) h3 (.same rfl rfl)) zB) ?_
 exact zR rfl
noncomputable def zRt:Code:=(Tryz.f209.body).getD .skip
theorem vX.ok (a1:(List ByteArray)) (a2:ByteArray) (q:Wd) (kn:Unit→Option (D×List Ent)) (hk:∀v:Unit,J (q.g Tryz.prog 209 0 19) zRt (atI zRt 7) (St.mk' [] []) (some v) kn):
  ∀s7:Int,J (q.g Tryz.prog 209 0 19) zRt (atI zRt 52) (St.mk' [(0,sl 1 eStr a1),(1,sv a2),(7,iv (a1.length:Int)),(8,iv s7)] []) (vX a1 a2 s7) (Fl.go (fun r:Int=>some (iv r,[])) kn):=by
 refine jJ (fun g ih s7=>?_)
 unfold vT
 refine J_g 104 [] [(0,sl 1 eStr a1),(1,sv a2),(7,iv (a1.length:Int)),(8,iv s7),(9,bv (decide (s7< (a1.length:Int))))] [] zB ?_
 refine zD 9 (fun h8=>?_) (fun h8=>?_)
 ·refine J_g 1688 [] [(0,sl 1 eStr a1),(1,sv a2),(5,iv s7),(7,iv (a1.length:Int)),(8,iv s7)] [] zB ?_
  refine zA (fun x9 h10=>?_)
  refine J_g 3378 [] [(0,sl 1 eStr a1),(1,sv a2),(5,iv s7),(7,iv (a1.length:Int)),(8,iv s7),(16,bv (seq a2 x9))] [] (zC 3 (uN (kk:=.i64) 86 9 1 eStr (.tmp 12) (.tmp 13) h10) zB) ?_
  refine zD 16 (fun h11=>?_) (fun h11=>?_)
  ·refine J_g 13516 [] [(4,iv s7)] [] zB ?_
   exact zR rfl
  ·refine J_g 423 [] [(0,sl 1 eStr a1),(1,sv a2),(7,iv (a1.length:Int)),(8,iv (w64 (s7+1)))] [] zB ?_
   exact J_q (J_b (ih (w64 (s7+1)))) rfl
 ·exact xB (hk ()) rfl
theorem uI.ok (a1:(List ByteArray)) (a2:ByteArray):Ok Tryz.prog 209 [sl 1 eStr a1,sv a2] [] ((uI a1 a2).map fun r=>(iv r,[])):=by
 refine zH zRt Tryz.f209 0 19 (fun q=>?_)
 unfold uI
 refine J_g 2 [] [(0,sl 1 eStr a1),(1,sv a2)] [] zB ?_
 refine J_g 12 [] [(0,sl 1 eStr a1),(1,sv a2),(7,iv (a1.length:Int)),(8,iv 0)] [] zB ?_
 refine vY (K0:=(fun r:Int=>some (iv r,[]))) (fun _=>rfl) (vX.ok a1 a2 q _ (fun v12=>J_j ?_) 0)
 refine J_g 14 [] [(4,iv (-1))] [] zB ?_
 exact zR rfl
noncomputable def zSD:Code:=(Tryz.f137.body).getD .skip
theorem wP.ok (a1:(List ByteArray)) (a2:ByteArray):Ok Tryz.prog 137 [sl 1 eStr a1,sv a2] [] ((wP a1 a2).map fun r=>(bv r,[])):=by
 refine zH zSD Tryz.f137 0 9 (fun q=>?_)
 unfold wP
 refine J_g 2 [] [(0,sl 1 eStr a1),(1,sv a2)] [] zB ?_
 refine zA (fun x3 h4=>?_)
 refine J_g 6 [] [(4,bv (decide (x3≥0)))] [] (zC 2 (xO [(.tmp 5),(.tmp 6)] [86,9] (uI.ok a1 a2) h4) zB) ?_
 exact zR rfl
noncomputable def zTs:Code:=(Tryz.f254.body).getD .skip
theorem zDq.ok:Ok Tryz.prog 254 [] [] ((zDq).map fun r=>(.ag (Version.enc r),[])):=by
 refine zH zTs Tryz.f254 0 2 (fun q=>?_)
 unfold zDq
 refine J_g 2 [(0,0)] [(0,pp 0)] [(0,.box [iv 0,iv 0,iv 0])] zB ?_
 refine J_g 6 [] [(0,pp 0)] [(0,.box [iv 1000,iv 0,iv 0])] zB ?_
 exact zR rfl
noncomputable def zSY:Code:=(Tryz.f310.body).getD .skip
theorem tT.ok (a1:Int):Ok Tryz.prog 310 [iv a1] [] ((tT a1).map fun r=>(bv r,[])):=by
 refine zH zSY Tryz.f310 0 6 (fun q=>?_)
 unfold tT
 refine J_g 2 [] [(0,iv a1)] [] zB ?_
 refine J_g 6 [] [(2,bv (a1 !=a1))] [] zB ?_
 exact zR rfl
noncomputable def zTd:Code:=(Tryz.f303.body).getD .skip
theorem wK.ok (a1:Int) (a2:Int):Ok Tryz.prog 303 [iv a1,iv a2] [] ((wK a1 a2).map fun r=>(iv r,[])):=by
 refine zH zTd Tryz.f303 0 20 (fun q=>?_)
 unfold wK
 refine J_g 2 [] [(0,iv a1),(1,iv a2)] [] zB ?_
 refine zA (fun x3 h4=>?_)
 refine J_g 6 [] [(0,iv a1),(1,iv a2),(5,bv x3)] [] (zC 1 (xO [(.tmp 7)] [2] (tT.ok a1) h4) zB) ?_
 refine zA (fun x5 h6=>?_)
 refine J_g 14 [] [(0,iv a1),(1,iv a2),(5,bv x3),(6,bv x5)] [] (zC 1 (xO [(.tmp 9)] [2] (tT.ok a2) h6) zB) ?_
 refine J_g 60 [] [(0,iv a1),(1,iv a2),(6,bv x5),(11,bv x3)] [] zB ?_
 refine zD 11 (fun h7=>?_) (fun h7=>?_)
 ·refine J_g 488 [] [(12,bv x5)] [] zB ?_
  refine zD 12 (fun h8=>?_) (fun h8=>?_)
  ·refine J_g 1956 [] [(4,iv 0)] [] zB ?_
   exact zR rfl
  ·refine J_g 490 [] [(4,iv (-1))] [] zB ?_
   exact zR rfl
 ·refine J_g 124 [] [(0,iv a1),(1,iv a2),(13,bv x5)] [] zB ?_
  refine zD 13 (fun h9=>?_) (fun h9=>?_)
  ·refine J_g 500 [] [(4,iv 1)] [] zB ?_
   exact zR rfl
  ·refine J_g 252 [] [(0,iv a1),(1,iv a2),(16,bv (decide (a1<a2)))] [] zB ?_
   refine zD 16 (fun h10=>?_) (fun h10=>?_)
   ·refine J_g 1012 [] [(4,iv (-1))] [] zB ?_
    exact zR rfl
   ·refine J_g 508 [] [(19,bv (decide (a1>a2)))] [] zB ?_
    refine zD 19 (fun h11=>?_) (fun h11=>?_)
    ·refine J_g 2036 [] [(4,iv 1)] [] zB ?_
     exact zR rfl
    ·refine J_g 510 [] [(4,iv 0)] [] zB ?_
     exact zR rfl
noncomputable def zRB:Code:=(Tryz.f302.body).getD .skip
theorem zE2.ok (a1:(List Int)) (q:Wd) (kn:Unit→Option (D×List Ent)) (hk:∀v:Unit,J (q.g Tryz.prog 302 0 18) zRB (atI zRB 15) (St.mk' [(3,iv 0)] []) (some v) kn):
  ∀s6:Int,J (q.g Tryz.prog 302 0 18) zRB (atI zRB 116) (St.mk' [(3,iv 0),(6,sl 1 zG a1),(7,iv (a1.length:Int)),(8,iv s6)] []) (zE2 a1 s6) (Fl.go (fun r:Int=>some (iv r,[])) kn):=by
 refine jJ (fun g ih s6=>?_)
 unfold zDz
 refine J_g 232 [] [(3,iv 0),(6,sl 1 zG a1),(7,iv (a1.length:Int)),(8,iv s6),(9,bv (decide (s6< (a1.length:Int))))] [] zB ?_
 refine zD 9 (fun h7=>?_) (fun h7=>?_)
 ·refine zA (fun x8 h9=>?_)
  refine J_g 3736 [] [(3,iv 0),(5,iv x8),(6,sl 1 zG a1),(7,iv (a1.length:Int)),(8,iv s6)] [] (zC 0 (uN (kk:=.i64) 318 3 1 zG (.tmp 6) (.tmp 8) h9) zB) ?_
  refine J_g 7474 [] [(3,iv 0),(5,iv x8),(6,sl 1 zG a1),(7,iv (a1.length:Int)),(8,iv s6),(14,bv (x8 !=0))] [] zB ?_
  refine zD 14 (fun h10=>?_) (fun h10=>?_)
  ·refine J_g 29900 [] [(2,iv x8)] [] zB ?_
   exact zR rfl
  ·refine J_g 935 [] [(3,iv 0),(6,sl 1 zG a1),(7,iv (a1.length:Int)),(8,iv (w64 (s6+1)))] [] zB ?_
   exact J_q (J_b (ih (w64 (s6+1)))) rfl
 ·exact xB (hk ()) rfl
theorem zEW.ok (a1:(List Int)):Ok Tryz.prog 302 [sl 1 zG a1] [] ((zEW a1).map fun r=>(iv r,[])):=by
 refine zH zRB Tryz.f302 0 18 (fun q=>?_)
 unfold zEW
 refine J_g 2 [] [(0,sl 1 zG a1)] [] zB ?_
 refine J_g 6 [] [(0,sl 1 zG a1),(3,iv 0)] [] zB ?_
 refine J_g 28 [] [(3,iv 0),(6,sl 1 zG a1),(7,iv (a1.length:Int)),(8,iv 0)] [] zB ?_
 refine vY (K0:=(fun r:Int=>some (iv r,[]))) (fun _=>rfl) (zE2.ok a1 q _ (fun v11=>J_j ?_) 0)
 refine J_g 30 [] [(2,iv 0)] [] zB ?_
 exact zR rfl
noncomputable def zTl:Code:=(Tryz.f257.body).getD .skip
theorem uM.ok (a1:Version) (a2:Version):Ok Tryz.prog 257 [.ag (Version.enc a1),.ag (Version.enc a2)] [] ((uM a1 a2).map fun r=>(iv r,[])):=by
 refine zH zTl Tryz.f257 0 22 (fun q=>?_)
 unfold uM
 refine J_g 2 [(0,0),(1,1)] [(2,pp 0),(3,pp 1)] [(0,.box (Version.enc a1)),(1,.box (Version.enc a2))] zB ?_
 refine zA (fun x3 h4=>?_)
 refine zA (fun x5 h6=>?_)
 refine zA (fun x7 h8=>?_)
 refine zA (fun x9 h10=>?_)
 refine J_g 6 [] [(4,iv x9)] [] (zC 4 (xO [(.tmp 6),(.tmp 8)] [2,2] (wK.ok a1.A a2.A) h4) (zC 9 (xO [(.tmp 11),(.tmp 13)] [2,2] (wK.ok a1.B a2.B) h6) (zC 14 (xO [(.tmp 16),(.tmp 18)] [2,2] (wK.ok a1.C a2.C) h8) (zC 15 (zFd 318 3 1 2 zG [x3,x5,x7] [0,1,2] [(.tmp 9),(.tmp 14),(.tmp 19)] [iv x3,iv x5,iv x7]) (zC 16 (uH («as»:=[rr 2 [x3,x5,x7]]) [(.tmp 20)] [318] true [(2,rE 1 zG [x3,x5,x7])] [] (.cons (zF1 (.head _) (fun _=>rfl) rfl) (.nil)) (zEW.ok [x3,x5,x7]) h10 (.same rfl rfl) (hbor:=fun _=>⟨fhN,yB⟩)) zB))))) ?_
 exact zR rfl
noncomputable def zS2:Code:=(Tryz.f190.body).getD .skip
theorem vB.ok (a1:Term):Ok Tryz.prog 190 [.ag (Term.enc a1)] [] ((vB a1).map fun r=>(iv r,[])):=by
 refine zH zS2 Tryz.f190 0 35 (fun q=>?_)
 unfold vB
 refine J_g 2 [(0,0)] [(1,pp 0)] [(0,.box (Term.enc a1))] zB ?_
 refine zA (fun x2 h3=>?_)
 refine J_g 12 [] [(1,pp 0),(3,iv x2)] [(0,.box (Term.enc a1))] (zC 2 (xO [(.tmp 6)] [9] (wW.ok a1.Name) h3) zB) ?_
 refine J_g 26 [] [(1,pp 0),(3,iv x2),(9,bv (x2 !=0))] [(0,.box (Term.enc a1))] zB ?_
 refine zD 9 (fun h4=>?_) (fun h4=>?_)
 ·refine J_g 108 [] [(2,iv x2)] [] zB ?_
  exact zR rfl
 ·refine zA (fun x5 h6=>?_)
  refine J_g 28 [] [(1,pp 0),(4,iv x5)] [(0,.box (Term.enc a1))] (zC 2 (xO [(.tmp 12)] [99] (wM.ok a1.Low) h6) zB) ?_
  refine J_g 58 [] [(1,pp 0),(4,iv x5),(15,bv (x5 !=0))] [(0,.box (Term.enc a1))] zB ?_
  refine zD 15 (fun h7=>?_) (fun h7=>?_)
  ·refine J_g 236 [] [(2,iv x5)] [] zB ?_
   exact zR rfl
  ·refine zA (fun x8 h9=>?_)
   refine wD (atI zS2 121) (fun v13:Bool=>St.mk' [(1,pp 0),(17,bv v13)] [(0,.box (Term.enc a1))]) (fun v13=>?_) (fun jv13=>?_)
   ·refine zD 17 (fun h14=>?_) (fun h14=>?_)
    ·refine J_g 484 [] [(2,iv 3)] [] zB ?_
     exact zR rfl
    ·refine zA (fun x15 h16=>?_)
     refine J_g 486 [] [(28,bv (decide (x15≥0)))] [] (zC 4 (xO [(.tmp 30),(.tmp 32)] [99,99] (uM.ok a1.Low a1.High) h16) zB) ?_
     refine zD 28 (fun h17=>?_) (fun h17=>?_)
     ·refine J_g 1948 [] [(2,iv 1)] [] zB ?_
      exact zR rfl
     ·refine J_g 62 [] [(2,iv 0)] [] zB ?_
      exact zR rfl
   ·refine wN (fun h10=>?_) (fun h10=>?_)
    ·refine zA (fun x11 h12=>?_)
     refine J_g 120 [] [(1,pp 0),(17,bv (x11 !=0))] [(0,.box (Term.enc a1))] (zC 2 (xO [] [] (zDq.ok) h9) (zC 3 (zKo (b:=.neq) (r:=(a1.High.A==x8.A&&(a1.High.B==x8.B&&(a1.High.C==x8.C&&true)))) 99 99 (.tmp 19) (.tmp 20) [.int .i64 a1.High.A,.int .i64 a1.High.B,.int .i64 a1.High.C] [.int .i64 x8.A,.int .i64 x8.B,.int .i64 x8.C] (.inr ⟨rfl,rfl⟩)) (wF 4 [(21,bv (!(a1.High.A==x8.A&&(a1.High.B==x8.B&&(a1.High.C==x8.C&&true)))))] [] h10 (zAR 7 4 22 true (xO [(.tmp 24)] [99] (wM.ok a1.High) h12) zB)))) ?_
     exact xB (J_j (jv13 (x11 !=0))) rfl
    ·refine J_g 120 [] [(1,pp 0),(17,bv false)] [(0,.box (Term.enc a1))] (zC 2 (xO [] [] (zDq.ok) h9) (zC 3 (zKo (b:=.neq) (r:=(a1.High.A==x8.A&&(a1.High.B==x8.B&&(a1.High.C==x8.C&&true)))) 99 99 (.tmp 19) (.tmp 20) [.int .i64 a1.High.A,.int .i64 a1.High.B,.int .i64 a1.High.C] [.int .i64 x8.A,.int .i64 x8.B,.int .i64 x8.C] (.inr ⟨rfl,rfl⟩)) (wF 4 [(21,bv (!(a1.High.A==x8.A&&(a1.High.B==x8.B&&(a1.High.C==x8.C&&true)))))] [] h10 zB))) ?_
     exact xB (J_j (jv13 false)) rfl
noncomputable def zRD:Code:=(Tryz.f191.body).getD .skip
theorem zAN.ok (a1:(List Term)) (q:Wd) (kn:Unit→Option (D×List Ent)) (hk:∀v:Unit,J (q.g Tryz.prog 191 0 18) zRD (atI zRD 7) (St.mk' [] []) (some v) kn):
  ∀s8:Int,J (q.g Tryz.prog 191 0 18) zRD (atI zRD 52) (St.mk' [(6,sl 7 Term.enc a1),(7,iv (a1.length:Int)),(8,iv s8)] []) (zAN a1 s8) (Fl.go (fun r:Int=>some (iv r,[])) kn):=by
 refine jJ (fun g ih s8=>?_)
 unfold zAg
 refine J_g 104 [] [(6,sl 7 Term.enc a1),(7,iv (a1.length:Int)),(8,iv s8),(9,bv (decide (s8< (a1.length:Int))))] [] zB ?_
 refine zD 9 (fun h9=>?_) (fun h9=>?_)
 ·refine zA (fun x10 h11=>?_)
  refine J_g 1688 [(2,0)] [(4,pp 0),(6,sl 7 Term.enc a1),(7,iv (a1.length:Int)),(8,iv s8)] [(0,.box (Term.enc x10))] (zC 0 (uN (kk:=.i64) 75 149 7 Term.enc (.tmp 6) (.tmp 8) h11) zB) ?_
  refine zA (fun x12 h13=>?_)
  refine J_g 3378 [] [(5,iv x12),(6,sl 7 Term.enc a1),(7,iv (a1.length:Int)),(8,iv s8)] [] (zC 1 (xO [(.tmp 12)] [149] (vB.ok x10) h13) zB) ?_
  refine J_g 6758 [] [(5,iv x12),(6,sl 7 Term.enc a1),(7,iv (a1.length:Int)),(8,iv s8),(15,bv (x12 !=0))] [] zB ?_
  refine zD 15 (fun h14=>?_) (fun h14=>?_)
  ·refine J_g 27036 [] [(2,iv x12)] [] zB ?_
   exact zR rfl
  ·refine J_g 423 [] [(6,sl 7 Term.enc a1),(7,iv (a1.length:Int)),(8,iv (w64 (s8+1)))] [] zB ?_
   exact J_q (J_b (ih (w64 (s8+1)))) rfl
 ·exact xB (hk ()) rfl
theorem wT.ok (a1:(List Term)):Ok Tryz.prog 191 [sl 7 Term.enc a1] [] ((wT a1).map fun r=>(iv r,[])):=by
 refine zH zRD Tryz.f191 0 18 (fun q=>?_)
 unfold wT
 refine J_g 2 [] [(0,sl 7 Term.enc a1)] [] zB ?_
 refine J_g 12 [] [(6,sl 7 Term.enc a1),(7,iv (a1.length:Int)),(8,iv 0)] [] zB ?_
 refine vY (K0:=(fun r:Int=>some (iv r,[]))) (fun _=>rfl) (zAN.ok a1 q _ (fun v15=>J_j ?_) 0)
 refine J_g 14 [] [(2,iv 0)] [] zB ?_
 exact zR rfl
noncomputable def c173:Code:=(Tryz.f173.body).getD .skip
theorem kC.ok (a1:Pack) (q:Wd) (kn:Unit→Option (D×List Ent)) (hk:∀v:Unit,J (q.g Tryz.prog 173 0 93) c173 (atI c173 63) (St.mk' [(1,pp 0)] [(0,.box (Pack.enc false a1))]) (some v) kn):
  ∀s54:Int,J (q.g Tryz.prog 173 0 93) c173 (atI c173 500) (St.mk' [(1,pp 0),(75,sl 1 (eSl false 7 Term.enc) a1.Needs),(76,iv (a1.Needs.length:Int)),(77,iv s54)] [(0,.box (Pack.enc false a1))]) (kC a1 s54) (Fl.go (fun r:Int=>some (iv r,[])) kn):=by
 refine jJ (fun g ih s54=>?_)
 unfold zAA
 refine J_g 1000 [] [(1,pp 0),(75,sl 1 (eSl false 7 Term.enc) a1.Needs),(76,iv (a1.Needs.length:Int)),(77,iv s54),(78,bv (decide (s54< (a1.Needs.length:Int))))] [(0,.box (Pack.enc false a1))] zB ?_
 refine zD 78 (fun h55=>?_) (fun h55=>?_)
 ·refine zA (fun x56 h57=>?_)
  refine J_g 16024 [] [(1,pp 0),(8,sl 7 Term.enc x56),(75,sl 1 (eSl false 7 Term.enc) a1.Needs),(76,iv (a1.Needs.length:Int)),(77,iv s54)] [(0,.box (Pack.enc false a1))] (zC 0 (uN (kk:=.i64) 100 75 1 (eSl false 7 Term.enc) (.tmp 75) (.tmp 77) h57) zB) ?_
  refine J_g 64100 [] [(1,pp 0),(8,sl 7 Term.enc x56),(75,sl 1 (eSl false 7 Term.enc) a1.Needs),(76,iv (a1.Needs.length:Int)),(77,iv s54),(83,bv ((x56.length:Int)==0))] [(0,.box (Pack.enc false a1))] zB ?_
  refine zD 83 (fun h58=>?_) (fun h58=>?_)
  ·refine J_g 256404 [] [(2,iv 1)] [] zB ?_
   exact zR rfl
  ·refine zA (fun x59 h60=>?_)
   refine J_g 64102 [] [(1,pp 0),(9,iv x59),(75,sl 1 (eSl false 7 Term.enc) a1.Needs),(76,iv (a1.Needs.length:Int)),(77,iv s54)] [(0,.box (Pack.enc false a1))] (zC 1 (xO [(.tmp 84)] [75] (wT.ok x56) h60) zB) ?_
   refine J_g 128206 [] [(1,pp 0),(9,iv x59),(75,sl 1 (eSl false 7 Term.enc) a1.Needs),(76,iv (a1.Needs.length:Int)),(77,iv s54),(87,bv (x59 !=0))] [(0,.box (Pack.enc false a1))] zB ?_
   refine zD 87 (fun h61=>?_) (fun h61=>?_)
   ·refine J_g 512828 [] [(2,iv x59)] [] zB ?_
    exact zR rfl
   ·refine J_g 4007 [] [(1,pp 0),(75,sl 1 (eSl false 7 Term.enc) a1.Needs),(76,iv (a1.Needs.length:Int)),(77,iv (w64 (s54+1)))] [(0,.box (Pack.enc false a1))] zB ?_
    exact J_q (J_b (ih (w64 (s54+1)))) rfl
 ·exact xB (hk ()) rfl
theorem kE.ok (a1:Pack) (q:Wd) (kn:Unit→Option (D×List Ent)) (hk:∀v:Unit,J (q.g Tryz.prog 173 0 93) c173 (atI c173 31) (St.mk' [(1,pp 0)] [(0,.box (Pack.enc false a1))]) (some v) kn):
  ∀s32:Int,J (q.g Tryz.prog 173 0 93) c173 (atI c173 244) (St.mk' [(1,pp 0),(49,sl 1 eStr a1.Provides),(50,iv (a1.Provides.length:Int)),(51,iv s32)] [(0,.box (Pack.enc false a1))]) (kE a1 s32) (Fl.go (fun r:Int=>some (iv r,[])) kn):=by
 refine jJ (fun g ih s32=>?_)
 unfold zAD
 refine J_g 488 [] [(1,pp 0),(49,sl 1 eStr a1.Provides),(50,iv (a1.Provides.length:Int)),(51,iv s32),(52,bv (decide (s32< (a1.Provides.length:Int))))] [(0,.box (Pack.enc false a1))] zB ?_
 refine zD 52 (fun h33=>?_) (fun h33=>?_)
 ·refine zA (fun x34 h35=>?_)
  refine J_g 7832 [] [(1,pp 0),(4,iv s32),(5,sv x34),(49,sl 1 eStr a1.Provides),(50,iv (a1.Provides.length:Int)),(51,iv s32)] [(0,.box (Pack.enc false a1))] (zC 1 (uN (kk:=.i64) 86 9 1 eStr (.tmp 49) (.tmp 51) h35) zB) ?_
  refine zA (fun x36 h37=>?_)
  refine J_g 31332 [] [(1,pp 0),(4,iv s32),(5,sv x34),(6,iv x36),(49,sl 1 eStr a1.Provides),(50,iv (a1.Provides.length:Int)),(51,iv s32)] [(0,.box (Pack.enc false a1))] (zC 1 (xO [(.tmp 56)] [9] (wW.ok x34) h37) zB) ?_
  refine J_g 62666 [] [(1,pp 0),(4,iv s32),(5,sv x34),(6,iv x36),(49,sl 1 eStr a1.Provides),(50,iv (a1.Provides.length:Int)),(51,iv s32),(59,bv (x36 !=0))] [(0,.box (Pack.enc false a1))] zB ?_
  refine zD 59 (fun h38=>?_) (fun h38=>?_)
  ·refine J_g 250668 [] [(2,iv x36)] [] zB ?_
   exact zR rfl
  ·refine wD (atI c173 31335) (fun v44:Bool=>St.mk' [(1,pp 0),(49,sl 1 eStr a1.Provides),(50,iv (a1.Provides.length:Int)),(51,iv s32),(72,bv v44)] [(0,.box (Pack.enc false a1))]) (fun v44=>?_) (fun jv44=>?_)
   ·refine zD 72 (fun h45=>?_) (fun h45=>?_)
    ·refine J_g 125340 [] [(2,iv 6)] [] zB ?_
     exact zR rfl
    ·refine J_g 1959 [] [(1,pp 0),(49,sl 1 eStr a1.Provides),(50,iv (a1.Provides.length:Int)),(51,iv (w64 (s32+1)))] [(0,.box (Pack.enc false a1))] zB ?_
     exact J_q (J_b (ih (w64 (s32+1)))) rfl
   ·refine wN (fun h39=>?_) (fun h39=>?_)
    ·refine J_g 31334 [] [(1,pp 0),(49,sl 1 eStr a1.Provides),(50,iv (a1.Provides.length:Int)),(51,iv s32),(72,bv true)] [(0,.box (Pack.enc false a1))] (wF 4 [(64,bv (seq x34 a1.Name))] [] h39 zB) ?_
     exact xB (J_j (jv44 true)) rfl
    ·refine zA (fun x40 h41=>?_)
     refine zA (fun x42 h43=>?_)
     refine J_g 31334 [] [(1,pp 0),(49,sl 1 eStr a1.Provides),(50,iv (a1.Provides.length:Int)),(51,iv s32),(72,bv x42)] [(0,.box (Pack.enc false a1))] (wF 4 [(64,bv (seq x34 a1.Name))] [] h39 (zAR 8 4 65 false (zQO 86 9 1 eStr (.tmp 67) none (some (.tmp 68)) h41) (zAR 10 4 65 false (xO [(.tmp 69),(.tmp 70)] [86,9] (wP.ok x40 x34) h43) zB))) ?_
     exact xB (J_j (jv44 x42)) rfl
 ·exact xB (hk ()) rfl
theorem zBh.ok (a1:Pack):Ok Tryz.prog 173 [.ag (Pack.enc false a1)] [] ((zBh a1).map fun r=>(iv r,[])):=by
 refine zH c173 Tryz.f173 0 93 (fun q=>?_)
 unfold zBh
 refine J_g 2 [(0,0)] [(1,pp 0)] [(0,.box (Pack.enc false a1))] zB ?_
 refine zA (fun x2 h3=>?_)
 refine zA (fun x4 h5=>?_)
 refine zA (fun x6 h7=>?_)
 refine J_g 12 [] [(1,pp 0),(3,iv x6)] [(0,.box (Pack.enc false a1))] (zC 2 (xO [(.tmp 11)] [9] (wW.ok a1.Name) h3) (zC 5 (xO [(.tmp 14)] [99] (wM.ok a1.Version) h5) (zC 6 (zFd 39 2 1 1 zG [x2,x4] [0,1] [(.tmp 12),(.tmp 15)] [iv x2,iv x4]) (zC 7 (uH («as»:=[rr 1 [x2,x4]]) [(.tmp 16)] [39] true [(1,rE 1 zG [x2,x4])] [] (.cons (zF1 (.head _) (fun _=>rfl) rfl) (.nil)) (vL.ok [x2,x4]) h7 (.same rfl rfl) (hbor:=fun _=>⟨fhN,yB⟩)) zB)))) ?_
 refine J_g 26 [] [(1,pp 0),(3,iv x6),(19,bv (x6 !=0))] [(0,.box (Pack.enc false a1))] zB ?_
 refine zD 19 (fun h8=>?_) (fun h8=>?_)
 ·refine J_g 108 [] [(2,iv x6)] [] zB ?_
  exact zR rfl
 ·refine zA (fun x9 h10=>?_)
  refine J_g 56 [] [(1,pp 0),(21,bv (!x9))] [(0,.box (Pack.enc false a1))] (zC 2 (xO [(.tmp 23),(.const (.int .i64 1)),(.const (.int .i64 200))] [2,2,2] (xW.ok a1.Size 1 200) h10) zB) ?_
  refine zD 21 (fun h11=>?_) (fun h11=>?_)
  ·refine J_g 228 [] [(2,iv 3)] [] zB ?_
   exact zR rfl
  ·refine wD (atI c173 231) (fun v17:Bool=>St.mk' [(1,pp 0),(26,bv v17)] [(0,.box (Pack.enc false a1))]) (fun v17=>?_) (fun jv17=>?_)
   ·refine zD 26 (fun h18=>?_) (fun h18=>?_)
    ·refine J_g 924 [] [(2,iv 2)] [] zB ?_
     exact zR rfl
    ·refine J_g 60 [] [(1,pp 0),(49,sl 1 eStr a1.Provides),(50,iv (a1.Provides.length:Int)),(51,iv 0)] [(0,.box (Pack.enc false a1))] zB ?_
     refine vY (K0:=(fun r:Int=>some (iv r,[]))) (fun _=>rfl) (kE.ok a1 q _ (fun v46=>J_j ?_) 0)
     refine J_g 124 [] [(1,pp 0),(75,sl 1 (eSl false 7 Term.enc) a1.Needs),(76,iv (a1.Needs.length:Int)),(77,iv 0)] [(0,.box (Pack.enc false a1))] zB ?_
     refine vY (K0:=(fun r:Int=>some (iv r,[]))) (fun _=>rfl) (kC.ok a1 q _ (fun v62=>J_j ?_) 0)
     refine zA (fun x63 h64=>?_)
     refine J_g 126 [] [(2,iv x63)] [] (zC 2 (xO [(.tmp 91)] [75] (wT.ok a1.Bars) h64) zB) ?_
     exact zR rfl
   ·refine wN (fun h12=>?_) (fun h12=>?_)
    ·refine J_g 230 [] [(1,pp 0),(26,bv true)] [(0,.box (Pack.enc false a1))] (wF 4 [(30,bv (decide ((a1.Provides.length:Int)>4)))] [] h12 zB) ?_
     exact xB (J_j (jv17 true)) rfl
    ·refine wN (fun h13=>?_) (fun h13=>?_)
     ·refine J_g 230 [] [(1,pp 0),(26,bv true)] [(0,.box (Pack.enc false a1))] (wF 4 [(30,bv (decide ((a1.Provides.length:Int)>4)))] [] h12 (wF 10 [(36,bv (decide ((a1.Needs.length:Int)>4)))] [] h13 zB)) ?_
      exact xB (J_j (jv17 true)) rfl
     ·refine wN (fun h14=>?_) (fun h14=>?_)
      ·refine J_g 230 [] [(1,pp 0),(26,bv true)] [(0,.box (Pack.enc false a1))] (wF 4 [(30,bv (decide ((a1.Provides.length:Int)>4)))] [] h12 (wF 10 [(36,bv (decide ((a1.Needs.length:Int)>4)))] [] h13 (wF 16 [(42,bv (decide ((a1.Bars.length:Int)>4)))] [] h14 zB))) ?_
       exact xB (J_j (jv17 true)) rfl
      ·refine zA (fun x15 h16=>?_)
       refine J_g 230 [] [(1,pp 0),(26,bv x15)] [(0,.box (Pack.enc false a1))] (wF 4 [(30,bv (decide ((a1.Provides.length:Int)>4)))] [] h12 (wF 10 [(36,bv (decide ((a1.Needs.length:Int)>4)))] [] h13 (wF 16 [(42,bv (decide ((a1.Bars.length:Int)>4)))] [] h14 (zAR 19 16 43 false (uH («as»:=[sl 1 (eSl false 7 Term.enc) a1.Needs,.fn 242 []]) [(.tmp 45),(.func 242)] [100,154] false [] [] (.cons (.same rfl) (.cons (.fn (.nil)) (.nil))) (zS.ok a1.Needs) h16 (.same rfl rfl)) zB)))) ?_
       exact xB (J_j (jv17 x15)) rfl
noncomputable def zS8:Code:=(Tryz.f244.body).getD .skip
theorem zEE.ok (a1:Pack) (a2:ByteArray) (a3:Version):Ok Tryz.prog 244 [.ag (Pack.enc false a1),pp 0,pp 1] [.box [sv a2],.box (Version.enc a3)] ((zEE a1 a2 a3).map fun r=>(bv r,[.box [sv a2],.box (Version.enc a3)])):=by
 refine zH zS8 Tryz.f244 2 15 (fun q=>?_)
 unfold zEE
 refine J_g 2 [(0,2)] [(1,pp 0),(2,pp 1),(3,pp 2)] [(0,.box [sv a2]),(1,.box (Version.enc a3)),(2,.box (Pack.enc false a1))] zB ?_
 refine wN (fun h4=>?_) (fun h4=>?_)
 ·refine J_g 6 [] [(4,bv (a1.Version.A==a3.A&&(a1.Version.B==a3.B&&(a1.Version.C==a3.C&&true))))] [(0,.box [sv a2]),(1,.box (Version.enc a3))] (wF 4 [(8,bv (seq a1.Name a2))] [] h4 (zAR 8 4 9 true (zKo (b:=.eql) (r:=(a1.Version.A==a3.A&&(a1.Version.B==a3.B&&(a1.Version.C==a3.C&&true)))) 99 99 (.tmp 11) (.tmp 12) [.int .i64 a1.Version.A,.int .i64 a1.Version.B,.int .i64 a1.Version.C] [.int .i64 a3.A,.int .i64 a3.B,.int .i64 a3.C] (.inl ⟨rfl,rfl⟩)) zB)) ?_
  exact zR rfl
 ·refine J_g 6 [] [(4,bv false)] [(0,.box [sv a2]),(1,.box (Version.enc a3))] (wF 4 [(8,bv (seq a1.Name a2))] [] h4 zB) ?_
  exact zR rfl
noncomputable def zR7:Code:=(Tryz.f243.body).getD .skip
theorem xJ.ok (a1:(List Pack)) (a2:ByteArray) (a3:Version) (q:Wd) (kn:Unit→Option (D×List Ent)) (hk:∀v:Unit,J (q.g Tryz.prog 243 2 19) zR7 (atI zR7 7) (St.mk' [] [(0,.box [sv a2]),(1,.box (Version.enc a3))]) (some v) kn):
  ∀s10:Int,J (q.g Tryz.prog 243 2 19) zR7 (atI zR7 52) (St.mk' [(0,sl 8 (Pack.enc false) a1),(1,.fn 244 [pp 0,pp 1]),(7,iv (a1.length:Int)),(8,iv s10)] [(0,.box [sv a2]),(1,.box (Version.enc a3))]) (xJ a1 a2 a3 s10) (Fl.go (fun r:Int=>some (iv r,[.box [sv a2],.box (Version.enc a3)])) kn):=by
 refine jJ (fun g ih s10=>?_)
 unfold xI
 refine J_g 104 [] [(0,sl 8 (Pack.enc false) a1),(1,.fn 244 [pp 0,pp 1]),(7,iv (a1.length:Int)),(8,iv s10),(9,bv (decide (s10< (a1.length:Int))))] [(0,.box [sv a2]),(1,.box (Version.enc a3))] zB ?_
 refine zD 9 (fun h11=>?_) (fun h11=>?_)
 ·refine J_g 1688 [] [(0,sl 8 (Pack.enc false) a1),(1,.fn 244 [pp 0,pp 1]),(5,iv s10),(7,iv (a1.length:Int)),(8,iv s10)] [(0,.box [sv a2]),(1,.box (Version.enc a3))] zB ?_
  refine zA (fun x12 h13=>?_)
  refine zA (fun x14 h15=>?_)
  refine J_g 3378 [] [(0,sl 8 (Pack.enc false) a1),(1,.fn 244 [pp 0,pp 1]),(5,iv s10),(7,iv (a1.length:Int)),(8,iv s10),(16,bv x14)] [(0,.box [sv a2]),(1,.box (Version.enc a3))] (zC 3 (uN (kk:=.i64) 30 102 8 (Pack.enc false) (.tmp 12) (.tmp 13) h13) (zC 5 (zJ2 [(0,.box [sv a2]),(1,.box (Version.enc a3))] [] (zKB 11 [(.tmp 15)] [102] false [(0,.box [sv a2]),(1,.box (Version.enc a3))] [0,1] [.ag (Pack.enc false x12)] [pp 0,pp 1] (.cons (.same rfl) (.cons (.pt rfl) (.cons (.pt rfl) (.nil)))) (zEE.ok x12 a2 a3) h15 (.same rfl rfl))) zB)) ?_
  refine zD 16 (fun h16=>?_) (fun h16=>?_)
  ·refine J_g 13516 [] [(4,iv s10)] [(0,.box [sv a2]),(1,.box (Version.enc a3))] zB ?_
   exact zR rfl
  ·refine J_g 423 [] [(0,sl 8 (Pack.enc false) a1),(1,.fn 244 [pp 0,pp 1]),(7,iv (a1.length:Int)),(8,iv (w64 (s10+1)))] [(0,.box [sv a2]),(1,.box (Version.enc a3))] zB ?_
   exact J_q (J_b (ih (w64 (s10+1)))) rfl
 ·exact xB (hk ()) rfl
theorem xC.ok (a1:(List Pack)) (a2:ByteArray) (a3:Version):Ok Tryz.prog 243 [sl 8 (Pack.enc false) a1,.fn 244 [pp 0,pp 1]] [.box [sv a2],.box (Version.enc a3)] ((xC a1 a2 a3).map fun r=>(iv r,[.box [sv a2],.box (Version.enc a3)])):=by
 refine zH zR7 Tryz.f243 2 19 (fun q=>?_)
 unfold xC
 refine J_g 2 [] [(0,sl 8 (Pack.enc false) a1),(1,.fn 244 [pp 0,pp 1])] [(0,.box [sv a2]),(1,.box (Version.enc a3))] zB ?_
 refine J_g 12 [] [(0,sl 8 (Pack.enc false) a1),(1,.fn 244 [pp 0,pp 1]),(7,iv (a1.length:Int)),(8,iv 0)] [(0,.box [sv a2]),(1,.box (Version.enc a3))] zB ?_
 refine vY (K0:=(fun r:Int=>some (iv r,[.box [sv a2],.box (Version.enc a3)]))) (fun _=>rfl) (xJ.ok a1 a2 a3 q _ (fun v17=>J_j ?_) 0)
 refine J_g 14 [] [(4,iv (-1))] [(0,.box [sv a2]),(1,.box (Version.enc a3))] zB ?_
 exact zR rfl
noncomputable def zTm:Code:=(Tryz.f174.body).getD .skip
theorem zD0.ok (a1:(List Pack)) (a2:ByteArray) (a3:Version):Ok Tryz.prog 174 [sl 8 (Pack.enc false) a1,sv a2,.ag (Version.enc a3)] [] ((zD0 a1 a2 a3).map fun r=>(iv r,[])):=by
 refine zH zTm Tryz.f174 0 10 (fun q=>?_)
 unfold zD0
 refine J_g 2 [(0,0),(1,1)] [(0,sl 8 (Pack.enc false) a1),(4,pp 0),(5,pp 1)] [(0,.box [sv a2]),(1,.box (Version.enc a3))] zB ?_
 refine zA (fun x4 h5=>?_)
 refine J_g 6 [] [(6,iv x4)] [] (zC 2 (zJ2 [(0,.box [sv a2]),(1,.box (Version.enc a3))] [] (uH («as»:=[sl 8 (Pack.enc false) a1,.fn 244 [pp 0,pp 1]]) [(.tmp 7),(.tmp 8)] [30,249] false [(0,.box [sv a2]),(1,.box (Version.enc a3))] [0,1] (.cons (.same rfl) (.cons (.fn (.cons (.pt rfl) (.cons (.pt rfl) (.nil)))) (.nil))) (xC.ok a1 a2 a3) h5 (.same rfl rfl))) zB) ?_
 exact zR rfl
noncomputable def c99:Code:=(Tryz.f99.body).getD .skip
theorem jK.ok (a1:(List Pack)) (q:Wd) (kn:Unit→Option (D×List Ent)) (hk:∀v:Unit,J (q.g Tryz.prog 99 0 31) c99 (atI c99 15) (St.mk' [] []) (some v) kn):
  ∀s14:Int,J (q.g Tryz.prog 99 0 31) c99 (atI c99 116) (St.mk' [(0,sl 8 (Pack.enc false) a1),(9,sl 8 (Pack.enc false) a1),(10,iv (a1.length:Int)),(11,iv s14)] []) (jK a1 s14) (Fl.go (fun r:Int=>some (iv r,[])) kn):=by
 refine jJ (fun g ih s14=>?_)
 unfold tV
 refine J_g 232 [] [(0,sl 8 (Pack.enc false) a1),(9,sl 8 (Pack.enc false) a1),(10,iv (a1.length:Int)),(11,iv s14),(12,bv (decide (s14< (a1.length:Int))))] [] zB ?_
 refine zD 12 (fun h15=>?_) (fun h15=>?_)
 ·refine zA (fun x16 h17=>?_)
  refine J_g 3736 [(3,0)] [(0,sl 8 (Pack.enc false) a1),(3,iv s14),(4,pp 0),(9,sl 8 (Pack.enc false) a1),(10,iv (a1.length:Int)),(11,iv s14)] [(0,.box (Pack.enc false x16))] (zC 1 (uN (kk:=.i64) 30 102 8 (Pack.enc false) (.tmp 9) (.tmp 11) h17) zB) ?_
  refine zA (fun x18 h19=>?_)
  refine J_g 14948 [] [(0,sl 8 (Pack.enc false) a1),(3,iv s14),(4,pp 0),(5,iv x18),(9,sl 8 (Pack.enc false) a1),(10,iv (a1.length:Int)),(11,iv s14)] [(0,.box (Pack.enc false x16))] (zC 1 (xO [(.tmp 16)] [102] (zBh.ok x16) h19) zB) ?_
  refine J_g 29898 [] [(0,sl 8 (Pack.enc false) a1),(3,iv s14),(4,pp 0),(5,iv x18),(9,sl 8 (Pack.enc false) a1),(10,iv (a1.length:Int)),(11,iv s14),(19,bv (x18 !=0))] [(0,.box (Pack.enc false x16))] zB ?_
  refine zD 19 (fun h20=>?_) (fun h20=>?_)
  ·refine J_g 119596 [] [(2,iv x18)] [] zB ?_
   exact zR rfl
  ·refine zA (fun x21 h22=>?_)
   refine zA (fun x23 h24=>?_)
   refine J_g 14950 [] [(0,sl 8 (Pack.enc false) a1),(9,sl 8 (Pack.enc false) a1),(10,iv (a1.length:Int)),(11,iv s14),(29,bv (decide (x23≥0)))] [] (zC 2 (zQO 30 102 8 (Pack.enc false) (.tmp 21) none (some (.tmp 22)) h22) (zC 7 (xO [(.tmp 23),(.tmp 25),(.tmp 27)] [30,9,99] (zD0.ok x21 x16.Name x16.Version) h24) zB)) ?_
   refine zD 29 (fun h25=>?_) (fun h25=>?_)
   ·refine J_g 59804 [] [(2,iv 6)] [] zB ?_
    exact zR rfl
   ·refine J_g 935 [] [(0,sl 8 (Pack.enc false) a1),(9,sl 8 (Pack.enc false) a1),(10,iv (a1.length:Int)),(11,iv (w64 (s14+1)))] [] zB ?_
    exact J_q (J_b (ih (w64 (s14+1)))) rfl
 ·exact xB (hk ()) rfl
theorem vC.ok (a1:(List Pack)):Ok Tryz.prog 99 [sl 8 (Pack.enc false) a1] [] ((vC a1).map fun r=>(iv r,[])):=by
 refine zH c99 Tryz.f99 0 31 (fun q=>?_)
 unfold vC
 refine J_g 2 [] [(0,sl 8 (Pack.enc false) a1)] [] zB ?_
 refine J_g 12 [] [(0,sl 8 (Pack.enc false) a1),(8,bv (decide ((a1.length:Int)>24)))] [] zB ?_
 refine zD 8 (fun h2=>?_) (fun h2=>?_)
 ·refine J_g 52 [] [(2,iv 2)] [] zB ?_
  exact zR rfl
 ·refine J_g 28 [] [(0,sl 8 (Pack.enc false) a1),(9,sl 8 (Pack.enc false) a1),(10,iv (a1.length:Int)),(11,iv 0)] [] zB ?_
  refine vY (K0:=(fun r:Int=>some (iv r,[]))) (fun _=>rfl) (jK.ok a1 q _ (fun v26=>J_j ?_) 0)
  refine J_g 30 [] [(2,iv 0)] [] zB ?_
  exact zR rfl
noncomputable def c152:Code:=(Tryz.f152.body).getD .skip
theorem kL.ok (a1:ByteArray) (q:Wd) (kn:Unit→Option (D×List Ent)) (hk:∀v:Unit,J (q.g Tryz.prog 152 0 37) c152 (atI c152 15) (St.mk' [] []) (some v) kn):
  ∀s15:Int,J (q.g Tryz.prog 152 0 37) c152 (atI c152 116) (St.mk' [(0,sv a1),(14,iv (a1.size:Int)),(15,iv s15)] []) (kL a1 s15) (Fl.go (fun r:Int=>some (iv r,[])) kn):=by
 refine jJ (fun g ih s15=>?_)
 unfold zEy
 refine J_g 232 [] [(0,sv a1),(14,iv (a1.size:Int)),(15,iv s15),(16,bv (decide (s15< (a1.size:Int))))] [] zB ?_
 refine zD 16 (fun h16=>?_) (fun h16=>?_)
 ·refine J_g 3736 [] [(0,sv a1),(3,iv s15),(14,iv (a1.size:Int)),(15,iv s15)] [] zB ?_
  refine zA (fun x17 h18=>?_)
  refine J_g 7474 [] [(0,sv a1),(4,uv x17),(14,iv (a1.size:Int)),(15,iv s15)] [] (zC 2 (zJr (kk:=.i64) 9 (.tmp 18) (.tmp 19) h18) zB) ?_
  refine zA (fun x19 h20=>?_)
  refine wD (atI c152 14951) (fun v24:Bool=>St.mk' [(0,sv a1),(14,iv (a1.size:Int)),(15,iv s15),(35,bv v24)] []) (fun v24=>?_) (fun jv24=>?_)
  ·refine zD 35 (fun h25=>?_) (fun h25=>?_)
   ·refine J_g 59804 [] [(2,iv 5)] [] zB ?_
    exact zR rfl
   ·refine J_g 935 [] [(0,sv a1),(14,iv (a1.size:Int)),(15,iv (w64 (s15+1)))] [] zB ?_
    exact J_q (J_b (ih (w64 (s15+1)))) rfl
  ·refine wN (fun h21=>?_) (fun h21=>?_)
   ·refine wN (fun h22=>?_) (fun h22=>?_)
    ·refine wN (fun h23=>?_) (fun h23=>?_)
     ·refine J_g 14950 [] [(0,sv a1),(14,iv (a1.size:Int)),(15,iv s15),(35,bv (x17 !=47))] [] (zC 1 (xO [(.tmp 21)] [5] (xY.ok x17) h20) (wF 3 [(23,bv (!x19))] [] h21 (wF 7 [(27,bv (x17 !=46))] [] h22 (wF 11 [(31,bv (x17 !=45))] [] h23 zB)))) ?_
      exact xB (J_j (jv24 (x17 !=47))) rfl
     ·refine J_g 14950 [] [(0,sv a1),(14,iv (a1.size:Int)),(15,iv s15),(35,bv false)] [] (zC 1 (xO [(.tmp 21)] [5] (xY.ok x17) h20) (wF 3 [(23,bv (!x19))] [] h21 (wF 7 [(27,bv (x17 !=46))] [] h22 (wF 11 [(31,bv (x17 !=45))] [] h23 zB)))) ?_
      exact xB (J_j (jv24 false)) rfl
    ·refine J_g 14950 [] [(0,sv a1),(14,iv (a1.size:Int)),(15,iv s15),(35,bv false)] [] (zC 1 (xO [(.tmp 21)] [5] (xY.ok x17) h20) (wF 3 [(23,bv (!x19))] [] h21 (wF 7 [(27,bv (x17 !=46))] [] h22 zB))) ?_
     exact xB (J_j (jv24 false)) rfl
   ·refine J_g 14950 [] [(0,sv a1),(14,iv (a1.size:Int)),(15,iv s15),(35,bv false)] [] (zC 1 (xO [(.tmp 21)] [5] (xY.ok x17) h20) (wF 3 [(23,bv (!x19))] [] h21 zB)) ?_
    exact xB (J_j (jv24 false)) rfl
 ·exact xB (hk ()) rfl
theorem zBf.ok (a1:ByteArray):Ok Tryz.prog 152 [sv a1] [] ((zBf a1).map fun r=>(iv r,[])):=by
 refine zH c152 Tryz.f152 0 37 (fun q=>?_)
 unfold zBf
 refine J_g 2 [] [(0,sv a1)] [] zB ?_
 refine wD (atI c152 13) (fun v3:Bool=>St.mk' [(0,sv a1),(12,bv v3)] []) (fun v3=>?_) (fun jv3=>?_)
 ·refine zD 12 (fun h4=>?_) (fun h4=>?_)
  ·refine J_g 52 [] [(2,iv 5)] [] zB ?_
   exact zR rfl
  ·refine J_g 28 [] [(0,sv a1),(14,iv (a1.size:Int)),(15,iv 0)] [] zB ?_
   refine vY (K0:=(fun r:Int=>some (iv r,[]))) (fun _=>rfl) (kL.ok a1 q _ (fun v26=>J_j ?_) 0)
   refine J_g 30 [] [(2,iv 0)] [] zB ?_
   exact zR rfl
 ·refine wN (fun h2=>?_) (fun h2=>?_)
  ·refine J_g 12 [] [(0,sv a1),(12,bv true)] [] (wF 3 [(7,bv (decide ((a1.size:Int)<1)))] [] h2 zB) ?_
   exact xB (J_j (jv3 true)) rfl
  ·refine J_g 12 [] [(0,sv a1),(12,bv (decide ((a1.size:Int)>40)))] [] (wF 3 [(7,bv (decide ((a1.size:Int)<1)))] [] h2 zB) ?_
   exact xB (J_j (jv3 (decide ((a1.size:Int)>40)))) rfl
noncomputable def zRn:Code:=(Tryz.f153.body).getD .skip
theorem zCf.ok (a1:zF) (q:Wd) (kn:Int→Option (D×List Ent)) (hk:∀v:Int,J (q.g Tryz.prog 153 0 20) zRn (atI zRn 15) (St.mk' [(3,iv v)] []) (some v) kn):
  ∀s5:(Int×Int),J (q.g Tryz.prog 153 0 20) zRn (atI zRn 116) (St.mk' [(3,iv s5.1),(7,sl 2 (File.enc false) a1.Files),(8,iv (a1.Files.length:Int)),(9,iv s5.2)] []) (zCf a1 s5) kn:=by
 refine jJ (fun g ih s5=>?_)
 unfold zEX
 refine J_g 232 [] [(3,iv s5.1),(7,sl 2 (File.enc false) a1.Files),(8,iv (a1.Files.length:Int)),(9,iv s5.2),(10,bv (decide (s5.2< (a1.Files.length:Int))))] [] zB ?_
 refine zD 10 (fun h6=>?_) (fun h6=>?_)
 ·refine zA (fun x7 h8=>?_)
  refine J_g 3736 [(2,0)] [(3,iv s5.1),(5,pp 0),(7,sl 2 (File.enc false) a1.Files),(8,iv (a1.Files.length:Int)),(9,iv s5.2)] [(0,.box (File.enc false x7))] (zC 0 (uN (kk:=.i64) 31 138 2 (File.enc false) (.tmp 7) (.tmp 9) h8) zB) ?_
  refine J_g 3737 [] [(3,iv (w64 (s5.1+(x7.Data.length:Int)))),(7,sl 2 (File.enc false) a1.Files),(8,iv (a1.Files.length:Int)),(9,iv s5.2)] [] zB ?_
  refine J_g 935 [] [(3,iv (w64 (s5.1+(x7.Data.length:Int)))),(7,sl 2 (File.enc false) a1.Files),(8,iv (a1.Files.length:Int)),(9,iv (w64 (s5.2+1)))] [] zB ?_
  exact J_q (J_b (ih (w64 (s5.1+(x7.Data.length:Int)),w64 (s5.2+1)))) rfl
 ·exact xB (hk s5.1) rfl
theorem zDb.ok (a1:zF):Ok Tryz.prog 153 [.ag (zF.enc false a1)] [] ((zDb a1).map fun r=>(iv r,[])):=by
 refine zH zRn Tryz.f153 0 20 (fun q=>?_)
 unfold zDb
 refine J_g 2 [(0,0)] [(1,pp 0)] [(0,.box (zF.enc false a1))] zB ?_
 refine J_g 6 [] [(1,pp 0),(3,iv 0)] [(0,.box (zF.enc false a1))] zB ?_
 refine J_g 28 [] [(3,iv 0),(7,sl 2 (File.enc false) a1.Files),(8,iv (a1.Files.length:Int)),(9,iv 0)] [] zB ?_
 refine zFl (zCf.ok a1 q _ (fun v9=>J_j ?_) (0,0))
 refine J_g 30 [] [(2,iv v9)] [] zB ?_
 exact zR rfl
noncomputable def zQ0:Code:=(Tryz.f100.body).getD .skip
theorem kJ.ok (a1:zF) (q:Wd) (kn:Unit→Option (D×List Ent)) (hk:∀v:Unit,J (q.g Tryz.prog 100 0 68) zQ0 (atI zQ0 15) (St.mk' [(1,pp 0)] [(0,.box (zF.enc false a1))]) (some v) kn):
  ∀s25:Int,J (q.g Tryz.prog 100 0 68) zQ0 (atI zQ0 116) (St.mk' [(1,pp 0),(29,sl 2 (File.enc false) a1.Files),(30,iv (a1.Files.length:Int)),(31,iv s25)] [(0,.box (zF.enc false a1))]) (kJ a1 s25) (Fl.go (fun r:Int=>some (iv r,[])) kn):=by
 refine jJ (fun g ih s25=>?_)
 unfold zEx
 refine J_g 232 [] [(1,pp 0),(29,sl 2 (File.enc false) a1.Files),(30,iv (a1.Files.length:Int)),(31,iv s25),(32,bv (decide (s25< (a1.Files.length:Int))))] [(0,.box (zF.enc false a1))] zB ?_
 refine zD 32 (fun h26=>?_) (fun h26=>?_)
 ·refine zA (fun x27 h28=>?_)
  refine J_g 3736 [(3,1)] [(1,pp 0),(3,iv s25),(4,pp 1),(29,sl 2 (File.enc false) a1.Files),(30,iv (a1.Files.length:Int)),(31,iv s25)] [(0,.box (zF.enc false a1)),(1,.box (File.enc false x27))] (zC 1 (uN (kk:=.i64) 31 138 2 (File.enc false) (.tmp 29) (.tmp 31) h28) zB) ?_
  refine zA (fun x29 h30=>?_)
  refine J_g 14948 [] [(1,pp 0),(3,iv s25),(4,pp 1),(5,iv x29),(29,sl 2 (File.enc false) a1.Files),(30,iv (a1.Files.length:Int)),(31,iv s25)] [(0,.box (zF.enc false a1)),(1,.box (File.enc false x27))] (zC 2 (xO [(.tmp 37)] [9] (zBf.ok x27.Path) h30) zB) ?_
  refine J_g 29898 [] [(1,pp 0),(3,iv s25),(4,pp 1),(5,iv x29),(29,sl 2 (File.enc false) a1.Files),(30,iv (a1.Files.length:Int)),(31,iv s25),(40,bv (x29 !=0))] [(0,.box (zF.enc false a1)),(1,.box (File.enc false x27))] zB ?_
  refine zD 40 (fun h31=>?_) (fun h31=>?_)
  ·refine J_g 119596 [] [(2,iv x29)] [] zB ?_
   exact zR rfl
  ·refine wD (atI zQ0 29901) (fun v35:Bool=>St.mk' [(1,pp 0),(4,pp 1),(29,sl 2 (File.enc false) a1.Files),(30,iv (a1.Files.length:Int)),(31,iv s25),(42,bv v35)] [(0,.box (zF.enc false a1)),(1,.box (File.enc false x27))]) (fun v35=>?_) (fun jv35=>?_)
   ·refine zD 42 (fun h36=>?_) (fun h36=>?_)
    ·refine J_g 119604 [] [(2,iv 1)] [] zB ?_
     exact zR rfl
    ·refine J_g 119606 [] [(1,pp 0),(29,sl 2 (File.enc false) a1.Files),(30,iv (a1.Files.length:Int)),(31,iv s25),(57,bv (decide ((x27.Data.length:Int)>4000)))] [(0,.box (zF.enc false a1))] zB ?_
     refine zD 57 (fun h37=>?_) (fun h37=>?_)
     ·refine J_g 478428 [] [(2,iv 2)] [] zB ?_
      exact zR rfl
     ·refine J_g 935 [] [(1,pp 0),(29,sl 2 (File.enc false) a1.Files),(30,iv (a1.Files.length:Int)),(31,iv (w64 (s25+1)))] [(0,.box (zF.enc false a1))] zB ?_
      exact J_q (J_b (ih (w64 (s25+1)))) rfl
   ·refine wN (fun h32=>?_) (fun h32=>?_)
    ·refine zA (fun x33 h34=>?_)
     refine J_g 29900 [] [(1,pp 0),(4,pp 1),(29,sl 2 (File.enc false) a1.Files),(30,iv (a1.Files.length:Int)),(31,iv s25),(42,bv (slt x27.Path x33.Path||seq x27.Path x33.Path))] [(0,.box (zF.enc false a1)),(1,.box (File.enc false x27))] (wF 2 [(44,bv (decide (s25>0)))] [] h32 (zAR 9 2 45 true (uN (kk:=.i64) 31 138 2 (File.enc false) (.tmp 49) (.tmp 51) h34) zB)) ?_
     exact xB (J_j (jv35 (slt x27.Path x33.Path||seq x27.Path x33.Path))) rfl
    ·refine J_g 29900 [] [(1,pp 0),(4,pp 1),(29,sl 2 (File.enc false) a1.Files),(30,iv (a1.Files.length:Int)),(31,iv s25),(42,bv false)] [(0,.box (zF.enc false a1)),(1,.box (File.enc false x27))] (wF 2 [(44,bv (decide (s25>0)))] [] h32 zB) ?_
     exact xB (J_j (jv35 false)) rfl
 ·exact xB (hk ()) rfl
theorem zAU.ok (a1:zF):Ok Tryz.prog 100 [.ag (zF.enc false a1)] [] ((zAU a1).map fun r=>(iv r,[])):=by
 refine zH zQ0 Tryz.f100 0 68 (fun q=>?_)
 unfold zAU
 refine J_g 2 [(0,0)] [(1,pp 0)] [(0,.box (zF.enc false a1))] zB ?_
 refine zA (fun x2 h3=>?_)
 refine wD (atI zQ0 25) (fun v10:Bool=>St.mk' [(1,pp 0),(6,bv v10)] [(0,.box (zF.enc false a1))]) (fun v10=>?_) (fun jv10=>?_)
 ·refine zD 6 (fun h11=>?_) (fun h11=>?_)
  ·refine J_g 100 [] [(2,iv 3)] [] zB ?_
   exact zR rfl
  ·refine J_g 102 [] [(1,pp 0),(23,bv (decide ((a1.Files.length:Int)>120)))] [(0,.box (zF.enc false a1))] zB ?_
   refine zD 23 (fun h12=>?_) (fun h12=>?_)
   ·refine J_g 412 [] [(2,iv 2)] [] zB ?_
    exact zR rfl
   ·refine J_g 28 [] [(1,pp 0),(29,sl 2 (File.enc false) a1.Files),(30,iv (a1.Files.length:Int)),(31,iv 0)] [(0,.box (zF.enc false a1))] zB ?_
    refine vY (K0:=(fun r:Int=>some (iv r,[]))) (fun _=>rfl) (kJ.ok a1 q _ (fun v38=>J_j ?_) 0)
    refine zA (fun x39 h40=>?_)
    refine J_g 60 [] [(67,bv (decide (x39>a1.Budget)))] [] (zC 1 (xO [(.tmp 63)] [33] (zDb.ok a1) h40) zB) ?_
    refine zD 67 (fun h41=>?_) (fun h41=>?_)
    ·refine J_g 244 [] [(2,iv 8)] [] zB ?_
     exact zR rfl
    ·refine J_g 62 [] [(2,iv 0)] [] zB ?_
     exact zR rfl
 ·refine wN (fun h4=>?_) (fun h4=>?_)
  ·refine J_g 24 [] [(1,pp 0),(6,bv true)] [(0,.box (zF.enc false a1))] (zC 2 (xO [(.tmp 8),(.const (.int .i64 0)),(.const (.int .i64 20000))] [2,2,2] (xW.ok a1.Budget 0 20000) h3) (wF 4 [(10,bv (!x2))] [] h4 zB)) ?_
   exact xB (J_j (jv10 true)) rfl
  ·refine zA (fun x5 h6=>?_)
   refine wN (fun h7=>?_) (fun h7=>?_)
   ·refine J_g 24 [] [(1,pp 0),(6,bv true)] [(0,.box (zF.enc false a1))] (zC 2 (xO [(.tmp 8),(.const (.int .i64 0)),(.const (.int .i64 20000))] [2,2,2] (xW.ok a1.Budget 0 20000) h3) (wF 4 [(10,bv (!x2))] [] h4 (zAR 7 4 11 false (xO [(.tmp 13),(.const (.int .i64 0)),(.const (.int .i64 1000000000))] [2,2,2] (xW.ok a1.Writes 0 1000000000) h6) (wF 10 [(16,bv (!x5))] [] h7 zB)))) ?_
    exact xB (J_j (jv10 true)) rfl
   ·refine zA (fun x8 h9=>?_)
    refine J_g 24 [] [(1,pp 0),(6,bv (!x8))] [(0,.box (zF.enc false a1))] (zC 2 (xO [(.tmp 8),(.const (.int .i64 0)),(.const (.int .i64 20000))] [2,2,2] (xW.ok a1.Budget 0 20000) h3) (wF 4 [(10,bv (!x2))] [] h4 (zAR 7 4 11 false (xO [(.tmp 13),(.const (.int .i64 0)),(.const (.int .i64 1000000000))] [2,2,2] (xW.ok a1.Writes 0 1000000000) h6) (wF 10 [(16,bv (!x5))] [] h7 (zAR 13 10 17 false (xO [(.tmp 19),(.const (.int .i64 (-1))),(.const (.int .i64 1000000000))] [2,2,2] (xW.ok a1.Stop (-1) 1000000000) h9) zB))))) ?_
    exact xB (J_j (jv10 (!x8))) rfl
noncomputable def c47:Code:=(Tryz.f47.body).getD .skip
theorem jT.ok (a1:(List Pack)) (a2:zF):Ok Tryz.prog 47 [sl 8 (Pack.enc false) a1,.ag (zF.enc false a2)] [] ((jT a1 a2).map fun r=>(iv r,[])):=by
 refine zH c47 Tryz.f47 0 11 (fun q=>?_)
 unfold jT
 refine J_g 2 [(0,0)] [(0,sl 8 (Pack.enc false) a1),(3,pp 0)] [(0,.box (zF.enc false a2))] zB ?_
 refine zA (fun x3 h4=>?_)
 refine zA (fun x5 h6=>?_)
 refine zA (fun x7 h8=>?_)
 refine J_g 6 [] [(4,iv x7)] [] (zC 1 (xO [(.tmp 5)] [30] (vC.ok a1) h4) (zC 3 (xO [(.tmp 7)] [33] (zAU.ok a2) h6) (zC 4 (zFd 39 2 1 1 zG [x3,x5] [0,1] [(.tmp 6),(.tmp 8)] [iv x3,iv x5]) (zC 5 (uH («as»:=[rr 1 [x3,x5]]) [(.tmp 9)] [39] true [(1,rE 1 zG [x3,x5])] [] (.cons (zF1 (.head _) (fun _=>rfl) rfl) (.nil)) (vL.ok [x3,x5]) h8 (.same rfl rfl) (hbor:=fun _=>⟨fhN,yB⟩)) zB)))) ?_
 exact zR rfl
theorem bytealg_CompareString.ok (a1 a2:ByteArray):Ok Tryz.prog 278 [sv a1,sv a2] [] ((bytealg_CompareString a1 a2).map fun r=>(iv r,[])):=
 zRy (vs:=[.string a1,.string a2]) (fun w=>Tryz.bytealg_CompareString a1 a2 w)
noncomputable def c212:Code:=(Tryz.f212.body).getD .skip
theorem strings_Compare.ok (a1:ByteArray) (a2:ByteArray):Ok Tryz.prog 212 [sv a1,sv a2] [] ((strings_Compare a1 a2).map fun r=>(iv r,[])):=by
 refine zH c212 Tryz.f212 0 8 (fun q=>?_)
 unfold strings_Compare
 refine J_g 2 [] [(0,sv a1),(1,sv a2)] [] zB ?_
 refine zA (fun x3 h4=>?_)
 refine J_g 6 [] [(4,iv x3)] [] (zC 2 (xO [(.tmp 5),(.tmp 6)] [9,9] (bytealg_CompareString.ok a1 a2) h4) zB) ?_
 exact zR rfl
noncomputable def zTz:Code:=(Tryz.f211.body).getD .skip
theorem vS.ok (a1:File) (a2:ByteArray):Ok Tryz.prog 211 [.ag (File.enc false a1),sv a2] [] ((vS a1 a2).map fun r=>(iv r,[])):=by
 refine zH zTz Tryz.f211 0 9 (fun q=>?_)
 unfold vS
 refine J_g 2 [(0,0)] [(1,sv a2),(2,pp 0)] [(0,.box (File.enc false a1))] zB ?_
 refine zA (fun x3 h4=>?_)
 refine J_g 6 [] [(4,iv x3)] [] (zC 3 (xO [(.tmp 6),(.tmp 7)] [9,9] (strings_Compare.ok a1.Path a2) h4) zB) ?_
 exact zR rfl
noncomputable def c210:Code:=(Tryz.f210.body).getD .skip
theorem zX.ok (a1:(List File)) (a2:ByteArray) (q:Wd) (kn:Int→Option (D×List Ent)) (hk:∀v:Int,J (q.g Tryz.prog 210 0 49) c210 (atI c210 31) (St.mk' [(0,sl 2 (File.enc false) a1),(1,sv a2),(2,.fn 211 []),(8,iv (a1.length:Int)),(9,iv v)] []) (some v) kn):
  ∀s9:(Int×Int),J (q.g Tryz.prog 210 0 49) c210 (atI c210 120) (St.mk' [(0,sl 2 (File.enc false) a1),(1,sv a2),(2,.fn 211 []),(8,iv (a1.length:Int)),(9,iv s9.1),(10,iv s9.2)] []) (zX a1 a2 s9) kn:=by
 refine jJ (fun g ih s9=>?_)
 unfold yS
 refine J_g 480 [] [(0,sl 2 (File.enc false) a1),(1,sv a2),(2,.fn 211 []),(8,iv (a1.length:Int)),(9,iv s9.1),(10,iv s9.2),(17,bv (decide (s9.1<s9.2)))] [] zB ?_
 refine zD 17 (fun h10=>?_) (fun h10=>?_)
 ·refine J_g 964 [] [(0,sl 2 (File.enc false) a1),(1,sv a2),(2,.fn 211 []),(8,iv (a1.length:Int)),(9,iv s9.1),(10,iv s9.2),(11,iv (w64 ((IntKind.u64.wrap (w64 (s9.1+s9.2))).fdiv (2^(min (1:Int).toNat 64)))))] [] zB ?_
  refine zA (fun x11 h12=>?_)
  refine zA (fun x13 h14=>?_)
  refine J_g 1930 [] [(0,sl 2 (File.enc false) a1),(1,sv a2),(2,.fn 211 []),(8,iv (a1.length:Int)),(9,iv s9.1),(10,iv s9.2),(11,iv (w64 ((IntKind.u64.wrap (w64 (s9.1+s9.2))).fdiv (2^(min (1:Int).toNat 64))))),(31,bv (decide (x13<0)))] [] (zC 3 (uN (kk:=.i64) 31 138 2 (File.enc false) (.tmp 25) (.tmp 26) h12) (zC 6 (zOD («as»:=[.ag (File.enc false x11),sv a2]) (caps:=[]) 24 [(.tmp 28),(.tmp 29)] [138,9] (vS.ok x11 a2) h14) zB)) ?_
  refine zD 31 (fun h15=>?_) (fun h15=>?_)
  ·refine J_g 3862 [] [(0,sl 2 (File.enc false) a1),(1,sv a2),(2,.fn 211 []),(8,iv (a1.length:Int)),(9,iv (w64 ((w64 ((IntKind.u64.wrap (w64 (s9.1+s9.2))).fdiv (2^(min (1:Int).toNat 64))))+1))),(10,iv s9.2)] [] zB ?_
   exact J_q (J_b (ih (w64 ((w64 ((IntKind.u64.wrap (w64 (s9.1+s9.2))).fdiv (2^(min (1:Int).toNat 64))))+1),s9.2))) rfl
  ·refine J_g 3863 [] [(0,sl 2 (File.enc false) a1),(1,sv a2),(2,.fn 211 []),(8,iv (a1.length:Int)),(9,iv s9.1),(10,iv (w64 ((IntKind.u64.wrap (w64 (s9.1+s9.2))).fdiv (2^(min (1:Int).toNat 64)))))] [] zB ?_
   exact J_q (J_b (ih (s9.1,w64 ((IntKind.u64.wrap (w64 (s9.1+s9.2))).fdiv (2^(min (1:Int).toNat 64)))))) rfl
 ·exact xB (hk s9.1) rfl
theorem zJ.ok (a1:(List File)) (a2:ByteArray):Ok Tryz.prog 210 [sl 2 (File.enc false) a1,sv a2,.fn 211 []] [] ((zJ a1 a2).map fun r=>(.tu [iv r.1,bv r.2],[])):=by
 refine zH c210 Tryz.f210 0 49 (fun q=>?_)
 unfold zJ
 refine J_g 2 [] [(0,sl 2 (File.enc false) a1),(1,sv a2),(2,.fn 211 [])] [] zB ?_
 refine J_g 6 [] [(0,sl 2 (File.enc false) a1),(1,sv a2),(2,.fn 211 []),(8,iv (a1.length:Int))] [] zB ?_
 refine J_g 14 [] [(0,sl 2 (File.enc false) a1),(1,sv a2),(2,.fn 211 []),(8,iv (a1.length:Int)),(9,iv 0),(10,iv (a1.length:Int))] [] zB ?_
 refine zFl (zX.ok a1 a2 q _ (fun v16=>J_j ?_) (0,(a1.length:Int)))
 refine wN (fun h17=>?_) (fun h17=>?_)
 ·refine zA (fun x18 h19=>?_)
  refine zA (fun x20 h21=>?_)
  refine J_g 62 [] [(6,iv v16),(7,bv (x20==0))] [] (wF 4 [(38,bv (decide (v16< (a1.length:Int))))] [] h17 (zAR 8 4 39 true (uN (kk:=.i64) 31 138 2 (File.enc false) (.tmp 41) (.tmp 42) h19) (zAR 11 4 39 true (zOD («as»:=[.ag (File.enc false x18),sv a2]) (caps:=[]) 40 [(.tmp 44),(.tmp 45)] [138,9] (vS.ok x18 a2) h21) zB))) ?_
  exact zNA rfl
 ·refine J_g 62 [] [(6,iv v16),(7,bv false)] [] (wF 4 [(38,bv (decide (v16< (a1.length:Int))))] [] h17 zB) ?_
  exact zNA rfl
noncomputable def c138:Code:=(Tryz.f138.body).getD .skip
theorem zAh.ok (a1:zF) (a2:ByteArray):Ok Tryz.prog 138 [.ag (zF.enc false a1),sv a2] [] ((zAh a1 a2).map fun r=>(.tu [iv r.1,bv r.2],[])):=by
 refine zH c138 Tryz.f138 0 12 (fun q=>?_)
 unfold zAh
 refine J_g 2 [(0,0)] [(1,sv a2),(2,pp 0)] [(0,.box (zF.enc false a1))] zB ?_
 refine zA (fun x3 h4=>?_)
 refine J_g 6 [] [(4,iv x3.1),(5,bv x3.2)] [] (zC 3 (uH («as»:=[sl 2 (File.enc false) a1.Files,sv a2,.fn 211 []]) [(.tmp 7),(.tmp 8),(.func 211)] [31,9,238] false [] [] (.cons (.same rfl) (.cons (.same rfl) (.cons (.fn (.nil)) (.nil)))) (zJ.ok a1.Files a2) h4 (.tu (.cons (.same rfl rfl) (.cons (.same rfl rfl) (.nil))))) zB) ?_
 exact zNA rfl
noncomputable def zS4:Code:=(Tryz.f104.body).getD .skip
theorem xV.ok (a1:zF) (a2:ByteArray):Ok Tryz.prog 104 [.ag (zF.enc false a1),sv a2] [] ((xV a1 a2).map fun r=>(.tu [sl 1 eU8 r.1,bv r.2],[])):=by
 refine zH zS4 Tryz.f104 0 22 (fun q=>?_)
 unfold xV
 refine J_g 2 [(0,0)] [(1,sv a2),(2,pp 0)] [(0,.box (zF.enc false a1))] zB ?_
 refine zA (fun x3 h4=>?_)
 refine J_g 6 [] [(2,pp 0),(6,iv x3.1),(7,bv x3.2)] [(0,.box (zF.enc false a1))] (zC 2 (xO [(.tmp 9),(.tmp 10)] [33,9] (zAh.ok a1 a2) h4) zB) ?_
 refine J_g 28 [] [(2,pp 0),(6,iv x3.1),(15,bv (!x3.2))] [(0,.box (zF.enc false a1))] zB ?_
 refine zD 15 (fun h5=>?_) (fun h5=>?_)
 ·refine J_g 116 [] [(4,nv),(5,bv false)] [] zB ?_
  exact zD5 (ds:=[nv,bv false]) (ds':=[sl 1 eU8 ([]:List Int),bv false]) (.cons (.cell (.nilsl false 1 (.nil))) (.cons (.cell (.keep rfl (.nil))) (.nil) (by decide)) (by decide)) rfl
 ·refine zA (fun x6 h7=>?_)
  refine J_g 30 [] [(4,sl 1 eU8 x6.Data),(5,bv true)] [] (zC 3 (uN (kk:=.i64) 31 138 2 (File.enc false) (.tmp 17) (.tmp 18) h7) zB) ?_
  exact zNA rfl
noncomputable def zPP:Code:=(Tryz.f176.body).getD .skip
theorem zD1.ok (a1:ByteArray) (q:Wd) (kn:Int→Option (D×List Ent)) (hk:∀v:Int,J (q.g Tryz.prog 176 0 40) zPP (atI zPP 31) (St.mk' [(5,iv v)] []) (some v) kn):
  ∀s16:(Int×Int),J (q.g Tryz.prog 176 0 40) zPP (atI zPP 244) (St.mk' [(0,sv a1),(5,iv s16.1),(16,iv (a1.size:Int)),(17,iv s16.2)] []) (zD1 a1 s16) (Fl.go (fun r:Int=>some (iv r,[])) kn):=by
 refine jJ (fun g ih s16=>?_)
 unfold zC2
 refine J_g 488 [] [(0,sv a1),(5,iv s16.1),(16,iv (a1.size:Int)),(17,iv s16.2),(18,bv (decide (s16.2< (a1.size:Int))))] [] zB ?_
 refine zD 18 (fun h17=>?_) (fun h17=>?_)
 ·refine J_g 7832 [] [(0,sv a1),(5,iv s16.1),(6,iv s16.2),(16,iv (a1.size:Int)),(17,iv s16.2)] [] zB ?_
  refine zA (fun x18 h19=>?_)
  refine wD (atI zPP 31333) (fun v23:Bool=>St.mk' [(0,sv a1),(5,iv s16.1),(6,iv s16.2),(16,iv (a1.size:Int)),(17,iv s16.2),(29,bv v23)] []) (fun v23=>?_) (fun jv23=>?_)
  ·refine zD 29 (fun h24=>?_) (fun h24=>?_)
   ·refine J_g 125332 [] [(4,iv (-1))] [] zB ?_
    exact zR rfl
   ·refine zA (fun x25 h26=>?_)
    refine J_g 15667 [] [(0,sv a1),(5,iv (w64 ((w64 (10*s16.1))+(w64 (IntKind.u8.wrap (x25-48)))))),(16,iv (a1.size:Int)),(17,iv s16.2)] [] (zC 4 (zJr (kk:=.i64) 9 (.tmp 32) (.tmp 33) h26) zB) ?_
    refine J_g 1959 [] [(0,sv a1),(5,iv (w64 ((w64 (10*s16.1))+(w64 (IntKind.u8.wrap (x25-48)))))),(16,iv (a1.size:Int)),(17,iv (w64 (s16.2+1)))] [] zB ?_
    exact J_q (J_b (ih (w64 ((w64 (10*s16.1))+(w64 (IntKind.u8.wrap (x25-48)))),w64 (s16.2+1)))) rfl
  ·refine wN (fun h20=>?_) (fun h20=>?_)
   ·refine J_g 31332 [] [(0,sv a1),(5,iv s16.1),(6,iv s16.2),(16,iv (a1.size:Int)),(17,iv s16.2),(29,bv true)] [] (zC 2 (zJr (kk:=.i64) 9 (.tmp 20) (.tmp 21) h19) (wF 4 [(23,bv (decide (x18<48)))] [] h20 zB)) ?_
    exact xB (J_j (jv23 true)) rfl
   ·refine zA (fun x21 h22=>?_)
    refine J_g 31332 [] [(0,sv a1),(5,iv s16.1),(6,iv s16.2),(16,iv (a1.size:Int)),(17,iv s16.2),(29,bv (decide (x21>57)))] [] (zC 2 (zJr (kk:=.i64) 9 (.tmp 20) (.tmp 21) h19) (wF 4 [(23,bv (decide (x18<48)))] [] h20 (zAR 7 4 24 false (zJr (kk:=.i64) 9 (.tmp 25) (.tmp 26) h22) zB))) ?_
    exact xB (J_j (jv23 (decide (x21>57)))) rfl
 ·exact xB (hk s16.1) rfl
theorem kV.ok (a1:ByteArray) (a2:Int):Ok Tryz.prog 176 [sv a1,iv a2] [] ((kV a1 a2).map fun r=>(iv r,[])):=by
 refine zH zPP Tryz.f176 0 40 (fun q=>?_)
 unfold kV
 refine J_g 2 [] [(0,sv a1),(1,iv a2)] [] zB ?_
 refine wD (atI zPP 13) (fun v4:Bool=>St.mk' [(0,sv a1),(14,bv v4)] []) (fun v4=>?_) (fun jv4=>?_)
 ·refine zD 14 (fun h5=>?_) (fun h5=>?_)
  ·refine J_g 52 [] [(4,iv (-1))] [] zB ?_
   exact zR rfl
  ·refine J_g 14 [] [(0,sv a1),(5,iv 0)] [] zB ?_
   refine J_g 60 [] [(0,sv a1),(5,iv 0),(16,iv (a1.size:Int)),(17,iv 0)] [] zB ?_
   refine vY (K0:=(fun r:Int=>some (iv r,[]))) (fun _=>rfl) (zD1.ok a1 q _ (fun v27=>J_j ?_) (0,0))
   refine J_g 62 [] [(4,iv v27)] [] zB ?_
   exact zR rfl
 ·refine wN (fun h3=>?_) (fun h3=>?_)
  ·refine J_g 12 [] [(0,sv a1),(14,bv true)] [] (wF 2 [(8,bv (seq a1 (bs [])))] [] h3 zB) ?_
   exact xB (J_j (jv4 true)) rfl
  ·refine J_g 12 [] [(0,sv a1),(14,bv (decide ((a1.size:Int)>a2)))] [] (wF 2 [(8,bv (seq a1 (bs [])))] [] h3 zB) ?_
   exact xB (J_j (jv4 (decide ((a1.size:Int)>a2)))) rfl
noncomputable def zSG:Code:=(Tryz.f277.body).getD .skip
theorem yM.ok (a1:ByteArray) (a2:ByteArray):Ok Tryz.prog 277 [sv a1,sv a2] [] ((yM a1 a2).map fun r=>(bv r,[])):=by
 refine zH zSG Tryz.f277 0 18 (fun q=>?_)
 unfold yM
 refine J_g 2 [] [(0,sv a1),(1,sv a2)] [] zB ?_
 refine wN (fun h3=>?_) (fun h3=>?_)
 ·refine zA (fun x4 h5=>?_)
  refine J_g 6 [] [(4,bv (seq x4 a2))] [] (wF 5 [(9,bv (decide ((a1.size:Int)≥(a2.size:Int))))] [] h3 (zAR 9 5 10 true (zKW 9 (.tmp 11) none (some (.tmp 13)) h5) zB)) ?_
  exact zR rfl
 ·refine J_g 6 [] [(4,bv false)] [] (wF 5 [(9,bv (decide ((a1.size:Int)≥(a2.size:Int))))] [] h3 zB) ?_
  exact zR rfl
noncomputable def c208:Code:=(Tryz.f208.body).getD .skip
theorem strings_HasPrefix.ok (a1:ByteArray) (a2:ByteArray):Ok Tryz.prog 208 [sv a1,sv a2] [] ((strings_HasPrefix a1 a2).map fun r=>(bv r,[])):=by
 refine zH c208 Tryz.f208 0 8 (fun q=>?_)
 unfold strings_HasPrefix
 refine J_g 2 [] [(0,sv a1),(1,sv a2)] [] zB ?_
 refine zA (fun x3 h4=>?_)
 refine J_g 6 [] [(4,bv x3)] [] (zC 2 (xO [(.tmp 5),(.tmp 6)] [9,9] (yM.ok a1 a2) h4) zB) ?_
 exact zR rfl
noncomputable def zQF:Code:=(Tryz.f136.body).getD .skip
theorem jB.ok (a1:zF) (a2:ByteArray) (q:Wd) (kn:(List ByteArray)→Option (D×List Ent)) (hk:∀v:(List ByteArray),J (q.g Tryz.prog 136 0 27) zQF (atI zQF 15) (St.mk' [(5,rr 1 v)] [(1,rE 1 eStr v)]) (some v) kn):
  ∀s12:((List ByteArray)×Int),J (q.g Tryz.prog 136 0 27) zQF (atI zQF 116) (St.mk' [(1,sv a2),(5,rr 1 s12.1),(10,sl 2 (File.enc false) a1.Files),(11,iv (a1.Files.length:Int)),(12,iv s12.2)] [(1,rE 1 eStr s12.1)]) (jB a1 a2 s12) kn:=by
 refine jJ (fun g ih s12=>?_)
 unfold zDQ
 refine J_g 232 [] [(1,sv a2),(5,rr 1 s12.1),(10,sl 2 (File.enc false) a1.Files),(11,iv (a1.Files.length:Int)),(12,iv s12.2),(13,bv (decide (s12.2< (a1.Files.length:Int))))] [(1,rE 1 eStr s12.1)] zB ?_
 refine zD 13 (fun h13=>?_) (fun h13=>?_)
 ·refine zA (fun x14 h15=>?_)
  refine J_g 3736 [(2,2)] [(1,sv a2),(5,rr 1 s12.1),(7,pp 2),(10,sl 2 (File.enc false) a1.Files),(11,iv (a1.Files.length:Int)),(12,iv s12.2)] [(1,rE 1 eStr s12.1),(2,.box (File.enc false x14))] (zC 0 (uN (kk:=.i64) 31 138 2 (File.enc false) (.tmp 10) (.tmp 12) h15) zB) ?_
  refine zA (fun x16 h17=>?_)
  refine J_g 7474 [] [(1,sv a2),(5,rr 1 s12.1),(7,pp 2),(10,sl 2 (File.enc false) a1.Files),(11,iv (a1.Files.length:Int)),(12,iv s12.2),(19,bv x16)] [(1,rE 1 eStr s12.1),(2,.box (File.enc false x14))] (zC 3 (xO [(.tmp 17),(.tmp 18)] [9,9] (strings_HasPrefix.ok x14.Path a2) h17) zB) ?_
  refine wD (aft zQF 1868) (fun v21:(List ByteArray)=>St.mk' [(1,sv a2),(5,rr 4 v21),(10,sl 2 (File.enc false) a1.Files),(11,iv (a1.Files.length:Int)),(12,iv s12.2)] [(4,rE 1 eStr v21)]) (fun v21=>?_) (fun jv21=>?_)
  ·refine J_g 935 [] [(1,sv a2),(5,rr 4 v21),(10,sl 2 (File.enc false) a1.Files),(11,iv (a1.Files.length:Int)),(12,iv (w64 (s12.2+1)))] [(4,rE 1 eStr v21)] zB ?_
   refine zCo 4 1 (Nat.le_of_ble_eq_true rfl) (Nat.le_of_ble_eq_true rfl) ?_
   exact J_q (J_b (ih (v21,w64 (s12.2+1)))) rfl
  ·refine zD 19 (fun h18=>?_) (fun h18=>?_)
   ·refine zA (fun x19 h20=>?_)
    refine J_g 14950 [] [(1,sv a2),(5,rr 4 x19),(10,sl 2 (File.enc false) a1.Files),(11,iv (a1.Files.length:Int)),(12,iv s12.2)] [(4,rE 1 eStr x19)] (zC 3 (zFd 86 9 1 3 eStr [x14.Path] [0] [(.tmp 22)] [sv x14.Path]) (zC 4 (zIJ 86 86 9 9 1 16 4 1 3 eStr (.tmp 20) (.tmp 23) h20) zB)) ?_
    exact xB (J_j (jv21 x19)) rfl
   ·refine zCo 1 4 (Nat.le_of_ble_eq_true rfl) (Nat.le_of_ble_eq_true rfl) ?_
    exact xB (J_j (jv21 s12.1)) rfl
 ·exact xB (hk s12.1) rfl
theorem zAl.ok (a1:zF) (a2:ByteArray):Ok Tryz.prog 136 [.ag (zF.enc false a1),sv a2] [] ((zAl a1 a2).map fun r=>(so 1 eStr r,[])):=by
 refine zH zQF Tryz.f136 0 27 (fun q=>?_)
 unfold zAl
 refine J_g 2 [(0,0)] [(1,sv a2),(2,pp 0)] [(0,.box (zF.enc false a1))] zB ?_
 refine J_g 6 [] [(1,sv a2),(2,pp 0),(5,rr 1 ([]:List ByteArray))] [(0,.box (zF.enc false a1)),(1,rE 1 eStr ([]:List ByteArray))] (zC 0 (zFd 86 9 1 1 eStr ([]:List ByteArray) [] [] []) zB) ?_
 refine J_g 28 [] [(1,sv a2),(5,rr 1 ([]:List ByteArray)),(10,sl 2 (File.enc false) a1.Files),(11,iv (a1.Files.length:Int)),(12,iv 0)] [(1,rE 1 eStr ([]:List ByteArray))] zB ?_
 refine zFl (jB.ok a1 a2 q _ (fun v22=>J_j ?_) (([]:List ByteArray),0))
 refine J_g 30 [] [(4,rr 1 v22)] [(1,rE 1 eStr v22)] zB ?_
 exact zD5 (ds:=[rr 1 v22]) (ds':=[so 1 eStr v22]) (.cons (.cell (.move (.head _) (List.length_map _) (by decide) (.nil))) (.nil) (by decide)) rfl
noncomputable def zQ7:Code:=(Tryz.f128.body).getD .skip
theorem zBr.ok (x2:(List ByteArray)) (q:Wd) (kn:(List Int)→Option (D×List Ent)) (hk:∀v:(List Int),J (q.g Tryz.prog 128 0 31) zQ7 (atI zQ7 15) (St.mk' [(3,rr 1 v)] [(1,rE 1 zG v)]) (some v) kn):
  ∀s17:((List Int)×Int),J (q.g Tryz.prog 128 0 31) zQ7 (atI zQ7 116) (St.mk' [(3,rr 1 s17.1),(9,rr 2 x2),(10,iv (x2.length:Int)),(11,iv s17.2)] [(1,rE 1 zG s17.1),(2,rE 1 eStr x2)]) (zBr x2 s17) kn:=by
 refine jJ (fun g ih s17=>?_)
 unfold zAJ
 refine J_g 232 [] [(3,rr 1 s17.1),(9,rr 2 x2),(10,iv (x2.length:Int)),(11,iv s17.2),(12,bv (decide (s17.2< (x2.length:Int))))] [(1,rE 1 zG s17.1),(2,rE 1 eStr x2)] zB ?_
 refine zD 12 (fun h18=>?_) (fun h18=>?_)
 ·refine zA (fun x19 h20=>?_)
  refine J_g 3736 [] [(3,rr 1 s17.1),(5,sv x19),(9,rr 2 x2),(10,iv (x2.length:Int)),(11,iv s17.2)] [(1,rE 1 zG s17.1),(2,rE 1 eStr x2)] (zC 0 (kM (kk:=.i64) 86 9 1 2 eStr (.tmp 9) (.tmp 11) h20) (zC 1 (zED (d:=sv x19) 9 1 2 0 eStr (.tmp 13) h20 (by kernel_rfl)) zB)) ?_
  refine zA (fun x21 h22=>?_)
  refine zA (fun x23 h24=>?_)
  refine J_g 7474 [] [(3,rr 1 s17.1),(5,sv x19),(6,iv x23),(9,rr 2 x2),(10,iv (x2.length:Int)),(11,iv s17.2)] [(1,rE 1 zG s17.1),(2,rE 1 eStr x2)] (zC 1 (zKW 9 (.tmp 15) (some (.const (.int .i64 4))) none h22) (zC 2 (xO [(.tmp 16),(.const (.int .i64 6))] [9,3] (kV.ok x21 6) h24) zB)) ?_
  refine wD (atI zQ7 14951) (fun v26:Bool=>St.mk' [(3,rr 1 s17.1),(6,iv x23),(9,rr 2 x2),(10,iv (x2.length:Int)),(11,iv s17.2),(24,bv v26)] [(1,rE 1 zG s17.1),(2,rE 1 eStr x2)]) (fun v26=>?_) (fun jv26=>?_)
  ·refine wD (aft zQ7 1868) (fun v30:(List Int)=>St.mk' [(3,rr 4 v30),(9,rr 2 x2),(10,iv (x2.length:Int)),(11,iv s17.2)] [(2,rE 1 eStr x2),(4,rE 1 zG v30)]) (fun v30=>?_) (fun jv30=>?_)
   ·refine J_g 935 [] [(3,rr 4 v30),(9,rr 2 x2),(10,iv (x2.length:Int)),(11,iv (w64 (s17.2+1)))] [(2,rE 1 eStr x2),(4,rE 1 zG v30)] zB ?_
    refine zCo 4 1 (Nat.le_of_ble_eq_true rfl) (Nat.le_of_ble_eq_true rfl) ?_
    exact J_q (J_b (ih (v30,w64 (s17.2+1)))) rfl
   ·refine zD 24 (fun h27=>?_) (fun h27=>?_)
    ·refine zA (fun x28 h29=>?_)
     refine J_g 29902 [] [(3,rr 4 x28),(9,rr 2 x2),(10,iv (x2.length:Int)),(11,iv s17.2)] [(2,rE 1 eStr x2),(4,rE 1 zG x28)] (zC 2 (zFd 39 2 1 3 zG [x23] [0] [(.tmp 26)] [iv x23]) (zC 3 (zIJ 39 39 2 2 1 8 4 1 3 zG (.tmp 25) (.tmp 27) h29) zB)) ?_
     exact xB (J_j (jv30 x28)) rfl
    ·refine zCo 1 4 (Nat.le_of_ble_eq_true rfl) (Nat.le_of_ble_eq_true rfl) ?_
     exact xB (J_j (jv30 s17.1)) rfl
  ·refine wN (fun h25=>?_) (fun h25=>?_)
   ·refine J_g 14950 [] [(3,rr 1 s17.1),(6,iv x23),(9,rr 2 x2),(10,iv (x2.length:Int)),(11,iv s17.2),(24,bv ((x19.size:Int)==10))] [(1,rE 1 zG s17.1),(2,rE 1 eStr x2)] (wF 2 [(19,bv (decide (x23≥1)))] [] h25 zB) ?_
    exact xB (J_j (jv26 ((x19.size:Int)==10))) rfl
   ·refine J_g 14950 [] [(3,rr 1 s17.1),(6,iv x23),(9,rr 2 x2),(10,iv (x2.length:Int)),(11,iv s17.2),(24,bv false)] [(1,rE 1 zG s17.1),(2,rE 1 eStr x2)] (wF 2 [(19,bv (decide (x23≥1)))] [] h25 zB) ?_
    exact xB (J_j (jv26 false)) rfl
 ·exact xB (hk s17.1) rfl
theorem tJ.ok (a1:zF):Ok Tryz.prog 128 [.ag (zF.enc false a1)] [] ((tJ a1).map fun r=>(so 1 zG r,[])):=by
 refine zH zQ7 Tryz.f128 0 31 (fun q=>?_)
 unfold tJ
 refine J_g 2 [(0,0)] [(1,pp 0)] [(0,.box (zF.enc false a1))] zB ?_
 refine J_g 6 [] [(1,pp 0),(3,rr 1 ([]:List Int))] [(0,.box (zF.enc false a1)),(1,rE 1 zG ([]:List Int))] (zC 0 (zFd 39 2 1 1 zG ([]:List Int) [] [] []) zB) ?_
 refine zA (fun x2 h3=>?_)
 refine J_g 28 [] [(3,rr 1 ([]:List Int)),(9,rr 2 x2),(10,iv (x2.length:Int)),(11,iv 0)] [(1,rE 1 zG ([]:List Int)),(2,rE 1 eStr x2)] (zC 1 (uH («as»:=[.ag (zF.enc false a1),sv (bs [103,101,110,47])]) [(.tmp 8),(.const (.string (bs [103,101,110,47])))] [33,9] false [] [] (.cons (.same rfl) (.cons (.same rfl) (.nil))) (zAl.ok a1 (bs [103,101,110,47])) h3 (.own 2)) zB) ?_
 refine zFl (zBr.ok x2 q _ (fun v31=>J_j ?_) (([]:List Int),0))
 refine J_g 30 [] [(2,rr 1 v31)] [(1,rE 1 zG v31)] zB ?_
 exact zD5 (ds:=[rr 1 v31]) (ds':=[so 1 zG v31]) (.cons (.cell (.move (.head _) (List.length_map _) (by decide) (.nil))) (.nil) (by decide)) rfl
noncomputable def zRs:Code:=(Tryz.f204.body).getD .skip
theorem uQ.ok (a1:(List Int)) (a2:Int) (q:Wd) (kn:Unit→Option (D×List Ent)) (hk:∀v:Unit,J (q.g Tryz.prog 204 0 19) zRs (atI zRs 7) (St.mk' [] []) (some v) kn):
  ∀s7:Int,J (q.g Tryz.prog 204 0 19) zRs (atI zRs 52) (St.mk' [(0,sl 1 zG a1),(1,iv a2),(7,iv (a1.length:Int)),(8,iv s7)] []) (uQ a1 a2 s7) (Fl.go (fun r:Int=>some (iv r,[])) kn):=by
 refine jJ (fun g ih s7=>?_)
 unfold uG
 refine J_g 104 [] [(0,sl 1 zG a1),(1,iv a2),(7,iv (a1.length:Int)),(8,iv s7),(9,bv (decide (s7< (a1.length:Int))))] [] zB ?_
 refine zD 9 (fun h8=>?_) (fun h8=>?_)
 ·refine J_g 1688 [] [(0,sl 1 zG a1),(1,iv a2),(5,iv s7),(7,iv (a1.length:Int)),(8,iv s7)] [] zB ?_
  refine zA (fun x9 h10=>?_)
  refine J_g 3378 [] [(0,sl 1 zG a1),(1,iv a2),(5,iv s7),(7,iv (a1.length:Int)),(8,iv s7),(16,bv (a2==x9))] [] (zC 3 (uN (kk:=.i64) 39 2 1 zG (.tmp 12) (.tmp 13) h10) zB) ?_
  refine zD 16 (fun h11=>?_) (fun h11=>?_)
  ·refine J_g 13516 [] [(4,iv s7)] [] zB ?_
   exact zR rfl
  ·refine J_g 423 [] [(0,sl 1 zG a1),(1,iv a2),(7,iv (a1.length:Int)),(8,iv (w64 (s7+1)))] [] zB ?_
   exact J_q (J_b (ih (w64 (s7+1)))) rfl
 ·exact xB (hk ()) rfl
theorem uY.ok (a1:(List Int)) (a2:Int):Ok Tryz.prog 204 [sl 1 zG a1,iv a2] [] ((uY a1 a2).map fun r=>(iv r,[])):=by
 refine zH zRs Tryz.f204 0 19 (fun q=>?_)
 unfold uY
 refine J_g 2 [] [(0,sl 1 zG a1),(1,iv a2)] [] zB ?_
 refine J_g 12 [] [(0,sl 1 zG a1),(1,iv a2),(7,iv (a1.length:Int)),(8,iv 0)] [] zB ?_
 refine vY (K0:=(fun r:Int=>some (iv r,[]))) (fun _=>rfl) (uQ.ok a1 a2 q _ (fun v12=>J_j ?_) 0)
 refine J_g 14 [] [(4,iv (-1))] [] zB ?_
 exact zR rfl
noncomputable def c131:Code:=(Tryz.f131.body).getD .skip
theorem xL.ok (a1:(List Int)) (a2:Int):Ok Tryz.prog 131 [sl 1 zG a1,iv a2] [] ((xL a1 a2).map fun r=>(bv r,[])):=by
 refine zH c131 Tryz.f131 0 9 (fun q=>?_)
 unfold xL
 refine J_g 2 [] [(0,sl 1 zG a1),(1,iv a2)] [] zB ?_
 refine zA (fun x3 h4=>?_)
 refine J_g 6 [] [(4,bv (decide (x3≥0)))] [] (zC 2 (xO [(.tmp 5),(.tmp 6)] [39,2] (uY.ok a1 a2) h4) zB) ?_
 exact zR rfl
noncomputable def zSy:Code:=(Tryz.f101.body).getD .skip
theorem uX.ok (a1:zF):Ok Tryz.prog 101 [.ag (zF.enc false a1)] [] ((uX a1).map fun r=>(.tu [iv r.1,iv r.2],[])):=by
 refine zH zSy Tryz.f101 0 25 (fun q=>?_)
 unfold uX
 refine J_g 2 [(0,0)] [(1,pp 0)] [(0,.box (zF.enc false a1))] zB ?_
 refine zA (fun x2 h3=>?_)
 refine J_g 6 [] [(1,pp 0),(4,sl 1 eU8 x2.1),(5,bv x2.2)] [(0,.box (zF.enc false a1))] (zC 1 (xO [(.tmp 8),(.const (.string (bs [99,117,114])))] [33,9] (xV.ok a1 (bs [99,117,114])) h3) zB) ?_
 refine zA (fun x4 h5=>?_)
 refine J_g 14 [] [(1,pp 0),(5,bv x2.2),(6,iv x4)] [(0,.box (zF.enc false a1))] (zC 1 (zKx (xs:=x2.1) 121 9 5 (.tmp 12)) (zC 2 (xO [(.tmp 13),(.const (.int .i64 6))] [9,3] (kV.ok (b2s x2.1) 6) h5) zB)) ?_
 refine wD (atI zSy 61) (fun v11:Bool=>St.mk' [(6,iv x4),(23,bv v11)] []) (fun v11=>?_) (fun jv11=>?_)
 ·refine zD 23 (fun h12=>?_) (fun h12=>?_)
  ·refine J_g 244 [] [(2,iv 0),(3,iv 4)] [] zB ?_
   exact zNA rfl
  ·refine J_g 62 [] [(2,iv x4),(3,iv 0)] [] zB ?_
   exact zNA rfl
 ·refine wN (fun h6=>?_) (fun h6=>?_)
  ·refine J_g 60 [] [(6,iv x4),(23,bv true)] [] (wF 2 [(16,bv (!x2.2))] [] h6 zB) ?_
   exact xB (J_j (jv11 true)) rfl
  ·refine zA (fun x7 h8=>?_)
   refine zA (fun x9 h10=>?_)
   refine J_g 60 [] [(6,iv x4),(23,bv (!x9))] [] (wF 2 [(16,bv (!x2.2))] [] h6 (zAR 4 2 17 false (uH («as»:=[.ag (zF.enc false a1)]) [(.tmp 18)] [33] false [] [] (.cons (.same rfl) (.nil)) (tJ.ok a1) h8 (.own 1)) (zAR 6 2 17 false (uH («as»:=[rr 1 x7,iv x4]) [(.tmp 19),(.tmp 20)] [39,2] true [(1,rE 1 zG x7)] [] (.cons (zF1 (.head _) (fun _=>rfl) rfl) (.cons (.same rfl) (.nil))) (xL.ok x7 x4) h10 (.same rfl rfl) (hbor:=fun _=>⟨fhN,yB⟩)) zB))) ?_
   exact xB (J_j (jv11 (!x9))) rfl
theorem uW.ok (a1 a2:Int):Ok Tryz.prog 156 [iv a1,iv a2] [] ((uW a1 a2).map fun r=>(sv r,[])):=by
 unfold uW
 split
 ·rename_i h
  obtain ⟨rfl,h0,h1⟩:=h
  exact zPZ (vs:=[.int .i64 a1,.int .i64 10]) (fun w hG=>Tryz.strconv_FormatInt_10 a1 h0 h1 w (zPx (g:=1) hG (by kernel_rfl) (by kernel_rfl)))
 ·exact fun _ h=>by cases h
noncomputable def c84:Code:=(Tryz.f84.body).getD .skip
theorem zCm.ok (a1:Int):Ok Tryz.prog 84 [iv a1] [] ((zCm a1).map fun r=>(sv r,[])):=by
 refine zH c84 Tryz.f84 0 5 (fun q=>?_)
 unfold zCm
 refine J_g 2 [] [(0,iv a1)] [] zB ?_
 refine zA (fun x2 h3=>?_)
 refine J_g 6 [] [(2,sv x2)] [] (zC 1 (xO [(.tmp 3),(.const (.int .i64 10))] [2,3] (uW.ok a1 10) h3) zB) ?_
 exact zR rfl
theorem strings_Repeat.ok (a1:ByteArray) (a2:Int):Ok Tryz.prog 207 [sv a1,iv a2] [] ((strings_Repeat a1 a2).map fun r=>(sv r,[])):=by
 unfold strings_Repeat
 split
 ·rename_i h
  obtain ⟨h0,h1,h2⟩:=h
  obtain ⟨n,rfl⟩:=Int.eq_ofNat_of_zero_le h0
  exact zP8 (vs:=[.string a1,.int .i64 n]) (fun w=>Tryz.strings_Repeat a1 n w (by omega) h2)
 ·exact fun _ h=>by cases h
noncomputable def zTv:Code:=(Tryz.f135.body).getD .skip
theorem zC6.ok (a1:Int):Ok Tryz.prog 135 [iv a1] [] ((zC6 a1).map fun r=>(sv r,[])):=by
 refine zH zTv Tryz.f135 0 13 (fun q=>?_)
 unfold zC6
 refine J_g 2 [] [(0,iv a1)] [] zB ?_
 refine zA (fun x2 h3=>?_)
 refine J_g 6 [] [(3,sv x2)] [] (zC 1 (xO [(.tmp 4)] [2] (zCm.ok a1) h3) zB) ?_
 refine zA (fun x4 h5=>?_)
 refine zA (fun x6 h7=>?_)
 refine zA (fun x8 h9=>?_)
 refine J_g 14 [] [(2,sv x8)] [] (zC 3 (xO [(.const (.string (bs [48]))),(.tmp 8)] [9,3] (strings_Repeat.ok (bs [48]) (w64 (6-(x2.size:Int)))) h5) (zC 4 (zD8 9 9 (.const (.string (bs [103,101,110,47]))) (.tmp 9) h7) (zC 6 (zD8 9 9 (.tmp 10) (.tmp 11) h9) zB))) ?_
 exact zR rfl
theorem strings_Split.ok (a1 a2:ByteArray):Ok Tryz.prog 183 [sv a1,sv a2] [] ((strings_Split a1 a2).map fun r=>(so 1 eStr r,[])):=by
 unfold strings_Split
 split
 ·rename_i h
  refine zOS (t:=9) (fun w hG=>?_)
  obtain ⟨m,hm⟩:=zNZ (g:=0) hG (by kernel_rfl)
  rw [Lib.splitB_all a2 h.2 0 _ a1 rfl]
  exact Tryz.strings_Split a1 a2 m w h.1 hm h.2
 ·exact fun _ h=>by cases h
noncomputable def c105:Code:=(Tryz.f105.body).getD .skip
theorem jZ.ok (a1:ByteArray):Ok Tryz.prog 105 [sv a1] [] ((jZ a1).map fun r=>(so 1 eStr r,[])):=by
 refine zH c105 Tryz.f105 0 19 (fun q=>?_)
 unfold jZ
 refine J_g 2 [] [(0,sv a1)] [] zB ?_
 refine zA (fun x2 h3=>?_)
 refine J_g 6 [] [(3,rr 0 x2)] [(0,rE 1 eStr x2)] (zC 1 (uH («as»:=[sv a1,sv (bs [10])]) [(.tmp 4),(.const (.string (bs [10])))] [9,9] false [] [] (.cons (.same rfl) (.cons (.same rfl) (.nil))) (strings_Split.ok a1 (bs [10])) h3 (.own 0)) zB) ?_
 refine zA (fun x4 h5=>?_)
 refine J_g 28 [] [(3,rr 0 x2),(12,bv (seq x4 (bs [])))] [(0,rE 1 eStr x2)] (zC 4 (kM (kk:=.i64) 86 9 1 0 eStr (.tmp 6) (.tmp 9) h5) (zC 5 (zED (d:=sv x4) 9 1 0 0 eStr (.tmp 10) h5 (by kernel_rfl)) zB)) ?_
 refine wD (atI c105 15) (fun v9:(List ByteArray)=>St.mk' [(3,rr 1 v9)] [(1,rE 1 eStr v9)]) (fun v9=>?_) (fun jv9=>?_)
 ·refine J_g 30 [] [(2,rr 1 v9)] [(1,rE 1 eStr v9)] zB ?_
  exact zD5 (ds:=[rr 1 v9]) (ds':=[so 1 eStr v9]) (.cons (.cell (.move (.head _) (List.length_map _) (by decide) (.nil))) (.nil) (by decide)) rfl
 ·refine zD 12 (fun h6=>?_) (fun h6=>?_)
  ·refine zA (fun x7 h8=>?_)
   refine J_g 58 [] [(3,rr 1 x7)] [(1,rE 1 eStr x7)] (zC 4 (zPs 86 9 1 0 1 eStr (.tmp 13) none (some (.tmp 16)) h8) zB) ?_
   exact xB (J_j (jv9 x7)) rfl
  ·refine zCo 0 1 (Nat.le_of_ble_eq_true rfl) (Nat.le_of_ble_eq_true rfl) ?_
   exact xB (J_j (jv9 x2)) rfl
noncomputable def zST:Code:=(Tryz.f280.body).getD .skip
theorem tH.ok (a1:ByteArray):Ok Tryz.prog 280 [sv a1] [] ((tH a1).map fun r=>(bv r,[])):=by
 refine zH zST Tryz.f280 0 5 (fun q=>?_)
 unfold tH
 refine J_g 2 [] [(0,sv a1)] [] zB ?_
 refine J_g 6 [] [(2,bv (seq a1 (bs [])))] [] zB ?_
 exact zR rfl
noncomputable def zOQ:Code:=(Tryz.f316.body).getD .skip
theorem wC.ok (a1:(List ByteArray)) (q:Wd) (kn:Unit→Option (D×List Ent)) (hk:∀v:Unit,J (q.g Tryz.prog 316 0 19) zOQ (atI zOQ 7) (St.mk' [] []) (some v) kn):
  ∀s8:Int,J (q.g Tryz.prog 316 0 19) zOQ (atI zOQ 52) (St.mk' [(0,sl 1 eStr a1),(1,.fn 280 []),(7,iv (a1.length:Int)),(8,iv s8)] []) (wC a1 s8) (Fl.go (fun r:Int=>some (iv r,[])) kn):=by
 refine jJ (fun g ih s8=>?_)
 unfold xE
 refine J_g 104 [] [(0,sl 1 eStr a1),(1,.fn 280 []),(7,iv (a1.length:Int)),(8,iv s8),(9,bv (decide (s8< (a1.length:Int))))] [] zB ?_
 refine zD 9 (fun h9=>?_) (fun h9=>?_)
 ·refine J_g 1688 [] [(0,sl 1 eStr a1),(1,.fn 280 []),(5,iv s8),(7,iv (a1.length:Int)),(8,iv s8)] [] zB ?_
  refine zA (fun x10 h11=>?_)
  refine zA (fun x12 h13=>?_)
  refine J_g 3378 [] [(0,sl 1 eStr a1),(1,.fn 280 []),(5,iv s8),(7,iv (a1.length:Int)),(8,iv s8),(16,bv x12)] [] (zC 3 (uN (kk:=.i64) 86 9 1 eStr (.tmp 12) (.tmp 13) h11) (zC 5 (zOD («as»:=[sv x10]) (caps:=[]) 11 [(.tmp 15)] [9] (tH.ok x10) h13) zB)) ?_
  refine zD 16 (fun h14=>?_) (fun h14=>?_)
  ·refine J_g 13516 [] [(4,iv s8)] [] zB ?_
   exact zR rfl
  ·refine J_g 423 [] [(0,sl 1 eStr a1),(1,.fn 280 []),(7,iv (a1.length:Int)),(8,iv (w64 (s8+1)))] [] zB ?_
   exact J_q (J_b (ih (w64 (s8+1)))) rfl
 ·exact xB (hk ()) rfl
theorem xR.ok (a1:(List ByteArray)):Ok Tryz.prog 316 [sl 1 eStr a1,.fn 280 []] [] ((xR a1).map fun r=>(iv r,[])):=by
 refine zH zOQ Tryz.f316 0 19 (fun q=>?_)
 unfold xR
 refine J_g 2 [] [(0,sl 1 eStr a1),(1,.fn 280 [])] [] zB ?_
 refine J_g 12 [] [(0,sl 1 eStr a1),(1,.fn 280 []),(7,iv (a1.length:Int)),(8,iv 0)] [] zB ?_
 refine vY (K0:=(fun r:Int=>some (iv r,[]))) (fun _=>rfl) (wC.ok a1 q _ (fun v15=>J_j ?_) 0)
 refine J_g 14 [] [(4,iv (-1))] [] zB ?_
 exact zR rfl
noncomputable def zQA:Code:=(Tryz.f279.body).getD .skip
theorem xX.ok (q:Wd) (kn:((List ByteArray)×Int)→Option (D×List Ent)) (hk:∀v:((List ByteArray)×Int),J (q.g Tryz.prog 279 1 42) zQA (atI zQA 31) (St.mk' [(0,rr 0 v.1),(5,iv v.2)] [(0,rE 1 eStr v.1)]) (some v) kn):
  ∀s14:((List ByteArray)×Int×Int),J (q.g Tryz.prog 279 1 42) zQA (atI zQA 244) (St.mk' [(0,rr 0 s14.1),(1,.fn 280 []),(5,iv s14.2.1),(6,iv s14.2.2)] [(0,rE 1 eStr s14.1)]) (xX s14) kn:=by
 refine jJ (fun g ih s14=>?_)
 unfold yZ
 refine J_g 976 [] [(0,rr 0 s14.1),(1,.fn 280 []),(5,iv s14.2.1),(6,iv s14.2.2),(19,bv (decide (s14.2.2< (s14.1.length:Int))))] [(0,rE 1 eStr s14.1)] zB ?_
 refine zD 19 (fun h15=>?_) (fun h15=>?_)
 ·refine zA (fun x16 h17=>?_)
  refine J_g 3912 [] [(0,rr 0 s14.1),(1,.fn 280 []),(5,iv s14.2.1),(6,iv s14.2.2),(7,sv x16)] [(0,rE 1 eStr s14.1)] (zC 2 (kM (kk:=.i64) 86 9 1 0 eStr (.tmp 22) (.tmp 23) h17) (zC 3 (zED (d:=sv x16) 9 1 0 0 eStr (.tmp 24) h17 (by kernel_rfl)) zB)) ?_
  refine zA (fun x18 h19=>?_)
  refine J_g 7826 [] [(0,rr 0 s14.1),(1,.fn 280 []),(5,iv s14.2.1),(6,iv s14.2.2),(7,sv x16),(29,bv (!x18))] [(0,rE 1 eStr s14.1)] (zC 2 (zOD («as»:=[sv x16]) (caps:=[]) 26 [(.tmp 27)] [9] (tH.ok x16) h19) zB) ?_
  refine wD (aft zQA 1956) (fun v23:((List ByteArray)×Int)=>St.mk' [(0,rr 0 v23.1),(1,.fn 280 []),(5,iv v23.2),(6,iv s14.2.2)] [(0,rE 1 eStr v23.1)]) (fun v23=>?_) (fun jv23=>?_)
  ·refine J_g 979 [] [(0,rr 0 v23.1),(1,.fn 280 []),(5,iv v23.2),(6,iv (w64 (s14.2.2+1)))] [(0,rE 1 eStr v23.1)] zB ?_
   exact J_q (J_b (ih (v23.1,v23.2,w64 (s14.2.2+1)))) rfl
  ·refine zD 29 (fun h20=>?_) (fun h20=>?_)
   ·refine zA (fun x21 h22=>?_)
    refine J_g 31308 [] [(0,rr 0 s14.1),(1,.fn 280 []),(5,iv s14.2.1),(6,iv s14.2.2)] [(0,rE 1 eStr (s14.1.set s14.2.1.toNat x16))] (zC 3 (kM (kk:=.i64) 86 9 1 0 eStr (.tmp 30) (.tmp 31) h22) (zGY 4 (zIc (b:=x16) 9 1 0 0 eStr (sv x16) (.tmp 33) (.tmp 32) h22 rfl) zB)) ?_
    refine zFJ (σ':=St.mk' [(0,rr 0 (s14.1.set s14.2.1.toNat x16)),(1,.fn 280 []),(5,iv s14.2.1),(6,iv s14.2.2)] [(0,rE 1 eStr (s14.1.set s14.2.1.toNat x16))]) (by simp only [rr,List.length_set]) ?_
    refine J_g 31309 [] [(0,rr 0 (s14.1.set s14.2.1.toNat x16)),(1,.fn 280 []),(5,iv (w64 (s14.2.1+1))),(6,iv s14.2.2)] [(0,rE 1 eStr (s14.1.set s14.2.1.toNat x16))] zB ?_
    exact xB (J_j (jv23 (s14.1.set s14.2.1.toNat x16,w64 (s14.2.1+1)))) rfl
   ·exact xB (J_j (jv23 (s14.1,s14.2.1))) rfl
 ·exact xB (hk (s14.1,s14.2.1)) rfl
theorem yO.ok (a1:(List ByteArray)):Ok Tryz.prog 279 [rr 0 a1,.fn 280 []] [rE 1 eStr a1] ((yO a1).map fun r=>(so 1 eStr r,[])):=by
 refine zH zQA Tryz.f279 1 42 (fun q=>?_)
 unfold yO
 refine J_g 2 [] [(0,rr 0 a1),(1,.fn 280 [])] [(0,rE 1 eStr a1)] zB ?_
 refine zA (fun x2 h3=>?_)
 refine J_g 6 [] [(0,rr 0 a1),(1,.fn 280 []),(5,iv x2)] [(0,rE 1 eStr a1)] (zC 2 (uH («as»:=[rr 0 a1,.fn 280 []]) [(.tmp 8),(.tmp 9)] [86,281] true [(0,rE 1 eStr a1)] [] (.cons (zF1 (.head _) (fun _=>rfl) rfl) (.cons (.fn (.nil)) (.nil))) (xR.ok a1) h3 (.same rfl rfl) (hbor:=fun _=>⟨fhN,yB⟩)) zB) ?_
 refine J_g 28 [] [(0,rr 0 a1),(1,.fn 280 []),(5,iv x2),(12,bv (x2==(-1)))] [(0,rE 1 eStr a1)] zB ?_
 refine zD 12 (fun h4=>?_) (fun h4=>?_)
 ·refine J_g 116 [] [(4,rr 0 a1)] [(0,rE 1 eStr a1)] zB ?_
  exact zD5 (ds:=[rr 0 a1]) (ds':=[so 1 eStr a1]) (.cons (.cell (.move (.head _) (List.length_map _) (by decide) (.nil))) (.nil) (by decide)) rfl
 ·refine J_g 60 [] [(0,rr 0 a1),(1,.fn 280 []),(5,iv x2),(6,iv (w64 (x2+1)))] [(0,rE 1 eStr a1)] zB ?_
  refine zFl (xX.ok q _ (fun v24=>J_j ?_) (a1,x2,w64 (x2+1)))
  refine zA (fun x25 h26=>?_)
  refine zA (fun x27 h28=>?_)
  refine J_g 62 [] [(0,rr 0 v24.1),(5,iv v24.2)] [(0,rE 1 eStr x27)] (zC 2 (zR5 86 9 1 0 eStr (.tmp 36) (some (.tmp 37)) none h26) (zGY 3 (zRz (l:=v24.2) (a:=ByteArray.empty) 86 9 1 0 eStr (.tmp 38) h28 (.keep rfl (.nil))) zB)) ?_
  refine zFJ (σ':=St.mk' [(0,rr 0 x27),(5,iv v24.2)] [(0,rE 1 eStr x27)]) (by simp only [rr,zM4 h28]) ?_
  refine zA (fun x29 h30=>?_)
  refine J_g 126 [] [(4,rr 1 x29)] [(1,rE 1 eStr x29)] (zC 2 (zPs 86 9 1 0 1 eStr (.tmp 39) none (some (.tmp 40)) h30) zB) ?_
  exact zD5 (ds:=[rr 1 x29]) (ds':=[so 1 eStr x29]) (.cons (.cell (.move (.head _) (List.length_map _) (by decide) (.nil))) (.nil) (by decide)) rfl
noncomputable def zTt:Code:=(Tryz.f219.body).getD .skip
theorem zCC.ok (a1:ByteArray):Ok Tryz.prog 219 [sv a1] [] ((zCC a1).map fun r=>(so 1 eStr r,[])):=by
 refine zH zTt Tryz.f219 0 6 (fun q=>?_)
 unfold zCC
 refine J_g 2 [] [(0,sv a1)] [] zB ?_
 refine zA (fun x2 h3=>?_)
 refine zA (fun x4 h5=>?_)
 refine J_g 6 [] [(2,rr 1 x4)] [(1,rE 1 eStr x4)] (zC 1 (uH («as»:=[sv a1,sv (bs [32])]) [(.tmp 3),(.const (.string (bs [32])))] [9,9] false [] [] (.cons (.same rfl) (.cons (.same rfl) (.nil))) (strings_Split.ok a1 (bs [32])) h3 (.own 0)) (zC 2 (uH («as»:=[rr 0 x2,.fn 280 []]) [(.tmp 4),(.func 280)] [86,281] false [(0,rE 1 eStr x2)] [0] (.cons (.rf rfl) (.cons (.fn (.nil)) (.nil))) (yO.ok x2) h5 (.own 1)) zB)) ?_
 exact zD5 (ds:=[rr 1 x4]) (ds':=[so 1 eStr x4]) (.cons (.cell (.move (.head _) (List.length_map _) (by decide) (.nil))) (.nil) (by decide)) rfl
noncomputable def zR9:Code:=(Tryz.f189.body).getD .skip
theorem jP.ok (x2:(List ByteArray)) (q:Wd) (kn:(List Int)→Option (D×List Ent)) (hk:∀v:(List Int),J (q.g Tryz.prog 189 0 39) zR9 (atI zR9 63) (St.mk' [(2,pp 0),(4,pp 2)] [(0,.box [iv 0,iv 0,iv 0,iv 0]),(2,rE 1 zG v)]) (some v) kn):
  ∀s15:((List Int)×Int),J (q.g Tryz.prog 189 0 39) zR9 (atI zR9 500) (St.mk' [(2,pp 0),(4,pp 2),(14,rr 1 x2),(15,iv (x2.length:Int)),(16,iv s15.2)] [(0,.box [iv 0,iv 0,iv 0,iv 0]),(1,rE 1 eStr x2),(2,rE 1 zG s15.1)]) (jP x2 s15) (Fl.go (fun r:zL=>some (.ag (zL.enc r),[])) kn):=by
 refine jJ (fun g ih s15=>?_)
 unfold tX
 refine J_g 1000 [] [(2,pp 0),(4,pp 2),(14,rr 1 x2),(15,iv (x2.length:Int)),(16,iv s15.2),(17,bv (decide (s15.2< (x2.length:Int))))] [(0,.box [iv 0,iv 0,iv 0,iv 0]),(1,rE 1 eStr x2),(2,rE 1 zG s15.1)] zB ?_
 refine zD 17 (fun h16=>?_) (fun h16=>?_)
 ·refine zA (fun x17 h18=>?_)
  refine J_g 16024 [] [(2,pp 0),(4,pp 2),(5,iv s15.2),(6,sv x17),(14,rr 1 x2),(15,iv (x2.length:Int)),(16,iv s15.2)] [(0,.box [iv 0,iv 0,iv 0,iv 0]),(1,rE 1 eStr x2),(2,rE 1 zG s15.1)] (zC 1 (kM (kk:=.i64) 86 9 1 1 eStr (.tmp 14) (.tmp 16) h18) (zC 2 (zED (d:=sv x17) 9 1 1 0 eStr (.tmp 19) h18 (by kernel_rfl)) zB)) ?_
  refine zA (fun x19 h20=>?_)
  refine zA (fun x21 h22=>?_)
  refine J_g 32050 [] [(2,pp 0),(4,pp 2),(5,iv s15.2),(14,rr 1 x2),(15,iv (x2.length:Int)),(16,iv s15.2)] [(0,.box [iv 0,iv 0,iv 0,iv 0]),(1,rE 1 eStr x2),(2,rE 1 zG (s15.1.set s15.2.toNat x19))] (zC 2 (xO [(.tmp 22),(.const (.int .i64 3))] [9,3] (kV.ok x17 3) h20) (zC 3 (zOg (kk:=.i64) 253 2 1 2 zG (.tmp 4) (.tmp 21) 3 h22) (zGY 4 (zIc (b:=x19) 2 1 2 0 zG (iv x19) (.tmp 24) (.tmp 23) (zGF h22) rfl) zB))) ?_
  refine zA (fun x23 h24=>?_)
  refine J_g 64102 [] [(2,pp 0),(4,pp 2),(14,rr 1 x2),(15,iv (x2.length:Int)),(16,iv s15.2),(28,bv (decide (x23<0)))] [(0,.box [iv 0,iv 0,iv 0,iv 0]),(1,rE 1 eStr x2),(2,rE 1 zG (s15.1.set s15.2.toNat x19))] (zC 1 (zOg (kk:=.i64) 253 2 1 2 zG (.tmp 4) (.tmp 25) 3 h24) (zC 2 (zED (d:=iv x23) 2 1 2 0 zG (.tmp 26) (zGF h24) (by kernel_rfl)) zB)) ?_
  refine zD 28 (fun h25=>?_) (fun h25=>?_)
  ·refine J_g 256412 [] [(2,pp 0)] [(0,.box [iv 5,iv 0,iv 0,iv 0])] zB ?_
   exact zR rfl
  ·refine J_g 4007 [] [(2,pp 0),(4,pp 2),(14,rr 1 x2),(15,iv (x2.length:Int)),(16,iv (w64 (s15.2+1)))] [(0,.box [iv 0,iv 0,iv 0,iv 0]),(1,rE 1 eStr x2),(2,rE 1 zG (s15.1.set s15.2.toNat x19))] zB ?_
   exact J_q (J_b (ih (s15.1.set s15.2.toNat x19,w64 (s15.2+1)))) rfl
 ·exact xB (hk s15.1) rfl
theorem wL.ok (a1:ByteArray):Ok Tryz.prog 189 [sv a1] [] ((wL a1).map fun r=>(.ag (zL.enc r),[])):=by
 refine zH zR9 Tryz.f189 0 39 (fun q=>?_)
 unfold wL
 refine J_g 2 [(0,0)] [(0,sv a1),(2,pp 0)] [(0,.box [iv 0,iv 0,iv 0,iv 0])] zB ?_
 refine zA (fun x2 h3=>?_)
 refine J_g 6 [] [(2,pp 0),(3,rr 1 x2)] [(0,.box [iv 0,iv 0,iv 0,iv 0]),(1,rE 1 eStr x2)] (zC 1 (uH («as»:=[sv a1,sv (bs [46])]) [(.tmp 7),(.const (.string (bs [46])))] [9,9] false [] [] (.cons (.same rfl) (.cons (.same rfl) (.nil))) (strings_Split.ok a1 (bs [46])) h3 (.own 1)) zB) ?_
 refine J_g 14 [(1,2)] [(2,pp 0),(3,rr 1 x2),(4,pp 2)] [(0,.box [iv 0,iv 0,iv 0,iv 0]),(1,rE 1 eStr x2),(2,.box [iv 0,iv 0,iv 0])] (zC 0 (zP0 253 [.int .i64 0,.int .i64 0,.int .i64 0]) zB) ?_
 refine zNv [(2,pp 0),(3,rr 1 x2),(4,pp 2)] [(2,.box [iv 0,iv 0,iv 0]),(0,.box [iv 0,iv 0,iv 0,iv 0]),(1,rE 1 eStr x2)] (by kernel_rfl) ?_
 refine zPf 2 (z:=1) (xs:=([0,0,0]:(List Int)).map zG) (by kernel_rfl) (by kernel_rfl) (by kernel_rfl) (by kernel_rfl) rfl ?_
 refine zNv [(2,pp 0),(3,rr 1 x2),(4,pp 2)] [(0,.box [iv 0,iv 0,iv 0,iv 0]),(1,rE 1 eStr x2),(2,rE 1 zG ([0,0,0]:(List Int)))] (by kernel_rfl) ?_
 refine J_g 60 [] [(2,pp 0),(3,rr 1 x2),(4,pp 2),(12,bv (decide ((x2.length:Int)>3)))] [(0,.box [iv 0,iv 0,iv 0,iv 0]),(1,rE 1 eStr x2),(2,rE 1 zG ([0,0,0]:(List Int)))] zB ?_
 refine zD 12 (fun h4=>?_) (fun h4=>?_)
 ·refine J_g 244 [] [(2,pp 0)] [(0,.box [iv 5,iv 0,iv 0,iv 0])] zB ?_
  exact zR rfl
 ·refine J_g 124 [] [(2,pp 0),(4,pp 2),(14,rr 1 x2),(15,iv (x2.length:Int)),(16,iv 0)] [(0,.box [iv 0,iv 0,iv 0,iv 0]),(1,rE 1 eStr x2),(2,rE 1 zG ([0,0,0]:(List Int)))] zB ?_
  refine vY (K0:=(fun r:zL=>some (.ag (zL.enc r),[]))) (fun _=>rfl) (jP.ok x2 q _ (fun v26=>J_j ?_) (([0,0,0]:(List Int)),0))
  refine zA (fun x27 h28=>?_)
  refine zA (fun x29 h30=>?_)
  refine zA (fun x31 h32=>?_)
  refine J_g 126 [] [(2,pp 0)] [(0,.box [iv 0,iv x27,iv x29,iv x31])] (zC 0 (zOg (kk:=.i64) 253 2 1 2 zG (.tmp 4) (.const (.int .i64 0)) 3 h28) (zC 1 (zED (d:=iv x27) 2 1 2 0 zG (.tmp 31) (zGF h28) (by kernel_rfl)) (zC 2 (zOg (kk:=.i64) 253 2 1 2 zG (.tmp 4) (.const (.int .i64 1)) 3 h30) (zC 3 (zED (d:=iv x29) 2 1 2 0 zG (.tmp 33) (zGF h30) (by kernel_rfl)) (zC 4 (zOg (kk:=.i64) 253 2 1 2 zG (.tmp 4) (.const (.int .i64 2)) 3 h32) (zC 5 (zED (d:=iv x31) 2 1 2 0 zG (.tmp 35) (zGF h32) (by kernel_rfl)) zB)))))) ?_
  exact zR rfl
noncomputable def c218:Code:=(Tryz.f218.body).getD .skip
theorem zB6.ok (a1:(List Pack)) (a2:(List ByteArray)):Ok Tryz.prog 218 [sl 8 (Pack.enc false) a1,sl 1 eStr a2] [] ((zB6 a1 a2).map fun r=>(iv r,[])):=by
 refine zH c218 Tryz.f218 0 23 (fun q=>?_)
 unfold zB6
 refine J_g 2 [] [(0,sl 8 (Pack.enc false) a1),(1,sl 1 eStr a2)] [] zB ?_
 refine J_g 12 [] [(0,sl 8 (Pack.enc false) a1),(1,sl 1 eStr a2),(8,bv ((a2.length:Int) !=2))] [] zB ?_
 refine zD 8 (fun h3=>?_) (fun h3=>?_)
 ·refine J_g 52 [] [(4,iv (-1))] [] zB ?_
  exact zR rfl
 ·refine zA (fun x4 h5=>?_)
  refine zA (fun x6 h7=>?_)
  refine J_g 14 [(4,0)] [(0,sl 8 (Pack.enc false) a1),(1,sl 1 eStr a2),(5,pp 0)] [(0,.box (zL.enc x6))] (zC 1 (uN (kk:=.i64) 86 9 1 eStr (.tmp 9) (.const (.int .i64 1)) h5) (zC 3 (xO [(.tmp 11)] [9] (wL.ok x4) h7) zB)) ?_
  refine J_g 60 [] [(0,sl 8 (Pack.enc false) a1),(1,sl 1 eStr a2),(5,pp 0),(15,bv (x6.Code !=0))] [(0,.box (zL.enc x6))] zB ?_
  refine zD 15 (fun h8=>?_) (fun h8=>?_)
  ·refine J_g 244 [] [(4,iv (-1))] [] zB ?_
   exact zR rfl
  ·refine zA (fun x9 h10=>?_)
   refine zA (fun x11 h12=>?_)
   refine J_g 62 [] [(4,iv x11)] [] (zC 2 (uN (kk:=.i64) 86 9 1 eStr (.tmp 17) (.const (.int .i64 0)) h10) (zC 6 (xO [(.tmp 16),(.tmp 19),(.tmp 21)] [30,9,99] (zD0.ok a1 x9 x6.Version) h12) zB)) ?_
   exact zR rfl
theorem tC.ok (a1:List Int):Ok Tryz.prog 133 [rr 0 a1] [rE 1 zG a1] ((tC a1).map fun r=>(.tu [],[rE 1 zG r])):=by
 unfold tC
 split
 ·exact zPQ (enc:=Value.int .i64) (by simp [List.length_mergeSort]) (fun blk off cap w hH hb=>Tryz.slices_Sort_int blk off cap a1 w hH hb (by omega)) (fun _ p cap w=>Tryz.slices_Sort_int_none p cap w)
 ·exact fun _ h=>by cases h
noncomputable def zQM:Code:=(Tryz.f151.body).getD .skip
theorem zBE.ok (a1:(List Pack)) (x7:(List ByteArray)) (q:Wd) (kn:(List Int)→Option (D×List Ent)) (hk:∀v:(List Int),J (q.g Tryz.prog 151 0 51) zQM (atI zQM 63) (St.mk' [(4,pp 0),(6,rr 1 v)] [(0,.box [iv 0,iv 0,nv]),(1,rE 1 zG v)]) (some v) kn):
  ∀s23:((List Int)×Int),J (q.g Tryz.prog 151 0 51) zQM (atI zQM 500) (St.mk' [(0,sl 8 (Pack.enc false) a1),(4,pp 0),(6,rr 1 s23.1),(22,rr 2 x7),(23,iv (x7.length:Int)),(24,iv s23.2)] [(0,.box [iv 0,iv 0,nv]),(1,rE 1 zG s23.1),(2,rE 1 eStr x7)]) (zBE a1 x7 s23) (Fl.go (fun r:zI=>some (.ag [iv r.Code,iv r.At,so 1 zG r.Set],[])) kn):=by
 refine jJ (fun g ih s23=>?_)
 unfold kH
 refine J_g 1000 [] [(0,sl 8 (Pack.enc false) a1),(4,pp 0),(6,rr 1 s23.1),(22,rr 2 x7),(23,iv (x7.length:Int)),(24,iv s23.2),(25,bv (decide (s23.2< (x7.length:Int))))] [(0,.box [iv 0,iv 0,nv]),(1,rE 1 zG s23.1),(2,rE 1 eStr x7)] zB ?_
 refine zD 25 (fun h24=>?_) (fun h24=>?_)
 ·refine zA (fun x25 h26=>?_)
  refine J_g 16024 [] [(0,sl 8 (Pack.enc false) a1),(4,pp 0),(6,rr 1 s23.1),(7,iv s23.2),(8,sv x25),(22,rr 2 x7),(23,iv (x7.length:Int)),(24,iv s23.2)] [(0,.box [iv 0,iv 0,nv]),(1,rE 1 zG s23.1),(2,rE 1 eStr x7)] (zC 1 (kM (kk:=.i64) 86 9 1 2 eStr (.tmp 22) (.tmp 24) h26) (zC 2 (zED (d:=sv x25) 9 1 2 0 eStr (.tmp 27) h26 (by kernel_rfl)) zB)) ?_
  refine zA (fun x27 h28=>?_)
  refine zA (fun x29 h30=>?_)
  refine J_g 32050 [] [(0,sl 8 (Pack.enc false) a1),(4,pp 0),(6,rr 1 s23.1),(7,iv s23.2),(9,iv x29),(22,rr 2 x7),(23,iv (x7.length:Int)),(24,iv s23.2)] [(0,.box [iv 0,iv 0,nv]),(1,rE 1 zG s23.1),(2,rE 1 eStr x7)] (zC 2 (uH («as»:=[sv x25]) [(.tmp 30)] [9] false [] [] (.cons (.same rfl) (.nil)) (zCC.ok x25) h28 (.own 3)) (zC 3 (uH («as»:=[sl 8 (Pack.enc false) a1,rr 3 x27]) [(.tmp 29),(.tmp 31)] [30,86] true [(3,rE 1 eStr x27)] [] (.cons (.same rfl) (.cons (zF1 (.head _) (fun _=>rfl) rfl) (.nil))) (zB6.ok a1 x27) h30 (.same rfl rfl) (hbor:=fun _=>⟨fhN,yB⟩)) zB)) ?_
  refine wD (atI zQM 128205) (fun v34:Bool=>St.mk' [(0,sl 8 (Pack.enc false) a1),(4,pp 0),(6,rr 1 s23.1),(7,iv s23.2),(9,iv x29),(22,rr 2 x7),(23,iv (x7.length:Int)),(24,iv s23.2),(39,bv v34)] [(0,.box [iv 0,iv 0,nv]),(1,rE 1 zG s23.1),(2,rE 1 eStr x7)]) (fun v34=>?_) (fun jv34=>?_)
  ·refine zD 39 (fun h35=>?_) (fun h35=>?_)
   ·refine J_g 512820 [] [(4,pp 0)] [(0,.box [iv 5,iv s23.2,nv])] zB ?_
    exact zD5 (ds:=[.ag [iv 5,iv s23.2,nv]]) (ds':=[.ag [iv 5,iv s23.2,so 1 zG ([]:List Int)]]) (.cons (.ag (.keep rfl (.keep rfl (.nilsl true 1 (.nil))))) (.nil) (by decide)) rfl
   ·refine zA (fun x36 h37=>?_)
    refine J_g 64103 [] [(0,sl 8 (Pack.enc false) a1),(4,pp 0),(6,rr 4 x36),(22,rr 2 x7),(23,iv (x7.length:Int)),(24,iv s23.2)] [(0,.box [iv 0,iv 0,nv]),(2,rE 1 eStr x7),(4,rE 1 zG x36)] (zC 2 (zFd 39 2 1 3 zG [x29] [0] [(.tmp 43)] [iv x29]) (zC 3 (zIJ 39 39 2 2 1 8 4 1 3 zG (.tmp 42) (.tmp 44) h37) zB)) ?_
    refine J_g 4007 [] [(0,sl 8 (Pack.enc false) a1),(4,pp 0),(6,rr 4 x36),(22,rr 2 x7),(23,iv (x7.length:Int)),(24,iv (w64 (s23.2+1)))] [(0,.box [iv 0,iv 0,nv]),(2,rE 1 eStr x7),(4,rE 1 zG x36)] zB ?_
    refine zCo 4 1 (Nat.le_of_ble_eq_true rfl) (Nat.le_of_ble_eq_true rfl) ?_
    exact J_q (J_b (ih (x36,w64 (s23.2+1)))) rfl
  ·refine wN (fun h31=>?_) (fun h31=>?_)
   ·refine J_g 128204 [] [(0,sl 8 (Pack.enc false) a1),(4,pp 0),(6,rr 1 s23.1),(7,iv s23.2),(9,iv x29),(22,rr 2 x7),(23,iv (x7.length:Int)),(24,iv s23.2),(39,bv true)] [(0,.box [iv 0,iv 0,nv]),(1,rE 1 zG s23.1),(2,rE 1 eStr x7)] (wF 2 [(34,bv (decide (x29<0)))] [] h31 zB) ?_
    exact xB (J_j (jv34 true)) rfl
   ·refine zA (fun x32 h33=>?_)
    refine J_g 128204 [] [(0,sl 8 (Pack.enc false) a1),(4,pp 0),(6,rr 1 s23.1),(7,iv s23.2),(9,iv x29),(22,rr 2 x7),(23,iv (x7.length:Int)),(24,iv s23.2),(39,bv x32)] [(0,.box [iv 0,iv 0,nv]),(1,rE 1 zG s23.1),(2,rE 1 eStr x7)] (wF 2 [(34,bv (decide (x29<0)))] [] h31 (zAR 5 2 35 false (uH («as»:=[rr 1 s23.1,iv x29]) [(.tmp 36),(.tmp 37)] [39,2] true [(1,rE 1 zG s23.1)] [] (.cons (zF1 (.head _) (fun _=>rfl) rfl) (.cons (.same rfl) (.nil))) (xL.ok s23.1 x29) h33 (.same rfl rfl) (hbor:=fun _=>⟨fhN,yB⟩)) zB)) ?_
    exact xB (J_j (jv34 x32)) rfl
 ·exact xB (hk s23.1) rfl
theorem zBB.ok (a1:(List Pack)) (a2:ByteArray):Ok Tryz.prog 151 [sl 8 (Pack.enc false) a1,sv a2] [] ((zBB a1 a2).map fun r=>(.ag [iv r.Code,iv r.At,so 1 zG r.Set],[])):=by
 refine zH zQM Tryz.f151 0 51 (fun q=>?_)
 unfold zBB
 refine J_g 2 [(0,0)] [(0,sl 8 (Pack.enc false) a1),(1,sv a2),(4,pp 0)] [(0,.box [iv 0,iv 0,nv])] zB ?_
 refine zA (fun x3 h4=>?_)
 refine J_g 12 [] [(0,sl 8 (Pack.enc false) a1),(1,sv a2),(4,pp 0),(5,iv x3)] [(0,.box [iv 0,iv 0,nv])] (zC 1 (xO [(.tmp 10)] [30] (vC.ok a1) h4) zB) ?_
 refine J_g 26 [] [(0,sl 8 (Pack.enc false) a1),(1,sv a2),(4,pp 0),(5,iv x3),(13,bv (x3 !=0))] [(0,.box [iv 0,iv 0,nv])] zB ?_
 refine zD 13 (fun h5=>?_) (fun h5=>?_)
 ·refine J_g 108 [] [(4,pp 0)] [(0,.box [iv x3,iv 0,nv])] zB ?_
  exact zD5 (ds:=[.ag [iv x3,iv 0,nv]]) (ds':=[.ag [iv x3,iv 0,so 1 zG ([]:List Int)]]) (.cons (.ag (.keep rfl (.keep rfl (.nilsl true 1 (.nil))))) (.nil) (by decide)) rfl
 ·refine J_g 28 [] [(0,sl 8 (Pack.enc false) a1),(1,sv a2),(4,pp 0),(18,bv (decide ((a2.size:Int)>4000)))] [(0,.box [iv 0,iv 0,nv])] zB ?_
  refine zD 18 (fun h6=>?_) (fun h6=>?_)
  ·refine J_g 116 [] [(4,pp 0)] [(0,.box [iv 2,iv 0,nv])] zB ?_
   exact zD5 (ds:=[.ag [iv 2,iv 0,nv]]) (ds':=[.ag [iv 2,iv 0,so 1 zG ([]:List Int)]]) (.cons (.ag (.keep rfl (.keep rfl (.nilsl true 1 (.nil))))) (.nil) (by decide)) rfl
  ·refine J_g 30 [] [(0,sl 8 (Pack.enc false) a1),(1,sv a2),(4,pp 0),(6,rr 1 ([]:List Int))] [(0,.box [iv 0,iv 0,nv]),(1,rE 1 zG ([]:List Int))] (zC 0 (zFd 39 2 1 1 zG ([]:List Int) [] [] []) zB) ?_
   refine zA (fun x7 h8=>?_)
   refine J_g 124 [] [(0,sl 8 (Pack.enc false) a1),(4,pp 0),(6,rr 1 ([]:List Int)),(22,rr 2 x7),(23,iv (x7.length:Int)),(24,iv 0)] [(0,.box [iv 0,iv 0,nv]),(1,rE 1 zG ([]:List Int)),(2,rE 1 eStr x7)] (zC 1 (uH («as»:=[sv a2]) [(.tmp 21)] [9] false [] [] (.cons (.same rfl) (.nil)) (jZ.ok a2) h8 (.own 2)) zB) ?_
   refine vY (K0:=(fun r:zI=>some (.ag [iv r.Code,iv r.At,so 1 zG r.Set],[]))) (fun _=>rfl) (zBE.ok a1 x7 q _ (fun v38=>J_j ?_) (([]:List Int),0))
   refine zA (fun x39 h40=>?_)
   refine J_g 126 [] [(4,pp 0),(6,rr 1 v38)] [(0,.box [iv 0,iv 0,nv]),(1,rE 1 zG x39)] (zC 1 (uH («as»:=[rr 1 v38]) [(.tmp 47)] [39] false [(1,rE 1 zG v38)] [1] (.cons (.rf rfl) (.nil)) (tC.ok v38) h40 (.tu (.nil))) zB) ?_
   refine zA (fun u41 h42=>?_)
   refine zFJ (σ':=St.mk' [(4,pp 0),(6,rr 1 x39)] [(0,.box [iv 0,iv 0,nv]),(1,rE 1 zG x39)]) (by simp only [rr,zDu h42]) ?_
   refine J_g 254 [] [(4,pp 0)] [(0,.box [iv 0,iv 0,rr 1 x39]),(1,rE 1 zG x39)] zB ?_
   exact zD5 (ds:=[.ag [iv 0,iv 0,rr 1 x39]]) (ds':=[.ag [iv 0,iv 0,so 1 zG x39]]) (.cons (.ag (.keep rfl (.keep rfl (.move (.tail _ (.head _)) (List.length_map _) (by decide) (.nil))))) (.nil) (by decide)) rfl
noncomputable def c82:Code:=(Tryz.f82.body).getD .skip
theorem zE6.ok (a1:(List Pack)) (a2:zF) (a3:Int):Ok Tryz.prog 82 [sl 8 (Pack.enc false) a1,.ag (zF.enc false a2),iv a3] [] ((zE6 a1 a2 a3).map fun r=>(.tu [so 1 zG r.1,iv r.2],[])):=by
 refine zH c82 Tryz.f82 0 31 (fun q=>?_)
 unfold zE6
 refine J_g 2 [(0,0)] [(0,sl 8 (Pack.enc false) a1),(2,iv a3),(4,pp 0)] [(0,.box (zF.enc false a2))] zB ?_
 refine zA (fun x4 h5=>?_)
 refine zA (fun x6 h7=>?_)
 refine J_g 12 [] [(0,sl 8 (Pack.enc false) a1),(2,iv a3),(4,pp 0),(15,bv (!x6))] [(0,.box (zF.enc false a2))] (zC 1 (uH («as»:=[.ag (zF.enc false a2)]) [(.tmp 11)] [33] false [] [] (.cons (.same rfl) (.nil)) (tJ.ok a2) h5 (.own 1)) (zC 3 (uH («as»:=[rr 1 x4,iv a3]) [(.tmp 12),(.tmp 13)] [39,2] true [(1,rE 1 zG x4)] [] (.cons (zF1 (.head _) (fun _=>rfl) rfl) (.cons (.same rfl) (.nil))) (xL.ok x4 a3) h7 (.same rfl rfl) (hbor:=fun _=>⟨fhN,yB⟩)) zB)) ?_
 refine zD 15 (fun h8=>?_) (fun h8=>?_)
 ·refine J_g 52 [] [(6,nv),(7,iv 4)] [] zB ?_
  exact zD5 (ds:=[nv,iv 4]) (ds':=[so 1 zG ([]:List Int),iv 4]) (.cons (.cell (.nilsl true 1 (.nil))) (.cons (.cell (.keep rfl (.nil))) (.nil) (by decide)) (by decide)) rfl
 ·refine zA (fun x9 h10=>?_)
  refine zA (fun x11 h12=>?_)
  refine J_g 14 [] [(0,sl 8 (Pack.enc false) a1),(8,sl 1 eU8 x11.1)] [] (zC 2 (xO [(.tmp 18)] [2] (zC6.ok a3) h10) (zC 3 (xO [(.tmp 17),(.tmp 19)] [33,9] (xV.ok a2 x9) h12) zB)) ?_
  refine zA (fun x13 h14=>?_)
  refine J_g 30 [(4,1)] [(10,pp 1)] [(0,rE 1 zG x13.Set),(1,.box [iv x13.Code,iv x13.At,rr 0 x13.Set])] (zC 2 (zKx (xs:=x11.1) 121 9 5 (.tmp 24)) (zC 3 (uH («as»:=[sl 8 (Pack.enc false) a1,sv (b2s x11.1)]) [(.tmp 23),(.tmp 25)] [30,9] false [] [] (.cons (.same rfl) (.cons (.same rfl) (.nil))) (zBB.ok a1 (b2s x11.1)) h14 (.ag (.cons (.same rfl rfl) (.cons (.same rfl rfl) (.cons (.own 0) (.nil)))))) zB)) ?_
  refine J_g 62 [] [(6,rr 0 x13.Set),(7,iv x13.Code)] [(0,rE 1 zG x13.Set)] zB ?_
  exact zD5 (ds:=[rr 0 x13.Set,iv x13.Code]) (ds':=[so 1 zG x13.Set,iv x13.Code]) (.cons (.cell (.move (.head _) (List.length_map _) (by decide) (.nil))) (.cons (.cell (.keep rfl (.nil))) (.nil) (by decide)) (by decide)) rfl
noncomputable def c48:Code:=(Tryz.f48.body).getD .skip
theorem zDp.ok (a1:(List Pack)) (a2:zF):Ok Tryz.prog 48 [sl 8 (Pack.enc false) a1,.ag (zF.enc false a2)] [] ((zDp a1 a2).map fun r=>(.tu [so 1 zG r.1,iv r.2],[])):=by
 refine zH c48 Tryz.f48 0 22 (fun q=>?_)
 unfold zDp
 refine J_g 2 [(0,0)] [(0,sl 8 (Pack.enc false) a1),(3,pp 0)] [(0,.box (zF.enc false a2))] zB ?_
 refine zA (fun x3 h4=>?_)
 refine J_g 6 [] [(0,sl 8 (Pack.enc false) a1),(3,pp 0),(6,iv x3.1),(7,iv x3.2)] [(0,.box (zF.enc false a2))] (zC 1 (xO [(.tmp 9)] [33] (uX.ok a2) h4) zB) ?_
 refine J_g 28 [] [(0,sl 8 (Pack.enc false) a1),(3,pp 0),(6,iv x3.1),(7,iv x3.2),(14,bv (x3.2 !=0))] [(0,.box (zF.enc false a2))] zB ?_
 refine zD 14 (fun h5=>?_) (fun h5=>?_)
 ·refine J_g 116 [] [(4,nv),(5,iv x3.2)] [] zB ?_
  exact zD5 (ds:=[nv,iv x3.2]) (ds':=[so 1 zG ([]:List Int),iv x3.2]) (.cons (.cell (.nilsl true 1 (.nil))) (.cons (.cell (.keep rfl (.nil))) (.nil) (by decide)) (by decide)) rfl
 ·refine zA (fun x6 h7=>?_)
  refine J_g 30 [] [(4,rr 1 x6.1),(5,iv x6.2)] [(1,rE 1 zG x6.1)] (zC 3 (uH («as»:=[sl 8 (Pack.enc false) a1,.ag (zF.enc false a2),iv x3.1]) [(.tmp 16),(.tmp 17),(.tmp 18)] [30,33,2] false [] [] (.cons (.same rfl) (.cons (.same rfl) (.cons (.same rfl) (.nil)))) (zE6.ok a1 a2 x3.1) h7 (.tu (.cons (.own 1) (.cons (.same rfl rfl) (.nil))))) zB) ?_
  exact zD5 (ds:=[rr 1 x6.1,iv x6.2]) (ds':=[so 1 zG x6.1,iv x6.2]) (.cons (.cell (.move (.head _) (List.length_map _) (by decide) (.nil))) (.cons (.cell (.keep rfl (.nil))) (.nil) (by decide)) (by decide)) rfl
noncomputable def zRl:Code:=(Tryz.f245.body).getD .skip
theorem zEw.ok (a1:(List Pack)) (a2:(List Int)) (a3:ByteArray) (q:Wd) (kn:Unit→Option (D×List Ent)) (hk:∀v:Unit,J (q.g Tryz.prog 245 0 24) zRl (atI zRl 7) (St.mk' [] []) (some v) kn):
  ∀s10:Int,J (q.g Tryz.prog 245 0 24) zRl (atI zRl 52) (St.mk' [(0,sl 8 (Pack.enc false) a1),(2,sv a3),(9,sl 1 zG a2),(10,iv (a2.length:Int)),(11,iv s10)] []) (zEw a1 a2 a3 s10) (Fl.go (fun r:Int=>some (iv r,[])) kn):=by
 refine jJ (fun g ih s10=>?_)
 unfold zD7
 refine J_g 104 [] [(0,sl 8 (Pack.enc false) a1),(2,sv a3),(9,sl 1 zG a2),(10,iv (a2.length:Int)),(11,iv s10),(12,bv (decide (s10< (a2.length:Int))))] [] zB ?_
 refine zD 12 (fun h11=>?_) (fun h11=>?_)
 ·refine zA (fun x12 h13=>?_)
  refine J_g 1688 [] [(0,sl 8 (Pack.enc false) a1),(2,sv a3),(8,iv x12),(9,sl 1 zG a2),(10,iv (a2.length:Int)),(11,iv s10)] [] (zC 0 (uN (kk:=.i64) 39 2 1 zG (.tmp 9) (.tmp 11) h13) zB) ?_
  refine zA (fun x14 h15=>?_)
  refine J_g 3378 [] [(0,sl 8 (Pack.enc false) a1),(2,sv a3),(8,iv x12),(9,sl 1 zG a2),(10,iv (a2.length:Int)),(11,iv s10),(21,bv (seq x14.Name a3))] [] (zC 2 (uN (kk:=.i64) 30 102 8 (Pack.enc false) (.tmp 15) (.tmp 16) h15) zB) ?_
  refine zD 21 (fun h16=>?_) (fun h16=>?_)
  ·refine J_g 13516 [] [(6,iv x12)] [] zB ?_
   exact zR rfl
  ·refine J_g 423 [] [(0,sl 8 (Pack.enc false) a1),(2,sv a3),(9,sl 1 zG a2),(10,iv (a2.length:Int)),(11,iv (w64 (s10+1)))] [] zB ?_
   exact J_q (J_b (ih (w64 (s10+1)))) rfl
 ·exact xB (hk ()) rfl
theorem zE5.ok (a1:(List Pack)) (a2:(List Int)) (a3:ByteArray):Ok Tryz.prog 245 [sl 8 (Pack.enc false) a1,sl 1 zG a2,sv a3] [] ((zE5 a1 a2 a3).map fun r=>(iv r,[])):=by
 refine zH zRl Tryz.f245 0 24 (fun q=>?_)
 unfold zE5
 refine J_g 2 [] [(0,sl 8 (Pack.enc false) a1),(1,sl 1 zG a2),(2,sv a3)] [] zB ?_
 refine J_g 12 [] [(0,sl 8 (Pack.enc false) a1),(2,sv a3),(9,sl 1 zG a2),(10,iv (a2.length:Int)),(11,iv 0)] [] zB ?_
 refine vY (K0:=(fun r:Int=>some (iv r,[]))) (fun _=>rfl) (zEw.ok a1 a2 a3 q _ (fun v17=>J_j ?_) 0)
 refine J_g 14 [] [(6,iv (-1))] [] zB ?_
 exact zR rfl
noncomputable def zSO:Code:=(Tryz.f295.body).getD .skip
theorem zBo.ok (a1:Pack):Ok Tryz.prog 295 [.ag (Pack.enc false a1)] [] ((zBo a1).map fun r=>(so 1 eStr r,[])):=by
 refine zH zSO Tryz.f295 0 9 (fun q=>?_)
 unfold zBo
 refine J_g 2 [(0,0)] [(1,pp 0)] [(0,.box (Pack.enc false a1))] zB ?_
 refine zA (fun x2 h3=>?_)
 refine J_g 6 [] [(2,rr 2 x2)] [(2,rE 1 eStr x2)] (zC 2 (zFd 86 9 1 1 eStr [a1.Name] [0] [(.tmp 4)] [sv a1.Name]) (zC 5 (zRq 86 86 9 9 1 16 2 1 eStr (.tmp 5) (.tmp 7) h3) zB)) ?_
 exact zD5 (ds:=[rr 2 x2]) (ds':=[so 1 eStr x2]) (.cons (.cell (.move (.head _) (List.length_map _) (by decide) (.nil))) (.nil) (by decide)) rfl
noncomputable def zTi:Code:=(Tryz.f297.body).getD .skip
theorem zB8.ok (a1:Term) (a2:ByteArray) (a3:Version):Ok Tryz.prog 297 [.ag (Term.enc a1),sv a2,.ag (Version.enc a3)] [] ((zB8 a1 a2 a3).map fun r=>(bv r,[])):=by
 refine zH zTi Tryz.f297 0 25 (fun q=>?_)
 unfold zB8
 refine J_g 2 [(0,0),(1,1)] [(1,sv a2),(3,pp 0),(5,pp 1)] [(0,.box (Term.enc a1)),(1,.box (Version.enc a3))] zB ?_
 refine wN (fun h4=>?_) (fun h4=>?_)
 ·refine zA (fun x5 h6=>?_)
  refine wN (fun h7=>?_) (fun h7=>?_)
  ·refine zA (fun x8 h9=>?_)
   refine J_g 6 [] [(6,bv (decide (x8<0)))] [] (wF 4 [(10,bv (seq a1.Name a2))] [] h4 (zAR 8 4 11 true (xO [(.tmp 13),(.tmp 14)] [99,99] (uM.ok a1.Low a3) h6) (wF 11 [(17,bv (decide (x5≤0)))] [] h7 (zAR 15 11 18 true (xO [(.tmp 19),(.tmp 21)] [99,99] (uM.ok a3 a1.High) h9) zB)))) ?_
   exact zR rfl
  ·refine J_g 6 [] [(6,bv false)] [] (wF 4 [(10,bv (seq a1.Name a2))] [] h4 (zAR 8 4 11 true (xO [(.tmp 13),(.tmp 14)] [99,99] (uM.ok a1.Low a3) h6) (wF 11 [(17,bv (decide (x5≤0)))] [] h7 zB))) ?_
   exact zR rfl
 ·refine J_g 6 [] [(6,bv false)] [] (wF 4 [(10,bv (seq a1.Name a2))] [] h4 zB) ?_
  exact zR rfl
noncomputable def zTq:Code:=(Tryz.f296.body).getD .skip
theorem kS.ok (a1:ByteArray) (a2:Term) (a3:Pack):Ok Tryz.prog 296 [sv a1,pp 0,pp 1] [.box (Term.enc a2),.box (Pack.enc false a3)] ((kS a1 a2 a3).map fun r=>(bv r,[.box (Term.enc a2),.box (Pack.enc false a3)])):=by
 refine zH zTq Tryz.f296 2 10 (fun q=>?_)
 unfold kS
 refine J_g 2 [] [(0,sv a1),(1,pp 0),(2,pp 1)] [(0,.box (Term.enc a2)),(1,.box (Pack.enc false a3))] zB ?_
 refine zA (fun x4 h5=>?_)
 refine J_g 6 [] [(4,bv x4)] [(0,.box (Term.enc a2)),(1,.box (Pack.enc false a3))] (zC 4 (xO [(.tmp 5),(.tmp 6),(.tmp 8)] [149,9,99] (zB8.ok a2 a1 a3.Version) h5) zB) ?_
 exact zR rfl
theorem yV.ok (a1:(List ByteArray)) (a2:Term) (a3:Pack) (q:Wd) (kn:Unit→Option (D×List Ent)) (hk:∀v:Unit,J (q.g Tryz.prog 316 3 19) zOQ (atI zOQ 7) (St.mk' [] [(0,rE 1 eStr a1),(1,.box (Term.enc a2)),(2,.box (Pack.enc false a3))]) (some v) kn):
  ∀s10:Int,J (q.g Tryz.prog 316 3 19) zOQ (atI zOQ 52) (St.mk' [(0,rr 0 a1),(1,.fn 296 [pp 1,pp 2]),(7,iv (a1.length:Int)),(8,iv s10)] [(0,rE 1 eStr a1),(1,.box (Term.enc a2)),(2,.box (Pack.enc false a3))]) (yV a1 a2 a3 s10) (Fl.go (fun r:Int=>some (iv r,[rE 1 eStr a1,.box (Term.enc a2),.box (Pack.enc false a3)])) kn):=by
 refine jJ (fun g ih s10=>?_)
 unfold yQ
 refine J_g 104 [] [(0,rr 0 a1),(1,.fn 296 [pp 1,pp 2]),(7,iv (a1.length:Int)),(8,iv s10),(9,bv (decide (s10< (a1.length:Int))))] [(0,rE 1 eStr a1),(1,.box (Term.enc a2)),(2,.box (Pack.enc false a3))] zB ?_
 refine zD 9 (fun h11=>?_) (fun h11=>?_)
 ·refine J_g 1688 [] [(0,rr 0 a1),(1,.fn 296 [pp 1,pp 2]),(5,iv s10),(7,iv (a1.length:Int)),(8,iv s10)] [(0,rE 1 eStr a1),(1,.box (Term.enc a2)),(2,.box (Pack.enc false a3))] zB ?_
  refine zA (fun x12 h13=>?_)
  refine zA (fun x14 h15=>?_)
  refine J_g 3378 [] [(0,rr 0 a1),(1,.fn 296 [pp 1,pp 2]),(5,iv s10),(7,iv (a1.length:Int)),(8,iv s10),(16,bv x14)] [(0,rE 1 eStr a1),(1,.box (Term.enc a2)),(2,.box (Pack.enc false a3))] (zC 3 (kM (kk:=.i64) 86 9 1 0 eStr (.tmp 12) (.tmp 13) h13) (zC 4 (zED (d:=sv x12) 9 1 0 0 eStr (.tmp 14) h13 (by kernel_rfl)) (zC 5 (zJ2 [(1,.box (Term.enc a2)),(2,.box (Pack.enc false a3))] [] (zKB 11 [(.tmp 15)] [9] false [(1,.box (Term.enc a2)),(2,.box (Pack.enc false a3))] [1,2] [sv x12] [pp 1,pp 2] (.cons (.same rfl) (.cons (.pt rfl) (.cons (.pt rfl) (.nil)))) (kS.ok x12 a2 a3) h15 (.same rfl rfl))) zB))) ?_
  refine zD 16 (fun h16=>?_) (fun h16=>?_)
  ·refine J_g 13516 [] [(4,iv s10)] [(0,rE 1 eStr a1),(1,.box (Term.enc a2)),(2,.box (Pack.enc false a3))] zB ?_
   exact zR rfl
  ·refine J_g 423 [] [(0,rr 0 a1),(1,.fn 296 [pp 1,pp 2]),(7,iv (a1.length:Int)),(8,iv (w64 (s10+1)))] [(0,rE 1 eStr a1),(1,.box (Term.enc a2)),(2,.box (Pack.enc false a3))] zB ?_
   exact J_q (J_b (ih (w64 (s10+1)))) rfl
 ·exact xB (hk ()) rfl
theorem yH.ok (a1:(List ByteArray)) (a2:Term) (a3:Pack):Ok Tryz.prog 316 [rr 0 a1,.fn 296 [pp 1,pp 2]] [rE 1 eStr a1,.box (Term.enc a2),.box (Pack.enc false a3)] ((yH a1 a2 a3).map fun r=>(iv r,[rE 1 eStr a1,.box (Term.enc a2),.box (Pack.enc false a3)])):=by
 refine zH zOQ Tryz.f316 3 19 (fun q=>?_)
 unfold yH
 refine J_g 2 [] [(0,rr 0 a1),(1,.fn 296 [pp 1,pp 2])] [(0,rE 1 eStr a1),(1,.box (Term.enc a2)),(2,.box (Pack.enc false a3))] zB ?_
 refine J_g 12 [] [(0,rr 0 a1),(1,.fn 296 [pp 1,pp 2]),(7,iv (a1.length:Int)),(8,iv 0)] [(0,rE 1 eStr a1),(1,.box (Term.enc a2)),(2,.box (Pack.enc false a3))] zB ?_
 refine vY (K0:=(fun r:Int=>some (iv r,[rE 1 eStr a1,.box (Term.enc a2),.box (Pack.enc false a3)]))) (fun _=>rfl) (yV.ok a1 a2 a3 q _ (fun v17=>J_j ?_) 0)
 refine J_g 14 [] [(4,iv (-1))] [(0,rE 1 eStr a1),(1,.box (Term.enc a2)),(2,.box (Pack.enc false a3))] zB ?_
 exact zR rfl
noncomputable def zSZ:Code:=(Tryz.f294.body).getD .skip
theorem zY.ok (a1:(List ByteArray)) (a2:Term) (a3:Pack):Ok Tryz.prog 294 [rr 0 a1,.fn 296 [pp 1,pp 2]] [rE 1 eStr a1,.box (Term.enc a2),.box (Pack.enc false a3)] ((zY a1 a2 a3).map fun r=>(bv r,[rE 1 eStr a1,.box (Term.enc a2),.box (Pack.enc false a3)])):=by
 refine zH zSZ Tryz.f294 3 9 (fun q=>?_)
 unfold zY
 refine J_g 2 [] [(0,rr 0 a1),(1,.fn 296 [pp 1,pp 2])] [(0,rE 1 eStr a1),(1,.box (Term.enc a2)),(2,.box (Pack.enc false a3))] zB ?_
 refine zA (fun x4 h5=>?_)
 refine J_g 6 [] [(4,bv (decide (x4≥0)))] [(0,rE 1 eStr a1),(1,.box (Term.enc a2)),(2,.box (Pack.enc false a3))] (zC 2 (zJ2 [(0,rE 1 eStr a1),(1,.box (Term.enc a2)),(2,.box (Pack.enc false a3))] [] (uH («as»:=[rr 0 a1,.fn 296 [pp 1,pp 2]]) [(.tmp 5),(.tmp 6)] [86,281] false [(0,rE 1 eStr a1),(1,.box (Term.enc a2)),(2,.box (Pack.enc false a3))] [0,1,2] (.cons (.rf rfl) (.cons (.fn (.cons (.pt rfl) (.cons (.pt rfl) (.nil)))) (.nil))) (yH.ok a1 a2 a3) h5 (.same rfl rfl))) zB) ?_
 exact zR rfl
noncomputable def zSJ:Code:=(Tryz.f249.body).getD .skip
theorem vZ.ok (a1:Pack) (a2:Term):Ok Tryz.prog 249 [.ag (Pack.enc false a1),.ag (Term.enc a2)] [] ((vZ a1 a2).map fun r=>(bv r,[])):=by
 refine zH zSJ Tryz.f249 0 9 (fun q=>?_)
 unfold vZ
 refine J_g 2 [(0,0),(1,1)] [(2,pp 0),(3,pp 1)] [(0,.box (Pack.enc false a1)),(1,.box (Term.enc a2))] zB ?_
 refine zA (fun x3 h4=>?_)
 refine zA (fun x5 h6=>?_)
 refine J_g 6 [] [(4,bv x5)] [] (zC 1 (uH («as»:=[.ag (Pack.enc false a1)]) [(.tmp 5)] [102] false [] [] (.cons (.same rfl) (.nil)) (zBo.ok a1) h4 (.own 2)) (zC 3 (zJ2 [(2,rE 1 eStr x3),(1,.box (Term.enc a2)),(0,.box (Pack.enc false a1))] [] (uH («as»:=[rr 2 x3,.fn 296 [pp 1,pp 0]]) [(.tmp 6),(.tmp 7)] [86,281] false [(2,rE 1 eStr x3),(1,.box (Term.enc a2)),(0,.box (Pack.enc false a1))] [2,1,0] (.cons (.rf rfl) (.cons (.fn (.cons (.pt rfl) (.cons (.pt rfl) (.nil)))) (.nil))) (zY.ok x3 a2 a1) h6 (.same rfl rfl))) zB)) ?_
 exact zR rfl
noncomputable def zON:Code:=(Tryz.f258.body).getD .skip
theorem xA.ok (a1:(List Term)) (a2:Pack) (q:Wd) (kn:Unit→Option (D×List Ent)) (hk:∀v:Unit,J (q.g Tryz.prog 258 0 19) zON (atI zON 7) (St.mk' [] []) (some v) kn):
  ∀s9:Int,J (q.g Tryz.prog 258 0 19) zON (atI zON 52) (St.mk' [(0,sl 7 Term.enc a1),(1,.fb 249 [.ag (Pack.enc false a2)]),(7,iv (a1.length:Int)),(8,iv s9)] []) (xA a1 a2 s9) (Fl.go (fun r:Int=>some (iv r,[])) kn):=by
 refine jJ (fun g ih s9=>?_)
 unfold yU
 refine J_g 104 [] [(0,sl 7 Term.enc a1),(1,.fb 249 [.ag (Pack.enc false a2)]),(7,iv (a1.length:Int)),(8,iv s9),(9,bv (decide (s9< (a1.length:Int))))] [] zB ?_
 refine zD 9 (fun h10=>?_) (fun h10=>?_)
 ·refine J_g 1688 [] [(0,sl 7 Term.enc a1),(1,.fb 249 [.ag (Pack.enc false a2)]),(5,iv s9),(7,iv (a1.length:Int)),(8,iv s9)] [] zB ?_
  refine zA (fun x11 h12=>?_)
  refine zA (fun x13 h14=>?_)
  refine J_g 3378 [] [(0,sl 7 Term.enc a1),(1,.fb 249 [.ag (Pack.enc false a2)]),(5,iv s9),(7,iv (a1.length:Int)),(8,iv s9),(16,bv x13)] [] (zC 3 (uN (kk:=.i64) 75 149 7 Term.enc (.tmp 12) (.tmp 13) h12) (zC 5 (zSd («as»:=[.ag (Term.enc x11)]) (caps:=[.ag (Pack.enc false a2)]) 11 [(.tmp 15)] [149] (vZ.ok a2 x11) h14) zB)) ?_
  refine zD 16 (fun h15=>?_) (fun h15=>?_)
  ·refine J_g 13516 [] [(4,iv s9)] [] zB ?_
   exact zR rfl
  ·refine J_g 423 [] [(0,sl 7 Term.enc a1),(1,.fb 249 [.ag (Pack.enc false a2)]),(7,iv (a1.length:Int)),(8,iv (w64 (s9+1)))] [] zB ?_
   exact J_q (J_b (ih (w64 (s9+1)))) rfl
 ·exact xB (hk ()) rfl
theorem yJ.ok (a1:(List Term)) (a2:Pack):Ok Tryz.prog 258 [sl 7 Term.enc a1,.fb 249 [.ag (Pack.enc false a2)]] [] ((yJ a1 a2).map fun r=>(iv r,[])):=by
 refine zH zON Tryz.f258 0 19 (fun q=>?_)
 unfold yJ
 refine J_g 2 [] [(0,sl 7 Term.enc a1),(1,.fb 249 [.ag (Pack.enc false a2)])] [] zB ?_
 refine J_g 12 [] [(0,sl 7 Term.enc a1),(1,.fb 249 [.ag (Pack.enc false a2)]),(7,iv (a1.length:Int)),(8,iv 0)] [] zB ?_
 refine vY (K0:=(fun r:Int=>some (iv r,[]))) (fun _=>rfl) (xA.ok a1 a2 q _ (fun v16=>J_j ?_) 0)
 refine J_g 14 [] [(4,iv (-1))] [] zB ?_
 exact zR rfl
noncomputable def c193:Code:=(Tryz.f193.body).getD .skip
theorem yC.ok (a1:(List Term)) (a2:Pack):Ok Tryz.prog 193 [sl 7 Term.enc a1,.fb 249 [.ag (Pack.enc false a2)]] [] ((yC a1 a2).map fun r=>(bv r,[])):=by
 refine zH c193 Tryz.f193 0 9 (fun q=>?_)
 unfold yC
 refine J_g 2 [] [(0,sl 7 Term.enc a1),(1,.fb 249 [.ag (Pack.enc false a2)])] [] zB ?_
 refine zA (fun x3 h4=>?_)
 refine J_g 6 [] [(4,bv (decide (x3≥0)))] [] (zC 2 (uH («as»:=[sl 7 Term.enc a1,.fb 249 [.ag (Pack.enc false a2)]]) [(.tmp 5),(.tmp 6)] [75,221] false [] [] (.cons (.same rfl) (.cons (.fb (.cons (.same rfl) (.nil))) (.nil))) (yJ.ok a1 a2) h4 (.same rfl rfl)) zB) ?_
 exact zR rfl
noncomputable def zT3:Code:=(Tryz.f247.body).getD .skip
theorem vV.ok (a1:Pack) (a2:(List Term)):Ok Tryz.prog 247 [.ag (Pack.enc false a1),sl 7 Term.enc a2] [] ((vV a1 a2).map fun r=>(bv r,[])):=by
 refine zH zT3 Tryz.f247 0 9 (fun q=>?_)
 unfold vV
 refine J_g 2 [(0,0)] [(1,sl 7 Term.enc a2),(2,pp 0)] [(0,.box (Pack.enc false a1))] zB ?_
 refine zA (fun x3 h4=>?_)
 refine J_g 6 [] [(4,bv x3)] [] (zC 2 (zSb 249 [(.tmp 6)] [.ag (Pack.enc false a1)]) (zC 3 (uH («as»:=[sl 7 Term.enc a2,.fb 249 [.ag (Pack.enc false a1)]]) [(.tmp 5),(.tmp 7)] [75,221] false [] [] (.cons (.same rfl) (.cons (.fb (.cons (.same rfl) (.nil))) (.nil))) (yC.ok a2 a1) h4 (.same rfl rfl)) zB)) ?_
 exact zR rfl
noncomputable def zTx:Code:=(Tryz.f246.body).getD .skip
theorem zDv.ok (a1:Int) (a2:(List Pack)) (a3:(List Term)):Ok Tryz.prog 246 [iv a1,pp 0,pp 1] [.box [sl 8 (Pack.enc false) a2],.box [sl 7 Term.enc a3]] ((zDv a1 a2 a3).map fun r=>(bv r,[.box [sl 8 (Pack.enc false) a2],.box [sl 7 Term.enc a3]])):=by
 refine zH zTx Tryz.f246 2 11 (fun q=>?_)
 unfold zDv
 refine J_g 2 [] [(0,iv a1),(1,pp 0),(2,pp 1)] [(0,.box [sl 8 (Pack.enc false) a2]),(1,.box [sl 7 Term.enc a3])] zB ?_
 refine zA (fun x4 h5=>?_)
 refine zA (fun x6 h7=>?_)
 refine J_g 6 [] [(4,bv x6)] [(0,.box [sl 8 (Pack.enc false) a2]),(1,.box [sl 7 Term.enc a3])] (zC 2 (uN (kk:=.i64) 30 102 8 (Pack.enc false) (.tmp 5) (.tmp 6) h5) (zC 5 (xO [(.tmp 8),(.tmp 9)] [102,75] (vV.ok x4 a3) h7) zB)) ?_
 exact zR rfl
noncomputable def c203:Code:=(Tryz.f203.body).getD .skip
theorem xQ.ok (a1:(List Int)) (a2:(List Pack)) (a3:(List Term)) (q:Wd) (kn:Unit→Option (D×List Ent)) (hk:∀v:Unit,J (q.g Tryz.prog 203 2 19) c203 (atI c203 7) (St.mk' [] [(0,.box [sl 8 (Pack.enc false) a2]),(1,.box [sl 7 Term.enc a3])]) (some v) kn):
  ∀s10:Int,J (q.g Tryz.prog 203 2 19) c203 (atI c203 52) (St.mk' [(0,sl 1 zG a1),(1,.fn 246 [pp 0,pp 1]),(7,iv (a1.length:Int)),(8,iv s10)] [(0,.box [sl 8 (Pack.enc false) a2]),(1,.box [sl 7 Term.enc a3])]) (xQ a1 a2 a3 s10) (Fl.go (fun r:Int=>some (iv r,[.box [sl 8 (Pack.enc false) a2],.box [sl 7 Term.enc a3]])) kn):=by
 refine jJ (fun g ih s10=>?_)
 unfold xM
 refine J_g 104 [] [(0,sl 1 zG a1),(1,.fn 246 [pp 0,pp 1]),(7,iv (a1.length:Int)),(8,iv s10),(9,bv (decide (s10< (a1.length:Int))))] [(0,.box [sl 8 (Pack.enc false) a2]),(1,.box [sl 7 Term.enc a3])] zB ?_
 refine zD 9 (fun h11=>?_) (fun h11=>?_)
 ·refine J_g 1688 [] [(0,sl 1 zG a1),(1,.fn 246 [pp 0,pp 1]),(5,iv s10),(7,iv (a1.length:Int)),(8,iv s10)] [(0,.box [sl 8 (Pack.enc false) a2]),(1,.box [sl 7 Term.enc a3])] zB ?_
  refine zA (fun x12 h13=>?_)
  refine zA (fun x14 h15=>?_)
  refine J_g 3378 [] [(0,sl 1 zG a1),(1,.fn 246 [pp 0,pp 1]),(5,iv s10),(7,iv (a1.length:Int)),(8,iv s10),(16,bv x14)] [(0,.box [sl 8 (Pack.enc false) a2]),(1,.box [sl 7 Term.enc a3])] (zC 3 (uN (kk:=.i64) 39 2 1 zG (.tmp 12) (.tmp 13) h13) (zC 5 (zJ2 [(0,.box [sl 8 (Pack.enc false) a2]),(1,.box [sl 7 Term.enc a3])] [] (zKB 11 [(.tmp 15)] [2] false [(0,.box [sl 8 (Pack.enc false) a2]),(1,.box [sl 7 Term.enc a3])] [0,1] [iv x12] [pp 0,pp 1] (.cons (.same rfl) (.cons (.pt rfl) (.cons (.pt rfl) (.nil)))) (zDv.ok x12 a2 a3) h15 (.same rfl rfl))) zB)) ?_
  refine zD 16 (fun h16=>?_) (fun h16=>?_)
  ·refine J_g 13516 [] [(4,iv s10)] [(0,.box [sl 8 (Pack.enc false) a2]),(1,.box [sl 7 Term.enc a3])] zB ?_
   exact zR rfl
  ·refine J_g 423 [] [(0,sl 1 zG a1),(1,.fn 246 [pp 0,pp 1]),(7,iv (a1.length:Int)),(8,iv (w64 (s10+1)))] [(0,.box [sl 8 (Pack.enc false) a2]),(1,.box [sl 7 Term.enc a3])] zB ?_
   exact J_q (J_b (ih (w64 (s10+1)))) rfl
 ·exact xB (hk ()) rfl
theorem xH.ok (a1:(List Int)) (a2:(List Pack)) (a3:(List Term)):Ok Tryz.prog 203 [sl 1 zG a1,.fn 246 [pp 0,pp 1]] [.box [sl 8 (Pack.enc false) a2],.box [sl 7 Term.enc a3]] ((xH a1 a2 a3).map fun r=>(iv r,[.box [sl 8 (Pack.enc false) a2],.box [sl 7 Term.enc a3]])):=by
 refine zH c203 Tryz.f203 2 19 (fun q=>?_)
 unfold xH
 refine J_g 2 [] [(0,sl 1 zG a1),(1,.fn 246 [pp 0,pp 1])] [(0,.box [sl 8 (Pack.enc false) a2]),(1,.box [sl 7 Term.enc a3])] zB ?_
 refine J_g 12 [] [(0,sl 1 zG a1),(1,.fn 246 [pp 0,pp 1]),(7,iv (a1.length:Int)),(8,iv 0)] [(0,.box [sl 8 (Pack.enc false) a2]),(1,.box [sl 7 Term.enc a3])] zB ?_
 refine vY (K0:=(fun r:Int=>some (iv r,[.box [sl 8 (Pack.enc false) a2],.box [sl 7 Term.enc a3]]))) (fun _=>rfl) (xQ.ok a1 a2 a3 q _ (fun v17=>J_j ?_) 0)
 refine J_g 14 [] [(4,iv (-1))] [(0,.box [sl 8 (Pack.enc false) a2]),(1,.box [sl 7 Term.enc a3])] zB ?_
 exact zR rfl
noncomputable def zS1:Code:=(Tryz.f129.body).getD .skip
theorem zZ.ok (a1:(List Int)) (a2:(List Pack)) (a3:(List Term)):Ok Tryz.prog 129 [sl 1 zG a1,.fn 246 [pp 0,pp 1]] [.box [sl 8 (Pack.enc false) a2],.box [sl 7 Term.enc a3]] ((zZ a1 a2 a3).map fun r=>(bv r,[.box [sl 8 (Pack.enc false) a2],.box [sl 7 Term.enc a3]])):=by
 refine zH zS1 Tryz.f129 2 9 (fun q=>?_)
 unfold zZ
 refine J_g 2 [] [(0,sl 1 zG a1),(1,.fn 246 [pp 0,pp 1])] [(0,.box [sl 8 (Pack.enc false) a2]),(1,.box [sl 7 Term.enc a3])] zB ?_
 refine zA (fun x4 h5=>?_)
 refine J_g 6 [] [(4,bv (decide (x4≥0)))] [(0,.box [sl 8 (Pack.enc false) a2]),(1,.box [sl 7 Term.enc a3])] (zC 2 (zJ2 [(0,.box [sl 8 (Pack.enc false) a2]),(1,.box [sl 7 Term.enc a3])] [] (uH («as»:=[sl 1 zG a1,.fn 246 [pp 0,pp 1]]) [(.tmp 5),(.tmp 6)] [39,174] false [(0,.box [sl 8 (Pack.enc false) a2]),(1,.box [sl 7 Term.enc a3])] [0,1] (.cons (.same rfl) (.cons (.fn (.cons (.pt rfl) (.cons (.pt rfl) (.nil)))) (.nil))) (xH.ok a1 a2 a3) h5 (.same rfl rfl))) zB) ?_
 exact zR rfl
noncomputable def zSN:Code:=(Tryz.f248.body).getD .skip
theorem zDw.ok (a1:Int) (a2:Int) (a3:(List Pack)) (a4:Term):Ok Tryz.prog 248 [iv a1,pp 0,pp 1,pp 2] [.box [iv a2],.box [sl 8 (Pack.enc false) a3],.box (Term.enc a4)] ((zDw a1 a2 a3 a4).map fun r=>(bv r,[.box [iv a2],.box [sl 8 (Pack.enc false) a3],.box (Term.enc a4)])):=by
 refine zH zSN Tryz.f248 3 17 (fun q=>?_)
 unfold zDw
 refine J_g 2 [] [(0,iv a1),(1,pp 0),(2,pp 1),(3,pp 2)] [(0,.box [iv a2]),(1,.box [sl 8 (Pack.enc false) a3]),(2,.box (Term.enc a4))] zB ?_
 refine wN (fun h5=>?_) (fun h5=>?_)
 ·refine zA (fun x6 h7=>?_)
  refine zA (fun x8 h9=>?_)
  refine J_g 6 [] [(5,bv x8)] [(0,.box [iv a2]),(1,.box [sl 8 (Pack.enc false) a3]),(2,.box (Term.enc a4))] (wF 3 [(8,bv (a1 !=a2))] [] h5 (zAR 6 3 9 true (uN (kk:=.i64) 30 102 8 (Pack.enc false) (.tmp 10) (.tmp 11) h7) (zAR 9 3 9 true (xO [(.tmp 13),(.tmp 14)] [102,149] (vZ.ok x6 a4) h9) zB))) ?_
  exact zR rfl
 ·refine J_g 6 [] [(5,bv false)] [(0,.box [iv a2]),(1,.box [sl 8 (Pack.enc false) a3]),(2,.box (Term.enc a4))] (wF 3 [(8,bv (a1 !=a2))] [] h5 zB) ?_
  exact zR rfl
theorem xP.ok (a1:(List Int)) (a2:Int) (a3:(List Pack)) (a4:Term) (q:Wd) (kn:Unit→Option (D×List Ent)) (hk:∀v:Unit,J (q.g Tryz.prog 203 3 19) c203 (atI c203 7) (St.mk' [] [(0,.box [iv a2]),(1,.box [sl 8 (Pack.enc false) a3]),(2,.box (Term.enc a4))]) (some v) kn):
  ∀s11:Int,J (q.g Tryz.prog 203 3 19) c203 (atI c203 52) (St.mk' [(0,sl 1 zG a1),(1,.fn 248 [pp 0,pp 1,pp 2]),(7,iv (a1.length:Int)),(8,iv s11)] [(0,.box [iv a2]),(1,.box [sl 8 (Pack.enc false) a3]),(2,.box (Term.enc a4))]) (xP a1 a2 a3 a4 s11) (Fl.go (fun r:Int=>some (iv r,[.box [iv a2],.box [sl 8 (Pack.enc false) a3],.box (Term.enc a4)])) kn):=by
 refine jJ (fun g ih s11=>?_)
 unfold xK
 refine J_g 104 [] [(0,sl 1 zG a1),(1,.fn 248 [pp 0,pp 1,pp 2]),(7,iv (a1.length:Int)),(8,iv s11),(9,bv (decide (s11< (a1.length:Int))))] [(0,.box [iv a2]),(1,.box [sl 8 (Pack.enc false) a3]),(2,.box (Term.enc a4))] zB ?_
 refine zD 9 (fun h12=>?_) (fun h12=>?_)
 ·refine J_g 1688 [] [(0,sl 1 zG a1),(1,.fn 248 [pp 0,pp 1,pp 2]),(5,iv s11),(7,iv (a1.length:Int)),(8,iv s11)] [(0,.box [iv a2]),(1,.box [sl 8 (Pack.enc false) a3]),(2,.box (Term.enc a4))] zB ?_
  refine zA (fun x13 h14=>?_)
  refine zA (fun x15 h16=>?_)
  refine J_g 3378 [] [(0,sl 1 zG a1),(1,.fn 248 [pp 0,pp 1,pp 2]),(5,iv s11),(7,iv (a1.length:Int)),(8,iv s11),(16,bv x15)] [(0,.box [iv a2]),(1,.box [sl 8 (Pack.enc false) a3]),(2,.box (Term.enc a4))] (zC 3 (uN (kk:=.i64) 39 2 1 zG (.tmp 12) (.tmp 13) h14) (zC 5 (zJ2 [(0,.box [iv a2]),(1,.box [sl 8 (Pack.enc false) a3]),(2,.box (Term.enc a4))] [] (zKB 11 [(.tmp 15)] [2] false [(0,.box [iv a2]),(1,.box [sl 8 (Pack.enc false) a3]),(2,.box (Term.enc a4))] [0,1,2] [iv x13] [pp 0,pp 1,pp 2] (.cons (.same rfl) (.cons (.pt rfl) (.cons (.pt rfl) (.cons (.pt rfl) (.nil))))) (zDw.ok x13 a2 a3 a4) h16 (.same rfl rfl))) zB)) ?_
  refine zD 16 (fun h17=>?_) (fun h17=>?_)
  ·refine J_g 13516 [] [(4,iv s11)] [(0,.box [iv a2]),(1,.box [sl 8 (Pack.enc false) a3]),(2,.box (Term.enc a4))] zB ?_
   exact zR rfl
  ·refine J_g 423 [] [(0,sl 1 zG a1),(1,.fn 248 [pp 0,pp 1,pp 2]),(7,iv (a1.length:Int)),(8,iv (w64 (s11+1)))] [(0,.box [iv a2]),(1,.box [sl 8 (Pack.enc false) a3]),(2,.box (Term.enc a4))] zB ?_
   exact J_q (J_b (ih (w64 (s11+1)))) rfl
 ·exact xB (hk ()) rfl
theorem xG.ok (a1:(List Int)) (a2:Int) (a3:(List Pack)) (a4:Term):Ok Tryz.prog 203 [sl 1 zG a1,.fn 248 [pp 0,pp 1,pp 2]] [.box [iv a2],.box [sl 8 (Pack.enc false) a3],.box (Term.enc a4)] ((xG a1 a2 a3 a4).map fun r=>(iv r,[.box [iv a2],.box [sl 8 (Pack.enc false) a3],.box (Term.enc a4)])):=by
 refine zH c203 Tryz.f203 3 19 (fun q=>?_)
 unfold xG
 refine J_g 2 [] [(0,sl 1 zG a1),(1,.fn 248 [pp 0,pp 1,pp 2])] [(0,.box [iv a2]),(1,.box [sl 8 (Pack.enc false) a3]),(2,.box (Term.enc a4))] zB ?_
 refine J_g 12 [] [(0,sl 1 zG a1),(1,.fn 248 [pp 0,pp 1,pp 2]),(7,iv (a1.length:Int)),(8,iv 0)] [(0,.box [iv a2]),(1,.box [sl 8 (Pack.enc false) a3]),(2,.box (Term.enc a4))] zB ?_
 refine vY (K0:=(fun r:Int=>some (iv r,[.box [iv a2],.box [sl 8 (Pack.enc false) a3],.box (Term.enc a4)]))) (fun _=>rfl) (xP.ok a1 a2 a3 a4 q _ (fun v18=>J_j ?_) 0)
 refine J_g 14 [] [(4,iv (-1))] [(0,.box [iv a2]),(1,.box [sl 8 (Pack.enc false) a3]),(2,.box (Term.enc a4))] zB ?_
 exact zR rfl
theorem yA.ok (a1:(List Int)) (a2:Int) (a3:(List Pack)) (a4:Term):Ok Tryz.prog 129 [sl 1 zG a1,.fn 248 [pp 0,pp 1,pp 2]] [.box [iv a2],.box [sl 8 (Pack.enc false) a3],.box (Term.enc a4)] ((yA a1 a2 a3 a4).map fun r=>(bv r,[.box [iv a2],.box [sl 8 (Pack.enc false) a3],.box (Term.enc a4)])):=by
 refine zH zS1 Tryz.f129 3 9 (fun q=>?_)
 unfold yA
 refine J_g 2 [] [(0,sl 1 zG a1),(1,.fn 248 [pp 0,pp 1,pp 2])] [(0,.box [iv a2]),(1,.box [sl 8 (Pack.enc false) a3]),(2,.box (Term.enc a4))] zB ?_
 refine zA (fun x5 h6=>?_)
 refine J_g 6 [] [(4,bv (decide (x5≥0)))] [(0,.box [iv a2]),(1,.box [sl 8 (Pack.enc false) a3]),(2,.box (Term.enc a4))] (zC 2 (zJ2 [(0,.box [iv a2]),(1,.box [sl 8 (Pack.enc false) a3]),(2,.box (Term.enc a4))] [] (uH («as»:=[sl 1 zG a1,.fn 248 [pp 0,pp 1,pp 2]]) [(.tmp 5),(.tmp 6)] [39,174] false [(0,.box [iv a2]),(1,.box [sl 8 (Pack.enc false) a3]),(2,.box (Term.enc a4))] [0,1,2] (.cons (.same rfl) (.cons (.fn (.cons (.pt rfl) (.cons (.pt rfl) (.cons (.pt rfl) (.nil))))) (.nil))) (xG.ok a1 a2 a3 a4) h6 (.same rfl rfl))) zB) ?_
 exact zR rfl
noncomputable def zLo:Code:=(Tryz.f177.body).getD .skip
theorem zD4.ok (a1:(List Pack)) (a2:(List Int)) (s56:((List zM)×Int)) (x58:Int) (x60:Pack) (q:Wd) (kn:(List zM)→Option (D×List Ent)) (hk:∀v:(List zM),J (q.g Tryz.prog 177 0 77) zLo (aft zLo 1868) (St.mk' [(1,sl 1 zG a2),(2,pp 0),(5,rr 5 v),(14,sl 1 zG a2),(15,iv (a2.length:Int)),(16,iv s56.2)] [(0,.box [sl 8 (Pack.enc false) a1]),(5,rE 3 zM.enc v)]) (some v) kn):
  ∀s99:((List zM)×Int),J (q.g Tryz.prog 177 0 77) zLo (atI zLo 239228) (St.mk' [(1,sl 1 zG a2),(2,pp 0),(5,rr 5 s99.1),(7,pp 2),(14,sl 1 zG a2),(15,iv (a2.length:Int)),(16,iv s56.2),(58,sl 7 Term.enc x60.Bars),(59,iv (x60.Bars.length:Int)),(60,iv s99.2)] [(0,.box [sl 8 (Pack.enc false) a1]),(2,.box [iv x58]),(5,rE 3 zM.enc s99.1)]) (zD4 a1 a2 s56 x58 x60 s99) kn:=by
 refine jJ (fun g ih s99=>?_)
 unfold zCK
 refine J_g 478456 [] [(1,sl 1 zG a2),(2,pp 0),(5,rr 5 s99.1),(7,pp 2),(14,sl 1 zG a2),(15,iv (a2.length:Int)),(16,iv s56.2),(58,sl 7 Term.enc x60.Bars),(59,iv (x60.Bars.length:Int)),(60,iv s99.2),(61,bv (decide (s99.2< (x60.Bars.length:Int))))] [(0,.box [sl 8 (Pack.enc false) a1]),(2,.box [iv x58]),(5,rE 3 zM.enc s99.1)] zB ?_
 refine zD 61 (fun h100=>?_) (fun h100=>?_)
 ·refine zA (fun x101 h102=>?_)
  refine J_g 7655320 [(3,6)] [(1,sl 1 zG a2),(2,pp 0),(5,rr 5 s99.1),(7,pp 2),(11,iv s99.2),(12,pp 6),(14,sl 1 zG a2),(15,iv (a2.length:Int)),(16,iv s56.2),(58,sl 7 Term.enc x60.Bars),(59,iv (x60.Bars.length:Int)),(60,iv s99.2)] [(0,.box [sl 8 (Pack.enc false) a1]),(2,.box [iv x58]),(5,rE 3 zM.enc s99.1),(6,.box (Term.enc x101))] (zC 1 (uN (kk:=.i64) 75 149 7 Term.enc (.tmp 58) (.tmp 60) h102) zB) ?_
  refine zA (fun x103 h104=>?_)
  refine J_g 15310642 [] [(1,sl 1 zG a2),(2,pp 0),(5,rr 5 s99.1),(7,pp 2),(11,iv s99.2),(14,sl 1 zG a2),(15,iv (a2.length:Int)),(16,iv s56.2),(58,sl 7 Term.enc x60.Bars),(59,iv (x60.Bars.length:Int)),(60,iv s99.2),(67,bv x103)] [(0,.box [sl 8 (Pack.enc false) a1]),(2,.box [iv x58]),(5,rE 3 zM.enc s99.1)] (zC 2 (zJ2 [(2,.box [iv x58]),(0,.box [sl 8 (Pack.enc false) a1]),(6,.box (Term.enc x101))] [] (uH («as»:=[sl 1 zG a2,.fn 248 [pp 2,pp 0,pp 6]]) [(.tmp 65),(.tmp 66)] [39,174] false [(2,.box [iv x58]),(0,.box [sl 8 (Pack.enc false) a1]),(6,.box (Term.enc x101))] [2,0,6] (.cons (.same rfl) (.cons (.fn (.cons (.pt rfl) (.cons (.pt rfl) (.cons (.pt rfl) (.nil))))) (.nil))) (yA.ok a2 x58 a1 x101) h104 (.same rfl rfl))) zB) ?_
  refine wD (aft zLo 3827660) (fun v108:(List zM)=>St.mk' [(1,sl 1 zG a2),(2,pp 0),(5,rr 7 v108),(7,pp 2),(14,sl 1 zG a2),(15,iv (a2.length:Int)),(16,iv s56.2),(58,sl 7 Term.enc x60.Bars),(59,iv (x60.Bars.length:Int)),(60,iv s99.2)] [(0,.box [sl 8 (Pack.enc false) a1]),(2,.box [iv x58]),(7,rE 3 zM.enc v108)]) (fun v108=>?_) (fun jv108=>?_)
  ·refine J_g 1913831 [] [(1,sl 1 zG a2),(2,pp 0),(5,rr 7 v108),(7,pp 2),(14,sl 1 zG a2),(15,iv (a2.length:Int)),(16,iv s56.2),(58,sl 7 Term.enc x60.Bars),(59,iv (x60.Bars.length:Int)),(60,iv (w64 (s99.2+1)))] [(0,.box [sl 8 (Pack.enc false) a1]),(2,.box [iv x58]),(7,rE 3 zM.enc v108)] zB ?_
   refine zCo 7 5 (Nat.le_of_ble_eq_true rfl) (Nat.le_of_ble_eq_true rfl) ?_
   exact J_q (J_b (ih (v108,w64 (s99.2+1)))) rfl
  ·refine zD 67 (fun h105=>?_) (fun h105=>?_)
   ·refine zA (fun x106 h107=>?_)
    refine J_g 30621286 [] [(1,sl 1 zG a2),(2,pp 0),(5,rr 7 x106),(7,pp 2),(14,sl 1 zG a2),(15,iv (a2.length:Int)),(16,iv s56.2),(58,sl 7 Term.enc x60.Bars),(59,iv (x60.Bars.length:Int)),(60,iv s99.2)] [(0,.box [sl 8 (Pack.enc false) a1]),(2,.box [iv x58]),(7,rE 3 zM.enc x106)] (zC 4 (zFd 133 199 3 6 zM.enc [({Kind:=3,Pack:=x58,At:=s99.2}:zM)] [0] [(.tmp 71)] [.ag [iv 3,iv x58,iv s99.2]]) (zC 5 (zIJ 133 133 199 199 3 24 7 5 6 zM.enc (.tmp 68) (.tmp 72) h107) zB)) ?_
    exact xB (J_j (jv108 x106)) rfl
   ·refine zCo 5 7 (Nat.le_of_ble_eq_true rfl) (Nat.le_of_ble_eq_true rfl) ?_
    exact xB (J_j (jv108 s99.1)) rfl
 ·exact xB (hk s99.1) rfl
theorem zDE.ok (a1:(List Pack)) (a2:(List Int)) (s56:((List zM)×Int)) (x58:Int) (x60:Pack) (q:Wd) (kn:(List zM)→Option (D×List Ent)) (hk:∀v:(List zM),J (q.g Tryz.prog 177 0 77) zLo (atI zLo 29903) (St.mk' [(1,sl 1 zG a2),(2,pp 0),(5,rr 5 v),(7,pp 2),(8,pp 3),(14,sl 1 zG a2),(15,iv (a2.length:Int)),(16,iv s56.2)] [(0,.box [sl 8 (Pack.enc false) a1]),(2,.box [iv x58]),(3,.box (Pack.enc false x60)),(5,rE 3 zM.enc v)]) (some v) kn):
  ∀s79:((List zM)×Int),J (q.g Tryz.prog 177 0 77) zLo (atI zLo 239220) (St.mk' [(1,sl 1 zG a2),(2,pp 0),(5,rr 5 s79.1),(7,pp 2),(8,pp 3),(14,sl 1 zG a2),(15,iv (a2.length:Int)),(16,iv s56.2),(39,sl 1 (eSl false 7 Term.enc) x60.Needs),(40,iv (x60.Needs.length:Int)),(41,iv s79.2)] [(0,.box [sl 8 (Pack.enc false) a1]),(2,.box [iv x58]),(3,.box (Pack.enc false x60)),(5,rE 3 zM.enc s79.1)]) (zDE a1 a2 s56 x58 x60 s79) kn:=by
 refine jJ (fun g ih s79=>?_)
 unfold zCs
 refine J_g 478440 [] [(1,sl 1 zG a2),(2,pp 0),(5,rr 5 s79.1),(7,pp 2),(8,pp 3),(14,sl 1 zG a2),(15,iv (a2.length:Int)),(16,iv s56.2),(39,sl 1 (eSl false 7 Term.enc) x60.Needs),(40,iv (x60.Needs.length:Int)),(41,iv s79.2),(42,bv (decide (s79.2< (x60.Needs.length:Int))))] [(0,.box [sl 8 (Pack.enc false) a1]),(2,.box [iv x58]),(3,.box (Pack.enc false x60)),(5,rE 3 zM.enc s79.1)] zB ?_
 refine zD 42 (fun h80=>?_) (fun h80=>?_)
 ·refine zA (fun x81 h82=>?_)
  refine J_g 7655064 [(3,6)] [(1,sl 1 zG a2),(2,pp 0),(5,rr 5 s79.1),(7,pp 2),(8,pp 3),(9,iv s79.2),(10,pp 6),(14,sl 1 zG a2),(15,iv (a2.length:Int)),(16,iv s56.2),(39,sl 1 (eSl false 7 Term.enc) x60.Needs),(40,iv (x60.Needs.length:Int)),(41,iv s79.2)] [(0,.box [sl 8 (Pack.enc false) a1]),(2,.box [iv x58]),(3,.box (Pack.enc false x60)),(5,rE 3 zM.enc s79.1),(6,.box [sl 7 Term.enc x81])] (zC 1 (uN (kk:=.i64) 100 75 1 (eSl false 7 Term.enc) (.tmp 39) (.tmp 41) h82) zB) ?_
  refine zA (fun x83 h84=>?_)
  refine J_g 15310130 [] [(1,sl 1 zG a2),(2,pp 0),(5,rr 5 s79.1),(7,pp 2),(8,pp 3),(9,iv s79.2),(14,sl 1 zG a2),(15,iv (a2.length:Int)),(16,iv s56.2),(39,sl 1 (eSl false 7 Term.enc) x60.Needs),(40,iv (x60.Needs.length:Int)),(41,iv s79.2),(49,bv (!x83))] [(0,.box [sl 8 (Pack.enc false) a1]),(2,.box [iv x58]),(3,.box (Pack.enc false x60)),(5,rE 3 zM.enc s79.1)] (zC 2 (zJ2 [(0,.box [sl 8 (Pack.enc false) a1]),(6,.box [sl 7 Term.enc x81])] [] (uH («as»:=[sl 1 zG a2,.fn 246 [pp 0,pp 6]]) [(.tmp 46),(.tmp 47)] [39,174] false [(0,.box [sl 8 (Pack.enc false) a1]),(6,.box [sl 7 Term.enc x81])] [0,6] (.cons (.same rfl) (.cons (.fn (.cons (.pt rfl) (.cons (.pt rfl) (.nil)))) (.nil))) (zZ.ok a2 a1 x81) h84 (.same rfl rfl))) zB) ?_
  refine wD (aft zLo 3827532) (fun v88:(List zM)=>St.mk' [(1,sl 1 zG a2),(2,pp 0),(5,rr 7 v88),(7,pp 2),(8,pp 3),(14,sl 1 zG a2),(15,iv (a2.length:Int)),(16,iv s56.2),(39,sl 1 (eSl false 7 Term.enc) x60.Needs),(40,iv (x60.Needs.length:Int)),(41,iv s79.2)] [(0,.box [sl 8 (Pack.enc false) a1]),(2,.box [iv x58]),(3,.box (Pack.enc false x60)),(7,rE 3 zM.enc v88)]) (fun v88=>?_) (fun jv88=>?_)
  ·refine J_g 1913767 [] [(1,sl 1 zG a2),(2,pp 0),(5,rr 7 v88),(7,pp 2),(8,pp 3),(14,sl 1 zG a2),(15,iv (a2.length:Int)),(16,iv s56.2),(39,sl 1 (eSl false 7 Term.enc) x60.Needs),(40,iv (x60.Needs.length:Int)),(41,iv (w64 (s79.2+1)))] [(0,.box [sl 8 (Pack.enc false) a1]),(2,.box [iv x58]),(3,.box (Pack.enc false x60)),(7,rE 3 zM.enc v88)] zB ?_
   refine zCo 7 5 (Nat.le_of_ble_eq_true rfl) (Nat.le_of_ble_eq_true rfl) ?_
   exact J_q (J_b (ih (v88,w64 (s79.2+1)))) rfl
  ·refine zD 49 (fun h85=>?_) (fun h85=>?_)
   ·refine zA (fun x86 h87=>?_)
    refine J_g 30620262 [] [(1,sl 1 zG a2),(2,pp 0),(5,rr 7 x86),(7,pp 2),(8,pp 3),(14,sl 1 zG a2),(15,iv (a2.length:Int)),(16,iv s56.2),(39,sl 1 (eSl false 7 Term.enc) x60.Needs),(40,iv (x60.Needs.length:Int)),(41,iv s79.2)] [(0,.box [sl 8 (Pack.enc false) a1]),(2,.box [iv x58]),(3,.box (Pack.enc false x60)),(7,rE 3 zM.enc x86)] (zC 4 (zFd 133 199 3 6 zM.enc [({Kind:=2,Pack:=x58,At:=s79.2}:zM)] [0] [(.tmp 53)] [.ag [iv 2,iv x58,iv s79.2]]) (zC 5 (zIJ 133 133 199 199 3 24 7 5 6 zM.enc (.tmp 50) (.tmp 54) h87) zB)) ?_
    exact xB (J_j (jv88 x86)) rfl
   ·refine zCo 5 7 (Nat.le_of_ble_eq_true rfl) (Nat.le_of_ble_eq_true rfl) ?_
    exact xB (J_j (jv88 s79.1)) rfl
 ·exact xB (hk s79.1) rfl
theorem zDB.ok (a1:(List Pack)) (a2:(List Int)) (q:Wd) (kn:(List zM)→Option (D×List Ent)) (hk:∀v:(List zM),J (q.g Tryz.prog 177 0 77) zLo (atI zLo 15) (St.mk' [(5,rr 1 v)] [(1,rE 3 zM.enc v)]) (some v) kn):
  ∀s56:((List zM)×Int),J (q.g Tryz.prog 177 0 77) zLo (atI zLo 116) (St.mk' [(1,sl 1 zG a2),(2,pp 0),(5,rr 1 s56.1),(14,sl 1 zG a2),(15,iv (a2.length:Int)),(16,iv s56.2)] [(0,.box [sl 8 (Pack.enc false) a1]),(1,rE 3 zM.enc s56.1)]) (zDB a1 a2 s56) kn:=by
 refine jJ (fun g ih s56=>?_)
 unfold zCJ
 refine J_g 232 [] [(1,sl 1 zG a2),(2,pp 0),(5,rr 1 s56.1),(14,sl 1 zG a2),(15,iv (a2.length:Int)),(16,iv s56.2),(17,bv (decide (s56.2< (a2.length:Int))))] [(0,.box [sl 8 (Pack.enc false) a1]),(1,rE 3 zM.enc s56.1)] zB ?_
 refine zD 17 (fun h57=>?_) (fun h57=>?_)
 ·refine zA (fun x58 h59=>?_)
  refine J_g 3736 [(3,2)] [(1,sl 1 zG a2),(2,pp 0),(5,rr 1 s56.1),(6,iv s56.2),(7,pp 2),(14,sl 1 zG a2),(15,iv (a2.length:Int)),(16,iv s56.2)] [(0,.box [sl 8 (Pack.enc false) a1]),(1,rE 3 zM.enc s56.1),(2,.box [iv x58])] (zC 1 (uN (kk:=.i64) 39 2 1 zG (.tmp 14) (.tmp 16) h59) zB) ?_
  refine zA (fun x60 h61=>?_)
  refine J_g 7474 [(4,3)] [(1,sl 1 zG a2),(2,pp 0),(5,rr 1 s56.1),(6,iv s56.2),(7,pp 2),(8,pp 3),(14,sl 1 zG a2),(15,iv (a2.length:Int)),(16,iv s56.2)] [(0,.box [sl 8 (Pack.enc false) a1]),(1,rE 3 zM.enc s56.1),(2,.box [iv x58]),(3,.box (Pack.enc false x60))] (zC 2 (uN (kk:=.i64) 30 102 8 (Pack.enc false) (.tmp 21) (.tmp 22) h61) zB) ?_
  refine zA (fun x62 h63=>?_)
  refine zA (fun x64 h65=>?_)
  refine J_g 29900 [] [(1,sl 1 zG a2),(2,pp 0),(5,rr 1 s56.1),(7,pp 2),(8,pp 3),(14,sl 1 zG a2),(15,iv (a2.length:Int)),(16,iv s56.2),(32,bv (decide (x64≥0)))] [(0,.box [sl 8 (Pack.enc false) a1]),(1,rE 3 zM.enc s56.1),(2,.box [iv x58]),(3,.box (Pack.enc false x60))] (zC 3 (zQO 39 2 1 zG (.tmp 26) none (some (.tmp 27)) h63) (zC 6 (xO [(.tmp 25),(.tmp 28),(.tmp 30)] [30,39,9] (zE5.ok a1 x62 x60.Name) h65) zB)) ?_
  refine wD (atI zLo 14951) (fun v69:(List zM)=>St.mk' [(1,sl 1 zG a2),(2,pp 0),(5,rr 5 v69),(7,pp 2),(8,pp 3),(14,sl 1 zG a2),(15,iv (a2.length:Int)),(16,iv s56.2)] [(0,.box [sl 8 (Pack.enc false) a1]),(2,.box [iv x58]),(3,.box (Pack.enc false x60)),(5,rE 3 zM.enc v69)]) (fun v69=>?_) (fun jv69=>?_)
  ·refine J_g 59804 [] [(1,sl 1 zG a2),(2,pp 0),(5,rr 5 v69),(7,pp 2),(8,pp 3),(14,sl 1 zG a2),(15,iv (a2.length:Int)),(16,iv s56.2),(39,sl 1 (eSl false 7 Term.enc) x60.Needs),(40,iv (x60.Needs.length:Int)),(41,iv 0)] [(0,.box [sl 8 (Pack.enc false) a1]),(2,.box [iv x58]),(3,.box (Pack.enc false x60)),(5,rE 3 zM.enc v69)] zB ?_
   refine zFl (zDE.ok a1 a2 s56 x58 x60 q _ (fun v89=>J_j ?_) (v69,0))
   refine J_g 59806 [] [(1,sl 1 zG a2),(2,pp 0),(5,rr 5 v89),(7,pp 2),(14,sl 1 zG a2),(15,iv (a2.length:Int)),(16,iv s56.2),(58,sl 7 Term.enc x60.Bars),(59,iv (x60.Bars.length:Int)),(60,iv 0)] [(0,.box [sl 8 (Pack.enc false) a1]),(2,.box [iv x58]),(5,rE 3 zM.enc v89)] zB ?_
   refine zFl (zD4.ok a1 a2 s56 x58 x60 q _ (fun v109=>J_j ?_) (v89,0))
   refine J_g 935 [] [(1,sl 1 zG a2),(2,pp 0),(5,rr 5 v109),(14,sl 1 zG a2),(15,iv (a2.length:Int)),(16,iv (w64 (s56.2+1)))] [(0,.box [sl 8 (Pack.enc false) a1]),(5,rE 3 zM.enc v109)] zB ?_
   refine zCo 5 1 (Nat.le_of_ble_eq_true rfl) (Nat.le_of_ble_eq_true rfl) ?_
   exact J_q (J_b (ih (v109,w64 (s56.2+1)))) rfl
  ·refine zD 32 (fun h66=>?_) (fun h66=>?_)
   ·refine zA (fun x67 h68=>?_)
    refine J_g 59802 [] [(1,sl 1 zG a2),(2,pp 0),(5,rr 5 x67),(7,pp 2),(8,pp 3),(14,sl 1 zG a2),(15,iv (a2.length:Int)),(16,iv s56.2)] [(0,.box [sl 8 (Pack.enc false) a1]),(2,.box [iv x58]),(3,.box (Pack.enc false x60)),(5,rE 3 zM.enc x67)] (zC 3 (zFd 133 199 3 4 zM.enc [({Kind:=1,Pack:=x58,At:=0}:zM)] [0] [(.tmp 35)] [.ag [iv 1,iv x58,iv 0]]) (zC 4 (zIJ 133 133 199 199 3 24 5 1 4 zM.enc (.tmp 33) (.tmp 36) h68) zB)) ?_
    exact xB (J_j (jv69 x67)) rfl
   ·refine zCo 1 5 (Nat.le_of_ble_eq_true rfl) (Nat.le_of_ble_eq_true rfl) ?_
    exact xB (J_j (jv69 s56.1)) rfl
 ·exact xB (hk s56.1) rfl
theorem zDT.ok (a1:(List Pack)) (a2:(List Int)):Ok Tryz.prog 177 [sl 8 (Pack.enc false) a1,sl 1 zG a2] [] ((zDT a1 a2).map fun r=>(so 3 zM.enc r,[])):=by
 refine zH zLo Tryz.f177 0 77 (fun q=>?_)
 unfold zDT
 refine J_g 2 [(0,0)] [(1,sl 1 zG a2),(2,pp 0)] [(0,.box [sl 8 (Pack.enc false) a1])] zB ?_
 refine J_g 6 [] [(1,sl 1 zG a2),(2,pp 0),(5,rr 1 ([]:List zM))] [(0,.box [sl 8 (Pack.enc false) a1]),(1,rE 3 zM.enc ([]:List zM))] (zC 0 (zFd 133 199 3 1 zM.enc ([]:List zM) [] [] []) zB) ?_
 refine J_g 28 [] [(1,sl 1 zG a2),(2,pp 0),(5,rr 1 ([]:List zM)),(14,sl 1 zG a2),(15,iv (a2.length:Int)),(16,iv 0)] [(0,.box [sl 8 (Pack.enc false) a1]),(1,rE 3 zM.enc ([]:List zM))] zB ?_
 refine zFl (zDB.ok a1 a2 q _ (fun v110=>J_j ?_) (([]:List zM),0))
 refine J_g 30 [] [(4,rr 1 v110)] [(1,rE 3 zM.enc v110)] zB ?_
 exact zD5 (ds:=[rr 1 v110]) (ds':=[so 3 zM.enc v110]) (.cons (.cell (.move (.head _) (List.length_map _) (by decide) (.nil))) (.nil) (by decide)) rfl
noncomputable def zSL:Code:=(Tryz.f102.body).getD .skip
theorem tO.ok (a1:(List Pack)) (a2:(List Int)):Ok Tryz.prog 102 [sl 8 (Pack.enc false) a1,sl 1 zG a2] [] ((tO a1 a2).map fun r=>(bv r,[])):=by
 refine zH zSL Tryz.f102 0 10 (fun q=>?_)
 unfold tO
 refine J_g 2 [] [(0,sl 8 (Pack.enc false) a1),(1,sl 1 zG a2)] [] zB ?_
 refine zA (fun x3 h4=>?_)
 refine J_g 6 [] [(4,bv ((x3.length:Int)==0))] [] (zC 2 (uH («as»:=[sl 8 (Pack.enc false) a1,sl 1 zG a2]) [(.tmp 5),(.tmp 6)] [30,39] false [] [] (.cons (.same rfl) (.cons (.same rfl) (.nil))) (zDT.ok a1 a2) h4 (.own 0)) zB) ?_
 exact zR rfl
noncomputable def zSX:Code:=(Tryz.f132.body).getD .skip
theorem uT.ok (a1:(List Int)):Ok Tryz.prog 132 [sl 1 zG a1] [] ((uT a1).map fun r=>(so 1 zG r,[])):=by
 refine zH zSX Tryz.f132 0 8 (fun q=>?_)
 unfold uT
 refine J_g 2 [] [(0,sl 1 zG a1)] [] zB ?_
 refine J_g 12 [] [(0,sl 1 zG a1),(4,.nb a1.length)] [] (zC 1 (zQy (xs:=a1) 39 2 39 1 zG (.tmp 3)) zB) ?_
 refine zS9 4 rfl (fun h2=>?_) ?_
 ·obtain rfl:a1=[]:=List.eq_nil_of_length_eq_zero h2
  refine zRK (e':=some ([]:List Int)) (by kernel_rfl) ?_
  refine J_g 52 [] [(2,nv)] [] zB ?_
  exact zD5 (ds:=[nv]) (ds':=[so 1 zG ([]:List Int)]) (.cons (.cell (.nilsl true 1 (.nil))) (.nil) (by decide)) rfl
 ·refine zA (fun x3 h4=>?_)
  refine J_g 14 [] [(2,rr 1 x3)] [(1,rE 1 zG x3)] (zC 0 (zFd 39 2 1 0 zG ([]:List Int) [] [] []) (zC 2 (zRq 39 39 2 2 1 8 1 0 zG (.tmp 5) (.tmp 6) h4) zB)) ?_
  exact zD5 (ds:=[rr 1 x3]) (ds':=[so 1 zG x3]) (.cons (.cell (.move (.head _) (List.length_map _) (by decide) (.nil))) (.nil) (by decide)) rfl
noncomputable def zSU:Code:=(Tryz.f252.body).getD .skip
theorem xZ.ok (a1:Version):Ok Tryz.prog 252 [.ag (Version.enc a1)] [] ((xZ a1).map fun r=>(sv r,[])):=by
 refine zH zSU Tryz.f252 0 16 (fun q=>?_)
 unfold xZ
 refine J_g 2 [(0,0)] [(1,pp 0)] [(0,.box (Version.enc a1))] zB ?_
 refine zA (fun x2 h3=>?_)
 refine zA (fun x4 h5=>?_)
 refine zA (fun x6 h7=>?_)
 refine zA (fun x8 h9=>?_)
 refine zA (fun x10 h11=>?_)
 refine zA (fun x12 h13=>?_)
 refine zA (fun x14 h15=>?_)
 refine J_g 6 [] [(2,sv x14)] [] (zC 2 (xO [(.tmp 4)] [2] (zCm.ok a1.A) h3) (zC 3 (zD8 9 9 (.tmp 5) (.const (.string (bs [46]))) h5) (zC 6 (xO [(.tmp 8)] [2] (zCm.ok a1.B) h7) (zC 7 (zD8 9 9 (.tmp 6) (.tmp 9) h9) (zC 8 (zD8 9 9 (.tmp 10) (.const (.string (bs [46]))) h11) (zC 11 (xO [(.tmp 13)] [2] (zCm.ok a1.C) h13) (zC 12 (zD8 9 9 (.tmp 11) (.tmp 14) h15) zB))))))) ?_
 exact zR rfl
noncomputable def zT1:Code:=(Tryz.f180.body).getD .skip
theorem zAT.ok (a1:Pack):Ok Tryz.prog 180 [.ag (Pack.enc false a1)] [] ((zAT a1).map fun r=>(sv r,[])):=by
 refine zH zT1 Tryz.f180 0 11 (fun q=>?_)
 unfold zAT
 refine J_g 2 [(0,0)] [(1,pp 0)] [(0,.box (Pack.enc false a1))] zB ?_
 refine zA (fun x2 h3=>?_)
 refine zA (fun x4 h5=>?_)
 refine zA (fun x6 h7=>?_)
 refine zA (fun x8 h9=>?_)
 refine J_g 6 [] [(2,sv x8)] [] (zC 2 (zD8 9 9 (.const (.string (bs [112,107,103,47]))) (.tmp 4) h3) (zC 3 (zD8 9 9 (.tmp 5) (.const (.string (bs [45]))) h5) (zC 6 (xO [(.tmp 8)] [99] (xZ.ok a1.Version) h7) (zC 7 (zD8 9 9 (.tmp 6) (.tmp 9) h9) zB)))) ?_
 exact zR rfl
noncomputable def c182:Code:=(Tryz.f182.body).getD .skip
theorem zAE.ok (a1:Pack) (q:Wd) (kn:(List Int)→Option (D×List Ent)) (hk:∀v:(List Int),J (q.g Tryz.prog 182 0 47) c182 (atI c182 63) (St.mk' [(5,rr 1 v)] [(1,rE 1 eU8 v)]) (some v) kn):
  ∀s13:(Int×(List Int)×Int),J (q.g Tryz.prog 182 0 47) c182 (atI c182 500) (St.mk' [(3,uv s13.1),(5,rr 1 s13.2.1),(35,iv a1.Size),(36,iv s13.2.2)] [(1,rE 1 eU8 s13.2.1)]) (zAE a1 s13) kn:=by
 refine jJ (fun g ih s13=>?_)
 unfold zAr
 refine J_g 1000 [] [(3,uv s13.1),(5,rr 1 s13.2.1),(35,iv a1.Size),(36,iv s13.2.2),(37,bv (decide (s13.2.2<a1.Size)))] [(1,rE 1 eU8 s13.2.1)] zB ?_
 refine zD 37 (fun h14=>?_) (fun h14=>?_)
 ·refine zA (fun x15 h16=>?_)
  refine J_g 16024 [] [(3,uv s13.1),(5,rr 3 x15),(35,iv a1.Size),(36,iv s13.2.2)] [(3,rE 1 eU8 x15)] (zC 2 (zFd 121 5 1 2 eU8 [s13.1] [0] [(.tmp 39)] [uv s13.1]) (zC 3 (zIJ 121 121 5 5 1 1 3 1 2 eU8 (.tmp 38) (.tmp 40) h16) zB)) ?_
  refine J_g 16025 [] [(3,uv (IntKind.u8.wrap ((IntKind.u8.wrap (31*s13.1))+7))),(5,rr 3 x15),(35,iv a1.Size),(36,iv s13.2.2)] [(3,rE 1 eU8 x15)] zB ?_
  refine J_g 4007 [] [(3,uv (IntKind.u8.wrap ((IntKind.u8.wrap (31*s13.1))+7))),(5,rr 3 x15),(35,iv a1.Size),(36,iv (w64 (s13.2.2+1)))] [(3,rE 1 eU8 x15)] zB ?_
  refine zCo 3 1 (Nat.le_of_ble_eq_true rfl) (Nat.le_of_ble_eq_true rfl) ?_
  exact J_q (J_b (ih (IntKind.u8.wrap ((IntKind.u8.wrap (31*s13.1))+7),x15,w64 (s13.2.2+1)))) rfl
 ·exact xB (hk s13.2.1) rfl
theorem zAH.ok (a1:Pack) (q:Wd) (kn:Int→Option (D×List Ent)) (hk:∀v:Int,J (q.g Tryz.prog 182 0 47) c182 (atI c182 15) (St.mk' [(1,pp 0),(3,uv v)] [(0,.box (Pack.enc false a1))]) (some v) kn):
  ∀s5:(Int×Int),J (q.g Tryz.prog 182 0 47) c182 (atI c182 116) (St.mk' [(1,pp 0),(3,uv s5.1),(22,iv (a1.Name.size:Int)),(23,iv s5.2)] [(0,.box (Pack.enc false a1))]) (zAH a1 s5) kn:=by
 refine jJ (fun g ih s5=>?_)
 unfold zAs
 refine J_g 232 [] [(1,pp 0),(3,uv s5.1),(22,iv (a1.Name.size:Int)),(23,iv s5.2),(24,bv (decide (s5.2< (a1.Name.size:Int))))] [(0,.box (Pack.enc false a1))] zB ?_
 refine zD 24 (fun h6=>?_) (fun h6=>?_)
 ·refine J_g 3736 [] [(1,pp 0),(3,uv s5.1),(4,iv s5.2),(22,iv (a1.Name.size:Int)),(23,iv s5.2)] [(0,.box (Pack.enc false a1))] zB ?_
  refine zA (fun x7 h8=>?_)
  refine J_g 3737 [] [(1,pp 0),(3,uv (IntKind.u8.wrap (s5.1+x7))),(22,iv (a1.Name.size:Int)),(23,iv s5.2)] [(0,.box (Pack.enc false a1))] (zC 4 (zJr (kk:=.i64) 9 (.tmp 28) (.tmp 29) h8) zB) ?_
  refine J_g 935 [] [(1,pp 0),(3,uv (IntKind.u8.wrap (s5.1+x7))),(22,iv (a1.Name.size:Int)),(23,iv (w64 (s5.2+1)))] [(0,.box (Pack.enc false a1))] zB ?_
  exact J_q (J_b (ih (IntKind.u8.wrap (s5.1+x7),w64 (s5.2+1)))) rfl
 ·exact xB (hk s5.1) rfl
theorem zAm.ok (a1:Pack):Ok Tryz.prog 182 [.ag (Pack.enc false a1)] [] ((zAm a1).map fun r=>(so 1 eU8 r,[])):=by
 refine zH c182 Tryz.f182 0 47 (fun q=>?_)
 unfold zAm
 refine J_g 2 [(0,0)] [(1,pp 0)] [(0,.box (Pack.enc false a1))] zB ?_
 refine J_g 6 [] [(1,pp 0),(3,uv (IntKind.u8.wrap ((IntKind.u8.wrap ((IntKind.u8.wrap (a1.Version.A))+(IntKind.u8.wrap (a1.Version.B))))+(IntKind.u8.wrap (a1.Version.C)))))] [(0,.box (Pack.enc false a1))] zB ?_
 refine J_g 28 [] [(1,pp 0),(3,uv (IntKind.u8.wrap ((IntKind.u8.wrap ((IntKind.u8.wrap (a1.Version.A))+(IntKind.u8.wrap (a1.Version.B))))+(IntKind.u8.wrap (a1.Version.C))))),(22,iv (a1.Name.size:Int)),(23,iv 0)] [(0,.box (Pack.enc false a1))] zB ?_
 refine zFl (zAH.ok a1 q _ (fun v9=>J_j ?_) (IntKind.u8.wrap ((IntKind.u8.wrap ((IntKind.u8.wrap (a1.Version.A))+(IntKind.u8.wrap (a1.Version.B))))+(IntKind.u8.wrap (a1.Version.C))),0))
 refine J_g 30 [] [(1,pp 0),(3,uv v9),(5,rr 1 ([]:List Int))] [(0,.box (Pack.enc false a1)),(1,rE 1 eU8 ([]:List Int))] (zC 0 (zFd 121 5 1 1 eU8 ([]:List Int) [] [] []) zB) ?_
 refine J_g 124 [] [(3,uv v9),(5,rr 1 ([]:List Int)),(35,iv a1.Size),(36,iv 0)] [(1,rE 1 eU8 ([]:List Int))] zB ?_
 refine zFl (zAE.ok a1 q _ (fun v17=>J_j ?_) (v9,([]:List Int),0))
 refine J_g 126 [] [(2,rr 1 v17)] [(1,rE 1 eU8 v17)] zB ?_
 exact zD5 (ds:=[rr 1 v17]) (ds':=[so 1 eU8 v17]) (.cons (.cell (.move (.head _) (List.length_map _) (by decide) (.nil))) (.nil) (by decide)) rfl
noncomputable def zRE:Code:=(Tryz.f181.body).getD .skip
theorem tL.ok (a1:(List Int)) (a2:(List Int)) (q:Wd) (kn:Unit→Option (D×List Ent)) (hk:∀v:Unit,J (q.g Tryz.prog 181 0 26) zRE (atI zRE 15) (St.mk' [] []) (some v) kn):
  ∀s10:Int,J (q.g Tryz.prog 181 0 26) zRE (atI zRE 116) (St.mk' [(0,sl 1 eU8 a1),(1,sl 1 eU8 a2),(12,iv (a1.length:Int)),(13,iv s10)] []) (tL a1 a2 s10) (Fl.go (fun r:Bool=>some (bv r,[])) kn):=by
 refine jJ (fun g ih s10=>?_)
 unfold uS
 refine J_g 232 [] [(0,sl 1 eU8 a1),(1,sl 1 eU8 a2),(12,iv (a1.length:Int)),(13,iv s10),(14,bv (decide (s10< (a1.length:Int))))] [] zB ?_
 refine zD 14 (fun h11=>?_) (fun h11=>?_)
 ·refine J_g 3736 [] [(0,sl 1 eU8 a1),(1,sl 1 eU8 a2),(5,iv s10),(12,iv (a1.length:Int)),(13,iv s10)] [] zB ?_
  refine zA (fun x12 h13=>?_)
  refine zA (fun x14 h15=>?_)
  refine J_g 7474 [] [(0,sl 1 eU8 a1),(1,sl 1 eU8 a2),(12,iv (a1.length:Int)),(13,iv s10),(24,bv (x12 !=x14))] [] (zC 2 (uN (kk:=.i64) 121 5 1 eU8 (.tmp 16) (.tmp 17) h13) (zC 6 (uN (kk:=.i64) 121 5 1 eU8 (.tmp 20) (.tmp 21) h15) zB)) ?_
  refine zD 24 (fun h16=>?_) (fun h16=>?_)
  ·refine J_g 29900 [] [(4,bv false)] [] zB ?_
   exact zR rfl
  ·refine J_g 935 [] [(0,sl 1 eU8 a1),(1,sl 1 eU8 a2),(12,iv (a1.length:Int)),(13,iv (w64 (s10+1)))] [] zB ?_
   exact J_q (J_b (ih (w64 (s10+1)))) rfl
 ·exact xB (hk ()) rfl
theorem uF.ok (a1:(List Int)) (a2:(List Int)):Ok Tryz.prog 181 [sl 1 eU8 a1,sl 1 eU8 a2] [] ((uF a1 a2).map fun r=>(bv r,[])):=by
 refine zH zRE Tryz.f181 0 26 (fun q=>?_)
 unfold uF
 refine J_g 2 [] [(0,sl 1 eU8 a1),(1,sl 1 eU8 a2)] [] zB ?_
 refine J_g 12 [] [(0,sl 1 eU8 a1),(1,sl 1 eU8 a2),(10,bv ((a1.length:Int) !=(a2.length:Int)))] [] zB ?_
 refine zD 10 (fun h3=>?_) (fun h3=>?_)
 ·refine J_g 52 [] [(4,bv false)] [] zB ?_
  exact zR rfl
 ·refine J_g 28 [] [(0,sl 1 eU8 a1),(1,sl 1 eU8 a2),(12,iv (a1.length:Int)),(13,iv 0)] [] zB ?_
  refine vY (K0:=(fun r:Bool=>some (bv r,[]))) (fun _=>rfl) (tL.ok a1 a2 q _ (fun v17=>J_j ?_) 0)
  refine J_g 30 [] [(4,bv true)] [] zB ?_
  exact zR rfl
noncomputable def zSE:Code:=(Tryz.f179.body).getD .skip
theorem zBc.ok (a1:Int) (a2:zF) (a3:(List Pack)):Ok Tryz.prog 179 [iv a1,pp 0,pp 1] [.box (zF.enc false a2),.box [sl 8 (Pack.enc false) a3]] ((zBc a1 a2 a3).map fun r=>(bv r,[.box (zF.enc false a2),.box [sl 8 (Pack.enc false) a3]])):=by
 refine zH zSE Tryz.f179 2 29 (fun q=>?_)
 unfold zBc
 refine J_g 2 [] [(0,iv a1),(1,pp 0),(2,pp 1)] [(0,.box (zF.enc false a2)),(1,.box [sl 8 (Pack.enc false) a3])] zB ?_
 refine zA (fun x4 h5=>?_)
 refine zA (fun x6 h7=>?_)
 refine zA (fun x8 h9=>?_)
 refine J_g 6 [] [(0,iv a1),(2,pp 1),(5,sl 1 eU8 x8.1),(6,bv x8.2)] [(0,.box (zF.enc false a2)),(1,.box [sl 8 (Pack.enc false) a3])] (zC 3 (uN (kk:=.i64) 30 102 8 (Pack.enc false) (.tmp 9) (.tmp 10) h5) (zC 5 (xO [(.tmp 12)] [102] (zAT.ok x4) h7) (zC 6 (xO [(.tmp 8),(.tmp 13)] [33,9] (xV.ok a2 x6) h9) zB))) ?_
 refine wN (fun h10=>?_) (fun h10=>?_)
 ·refine J_g 14 [] [(4,bv true)] [(0,.box (zF.enc false a2)),(1,.box [sl 8 (Pack.enc false) a3])] (wF 2 [(18,bv (!x8.2))] [] h10 zB) ?_
  exact zR rfl
 ·refine zA (fun x11 h12=>?_)
  refine zA (fun x13 h14=>?_)
  refine zA (fun x15 h16=>?_)
  refine J_g 14 [] [(4,bv (!x15))] [(0,.box (zF.enc false a2)),(1,.box [sl 8 (Pack.enc false) a3])] (wF 2 [(18,bv (!x8.2))] [] h10 (zAR 6 2 19 false (uN (kk:=.i64) 30 102 8 (Pack.enc false) (.tmp 21) (.tmp 22) h12) (zAR 8 2 19 false (uH («as»:=[.ag (Pack.enc false x11)]) [(.tmp 24)] [102] false [] [] (.cons (.same rfl) (.nil)) (zAm.ok x11) h14 (.own 2)) (zAR 9 2 19 false (uH («as»:=[sl 1 eU8 x8.1,rr 2 x13]) [(.tmp 20),(.tmp 25)] [121,121] true [(2,rE 1 eU8 x13)] [] (.cons (.same rfl) (.cons (zF1 (.head _) (fun _=>rfl) rfl) (.nil))) (uF.ok x8.1 x13) h16 (.same rfl rfl) (hbor:=fun _=>⟨fhN,yB⟩)) zB)))) ?_
  exact zR rfl
noncomputable def zTw:Code:=(Tryz.f251.body).getD .skip
theorem xD.ok (a1:Int) (a2:zF) (a3:(List Pack)):Ok Tryz.prog 251 [iv a1,.pb [.fn 179 [pp 0,pp 1]]] [.box (zF.enc false a2),.box [sl 8 (Pack.enc false) a3]] ((xD a1 a2 a3).map fun r=>(bv r,[.box (zF.enc false a2),.box [sl 8 (Pack.enc false) a3]])):=by
 refine zH zTw Tryz.f251 2 8 (fun q=>?_)
 unfold xD
 refine J_g 2 [] [(0,iv a1),(1,.pb [.fn 179 [pp 0,pp 1]])] [(0,.box (zF.enc false a2)),(1,.box [sl 8 (Pack.enc false) a3])] zB ?_
 refine zA (fun x4 h5=>?_)
 refine J_g 6 [] [(3,bv (!x4))] [(0,.box (zF.enc false a2)),(1,.box [sl 8 (Pack.enc false) a3])] (zC 0 (zE3 (d:=.fn 179 [pp 0,pp 1]) 174 (.tmp 1) [.fn 179 [pp 0,pp 1]]) (zC 2 (zJ2 [(0,.box (zF.enc false a2)),(1,.box [sl 8 (Pack.enc false) a3])] [] (zKB 4 [(.tmp 5)] [2] false [(0,.box (zF.enc false a2)),(1,.box [sl 8 (Pack.enc false) a3])] [0,1] [iv a1] [pp 0,pp 1] (.cons (.same rfl) (.cons (.pt rfl) (.cons (.pt rfl) (.nil)))) (zBc.ok a1 a2 a3) h5 (.same rfl rfl))) zB)) ?_
 exact zR rfl
theorem yT.ok (a1:(List Int)) (a2:zF) (a3:(List Pack)) (q:Wd) (kn:Unit→Option (D×List Ent)) (hk:∀v:Unit,J (q.g Tryz.prog 203 3 19) c203 (atI c203 7) (St.mk' [] [(0,rE 1 zG a1),(1,.box (zF.enc false a2)),(2,.box [sl 8 (Pack.enc false) a3])]) (some v) kn):
  ∀s10:Int,J (q.g Tryz.prog 203 3 19) c203 (atI c203 52) (St.mk' [(0,rr 0 a1),(1,.fn 251 [.pb [.fn 179 [pp 1,pp 2]]]),(7,iv (a1.length:Int)),(8,iv s10)] [(0,rE 1 zG a1),(1,.box (zF.enc false a2)),(2,.box [sl 8 (Pack.enc false) a3])]) (yT a1 a2 a3 s10) (Fl.go (fun r:Int=>some (iv r,[rE 1 zG a1,.box (zF.enc false a2),.box [sl 8 (Pack.enc false) a3]])) kn):=by
 refine jJ (fun g ih s10=>?_)
 unfold zW
 refine J_g 104 [] [(0,rr 0 a1),(1,.fn 251 [.pb [.fn 179 [pp 1,pp 2]]]),(7,iv (a1.length:Int)),(8,iv s10),(9,bv (decide (s10< (a1.length:Int))))] [(0,rE 1 zG a1),(1,.box (zF.enc false a2)),(2,.box [sl 8 (Pack.enc false) a3])] zB ?_
 refine zD 9 (fun h11=>?_) (fun h11=>?_)
 ·refine J_g 1688 [] [(0,rr 0 a1),(1,.fn 251 [.pb [.fn 179 [pp 1,pp 2]]]),(5,iv s10),(7,iv (a1.length:Int)),(8,iv s10)] [(0,rE 1 zG a1),(1,.box (zF.enc false a2)),(2,.box [sl 8 (Pack.enc false) a3])] zB ?_
  refine zA (fun x12 h13=>?_)
  refine zA (fun x14 h15=>?_)
  refine J_g 3378 [] [(0,rr 0 a1),(1,.fn 251 [.pb [.fn 179 [pp 1,pp 2]]]),(5,iv s10),(7,iv (a1.length:Int)),(8,iv s10),(16,bv x14)] [(0,rE 1 zG a1),(1,.box (zF.enc false a2)),(2,.box [sl 8 (Pack.enc false) a3])] (zC 3 (kM (kk:=.i64) 39 2 1 0 zG (.tmp 12) (.tmp 13) h13) (zC 4 (zED (d:=iv x12) 2 1 0 0 zG (.tmp 14) h13 (by kernel_rfl)) (zC 5 (zJ2 [(1,.box (zF.enc false a2)),(2,.box [sl 8 (Pack.enc false) a3])] [] (zKB 11 [(.tmp 15)] [2] false [(1,.box (zF.enc false a2)),(2,.box [sl 8 (Pack.enc false) a3])] [1,2] [iv x12] [.pb [.fn 179 [pp 1,pp 2]]] (.cons (.same rfl) (.cons (.pb (.cons (.fn (.cons (.pt rfl) (.cons (.pt rfl) (.nil)))) (.nil))) (.nil))) (xD.ok x12 a2 a3) h15 (.same rfl rfl))) zB))) ?_
  refine zD 16 (fun h16=>?_) (fun h16=>?_)
  ·refine J_g 13516 [] [(4,iv s10)] [(0,rE 1 zG a1),(1,.box (zF.enc false a2)),(2,.box [sl 8 (Pack.enc false) a3])] zB ?_
   exact zR rfl
  ·refine J_g 423 [] [(0,rr 0 a1),(1,.fn 251 [.pb [.fn 179 [pp 1,pp 2]]]),(7,iv (a1.length:Int)),(8,iv (w64 (s10+1)))] [(0,rE 1 zG a1),(1,.box (zF.enc false a2)),(2,.box [sl 8 (Pack.enc false) a3])] zB ?_
   exact J_q (J_b (ih (w64 (s10+1)))) rfl
 ·exact xB (hk ()) rfl
theorem yE.ok (a1:(List Int)) (a2:zF) (a3:(List Pack)):Ok Tryz.prog 203 [rr 0 a1,.fn 251 [.pb [.fn 179 [pp 1,pp 2]]]] [rE 1 zG a1,.box (zF.enc false a2),.box [sl 8 (Pack.enc false) a3]] ((yE a1 a2 a3).map fun r=>(iv r,[rE 1 zG a1,.box (zF.enc false a2),.box [sl 8 (Pack.enc false) a3]])):=by
 refine zH c203 Tryz.f203 3 19 (fun q=>?_)
 unfold yE
 refine J_g 2 [] [(0,rr 0 a1),(1,.fn 251 [.pb [.fn 179 [pp 1,pp 2]]])] [(0,rE 1 zG a1),(1,.box (zF.enc false a2)),(2,.box [sl 8 (Pack.enc false) a3])] zB ?_
 refine J_g 12 [] [(0,rr 0 a1),(1,.fn 251 [.pb [.fn 179 [pp 1,pp 2]]]),(7,iv (a1.length:Int)),(8,iv 0)] [(0,rE 1 zG a1),(1,.box (zF.enc false a2)),(2,.box [sl 8 (Pack.enc false) a3])] zB ?_
 refine vY (K0:=(fun r:Int=>some (iv r,[rE 1 zG a1,.box (zF.enc false a2),.box [sl 8 (Pack.enc false) a3]]))) (fun _=>rfl) (yT.ok a1 a2 a3 q _ (fun v17=>J_j ?_) 0)
 refine J_g 14 [] [(4,iv (-1))] [(0,rE 1 zG a1),(1,.box (zF.enc false a2)),(2,.box [sl 8 (Pack.enc false) a3])] zB ?_
 exact zR rfl
noncomputable def zQH:Code:=(Tryz.f250.body).getD .skip
theorem yP.ok (a2:zF) (a3:(List Pack)) (q:Wd) (kn:((List Int)×Int)→Option (D×List Ent)) (hk:∀v:((List Int)×Int),J (q.g Tryz.prog 250 3 42) zQH (atI zQH 31) (St.mk' [(0,rr 2 v.1),(5,iv v.2)] [(0,.box (zF.enc false a2)),(1,.box [sl 8 (Pack.enc false) a3]),(2,rE 1 zG v.1)]) (some v) kn):
  ∀s16:((List Int)×Int×Int),J (q.g Tryz.prog 250 3 42) zQH (atI zQH 244) (St.mk' [(0,rr 2 s16.1),(1,.fn 251 [.pb [.fn 179 [pp 0,pp 1]]]),(5,iv s16.2.1),(6,iv s16.2.2)] [(0,.box (zF.enc false a2)),(1,.box [sl 8 (Pack.enc false) a3]),(2,rE 1 zG s16.1)]) (yP a2 a3 s16) kn:=by
 refine jJ (fun g ih s16=>?_)
 unfold zV
 refine J_g 976 [] [(0,rr 2 s16.1),(1,.fn 251 [.pb [.fn 179 [pp 0,pp 1]]]),(5,iv s16.2.1),(6,iv s16.2.2),(19,bv (decide (s16.2.2< (s16.1.length:Int))))] [(0,.box (zF.enc false a2)),(1,.box [sl 8 (Pack.enc false) a3]),(2,rE 1 zG s16.1)] zB ?_
 refine zD 19 (fun h17=>?_) (fun h17=>?_)
 ·refine zA (fun x18 h19=>?_)
  refine J_g 3912 [] [(0,rr 2 s16.1),(1,.fn 251 [.pb [.fn 179 [pp 0,pp 1]]]),(5,iv s16.2.1),(6,iv s16.2.2),(7,iv x18)] [(0,.box (zF.enc false a2)),(1,.box [sl 8 (Pack.enc false) a3]),(2,rE 1 zG s16.1)] (zC 2 (kM (kk:=.i64) 39 2 1 2 zG (.tmp 22) (.tmp 23) h19) (zC 3 (zED (d:=iv x18) 2 1 2 0 zG (.tmp 24) h19 (by kernel_rfl)) zB)) ?_
  refine zA (fun x20 h21=>?_)
  refine J_g 7826 [] [(0,rr 2 s16.1),(1,.fn 251 [.pb [.fn 179 [pp 0,pp 1]]]),(5,iv s16.2.1),(6,iv s16.2.2),(7,iv x18),(29,bv (!x20))] [(0,.box (zF.enc false a2)),(1,.box [sl 8 (Pack.enc false) a3]),(2,rE 1 zG s16.1)] (zC 2 (zJ2 [(0,.box (zF.enc false a2)),(1,.box [sl 8 (Pack.enc false) a3])] [] (zKB 26 [(.tmp 27)] [2] false [(0,.box (zF.enc false a2)),(1,.box [sl 8 (Pack.enc false) a3])] [0,1] [iv x18] [.pb [.fn 179 [pp 0,pp 1]]] (.cons (.same rfl) (.cons (.pb (.cons (.fn (.cons (.pt rfl) (.cons (.pt rfl) (.nil)))) (.nil))) (.nil))) (xD.ok x18 a2 a3) h21 (.same rfl rfl))) zB) ?_
  refine wD (aft zQH 1956) (fun v25:((List Int)×Int)=>St.mk' [(0,rr 2 v25.1),(1,.fn 251 [.pb [.fn 179 [pp 0,pp 1]]]),(5,iv v25.2),(6,iv s16.2.2)] [(0,.box (zF.enc false a2)),(1,.box [sl 8 (Pack.enc false) a3]),(2,rE 1 zG v25.1)]) (fun v25=>?_) (fun jv25=>?_)
  ·refine J_g 979 [] [(0,rr 2 v25.1),(1,.fn 251 [.pb [.fn 179 [pp 0,pp 1]]]),(5,iv v25.2),(6,iv (w64 (s16.2.2+1)))] [(0,.box (zF.enc false a2)),(1,.box [sl 8 (Pack.enc false) a3]),(2,rE 1 zG v25.1)] zB ?_
   exact J_q (J_b (ih (v25.1,v25.2,w64 (s16.2.2+1)))) rfl
  ·refine zD 29 (fun h22=>?_) (fun h22=>?_)
   ·refine zA (fun x23 h24=>?_)
    refine J_g 31308 [] [(0,rr 2 s16.1),(1,.fn 251 [.pb [.fn 179 [pp 0,pp 1]]]),(5,iv s16.2.1),(6,iv s16.2.2)] [(0,.box (zF.enc false a2)),(1,.box [sl 8 (Pack.enc false) a3]),(2,rE 1 zG (s16.1.set s16.2.1.toNat x18))] (zC 3 (kM (kk:=.i64) 39 2 1 2 zG (.tmp 30) (.tmp 31) h24) (zGY 4 (zIc (b:=x18) 2 1 2 0 zG (iv x18) (.tmp 33) (.tmp 32) h24 rfl) zB)) ?_
    refine zFJ (σ':=St.mk' [(0,rr 2 (s16.1.set s16.2.1.toNat x18)),(1,.fn 251 [.pb [.fn 179 [pp 0,pp 1]]]),(5,iv s16.2.1),(6,iv s16.2.2)] [(0,.box (zF.enc false a2)),(1,.box [sl 8 (Pack.enc false) a3]),(2,rE 1 zG (s16.1.set s16.2.1.toNat x18))]) (by simp only [rr,List.length_set]) ?_
    refine J_g 31309 [] [(0,rr 2 (s16.1.set s16.2.1.toNat x18)),(1,.fn 251 [.pb [.fn 179 [pp 0,pp 1]]]),(5,iv (w64 (s16.2.1+1))),(6,iv s16.2.2)] [(0,.box (zF.enc false a2)),(1,.box [sl 8 (Pack.enc false) a3]),(2,rE 1 zG (s16.1.set s16.2.1.toNat x18))] zB ?_
    exact xB (J_j (jv25 (s16.1.set s16.2.1.toNat x18,w64 (s16.2.1+1)))) rfl
   ·exact xB (J_j (jv25 (s16.1,s16.2.1))) rfl
 ·exact xB (hk (s16.1,s16.2.1)) rfl
theorem zT.ok (a1:(List Int)) (a2:zF) (a3:(List Pack)):Ok Tryz.prog 250 [rr 2 a1,.fn 251 [.pb [.fn 179 [pp 0,pp 1]]]] [.box (zF.enc false a2),.box [sl 8 (Pack.enc false) a3],rE 1 zG a1] ((zT a1 a2 a3).map fun r=>(so 1 zG r,[.box (zF.enc false a2),.box [sl 8 (Pack.enc false) a3]])):=by
 refine zH zQH Tryz.f250 3 42 (fun q=>?_)
 unfold zT
 refine J_g 2 [] [(0,rr 2 a1),(1,.fn 251 [.pb [.fn 179 [pp 0,pp 1]]])] [(0,.box (zF.enc false a2)),(1,.box [sl 8 (Pack.enc false) a3]),(2,rE 1 zG a1)] zB ?_
 refine zA (fun x4 h5=>?_)
 refine J_g 6 [] [(0,rr 2 a1),(1,.fn 251 [.pb [.fn 179 [pp 0,pp 1]]]),(5,iv x4)] [(0,.box (zF.enc false a2)),(1,.box [sl 8 (Pack.enc false) a3]),(2,rE 1 zG a1)] (zC 2 (zJ2 [(2,rE 1 zG a1),(0,.box (zF.enc false a2)),(1,.box [sl 8 (Pack.enc false) a3])] [] (uH («as»:=[rr 2 a1,.fn 251 [.pb [.fn 179 [pp 0,pp 1]]]]) [(.tmp 8),(.tmp 9)] [39,174] false [(2,rE 1 zG a1),(0,.box (zF.enc false a2)),(1,.box [sl 8 (Pack.enc false) a3])] [2,0,1] (.cons (.rf rfl) (.cons (.fn (.cons (.pb (.cons (.fn (.cons (.pt rfl) (.cons (.pt rfl) (.nil)))) (.nil))) (.nil))) (.nil))) (yE.ok a1 a2 a3) h5 (.same rfl rfl))) zB) ?_
 refine J_g 28 [] [(0,rr 2 a1),(1,.fn 251 [.pb [.fn 179 [pp 0,pp 1]]]),(5,iv x4),(12,bv (x4==(-1)))] [(0,.box (zF.enc false a2)),(1,.box [sl 8 (Pack.enc false) a3]),(2,rE 1 zG a1)] zB ?_
 refine zD 12 (fun h6=>?_) (fun h6=>?_)
 ·refine J_g 116 [] [(4,rr 2 a1)] [(0,.box (zF.enc false a2)),(1,.box [sl 8 (Pack.enc false) a3]),(2,rE 1 zG a1)] zB ?_
  exact zD5 (ds:=[rr 2 a1]) (ds':=[so 1 zG a1]) (.cons (.cell (.move (.tail _ (.tail _ (.head _))) (List.length_map _) (by decide) (.nil))) (.nil) (by decide)) rfl
 ·refine J_g 60 [] [(0,rr 2 a1),(1,.fn 251 [.pb [.fn 179 [pp 0,pp 1]]]),(5,iv x4),(6,iv (w64 (x4+1)))] [(0,.box (zF.enc false a2)),(1,.box [sl 8 (Pack.enc false) a3]),(2,rE 1 zG a1)] zB ?_
  refine zFl (yP.ok a2 a3 q _ (fun v26=>J_j ?_) (a1,x4,w64 (x4+1)))
  refine zA (fun x27 h28=>?_)
  refine zA (fun x29 h30=>?_)
  refine J_g 62 [] [(0,rr 2 v26.1),(5,iv v26.2)] [(0,.box (zF.enc false a2)),(1,.box [sl 8 (Pack.enc false) a3]),(2,rE 1 zG x29)] (zC 2 (zR5 39 2 1 2 zG (.tmp 36) (some (.tmp 37)) none h28) (zGY 3 (zRz (l:=v26.2) (a:=0) 39 2 1 2 zG (.tmp 38) h30 (.keep rfl (.nil))) zB)) ?_
  refine zFJ (σ':=St.mk' [(0,rr 2 x29),(5,iv v26.2)] [(0,.box (zF.enc false a2)),(1,.box [sl 8 (Pack.enc false) a3]),(2,rE 1 zG x29)]) (by simp only [rr,zM4 h30]) ?_
  refine zA (fun x31 h32=>?_)
  refine J_g 126 [] [(4,rr 3 x31)] [(0,.box (zF.enc false a2)),(1,.box [sl 8 (Pack.enc false) a3]),(3,rE 1 zG x31)] (zC 2 (zPs 39 2 1 2 3 zG (.tmp 39) none (some (.tmp 40)) h32) zB) ?_
  exact zD5 (ds:=[rr 3 x31]) (ds':=[so 1 zG x31]) (.cons (.cell (.move (.tail _ (.tail _ (.head _))) (List.length_map _) (by decide) (.nil))) (.nil) (by decide)) rfl
noncomputable def zTu:Code:=(Tryz.f178.body).getD .skip
theorem wV.ok (a1:(List Int)) (a2:zF) (a3:(List Pack)):Ok Tryz.prog 178 [sl 1 zG a1,.fn 179 [pp 0,pp 1]] [.box (zF.enc false a2),.box [sl 8 (Pack.enc false) a3]] ((wV a1 a2 a3).map fun r=>(so 1 zG r,[.box (zF.enc false a2),.box [sl 8 (Pack.enc false) a3]])):=by
 refine zH zTu Tryz.f178 2 9 (fun q=>?_)
 unfold wV
 refine J_g 2 [] [(0,sl 1 zG a1),(3,.pb [.fn 179 [pp 0,pp 1]])] [(0,.box (zF.enc false a2)),(1,.box [sl 8 (Pack.enc false) a3])] (zC 0 (zMi 174 (.tmp 1) (.fn 179 [pp 0,pp 1])) zB) ?_
 refine zA (fun x4 h5=>?_)
 refine zA (fun x6 h7=>?_)
 refine J_g 6 [] [(4,rr 3 x6)] [(0,.box (zF.enc false a2)),(1,.box [sl 8 (Pack.enc false) a3]),(3,rE 1 zG x6)] (zC 1 (uH («as»:=[sl 1 zG a1]) [(.tmp 5)] [39] false [] [] (.cons (.same rfl) (.nil)) (uT.ok a1) h5 (.own 2)) (zC 3 (uH («as»:=[rr 2 x4,.fn 251 [.pb [.fn 179 [pp 0,pp 1]]]]) [(.tmp 6),(.tmp 7)] [39,174] false [(0,.box (zF.enc false a2)),(1,.box [sl 8 (Pack.enc false) a3]),(2,rE 1 zG x4)] [0,1,2] (.cons (.rf rfl) (.cons (.fn (.cons (.pb (.cons (.fn (.cons (.pt rfl) (.cons (.pt rfl) (.nil)))) (.nil))) (.nil))) (.nil))) (zT.ok x4 a2 a3) h7 (.own 3)) zB)) ?_
 exact zD5 (ds:=[rr 3 x6]) (ds':=[so 1 zG x6]) (.cons (.cell (.move (.tail _ (.tail _ (.head _))) (List.length_map _) (by decide) (.nil))) (.nil) (by decide)) rfl
noncomputable def zTg:Code:=(Tryz.f103.body).getD .skip
theorem zCU.ok (a1:(List Pack)) (a2:zF) (a3:(List Int)):Ok Tryz.prog 103 [sl 8 (Pack.enc false) a1,.ag (zF.enc false a2),sl 1 zG a3] [] ((zCU a1 a2 a3).map fun r=>(so 1 zG r,[])):=by
 refine zH zTg Tryz.f103 0 10 (fun q=>?_)
 unfold zCU
 refine J_g 2 [(0,0),(1,1)] [(2,sl 1 zG a3),(3,pp 0),(4,pp 1)] [(0,.box [sl 8 (Pack.enc false) a1]),(1,.box (zF.enc false a2))] zB ?_
 refine zA (fun x4 h5=>?_)
 refine J_g 6 [] [(6,rr 2 x4)] [(2,rE 1 zG x4)] (zC 2 (zJ2 [(1,.box (zF.enc false a2)),(0,.box [sl 8 (Pack.enc false) a1])] [(2,rE 1 zG x4)] (uH («as»:=[sl 1 zG a3,.fn 179 [pp 1,pp 0]]) [(.tmp 7),(.tmp 8)] [39,174] false [(1,.box (zF.enc false a2)),(0,.box [sl 8 (Pack.enc false) a1])] [1,0] (.cons (.same rfl) (.cons (.fn (.cons (.pt rfl) (.cons (.pt rfl) (.nil)))) (.nil))) (wV.ok a3 a2 a1) h5 (.own 2))) zB) ?_
 exact zD5 (ds:=[rr 2 x4]) (ds':=[so 1 zG x4]) (.cons (.cell (.move (.head _) (List.length_map _) (by decide) (.nil))) (.nil) (by decide)) rfl
noncomputable def c49:Code:=(Tryz.f49.body).getD .skip
theorem zC9.ok (a1:(List Pack)) (a2:zF) (a3:(List Int)):Ok Tryz.prog 49 [sl 8 (Pack.enc false) a1,.ag (zF.enc false a2),sl 1 zG a3] [] ((zC9 a1 a2 a3).map fun r=>(bv r,[])):=by
 refine zH c49 Tryz.f49 0 18 (fun q=>?_)
 unfold zC9
 refine J_g 2 [(0,0)] [(0,sl 8 (Pack.enc false) a1),(2,sl 1 zG a3),(4,pp 0)] [(0,.box (zF.enc false a2))] zB ?_
 refine zA (fun x4 h5=>?_)
 refine wN (fun h6=>?_) (fun h6=>?_)
 ·refine zA (fun x7 h8=>?_)
  refine J_g 6 [] [(6,bv ((x7.length:Int)==0))] [] (zC 2 (xO [(.tmp 7),(.tmp 8)] [30,39] (tO.ok a1 a3) h5) (wF 3 [(9,bv x4)] [] h6 (zAR 7 3 10 true (uH («as»:=[sl 8 (Pack.enc false) a1,.ag (zF.enc false a2),sl 1 zG a3]) [(.tmp 11),(.tmp 12),(.tmp 13)] [30,33,39] false [] [] (.cons (.same rfl) (.cons (.same rfl) (.cons (.same rfl) (.nil)))) (zCU.ok a1 a2 a3) h8 (.own 1)) zB))) ?_
  exact zR rfl
 ·refine J_g 6 [] [(6,bv false)] [] (zC 2 (xO [(.tmp 7),(.tmp 8)] [30,39] (tO.ok a1 a3) h5) (wF 3 [(9,bv x4)] [] h6 zB)) ?_
  exact zR rfl
noncomputable def zTp:Code:=(Tryz.f185.body).getD .skip
theorem zEn.ok (a1:ByteArray):Ok Tryz.prog 185 [sv a1] [] ((zEn a1).map fun r=>(.ag (Term.enc r),[])):=by
 refine zH zTp Tryz.f185 0 6 (fun q=>?_)
 unfold zEn
 refine J_g 2 [(0,0)] [(0,sv a1),(2,pp 0)] [(0,.box [sv ByteArray.empty,iv 0,iv 0,iv 0,iv 0,iv 0,iv 0])] zB ?_
 refine zA (fun x2 h3=>?_)
 refine J_g 6 [] [(2,pp 0)] [(0,.box [sv a1,iv 0,iv 0,iv 0,iv x2.A,iv x2.B,iv x2.C])] (zC 1 (xO [] [] (zDq.ok) h3) zB) ?_
 exact zR rfl
noncomputable def zSI:Code:=(Tryz.f255.body).getD .skip
theorem wE.ok (a1:ByteArray) (a2:ByteArray):Ok Tryz.prog 255 [sv a1,sv a2] [] ((wE a1 a2).map fun r=>(.tu [sv r.1,bv r.2],[])):=by
 refine zH zSI Tryz.f255 0 15 (fun q=>?_)
 unfold wE
 refine J_g 2 [] [(0,sv a1),(1,sv a2)] [] zB ?_
 refine zA (fun x3 h4=>?_)
 refine J_g 12 [] [(0,sv a1),(1,sv a2),(9,bv (!x3))] [] (zC 2 (xO [(.tmp 6),(.tmp 7)] [9,9] (yM.ok a1 a2) h4) zB) ?_
 refine zD 9 (fun h5=>?_) (fun h5=>?_)
 ·refine J_g 52 [] [(4,sv a1),(5,bv false)] [] zB ?_
  exact zNA rfl
 ·refine zA (fun x6 h7=>?_)
  refine J_g 14 [] [(4,sv x6),(5,bv true)] [] (zC 3 (zKW 9 (.tmp 11) (some (.tmp 13)) none h7) zB) ?_
  exact zNA rfl
noncomputable def zS5:Code:=(Tryz.f187.body).getD .skip
theorem strings_CutPrefix.ok (a1:ByteArray) (a2:ByteArray):Ok Tryz.prog 187 [sv a1,sv a2] [] ((strings_CutPrefix a1 a2).map fun r=>(.tu [sv r.1,bv r.2],[])):=by
 refine zH zS5 Tryz.f187 0 11 (fun q=>?_)
 unfold strings_CutPrefix
 refine J_g 2 [] [(0,sv a1),(1,sv a2)] [] zB ?_
 refine zA (fun x3 h4=>?_)
 refine J_g 6 [] [(4,sv x3.1),(5,bv x3.2)] [] (zC 2 (xO [(.tmp 6),(.tmp 7)] [9,9] (wE.ok a1 a2) h4) zB) ?_
 exact zNA rfl
theorem strings_IndexByte.ok (a1:ByteArray) (a2:Int):Ok Tryz.prog 188 [sv a1,uv a2] [] ((strings_IndexByte a1 a2).map fun r=>(iv r,[])):=
 zRy (vs:=[.string a1,.int .u8 a2]) (fun w=>Tryz.strings_IndexByte a1 a2 w)
noncomputable def zPq:Code:=(Tryz.f106.body).getD .skip
theorem kQ.ok (a1:ByteArray) (q:Wd) (kn:Int→Option (D×List Ent)) (hk:∀v:Int,J (q.g Tryz.prog 106 0 90) zPq (atI zPq 15) (St.mk' [(0,sv a1),(2,pp 0),(3,iv v)] [(0,.box [iv 0,sv ByteArray.empty,iv 0,iv 0,iv 0,iv 0,iv 0,iv 0])]) (some v) kn):
  ∀s9:Int,J (q.g Tryz.prog 106 0 90) zPq (atI zPq 56) (St.mk' [(0,sv a1),(2,pp 0),(3,iv s9)] [(0,.box [iv 0,sv ByteArray.empty,iv 0,iv 0,iv 0,iv 0,iv 0,iv 0])]) (kQ a1 s9) kn:=by
 refine jJ (fun g ih s9=>?_)
 unfold zCn
 refine wD (atI zPq 225) (fun v15:Bool=>St.mk' [(0,sv a1),(2,pp 0),(3,iv s9),(23,bv v15)] [(0,.box [iv 0,sv ByteArray.empty,iv 0,iv 0,iv 0,iv 0,iv 0,iv 0])]) (fun v15=>?_) (fun jv15=>?_)
 ·refine zD 23 (fun h16=>?_) (fun h16=>?_)
  ·refine J_g 226 [] [(0,sv a1),(2,pp 0),(3,iv (w64 (s9+1)))] [(0,.box [iv 0,sv ByteArray.empty,iv 0,iv 0,iv 0,iv 0,iv 0,iv 0])] zB ?_
   exact J_q (J_b (ih (w64 (s9+1)))) rfl
  ·exact xB (hk s9) rfl
 ·refine wN (fun h10=>?_) (fun h10=>?_)
  ·refine zA (fun x11 h12=>?_)
   refine zA (fun x13 h14=>?_)
   refine J_g 224 [] [(0,sv a1),(2,pp 0),(3,iv s9),(23,bv x13)] [(0,.box [iv 0,sv ByteArray.empty,iv 0,iv 0,iv 0,iv 0,iv 0,iv 0])] (wF 4 [(17,bv (decide (s9< (a1.size:Int))))] [] h10 (zAR 7 4 18 true (zJr (kk:=.i64) 9 (.tmp 19) (.tmp 20) h12) (zAR 8 4 18 true (xO [(.tmp 21)] [5] (xY.ok x11) h14) zB))) ?_
   exact xB (J_j (jv15 x13)) rfl
  ·refine J_g 224 [] [(0,sv a1),(2,pp 0),(3,iv s9),(23,bv false)] [(0,.box [iv 0,sv ByteArray.empty,iv 0,iv 0,iv 0,iv 0,iv 0,iv 0])] (wF 4 [(17,bv (decide (s9< (a1.size:Int))))] [] h10 zB) ?_
   exact xB (J_j (jv15 false)) rfl
theorem zAS.ok (a1:ByteArray):Ok Tryz.prog 106 [sv a1] [] ((zAS a1).map fun r=>(.ag (yK.enc r),[])):=by
 refine zH zPq Tryz.f106 0 90 (fun q=>?_)
 unfold zAS
 refine J_g 2 [(0,0)] [(0,sv a1),(2,pp 0)] [(0,.box [iv 0,sv ByteArray.empty,iv 0,iv 0,iv 0,iv 0,iv 0,iv 0])] zB ?_
 refine J_g 6 [] [(0,sv a1),(2,pp 0),(3,iv 0)] [(0,.box [iv 0,sv ByteArray.empty,iv 0,iv 0,iv 0,iv 0,iv 0,iv 0])] zB ?_
 refine zFl (kQ.ok a1 q _ (fun v17=>J_j ?_) 0)
 refine zA (fun x18 h19=>?_)
 refine zA (fun x20 h21=>?_)
 refine J_g 30 [(4,1)] [(0,sv a1),(2,pp 0),(3,iv v17),(4,pp 1)] [(0,.box [iv 0,sv ByteArray.empty,iv 0,iv 0,iv 0,iv 0,iv 0,iv 0]),(1,.box (Term.enc x20))] (zC 2 (zKW 9 (.tmp 26) none (some (.tmp 27)) h19) (zC 3 (xO [(.tmp 28)] [9] (zEn.ok x18) h21) zB)) ?_
 refine zA (fun x22 h23=>?_)
 refine J_g 62 [] [(2,pp 0),(4,pp 1),(5,sv x22)] [(0,.box [iv 0,sv ByteArray.empty,iv 0,iv 0,iv 0,iv 0,iv 0,iv 0]),(1,.box (Term.enc x20))] (zC 2 (zKW 9 (.tmp 30) (some (.tmp 31)) none h23) zB) ?_
 refine zA (fun x24 h25=>?_)
 refine J_g 252 [] [(2,pp 0),(4,pp 1),(5,sv x22),(36,bv (x24 !=0))] [(0,.box [iv 0,sv ByteArray.empty,iv 0,iv 0,iv 0,iv 0,iv 0,iv 0]),(1,.box (Term.enc x20))] (zC 2 (xO [(.tmp 34)] [9] (wW.ok x20.Name) h25) zB) ?_
 refine zD 36 (fun h26=>?_) (fun h26=>?_)
 ·refine J_g 1012 [] [(2,pp 0)] [(0,.box [iv 5,sv ByteArray.empty,iv 0,iv 0,iv 0,iv 0,iv 0,iv 0])] zB ?_
  exact zR rfl
 ·refine zA (fun x27 h28=>?_)
  refine J_g 508 [] [(2,pp 0),(4,pp 1),(5,sv x22),(6,sv x27.1),(7,bv x27.2)] [(0,.box [iv 0,sv ByteArray.empty,iv 0,iv 0,iv 0,iv 0,iv 0,iv 0]),(1,.box (Term.enc x20))] (zC 1 (xO [(.tmp 39),(.const (.string (bs [62,61])))] [9,9] (strings_CutPrefix.ok x22 (bs [62,61])) h28) zB) ?_
  refine J_g 1018 [] [(2,pp 0),(4,pp 1),(5,sv x22),(6,sv x27.1),(43,bv x27.2)] [(0,.box [iv 0,sv ByteArray.empty,iv 0,iv 0,iv 0,iv 0,iv 0,iv 0]),(1,.box (Term.enc x20))] zB ?_
  refine zJI (atI zPq 255) (fun v41:(Int×Int×Int×ByteArray)=>St.mk' [(2,pp 0),(4,pp 1),(5,sv v41.2.2.2)] [(0,.box [iv 0,sv ByteArray.empty,iv 0,iv 0,iv 0,iv 0,iv 0,iv 0]),(1,.box [sv x20.Name,iv v41.1,iv v41.2.1,iv v41.2.2.1,iv x20.High.A,iv x20.High.B,iv x20.High.C])]) (fun v41=>?_) (fun jv41=>?_)
  ·refine zA (fun x42 h43=>?_)
   refine J_g 1020 [] [(2,pp 0),(4,pp 1),(5,sv v41.2.2.2),(10,sv x42.1),(11,bv x42.2)] [(0,.box [iv 0,sv ByteArray.empty,iv 0,iv 0,iv 0,iv 0,iv 0,iv 0]),(1,.box [sv x20.Name,iv v41.1,iv v41.2.1,iv v41.2.2.1,iv x20.High.A,iv x20.High.B,iv x20.High.C])] (zC 1 (xO [(.tmp 65),(.const (.string (bs [60])))] [9,9] (strings_CutPrefix.ok v41.2.2.2 (bs [60])) h43) zB) ?_
   refine J_g 2042 [] [(2,pp 0),(4,pp 1),(5,sv v41.2.2.2),(10,sv x42.1),(69,bv x42.2)] [(0,.box [iv 0,sv ByteArray.empty,iv 0,iv 0,iv 0,iv 0,iv 0,iv 0]),(1,.box [sv x20.Name,iv v41.1,iv v41.2.1,iv v41.2.2.1,iv x20.High.A,iv x20.High.B,iv x20.High.C])] zB ?_
   refine zJI (atI zPq 511) (fun v48:(Int×Int×Int×ByteArray)=>St.mk' [(2,pp 0),(4,pp 1),(5,sv v48.2.2.2)] [(0,.box [iv 0,sv ByteArray.empty,iv 0,iv 0,iv 0,iv 0,iv 0,iv 0]),(1,.box [sv x20.Name,iv v41.1,iv v41.2.1,iv v41.2.2.1,iv v48.1,iv v48.2.1,iv v48.2.2.1])]) (fun v48=>?_) (fun jv48=>?_)
   ·refine J_g 2044 [] [(2,pp 0),(4,pp 1),(80,bv (!(seq v48.2.2.2 (bs []))))] [(0,.box [iv 0,sv ByteArray.empty,iv 0,iv 0,iv 0,iv 0,iv 0,iv 0]),(1,.box [sv x20.Name,iv v41.1,iv v41.2.1,iv v41.2.2.1,iv v48.1,iv v48.2.1,iv v48.2.2.1])] zB ?_
    refine zD 80 (fun h49=>?_) (fun h49=>?_)
    ·refine J_g 8180 [] [(2,pp 0)] [(0,.box [iv 5,sv ByteArray.empty,iv 0,iv 0,iv 0,iv 0,iv 0,iv 0])] zB ?_
     exact zR rfl
    ·refine zA (fun x50 h51=>?_)
     refine J_g 4092 [] [(2,pp 0),(4,pp 1),(13,iv x50)] [(0,.box [iv 0,sv ByteArray.empty,iv 0,iv 0,iv 0,iv 0,iv 0,iv 0]),(1,.box [sv x20.Name,iv v41.1,iv v41.2.1,iv v41.2.2.1,iv v48.1,iv v48.2.1,iv v48.2.2.1])] (zC 1 (xO [(.tmp 82)] [149] (vB.ok ({Name:=x20.Name,Low:=({A:=v41.1,B:=v41.2.1,C:=v41.2.2.1}:Version),High:=({A:=v48.1,B:=v48.2.1,C:=v48.2.2.1}:Version)}:Term)) h51) zB) ?_
     refine J_g 8186 [] [(2,pp 0),(4,pp 1),(13,iv x50),(85,bv (x50 !=0))] [(0,.box [iv 0,sv ByteArray.empty,iv 0,iv 0,iv 0,iv 0,iv 0,iv 0]),(1,.box [sv x20.Name,iv v41.1,iv v41.2.1,iv v41.2.2.1,iv v48.1,iv v48.2.1,iv v48.2.2.1])] zB ?_
     refine zD 85 (fun h52=>?_) (fun h52=>?_)
     ·refine J_g 32748 [] [(2,pp 0)] [(0,.box [iv x50,sv ByteArray.empty,iv 0,iv 0,iv 0,iv 0,iv 0,iv 0])] zB ?_
      exact zR rfl
     ·refine J_g 4094 [] [(2,pp 0)] [(0,.box [iv 0,sv x20.Name,iv v41.1,iv v41.2.1,iv v41.2.2.1,iv v48.1,iv v48.2.1,iv v48.2.2.1])] zB ?_
      exact zR rfl
   ·refine zD 69 (fun h44=>?_) (fun h44=>?_)
    ·refine zA (fun x45 h46=>?_)
     refine J_g 8172 [(2,2)] [(2,pp 0),(4,pp 1),(12,pp 2)] [(0,.box [iv 0,sv ByteArray.empty,iv 0,iv 0,iv 0,iv 0,iv 0,iv 0]),(1,.box [sv x20.Name,iv v41.1,iv v41.2.1,iv v41.2.2.1,iv x20.High.A,iv x20.High.B,iv x20.High.C]),(2,.box (zL.enc x45))] (zC 1 (xO [(.tmp 70)] [9] (wL.ok x42.1) h46) zB) ?_
     refine J_g 32692 [] [(2,pp 0),(4,pp 1),(12,pp 2),(74,bv (x45.Code !=0))] [(0,.box [iv 0,sv ByteArray.empty,iv 0,iv 0,iv 0,iv 0,iv 0,iv 0]),(1,.box [sv x20.Name,iv v41.1,iv v41.2.1,iv v41.2.2.1,iv x20.High.A,iv x20.High.B,iv x20.High.C]),(2,.box (zL.enc x45))] zB ?_
     refine zD 74 (fun h47=>?_) (fun h47=>?_)
     ·refine J_g 130772 [] [(2,pp 0)] [(0,.box [iv 5,sv ByteArray.empty,iv 0,iv 0,iv 0,iv 0,iv 0,iv 0])] zB ?_
      exact zR rfl
     ·refine J_g 16347 [] [(2,pp 0),(4,pp 1),(5,sv (bs []))] [(0,.box [iv 0,sv ByteArray.empty,iv 0,iv 0,iv 0,iv 0,iv 0,iv 0]),(1,.box [sv x20.Name,iv v41.1,iv v41.2.1,iv v41.2.2.1,iv x45.Version.A,iv x45.Version.B,iv x45.Version.C])] zB ?_
      exact xB (J_j (jv48 (x45.Version.A,x45.Version.B,x45.Version.C,bs []))) rfl
    ·exact xB (J_j (jv48 (x20.High.A,x20.High.B,x20.High.C,v41.2.2.2))) rfl
  ·refine zD 43 (fun h29=>?_) (fun h29=>?_)
   ·refine zA (fun x30 h31=>?_)
    refine J_g 4076 [] [(2,pp 0),(4,pp 1),(6,sv x27.1),(8,iv x30)] [(0,.box [iv 0,sv ByteArray.empty,iv 0,iv 0,iv 0,iv 0,iv 0,iv 0]),(1,.box (Term.enc x20))] (zC 1 (xO [(.tmp 44),(.const (.int .u8 60))] [9,5] (strings_IndexByte.ok x27.1 60) h31) zB) ?_
    refine J_g 16308 [] [(2,pp 0),(4,pp 1),(6,sv x27.1),(8,iv x30),(47,bv (decide (x30<0)))] [(0,.box [iv 0,sv ByteArray.empty,iv 0,iv 0,iv 0,iv 0,iv 0,iv 0]),(1,.box (Term.enc x20))] zB ?_
    refine wD (atI zPq 8155) (fun v33:Int=>St.mk' [(2,pp 0),(4,pp 1),(6,sv x27.1),(8,iv v33)] [(0,.box [iv 0,sv ByteArray.empty,iv 0,iv 0,iv 0,iv 0,iv 0,iv 0]),(1,.box (Term.enc x20))]) (fun v33=>?_) (fun jv33=>?_)
    ·refine zA (fun x34 h35=>?_)
     refine zA (fun x36 h37=>?_)
     refine J_g 16310 [(4,2)] [(2,pp 0),(4,pp 1),(6,sv x27.1),(8,iv v33),(9,pp 2)] [(0,.box [iv 0,sv ByteArray.empty,iv 0,iv 0,iv 0,iv 0,iv 0,iv 0]),(1,.box (Term.enc x20)),(2,.box (zL.enc x36))] (zC 2 (zKW 9 (.tmp 50) none (some (.tmp 51)) h35) (zC 3 (xO [(.tmp 52)] [9] (wL.ok x34) h37) zB)) ?_
     refine J_g 65244 [] [(2,pp 0),(4,pp 1),(6,sv x27.1),(8,iv v33),(9,pp 2),(56,bv (x36.Code !=0))] [(0,.box [iv 0,sv ByteArray.empty,iv 0,iv 0,iv 0,iv 0,iv 0,iv 0]),(1,.box (Term.enc x20)),(2,.box (zL.enc x36))] zB ?_
     refine zD 56 (fun h38=>?_) (fun h38=>?_)
     ·refine J_g 260980 [] [(2,pp 0)] [(0,.box [iv 5,sv ByteArray.empty,iv 0,iv 0,iv 0,iv 0,iv 0,iv 0])] zB ?_
      exact zR rfl
     ·refine zA (fun x39 h40=>?_)
      refine J_g 32623 [] [(2,pp 0),(4,pp 1),(5,sv x39)] [(0,.box [iv 0,sv ByteArray.empty,iv 0,iv 0,iv 0,iv 0,iv 0,iv 0]),(1,.box [sv x20.Name,iv x36.Version.A,iv x36.Version.B,iv x36.Version.C,iv x20.High.A,iv x20.High.B,iv x20.High.C])] (zC 4 (zKW 9 (.tmp 60) (some (.tmp 61)) none h40) zB) ?_
      exact xB (J_j (jv41 (x36.Version.A,x36.Version.B,x36.Version.C,x39))) rfl
    ·refine zD 47 (fun h32=>?_) (fun h32=>?_)
     ·refine J_g 32618 [] [(2,pp 0),(4,pp 1),(6,sv x27.1),(8,iv (x27.1.size:Int))] [(0,.box [iv 0,sv ByteArray.empty,iv 0,iv 0,iv 0,iv 0,iv 0,iv 0]),(1,.box (Term.enc x20))] zB ?_
      exact xB (J_j (jv33 (x27.1.size:Int))) rfl
     ·exact xB (J_j (jv33 x30)) rfl
   ·exact xB (J_j (jv41 (x20.Low.A,x20.Low.B,x20.Low.C,x22))) rfl
noncomputable def zSk:Code:=(Tryz.f192.body).getD .skip
theorem zAa.ok (a1:Term):Ok Tryz.prog 192 [.ag (Term.enc a1)] [] ((zAa a1).map fun r=>(sv r,[])):=by
 refine zH zSk Tryz.f192 0 30 (fun q=>?_)
 unfold zAa
 refine J_g 2 [(0,0)] [(1,pp 0)] [(0,.box (Term.enc a1))] zB ?_
 refine zA (fun x2 h3=>?_)
 refine J_g 12 [] [(1,pp 0),(6,bv (x2 !=0))] [(0,.box (Term.enc a1))] (zC 1 (xO [(.tmp 4)] [149] (vB.ok a1) h3) zB) ?_
 refine zD 6 (fun h4=>?_) (fun h4=>?_)
 ·refine J_g 52 [] [(2,sv (bs []))] [] zB ?_
  exact zR rfl
 ·refine J_g 14 [] [(1,pp 0),(3,sv a1.Name)] [(0,.box (Term.enc a1))] zB ?_
  refine J_g 60 [] [(1,pp 0),(3,sv a1.Name),(12,bv (!(a1.Low.A==0&&(a1.Low.B==0&&(a1.Low.C==0&&true)))))] [(0,.box (Term.enc a1))] (zC 3 (zKo (b:=.neq) (r:=(a1.Low.A==0&&(a1.Low.B==0&&(a1.Low.C==0&&true)))) 99 99 (.tmp 10) (.tmp 11) [.int .i64 a1.Low.A,.int .i64 a1.Low.B,.int .i64 a1.Low.C] [.int .i64 0,.int .i64 0,.int .i64 0] (.inr ⟨rfl,rfl⟩)) zB) ?_
  refine wD (atI zSk 31) (fun v12:ByteArray=>St.mk' [(1,pp 0),(3,sv v12)] [(0,.box (Term.enc a1))]) (fun v12=>?_) (fun jv12=>?_)
  ·refine zA (fun x13 h14=>?_)
   refine J_g 124 [] [(1,pp 0),(3,sv v12),(22,bv (!(a1.High.A==x13.A&&(a1.High.B==x13.B&&(a1.High.C==x13.C&&true)))))] [(0,.box (Term.enc a1))] (zC 2 (xO [] [] (zDq.ok) h14) (zC 3 (zKo (b:=.neq) (r:=(a1.High.A==x13.A&&(a1.High.B==x13.B&&(a1.High.C==x13.C&&true)))) 99 99 (.tmp 20) (.tmp 21) [.int .i64 a1.High.A,.int .i64 a1.High.B,.int .i64 a1.High.C] [.int .i64 x13.A,.int .i64 x13.B,.int .i64 x13.C] (.inr ⟨rfl,rfl⟩)) zB)) ?_
   refine wD (atI zSk 63) (fun v22:ByteArray=>St.mk' [(3,sv v22)] []) (fun v22=>?_) (fun jv22=>?_)
   ·refine J_g 126 [] [(2,sv v22)] [] zB ?_
    exact zR rfl
   ·refine zD 22 (fun h15=>?_) (fun h15=>?_)
    ·refine zA (fun x16 h17=>?_)
     refine zA (fun x18 h19=>?_)
     refine zA (fun x20 h21=>?_)
     refine J_g 250 [] [(3,sv x20)] [] (zC 3 (xO [(.tmp 25)] [99] (xZ.ok a1.High) h17) (zC 4 (zD8 9 9 (.const (.string (bs [60]))) (.tmp 26) h19) (zC 5 (zD8 9 9 (.tmp 23) (.tmp 27) h21) zB))) ?_
     exact xB (J_j (jv22 x20)) rfl
    ·exact xB (J_j (jv22 v12)) rfl
  ·refine zD 12 (fun h5=>?_) (fun h5=>?_)
   ·refine zA (fun x6 h7=>?_)
    refine zA (fun x8 h9=>?_)
    refine zA (fun x10 h11=>?_)
    refine J_g 122 [] [(1,pp 0),(3,sv x10)] [(0,.box (Term.enc a1))] (zC 3 (xO [(.tmp 15)] [99] (xZ.ok a1.Low) h7) (zC 4 (zD8 9 9 (.const (.string (bs [62,61]))) (.tmp 16) h9) (zC 5 (zD8 9 9 (.tmp 13) (.tmp 17) h11) zB))) ?_
    exact xB (J_j (jv12 x10)) rfl
   ·exact xB (J_j (jv12 a1.Name)) rfl
noncomputable def c107:Code:=(Tryz.f107.body).getD .skip
theorem zB0.ok (a1:(List Term)) (q:Wd) (kn:ByteArray→Option (D×List Ent)) (hk:∀v:ByteArray,J (q.g Tryz.prog 107 0 22) c107 (atI c107 31) (St.mk' [(3,sv v)] []) (some v) kn):
  ∀s14:(ByteArray×Int),J (q.g Tryz.prog 107 0 22) c107 (atI c107 244) (St.mk' [(3,sv s14.1),(9,sl 7 Term.enc a1),(10,iv (a1.length:Int)),(11,iv s14.2)] []) (zB0 a1 s14) kn:=by
 refine jJ (fun g ih s14=>?_)
 unfold zAL
 refine J_g 488 [] [(3,sv s14.1),(9,sl 7 Term.enc a1),(10,iv (a1.length:Int)),(11,iv s14.2),(12,bv (decide (s14.2< (a1.length:Int))))] [] zB ?_
 refine zD 12 (fun h15=>?_) (fun h15=>?_)
 ·refine zA (fun x16 h17=>?_)
  refine J_g 7832 [(2,0)] [(3,sv s14.1),(5,pp 0),(9,sl 7 Term.enc a1),(10,iv (a1.length:Int)),(11,iv s14.2)] [(0,.box (Term.enc x16))] (zC 0 (uN (kk:=.i64) 75 149 7 Term.enc (.tmp 9) (.tmp 11) h17) zB) ?_
  refine zA (fun x18 h19=>?_)
  refine zA (fun x20 h21=>?_)
  refine zA (fun x22 h23=>?_)
  refine J_g 7833 [] [(3,sv x22),(9,sl 7 Term.enc a1),(10,iv (a1.length:Int)),(11,iv s14.2)] [] (zC 2 (xO [(.tmp 16)] [149] (zAa.ok x16) h19) (zC 3 (zD8 9 9 (.tmp 17) (.const (.string (bs [10]))) h21) (zC 4 (zD8 9 9 (.tmp 15) (.tmp 18) h23) zB))) ?_
  refine J_g 1959 [] [(3,sv x22),(9,sl 7 Term.enc a1),(10,iv (a1.length:Int)),(11,iv (w64 (s14.2+1)))] [] zB ?_
  exact J_q (J_b (ih (x22,w64 (s14.2+1)))) rfl
 ·exact xB (hk s14.1) rfl
theorem vU.ok (a1:(List Term)):Ok Tryz.prog 107 [sl 7 Term.enc a1] [] ((vU a1).map fun r=>(sv r,[])):=by
 refine zH c107 Tryz.f107 0 22 (fun q=>?_)
 unfold vU
 refine J_g 2 [] [(0,sl 7 Term.enc a1)] [] zB ?_
 refine zA (fun x2 h3=>?_)
 refine J_g 12 [] [(0,sl 7 Term.enc a1),(8,bv (x2 !=0))] [] (zC 1 (xO [(.tmp 6)] [75] (wT.ok a1) h3) zB) ?_
 refine zD 8 (fun h4=>?_) (fun h4=>?_)
 ·refine J_g 52 [] [(2,sv (bs []))] [] zB ?_
  exact zR rfl
 ·refine J_g 14 [] [(0,sl 7 Term.enc a1),(3,sv (bs []))] [] zB ?_
  refine J_g 60 [] [(3,sv (bs [])),(9,sl 7 Term.enc a1),(10,iv (a1.length:Int)),(11,iv 0)] [] zB ?_
  refine zFl (zB0.ok a1 q _ (fun v24=>J_j ?_) (bs [],0))
  refine J_g 62 [] [(2,sv v24)] [] zB ?_
  exact zR rfl
noncomputable def c194:Code:=(Tryz.f194.body).getD .skip
theorem zBm.ok (a1:Term) (a2:Term):Ok Tryz.prog 194 [.ag (Term.enc a1),pp 0] [.box (Term.enc a2)] ((zBm a1 a2).map fun r=>(bv r,[.box (Term.enc a2)])):=by
 refine zH c194 Tryz.f194 1 9 (fun q=>?_)
 unfold zBm
 refine J_g 2 [(0,1)] [(1,pp 0),(2,pp 1)] [(0,.box (Term.enc a2)),(1,.box (Term.enc a1))] zB ?_
 refine J_g 6 [] [(3,bv (seq a1.Name a2.Name))] [(0,.box (Term.enc a2))] zB ?_
 exact zR rfl
theorem yY.ok (a1:(List Term)) (a2:Term) (q:Wd) (kn:Unit→Option (D×List Ent)) (hk:∀v:Unit,J (q.g Tryz.prog 258 1 19) zON (atI zON 7) (St.mk' [] [(0,.box (Term.enc a2))]) (some v) kn):
  ∀s9:Int,J (q.g Tryz.prog 258 1 19) zON (atI zON 52) (St.mk' [(0,sl 7 Term.enc a1),(1,.fn 194 [pp 0]),(7,iv (a1.length:Int)),(8,iv s9)] [(0,.box (Term.enc a2))]) (yY a1 a2 s9) (Fl.go (fun r:Int=>some (iv r,[.box (Term.enc a2)])) kn):=by
 refine jJ (fun g ih s9=>?_)
 unfold yX
 refine J_g 104 [] [(0,sl 7 Term.enc a1),(1,.fn 194 [pp 0]),(7,iv (a1.length:Int)),(8,iv s9),(9,bv (decide (s9< (a1.length:Int))))] [(0,.box (Term.enc a2))] zB ?_
 refine zD 9 (fun h10=>?_) (fun h10=>?_)
 ·refine J_g 1688 [] [(0,sl 7 Term.enc a1),(1,.fn 194 [pp 0]),(5,iv s9),(7,iv (a1.length:Int)),(8,iv s9)] [(0,.box (Term.enc a2))] zB ?_
  refine zA (fun x11 h12=>?_)
  refine zA (fun x13 h14=>?_)
  refine J_g 3378 [] [(0,sl 7 Term.enc a1),(1,.fn 194 [pp 0]),(5,iv s9),(7,iv (a1.length:Int)),(8,iv s9),(16,bv x13)] [(0,.box (Term.enc a2))] (zC 3 (uN (kk:=.i64) 75 149 7 Term.enc (.tmp 12) (.tmp 13) h12) (zC 5 (zJ2 [(0,.box (Term.enc a2))] [] (zKB 11 [(.tmp 15)] [149] false [(0,.box (Term.enc a2))] [0] [.ag (Term.enc x11)] [pp 0] (.cons (.same rfl) (.cons (.pt rfl) (.nil))) (zBm.ok x11 a2) h14 (.same rfl rfl))) zB)) ?_
  refine zD 16 (fun h15=>?_) (fun h15=>?_)
  ·refine J_g 13516 [] [(4,iv s9)] [(0,.box (Term.enc a2))] zB ?_
   exact zR rfl
  ·refine J_g 423 [] [(0,sl 7 Term.enc a1),(1,.fn 194 [pp 0]),(7,iv (a1.length:Int)),(8,iv (w64 (s9+1)))] [(0,.box (Term.enc a2))] zB ?_
   exact J_q (J_b (ih (w64 (s9+1)))) rfl
 ·exact xB (hk ()) rfl
theorem yI.ok (a1:(List Term)) (a2:Term):Ok Tryz.prog 258 [sl 7 Term.enc a1,.fn 194 [pp 0]] [.box (Term.enc a2)] ((yI a1 a2).map fun r=>(iv r,[.box (Term.enc a2)])):=by
 refine zH zON Tryz.f258 1 19 (fun q=>?_)
 unfold yI
 refine J_g 2 [] [(0,sl 7 Term.enc a1),(1,.fn 194 [pp 0])] [(0,.box (Term.enc a2))] zB ?_
 refine J_g 12 [] [(0,sl 7 Term.enc a1),(1,.fn 194 [pp 0]),(7,iv (a1.length:Int)),(8,iv 0)] [(0,.box (Term.enc a2))] zB ?_
 refine vY (K0:=(fun r:Int=>some (iv r,[.box (Term.enc a2)]))) (fun _=>rfl) (yY.ok a1 a2 q _ (fun v16=>J_j ?_) 0)
 refine J_g 14 [] [(4,iv (-1))] [(0,.box (Term.enc a2))] zB ?_
 exact zR rfl
theorem zU.ok (a1:(List Term)) (a2:Term):Ok Tryz.prog 193 [sl 7 Term.enc a1,.fn 194 [pp 0]] [.box (Term.enc a2)] ((zU a1 a2).map fun r=>(bv r,[.box (Term.enc a2)])):=by
 refine zH c193 Tryz.f193 1 9 (fun q=>?_)
 unfold zU
 refine J_g 2 [] [(0,sl 7 Term.enc a1),(1,.fn 194 [pp 0])] [(0,.box (Term.enc a2))] zB ?_
 refine zA (fun x3 h4=>?_)
 refine J_g 6 [] [(4,bv (decide (x3≥0)))] [(0,.box (Term.enc a2))] (zC 2 (zJ2 [(0,.box (Term.enc a2))] [] (uH («as»:=[sl 7 Term.enc a1,.fn 194 [pp 0]]) [(.tmp 5),(.tmp 6)] [75,221] false [(0,.box (Term.enc a2))] [0] (.cons (.same rfl) (.cons (.fn (.cons (.pt rfl) (.nil))) (.nil))) (yI.ok a1 a2) h4 (.same rfl rfl))) zB) ?_
 exact zR rfl
noncomputable def zRG:Code:=(Tryz.f108.body).getD .skip
theorem zCa.ok (a1:(List Term)) (q:Wd) (kn:Unit→Option (D×List Ent)) (hk:∀v:Unit,J (q.g Tryz.prog 108 0 18) zRG (atI zRG 7) (St.mk' [] []) (some v) kn):
  ∀s10:Int,J (q.g Tryz.prog 108 0 18) zRG (atI zRG 52) (St.mk' [(0,sl 7 Term.enc a1),(5,sl 7 Term.enc a1),(6,iv (a1.length:Int)),(7,iv s10)] []) (zCa a1 s10) (Fl.go (fun r:Bool=>some (bv r,[])) kn):=by
 refine jJ (fun g ih s10=>?_)
 unfold kK
 refine J_g 104 [] [(0,sl 7 Term.enc a1),(5,sl 7 Term.enc a1),(6,iv (a1.length:Int)),(7,iv s10),(8,bv (decide (s10< (a1.length:Int))))] [] zB ?_
 refine zD 8 (fun h11=>?_) (fun h11=>?_)
 ·refine zA (fun x12 h13=>?_)
  refine J_g 1688 [(3,0)] [(0,sl 7 Term.enc a1),(3,iv s10),(4,pp 0),(5,sl 7 Term.enc a1),(6,iv (a1.length:Int)),(7,iv s10)] [(0,.box (Term.enc x12))] (zC 1 (uN (kk:=.i64) 75 149 7 Term.enc (.tmp 5) (.tmp 7) h13) zB) ?_
  refine zA (fun x14 h15=>?_)
  refine zA (fun x16 h17=>?_)
  refine J_g 3378 [] [(0,sl 7 Term.enc a1),(5,sl 7 Term.enc a1),(6,iv (a1.length:Int)),(7,iv s10),(16,bv x16)] [] (zC 2 (zQO 75 149 7 Term.enc (.tmp 12) none (some (.tmp 13)) h15) (zC 4 (zJ2 [(0,.box (Term.enc x12))] [] (uH («as»:=[sl 7 Term.enc x14,.fn 194 [pp 0]]) [(.tmp 14),(.tmp 15)] [75,221] false [(0,.box (Term.enc x12))] [0] (.cons (.same rfl) (.cons (.fn (.cons (.pt rfl) (.nil))) (.nil))) (zU.ok x14 x12) h17 (.same rfl rfl))) zB)) ?_
  refine zD 16 (fun h18=>?_) (fun h18=>?_)
  ·refine J_g 13516 [] [(2,bv true)] [] zB ?_
   exact zR rfl
  ·refine J_g 423 [] [(0,sl 7 Term.enc a1),(5,sl 7 Term.enc a1),(6,iv (a1.length:Int)),(7,iv (w64 (s10+1)))] [] zB ?_
   exact J_q (J_b (ih (w64 (s10+1)))) rfl
 ·exact xB (hk ()) rfl
theorem zA4.ok (a1:(List Term)):Ok Tryz.prog 108 [sl 7 Term.enc a1] [] ((zA4 a1).map fun r=>(bv r,[])):=by
 refine zH zRG Tryz.f108 0 18 (fun q=>?_)
 unfold zA4
 refine J_g 2 [] [(0,sl 7 Term.enc a1)] [] zB ?_
 refine J_g 12 [] [(0,sl 7 Term.enc a1),(5,sl 7 Term.enc a1),(6,iv (a1.length:Int)),(7,iv 0)] [] zB ?_
 refine vY (K0:=(fun r:Bool=>some (bv r,[]))) (fun _=>rfl) (zCa.ok a1 q _ (fun v19=>J_j ?_) 0)
 refine J_g 14 [] [(2,bv false)] [] zB ?_
 exact zR rfl
noncomputable def c50:Code:=(Tryz.f50.body).getD .skip
theorem jA.ok (x2:((List Int)×Bool)) (x4:(List ByteArray)) (q:Wd) (kn:(List Term)→Option (D×List Ent)) (hk:∀v:(List Term),J (q.g Tryz.prog 50 0 51) c50 (atI c50 31) (St.mk' [(6,sv (b2s x2.1)),(7,rr 0 v)] [(0,rE 7 Term.enc v)]) (some v) kn):
  ∀s14:((List Term)×Int),J (q.g Tryz.prog 50 0 51) c50 (atI c50 244) (St.mk' [(6,sv (b2s x2.1)),(7,rr 0 s14.1),(20,rr 1 x4),(21,iv (x4.length:Int)),(22,iv s14.2)] [(0,rE 7 Term.enc s14.1),(1,rE 1 eStr x4)]) (jA x2 x4 s14) (Fl.go (fun r:((List Term)×Int)=>some (.tu [so 7 Term.enc r.1,iv r.2],[])) kn):=by
 refine jJ (fun g ih s14=>?_)
 unfold zAj
 refine J_g 488 [] [(6,sv (b2s x2.1)),(7,rr 0 s14.1),(20,rr 1 x4),(21,iv (x4.length:Int)),(22,iv s14.2),(23,bv (decide (s14.2< (x4.length:Int))))] [(0,rE 7 Term.enc s14.1),(1,rE 1 eStr x4)] zB ?_
 refine zD 23 (fun h15=>?_) (fun h15=>?_)
 ·refine zA (fun x16 h17=>?_)
  refine J_g 7832 [] [(6,sv (b2s x2.1)),(7,rr 0 s14.1),(9,sv x16),(20,rr 1 x4),(21,iv (x4.length:Int)),(22,iv s14.2)] [(0,rE 7 Term.enc s14.1),(1,rE 1 eStr x4)] (zC 0 (kM (kk:=.i64) 86 9 1 1 eStr (.tmp 20) (.tmp 22) h17) (zC 1 (zED (d:=sv x16) 9 1 1 0 eStr (.tmp 24) h17 (by kernel_rfl)) zB)) ?_
  refine zA (fun x18 h19=>?_)
  refine J_g 15666 [(2,2)] [(6,sv (b2s x2.1)),(7,rr 0 s14.1),(10,pp 2),(20,rr 1 x4),(21,iv (x4.length:Int)),(22,iv s14.2)] [(0,rE 7 Term.enc s14.1),(1,rE 1 eStr x4),(2,.box (yK.enc x18))] (zC 1 (xO [(.tmp 26)] [9] (zAS.ok x16) h19) zB) ?_
  refine J_g 62668 [] [(6,sv (b2s x2.1)),(7,rr 0 s14.1),(10,pp 2),(20,rr 1 x4),(21,iv (x4.length:Int)),(22,iv s14.2),(30,bv (x18.Code !=0))] [(0,rE 7 Term.enc s14.1),(1,rE 1 eStr x4),(2,.box (yK.enc x18))] zB ?_
  refine zD 30 (fun h20=>?_) (fun h20=>?_)
  ·refine J_g 250676 [] [(2,nv),(3,iv 5)] [] zB ?_
   exact zD5 (ds:=[nv,iv 5]) (ds':=[so 7 Term.enc ([]:List Term),iv 5]) (.cons (.cell (.nilsl true 7 (.nil))) (.cons (.cell (.keep rfl (.nil))) (.nil) (by decide)) (by decide)) rfl
  ·refine zA (fun x21 h22=>?_)
   refine J_g 31335 [] [(6,sv (b2s x2.1)),(7,rr 4 x21),(20,rr 1 x4),(21,iv (x4.length:Int)),(22,iv s14.2)] [(1,rE 1 eStr x4),(4,rE 7 Term.enc x21)] (zC 3 (zFd 75 149 7 3 Term.enc [x18.Term] [0] [(.tmp 33)] [.ag (Term.enc x18.Term)]) (zC 4 (zIJ 75 75 149 149 7 64 4 0 3 Term.enc (.tmp 31) (.tmp 34) h22) zB)) ?_
   refine J_g 1959 [] [(6,sv (b2s x2.1)),(7,rr 4 x21),(20,rr 1 x4),(21,iv (x4.length:Int)),(22,iv (w64 (s14.2+1)))] [(1,rE 1 eStr x4),(4,rE 7 Term.enc x21)] zB ?_
   refine zCo 4 0 (Nat.le_of_ble_eq_true rfl) (Nat.le_of_ble_eq_true rfl) ?_
   exact J_q (J_b (ih (x21,w64 (s14.2+1)))) rfl
 ·exact xB (hk s14.1) rfl
theorem kW.ok (a1:zF):Ok Tryz.prog 50 [.ag (zF.enc false a1)] [] ((kW a1).map fun r=>(.tu [so 7 Term.enc r.1,iv r.2],[])):=by
 refine zH c50 Tryz.f50 0 51 (fun q=>?_)
 unfold kW
 refine J_g 2 [(0,0)] [(1,pp 0)] [(0,.box (zF.enc false a1))] zB ?_
 refine zA (fun x2 h3=>?_)
 refine J_g 6 [] [(4,sl 1 eU8 x2.1)] [] (zC 1 (xO [(.tmp 12),(.const (.string (bs [114,111,111,116,115])))] [33,9] (xV.ok a1 (bs [114,111,111,116,115])) h3) zB) ?_
 refine J_g 14 [] [(6,sv (b2s x2.1)),(7,rr 0 ([]:List Term))] [(0,rE 7 Term.enc ([]:List Term))] (zC 1 (zKx (xs:=x2.1) 121 9 5 (.tmp 16)) (zC 2 (zFd 75 149 7 0 Term.enc ([]:List Term) [] [] []) zB)) ?_
 refine zA (fun x4 h5=>?_)
 refine J_g 60 [] [(6,sv (b2s x2.1)),(7,rr 0 ([]:List Term)),(20,rr 1 x4),(21,iv (x4.length:Int)),(22,iv 0)] [(0,rE 7 Term.enc ([]:List Term)),(1,rE 1 eStr x4)] (zC 1 (uH («as»:=[sv (b2s x2.1)]) [(.tmp 19)] [9] false [] [] (.cons (.same rfl) (.nil)) (jZ.ok (b2s x2.1)) h5 (.own 1)) zB) ?_
 refine vY (K0:=(fun r:((List Term)×Int)=>some (.tu [so 7 Term.enc r.1,iv r.2],[]))) (fun _=>rfl) (jA.ok x2 x4 q _ (fun v23=>J_j ?_) (([]:List Term),0))
 refine zA (fun x24 h25=>?_)
 refine wD (atI c50 125) (fun v30:Bool=>St.mk' [(7,rr 0 v23),(49,bv v30)] [(0,rE 7 Term.enc v23)]) (fun v30=>?_) (fun jv30=>?_)
 ·refine zD 49 (fun h31=>?_) (fun h31=>?_)
  ·refine J_g 500 [] [(2,nv),(3,iv 5)] [] zB ?_
   exact zD5 (ds:=[nv,iv 5]) (ds':=[so 7 Term.enc ([]:List Term),iv 5]) (.cons (.cell (.nilsl true 7 (.nil))) (.cons (.cell (.keep rfl (.nil))) (.nil) (by decide)) (by decide)) rfl
  ·refine J_g 126 [] [(2,rr 0 v23),(3,iv 0)] [(0,rE 7 Term.enc v23)] zB ?_
   exact zD5 (ds:=[rr 0 v23,iv 0]) (ds':=[so 7 Term.enc v23,iv 0]) (.cons (.cell (.move (.head _) (List.length_map _) (by decide) (.nil))) (.cons (.cell (.keep rfl (.nil))) (.nil) (by decide)) (by decide)) rfl
 ·refine wN (fun h26=>?_) (fun h26=>?_)
  ·refine J_g 124 [] [(7,rr 0 v23),(49,bv true)] [(0,rE 7 Term.enc v23)] (zC 1 (uH («as»:=[rr 0 v23]) [(.tmp 37)] [75] true [(0,rE 7 Term.enc v23)] [] (.cons (zF1 (.head _) (fun _=>rfl) rfl) (.nil)) (vU.ok v23) h25 (.same rfl rfl) (hbor:=fun _=>⟨fhN,yB⟩)) (wF 4 [(40,bv (!(seq x24 (b2s x2.1))))] [] h26 zB)) ?_
   exact xB (J_j (jv30 true)) rfl
  ·refine wN (fun h27=>?_) (fun h27=>?_)
   ·refine J_g 124 [] [(7,rr 0 v23),(49,bv true)] [(0,rE 7 Term.enc v23)] (zC 1 (uH («as»:=[rr 0 v23]) [(.tmp 37)] [75] true [(0,rE 7 Term.enc v23)] [] (.cons (zF1 (.head _) (fun _=>rfl) rfl) (.nil)) (vU.ok v23) h25 (.same rfl rfl) (hbor:=fun _=>⟨fhN,yB⟩)) (wF 4 [(40,bv (!(seq x24 (b2s x2.1))))] [] h26 (wF 9 [(45,bv (decide ((v23.length:Int)>8)))] [] h27 zB))) ?_
    exact xB (J_j (jv30 true)) rfl
   ·refine zA (fun x28 h29=>?_)
    refine J_g 124 [] [(7,rr 0 v23),(49,bv x28)] [(0,rE 7 Term.enc v23)] (zC 1 (uH («as»:=[rr 0 v23]) [(.tmp 37)] [75] true [(0,rE 7 Term.enc v23)] [] (.cons (zF1 (.head _) (fun _=>rfl) rfl) (.nil)) (vU.ok v23) h25 (.same rfl rfl) (hbor:=fun _=>⟨fhN,yB⟩)) (wF 4 [(40,bv (!(seq x24 (b2s x2.1))))] [] h26 (wF 9 [(45,bv (decide ((v23.length:Int)>8)))] [] h27 (zAR 11 9 46 false (uH («as»:=[rr 0 v23]) [(.tmp 47)] [75] true [(0,rE 7 Term.enc v23)] [] (.cons (zF1 (.head _) (fun _=>rfl) rfl) (.nil)) (zA4.ok v23) h29 (.same rfl rfl) (hbor:=fun _=>⟨fhN,yB⟩)) zB)))) ?_
    exact xB (J_j (jv30 x28)) rfl
noncomputable def c11:Code:=(Tryz.f11.body).getD .skip
theorem uO.ok (a1:System):Ok Tryz.prog 11 [.ag (System.enc false a1)] [] ((uO a1).map fun r=>(iv r,[])):=by
 refine zH c11 Tryz.f11 0 41 (fun q=>?_)
 unfold uO
 refine J_g 2 [(0,0)] [(1,pp 0)] [(0,.box (System.enc false a1))] zB ?_
 refine zA (fun x2 h3=>?_)
 refine J_g 12 [] [(1,pp 0),(3,iv x2)] [(0,.box (System.enc false a1))] (zC 4 (xO [(.tmp 7),(.tmp 9)] [30,33] (jT.ok a1.Catalog a1.zF) h3) zB) ?_
 refine J_g 26 [] [(1,pp 0),(3,iv x2),(12,bv (x2 !=0))] [(0,.box (System.enc false a1))] zB ?_
 refine zD 12 (fun h4=>?_) (fun h4=>?_)
 ·refine J_g 108 [] [(2,iv x2)] [] zB ?_
  exact zR rfl
 ·refine zA (fun x5 h6=>?_)
  refine J_g 14 [] [(1,pp 0),(4,rr 1 x5.1),(5,iv x5.2)] [(0,.box (System.enc false a1)),(1,rE 1 zG x5.1)] (zC 4 (uH («as»:=[sl 8 (Pack.enc false) a1.Catalog,.ag (zF.enc false a1.zF)]) [(.tmp 16),(.tmp 18)] [30,33] false [] [] (.cons (.same rfl) (.cons (.same rfl) (.nil))) (zDp.ok a1.Catalog a1.zF) h6 (.tu (.cons (.own 1) (.cons (.same rfl rfl) (.nil))))) zB) ?_
  refine J_g 120 [] [(1,pp 0),(4,rr 1 x5.1),(5,iv x5.2),(22,bv (x5.2 !=0))] [(0,.box (System.enc false a1)),(1,rE 1 zG x5.1)] zB ?_
  refine zD 22 (fun h7=>?_) (fun h7=>?_)
  ·refine J_g 484 [] [(2,iv x5.2)] [] zB ?_
   exact zR rfl
  ·refine zA (fun x8 h9=>?_)
   refine J_g 486 [] [(1,pp 0),(26,bv (!x8))] [(0,.box (System.enc false a1))] (zC 5 (uH («as»:=[sl 8 (Pack.enc false) a1.Catalog,.ag (zF.enc false a1.zF),rr 1 x5.1]) [(.tmp 28),(.tmp 30),(.tmp 31)] [30,33,39] true [(1,rE 1 zG x5.1)] [] (.cons (.same rfl) (.cons (.same rfl) (.cons (zF1 (.head _) (fun _=>rfl) rfl) (.nil)))) (zC9.ok a1.Catalog a1.zF x5.1) h9 (.same rfl rfl) (hbor:=fun _=>⟨fhN,yB⟩)) zB) ?_
   refine zD 26 (fun h10=>?_) (fun h10=>?_)
   ·refine J_g 1948 [] [(2,iv 1)] [] zB ?_
    exact zR rfl
   ·refine zA (fun x11 h12=>?_)
    refine J_g 62 [] [(5,iv x11.2)] [] (zC 2 (uH («as»:=[.ag (zF.enc false a1.zF)]) [(.tmp 36)] [33] false [] [] (.cons (.same rfl) (.nil)) (kW.ok a1.zF) h12 (.tu (.cons (.own 1) (.cons (.same rfl rfl) (.nil))))) zB) ?_
    refine J_g 126 [] [(2,iv x11.2)] [] zB ?_
    exact zR rfl
noncomputable def c32:Code:=(Tryz.f32.body).getD .skip
theorem jW.ok (a1:System):Ok Tryz.prog 32 [.ag (System.enc false a1)] [] ((jW a1).map fun r=>(.ag [iv r.Code,iv r.At,so 1 zG r.Set],[])):=by
 refine zH c32 Tryz.f32 0 22 (fun q=>?_)
 unfold jW
 refine J_g 2 [(0,0),(1,1)] [(1,pp 0),(2,pp 1)] [(0,.box (System.enc false a1)),(1,.box [iv 0,iv 0,nv])] zB ?_
 refine zA (fun x2 h3=>?_)
 refine J_g 12 [] [(1,pp 0),(2,pp 1),(3,iv x2)] [(0,.box (System.enc false a1)),(1,.box [iv 0,iv 0,nv])] (zC 1 (xO [(.tmp 6)] [35] (uO.ok a1) h3) zB) ?_
 refine J_g 26 [] [(1,pp 0),(2,pp 1),(3,iv x2),(9,bv (x2 !=0))] [(0,.box (System.enc false a1)),(1,.box [iv 0,iv 0,nv])] zB ?_
 refine zD 9 (fun h4=>?_) (fun h4=>?_)
 ·refine J_g 108 [] [(2,pp 1)] [(1,.box [iv x2,iv 0,nv])] zB ?_
  exact zD5 (ds:=[.ag [iv x2,iv 0,nv]]) (ds':=[.ag [iv x2,iv 0,so 1 zG ([]:List Int)]]) (.cons (.ag (.keep rfl (.keep rfl (.nilsl true 1 (.nil))))) (.nil) (by decide)) rfl
 ·refine zA (fun x5 h6=>?_)
  refine J_g 14 [] [(2,pp 1),(4,rr 2 x5.1)] [(1,.box [iv 0,iv 0,nv]),(2,rE 1 zG x5.1)] (zC 4 (uH («as»:=[sl 8 (Pack.enc false) a1.Catalog,.ag (zF.enc false a1.zF)]) [(.tmp 14),(.tmp 16)] [30,33] false [] [] (.cons (.same rfl) (.cons (.same rfl) (.nil))) (zDp.ok a1.Catalog a1.zF) h6 (.tu (.cons (.own 2) (.cons (.same rfl rfl) (.nil))))) zB) ?_
  refine J_g 30 [] [(2,pp 1)] [(1,.box [iv 0,iv 0,rr 2 x5.1]),(2,rE 1 zG x5.1)] zB ?_
  exact zD5 (ds:=[.ag [iv 0,iv 0,rr 2 x5.1]]) (ds':=[.ag [iv 0,iv 0,so 1 zG x5.1]]) (.cons (.ag (.keep rfl (.keep rfl (.move (.tail _ (.head _)) (List.length_map _) (by decide) (.nil))))) (.nil) (by decide)) rfl
noncomputable def c23:Code:=(Tryz.f23.body).getD .skip
theorem zBY.ok (a1:(List Int)) (a2:(List Int)) (q:Wd) (kn:Unit→Option (D×List Ent)) (hk:∀v:Unit,J (q.g Tryz.prog 23 0 26) c23 (atI c23 15) (St.mk' [] []) (some v) kn):
  ∀s10:Int,J (q.g Tryz.prog 23 0 26) c23 (atI c23 116) (St.mk' [(0,sl 1 zG a1),(1,sl 1 zG a2),(5,iv s10)] []) (zBY a1 a2 s10) (Fl.go (fun r:Bool=>some (bv r,[])) kn):=by
 refine jJ (fun g ih s10=>?_)
 unfold zDt
 refine J_g 464 [] [(0,sl 1 zG a1),(1,sl 1 zG a2),(5,iv s10),(14,bv (decide (s10< (a1.length:Int))))] [] zB ?_
 refine zD 14 (fun h11=>?_) (fun h11=>?_)
 ·refine zA (fun x12 h13=>?_)
  refine zA (fun x14 h15=>?_)
  refine J_g 1864 [] [(0,sl 1 zG a1),(1,sl 1 zG a2),(5,iv s10),(25,bv (x12 !=x14))] [] (zC 2 (uN (kk:=.i64) 39 2 1 zG (.tmp 17) (.tmp 18) h13) (zC 6 (uN (kk:=.i64) 39 2 1 zG (.tmp 21) (.tmp 22) h15) zB)) ?_
  refine zD 25 (fun h16=>?_) (fun h16=>?_)
  ·refine J_g 7460 [] [(4,bv false)] [] zB ?_
   exact zR rfl
  ·refine J_g 467 [] [(0,sl 1 zG a1),(1,sl 1 zG a2),(5,iv (w64 (s10+1)))] [] zB ?_
   exact J_q (J_b (ih (w64 (s10+1)))) rfl
 ·exact xB (hk ()) rfl
theorem zB4.ok (a1:(List Int)) (a2:(List Int)):Ok Tryz.prog 23 [sl 1 zG a1,sl 1 zG a2] [] ((zB4 a1 a2).map fun r=>(bv r,[])):=by
 refine zH c23 Tryz.f23 0 26 (fun q=>?_)
 unfold zB4
 refine J_g 2 [] [(0,sl 1 zG a1),(1,sl 1 zG a2)] [] zB ?_
 refine J_g 12 [] [(0,sl 1 zG a1),(1,sl 1 zG a2),(10,bv ((a1.length:Int) !=(a2.length:Int)))] [] zB ?_
 refine zD 10 (fun h3=>?_) (fun h3=>?_)
 ·refine J_g 52 [] [(4,bv false)] [] zB ?_
  exact zR rfl
 ·refine J_g 28 [] [(0,sl 1 zG a1),(1,sl 1 zG a2),(5,iv 0)] [] zB ?_
  refine vY (K0:=(fun r:Bool=>some (bv r,[]))) (fun _=>rfl) (zBY.ok a1 a2 q _ (fun v17=>J_j ?_) 0)
  refine J_g 30 [] [(4,bv true)] [] zB ?_
  exact zR rfl
noncomputable def c33:Code:=(Tryz.f33.body).getD .skip
theorem wS.ok (a1:zI) (a2:zI):Ok Tryz.prog 33 [.ag (zI.enc false a1),.ag (zI.enc false a2)] [] ((wS a1 a2).map fun r=>(bv r,[])):=by
 refine zH c33 Tryz.f33 0 21 (fun q=>?_)
 unfold wS
 refine J_g 2 [(0,0),(1,1)] [(2,pp 0),(3,pp 1)] [(0,.box (zI.enc false a1)),(1,.box (zI.enc false a2))] zB ?_
 refine J_g 12 [] [(2,pp 0),(3,pp 1),(9,bv (a1.Code !=a2.Code))] [(0,.box (zI.enc false a1)),(1,.box (zI.enc false a2))] zB ?_
 refine zD 9 (fun h3=>?_) (fun h3=>?_)
 ·refine J_g 52 [] [(4,bv false)] [] zB ?_
  exact zR rfl
 ·refine J_g 28 [] [(2,pp 0),(3,pp 1),(14,bv (a1.At !=a2.At))] [(0,.box (zI.enc false a1)),(1,.box (zI.enc false a2))] zB ?_
  refine zD 14 (fun h4=>?_) (fun h4=>?_)
  ·refine J_g 116 [] [(4,bv false)] [] zB ?_
   exact zR rfl
  ·refine zA (fun x5 h6=>?_)
   refine J_g 60 [] [(20,bv (!x5))] [] (zC 4 (xO [(.tmp 16),(.tmp 18)] [39,39] (zB4.ok a1.Set a2.Set) h6) zB) ?_
   refine zD 20 (fun h7=>?_) (fun h7=>?_)
   ·refine J_g 244 [] [(4,bv false)] [] zB ?_
    exact zR rfl
   ·refine J_g 62 [] [(4,bv true)] [] zB ?_
    exact zR rfl
noncomputable def zSW:Code:=(Tryz.f142.body).getD .skip
theorem vI.ok (a1:Version) (a2:Version):Ok Tryz.prog 142 [.ag (Version.enc a1),.ag (Version.enc a2)] [] ((vI a1 a2).map fun r=>(bv r,[])):=by
 refine zH zSW Tryz.f142 0 20 (fun q=>?_)
 unfold vI
 refine J_g 2 [(0,0),(1,1)] [(2,pp 0),(3,pp 1)] [(0,.box (Version.enc a1)),(1,.box (Version.enc a2))] zB ?_
 refine J_g 12 [] [(2,pp 0),(3,pp 1),(9,bv (a1.A !=a2.A))] [(0,.box (Version.enc a1)),(1,.box (Version.enc a2))] zB ?_
 refine zD 9 (fun h3=>?_) (fun h3=>?_)
 ·refine J_g 52 [] [(4,bv false)] [] zB ?_
  exact zR rfl
 ·refine J_g 28 [] [(2,pp 0),(3,pp 1),(14,bv (a1.B !=a2.B))] [(0,.box (Version.enc a1)),(1,.box (Version.enc a2))] zB ?_
  refine zD 14 (fun h4=>?_) (fun h4=>?_)
  ·refine J_g 116 [] [(4,bv false)] [] zB ?_
   exact zR rfl
  ·refine J_g 60 [] [(19,bv (a1.C !=a2.C))] [] zB ?_
   refine zD 19 (fun h5=>?_) (fun h5=>?_)
   ·refine J_g 244 [] [(4,bv false)] [] zB ?_
    exact zR rfl
   ·refine J_g 62 [] [(4,bv true)] [] zB ?_
    exact zR rfl
noncomputable def c143:Code:=(Tryz.f143.body).getD .skip
theorem zBt.ok (a1:(List ByteArray)) (a2:(List ByteArray)) (q:Wd) (kn:Unit→Option (D×List Ent)) (hk:∀v:Unit,J (q.g Tryz.prog 143 0 26) c143 (atI c143 15) (St.mk' [] []) (some v) kn):
  ∀s10:Int,J (q.g Tryz.prog 143 0 26) c143 (atI c143 116) (St.mk' [(0,sl 1 eStr a1),(1,sl 1 eStr a2),(5,iv s10)] []) (zBt a1 a2 s10) (Fl.go (fun r:Bool=>some (bv r,[])) kn):=by
 refine jJ (fun g ih s10=>?_)
 unfold zCi
 refine J_g 464 [] [(0,sl 1 eStr a1),(1,sl 1 eStr a2),(5,iv s10),(14,bv (decide (s10< (a1.length:Int))))] [] zB ?_
 refine zD 14 (fun h11=>?_) (fun h11=>?_)
 ·refine zA (fun x12 h13=>?_)
  refine zA (fun x14 h15=>?_)
  refine J_g 1864 [] [(0,sl 1 eStr a1),(1,sl 1 eStr a2),(5,iv s10),(25,bv (!(seq x12 x14)))] [] (zC 2 (uN (kk:=.i64) 86 9 1 eStr (.tmp 17) (.tmp 18) h13) (zC 6 (uN (kk:=.i64) 86 9 1 eStr (.tmp 21) (.tmp 22) h15) zB)) ?_
  refine zD 25 (fun h16=>?_) (fun h16=>?_)
  ·refine J_g 7460 [] [(4,bv false)] [] zB ?_
   exact zR rfl
  ·refine J_g 467 [] [(0,sl 1 eStr a1),(1,sl 1 eStr a2),(5,iv (w64 (s10+1)))] [] zB ?_
   exact J_q (J_b (ih (w64 (s10+1)))) rfl
 ·exact xB (hk ()) rfl
theorem zAX.ok (a1:(List ByteArray)) (a2:(List ByteArray)):Ok Tryz.prog 143 [sl 1 eStr a1,sl 1 eStr a2] [] ((zAX a1 a2).map fun r=>(bv r,[])):=by
 refine zH c143 Tryz.f143 0 26 (fun q=>?_)
 unfold zAX
 refine J_g 2 [] [(0,sl 1 eStr a1),(1,sl 1 eStr a2)] [] zB ?_
 refine J_g 12 [] [(0,sl 1 eStr a1),(1,sl 1 eStr a2),(10,bv ((a1.length:Int) !=(a2.length:Int)))] [] zB ?_
 refine zD 10 (fun h3=>?_) (fun h3=>?_)
 ·refine J_g 52 [] [(4,bv false)] [] zB ?_
  exact zR rfl
 ·refine J_g 28 [] [(0,sl 1 eStr a1),(1,sl 1 eStr a2),(5,iv 0)] [] zB ?_
  refine vY (K0:=(fun r:Bool=>some (bv r,[]))) (fun _=>rfl) (zBt.ok a1 a2 q _ (fun v17=>J_j ?_) 0)
  refine J_g 30 [] [(4,bv true)] [] zB ?_
  exact zR rfl
noncomputable def c213:Code:=(Tryz.f213.body).getD .skip
theorem zEb.ok (a1:Term) (a2:Term):Ok Tryz.prog 213 [.ag (Term.enc a1),.ag (Term.enc a2)] [] ((zEb a1 a2).map fun r=>(bv r,[])):=by
 refine zH c213 Tryz.f213 0 22 (fun q=>?_)
 unfold zEb
 refine J_g 2 [(0,0),(1,1)] [(2,pp 0),(3,pp 1)] [(0,.box (Term.enc a1)),(1,.box (Term.enc a2))] zB ?_
 refine J_g 12 [] [(2,pp 0),(3,pp 1),(9,bv (!(seq a1.Name a2.Name)))] [(0,.box (Term.enc a1)),(1,.box (Term.enc a2))] zB ?_
 refine zD 9 (fun h3=>?_) (fun h3=>?_)
 ·refine J_g 52 [] [(4,bv false)] [] zB ?_
  exact zR rfl
 ·refine zA (fun x4 h5=>?_)
  refine J_g 28 [] [(2,pp 0),(3,pp 1),(15,bv (!x4))] [(0,.box (Term.enc a1)),(1,.box (Term.enc a2))] (zC 4 (xO [(.tmp 11),(.tmp 13)] [99,99] (vI.ok a1.Low a2.Low) h5) zB) ?_
  refine zD 15 (fun h6=>?_) (fun h6=>?_)
  ·refine J_g 116 [] [(4,bv false)] [] zB ?_
   exact zR rfl
  ·refine zA (fun x7 h8=>?_)
   refine J_g 60 [] [(21,bv (!x7))] [] (zC 4 (xO [(.tmp 17),(.tmp 19)] [99,99] (vI.ok a1.High a2.High) h8) zB) ?_
   refine zD 21 (fun h9=>?_) (fun h9=>?_)
   ·refine J_g 244 [] [(4,bv false)] [] zB ?_
    exact zR rfl
   ·refine J_g 62 [] [(4,bv true)] [] zB ?_
    exact zR rfl
noncomputable def c145:Code:=(Tryz.f145.body).getD .skip
theorem zDi.ok (a1:(List Term)) (a2:(List Term)) (q:Wd) (kn:Unit→Option (D×List Ent)) (hk:∀v:Unit,J (q.g Tryz.prog 145 0 27) c145 (atI c145 15) (St.mk' [] []) (some v) kn):
  ∀s12:Int,J (q.g Tryz.prog 145 0 27) c145 (atI c145 116) (St.mk' [(0,sl 7 Term.enc a1),(1,sl 7 Term.enc a2),(5,iv s12)] []) (zDi a1 a2 s12) (Fl.go (fun r:Bool=>some (bv r,[])) kn):=by
 refine jJ (fun g ih s12=>?_)
 unfold zDL
 refine J_g 464 [] [(0,sl 7 Term.enc a1),(1,sl 7 Term.enc a2),(5,iv s12),(14,bv (decide (s12< (a1.length:Int))))] [] zB ?_
 refine zD 14 (fun h13=>?_) (fun h13=>?_)
 ·refine zA (fun x14 h15=>?_)
  refine zA (fun x16 h17=>?_)
  refine zA (fun x18 h19=>?_)
  refine J_g 1864 [] [(0,sl 7 Term.enc a1),(1,sl 7 Term.enc a2),(5,iv s12),(26,bv (!x18))] [] (zC 2 (uN (kk:=.i64) 75 149 7 Term.enc (.tmp 17) (.tmp 18) h15) (zC 6 (uN (kk:=.i64) 75 149 7 Term.enc (.tmp 21) (.tmp 22) h17) (zC 8 (xO [(.tmp 20),(.tmp 24)] [149,149] (zEb.ok x14 x16) h19) zB))) ?_
  refine zD 26 (fun h20=>?_) (fun h20=>?_)
  ·refine J_g 7460 [] [(4,bv false)] [] zB ?_
   exact zR rfl
  ·refine J_g 467 [] [(0,sl 7 Term.enc a1),(1,sl 7 Term.enc a2),(5,iv (w64 (s12+1)))] [] zB ?_
   exact J_q (J_b (ih (w64 (s12+1)))) rfl
 ·exact xB (hk ()) rfl
theorem zA6.ok (a1:(List Term)) (a2:(List Term)):Ok Tryz.prog 145 [sl 7 Term.enc a1,sl 7 Term.enc a2] [] ((zA6 a1 a2).map fun r=>(bv r,[])):=by
 refine zH c145 Tryz.f145 0 27 (fun q=>?_)
 unfold zA6
 refine J_g 2 [] [(0,sl 7 Term.enc a1),(1,sl 7 Term.enc a2)] [] zB ?_
 refine J_g 12 [] [(0,sl 7 Term.enc a1),(1,sl 7 Term.enc a2),(10,bv ((a1.length:Int) !=(a2.length:Int)))] [] zB ?_
 refine zD 10 (fun h3=>?_) (fun h3=>?_)
 ·refine J_g 52 [] [(4,bv false)] [] zB ?_
  exact zR rfl
 ·refine J_g 28 [] [(0,sl 7 Term.enc a1),(1,sl 7 Term.enc a2),(5,iv 0)] [] zB ?_
  refine vY (K0:=(fun r:Bool=>some (bv r,[]))) (fun _=>rfl) (zDi.ok a1 a2 q _ (fun v21=>J_j ?_) 0)
  refine J_g 30 [] [(4,bv true)] [] zB ?_
  exact zR rfl
noncomputable def zRk:Code:=(Tryz.f144.body).getD .skip
theorem zBV.ok (a1:(List (List Term))) (a2:(List (List Term))) (q:Wd) (kn:Unit→Option (D×List Ent)) (hk:∀v:Unit,J (q.g Tryz.prog 144 0 27) zRk (atI zRk 15) (St.mk' [] []) (some v) kn):
  ∀s12:Int,J (q.g Tryz.prog 144 0 27) zRk (atI zRk 116) (St.mk' [(0,sl 1 (eSl false 7 Term.enc) a1),(1,sl 1 (eSl false 7 Term.enc) a2),(5,iv s12)] []) (zBV a1 a2 s12) (Fl.go (fun r:Bool=>some (bv r,[])) kn):=by
 refine jJ (fun g ih s12=>?_)
 unfold zDs
 refine J_g 464 [] [(0,sl 1 (eSl false 7 Term.enc) a1),(1,sl 1 (eSl false 7 Term.enc) a2),(5,iv s12),(14,bv (decide (s12< (a1.length:Int))))] [] zB ?_
 refine zD 14 (fun h13=>?_) (fun h13=>?_)
 ·refine zA (fun x14 h15=>?_)
  refine zA (fun x16 h17=>?_)
  refine zA (fun x18 h19=>?_)
  refine J_g 1864 [] [(0,sl 1 (eSl false 7 Term.enc) a1),(1,sl 1 (eSl false 7 Term.enc) a2),(5,iv s12),(26,bv (!x18))] [] (zC 2 (uN (kk:=.i64) 100 75 1 (eSl false 7 Term.enc) (.tmp 17) (.tmp 18) h15) (zC 6 (uN (kk:=.i64) 100 75 1 (eSl false 7 Term.enc) (.tmp 21) (.tmp 22) h17) (zC 8 (xO [(.tmp 20),(.tmp 24)] [75,75] (zA6.ok x14 x16) h19) zB))) ?_
  refine zD 26 (fun h20=>?_) (fun h20=>?_)
  ·refine J_g 7460 [] [(4,bv false)] [] zB ?_
   exact zR rfl
  ·refine J_g 467 [] [(0,sl 1 (eSl false 7 Term.enc) a1),(1,sl 1 (eSl false 7 Term.enc) a2),(5,iv (w64 (s12+1)))] [] zB ?_
   exact J_q (J_b (ih (w64 (s12+1)))) rfl
 ·exact xB (hk ()) rfl
theorem zBA.ok (a1:(List (List Term))) (a2:(List (List Term))):Ok Tryz.prog 144 [sl 1 (eSl false 7 Term.enc) a1,sl 1 (eSl false 7 Term.enc) a2] [] ((zBA a1 a2).map fun r=>(bv r,[])):=by
 refine zH zRk Tryz.f144 0 27 (fun q=>?_)
 unfold zBA
 refine J_g 2 [] [(0,sl 1 (eSl false 7 Term.enc) a1),(1,sl 1 (eSl false 7 Term.enc) a2)] [] zB ?_
 refine J_g 12 [] [(0,sl 1 (eSl false 7 Term.enc) a1),(1,sl 1 (eSl false 7 Term.enc) a2),(10,bv ((a1.length:Int) !=(a2.length:Int)))] [] zB ?_
 refine zD 10 (fun h3=>?_) (fun h3=>?_)
 ·refine J_g 52 [] [(4,bv false)] [] zB ?_
  exact zR rfl
 ·refine J_g 28 [] [(0,sl 1 (eSl false 7 Term.enc) a1),(1,sl 1 (eSl false 7 Term.enc) a2),(5,iv 0)] [] zB ?_
  refine vY (K0:=(fun r:Bool=>some (bv r,[]))) (fun _=>rfl) (zBV.ok a1 a2 q _ (fun v21=>J_j ?_) 0)
  refine J_g 30 [] [(4,bv true)] [] zB ?_
  exact zR rfl
noncomputable def c69:Code:=(Tryz.f69.body).getD .skip
theorem zDO.ok (a1:Pack) (a2:Pack):Ok Tryz.prog 69 [.ag (Pack.enc false a1),.ag (Pack.enc false a2)] [] ((zDO a1 a2).map fun r=>(bv r,[])):=by
 refine zH c69 Tryz.f69 0 39 (fun q=>?_)
 unfold zDO
 refine J_g 2 [(0,0),(1,1)] [(2,pp 0),(3,pp 1)] [(0,.box (Pack.enc false a1)),(1,.box (Pack.enc false a2))] zB ?_
 refine J_g 12 [] [(2,pp 0),(3,pp 1),(9,bv (!(seq a1.Name a2.Name)))] [(0,.box (Pack.enc false a1)),(1,.box (Pack.enc false a2))] zB ?_
 refine zD 9 (fun h3=>?_) (fun h3=>?_)
 ·refine J_g 52 [] [(4,bv false)] [] zB ?_
  exact zR rfl
 ·refine zA (fun x4 h5=>?_)
  refine J_g 28 [] [(2,pp 0),(3,pp 1),(15,bv (!x4))] [(0,.box (Pack.enc false a1)),(1,.box (Pack.enc false a2))] (zC 4 (xO [(.tmp 11),(.tmp 13)] [99,99] (vI.ok a1.Version a2.Version) h5) zB) ?_
  refine zD 15 (fun h6=>?_) (fun h6=>?_)
  ·refine J_g 116 [] [(4,bv false)] [] zB ?_
   exact zR rfl
  ·refine J_g 60 [] [(2,pp 0),(3,pp 1),(20,bv (a1.Size !=a2.Size))] [(0,.box (Pack.enc false a1)),(1,.box (Pack.enc false a2))] zB ?_
   refine zD 20 (fun h7=>?_) (fun h7=>?_)
   ·refine J_g 244 [] [(4,bv false)] [] zB ?_
    exact zR rfl
   ·refine zA (fun x8 h9=>?_)
    refine J_g 124 [] [(2,pp 0),(3,pp 1),(26,bv (!x8))] [(0,.box (Pack.enc false a1)),(1,.box (Pack.enc false a2))] (zC 4 (xO [(.tmp 22),(.tmp 24)] [86,86] (zAX.ok a1.Provides a2.Provides) h9) zB) ?_
    refine zD 26 (fun h10=>?_) (fun h10=>?_)
    ·refine J_g 500 [] [(4,bv false)] [] zB ?_
     exact zR rfl
    ·refine zA (fun x11 h12=>?_)
     refine J_g 252 [] [(2,pp 0),(3,pp 1),(32,bv (!x11))] [(0,.box (Pack.enc false a1)),(1,.box (Pack.enc false a2))] (zC 4 (xO [(.tmp 28),(.tmp 30)] [100,100] (zBA.ok a1.Needs a2.Needs) h12) zB) ?_
     refine zD 32 (fun h13=>?_) (fun h13=>?_)
     ·refine J_g 1012 [] [(4,bv false)] [] zB ?_
      exact zR rfl
     ·refine zA (fun x14 h15=>?_)
      refine J_g 508 [] [(38,bv (!x14))] [] (zC 4 (xO [(.tmp 34),(.tmp 36)] [75,75] (zA6.ok a1.Bars a2.Bars) h15) zB) ?_
      refine zD 38 (fun h16=>?_) (fun h16=>?_)
      ·refine J_g 2036 [] [(4,bv false)] [] zB ?_
       exact zR rfl
      ·refine J_g 510 [] [(4,bv true)] [] zB ?_
       exact zR rfl
noncomputable def c21:Code:=(Tryz.f21.body).getD .skip
theorem zDe.ok (a1:(List Pack)) (a2:(List Pack)) (q:Wd) (kn:Unit→Option (D×List Ent)) (hk:∀v:Unit,J (q.g Tryz.prog 21 0 27) c21 (atI c21 15) (St.mk' [] []) (some v) kn):
  ∀s12:Int,J (q.g Tryz.prog 21 0 27) c21 (atI c21 116) (St.mk' [(0,sl 8 (Pack.enc false) a1),(1,sl 8 (Pack.enc false) a2),(5,iv s12)] []) (zDe a1 a2 s12) (Fl.go (fun r:Bool=>some (bv r,[])) kn):=by
 refine jJ (fun g ih s12=>?_)
 unfold zDJ
 refine J_g 464 [] [(0,sl 8 (Pack.enc false) a1),(1,sl 8 (Pack.enc false) a2),(5,iv s12),(14,bv (decide (s12< (a1.length:Int))))] [] zB ?_
 refine zD 14 (fun h13=>?_) (fun h13=>?_)
 ·refine zA (fun x14 h15=>?_)
  refine zA (fun x16 h17=>?_)
  refine zA (fun x18 h19=>?_)
  refine J_g 1864 [] [(0,sl 8 (Pack.enc false) a1),(1,sl 8 (Pack.enc false) a2),(5,iv s12),(26,bv (!x18))] [] (zC 2 (uN (kk:=.i64) 30 102 8 (Pack.enc false) (.tmp 17) (.tmp 18) h15) (zC 6 (uN (kk:=.i64) 30 102 8 (Pack.enc false) (.tmp 21) (.tmp 22) h17) (zC 8 (xO [(.tmp 20),(.tmp 24)] [102,102] (zDO.ok x14 x16) h19) zB))) ?_
  refine zD 26 (fun h20=>?_) (fun h20=>?_)
  ·refine J_g 7460 [] [(4,bv false)] [] zB ?_
   exact zR rfl
  ·refine J_g 467 [] [(0,sl 8 (Pack.enc false) a1),(1,sl 8 (Pack.enc false) a2),(5,iv (w64 (s12+1)))] [] zB ?_
   exact J_q (J_b (ih (w64 (s12+1)))) rfl
 ·exact xB (hk ()) rfl
theorem zC4.ok (a1:(List Pack)) (a2:(List Pack)):Ok Tryz.prog 21 [sl 8 (Pack.enc false) a1,sl 8 (Pack.enc false) a2] [] ((zC4 a1 a2).map fun r=>(bv r,[])):=by
 refine zH c21 Tryz.f21 0 27 (fun q=>?_)
 unfold zC4
 refine J_g 2 [] [(0,sl 8 (Pack.enc false) a1),(1,sl 8 (Pack.enc false) a2)] [] zB ?_
 refine J_g 12 [] [(0,sl 8 (Pack.enc false) a1),(1,sl 8 (Pack.enc false) a2),(10,bv ((a1.length:Int) !=(a2.length:Int)))] [] zB ?_
 refine zD 10 (fun h3=>?_) (fun h3=>?_)
 ·refine J_g 52 [] [(4,bv false)] [] zB ?_
  exact zR rfl
 ·refine J_g 28 [] [(0,sl 8 (Pack.enc false) a1),(1,sl 8 (Pack.enc false) a2),(5,iv 0)] [] zB ?_
  refine vY (K0:=(fun r:Bool=>some (bv r,[]))) (fun _=>rfl) (zDe.ok a1 a2 q _ (fun v21=>J_j ?_) 0)
  refine J_g 30 [] [(4,bv true)] [] zB ?_
  exact zR rfl
noncomputable def zRw:Code:=(Tryz.f214.body).getD .skip
theorem zCR.ok (a1:(List Int)) (a2:(List Int)) (q:Wd) (kn:Unit→Option (D×List Ent)) (hk:∀v:Unit,J (q.g Tryz.prog 214 0 26) zRw (atI zRw 15) (St.mk' [] []) (some v) kn):
  ∀s10:Int,J (q.g Tryz.prog 214 0 26) zRw (atI zRw 116) (St.mk' [(0,sl 1 eU8 a1),(1,sl 1 eU8 a2),(5,iv s10)] []) (zCR a1 a2 s10) (Fl.go (fun r:Bool=>some (bv r,[])) kn):=by
 refine jJ (fun g ih s10=>?_)
 unfold zDM
 refine J_g 464 [] [(0,sl 1 eU8 a1),(1,sl 1 eU8 a2),(5,iv s10),(14,bv (decide (s10< (a1.length:Int))))] [] zB ?_
 refine zD 14 (fun h11=>?_) (fun h11=>?_)
 ·refine zA (fun x12 h13=>?_)
  refine zA (fun x14 h15=>?_)
  refine J_g 1864 [] [(0,sl 1 eU8 a1),(1,sl 1 eU8 a2),(5,iv s10),(25,bv (x12 !=x14))] [] (zC 2 (uN (kk:=.i64) 121 5 1 eU8 (.tmp 17) (.tmp 18) h13) (zC 6 (uN (kk:=.i64) 121 5 1 eU8 (.tmp 21) (.tmp 22) h15) zB)) ?_
  refine zD 25 (fun h16=>?_) (fun h16=>?_)
  ·refine J_g 7460 [] [(4,bv false)] [] zB ?_
   exact zR rfl
  ·refine J_g 467 [] [(0,sl 1 eU8 a1),(1,sl 1 eU8 a2),(5,iv (w64 (s10+1)))] [] zB ?_
   exact J_q (J_b (ih (w64 (s10+1)))) rfl
 ·exact xB (hk ()) rfl
theorem zDk.ok (a1:(List Int)) (a2:(List Int)):Ok Tryz.prog 214 [sl 1 eU8 a1,sl 1 eU8 a2] [] ((zDk a1 a2).map fun r=>(bv r,[])):=by
 refine zH zRw Tryz.f214 0 26 (fun q=>?_)
 unfold zDk
 refine J_g 2 [] [(0,sl 1 eU8 a1),(1,sl 1 eU8 a2)] [] zB ?_
 refine J_g 12 [] [(0,sl 1 eU8 a1),(1,sl 1 eU8 a2),(10,bv ((a1.length:Int) !=(a2.length:Int)))] [] zB ?_
 refine zD 10 (fun h3=>?_) (fun h3=>?_)
 ·refine J_g 52 [] [(4,bv false)] [] zB ?_
  exact zR rfl
 ·refine J_g 28 [] [(0,sl 1 eU8 a1),(1,sl 1 eU8 a2),(5,iv 0)] [] zB ?_
  refine vY (K0:=(fun r:Bool=>some (bv r,[]))) (fun _=>rfl) (zCR.ok a1 a2 q _ (fun v17=>J_j ?_) 0)
  refine J_g 30 [] [(4,bv true)] [] zB ?_
  exact zR rfl
end Go.Told

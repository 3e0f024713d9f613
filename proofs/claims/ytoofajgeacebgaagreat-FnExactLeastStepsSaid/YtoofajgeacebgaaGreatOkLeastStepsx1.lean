import Derived.Test.YtoofajgeacebgaaGreatToldLeastSteps
import Derived.Test.YtoofajgeacebgaaGreatShelfLeastSteps
import Derived.Test.YtoofajgeacebgaaGreatProg
set_option linter.unusedVariables false
set_option maxRecDepth 4000
namespace Go.Told
open Go Go.Im Go.Proofs
noncomputable def c44:Code:=(Tryz.f44.body).getD .skip
theorem zB0.ok (a1:(List ByteArray)) (q:Wd) (kn:Int→Option (D×List Ent)) (hk:∀v:Int,J (q.g Tryz.prog 44 0 28) c44 (atI c44 31) (St.mk' [(1,iv v)] []) (some v) kn):
  ∀s8:(Int×Int),J (q.g Tryz.prog 44 0 28) c44 (atI c44 244) (St.mk' [(0,sl 1 eStr a1),(1,iv s8.1),(5,iv s8.2)] []) (zB0 a1 s8) (Fl.go (fun r:Int=>some (iv r,[])) kn):=by
 refine tV (fun g ih s8=>?_)
 unfold zAH
 refine J_d 976 [] [15] [(15,bv (decide (s8.2< (a1.length:Int))))] [] [] zB ?_
 refine zF 15 (fun h9=>?_) (fun h9=>?_)
 ·refine zA (fun x10 h11=>?_)
  refine J_g 3912 [] [(0,sl 1 eStr a1),(1,iv (w64 (s8.1-(x10.size:Int)))),(5,iv s8.2)] [] (zD 3 (tT (kk:=.i64) 52 9 1 eStr (.tmp 19) (.tmp 20) h11) zB) ?_
  refine J_d 7826 [] [26] [(26,bv (decide ((w64 (s8.1-(x10.size:Int)))<0)))] [] [] zB ?_
  refine zF 26 (fun h12=>?_) (fun h12=>?_)
  ·refine J_g 31308 [] [(4,iv (-1))] [] zB ?_
   exact zQ rfl
  ·refine J_d 979 [] [5,26] [(5,iv (w64 (s8.2+1)))] [] [] zB ?_
   exact J_q (J_b (ih (w64 (s8.1-(x10.size:Int)),w64 (s8.2+1)))) rfl
 ·exact wD (hk s8.1) rfl
theorem zBg.ok (a1:(List ByteArray)) (a2:Int):Ok Tryz.prog 44 [sl 1 eStr a1,iv a2] [] ((zBg a1 a2).map fun r=>(iv r,[])):=by
 refine zG c44 Tryz.f44 0 28 (fun q=>?_)
 unfold zBg
 refine J_g 2 [] [(0,sl 1 eStr a1),(1,iv a2)] [] zB ?_
 refine J_g 6 [] [(0,sl 1 eStr a1),(1,iv (w64 (a2-(a1.length:Int))))] [] zB ?_
 refine J_d 28 [] [11] [(11,bv (decide ((w64 (a2-(a1.length:Int)))<0)))] [] [] zB ?_
 refine zF 11 (fun h3=>?_) (fun h3=>?_)
 ·refine J_g 116 [] [(4,iv (-1))] [] zB ?_
  exact zQ rfl
 ·refine J_d 60 [] [5,11] [(5,iv 0)] [] [] zB ?_
  refine uP (K0:=(fun r:Int=>some (iv r,[]))) (fun _=>rfl) (zB0.ok a1 q _ (fun v13=>J_j ?_) (w64 (a2-(a1.length:Int)),0))
  refine J_g 62 [] [(4,iv v13)] [] zB ?_
  exact zQ rfl
noncomputable def c75:Code:=(Tryz.f75.body).getD .skip
theorem zDX.ok (a1:Term) (a2:Int):Ok Tryz.prog 75 [.ag (Term.enc a1),iv a2] [] ((zDX a1 a2).map fun r=>(iv r,[])):=by
 refine zG c75 Tryz.f75 0 13 (fun q=>?_)
 unfold zDX
 refine J_g 2 [(0,0)] [(1,iv a2),(2,pp 0)] [(0,.box (Term.enc a1))] zB ?_
 refine J_g 6 [] [(1,iv (w64 (a2-(a1.Name.size:Int))))] [] zB ?_
 refine J_d 28 [] [11] [(11,bv (decide ((w64 (a2-(a1.Name.size:Int)))<0)))] [] [] zB ?_
 refine zF 11 (fun h3=>?_) (fun h3=>?_)
 ·refine J_g 116 [] [(4,iv (-1))] [] zB ?_
  exact zQ rfl
 ·refine J_g 30 [] [(4,iv (w64 (a2-(a1.Name.size:Int))))] [] zB ?_
  exact zQ rfl
noncomputable def c46:Code:=(Tryz.f46.body).getD .skip
theorem zCJ.ok (a1:(List Term)) (q:Wd) (kn:Int→Option (D×List Ent)) (hk:∀v:Int,J (q.g Tryz.prog 46 0 27) c46 (atI c46 31) (St.mk' [(1,iv v)] []) (some v) kn):
  ∀s10:(Int×Int),J (q.g Tryz.prog 46 0 27) c46 (atI c46 244) (St.mk' [(0,sl 7 Term.enc a1),(1,iv s10.1),(5,iv s10.2)] []) (zCJ a1 s10) (Fl.go (fun r:Int=>some (iv r,[])) kn):=by
 refine tV (fun g ih s10=>?_)
 unfold zCf
 refine J_d 976 [] [15] [(15,bv (decide (s10.2< (a1.length:Int))))] [] [] zB ?_
 refine zF 15 (fun h11=>?_) (fun h11=>?_)
 ·refine zA (fun x12 h13=>?_)
  refine zA (fun x14 h15=>?_)
  refine J_g 3912 [] [(0,sl 7 Term.enc a1),(1,iv x14),(5,iv s10.2)] [] (zD 2 (tT (kk:=.i64) 54 105 7 Term.enc (.tmp 18) (.tmp 19) h13) (zD 5 (vG [(.tmp 21),(.tmp 22)] [105,3] (zDX.ok x12 s10.1) h15) zB)) ?_
  refine J_d 7826 [] [25] [(25,bv (decide (x14<0)))] [] [] zB ?_
  refine zF 25 (fun h16=>?_) (fun h16=>?_)
  ·refine J_g 31308 [] [(4,iv (-1))] [] zB ?_
   exact zQ rfl
  ·refine J_d 979 [] [5,25] [(5,iv (w64 (s10.2+1)))] [] [] zB ?_
   exact J_q (J_b (ih (x14,w64 (s10.2+1)))) rfl
 ·exact wD (hk s10.1) rfl
theorem zAY.ok (a1:(List Term)) (a2:Int):Ok Tryz.prog 46 [sl 7 Term.enc a1,iv a2] [] ((zAY a1 a2).map fun r=>(iv r,[])):=by
 refine zG c46 Tryz.f46 0 27 (fun q=>?_)
 unfold zAY
 refine J_g 2 [] [(0,sl 7 Term.enc a1),(1,iv a2)] [] zB ?_
 refine J_g 6 [] [(0,sl 7 Term.enc a1),(1,iv (w64 (a2-(a1.length:Int))))] [] zB ?_
 refine J_d 28 [] [11] [(11,bv (decide ((w64 (a2-(a1.length:Int)))<0)))] [] [] zB ?_
 refine zF 11 (fun h3=>?_) (fun h3=>?_)
 ·refine J_g 116 [] [(4,iv (-1))] [] zB ?_
  exact zQ rfl
 ·refine J_d 60 [] [5,11] [(5,iv 0)] [] [] zB ?_
  refine uP (K0:=(fun r:Int=>some (iv r,[]))) (fun _=>rfl) (zCJ.ok a1 q _ (fun v17=>J_j ?_) (w64 (a2-(a1.length:Int)),0))
  refine J_g 62 [] [(4,iv v17)] [] zB ?_
  exact zQ rfl
noncomputable def c45:Code:=(Tryz.f45.body).getD .skip
theorem zCc.ok (a1:(List (List Term))) (q:Wd) (kn:Int→Option (D×List Ent)) (hk:∀v:Int,J (q.g Tryz.prog 45 0 27) c45 (atI c45 31) (St.mk' [(1,iv v)] []) (some v) kn):
  ∀s10:(Int×Int),J (q.g Tryz.prog 45 0 27) c45 (atI c45 244) (St.mk' [(0,sl 1 (eSl false 7 Term.enc) a1),(1,iv s10.1),(5,iv s10.2)] []) (zCc a1 s10) (Fl.go (fun r:Int=>some (iv r,[])) kn):=by
 refine tV (fun g ih s10=>?_)
 unfold zBv
 refine J_d 976 [] [15] [(15,bv (decide (s10.2< (a1.length:Int))))] [] [] zB ?_
 refine zF 15 (fun h11=>?_) (fun h11=>?_)
 ·refine zA (fun x12 h13=>?_)
  refine zA (fun x14 h15=>?_)
  refine J_g 3912 [] [(0,sl 1 (eSl false 7 Term.enc) a1),(1,iv x14),(5,iv s10.2)] [] (zD 2 (tT (kk:=.i64) 53 54 1 (eSl false 7 Term.enc) (.tmp 18) (.tmp 19) h13) (zD 5 (vG [(.tmp 21),(.tmp 22)] [54,3] (zAY.ok x12 s10.1) h15) zB)) ?_
  refine J_d 7826 [] [25] [(25,bv (decide (x14<0)))] [] [] zB ?_
  refine zF 25 (fun h16=>?_) (fun h16=>?_)
  ·refine J_g 31308 [] [(4,iv (-1))] [] zB ?_
   exact zQ rfl
  ·refine J_d 979 [] [5,25] [(5,iv (w64 (s10.2+1)))] [] [] zB ?_
   exact J_q (J_b (ih (x14,w64 (s10.2+1)))) rfl
 ·exact wD (hk s10.1) rfl
theorem zBQ.ok (a1:(List (List Term))) (a2:Int):Ok Tryz.prog 45 [sl 1 (eSl false 7 Term.enc) a1,iv a2] [] ((zBQ a1 a2).map fun r=>(iv r,[])):=by
 refine zG c45 Tryz.f45 0 27 (fun q=>?_)
 unfold zBQ
 refine J_g 2 [] [(0,sl 1 (eSl false 7 Term.enc) a1),(1,iv a2)] [] zB ?_
 refine J_g 6 [] [(0,sl 1 (eSl false 7 Term.enc) a1),(1,iv (w64 (a2-(a1.length:Int))))] [] zB ?_
 refine J_d 28 [] [11] [(11,bv (decide ((w64 (a2-(a1.length:Int)))<0)))] [] [] zB ?_
 refine zF 11 (fun h3=>?_) (fun h3=>?_)
 ·refine J_g 116 [] [(4,iv (-1))] [] zB ?_
  exact zQ rfl
 ·refine J_d 60 [] [5,11] [(5,iv 0)] [] [] zB ?_
  refine uP (K0:=(fun r:Int=>some (iv r,[]))) (fun _=>rfl) (zCc.ok a1 q _ (fun v17=>J_j ?_) (w64 (a2-(a1.length:Int)),0))
  refine J_g 62 [] [(4,iv v17)] [] zB ?_
  exact zQ rfl
noncomputable def c26:Code:=(Tryz.f26.body).getD .skip
theorem zDS.ok (a1:Pack) (a2:Int):Ok Tryz.prog 26 [.ag (Pack.enc false a1),iv a2] [] ((zDS a1 a2).map fun r=>(iv r,[])):=by
 refine zG c26 Tryz.f26 0 31 (fun q=>?_)
 unfold zDS
 refine J_g 2 [(0,0)] [(1,iv a2),(2,pp 0)] [(0,.box (Pack.enc false a1))] zB ?_
 refine J_g 6 [] [(1,iv (w64 (a2-(a1.Name.size:Int)))),(2,pp 0)] [(0,.box (Pack.enc false a1))] zB ?_
 refine J_d 28 [] [11] [(11,bv (decide ((w64 (a2-(a1.Name.size:Int)))<0)))] [] [] zB ?_
 refine zF 11 (fun h3=>?_) (fun h3=>?_)
 ·refine J_g 116 [] [(4,iv (-1))] [] zB ?_
  exact zQ rfl
 ·refine zA (fun x4 h5=>?_)
  refine J_g 30 [] [(1,iv x4),(2,pp 0)] [(0,.box (Pack.enc false a1))] (zD 3 (vG [(.tmp 13),(.tmp 14)] [52,3] (zBg.ok a1.Provides (w64 (a2-(a1.Name.size:Int)))) h5) zB) ?_
  refine J_d 124 [] [17] [(17,bv (decide (x4<0)))] [] [] zB ?_
  refine zF 17 (fun h6=>?_) (fun h6=>?_)
  ·refine J_g 500 [] [(4,iv (-1))] [] zB ?_
   exact zQ rfl
  ·refine zA (fun x7 h8=>?_)
   refine J_g 126 [] [(1,iv x7),(2,pp 0)] [(0,.box (Pack.enc false a1))] (zD 3 (vG [(.tmp 19),(.tmp 20)] [53,3] (zBQ.ok a1.Needs x4) h8) zB) ?_
   refine J_d 508 [] [23] [(23,bv (decide (x7<0)))] [] [] zB ?_
   refine zF 23 (fun h9=>?_) (fun h9=>?_)
   ·refine J_g 2036 [] [(4,iv (-1))] [] zB ?_
    exact zQ rfl
   ·refine zA (fun x10 h11=>?_)
    refine J_g 510 [] [(1,iv x10)] [] (zD 3 (vG [(.tmp 25),(.tmp 26)] [54,3] (zAY.ok a1.Bars x7) h11) zB) ?_
    refine J_g 2044 [] [(1,iv x10),(29,bv (decide (x10<0)))] [] zB ?_
    refine zF 29 (fun h12=>?_) (fun h12=>?_)
    ·refine J_g 8180 [] [(4,iv (-1))] [] zB ?_
     exact zQ rfl
    ·refine J_g 2046 [] [(4,iv x10)] [] zB ?_
     exact zQ rfl
noncomputable def c6:Code:=(Tryz.f6.body).getD .skip
theorem zDa.ok (a1:(List Pack)) (q:Wd) (kn:Int→Option (D×List Ent)) (hk:∀v:Int,J (q.g Tryz.prog 6 0 27) c6 (atI c6 31) (St.mk' [(1,iv v)] []) (some v) kn):
  ∀s10:(Int×Int),J (q.g Tryz.prog 6 0 27) c6 (atI c6 244) (St.mk' [(0,sl 8 (Pack.enc false) a1),(1,iv s10.1),(5,iv s10.2)] []) (zDa a1 s10) (Fl.go (fun r:Int=>some (iv r,[])) kn):=by
 refine tV (fun g ih s10=>?_)
 unfold zCq
 refine J_d 976 [] [15] [(15,bv (decide (s10.2< (a1.length:Int))))] [] [] zB ?_
 refine zF 15 (fun h11=>?_) (fun h11=>?_)
 ·refine zA (fun x12 h13=>?_)
  refine zA (fun x14 h15=>?_)
  refine J_g 3912 [] [(0,sl 8 (Pack.enc false) a1),(1,iv x14),(5,iv s10.2)] [] (zD 2 (tT (kk:=.i64) 22 56 8 (Pack.enc false) (.tmp 18) (.tmp 19) h13) (zD 5 (vG [(.tmp 21),(.tmp 22)] [56,3] (zDS.ok x12 s10.1) h15) zB)) ?_
  refine J_d 7826 [] [25] [(25,bv (decide (x14<0)))] [] [] zB ?_
  refine zF 25 (fun h16=>?_) (fun h16=>?_)
  ·refine J_g 31308 [] [(4,iv (-1))] [] zB ?_
   exact zQ rfl
  ·refine J_d 979 [] [5,25] [(5,iv (w64 (s10.2+1)))] [] [] zB ?_
   exact J_q (J_b (ih (x14,w64 (s10.2+1)))) rfl
 ·exact wD (hk s10.1) rfl
theorem kP.ok (a1:(List Pack)) (a2:Int):Ok Tryz.prog 6 [sl 8 (Pack.enc false) a1,iv a2] [] ((kP a1 a2).map fun r=>(iv r,[])):=by
 refine zG c6 Tryz.f6 0 27 (fun q=>?_)
 unfold kP
 refine J_g 2 [] [(0,sl 8 (Pack.enc false) a1),(1,iv a2)] [] zB ?_
 refine J_g 6 [] [(0,sl 8 (Pack.enc false) a1),(1,iv (w64 (a2-(a1.length:Int))))] [] zB ?_
 refine J_d 28 [] [11] [(11,bv (decide ((w64 (a2-(a1.length:Int)))<0)))] [] [] zB ?_
 refine zF 11 (fun h3=>?_) (fun h3=>?_)
 ·refine J_g 116 [] [(4,iv (-1))] [] zB ?_
  exact zQ rfl
 ·refine J_d 60 [] [5,11] [(5,iv 0)] [] [] zB ?_
  refine uP (K0:=(fun r:Int=>some (iv r,[]))) (fun _=>rfl) (zDa.ok a1 q _ (fun v17=>J_j ?_) (w64 (a2-(a1.length:Int)),0))
  refine J_g 62 [] [(4,iv v17)] [] zB ?_
  exact zQ rfl
noncomputable def c53:Code:=(Tryz.f53.body).getD .skip
theorem uT.ok (a1:Version):Ok Tryz.prog 53 [.ag (Version.enc a1)] [] ((uT a1).map fun r=>(.ag (Version.enc r),[])):=by
 refine zG c53 Tryz.f53 0 14 (fun q=>?_)
 unfold uT
 refine J_g 2 [(0,0),(1,1)] [(1,pp 0),(2,pp 1)] [(0,.box (Version.enc a1)),(1,.box [iv 0,iv 0,iv 0])] zB ?_
 refine J_g 6 [(0,2)] [(1,pp 0),(2,pp 1),(3,pp 2)] [(0,.box (Version.enc a1)),(1,.box [iv 0,iv 0,iv 0]),(2,.box [iv 0,iv 0,iv 0])] zB ?_
 refine J_g 14 [] [(1,pp 0),(2,pp 1),(3,pp 2)] [(0,.box (Version.enc a1)),(1,.box [iv 0,iv 0,iv 0]),(2,.box [iv a1.A,iv 0,iv 0])] zB ?_
 refine J_g 30 [] [(1,pp 0),(2,pp 1),(3,pp 2)] [(0,.box (Version.enc a1)),(1,.box [iv 0,iv 0,iv 0]),(2,.box [iv a1.A,iv a1.B,iv 0])] zB ?_
 refine J_g 62 [] [(2,pp 1),(3,pp 2)] [(1,.box [iv 0,iv 0,iv 0]),(2,.box (Version.enc a1))] zB ?_
 refine J_g 126 [] [(2,pp 1)] [(1,.box (Version.enc a1))] zB ?_
 exact zQ rfl
noncomputable def c54:Code:=(Tryz.f54.body).getD .skip
theorem zBx.ok (a1:(List ByteArray)) (q:Wd) (kn:(List ByteArray)→Option (D×List Ent)) (hk:∀v:(List ByteArray),J (q.g Tryz.prog 54 0 22) c54 (atI c54 15) (St.mk' [(3,rr 0 v)] [(0,rE 1 eStr v)]) (some v) kn):
  ∀s9:((List ByteArray)×Int),J (q.g Tryz.prog 54 0 22) c54 (atI c54 116) (St.mk' [(0,sl 1 eStr a1),(3,rr 0 s9.1),(4,iv s9.2)] [(0,rE 1 eStr s9.1)]) (zBx a1 s9) kn:=by
 refine tV (fun g ih s9=>?_)
 unfold zC8
 refine J_d 464 [] [11] [(11,bv (decide (s9.2< (a1.length:Int))))] [] [] zB ?_
 refine zF 11 (fun h10=>?_) (fun h10=>?_)
 ·refine zA (fun x11 h12=>?_)
  refine zA (fun x13 h14=>?_)
  refine J_g 932 [] [(0,sl 1 eStr a1),(3,rr 0 s9.1),(4,iv s9.2)] [(0,rE 1 eStr (s9.1.set s9.2.toNat x11))] (zD 4 (tT (kk:=.i64) 52 9 1 eStr (.tmp 16) (.tmp 17) h12) (zD 6 (jT (kk:=.i64) 52 9 1 0 eStr (.tmp 14) (.tmp 15) h14) (zGT 7 (zIb (b:=x11) 9 1 0 0 eStr (sv x11) (.tmp 20) (.tmp 19) h14 rfl) zB))) ?_
  refine zFr (σ':=St.mk' [(0,sl 1 eStr a1),(3,rr 0 (s9.1.set s9.2.toNat x11)),(4,iv s9.2)] [(0,rE 1 eStr (s9.1.set s9.2.toNat x11))]) (by simp only [rr,List.length_set]) ?_
  refine J_d 467 [] [4] [(4,iv (w64 (s9.2+1)))] [] [] zB ?_
  exact J_q (J_b (ih (s9.1.set s9.2.toNat x11,w64 (s9.2+1)))) rfl
 ·exact wD (hk s9.1) rfl
theorem zBn.ok (a1:(List ByteArray)):Ok Tryz.prog 54 [sl 1 eStr a1] [] ((zBn a1).map fun r=>(so 1 eStr r,[])):=by
 refine zG c54 Tryz.f54 0 22 (fun q=>?_)
 unfold zBn
 refine J_d 2 [] [] [] [] [] zB ?_
 refine zA (fun x2 h3=>?_)
 refine J_g 6 [] [(0,sl 1 eStr a1),(3,rr 0 x2)] [(0,rE 1 eStr x2)] (zD 2 (zPe 52 9 1 16 0 eStr ByteArray.empty (.tmp 6) h3 (.keep rfl (.nil))) zB) ?_
 refine J_d 28 [] [4] [(4,iv 0)] [] [] zB ?_
 refine zE2 (zBx.ok a1 q _ (fun v15=>J_j ?_) (x2,0))
 refine J_g 30 [] [(2,rr 0 v15)] [(0,rE 1 eStr v15)] zB ?_
 exact zEl (ds:=[rr 0 v15]) (ds':=[so 1 eStr v15]) (.cons (.cell (.move (.head _) (List.length_map _) (by decide) (.nil))) (.nil) (by decide)) rfl
noncomputable def c83:Code:=(Tryz.f83.body).getD .skip
theorem zDV.ok (a1:Term):Ok Tryz.prog 83 [.ag (Term.enc a1)] [] ((zDV a1).map fun r=>(.ag (Term.enc r),[])):=by
 refine zG c83 Tryz.f83 0 16 (fun q=>?_)
 unfold zDV
 refine J_g 2 [(0,0),(1,1)] [(1,pp 0),(2,pp 1)] [(0,.box (Term.enc a1)),(1,.box [sv ByteArray.empty,iv 0,iv 0,iv 0,iv 0,iv 0,iv 0])] zB ?_
 refine J_g 6 [(0,2)] [(1,pp 0),(2,pp 1),(3,pp 2)] [(0,.box (Term.enc a1)),(1,.box [sv ByteArray.empty,iv 0,iv 0,iv 0,iv 0,iv 0,iv 0]),(2,.box [sv ByteArray.empty,iv 0,iv 0,iv 0,iv 0,iv 0,iv 0])] zB ?_
 refine J_d 14 [] [] [] [2] [(2,.box [sv a1.Name,iv 0,iv 0,iv 0,iv 0,iv 0,iv 0])] zB ?_
 refine zA (fun x2 h3=>?_)
 refine J_d 30 [] [] [] [2] [(2,.box [sv a1.Name,iv x2.A,iv x2.B,iv x2.C,iv 0,iv 0,iv 0])] (zD 2 (vG [(.tmp 8)] [51] (uT.ok a1.Low) h3) zB) ?_
 refine zA (fun x4 h5=>?_)
 refine J_g 62 [] [(2,pp 1),(3,pp 2)] [(1,.box [sv ByteArray.empty,iv 0,iv 0,iv 0,iv 0,iv 0,iv 0]),(2,.box [sv a1.Name,iv x2.A,iv x2.B,iv x2.C,iv x4.A,iv x4.B,iv x4.C])] (zD 2 (vG [(.tmp 12)] [51] (uT.ok a1.High) h5) zB) ?_
 refine J_g 126 [] [(2,pp 1)] [(1,.box [sv a1.Name,iv x2.A,iv x2.B,iv x2.C,iv x4.A,iv x4.B,iv x4.C])] zB ?_
 exact zQ rfl
noncomputable def c56:Code:=(Tryz.f56.body).getD .skip
theorem zDi.ok (a1:(List Term)) (q:Wd) (kn:(List Term)→Option (D×List Ent)) (hk:∀v:(List Term),J (q.g Tryz.prog 56 0 23) c56 (atI c56 15) (St.mk' [(3,rr 0 v)] [(0,rE 7 Term.enc v)]) (some v) kn):
  ∀s11:((List Term)×Int),J (q.g Tryz.prog 56 0 23) c56 (atI c56 116) (St.mk' [(0,sl 7 Term.enc a1),(3,rr 0 s11.1),(4,iv s11.2)] [(0,rE 7 Term.enc s11.1)]) (zDi a1 s11) kn:=by
 refine tV (fun g ih s11=>?_)
 unfold zDL
 refine J_d 464 [] [11] [(11,bv (decide (s11.2< (a1.length:Int))))] [] [] zB ?_
 refine zF 11 (fun h12=>?_) (fun h12=>?_)
 ·refine zA (fun x13 h14=>?_)
  refine zA (fun x15 h16=>?_)
  refine zA (fun x17 h18=>?_)
  refine J_g 932 [] [(0,sl 7 Term.enc a1),(3,rr 0 s11.1),(4,iv s11.2)] [(0,rE 7 Term.enc (s11.1.set s11.2.toNat x15))] (zD 4 (tT (kk:=.i64) 54 105 7 Term.enc (.tmp 16) (.tmp 17) h14) (zD 6 (vG [(.tmp 19)] [105] (zDV.ok x13) h16) (zD 7 (jT (kk:=.i64) 61 102 7 0 Term.enc (.tmp 14) (.tmp 15) h18) (zGT 8 (zIb (b:=x15) 102 7 0 0 Term.enc (.ag (Term.enc x15)) (.tmp 21) (.tmp 20) h18 rfl) zB)))) ?_
  refine zFr (σ':=St.mk' [(0,sl 7 Term.enc a1),(3,rr 0 (s11.1.set s11.2.toNat x15)),(4,iv s11.2)] [(0,rE 7 Term.enc (s11.1.set s11.2.toNat x15))]) (by simp only [rr,List.length_set]) ?_
  refine J_d 467 [] [4] [(4,iv (w64 (s11.2+1)))] [] [] zB ?_
  exact J_q (J_b (ih (s11.1.set s11.2.toNat x15,w64 (s11.2+1)))) rfl
 ·exact wD (hk s11.1) rfl
theorem zAR.ok (a1:(List Term)):Ok Tryz.prog 56 [sl 7 Term.enc a1] [] ((zAR a1).map fun r=>(so 7 Term.enc r,[])):=by
 refine zG c56 Tryz.f56 0 23 (fun q=>?_)
 unfold zAR
 refine J_d 2 [] [] [] [] [] zB ?_
 refine zA (fun x2 h3=>?_)
 refine J_g 6 [] [(0,sl 7 Term.enc a1),(3,rr 0 x2)] [(0,rE 7 Term.enc x2)] (zD 2 (zPe 61 102 7 64 0 Term.enc ({Name:=ByteArray.empty,Low:=({A:=0,B:=0,C:=0}:Version),High:=({A:=0,B:=0,C:=0}:Version)}:Term) (.tmp 6) h3 (.keep rfl (.keep rfl (.keep rfl (.keep rfl (.keep rfl (.keep rfl (.keep rfl (.nil))))))))) zB) ?_
 refine J_d 28 [] [4] [(4,iv 0)] [] [] zB ?_
 refine zE2 (zDi.ok a1 q _ (fun v19=>J_j ?_) (x2,0))
 refine J_g 30 [] [(2,rr 0 v19)] [(0,rE 7 Term.enc v19)] zB ?_
 exact zEl (ds:=[rr 0 v19]) (ds':=[so 7 Term.enc v19]) (.cons (.cell (.move (.head _) (List.length_map _) (by decide) (.nil))) (.nil) (by decide)) rfl
noncomputable def c55:Code:=(Tryz.f55.body).getD .skip
theorem zCb.ok (a1:(List (List Term))) (q:Wd) (kn:(List (List Term))→Option (D×List Ent)) (hk:∀v:(List (List Term)),J (q.g Tryz.prog 55 0 23) c55 (atI c55 15) (St.mk' [(3,rr 0 v)] [(0,rE 1 (eSl true 7 Term.enc) v)]) (some v) kn):
  ∀s11:((List (List Term))×Int),J (q.g Tryz.prog 55 0 23) c55 (atI c55 116) (St.mk' [(0,sl 1 (eSl false 7 Term.enc) a1),(3,rr 0 s11.1),(4,iv s11.2)] [(0,rE 1 (eSl true 7 Term.enc) s11.1)]) (zCb a1 s11) kn:=by
 refine tV (fun g ih s11=>?_)
 unfold zDw
 refine J_d 464 [] [11] [(11,bv (decide (s11.2< (a1.length:Int))))] [] [] zB ?_
 refine zF 11 (fun h12=>?_) (fun h12=>?_)
 ·refine zA (fun x13 h14=>?_)
  refine zA (fun x15 h16=>?_)
  refine zA (fun x17 h18=>?_)
  refine J_g 932 [] [(0,sl 1 (eSl false 7 Term.enc) a1),(3,rr 0 s11.1),(4,iv s11.2)] [(0,rE 1 (eSl true 7 Term.enc) (s11.1.set s11.2.toNat x15))] (zD 4 (tT (kk:=.i64) 53 54 1 (eSl false 7 Term.enc) (.tmp 16) (.tmp 17) h14) (zD 6 (vC («as»:=[sl 7 Term.enc x13]) [(.tmp 19)] [54] false [] [] (.cons (.same rfl) (.nil)) (zAR.ok x13) h16 (.own 1)) (zD 7 (jT (kk:=.i64) 60 61 1 0 (eSl true 7 Term.enc) (.tmp 14) (.tmp 15) h18) (zGT 8 (zOU (b:=x15) (es':=[so 7 Term.enc x15]) (ts:=[1]) 61 1 0 0 (eSl true 7 Term.enc) (rr 1 x15) (.tmp 21) (.tmp 20) [(1,rE 7 Term.enc x15)] h18 (.move (.head _) (List.length_map _) (by decide) (.nil)) rfl) zB)))) ?_
  refine zFr (σ':=St.mk' [(0,sl 1 (eSl false 7 Term.enc) a1),(3,rr 0 (s11.1.set s11.2.toNat x15)),(4,iv s11.2)] [(0,rE 1 (eSl true 7 Term.enc) (s11.1.set s11.2.toNat x15))]) (by simp only [rr,List.length_set]) ?_
  refine J_d 467 [] [4] [(4,iv (w64 (s11.2+1)))] [] [] zB ?_
  exact J_q (J_b (ih (s11.1.set s11.2.toNat x15,w64 (s11.2+1)))) rfl
 ·exact wD (hk s11.1) rfl
theorem zBN.ok (a1:(List (List Term))):Ok Tryz.prog 55 [sl 1 (eSl false 7 Term.enc) a1] [] ((zBN a1).map fun r=>(so 1 (eSl true 7 Term.enc) r,[])):=by
 refine zG c55 Tryz.f55 0 23 (fun q=>?_)
 unfold zBN
 refine J_d 2 [] [] [] [] [] zB ?_
 refine zA (fun x2 h3=>?_)
 refine J_g 6 [] [(0,sl 1 (eSl false 7 Term.enc) a1),(3,rr 0 x2)] [(0,rE 1 (eSl true 7 Term.enc) x2)] (zD 2 (zPe 60 61 1 24 0 (eSl true 7 Term.enc) ([]:List Term) (.tmp 6) h3 (.nilsl true 7 (.nil))) zB) ?_
 refine J_d 28 [] [4] [(4,iv 0)] [] [] zB ?_
 refine zE2 (zCb.ok a1 q _ (fun v19=>J_j ?_) (x2,0))
 refine J_g 30 [] [(2,rr 0 v19)] [(0,rE 1 (eSl true 7 Term.enc) v19)] zB ?_
 exact zEl (ds:=[rr 0 v19]) (ds':=[so 1 (eSl true 7 Term.enc) v19]) (.cons (.cell (.move (.head _) (List.length_map _) (by decide) (.nil))) (.nil) (by decide)) rfl
noncomputable def c29:Code:=(Tryz.f29.body).getD .skip
theorem zDU.ok (a1:Pack):Ok Tryz.prog 29 [.ag (Pack.enc false a1)] [] ((zDU a1).map fun r=>(.ag [sv r.Name,iv r.Version.A,iv r.Version.B,iv r.Version.C,iv r.Size,so 1 eStr r.Provides,so 1 (eSl true 7 Term.enc) r.Needs,so 7 Term.enc r.Bars],[])):=by
 refine zG c29 Tryz.f29 0 27 (fun q=>?_)
 unfold zDU
 refine J_g 2 [(0,0),(1,1)] [(1,pp 0),(2,pp 1)] [(0,.box (Pack.enc false a1)),(1,.box [sv ByteArray.empty,iv 0,iv 0,iv 0,iv 0,nv,nv,nv])] zB ?_
 refine J_g 6 [(0,2)] [(1,pp 0),(2,pp 1),(3,pp 2)] [(0,.box (Pack.enc false a1)),(1,.box [sv ByteArray.empty,iv 0,iv 0,iv 0,iv 0,nv,nv,nv]),(2,.box [sv ByteArray.empty,iv 0,iv 0,iv 0,iv 0,nv,nv,nv])] zB ?_
 refine J_d 14 [] [] [] [2] [(2,.box [sv a1.Name,iv 0,iv 0,iv 0,iv 0,nv,nv,nv])] zB ?_
 refine zA (fun x2 h3=>?_)
 refine J_g 30 [] [(1,pp 0),(2,pp 1),(3,pp 2)] [(0,.box (Pack.enc false a1)),(1,.box [sv ByteArray.empty,iv 0,iv 0,iv 0,iv 0,nv,nv,nv]),(2,.box [sv a1.Name,iv x2.A,iv x2.B,iv x2.C,iv 0,nv,nv,nv])] (zD 2 (vG [(.tmp 8)] [51] (uT.ok a1.Version) h3) zB) ?_
 refine J_d 62 [] [] [] [2] [(2,.box [sv a1.Name,iv x2.A,iv x2.B,iv x2.C,iv a1.Size,nv,nv,nv])] zB ?_
 refine zA (fun x4 h5=>?_)
 refine J_d 126 [] [] [] [2,3] [(2,.box [sv a1.Name,iv x2.A,iv x2.B,iv x2.C,iv a1.Size,rr 3 x4,nv,nv]),(3,rE 1 eStr x4)] (zD 2 (vC («as»:=[sl 1 eStr a1.Provides]) [(.tmp 15)] [52] false [] [] (.cons (.same rfl) (.nil)) (zBn.ok a1.Provides) h5 (.own 3)) zB) ?_
 refine zA (fun x6 h7=>?_)
 refine J_d 254 [] [] [] [2,4] [(2,.box [sv a1.Name,iv x2.A,iv x2.B,iv x2.C,iv a1.Size,rr 3 x4,rr 4 x6,nv]),(4,rE 1 (eSl true 7 Term.enc) x6)] (zD 2 (vC («as»:=[sl 1 (eSl false 7 Term.enc) a1.Needs]) [(.tmp 19)] [53] false [] [] (.cons (.same rfl) (.nil)) (zBN.ok a1.Needs) h7 (.own 4)) zB) ?_
 refine zA (fun x8 h9=>?_)
 refine J_g 510 [] [(2,pp 1),(3,pp 2)] [(1,.box [sv ByteArray.empty,iv 0,iv 0,iv 0,iv 0,nv,nv,nv]),(2,.box [sv a1.Name,iv x2.A,iv x2.B,iv x2.C,iv a1.Size,rr 3 x4,rr 4 x6,rr 5 x8]),(3,rE 1 eStr x4),(4,rE 1 (eSl true 7 Term.enc) x6),(5,rE 7 Term.enc x8)] (zD 2 (vC («as»:=[sl 7 Term.enc a1.Bars]) [(.tmp 23)] [54] false [] [] (.cons (.same rfl) (.nil)) (zAR.ok a1.Bars) h9 (.own 5)) zB) ?_
 refine J_g 1022 [] [(2,pp 1)] [(1,.box [sv a1.Name,iv x2.A,iv x2.B,iv x2.C,iv a1.Size,rr 3 x4,rr 4 x6,rr 5 x8]),(3,rE 1 eStr x4),(4,rE 1 (eSl true 7 Term.enc) x6),(5,rE 7 Term.enc x8)] zB ?_
 exact zEl (ds:=[.ag [sv a1.Name,iv x2.A,iv x2.B,iv x2.C,iv a1.Size,rr 3 x4,rr 4 x6,rr 5 x8]]) (ds':=[.ag [sv a1.Name,iv x2.A,iv x2.B,iv x2.C,iv a1.Size,so 1 eStr x4,so 1 (eSl true 7 Term.enc) x6,so 7 Term.enc x8]]) (.cons (.ag (.keep rfl (.keep rfl (.keep rfl (.keep rfl (.keep rfl (.move (.tail _ (.head _)) (List.length_map _) (by decide) (.move (.tail _ (.tail _ (.head _))) (List.length_map _) (by decide) (.move (.tail _ (.tail _ (.tail _ (.head _)))) (List.length_map _) (by decide) (.nil)))))))))) (.nil) (by decide)) rfl
noncomputable def c8:Code:=(Tryz.f8.body).getD .skip
theorem zCV.ok (a1:(List Pack)) (q:Wd) (kn:(List Pack)→Option (D×List Ent)) (hk:∀v:(List Pack),J (q.g Tryz.prog 8 0 23) c8 (atI c8 15) (St.mk' [(3,rr 0 v)] [(0,rE 8 (Pack.enc true) v)]) (some v) kn):
  ∀s11:((List Pack)×Int),J (q.g Tryz.prog 8 0 23) c8 (atI c8 116) (St.mk' [(0,sl 8 (Pack.enc false) a1),(3,rr 0 s11.1),(4,iv s11.2)] [(0,rE 8 (Pack.enc true) s11.1)]) (zCV a1 s11) kn:=by
 refine tV (fun g ih s11=>?_)
 unfold zDM
 refine J_d 464 [] [11] [(11,bv (decide (s11.2< (a1.length:Int))))] [] [] zB ?_
 refine zF 11 (fun h12=>?_) (fun h12=>?_)
 ·refine zA (fun x13 h14=>?_)
  refine zA (fun x15 h16=>?_)
  refine zA (fun x17 h18=>?_)
  refine J_g 932 [] [(0,sl 8 (Pack.enc false) a1),(3,rr 0 s11.1),(4,iv s11.2)] [(0,rE 8 (Pack.enc true) (s11.1.set s11.2.toNat x15))] (zD 4 (tT (kk:=.i64) 22 56 8 (Pack.enc false) (.tmp 16) (.tmp 17) h14) (zD 6 (vC («as»:=[.ag (Pack.enc false x13)]) [(.tmp 19)] [56] false [] [] (.cons (.same rfl) (.nil)) (zDU.ok x13) h16 (.ag (.cons (.same rfl rfl) (.cons (.same rfl rfl) (.cons (.same rfl rfl) (.cons (.same rfl rfl) (.cons (.same rfl rfl) (.cons (.own 1) (.cons (.own 2) (.cons (.own 3) (.nil))))))))))) (zD 7 (jT (kk:=.i64) 28 63 8 0 (Pack.enc true) (.tmp 14) (.tmp 15) h18) (zGT 8 (zOU (b:=x15) (es':=[sv x15.Name,iv x15.Version.A,iv x15.Version.B,iv x15.Version.C,iv x15.Size,so 1 eStr x15.Provides,so 1 (eSl true 7 Term.enc) x15.Needs,so 7 Term.enc x15.Bars]) (ts:=[1,2,3]) 63 8 0 0 (Pack.enc true) (.ag [sv x15.Name,iv x15.Version.A,iv x15.Version.B,iv x15.Version.C,iv x15.Size,rr 1 x15.Provides,rr 2 x15.Needs,rr 3 x15.Bars]) (.tmp 21) (.tmp 20) [(1,rE 1 eStr x15.Provides),(2,rE 1 (eSl true 7 Term.enc) x15.Needs),(3,rE 7 Term.enc x15.Bars)] h18 (.keep rfl (.keep rfl (.keep rfl (.keep rfl (.keep rfl (.move (.head _) (List.length_map _) (by decide) (.move (.tail _ (.head _)) (List.length_map _) (by decide) (.move (.tail _ (.tail _ (.head _))) (List.length_map _) (by decide) (.nil))))))))) rfl) zB)))) ?_
  refine zFr (σ':=St.mk' [(0,sl 8 (Pack.enc false) a1),(3,rr 0 (s11.1.set s11.2.toNat x15)),(4,iv s11.2)] [(0,rE 8 (Pack.enc true) (s11.1.set s11.2.toNat x15))]) (by simp only [rr,List.length_set]) ?_
  refine J_d 467 [] [4] [(4,iv (w64 (s11.2+1)))] [] [] zB ?_
  exact J_q (J_b (ih (s11.1.set s11.2.toNat x15,w64 (s11.2+1)))) rfl
 ·exact wD (hk s11.1) rfl
theorem xO.ok (a1:(List Pack)):Ok Tryz.prog 8 [sl 8 (Pack.enc false) a1] [] ((xO a1).map fun r=>(so 8 (Pack.enc true) r,[])):=by
 refine zG c8 Tryz.f8 0 23 (fun q=>?_)
 unfold xO
 refine J_d 2 [] [] [] [] [] zB ?_
 refine zA (fun x2 h3=>?_)
 refine J_g 6 [] [(0,sl 8 (Pack.enc false) a1),(3,rr 0 x2)] [(0,rE 8 (Pack.enc true) x2)] (zD 2 (zPe 28 63 8 120 0 (Pack.enc true) ({Name:=ByteArray.empty,Version:=({A:=0,B:=0,C:=0}:Version),Size:=0,Provides:=([]:List ByteArray),Needs:=([]:List (List Term)),Bars:=([]:List Term)}:Pack) (.tmp 6) h3 (.keep rfl (.keep rfl (.keep rfl (.keep rfl (.keep rfl (.nilsl true 1 (.nilsl true 1 (.nilsl true 7 (.nil)))))))))) zB) ?_
 refine J_d 28 [] [4] [(4,iv 0)] [] [] zB ?_
 refine zE2 (zCV.ok a1 q _ (fun v19=>J_j ?_) (x2,0))
 refine J_g 30 [] [(2,rr 0 v19)] [(0,rE 8 (Pack.enc true) v19)] zB ?_
 exact zEl (ds:=[rr 0 v19]) (ds':=[so 8 (Pack.enc true) v19]) (.cons (.cell (.move (.head _) (List.length_map _) (by decide) (.nil))) (.nil) (by decide)) rfl
noncomputable def c9:Code:=(Tryz.f9.body).getD .skip
theorem zCu.ok (a1:(List Int)) (q:Wd) (kn:(List Int)→Option (D×List Ent)) (hk:∀v:(List Int),J (q.g Tryz.prog 9 0 22) c9 (atI c9 15) (St.mk' [(3,rr 0 v)] [(0,rE 1 zC v)]) (some v) kn):
  ∀s9:((List Int)×Int),J (q.g Tryz.prog 9 0 22) c9 (atI c9 116) (St.mk' [(0,sl 1 zC a1),(3,rr 0 s9.1),(4,iv s9.2)] [(0,rE 1 zC s9.1)]) (zCu a1 s9) kn:=by
 refine tV (fun g ih s9=>?_)
 unfold zDz
 refine J_d 464 [] [11] [(11,bv (decide (s9.2< (a1.length:Int))))] [] [] zB ?_
 refine zF 11 (fun h10=>?_) (fun h10=>?_)
 ·refine zA (fun x11 h12=>?_)
  refine zA (fun x13 h14=>?_)
  refine J_g 932 [] [(0,sl 1 zC a1),(3,rr 0 s9.1),(4,iv s9.2)] [(0,rE 1 zC (s9.1.set s9.2.toNat x11))] (zD 4 (tT (kk:=.i64) 23 2 1 zC (.tmp 16) (.tmp 17) h12) (zD 6 (jT (kk:=.i64) 23 2 1 0 zC (.tmp 14) (.tmp 15) h14) (zGT 7 (zIb (b:=x11) 2 1 0 0 zC (iv x11) (.tmp 20) (.tmp 19) h14 rfl) zB))) ?_
  refine zFr (σ':=St.mk' [(0,sl 1 zC a1),(3,rr 0 (s9.1.set s9.2.toNat x11)),(4,iv s9.2)] [(0,rE 1 zC (s9.1.set s9.2.toNat x11))]) (by simp only [rr,List.length_set]) ?_
  refine J_d 467 [] [4] [(4,iv (w64 (s9.2+1)))] [] [] zB ?_
  exact J_q (J_b (ih (s9.1.set s9.2.toNat x11,w64 (s9.2+1)))) rfl
 ·exact wD (hk s9.1) rfl
theorem zH.ok (a1:(List Int)):Ok Tryz.prog 9 [sl 1 zC a1] [] ((zH a1).map fun r=>(so 1 zC r,[])):=by
 refine zG c9 Tryz.f9 0 22 (fun q=>?_)
 unfold zH
 refine J_d 2 [] [] [] [] [] zB ?_
 refine zA (fun x2 h3=>?_)
 refine J_g 6 [] [(0,sl 1 zC a1),(3,rr 0 x2)] [(0,rE 1 zC x2)] (zD 2 (zPe 23 2 1 8 0 zC 0 (.tmp 6) h3 (.keep rfl (.nil))) zB) ?_
 refine J_d 28 [] [4] [(4,iv 0)] [] [] zB ?_
 refine zE2 (zCu.ok a1 q _ (fun v15=>J_j ?_) (x2,0))
 refine J_g 30 [] [(2,rr 0 v15)] [(0,rE 1 zC v15)] zB ?_
 exact zEl (ds:=[rr 0 v15]) (ds':=[so 1 zC v15]) (.cons (.cell (.move (.head _) (List.length_map _) (by decide) (.nil))) (.nil) (by decide)) rfl
noncomputable def zQw:Code:=(Tryz.f185.body).getD .skip
theorem jF.ok (a1:Int):Ok Tryz.prog 185 [uv a1] [] ((jF a1).map fun r=>(bv r,[])):=by
 refine zG zQw Tryz.f185 0 9 (fun q=>?_)
 unfold jF
 refine J_g 2 [] [(0,uv a1)] [] zB ?_
 refine tJ (fun h2=>?_) (fun h2=>?_)
 ·refine J_g 6 [] [(2,bv (decide (a1≤122)))] [] (uE 2 [(4,bv (decide (a1≥97)))] [] h2 zB) ?_
  exact zQ rfl
 ·refine J_g 6 [] [(2,bv false)] [] (uE 2 [(4,bv (decide (a1≥97)))] [] h2 zB) ?_
  exact zQ rfl
noncomputable def zQd:Code:=(Tryz.f211.body).getD .skip
theorem zBJ.ok (a1:Int):Ok Tryz.prog 211 [uv a1] [] ((zBJ a1).map fun r=>(bv r,[])):=by
 refine zG zQd Tryz.f211 0 9 (fun q=>?_)
 unfold zBJ
 refine J_g 2 [] [(0,uv a1)] [] zB ?_
 refine tJ (fun h2=>?_) (fun h2=>?_)
 ·refine J_g 6 [] [(2,bv (decide (a1≤57)))] [] (uE 2 [(4,bv (decide (a1≥48)))] [] h2 zB) ?_
  exact zQ rfl
 ·refine J_g 6 [] [(2,bv false)] [] (uE 2 [(4,bv (decide (a1≥48)))] [] h2 zB) ?_
  exact zQ rfl
noncomputable def zQn:Code:=(Tryz.f186.body).getD .skip
theorem zDT.ok (a1:Int):Ok Tryz.prog 186 [uv a1] [] ((zDT a1).map fun r=>(bv r,[])):=by
 refine zG zQn Tryz.f186 0 13 (fun q=>?_)
 unfold zDT
 refine J_g 2 [] [(0,uv a1)] [] zB ?_
 refine zA (fun x2 h3=>?_)
 refine tJ (fun h4=>?_) (fun h4=>?_)
 ·refine J_g 6 [] [(2,bv true)] [] (zD 1 (vG [(.tmp 3)] [5] (jF.ok a1) h3) (uE 2 [(4,bv x2)] [] h4 zB)) ?_
  exact zQ rfl
 ·refine zA (fun x5 h6=>?_)
  refine tJ (fun h7=>?_) (fun h7=>?_)
  ·refine J_g 6 [] [(2,bv true)] [] (zD 1 (vG [(.tmp 3)] [5] (jF.ok a1) h3) (uE 2 [(4,bv x2)] [] h4 (zCR 4 2 5 false (vG [(.tmp 6)] [5] (zBJ.ok a1) h6) (uE 6 [(8,bv x5)] [] h7 zB)))) ?_
   exact zQ rfl
  ·refine J_g 6 [] [(2,bv (a1==95))] [] (zD 1 (vG [(.tmp 3)] [5] (jF.ok a1) h3) (uE 2 [(4,bv x2)] [] h4 (zCR 4 2 5 false (vG [(.tmp 6)] [5] (zBJ.ok a1) h6) (uE 6 [(8,bv x5)] [] h7 zB)))) ?_
   exact zQ rfl
noncomputable def zOk:Code:=(Tryz.f140.body).getD .skip
theorem zAg.ok (a1:ByteArray) (q:Wd) (kn:Unit→Option (D×List Ent)) (hk:∀v:Unit,J (q.g Tryz.prog 140 0 29) zOk (atI zOk 15) (St.mk' [] []) (some v) kn):
  ∀s16:Int,J (q.g Tryz.prog 140 0 29) zOk (atI zOk 116) (St.mk' [(0,sv a1),(3,iv s16)] []) (zAg a1 s16) (Fl.go (fun r:Int=>some (iv r,[])) kn):=by
 refine tV (fun g ih s16=>?_)
 unfold zC7
 refine J_d 464 [] [21] [(21,bv (decide (s16< (a1.size:Int))))] [] [] zB ?_
 refine zF 21 (fun h17=>?_) (fun h17=>?_)
 ·refine zA (fun x18 h19=>?_)
  refine zA (fun x20 h21=>?_)
  refine J_d 1864 [] [21,28] [(28,bv (!x20))] [] [] (zD 2 (zOo (kk:=.i64) 9 (.tmp 24) (.tmp 25) h19) (zD 3 (vG [(.tmp 26)] [5] (zDT.ok x18) h21) zB)) ?_
  refine zF 28 (fun h22=>?_) (fun h22=>?_)
  ·refine J_g 7460 [] [(2,iv 5)] [] zB ?_
   exact zQ rfl
  ·refine J_g 467 [] [(0,sv a1),(3,iv (w64 (s16+1)))] [] zB ?_
   exact J_q (J_b (ih (w64 (s16+1)))) rfl
 ·exact wD (hk ()) rfl
theorem uR.ok (a1:ByteArray):Ok Tryz.prog 140 [sv a1] [] ((uR a1).map fun r=>(iv r,[])):=by
 refine zG zOk Tryz.f140 0 29 (fun q=>?_)
 unfold uR
 refine J_g 2 [] [(0,sv a1)] [] zB ?_
 refine vW (atI zOk 13) (fun v8:Bool=>St.mk' [(0,sv a1),(17,bv v8)] []) (fun v8=>?_) (fun jv8=>?_)
 ·refine zF 17 (fun h9=>?_) (fun h9=>?_)
  ·refine J_g 52 [] [(2,iv 5)] [] zB ?_
   exact zQ rfl
  ·refine J_g 28 [] [(0,sv a1),(3,iv 0)] [] zB ?_
   refine uP (K0:=(fun r:Int=>some (iv r,[]))) (fun _=>rfl) (zAg.ok a1 q _ (fun v23=>J_j ?_) 0)
   refine J_g 30 [] [(2,iv 0)] [] zB ?_
   exact zQ rfl
 ·refine tJ (fun h2=>?_) (fun h2=>?_)
  ·refine J_g 12 [] [(0,sv a1),(17,bv true)] [] (uE 3 [(6,bv (decide ((a1.size:Int)<1)))] [] h2 zB) ?_
   exact wD (J_j (jv8 true)) rfl
  ·refine tJ (fun h3=>?_) (fun h3=>?_)
   ·refine J_g 12 [] [(0,sv a1),(17,bv true)] [] (uE 3 [(6,bv (decide ((a1.size:Int)<1)))] [] h2 (uE 8 [(11,bv (decide ((a1.size:Int)>12)))] [] h3 zB)) ?_
    exact wD (J_j (jv8 true)) rfl
   ·refine zA (fun x4 h5=>?_)
    refine zA (fun x6 h7=>?_)
    refine J_g 12 [] [(0,sv a1),(17,bv (!x6))] [] (uE 3 [(6,bv (decide ((a1.size:Int)<1)))] [] h2 (uE 8 [(11,bv (decide ((a1.size:Int)>12)))] [] h3 (zCR 10 8 12 false (zOo (kk:=.i64) 9 (.tmp 13) (.const (.int .i64 0)) h5) (zCR 11 8 12 false (vG [(.tmp 14)] [5] (jF.ok x4) h7) zB)))) ?_
    exact wD (J_j (jv8 (!x6))) rfl
noncomputable def c119:Code:=(Tryz.f119.body).getD .skip
theorem tN.ok (a1:Int) (a2:Int) (a3:Int):Ok Tryz.prog 119 [iv a1,iv a2,iv a3] [] ((tN a1 a2 a3).map fun r=>(bv r,[])):=by
 refine zG c119 Tryz.f119 0 15 (fun q=>?_)
 unfold tN
 refine J_d 2 [] [] [] [] [] zB ?_
 refine tJ (fun h4=>?_) (fun h4=>?_)
 ·refine J_g 6 [] [(6,bv (decide (a1≤a3)))] [] (uE 3 [(9,bv (decide (a1≥a2)))] [] h4 zB) ?_
  exact zQ rfl
 ·refine J_g 6 [] [(6,bv false)] [] (uE 3 [(9,bv (decide (a1≥a2)))] [] h4 zB) ?_
  exact zQ rfl
noncomputable def c141:Code:=(Tryz.f141.body).getD .skip
theorem vH.ok (a1:Version):Ok Tryz.prog 141 [.ag (Version.enc a1)] [] ((vH a1).map fun r=>(iv r,[])):=by
 refine zG c141 Tryz.f141 0 19 (fun q=>?_)
 unfold vH
 refine J_g 2 [(0,0)] [(1,pp 0)] [(0,.box (Version.enc a1))] zB ?_
 refine zA (fun x2 h3=>?_)
 refine vW (atI c141 13) (fun v10:Bool=>St.mk' [(18,bv v10)] []) (fun v10=>?_) (fun jv10=>?_)
 ·refine zF 18 (fun h11=>?_) (fun h11=>?_)
  ·refine J_g 52 [] [(2,iv 3)] [] zB ?_
   exact zQ rfl
  ·refine J_g 14 [] [(2,iv 0)] [] zB ?_
   exact zQ rfl
 ·refine tJ (fun h4=>?_) (fun h4=>?_)
  ·refine J_g 12 [] [(18,bv true)] [] (zD 2 (vG [(.tmp 4),(.const (.int .i64 0)),(.const (.int .i64 999))] [2,2,2] (tN.ok a1.A 0 999) h3) (uE 4 [(6,bv (!x2))] [] h4 zB)) ?_
   exact wD (J_j (jv10 true)) rfl
  ·refine zA (fun x5 h6=>?_)
   refine tJ (fun h7=>?_) (fun h7=>?_)
   ·refine J_g 12 [] [(18,bv true)] [] (zD 2 (vG [(.tmp 4),(.const (.int .i64 0)),(.const (.int .i64 999))] [2,2,2] (tN.ok a1.A 0 999) h3) (uE 4 [(6,bv (!x2))] [] h4 (zCR 7 4 7 false (vG [(.tmp 9),(.const (.int .i64 0)),(.const (.int .i64 999))] [2,2,2] (tN.ok a1.B 0 999) h6) (uE 10 [(12,bv (!x5))] [] h7 zB)))) ?_
    exact wD (J_j (jv10 true)) rfl
   ·refine zA (fun x8 h9=>?_)
    refine J_g 12 [] [(18,bv (!x8))] [] (zD 2 (vG [(.tmp 4),(.const (.int .i64 0)),(.const (.int .i64 999))] [2,2,2] (tN.ok a1.A 0 999) h3) (uE 4 [(6,bv (!x2))] [] h4 (zCR 7 4 7 false (vG [(.tmp 9),(.const (.int .i64 0)),(.const (.int .i64 999))] [2,2,2] (tN.ok a1.B 0 999) h6) (uE 10 [(12,bv (!x5))] [] h7 (zCR 13 10 13 false (vG [(.tmp 15),(.const (.int .i64 0)),(.const (.int .i64 999))] [2,2,2] (tN.ok a1.C 0 999) h9) zB))))) ?_
    exact wD (J_j (jv10 (!x8))) rfl
noncomputable def c50:Code:=(Tryz.f50.body).getD .skip
theorem zDj.ok (a1:(List ByteArray)) (a2:ByteArray) (q:Wd) (kn:Unit→Option (D×List Ent)) (hk:∀v:Unit,J (q.g Tryz.prog 50 0 18) c50 (atI c50 7) (St.mk' [] []) (some v) kn):
  ∀s7:Int,J (q.g Tryz.prog 50 0 18) c50 (atI c50 52) (St.mk' [(0,sl 1 eStr a1),(1,sv a2),(5,iv s7)] []) (zDj a1 a2 s7) (Fl.go (fun r:Bool=>some (bv r,[])) kn):=by
 refine tV (fun g ih s7=>?_)
 unfold zCp
 refine J_d 208 [] [9] [(9,bv (decide (s7< (a1.length:Int))))] [] [] zB ?_
 refine zF 9 (fun h8=>?_) (fun h8=>?_)
 ·refine zA (fun x9 h10=>?_)
  refine J_d 840 [] [9,17] [(17,bv (seq x9 a2))] [] [] (zD 2 (tT (kk:=.i64) 52 9 1 eStr (.tmp 12) (.tmp 13) h10) zB) ?_
  refine zF 17 (fun h11=>?_) (fun h11=>?_)
  ·refine J_g 3364 [] [(4,bv true)] [] zB ?_
   exact zQ rfl
  ·refine J_d 211 [] [5,17] [(5,iv (w64 (s7+1)))] [] [] zB ?_
   exact J_q (J_b (ih (w64 (s7+1)))) rfl
 ·exact wD (hk ()) rfl
theorem wP.ok (a1:(List ByteArray)) (a2:ByteArray):Ok Tryz.prog 50 [sl 1 eStr a1,sv a2] [] ((wP a1 a2).map fun r=>(bv r,[])):=by
 refine zG c50 Tryz.f50 0 18 (fun q=>?_)
 unfold wP
 refine J_g 2 [] [(0,sl 1 eStr a1),(1,sv a2)] [] zB ?_
 refine J_d 12 [] [5] [(5,iv 0)] [] [] zB ?_
 refine uP (K0:=(fun r:Bool=>some (bv r,[]))) (fun _=>rfl) (zDj.ok a1 a2 q _ (fun v12=>J_j ?_) 0)
 refine J_g 14 [] [(4,bv false)] [] zB ?_
 exact zQ rfl
noncomputable def c212:Code:=(Tryz.f212.body).getD .skip
theorem zEt.ok:Ok Tryz.prog 212 [] [] ((zEt).map fun r=>(.ag (Version.enc r),[])):=by
 refine zG c212 Tryz.f212 0 2 (fun q=>?_)
 unfold zEt
 refine J_g 2 [(0,0)] [(0,pp 0)] [(0,.box [iv 0,iv 0,iv 0])] zB ?_
 refine J_g 6 [] [(0,pp 0)] [(0,.box [iv 1000,iv 0,iv 0])] zB ?_
 exact zQ rfl
noncomputable def zQu:Code:=(Tryz.f188.body).getD .skip
theorem zA4.ok (a1:Int) (a2:Int):Ok Tryz.prog 188 [iv a1,iv a2] [] ((zA4 a1 a2).map fun r=>(iv r,[])):=by
 refine zG zQu Tryz.f188 0 11 (fun q=>?_)
 unfold zA4
 refine J_g 2 [] [(0,iv a1),(1,iv a2)] [] zB ?_
 refine J_d 12 [] [7] [(7,bv (decide (a1<a2)))] [] [] zB ?_
 refine zF 7 (fun h3=>?_) (fun h3=>?_)
 ·refine J_g 52 [] [(4,iv (-1))] [] zB ?_
  exact zQ rfl
 ·refine J_g 28 [] [(10,bv (decide (a1>a2)))] [] zB ?_
  refine zF 10 (fun h4=>?_) (fun h4=>?_)
  ·refine J_g 116 [] [(4,iv 1)] [] zB ?_
   exact zQ rfl
  ·refine J_g 30 [] [(4,iv 0)] [] zB ?_
   exact zQ rfl
noncomputable def c143:Code:=(Tryz.f143.body).getD .skip
theorem xJ.ok (a1:Version) (a2:Version):Ok Tryz.prog 143 [.ag (Version.enc a1),.ag (Version.enc a2)] [] ((xJ a1 a2).map fun r=>(iv r,[])):=by
 refine zG c143 Tryz.f143 0 28 (fun q=>?_)
 unfold xJ
 refine J_g 2 [(0,0),(1,1)] [(2,pp 0),(3,pp 1)] [(0,.box (Version.enc a1)),(1,.box (Version.enc a2))] zB ?_
 refine zA (fun x3 h4=>?_)
 refine J_g 12 [] [(2,pp 0),(3,pp 1),(5,iv x3)] [(0,.box (Version.enc a1)),(1,.box (Version.enc a2))] (zD 4 (vG [(.tmp 8),(.tmp 10)] [2,2] (zA4.ok a1.A a2.A) h4) zB) ?_
 refine J_d 26 [] [13] [(13,bv (x3 !=0))] [] [] zB ?_
 refine zF 13 (fun h5=>?_) (fun h5=>?_)
 ·refine J_g 108 [] [(4,iv x3)] [] zB ?_
  exact zQ rfl
 ·refine zA (fun x6 h7=>?_)
  refine J_g 28 [] [(2,pp 0),(3,pp 1),(6,iv x6)] [(0,.box (Version.enc a1)),(1,.box (Version.enc a2))] (zD 4 (vG [(.tmp 16),(.tmp 18)] [2,2] (zA4.ok a1.B a2.B) h7) zB) ?_
  refine J_d 58 [] [21] [(21,bv (x6 !=0))] [] [] zB ?_
  refine zF 21 (fun h8=>?_) (fun h8=>?_)
  ·refine J_g 236 [] [(4,iv x6)] [] zB ?_
   exact zQ rfl
  ·refine zA (fun x9 h10=>?_)
   refine J_g 30 [] [(4,iv x9)] [] (zD 4 (vG [(.tmp 24),(.tmp 26)] [2,2] (zA4.ok a1.C a2.C) h10) zB) ?_
   exact zQ rfl
noncomputable def zPH:Code:=(Tryz.f187.body).getD .skip
theorem zBj.ok (a1:Term):Ok Tryz.prog 187 [.ag (Term.enc a1)] [] ((zBj a1).map fun r=>(iv r,[])):=by
 refine zG zPH Tryz.f187 0 33 (fun q=>?_)
 unfold zBj
 refine J_g 2 [(0,0)] [(1,pp 0)] [(0,.box (Term.enc a1))] zB ?_
 refine zA (fun x2 h3=>?_)
 refine J_g 12 [] [(1,pp 0),(3,iv x2)] [(0,.box (Term.enc a1))] (zD 2 (vG [(.tmp 6)] [9] (uR.ok a1.Name) h3) zB) ?_
 refine J_d 26 [] [9] [(9,bv (x2 !=0))] [] [] zB ?_
 refine zF 9 (fun h4=>?_) (fun h4=>?_)
 ·refine J_g 108 [] [(2,iv x2)] [] zB ?_
  exact zQ rfl
 ·refine zA (fun x5 h6=>?_)
  refine J_g 28 [] [(1,pp 0),(4,iv x5)] [(0,.box (Term.enc a1))] (zD 2 (vG [(.tmp 12)] [59] (vH.ok a1.Low) h6) zB) ?_
  refine J_d 58 [] [15] [(15,bv (x5 !=0))] [] [] zB ?_
  refine zF 15 (fun h7=>?_) (fun h7=>?_)
  ·refine J_g 236 [] [(2,iv x5)] [] zB ?_
   exact zQ rfl
  ·refine zA (fun x8 h9=>?_)
   refine vW (atI zPH 61) (fun v13:Bool=>St.mk' [(1,pp 0),(26,bv v13)] [(0,.box (Term.enc a1))]) (fun v13=>?_) (fun jv13=>?_)
   ·refine zF 26 (fun h14=>?_) (fun h14=>?_)
    ·refine J_g 244 [] [(2,iv 3)] [] zB ?_
     exact zQ rfl
    ·refine zA (fun x15 h16=>?_)
     refine J_g 124 [] [(32,bv (decide (x15≥0)))] [] (zD 4 (vG [(.tmp 28),(.tmp 30)] [59,59] (xJ.ok a1.Low a1.High) h16) zB) ?_
     refine zF 32 (fun h17=>?_) (fun h17=>?_)
     ·refine J_g 500 [] [(2,iv 1)] [] zB ?_
      exact zQ rfl
     ·refine J_g 126 [] [(2,iv 0)] [] zB ?_
      exact zQ rfl
   ·refine tJ (fun h10=>?_) (fun h10=>?_)
    ·refine zA (fun x11 h12=>?_)
     refine J_d 60 [] [4,15,26] [(26,bv (x11 !=0))] [] [] (zD 2 (vG [] [] (zEt.ok) h9) (zD 3 (zLY (b:=.neq) (r:=(a1.High.A==x8.A&&(a1.High.B==x8.B&&(a1.High.C==x8.C&&true)))) 59 59 (.tmp 18) (.tmp 19) [.int .i64 a1.High.A,.int .i64 a1.High.B,.int .i64 a1.High.C] [.int .i64 x8.A,.int .i64 x8.B,.int .i64 x8.C] (.inr ⟨rfl,rfl⟩)) (uE 4 [(20,bv (!(a1.High.A==x8.A&&(a1.High.B==x8.B&&(a1.High.C==x8.C&&true)))))] [] h10 (zCR 7 4 21 true (vG [(.tmp 23)] [59] (vH.ok a1.High) h12) zB)))) ?_
     exact wD (J_j (jv13 (x11 !=0))) rfl
    ·refine J_d 60 [] [4,15,26] [(26,bv false)] [] [] (zD 2 (vG [] [] (zEt.ok) h9) (zD 3 (zLY (b:=.neq) (r:=(a1.High.A==x8.A&&(a1.High.B==x8.B&&(a1.High.C==x8.C&&true)))) 59 59 (.tmp 18) (.tmp 19) [.int .i64 a1.High.A,.int .i64 a1.High.B,.int .i64 a1.High.C] [.int .i64 x8.A,.int .i64 x8.B,.int .i64 x8.C] (.inr ⟨rfl,rfl⟩)) (uE 4 [(20,bv (!(a1.High.A==x8.A&&(a1.High.B==x8.B&&(a1.High.C==x8.C&&true)))))] [] h10 zB))) ?_
     exact wD (J_j (jv13 false)) rfl
noncomputable def zPb:Code:=(Tryz.f142.body).getD .skip
theorem zCU.ok (a1:(List Term)) (q:Wd) (kn:Unit→Option (D×List Ent)) (hk:∀v:Unit,J (q.g Tryz.prog 142 0 19) zPb (atI zPb 7) (St.mk' [] []) (some v) kn):
  ∀s8:Int,J (q.g Tryz.prog 142 0 19) zPb (atI zPb 52) (St.mk' [(0,sl 7 Term.enc a1),(3,iv s8)] []) (zCU a1 s8) (Fl.go (fun r:Int=>some (iv r,[])) kn):=by
 refine tV (fun g ih s8=>?_)
 unfold zCt
 refine J_d 208 [] [8] [(8,bv (decide (s8< (a1.length:Int))))] [] [] zB ?_
 refine zF 8 (fun h9=>?_) (fun h9=>?_)
 ·refine zA (fun x10 h11=>?_)
  refine zA (fun x12 h13=>?_)
  refine J_g 840 [] [(0,sl 7 Term.enc a1),(3,iv s8),(4,iv x12)] [] (zD 2 (tT (kk:=.i64) 61 102 7 Term.enc (.tmp 11) (.tmp 12) h11) (zD 4 (vG [(.tmp 14)] [102] (zBj.ok x10) h13) zB)) ?_
  refine J_d 1682 [] [17] [(17,bv (x12 !=0))] [] [] zB ?_
  refine zF 17 (fun h14=>?_) (fun h14=>?_)
  ·refine J_g 6732 [] [(2,iv x12)] [] zB ?_
   exact zQ rfl
  ·refine J_g 211 [] [(0,sl 7 Term.enc a1),(3,iv (w64 (s8+1)))] [] zB ?_
   exact J_q (J_b (ih (w64 (s8+1)))) rfl
 ·exact wD (hk ()) rfl
theorem zAd.ok (a1:(List Term)):Ok Tryz.prog 142 [sl 7 Term.enc a1] [] ((zAd a1).map fun r=>(iv r,[])):=by
 refine zG zPb Tryz.f142 0 19 (fun q=>?_)
 unfold zAd
 refine J_g 2 [] [(0,sl 7 Term.enc a1)] [] zB ?_
 refine J_d 12 [] [3] [(3,iv 0)] [] [] zB ?_
 refine uP (K0:=(fun r:Int=>some (iv r,[]))) (fun _=>rfl) (zCU.ok a1 q _ (fun v15=>J_j ?_) 0)
 refine J_g 14 [] [(2,iv 0)] [] zB ?_
 exact zQ rfl
noncomputable def c117:Code:=(Tryz.f117.body).getD .skip
theorem zAl.ok (a1:Pack) (q:Wd) (kn:Unit→Option (D×List Ent)) (hk:∀v:Unit,J (q.g Tryz.prog 117 0 118) c117 (atI c117 511) (St.mk' [(1,pp 0)] [(0,.box (Pack.enc false a1))]) (some v) kn):
  ∀s70:Int,J (q.g Tryz.prog 117 0 118) c117 (atI c117 4084) (St.mk' [(1,pp 0),(8,iv s70)] [(0,.box (Pack.enc false a1))]) (zAl a1 s70) (Fl.go (fun r:Int=>some (iv r,[])) kn):=by
 refine tV (fun g ih s70=>?_)
 unfold zAG
 refine J_d 16336 [] [96] [(96,bv (decide (s70< (a1.Needs.length:Int))))] [] [] zB ?_
 refine zF 96 (fun h71=>?_) (fun h71=>?_)
 ·refine zA (fun x72 h73=>?_)
  refine J_d 130704 [] [96,105] [(105,bv ((x72.length:Int)==0))] [] [] (zD 3 (tT (kk:=.i64) 60 61 1 (eSl false 7 Term.enc) (.tmp 100) (.tmp 101) h73) zB) ?_
  refine zF 105 (fun h74=>?_) (fun h74=>?_)
  ·refine J_g 522820 [] [(2,iv 1)] [] zB ?_
   exact zQ rfl
  ·refine zA (fun x75 h76=>?_)
   refine zA (fun x77 h78=>?_)
   refine J_g 130706 [] [(1,pp 0),(8,iv s70),(9,iv x77)] [(0,.box (Pack.enc false a1))] (zD 3 (tT (kk:=.i64) 60 61 1 (eSl false 7 Term.enc) (.tmp 107) (.tmp 108) h76) (zD 5 (vG [(.tmp 110)] [61] (zAd.ok x75) h78) zB)) ?_
   refine J_d 261414 [] [113] [(113,bv (x77 !=0))] [] [] zB ?_
   refine zF 113 (fun h79=>?_) (fun h79=>?_)
   ·refine J_g 1045660 [] [(2,iv x77)] [] zB ?_
    exact zQ rfl
   ·refine J_d 16339 [] [8,9,113] [(8,iv (w64 (s70+1)))] [] [] zB ?_
    exact J_q (J_b (ih (w64 (s70+1)))) rfl
 ·exact wD (hk ()) rfl
theorem zAn.ok (a1:Pack) (q:Wd) (kn:Unit→Option (D×List Ent)) (hk:∀v:Unit,J (q.g Tryz.prog 117 0 118) c117 (atI c117 255) (St.mk' [(1,pp 0)] [(0,.box (Pack.enc false a1))]) (some v) kn):
  ∀s42:Int,J (q.g Tryz.prog 117 0 118) c117 (atI c117 2036) (St.mk' [(1,pp 0),(6,iv s42)] [(0,.box (Pack.enc false a1))]) (zAn a1 s42) (Fl.go (fun r:Int=>some (iv r,[])) kn):=by
 refine tV (fun g ih s42=>?_)
 unfold zAN
 refine J_d 8144 [] [60] [(60,bv (decide (s42< (a1.Provides.length:Int))))] [] [] zB ?_
 refine zF 60 (fun h43=>?_) (fun h43=>?_)
 ·refine zA (fun x44 h45=>?_)
  refine zA (fun x46 h47=>?_)
  refine J_g 65168 [] [(1,pp 0),(6,iv s42),(7,iv x46)] [(0,.box (Pack.enc false a1))] (zD 3 (tT (kk:=.i64) 52 9 1 eStr (.tmp 64) (.tmp 65) h45) (zD 5 (vG [(.tmp 67)] [9] (uR.ok x44) h47) zB)) ?_
  refine J_d 130338 [] [70] [(70,bv (x46 !=0))] [] [] zB ?_
  refine zF 70 (fun h48=>?_) (fun h48=>?_)
  ·refine J_g 521356 [] [(2,iv x46)] [] zB ?_
   exact zQ rfl
  ·refine zA (fun x49 h50=>?_)
   refine vW (atI c117 65171) (fun v58:Bool=>St.mk' [(1,pp 0),(6,iv s42),(91,bv v58)] [(0,.box (Pack.enc false a1))]) (fun v58=>?_) (fun jv58=>?_)
   ·refine zF 91 (fun h59=>?_) (fun h59=>?_)
    ·refine J_g 260684 [] [(2,iv 6)] [] zB ?_
     exact zQ rfl
    ·refine J_d 8147 [] [6,91] [(6,iv (w64 (s42+1)))] [] [] zB ?_
     exact J_q (J_b (ih (w64 (s42+1)))) rfl
   ·refine tJ (fun h51=>?_) (fun h51=>?_)
    ·refine J_d 65170 [] [7,70,91] [(91,bv true)] [] [] (zD 3 (tT (kk:=.i64) 52 9 1 eStr (.tmp 73) (.tmp 74) h50) (uE 8 [(79,bv (seq x49 a1.Name))] [] h51 zB)) ?_
     exact wD (J_j (jv58 true)) rfl
    ·refine zA (fun x52 h53=>?_)
     refine zA (fun x54 h55=>?_)
     refine zA (fun x56 h57=>?_)
     refine J_d 65170 [] [7,70,91] [(91,bv x56)] [] [] (zD 3 (tT (kk:=.i64) 52 9 1 eStr (.tmp 73) (.tmp 74) h50) (uE 8 [(79,bv (seq x49 a1.Name))] [] h51 (zCR 12 8 80 false (zOv 52 9 1 eStr (.tmp 82) none (some (.tmp 83)) h53) (zCR 16 8 80 false (tT (kk:=.i64) 52 9 1 eStr (.tmp 86) (.tmp 87) h55) (zCR 18 8 80 false (vG [(.tmp 84),(.tmp 89)] [52,9] (wP.ok x52 x54) h57) zB))))) ?_
     exact wD (J_j (jv58 x56)) rfl
 ·exact wD (hk ()) rfl
theorem zBD.ok (a1:Pack) (q:Wd) (kn:Unit→Option (D×List Ent)) (hk:∀v:Unit,J (q.g Tryz.prog 117 0 118) c117 (atI c117 127) (St.mk' [(1,pp 0)] [(0,.box (Pack.enc false a1))]) (some v) kn):
  ∀s19:Int,J (q.g Tryz.prog 117 0 118) c117 (atI c117 1012) (St.mk' [(1,pp 0),(5,iv s19)] [(0,.box (Pack.enc false a1))]) (zBD a1 s19) (Fl.go (fun r:Int=>some (iv r,[])) kn):=by
 refine tV (fun g ih s19=>?_)
 unfold zAF
 refine J_d 4048 [] [46] [(46,bv (decide (s19< (a1.Needs.length:Int))))] [] [] zB ?_
 refine zF 46 (fun h20=>?_) (fun h20=>?_)
 ·refine zA (fun x21 h22=>?_)
  refine J_d 16200 [] [46,55] [(55,bv (decide ((x21.length:Int)>4)))] [] [] (zD 3 (tT (kk:=.i64) 60 61 1 (eSl false 7 Term.enc) (.tmp 50) (.tmp 51) h22) zB) ?_
  refine zF 55 (fun h23=>?_) (fun h23=>?_)
  ·refine J_g 64804 [] [(2,iv 2)] [] zB ?_
   exact zQ rfl
  ·refine J_d 4051 [] [5,55] [(5,iv (w64 (s19+1)))] [] [] zB ?_
   exact J_q (J_b (ih (w64 (s19+1)))) rfl
 ·exact wD (hk ()) rfl
theorem zBo.ok (a1:Pack):Ok Tryz.prog 117 [.ag (Pack.enc false a1)] [] ((zBo a1).map fun r=>(iv r,[])):=by
 refine zG c117 Tryz.f117 0 118 (fun q=>?_)
 unfold zBo
 refine J_g 2 [(0,0)] [(1,pp 0)] [(0,.box (Pack.enc false a1))] zB ?_
 refine zA (fun x2 h3=>?_)
 refine J_g 12 [] [(1,pp 0),(3,iv x2)] [(0,.box (Pack.enc false a1))] (zD 2 (vG [(.tmp 11)] [9] (uR.ok a1.Name) h3) zB) ?_
 refine J_d 26 [] [14] [(14,bv (x2 !=0))] [] [] zB ?_
 refine zF 14 (fun h4=>?_) (fun h4=>?_)
 ·refine J_g 108 [] [(2,iv x2)] [] zB ?_
  exact zQ rfl
 ·refine zA (fun x5 h6=>?_)
  refine J_g 28 [] [(1,pp 0),(4,iv x5)] [(0,.box (Pack.enc false a1))] (zD 2 (vG [(.tmp 17)] [59] (vH.ok a1.Version) h6) zB) ?_
  refine J_d 58 [] [20] [(20,bv (x5 !=0))] [] [] zB ?_
  refine zF 20 (fun h7=>?_) (fun h7=>?_)
  ·refine J_g 236 [] [(2,iv x5)] [] zB ?_
   exact zQ rfl
  ·refine zA (fun x8 h9=>?_)
   refine J_d 60 [] [4,20,25] [(25,bv (!x8))] [] [] (zD 2 (vG [(.tmp 23),(.const (.int .i64 1)),(.const (.int .i64 200))] [2,2,2] (tN.ok a1.Size 1 200) h9) zB) ?_
   refine zF 25 (fun h10=>?_) (fun h10=>?_)
   ·refine J_g 244 [] [(2,iv 3)] [] zB ?_
    exact zQ rfl
   ·refine vW (atI c117 125) (fun v13:Bool=>St.mk' [(1,pp 0),(41,bv v13)] [(0,.box (Pack.enc false a1))]) (fun v13=>?_) (fun jv13=>?_)
    ·refine zF 41 (fun h14=>?_) (fun h14=>?_)
     ·refine J_g 500 [] [(2,iv 2)] [] zB ?_
      exact zQ rfl
     ·refine J_d 252 [] [5,41] [(5,iv 0)] [] [] zB ?_
      refine uP (K0:=(fun r:Int=>some (iv r,[]))) (fun _=>rfl) (zBD.ok a1 q _ (fun v24=>J_j ?_) 0)
      refine J_d 508 [] [6] [(6,iv 0)] [] [] zB ?_
      refine uP (K0:=(fun r:Int=>some (iv r,[]))) (fun _=>rfl) (zAn.ok a1 q _ (fun v60=>J_j ?_) 0)
      refine J_d 1020 [] [8] [(8,iv 0)] [] [] zB ?_
      refine uP (K0:=(fun r:Int=>some (iv r,[]))) (fun _=>rfl) (zAl.ok a1 q _ (fun v80=>J_j ?_) 0)
      refine zA (fun x81 h82=>?_)
      refine J_g 1022 [] [(2,iv x81)] [] (zD 2 (vG [(.tmp 116)] [61] (zAd.ok a1.Bars) h82) zB) ?_
      exact zQ rfl
    ·refine tJ (fun h11=>?_) (fun h11=>?_)
     ·refine J_d 124 [] [25,41] [(41,bv true)] [] [] (uE 4 [(29,bv (decide ((a1.Provides.length:Int)>4)))] [] h11 zB) ?_
      exact wD (J_j (jv13 true)) rfl
     ·refine tJ (fun h12=>?_) (fun h12=>?_)
      ·refine J_d 124 [] [25,41] [(41,bv true)] [] [] (uE 4 [(29,bv (decide ((a1.Provides.length:Int)>4)))] [] h11 (uE 10 [(35,bv (decide ((a1.Needs.length:Int)>4)))] [] h12 zB)) ?_
       exact wD (J_j (jv13 true)) rfl
      ·refine J_d 124 [] [25,41] [(41,bv (decide ((a1.Bars.length:Int)>4)))] [] [] (uE 4 [(29,bv (decide ((a1.Provides.length:Int)>4)))] [] h11 (uE 10 [(35,bv (decide ((a1.Needs.length:Int)>4)))] [] h12 zB)) ?_
       exact wD (J_j (jv13 (decide ((a1.Bars.length:Int)>4)))) rfl
noncomputable def zOu:Code:=(Tryz.f118.body).getD .skip
theorem zD3.ok (a1:(List Pack)) (a2:ByteArray) (a3:Version) (q:Wd) (kn:Unit→Option (D×List Ent)) (hk:∀v:Unit,J (q.g Tryz.prog 118 0 32) zOu (atI zOu 7) (St.mk' [] []) (some v) kn):
  ∀s14:Int,J (q.g Tryz.prog 118 0 32) zOu (atI zOu 52) (St.mk' [(0,sl 8 (Pack.enc false) a1),(1,sv a2),(5,pp 0),(7,iv s14)] [(0,.box (Version.enc a3))]) (zD3 a1 a2 a3 s14) (Fl.go (fun r:Int=>some (iv r,[])) kn):=by
 refine tV (fun g ih s14=>?_)
 unfold zCY
 refine J_d 208 [] [11] [(11,bv (decide (s14< (a1.length:Int))))] [] [] zB ?_
 refine zF 11 (fun h15=>?_) (fun h15=>?_)
 ·refine zA (fun x16 h17=>?_)
  refine vW (atI zOu 841) (fun v23:Bool=>St.mk' [(0,sl 8 (Pack.enc false) a1),(1,sv a2),(5,pp 0),(7,iv s14),(30,bv v23)] [(0,.box (Version.enc a3))]) (fun v23=>?_) (fun jv23=>?_)
  ·refine zF 30 (fun h24=>?_) (fun h24=>?_)
   ·refine J_g 3364 [] [(6,iv s14)] [] zB ?_
    exact zQ rfl
   ·refine J_d 211 [] [7,30] [(7,iv (w64 (s14+1)))] [] [] zB ?_
    exact J_q (J_b (ih (w64 (s14+1)))) rfl
  ·refine tJ (fun h18=>?_) (fun h18=>?_)
   ·refine zA (fun x19 h20=>?_)
    refine zA (fun x21 h22=>?_)
    refine J_d 840 [] [11,30] [(30,bv (x21==0))] [] [] (zD 2 (tT (kk:=.i64) 28 63 8 (Pack.enc false) (.tmp 14) (.tmp 15) h17) (uE 7 [(20,bv (seq x16.Name a2))] [] h18 (zCR 10 7 21 true (tT (kk:=.i64) 28 63 8 (Pack.enc false) (.tmp 22) (.tmp 23) h20) (zCR 14 7 21 true (vG [(.tmp 26),(.tmp 27)] [59,59] (xJ.ok x19.Version a3) h22) zB)))) ?_
    exact wD (J_j (jv23 (x21==0))) rfl
   ·refine J_d 840 [] [11,30] [(30,bv false)] [] [] (zD 2 (tT (kk:=.i64) 28 63 8 (Pack.enc false) (.tmp 14) (.tmp 15) h17) (uE 7 [(20,bv (seq x16.Name a2))] [] h18 zB)) ?_
    exact wD (J_j (jv23 false)) rfl
 ·exact wD (hk ()) rfl
theorem zDc.ok (a1:(List Pack)) (a2:ByteArray) (a3:Version):Ok Tryz.prog 118 [sl 8 (Pack.enc false) a1,sv a2,.ag (Version.enc a3)] [] ((zDc a1 a2 a3).map fun r=>(iv r,[])):=by
 refine zG zOu Tryz.f118 0 32 (fun q=>?_)
 unfold zDc
 refine J_g 2 [(0,0)] [(0,sl 8 (Pack.enc false) a1),(1,sv a2),(5,pp 0)] [(0,.box (Version.enc a3))] zB ?_
 refine J_d 12 [] [7] [(7,iv 0)] [] [] zB ?_
 refine uP (K0:=(fun r:Int=>some (iv r,[]))) (fun _=>rfl) (zD3.ok a1 a2 a3 q _ (fun v25=>J_j ?_) 0)
 refine J_g 14 [] [(6,iv (-1))] [] zB ?_
 exact zQ rfl
noncomputable def c76:Code:=(Tryz.f76.body).getD .skip
theorem kZ.ok (a1:(List Pack)) (q:Wd) (kn:Unit→Option (D×List Ent)) (hk:∀v:Unit,J (q.g Tryz.prog 76 0 37) c76 (atI c76 15) (St.mk' [] []) (some v) kn):
  ∀s18:Int,J (q.g Tryz.prog 76 0 37) c76 (atI c76 116) (St.mk' [(0,sl 8 (Pack.enc false) a1),(3,iv s18)] []) (kZ a1 s18) (Fl.go (fun r:Int=>some (iv r,[])) kn):=by
 refine tV (fun g ih s18=>?_)
 unfold kL
 refine J_d 464 [] [11] [(11,bv (decide (s18< (a1.length:Int))))] [] [] zB ?_
 refine zF 11 (fun h19=>?_) (fun h19=>?_)
 ·refine zA (fun x20 h21=>?_)
  refine zA (fun x22 h23=>?_)
  refine J_g 3728 [] [(0,sl 8 (Pack.enc false) a1),(3,iv s18),(4,iv x22)] [] (zD 2 (tT (kk:=.i64) 28 63 8 (Pack.enc false) (.tmp 14) (.tmp 15) h21) (zD 4 (vG [(.tmp 17)] [63] (zBo.ok x20) h23) zB)) ?_
  refine J_d 7458 [] [20] [(20,bv (x22 !=0))] [] [] zB ?_
  refine zF 20 (fun h24=>?_) (fun h24=>?_)
  ·refine J_g 29836 [] [(2,iv x22)] [] zB ?_
   exact zQ rfl
  ·refine zA (fun x25 h26=>?_)
   refine zA (fun x27 h28=>?_)
   refine zA (fun x29 h30=>?_)
   refine zA (fun x31 h32=>?_)
   refine J_d 3730 [] [4,20,36] [(36,bv (decide (x31≥0)))] [] [] (zD 2 (zOv 28 63 8 (Pack.enc false) (.tmp 22) none (some (.tmp 23)) h26) (zD 5 (tT (kk:=.i64) 28 63 8 (Pack.enc false) (.tmp 25) (.tmp 26) h28) (zD 10 (tT (kk:=.i64) 28 63 8 (Pack.enc false) (.tmp 30) (.tmp 31) h30) (zD 13 (vG [(.tmp 24),(.tmp 29),(.tmp 34)] [28,9,59] (zDc.ok x25 x27.Name x29.Version) h32) zB)))) ?_
   refine zF 36 (fun h33=>?_) (fun h33=>?_)
   ·refine J_g 14924 [] [(2,iv 6)] [] zB ?_
    exact zQ rfl
   ·refine J_d 467 [] [3,36] [(3,iv (w64 (s18+1)))] [] [] zB ?_
    exact J_q (J_b (ih (w64 (s18+1)))) rfl
 ·exact wD (hk ()) rfl
theorem jY.ok (a1:(List Pack)):Ok Tryz.prog 76 [sl 8 (Pack.enc false) a1] [] ((jY a1).map fun r=>(iv r,[])):=by
 refine zG c76 Tryz.f76 0 37 (fun q=>?_)
 unfold jY
 refine J_g 2 [] [(0,sl 8 (Pack.enc false) a1)] [] zB ?_
 refine J_d 12 [] [7] [(7,bv (decide ((a1.length:Int)>24)))] [] [] zB ?_
 refine zF 7 (fun h2=>?_) (fun h2=>?_)
 ·refine J_g 52 [] [(2,iv 2)] [] zB ?_
  exact zQ rfl
 ·refine J_d 28 [] [3,7] [(3,iv 0)] [] [] zB ?_
  refine uP (K0:=(fun r:Int=>some (iv r,[]))) (fun _=>rfl) (kZ.ok a1 q _ (fun v34=>J_j ?_) 0)
  refine J_g 30 [] [(2,iv 0)] [] zB ?_
  exact zQ rfl
noncomputable def c77:Code:=(Tryz.f77.body).getD .skip
theorem zEc.ok (a1:(List Pack)) (a2:(List Int)) (q:Wd) (kn:Unit→Option (D×List Ent)) (hk:∀v:Unit,J (q.g Tryz.prog 77 0 37) c77 (atI c77 7) (St.mk' [] []) (some v) kn):
  ∀s16:Int,J (q.g Tryz.prog 77 0 37) c77 (atI c77 52) (St.mk' [(0,sl 8 (Pack.enc false) a1),(1,sl 1 zC a2),(5,iv s16)] []) (zEc a1 a2 s16) (Fl.go (fun r:Bool=>some (bv r,[])) kn):=by
 refine tV (fun g ih s16=>?_)
 unfold zD4
 refine J_d 208 [] [9] [(9,bv (decide (s16< (a2.length:Int))))] [] [] zB ?_
 refine zF 9 (fun h17=>?_) (fun h17=>?_)
 ·refine zA (fun x18 h19=>?_)
  refine zA (fun x20 h21=>?_)
  refine vW (atI c77 841) (fun v28:Bool=>St.mk' [(0,sl 8 (Pack.enc false) a1),(1,sl 1 zC a2),(5,iv s16),(36,bv v28)] []) (fun v28=>?_) (fun jv28=>?_)
  ·refine zF 36 (fun h29=>?_) (fun h29=>?_)
   ·refine J_g 3364 [] [(4,bv false)] [] zB ?_
    exact zQ rfl
   ·refine J_d 211 [] [5,36] [(5,iv (w64 (s16+1)))] [] [] zB ?_
    exact J_q (J_b (ih (w64 (s16+1)))) rfl
  ·refine tJ (fun h22=>?_) (fun h22=>?_)
   ·refine J_d 840 [] [9,36] [(36,bv true)] [] [] (zD 2 (tT (kk:=.i64) 23 2 1 zC (.tmp 12) (.tmp 13) h19) (zD 7 (vG [(.tmp 15),(.const (.int .i64 0)),(.tmp 18)] [2,2,2] (tN.ok x18 0 (w64 ((a1.length:Int)-1))) h21) (uE 9 [(20,bv (!x20))] [] h22 (zHs 12 (zHu (i:=12) (g:=9) (t:=21) (b:=false) (v:=(.bool true)) (.inl rfl) (by kernel_rfl) (by kernel_rfl)) (zHs 13 (zHu (i:=13) (g:=12) (t:=24) (b:=true) (v:=undef) (.inr rfl) (by kernel_rfl) (by kernel_rfl)) (zHs 14 (zHu (i:=14) (g:=12) (t:=24) (b:=true) (v:=undef) (.inr rfl) (by kernel_rfl) (by kernel_rfl)) (zHs 15 (zHu (i:=15) (g:=12) (t:=24) (b:=true) (v:=undef) (.inr rfl) (by kernel_rfl) (by kernel_rfl)) (zHs 16 (zHu (i:=16) (g:=12) (t:=24) (b:=true) (v:=undef) (.inr rfl) (by kernel_rfl) (by kernel_rfl)) (zHs 17 (zHu (i:=17) (g:=12) (t:=24) (b:=true) (v:=undef) (.inr rfl) (by kernel_rfl) (by kernel_rfl)) (zHs 18 (zHu (i:=18) (g:=12) (t:=24) (b:=true) (v:=undef) (.inr rfl) (by kernel_rfl) (by kernel_rfl)) (zHs 19 (zHu (i:=19) (g:=12) (t:=24) (b:=true) (v:=undef) (.inr rfl) (by kernel_rfl) (by kernel_rfl)) (zHs 20 (zHu (i:=20) (g:=12) (t:=24) (b:=true) (v:=undef) (.inr rfl) (by kernel_rfl) (by kernel_rfl)) (zHs 21 (zHu (i:=21) (g:=12) (t:=24) (b:=true) (v:=undef) (.inr rfl) (by kernel_rfl) (by kernel_rfl)) (zHs 22 (zHu (i:=22) (g:=12) (t:=24) (b:=true) (v:=undef) (.inr rfl) (by kernel_rfl) (by kernel_rfl)) zB)))))))))))))) ?_
    exact wD (J_j (jv28 true)) rfl
   ·refine tJ (fun h23=>?_) (fun h23=>?_)
    ·refine zA (fun x24 h25=>?_)
     refine zA (fun x26 h27=>?_)
     refine J_d 840 [] [9,36] [(36,bv (decide (x24≤x26)))] [] [] (zD 2 (tT (kk:=.i64) 23 2 1 zC (.tmp 12) (.tmp 13) h19) (zD 7 (vG [(.tmp 15),(.const (.int .i64 0)),(.tmp 18)] [2,2,2] (tN.ok x18 0 (w64 ((a1.length:Int)-1))) h21) (uE 9 [(20,bv (!x20))] [] h22 (zG6 12 9 21 false [(23,bv (decide (s16>0)))] [] h23 (zCR 15 12 24 true (tT (kk:=.i64) 23 2 1 zC (.tmp 25) (.tmp 26) h25) (zCR 20 12 24 true (tT (kk:=.i64) 23 2 1 zC (.tmp 29) (.tmp 31) h27) zB)))))) ?_
     exact wD (J_j (jv28 (decide (x24≤x26)))) rfl
    ·refine J_d 840 [] [9,36] [(36,bv false)] [] [] (zD 2 (tT (kk:=.i64) 23 2 1 zC (.tmp 12) (.tmp 13) h19) (zD 7 (vG [(.tmp 15),(.const (.int .i64 0)),(.tmp 18)] [2,2,2] (tN.ok x18 0 (w64 ((a1.length:Int)-1))) h21) (uE 9 [(20,bv (!x20))] [] h22 (zG6 12 9 21 false [(23,bv (decide (s16>0)))] [] h23 zB)))) ?_
     exact wD (J_j (jv28 false)) rfl
 ·exact wD (hk ()) rfl
theorem zEr.ok (a1:(List Pack)) (a2:(List Int)):Ok Tryz.prog 77 [sl 8 (Pack.enc false) a1,sl 1 zC a2] [] ((zEr a1 a2).map fun r=>(bv r,[])):=by
 refine zG c77 Tryz.f77 0 37 (fun q=>?_)
 unfold zEr
 refine J_g 2 [] [(0,sl 8 (Pack.enc false) a1),(1,sl 1 zC a2)] [] zB ?_
 refine J_d 12 [] [5] [(5,iv 0)] [] [] zB ?_
 refine uP (K0:=(fun r:Bool=>some (bv r,[]))) (fun _=>rfl) (zEc.ok a1 a2 q _ (fun v30=>J_j ?_) 0)
 refine J_g 14 [] [(4,bv true)] [] zB ?_
 exact zQ rfl
noncomputable def c47:Code:=(Tryz.f47.body).getD .skip
theorem zAa.ok (a1:(List Pack)) (a2:(List Int)):Ok Tryz.prog 47 [sl 8 (Pack.enc false) a1,sl 1 zC a2] [] ((zAa a1 a2).map fun r=>(iv r,[])):=by
 refine zG c47 Tryz.f47 0 15 (fun q=>?_)
 unfold zAa
 refine J_d 2 [] [] [] [] [] zB ?_
 refine zA (fun x3 h4=>?_)
 refine J_g 12 [] [(0,sl 8 (Pack.enc false) a1),(1,sl 1 zC a2),(5,iv x3)] [] (zD 1 (vG [(.tmp 6)] [28] (jY.ok a1) h4) zB) ?_
 refine J_d 26 [] [9] [(9,bv (x3 !=0))] [] [] zB ?_
 refine zF 9 (fun h5=>?_) (fun h5=>?_)
 ·refine J_g 108 [] [(4,iv x3)] [] zB ?_
  exact zQ rfl
 ·refine zA (fun x6 h7=>?_)
  refine J_g 28 [] [(14,bv (!x6))] [] (zD 2 (vG [(.tmp 11),(.tmp 12)] [28,23] (zEr.ok a1 a2) h7) zB) ?_
  refine zF 14 (fun h8=>?_) (fun h8=>?_)
  ·refine J_g 116 [] [(4,iv 1)] [] zB ?_
   exact zQ rfl
  ·refine J_g 30 [] [(4,iv 0)] [] zB ?_
   exact zQ rfl
noncomputable def zQt:Code:=(Tryz.f189.body).getD .skip
theorem zAc.ok (a1:Term) (a2:ByteArray) (a3:Version):Ok Tryz.prog 189 [.ag (Term.enc a1),sv a2,.ag (Version.enc a3)] [] ((zAc a1 a2 a3).map fun r=>(bv r,[])):=by
 refine zG zQt Tryz.f189 0 25 (fun q=>?_)
 unfold zAc
 refine J_g 2 [(0,0),(1,1)] [(1,sv a2),(3,pp 0),(5,pp 1)] [(0,.box (Term.enc a1)),(1,.box (Version.enc a3))] zB ?_
 refine tJ (fun h4=>?_) (fun h4=>?_)
 ·refine zA (fun x5 h6=>?_)
  refine tJ (fun h7=>?_) (fun h7=>?_)
  ·refine zA (fun x8 h9=>?_)
   refine J_g 6 [] [(6,bv (decide (x8<0)))] [] (uE 4 [(10,bv (seq a1.Name a2))] [] h4 (zCR 8 4 11 true (vG [(.tmp 12),(.tmp 14)] [59,59] (xJ.ok a3 a1.Low) h6) (uE 11 [(17,bv (decide (x5≥0)))] [] h7 (zCR 15 11 18 true (vG [(.tmp 19),(.tmp 21)] [59,59] (xJ.ok a3 a1.High) h9) zB)))) ?_
   exact zQ rfl
  ·refine J_g 6 [] [(6,bv false)] [] (uE 4 [(10,bv (seq a1.Name a2))] [] h4 (zCR 8 4 11 true (vG [(.tmp 12),(.tmp 14)] [59,59] (xJ.ok a3 a1.Low) h6) (uE 11 [(17,bv (decide (x5≥0)))] [] h7 zB))) ?_
   exact zQ rfl
 ·refine J_g 6 [] [(6,bv false)] [] (uE 4 [(10,bv (seq a1.Name a2))] [] h4 zB) ?_
  exact zQ rfl
noncomputable def zQs:Code:=(Tryz.f144.body).getD .skip
theorem zCG.ok (a1:Pack) (a2:Term):Ok Tryz.prog 144 [.ag (Pack.enc false a1),.ag (Term.enc a2)] [] ((zCG a1 a2).map fun r=>(bv r,[])):=by
 refine zG zQs Tryz.f144 0 25 (fun q=>?_)
 unfold zCG
 refine J_g 2 [(0,0),(1,1)] [(2,pp 0),(3,pp 1)] [(0,.box (Pack.enc false a1)),(1,.box (Term.enc a2))] zB ?_
 refine tJ (fun h3=>?_) (fun h3=>?_)
 ·refine zA (fun x4 h5=>?_)
  refine J_g 6 [] [(4,bv x4)] [] (uE 5 [(9,bv (seq a2.Name a1.Name))] [] h3 (zCR 18 12 17 true (vG [(.tmp 18),(.tmp 20),(.tmp 22)] [102,9,59] (zAc.ok a2 a2.Name a1.Version) h5) zB)) ?_
  exact zQ rfl
 ·refine zA (fun x6 h7=>?_)
  refine tJ (fun h8=>?_) (fun h8=>?_)
  ·refine zA (fun x9 h10=>?_)
   refine J_g 6 [] [(4,bv x9)] [] (uE 5 [(9,bv (seq a2.Name a1.Name))] [] h3 (zCR 10 5 10 false (vG [(.tmp 12),(.tmp 14)] [52,9] (wP.ok a1.Provides a2.Name) h7) (uE 12 [(16,bv x6)] [] h8 (zCR 18 12 17 true (vG [(.tmp 18),(.tmp 20),(.tmp 22)] [102,9,59] (zAc.ok a2 a2.Name a1.Version) h10) zB)))) ?_
   exact zQ rfl
  ·refine J_g 6 [] [(4,bv false)] [] (uE 5 [(9,bv (seq a2.Name a1.Name))] [] h3 (zCR 10 5 10 false (vG [(.tmp 12),(.tmp 14)] [52,9] (wP.ok a1.Provides a2.Name) h7) (uE 12 [(16,bv x6)] [] h8 zB))) ?_
   exact zQ rfl
noncomputable def zOi:Code:=(Tryz.f121.body).getD .skip
theorem zCX.ok (a1:(List Pack)) (a2:(List Int)) (a3:Term) (a4:Int) (q:Wd) (kn:Unit→Option (D×List Ent)) (hk:∀v:Unit,J (q.g Tryz.prog 121 0 33) zOi (atI zOi 7) (St.mk' [] []) (some v) kn):
  ∀s17:Int,J (q.g Tryz.prog 121 0 33) zOi (atI zOi 52) (St.mk' [(0,sl 8 (Pack.enc false) a1),(1,sl 1 zC a2),(3,iv a4),(6,pp 0),(9,iv s17)] [(0,.box (Term.enc a3))]) (zCX a1 a2 a3 a4 s17) (Fl.go (fun r:Bool=>some (bv r,[])) kn):=by
 refine tV (fun g ih s17=>?_)
 unfold zCe
 refine J_d 208 [] [13] [(13,bv (decide (s17< (a2.length:Int))))] [] [] zB ?_
 refine zF 13 (fun h18=>?_) (fun h18=>?_)
 ·refine zA (fun x19 h20=>?_)
  refine vW (atI zOi 841) (fun v28:Bool=>St.mk' [(0,sl 8 (Pack.enc false) a1),(1,sl 1 zC a2),(3,iv a4),(6,pp 0),(9,iv s17),(32,bv v28)] [(0,.box (Term.enc a3))]) (fun v28=>?_) (fun jv28=>?_)
  ·refine zF 32 (fun h29=>?_) (fun h29=>?_)
   ·refine J_g 3364 [] [(8,bv true)] [] zB ?_
    exact zQ rfl
   ·refine J_d 211 [] [9,32] [(9,iv (w64 (s17+1)))] [] [] zB ?_
    exact J_q (J_b (ih (w64 (s17+1)))) rfl
  ·refine tJ (fun h21=>?_) (fun h21=>?_)
   ·refine zA (fun x22 h23=>?_)
    refine zA (fun x24 h25=>?_)
    refine zA (fun x26 h27=>?_)
    refine J_d 840 [] [13,32] [(32,bv x26)] [] [] (zD 2 (tT (kk:=.i64) 23 2 1 zC (.tmp 16) (.tmp 17) h20) (uE 6 [(21,bv (x19 !=a4))] [] h21 (zCR 10 6 22 true (tT (kk:=.i64) 23 2 1 zC (.tmp 24) (.tmp 25) h23) (zCR 12 6 22 true (tT (kk:=.i64) 28 63 8 (Pack.enc false) (.tmp 23) (.tmp 27) h25) (zCR 15 6 22 true (vG [(.tmp 29),(.tmp 30)] [63,102] (zCG.ok x24 a3) h27) zB))))) ?_
    exact wD (J_j (jv28 x26)) rfl
   ·refine J_d 840 [] [13,32] [(32,bv false)] [] [] (zD 2 (tT (kk:=.i64) 23 2 1 zC (.tmp 16) (.tmp 17) h20) (uE 6 [(21,bv (x19 !=a4))] [] h21 zB)) ?_
    exact wD (J_j (jv28 false)) rfl
 ·exact wD (hk ()) rfl
theorem zAL.ok (a1:(List Pack)) (a2:(List Int)) (a3:Term) (a4:Int):Ok Tryz.prog 121 [sl 8 (Pack.enc false) a1,sl 1 zC a2,.ag (Term.enc a3),iv a4] [] ((zAL a1 a2 a3 a4).map fun r=>(bv r,[])):=by
 refine zG zOi Tryz.f121 0 33 (fun q=>?_)
 unfold zAL
 refine J_g 2 [(0,0)] [(0,sl 8 (Pack.enc false) a1),(1,sl 1 zC a2),(3,iv a4),(6,pp 0)] [(0,.box (Term.enc a3))] zB ?_
 refine J_d 12 [] [9] [(9,iv 0)] [] [] zB ?_
 refine uP (K0:=(fun r:Bool=>some (bv r,[]))) (fun _=>rfl) (zCX.ok a1 a2 a3 a4 q _ (fun v30=>J_j ?_) 0)
 refine J_g 14 [] [(8,bv false)] [] zB ?_
 exact zQ rfl
noncomputable def zOY:Code:=(Tryz.f120.body).getD .skip
theorem zEh.ok (a1:(List Pack)) (a2:(List Int)) (a3:(List Term)) (q:Wd) (kn:Unit→Option (D×List Ent)) (hk:∀v:Unit,J (q.g Tryz.prog 120 0 21) zOY (atI zOY 7) (St.mk' [] []) (some v) kn):
  ∀s10:Int,J (q.g Tryz.prog 120 0 21) zOY (atI zOY 52) (St.mk' [(0,sl 8 (Pack.enc false) a1),(1,sl 1 zC a2),(2,sl 7 Term.enc a3),(7,iv s10)] []) (zEh a1 a2 a3 s10) (Fl.go (fun r:Bool=>some (bv r,[])) kn):=by
 refine tV (fun g ih s10=>?_)
 unfold zDC
 refine J_d 208 [] [11] [(11,bv (decide (s10< (a3.length:Int))))] [] [] zB ?_
 refine zF 11 (fun h11=>?_) (fun h11=>?_)
 ·refine zA (fun x12 h13=>?_)
  refine zA (fun x14 h15=>?_)
  refine J_d 840 [] [11,20] [(20,bv x14)] [] [] (zD 4 (tT (kk:=.i64) 61 102 7 Term.enc (.tmp 16) (.tmp 17) h13) (zD 6 (vG [(.tmp 14),(.tmp 15),(.tmp 19),(.const (.int .i64 (-1)))] [28,23,102,2] (zAL.ok a1 a2 x12 (-1)) h15) zB)) ?_
  refine zF 20 (fun h16=>?_) (fun h16=>?_)
  ·refine J_g 3364 [] [(6,bv true)] [] zB ?_
   exact zQ rfl
  ·refine J_d 211 [] [7,20] [(7,iv (w64 (s10+1)))] [] [] zB ?_
   exact J_q (J_b (ih (w64 (s10+1)))) rfl
 ·exact wD (hk ()) rfl
theorem zEn.ok (a1:(List Pack)) (a2:(List Int)) (a3:(List Term)):Ok Tryz.prog 120 [sl 8 (Pack.enc false) a1,sl 1 zC a2,sl 7 Term.enc a3] [] ((zEn a1 a2 a3).map fun r=>(bv r,[])):=by
 refine zG zOY Tryz.f120 0 21 (fun q=>?_)
 unfold zEn
 refine J_g 2 [] [(0,sl 8 (Pack.enc false) a1),(1,sl 1 zC a2),(2,sl 7 Term.enc a3)] [] zB ?_
 refine J_d 12 [] [7] [(7,iv 0)] [] [] zB ?_
 refine uP (K0:=(fun r:Bool=>some (bv r,[]))) (fun _=>rfl) (zEh.ok a1 a2 a3 q _ (fun v17=>J_j ?_) 0)
 refine J_g 14 [] [(6,bv false)] [] zB ?_
 exact zQ rfl
noncomputable def c78:Code:=(Tryz.f78.body).getD .skip
theorem zCd.ok (a1:(List Pack)) (a2:(List Int)) (s82:((List zR)×Int)) (x86:Pack) (q:Wd) (kn:(List zR)→Option (D×List Ent)) (hk:∀v:(List zR),J (q.g Tryz.prog 78 0 103) c78 (aft c78 932) (St.mk' [(0,sl 8 (Pack.enc false) a1),(1,sl 1 zC a2),(5,rr 0 v),(6,iv s82.2)] [(0,rE 3 zR.enc v)]) (some v) kn):
  ∀s147:((List zR)×Int),J (q.g Tryz.prog 78 0 103) c78 (atI c78 59708) (St.mk' [(0,sl 8 (Pack.enc false) a1),(1,sl 1 zC a2),(5,rr 0 s147.1),(6,iv s82.2),(7,pp 1),(10,iv s147.2)] [(0,rE 3 zR.enc s147.1),(1,.box (Pack.enc false x86))]) (zCd a1 a2 s82 x86 s147) kn:=by
 refine tV (fun g ih s147=>?_)
 unfold zBA
 refine J_d 238832 [] [78] [(78,bv (decide (s147.2< (x86.Bars.length:Int))))] [] [] zB ?_
 refine zF 78 (fun h148=>?_) (fun h148=>?_)
 ·refine zA (fun x149 h150=>?_)
  refine zA (fun x151 h152=>?_)
  refine zA (fun x153 h154=>?_)
  refine J_d 955336 [] [78,92] [(92,bv x153)] [] [] (zD 5 (tT (kk:=.i64) 61 102 7 Term.enc (.tmp 84) (.tmp 85) h150) (zD 9 (tT (kk:=.i64) 23 2 1 zC (.tmp 88) (.tmp 89) h152) (zD 11 (vG [(.tmp 81),(.tmp 82),(.tmp 87),(.tmp 91)] [28,23,102,2] (zAL.ok a1 a2 x149 x151) h154) zB))) ?_
  refine vW (aft c78 477668) (fun v160:(List zR)=>St.mk' [(0,sl 8 (Pack.enc false) a1),(1,sl 1 zC a2),(5,rr 3 v160),(6,iv s82.2),(7,pp 1),(10,iv s147.2)] [(1,.box (Pack.enc false x86)),(3,rE 3 zR.enc v160)]) (fun v160=>?_) (fun jv160=>?_)
  ·refine J_d 238835 [] [10] [(10,iv (w64 (s147.2+1)))] [] [] zB ?_
   refine jR 3 0 (Nat.le_of_ble_eq_true rfl) (Nat.le_of_ble_eq_true rfl) ?_
   exact J_q (J_b (ih (v160,w64 (s147.2+1)))) rfl
  ·refine zF 92 (fun h155=>?_) (fun h155=>?_)
   ·refine zA (fun x156 h157=>?_)
    refine zA (fun x158 h159=>?_)
    refine J_d 1910674 [] [5,92] [(5,rr 3 x158)] [0,3] [(3,rE 3 zR.enc x158)] (zD 3 (tT (kk:=.i64) 23 2 1 zC (.tmp 94) (.tmp 95) h157) (zD 7 (zEa 107 142 3 2 zR.enc [({Kind:=3,Pack:=x156,At:=s147.2}:zR)] [0] [(.tmp 99)] [.ag [iv 3,iv x156,iv s147.2]]) (zD 8 (zGv 107 107 142 142 3 24 3 0 2 zR.enc (.tmp 93) (.tmp 100) h159) zB))) ?_
    exact wD (J_j (jv160 x158)) rfl
   ·refine jR 0 3 (Nat.le_of_ble_eq_true rfl) (Nat.le_of_ble_eq_true rfl) ?_
    exact wD (J_j (jv160 s147.1)) rfl
 ·exact wD (hk s147.1) rfl
theorem zCj.ok (a1:(List Pack)) (a2:(List Int)) (s82:((List zR)×Int)) (x86:Pack) (q:Wd) (kn:(List zR)→Option (D×List Ent)) (hk:∀v:(List zR),J (q.g Tryz.prog 78 0 103) c78 (atI c78 7463) (St.mk' [(0,sl 8 (Pack.enc false) a1),(1,sl 1 zC a2),(5,rr 0 v),(6,iv s82.2),(7,pp 1)] [(0,rE 3 zR.enc v),(1,.box (Pack.enc false x86))]) (some v) kn):
  ∀s121:((List zR)×Int),J (q.g Tryz.prog 78 0 103) c78 (atI c78 59700) (St.mk' [(0,sl 8 (Pack.enc false) a1),(1,sl 1 zC a2),(5,rr 0 s121.1),(6,iv s82.2),(7,pp 1),(9,iv s121.2)] [(0,rE 3 zR.enc s121.1),(1,.box (Pack.enc false x86))]) (zCj a1 a2 s82 x86 s121) kn:=by
 refine tV (fun g ih s121=>?_)
 unfold zB7
 refine J_d 238800 [] [53] [(53,bv (decide (s121.2< (x86.Needs.length:Int))))] [] [] zB ?_
 refine zF 53 (fun h122=>?_) (fun h122=>?_)
 ·refine zA (fun x123 h124=>?_)
  refine zA (fun x125 h126=>?_)
  refine J_d 955208 [] [53,64] [(64,bv (!x125))] [] [] (zD 5 (tT (kk:=.i64) 60 61 1 (eSl false 7 Term.enc) (.tmp 59) (.tmp 60) h124) (zD 7 (vG [(.tmp 56),(.tmp 57),(.tmp 62)] [28,23,61] (zEn.ok a1 a2 x123) h126) zB)) ?_
  refine vW (aft c78 477604) (fun v132:(List zR)=>St.mk' [(0,sl 8 (Pack.enc false) a1),(1,sl 1 zC a2),(5,rr 3 v132),(6,iv s82.2),(7,pp 1),(9,iv s121.2)] [(1,.box (Pack.enc false x86)),(3,rE 3 zR.enc v132)]) (fun v132=>?_) (fun jv132=>?_)
  ·refine J_d 238803 [] [9] [(9,iv (w64 (s121.2+1)))] [] [] zB ?_
   refine jR 3 0 (Nat.le_of_ble_eq_true rfl) (Nat.le_of_ble_eq_true rfl) ?_
   exact J_q (J_b (ih (v132,w64 (s121.2+1)))) rfl
  ·refine zF 64 (fun h127=>?_) (fun h127=>?_)
   ·refine zA (fun x128 h129=>?_)
    refine zA (fun x130 h131=>?_)
    refine J_d 1910418 [] [5,64] [(5,rr 3 x130)] [0,3] [(3,rE 3 zR.enc x130)] (zD 3 (tT (kk:=.i64) 23 2 1 zC (.tmp 66) (.tmp 67) h129) (zD 7 (zEa 107 142 3 2 zR.enc [({Kind:=2,Pack:=x128,At:=s121.2}:zR)] [0] [(.tmp 71)] [.ag [iv 2,iv x128,iv s121.2]]) (zD 8 (zGv 107 107 142 142 3 24 3 0 2 zR.enc (.tmp 65) (.tmp 72) h131) zB))) ?_
    exact wD (J_j (jv132 x130)) rfl
   ·refine jR 0 3 (Nat.le_of_ble_eq_true rfl) (Nat.le_of_ble_eq_true rfl) ?_
    exact wD (J_j (jv132 s121.1)) rfl
 ·exact wD (hk s121.1) rfl
theorem zAD.ok (a1:(List Pack)) (a2:(List Int)) (s82:((List zR)×Int)) (x86:Pack) (q:Wd) (kn:(List zR)→Option (D×List Ent)) (hk:∀v:(List zR),J (q.g Tryz.prog 78 0 103) c78 (atI c78 3731) (St.mk' [(0,sl 8 (Pack.enc false) a1),(1,sl 1 zC a2),(5,rr 0 v),(6,iv s82.2),(7,pp 1)] [(0,rE 3 zR.enc v),(1,.box (Pack.enc false x86))]) (some v) kn):
  ∀s98:Int,J (q.g Tryz.prog 78 0 103) c78 (atI c78 29844) (St.mk' [(0,sl 8 (Pack.enc false) a1),(1,sl 1 zC a2),(5,rr 0 s82.1),(6,iv s82.2),(7,pp 1),(8,iv s98)] [(0,rE 3 zR.enc s82.1),(1,.box (Pack.enc false x86))]) (zAD a1 a2 s82 x86 s98) kn:=by
 refine tV (fun g ih s98=>?_)
 unfold zB5
 refine J_d 119376 [] [27] [(27,bv (decide (s98<s82.2)))] [] [] zB ?_
 refine zF 27 (fun h99=>?_) (fun h99=>?_)
 ·refine zA (fun x100 h101=>?_)
  refine zA (fun x102 h103=>?_)
  refine J_d 477512 [] [27,40] [(40,bv (seq x102.Name x86.Name))] [] [] (zD 3 (tT (kk:=.i64) 23 2 1 zC (.tmp 31) (.tmp 32) h101) (zD 5 (tT (kk:=.i64) 28 63 8 (Pack.enc false) (.tmp 30) (.tmp 34) h103) zB)) ?_
  refine zF 40 (fun h104=>?_) (fun h104=>?_)
  ·refine zA (fun x105 h106=>?_)
   refine zA (fun x107 h108=>?_)
   refine J_d 1910052 [] [5,8,40] [(5,rr 3 x107)] [0,3] [(3,rE 3 zR.enc x107)] (zD 3 (tT (kk:=.i64) 23 2 1 zC (.tmp 42) (.tmp 43) h106) (zD 6 (zEa 107 142 3 2 zR.enc [({Kind:=1,Pack:=x105,At:=0}:zR)] [0] [(.tmp 46)] [.ag [iv 1,iv x105,iv 0]]) (zD 7 (zGv 107 107 142 142 3 24 3 0 2 zR.enc (.tmp 41) (.tmp 47) h108) zB))) ?_
   refine jR 3 0 (Nat.le_of_ble_eq_true rfl) (Nat.le_of_ble_eq_true rfl) ?_
   exact wD (hk x107) rfl
  ·refine J_d 119379 [] [8,40] [(8,iv (w64 (s98+1)))] [] [] zB ?_
   exact J_q (J_b (ih (w64 (s98+1)))) rfl
 ·exact wD (hk s82.1) rfl
theorem zCw.ok (a1:(List Pack)) (a2:(List Int)) (q:Wd) (kn:(List zR)→Option (D×List Ent)) (hk:∀v:(List zR),J (q.g Tryz.prog 78 0 103) c78 (atI c78 15) (St.mk' [(5,rr 0 v)] [(0,rE 3 zR.enc v)]) (some v) kn):
  ∀s82:((List zR)×Int),J (q.g Tryz.prog 78 0 103) c78 (atI c78 116) (St.mk' [(0,sl 8 (Pack.enc false) a1),(1,sl 1 zC a2),(5,rr 0 s82.1),(6,iv s82.2)] [(0,rE 3 zR.enc s82.1)]) (zCw a1 a2 s82) kn:=by
 refine tV (fun g ih s82=>?_)
 unfold zBy
 refine J_d 464 [] [15] [(15,bv (decide (s82.2< (a2.length:Int))))] [] [] zB ?_
 refine zF 15 (fun h83=>?_) (fun h83=>?_)
 ·refine zA (fun x84 h85=>?_)
  refine zA (fun x86 h87=>?_)
  refine J_g 1864 [(7,1)] [(0,sl 8 (Pack.enc false) a1),(1,sl 1 zC a2),(5,rr 0 s82.1),(6,iv s82.2),(7,pp 1)] [(0,rE 3 zR.enc s82.1),(1,.box (Pack.enc false x86))] (zD 3 (tT (kk:=.i64) 23 2 1 zC (.tmp 19) (.tmp 20) h85) (zD 5 (tT (kk:=.i64) 28 63 8 (Pack.enc false) (.tmp 18) (.tmp 22) h87) zB)) ?_
  refine J_d 7460 [] [8] [(8,iv 0)] [] [] zB ?_
  refine zE2 (zAD.ok a1 a2 s82 x86 q _ (fun v109=>J_j ?_) 0)
  refine J_d 14924 [] [9] [(9,iv 0)] [] [] zB ?_
  refine zE2 (zCj.ok a1 a2 s82 x86 q _ (fun v133=>J_j ?_) (v109,0))
  refine J_d 14926 [] [10] [(10,iv 0)] [] [] zB ?_
  refine zE2 (zCd.ok a1 a2 s82 x86 q _ (fun v161=>J_j ?_) (v133,0))
  refine J_d 467 [] [6] [(6,iv (w64 (s82.2+1)))] [] [] zB ?_
  exact J_q (J_b (ih (v161,w64 (s82.2+1)))) rfl
 ·exact wD (hk s82.1) rfl
theorem zBO.ok (a1:(List Pack)) (a2:(List Int)):Ok Tryz.prog 78 [sl 8 (Pack.enc false) a1,sl 1 zC a2] [] ((zBO a1 a2).map fun r=>(so 3 zR.enc r,[])):=by
 refine zG c78 Tryz.f78 0 103 (fun q=>?_)
 unfold zBO
 refine J_g 2 [] [(0,sl 8 (Pack.enc false) a1),(1,sl 1 zC a2)] [] zB ?_
 refine J_g 6 [] [(0,sl 8 (Pack.enc false) a1),(1,sl 1 zC a2),(5,rr 0 ([]:List zR))] [(0,rE 3 zR.enc ([]:List zR))] (zD 0 (zEa 107 142 3 0 zR.enc ([]:List zR) [] [] []) zB) ?_
 refine J_d 28 [] [6] [(6,iv 0)] [] [] zB ?_
 refine zE2 (zCw.ok a1 a2 q _ (fun v162=>J_j ?_) (([]:List zR),0))
 refine J_g 30 [] [(4,rr 0 v162)] [(0,rE 3 zR.enc v162)] zB ?_
 exact zEl (ds:=[rr 0 v162]) (ds':=[so 3 zR.enc v162]) (.cons (.cell (.move (.head _) (List.length_map _) (by decide) (.nil))) (.nil) (by decide)) rfl
noncomputable def c48:Code:=(Tryz.f48.body).getD .skip
theorem kT.ok (a1:(List Pack)) (a2:(List Int)):Ok Tryz.prog 48 [sl 8 (Pack.enc false) a1,sl 1 zC a2] [] ((kT a1 a2).map fun r=>(bv r,[])):=by
 refine zG c48 Tryz.f48 0 10 (fun q=>?_)
 unfold kT
 refine J_d 2 [] [] [] [] [] zB ?_
 refine zA (fun x3 h4=>?_)
 refine J_g 6 [] [(4,bv ((x3.length:Int)==0))] [] (zD 2 (vC («as»:=[sl 8 (Pack.enc false) a1,sl 1 zC a2]) [(.tmp 5),(.tmp 6)] [28,23] false [] [] (.cons (.same rfl) (.cons (.same rfl) (.nil))) (zBO.ok a1 a2) h4 (.own 0)) zB) ?_
 exact zQ rfl
noncomputable def c27:Code:=(Tryz.f27.body).getD .skip
theorem kM.ok (a1:(List Pack)) (a2:(List Int)) (a3:(List Int)):Ok Tryz.prog 27 [sl 8 (Pack.enc false) a1,sl 1 zC a2,sl 1 zC a3] [] ((kM a1 a2 a3).map fun r=>(iv r,[])):=by
 refine zG c27 Tryz.f27 0 31 (fun q=>?_)
 unfold kM
 refine J_d 2 [] [] [] [] [] zB ?_
 refine zA (fun x4 h5=>?_)
 refine J_g 12 [] [(0,sl 8 (Pack.enc false) a1),(1,sl 1 zC a2),(2,sl 1 zC a3),(7,iv x4)] [] (zD 2 (vG [(.tmp 9),(.tmp 10)] [28,23] (zAa.ok a1 a2) h5) zB) ?_
 refine J_d 26 [] [13] [(13,bv (x4 !=0))] [] [] zB ?_
 refine zF 13 (fun h6=>?_) (fun h6=>?_)
 ·refine J_g 108 [] [(6,iv x4)] [] zB ?_
  exact zQ rfl
 ·refine zA (fun x7 h8=>?_)
  refine J_g 28 [] [(0,sl 8 (Pack.enc false) a1),(1,sl 1 zC a2),(2,sl 1 zC a3),(8,iv x7)] [] (zD 2 (vG [(.tmp 15),(.tmp 16)] [28,23] (zAa.ok a1 a3) h8) zB) ?_
  refine J_d 58 [] [19] [(19,bv (x7 !=0))] [] [] zB ?_
  refine zF 19 (fun h9=>?_) (fun h9=>?_)
  ·refine J_g 236 [] [(6,iv x7)] [] zB ?_
   exact zQ rfl
  ·refine zA (fun x10 h11=>?_)
   refine vW (atI c27 61) (fun v15:Bool=>St.mk' [(30,bv v15)] []) (fun v15=>?_) (fun jv15=>?_)
   ·refine zF 30 (fun h16=>?_) (fun h16=>?_)
    ·refine J_g 244 [] [(6,iv 1)] [] zB ?_
     exact zQ rfl
    ·refine J_g 62 [] [(6,iv 0)] [] zB ?_
     exact zQ rfl
   ·refine tJ (fun h12=>?_) (fun h12=>?_)
    ·refine J_g 60 [] [(30,bv true)] [] (zD 2 (vG [(.tmp 21),(.tmp 22)] [28,23] (kT.ok a1 a2) h11) (uE 4 [(24,bv (!x10))] [] h12 zB)) ?_
     exact wD (J_j (jv15 true)) rfl
    ·refine zA (fun x13 h14=>?_)
     refine J_g 60 [] [(30,bv (!x13))] [] (zD 2 (vG [(.tmp 21),(.tmp 22)] [28,23] (kT.ok a1 a2) h11) (uE 4 [(24,bv (!x10))] [] h12 (zCR 7 4 25 false (vG [(.tmp 26),(.tmp 27)] [28,23] (kT.ok a1 a3) h14) zB))) ?_
     exact wD (J_j (jv15 (!x13))) rfl
noncomputable def c79:Code:=(Tryz.f79.body).getD .skip
theorem zEg.ok (a1:(List Pack)) (a2:(List Int)) (a3:ByteArray) (q:Wd) (kn:Unit→Option (D×List Ent)) (hk:∀v:Unit,J (q.g Tryz.prog 79 0 28) c79 (atI c79 7) (St.mk' [] []) (some v) kn):
  ∀s12:Int,J (q.g Tryz.prog 79 0 28) c79 (atI c79 52) (St.mk' [(0,sl 8 (Pack.enc false) a1),(1,sl 1 zC a2),(2,sv a3),(7,iv s12)] []) (zEg a1 a2 a3 s12) (Fl.go (fun r:Int=>some (iv r,[])) kn):=by
 refine tV (fun g ih s12=>?_)
 unfold zDG
 refine J_d 208 [] [11] [(11,bv (decide (s12< (a2.length:Int))))] [] [] zB ?_
 refine zF 11 (fun h13=>?_) (fun h13=>?_)
 ·refine zA (fun x14 h15=>?_)
  refine zA (fun x16 h17=>?_)
  refine J_d 840 [] [11,23] [(23,bv (seq x16.Name a3))] [] [] (zD 3 (tT (kk:=.i64) 23 2 1 zC (.tmp 15) (.tmp 16) h15) (zD 5 (tT (kk:=.i64) 28 63 8 (Pack.enc false) (.tmp 14) (.tmp 18) h17) zB)) ?_
  refine zF 23 (fun h18=>?_) (fun h18=>?_)
  ·refine zA (fun x19 h20=>?_)
   refine J_g 3364 [] [(6,iv x19)] [] (zD 2 (tT (kk:=.i64) 23 2 1 zC (.tmp 24) (.tmp 25) h20) zB) ?_
   exact zQ rfl
  ·refine J_d 211 [] [7,23] [(7,iv (w64 (s12+1)))] [] [] zB ?_
   exact J_q (J_b (ih (w64 (s12+1)))) rfl
 ·exact wD (hk ()) rfl
theorem zAi.ok (a1:(List Pack)) (a2:(List Int)) (a3:ByteArray):Ok Tryz.prog 79 [sl 8 (Pack.enc false) a1,sl 1 zC a2,sv a3] [] ((zAi a1 a2 a3).map fun r=>(iv r,[])):=by
 refine zG c79 Tryz.f79 0 28 (fun q=>?_)
 unfold zAi
 refine J_g 2 [] [(0,sl 8 (Pack.enc false) a1),(1,sl 1 zC a2),(2,sv a3)] [] zB ?_
 refine J_d 12 [] [7] [(7,iv 0)] [] [] zB ?_
 refine uP (K0:=(fun r:Int=>some (iv r,[]))) (fun _=>rfl) (zEg.ok a1 a2 a3 q _ (fun v21=>J_j ?_) 0)
 refine J_g 14 [] [(6,iv (-1))] [] zB ?_
 exact zQ rfl
noncomputable def c52:Code:=(Tryz.f52.body).getD .skip
theorem zD8.ok (a1:(List ByteArray)) (a2:ByteArray) (q:Wd) (kn:((List ByteArray)×Bool)→Option (D×List Ent)) (hk:∀v:((List ByteArray)×Bool),J (q.g Tryz.prog 52 1 50) c52 (atI c52 31) (St.mk' [(1,sv a2),(5,rr 1 v.1),(6,bv v.2)] [(0,rE 1 eStr a1),(1,rE 1 eStr v.1)]) (some v) kn):
  ∀s19:((List ByteArray)×Bool×Int),J (q.g Tryz.prog 52 1 50) c52 (atI c52 244) (St.mk' [(0,rr 0 a1),(1,sv a2),(5,rr 1 s19.1),(6,bv s19.2.1),(7,iv s19.2.2)] [(0,rE 1 eStr a1),(1,rE 1 eStr s19.1)]) (zD8 a1 a2 s19) (Fl.go (fun r:(List ByteArray)=>some (so 1 eStr r,[])) kn):=by
 refine tV (fun g ih s19=>?_)
 unfold zDk
 refine J_d 976 [] [12] [(12,bv (decide (s19.2.2< (a1.length:Int))))] [] [] zB ?_
 refine zF 12 (fun h20=>?_) (fun h20=>?_)
 ·refine zA (fun x21 h22=>?_)
  refine J_d 7824 [] [12,20] [(20,bv (seq x21 a2))] [] [] (zD 2 (jT (kk:=.i64) 52 9 1 0 eStr (.tmp 15) (.tmp 16) h22) (zD 3 (zC1 (d:=sv x21) 9 1 0 0 eStr (.tmp 17) h22 (by kernel_rfl)) zB)) ?_
  refine zF 20 (fun h23=>?_) (fun h23=>?_)
  ·refine J_g 31300 [] [(4,rr 0 a1)] [(0,rE 1 eStr a1)] zB ?_
   exact zEl (ds:=[rr 0 a1]) (ds':=[so 1 eStr a1]) (.cons (.cell (.move (.head _) (List.length_map _) (by decide) (.nil))) (.nil) (by decide)) rfl
  ·refine zA (fun x24 h25=>?_)
   refine vW (atI c52 15653) (fun v27:Bool=>St.mk' [(0,rr 0 a1),(1,sv a2),(5,rr 1 s19.1),(6,bv s19.2.1),(7,iv s19.2.2),(31,bv v27)] [(0,rE 1 eStr a1),(1,rE 1 eStr s19.1)]) (fun v27=>?_) (fun jv27=>?_)
   ·refine vW (atI c52 7827) (fun v31:((List ByteArray)×Bool)=>St.mk' [(0,rr 0 a1),(1,sv a2),(5,rr 3 v31.1),(6,bv v31.2),(7,iv s19.2.2)] [(0,rE 1 eStr a1),(3,rE 1 eStr v31.1)]) (fun v31=>?_) (fun jv31=>?_)
    ·refine zA (fun x32 h33=>?_)
     refine zA (fun x34 h35=>?_)
     refine J_g 7827 [] [(0,rr 0 a1),(1,sv a2),(5,rr 5 x34),(6,bv v31.2),(7,iv s19.2.2)] [(0,rE 1 eStr a1),(5,rE 1 eStr x34)] (zD 3 (jT (kk:=.i64) 52 9 1 0 eStr (.tmp 37) (.tmp 38) h33) (zD 4 (zC1 (d:=sv x32) 9 1 0 0 eStr (.tmp 39) h33 (by kernel_rfl)) (zD 5 (zEa 52 9 1 4 eStr [x32] [0] [(.tmp 40)] [sv x32]) (zD 6 (zGv 52 52 9 9 1 16 5 3 4 eStr (.tmp 36) (.tmp 41) h35) zB)))) ?_
     refine J_d 979 [] [7] [(7,iv (w64 (s19.2.2+1)))] [] [] zB ?_
     refine jR 5 1 (Nat.le_of_ble_eq_true rfl) (Nat.le_of_ble_eq_true rfl) ?_
     exact J_q (J_b (ih (x34,v31.2,w64 (s19.2.2+1)))) rfl
    ·refine zF 31 (fun h28=>?_) (fun h28=>?_)
     ·refine zA (fun x29 h30=>?_)
      refine J_g 62612 [] [(0,rr 0 a1),(1,sv a2),(5,rr 3 x29),(7,iv s19.2.2)] [(0,rE 1 eStr a1),(3,rE 1 eStr x29)] (zD 2 (zEa 52 9 1 2 eStr [a2] [0] [(.tmp 33)] [sv a2]) (zD 3 (zGv 52 52 9 9 1 16 3 1 2 eStr (.tmp 32) (.tmp 34) h30) zB)) ?_
      refine J_d 62613 [] [6] [(6,bv true)] [] [] zB ?_
      exact wD (J_j (jv31 (x29,true))) rfl
     ·refine jR 1 3 (Nat.le_of_ble_eq_true rfl) (Nat.le_of_ble_eq_true rfl) ?_
      exact wD (J_j (jv31 (s19.1,s19.2.1))) rfl
   ·refine tJ (fun h26=>?_) (fun h26=>?_)
    ·refine J_d 15652 [] [20,31] [(31,bv (!s19.2.1))] [] [] (zD 2 (jT (kk:=.i64) 52 9 1 0 eStr (.tmp 22) (.tmp 23) h25) (zD 3 (zC1 (d:=sv x24) 9 1 0 0 eStr (.tmp 24) h25 (by kernel_rfl)) (uE 6 [(27,bv (!(slt x24 a2||seq x24 a2)))] [] h26 zB))) ?_
     exact wD (J_j (jv27 (!s19.2.1))) rfl
    ·refine J_d 15652 [] [20,31] [(31,bv false)] [] [] (zD 2 (jT (kk:=.i64) 52 9 1 0 eStr (.tmp 22) (.tmp 23) h25) (zD 3 (zC1 (d:=sv x24) 9 1 0 0 eStr (.tmp 24) h25 (by kernel_rfl)) (uE 6 [(27,bv (!(slt x24 a2||seq x24 a2)))] [] h26 zB))) ?_
     exact wD (J_j (jv27 false)) rfl
 ·exact wD (hk (s19.1,s19.2.1)) rfl
theorem uL.ok (a1:(List ByteArray)) (a2:ByteArray):Ok Tryz.prog 52 [rr 0 a1,sv a2] [rE 1 eStr a1] ((uL a1 a2).map fun r=>(so 1 eStr r,[])):=by
 refine zG c52 Tryz.f52 1 50 (fun q=>?_)
 unfold uL
 refine J_g 2 [] [(0,rr 0 a1),(1,sv a2)] [(0,rE 1 eStr a1)] zB ?_
 refine J_g 6 [] [(0,rr 0 a1),(1,sv a2),(5,rr 1 ([]:List ByteArray))] [(0,rE 1 eStr a1),(1,rE 1 eStr ([]:List ByteArray))] (zD 0 (zEa 52 9 1 1 eStr ([]:List ByteArray) [] [] []) zB) ?_
 refine J_g 14 [] [(0,rr 0 a1),(1,sv a2),(5,rr 1 ([]:List ByteArray)),(6,bv false)] [(0,rE 1 eStr a1),(1,rE 1 eStr ([]:List ByteArray))] zB ?_
 refine J_d 60 [] [7] [(7,iv 0)] [] [] zB ?_
 refine uP (K0:=(fun r:(List ByteArray)=>some (so 1 eStr r,[]))) (fun _=>rfl) (zD8.ok a1 a2 q _ (fun v36=>J_j ?_) (([]:List ByteArray),false,0))
 refine J_d 124 [] [6,44] [(44,bv (!v36.2))] [] [] zB ?_
 refine vW (atI c52 63) (fun v40:(List ByteArray)=>St.mk' [(5,rr 3 v40)] [(0,rE 1 eStr a1),(3,rE 1 eStr v40)]) (fun v40=>?_) (fun jv40=>?_)
 ·refine J_g 126 [] [(4,rr 3 v40)] [(0,rE 1 eStr a1),(3,rE 1 eStr v40)] zB ?_
  exact zEl (ds:=[rr 3 v40]) (ds':=[so 1 eStr v40]) (.cons (.cell (.move (.tail _ (.head _)) (List.length_map _) (by decide) (.nil))) (.nil) (by decide)) rfl
 ·refine zF 44 (fun h37=>?_) (fun h37=>?_)
  ·refine zA (fun x38 h39=>?_)
   refine J_g 250 [] [(5,rr 3 x38)] [(0,rE 1 eStr a1),(3,rE 1 eStr x38)] (zD 2 (zEa 52 9 1 2 eStr [a2] [0] [(.tmp 46)] [sv a2]) (zD 3 (zGv 52 52 9 9 1 16 3 1 2 eStr (.tmp 45) (.tmp 47) h39) zB)) ?_
   exact wD (J_j (jv40 x38)) rfl
  ·refine jR 1 3 (Nat.le_of_ble_eq_true rfl) (Nat.le_of_ble_eq_true rfl) ?_
   exact wD (J_j (jv40 v36.1)) rfl
noncomputable def c49:Code:=(Tryz.f49.body).getD .skip
theorem zB4.ok (a1:(List Pack)) (a2:(List Int)) (a3:(List Int)) (q:Wd) (kn:(List ByteArray)→Option (D×List Ent)) (hk:∀v:(List ByteArray),J (q.g Tryz.prog 49 0 35) c49 (atI c49 15) (St.mk' [(7,rr 0 v)] [(0,rE 1 eStr v)]) (some v) kn):
  ∀s15:((List ByteArray)×Int),J (q.g Tryz.prog 49 0 35) c49 (atI c49 116) (St.mk' [(0,sl 8 (Pack.enc false) a1),(1,sl 1 zC a2),(2,sl 1 zC a3),(7,rr 0 s15.1),(8,iv s15.2)] [(0,rE 1 eStr s15.1)]) (zB4 a1 a2 a3 s15) kn:=by
 refine tV (fun g ih s15=>?_)
 unfold zAV
 refine J_d 464 [] [14] [(14,bv (decide (s15.2< (a1.length:Int))))] [] [] zB ?_
 refine zF 14 (fun h16=>?_) (fun h16=>?_)
 ·refine zA (fun x17 h18=>?_)
  refine J_d 1864 [] [9,14] [(9,sv x17.Name)] [] [] (zD 2 (tT (kk:=.i64) 28 63 8 (Pack.enc false) (.tmp 17) (.tmp 18) h18) zB) ?_
  refine zA (fun x19 h20=>?_)
  refine zA (fun x21 h22=>?_)
  refine J_d 3730 [] [30] [(30,bv (x19 !=x21))] [] [] (zD 3 (vG [(.tmp 22),(.tmp 23),(.tmp 24)] [28,23,9] (zAi.ok a1 a2 x17.Name) h20) (zD 7 (vG [(.tmp 26),(.tmp 27),(.tmp 28)] [28,23,9] (zAi.ok a1 a3 x17.Name) h22) zB)) ?_
  refine vW (aft c49 932) (fun v26:(List ByteArray)=>St.mk' [(0,sl 8 (Pack.enc false) a1),(1,sl 1 zC a2),(2,sl 1 zC a3),(7,rr 1 v26),(8,iv s15.2)] [(1,rE 1 eStr v26)]) (fun v26=>?_) (fun jv26=>?_)
  ·refine J_d 467 [] [8] [(8,iv (w64 (s15.2+1)))] [] [] zB ?_
   refine jR 1 0 (Nat.le_of_ble_eq_true rfl) (Nat.le_of_ble_eq_true rfl) ?_
   exact J_q (J_b (ih (v26,w64 (s15.2+1)))) rfl
  ·refine zF 30 (fun h23=>?_) (fun h23=>?_)
   ·refine zA (fun x24 h25=>?_)
    refine J_d 7462 [] [7,9,30] [(7,rr 1 x24)] [0,1] [(1,rE 1 eStr x24)] (zD 2 (vC («as»:=[rr 0 s15.1,sv x17.Name]) [(.tmp 31),(.tmp 32)] [52,9] false [(0,rE 1 eStr s15.1)] [0] (.cons (.rf rfl) (.cons (.same rfl) (.nil))) (uL.ok s15.1 x17.Name) h25 (.own 1)) zB) ?_
    exact wD (J_j (jv26 x24)) rfl
   ·refine jR 0 1 (Nat.le_of_ble_eq_true rfl) (Nat.le_of_ble_eq_true rfl) ?_
    exact wD (J_j (jv26 s15.1)) rfl
 ·exact wD (hk s15.1) rfl
theorem zAf.ok (a1:(List Pack)) (a2:(List Int)) (a3:(List Int)):Ok Tryz.prog 49 [sl 8 (Pack.enc false) a1,sl 1 zC a2,sl 1 zC a3] [] ((zAf a1 a2 a3).map fun r=>(so 1 eStr r,[])):=by
 refine zG c49 Tryz.f49 0 35 (fun q=>?_)
 unfold zAf
 refine J_g 2 [] [(0,sl 8 (Pack.enc false) a1),(1,sl 1 zC a2),(2,sl 1 zC a3)] [] zB ?_
 refine J_g 6 [] [(0,sl 8 (Pack.enc false) a1),(1,sl 1 zC a2),(2,sl 1 zC a3),(7,rr 0 ([]:List ByteArray))] [(0,rE 1 eStr ([]:List ByteArray))] (zD 0 (zEa 52 9 1 0 eStr ([]:List ByteArray) [] [] []) zB) ?_
 refine J_d 28 [] [8] [(8,iv 0)] [] [] zB ?_
 refine zE2 (zB4.ok a1 a2 a3 q _ (fun v27=>J_j ?_) (([]:List ByteArray),0))
 refine J_g 30 [] [(6,rr 0 v27)] [(0,rE 1 eStr v27)] zB ?_
 exact zEl (ds:=[rr 0 v27]) (ds':=[so 1 eStr v27]) (.cons (.cell (.move (.head _) (List.length_map _) (by decide) (.nil))) (.nil) (by decide)) rfl
noncomputable def zPs:Code:=(Tryz.f122.body).getD .skip
theorem zBW.ok (a1:(List Pack)) (a2:(List Int)) (a3:(List Int)) (a4:ByteArray):Ok Tryz.prog 122 [sl 8 (Pack.enc false) a1,sl 1 zC a2,sl 1 zC a3,sv a4] [] ((zBW a1 a2 a3 a4).map fun r=>(so 8 (Pack.enc false) r,[])):=by
 refine zG zPs Tryz.f122 0 40 (fun q=>?_)
 unfold zBW
 refine J_g 2 [] [(0,sl 8 (Pack.enc false) a1),(1,sl 1 zC a2),(2,sl 1 zC a3),(3,sv a4)] [] zB ?_
 refine J_d 6 [] [9] [(9,rr 0 ([]:List Pack))] [0] [(0,rE 8 (Pack.enc false) ([]:List Pack))] (zD 0 (zEa 28 63 8 0 (Pack.enc false) ([]:List Pack) [] [] []) zB) ?_
 refine zA (fun x5 h6=>?_)
 refine J_g 28 [] [(0,sl 8 (Pack.enc false) a1),(2,sl 1 zC a3),(3,sv a4),(9,rr 0 ([]:List Pack)),(10,iv x5)] [(0,rE 8 (Pack.enc false) ([]:List Pack))] (zD 3 (vG [(.tmp 13),(.tmp 14),(.tmp 15)] [28,23,9] (zAi.ok a1 a2 a4) h6) zB) ?_
 refine J_d 58 [] [18] [(18,bv (decide (x5≥0)))] [] [] zB ?_
 refine vW (atI zPs 15) (fun v12:(List Pack)=>St.mk' [(0,sl 8 (Pack.enc false) a1),(2,sl 1 zC a3),(3,sv a4),(9,rr 2 v12)] [(2,rE 8 (Pack.enc false) v12)]) (fun v12=>?_) (fun jv12=>?_)
 ·refine zA (fun x13 h14=>?_)
  refine J_g 60 [] [(0,sl 8 (Pack.enc false) a1),(9,rr 2 v12),(11,iv x13)] [(2,rE 8 (Pack.enc false) v12)] (zD 3 (vG [(.tmp 26),(.tmp 27),(.tmp 28)] [28,23,9] (zAi.ok a1 a3 a4) h14) zB) ?_
  refine J_d 122 [] [31] [(31,bv (decide (x13≥0)))] [] [] zB ?_
  refine vW (atI zPs 31) (fun v20:(List Pack)=>St.mk' [(9,rr 4 v20)] [(4,rE 8 (Pack.enc false) v20)]) (fun v20=>?_) (fun jv20=>?_)
  ·refine J_g 62 [] [(8,rr 4 v20)] [(4,rE 8 (Pack.enc false) v20)] zB ?_
   exact zEl (ds:=[rr 4 v20]) (ds':=[so 8 (Pack.enc false) v20]) (.cons (.cell (.move (.head _) (List.length_map _) (by decide) (.nil))) (.nil) (by decide)) rfl
  ·refine zF 31 (fun h15=>?_) (fun h15=>?_)
   ·refine zA (fun x16 h17=>?_)
    refine zA (fun x18 h19=>?_)
    refine J_g 246 [] [(9,rr 4 x18)] [(4,rE 8 (Pack.enc false) x18)] (zD 3 (tT (kk:=.i64) 28 63 8 (Pack.enc false) (.tmp 33) (.tmp 34) h17) (zD 5 (zEa 28 63 8 3 (Pack.enc false) [x16] [0] [(.tmp 36)] [.ag (Pack.enc false x16)]) (zD 6 (zGv 28 28 63 63 8 120 4 2 3 (Pack.enc false) (.tmp 32) (.tmp 37) h19) zB))) ?_
    exact wD (J_j (jv20 x18)) rfl
   ·refine jR 2 4 (Nat.le_of_ble_eq_true rfl) (Nat.le_of_ble_eq_true rfl) ?_
    exact wD (J_j (jv20 v12)) rfl
 ·refine zF 18 (fun h7=>?_) (fun h7=>?_)
  ·refine zA (fun x8 h9=>?_)
   refine zA (fun x10 h11=>?_)
   refine J_d 118 [] [9,10,18] [(9,rr 2 x10)] [0,2] [(2,rE 8 (Pack.enc false) x10)] (zD 3 (tT (kk:=.i64) 28 63 8 (Pack.enc false) (.tmp 20) (.tmp 21) h9) (zD 5 (zEa 28 63 8 1 (Pack.enc false) [x8] [0] [(.tmp 23)] [.ag (Pack.enc false x8)]) (zD 6 (zGv 28 28 63 63 8 120 2 0 1 (Pack.enc false) (.tmp 19) (.tmp 24) h11) zB))) ?_
   exact wD (J_j (jv12 x10)) rfl
  ·refine jR 0 2 (Nat.le_of_ble_eq_true rfl) (Nat.le_of_ble_eq_true rfl) ?_
   exact wD (J_j (jv12 ([]:List Pack))) rfl
noncomputable def c80:Code:=(Tryz.f80.body).getD .skip
theorem zCF.ok (x5:(List Pack)) (s28:((List ByteArray)×Int)) (q:Wd) (kn:(List ByteArray)→Option (D×List Ent)) (hk:∀v:(List ByteArray),J (q.g Tryz.prog 80 0 47) c80 (aft c80 1956) (St.mk' [(9,rr 0 v),(10,rr 1 x5),(11,iv s28.2)] [(0,rE 1 eStr v),(1,rE 8 (Pack.enc false) x5)]) (some v) kn):
  ∀s39:((List ByteArray)×Int),J (q.g Tryz.prog 80 0 47) c80 (atI c80 15652) (St.mk' [(9,rr 0 s39.1),(10,rr 1 x5),(11,iv s28.2),(12,iv s39.2)] [(0,rE 1 eStr s39.1),(1,rE 8 (Pack.enc false) x5)]) (zCF x5 s28 s39) kn:=by
 refine tV (fun g ih s39=>?_)
 unfold zCm
 refine zA (fun x40 h41=>?_)
 refine J_d 62608 [] [33] [(33,bv (decide (s39.2< (x40.Provides.length:Int))))] [] [] (zD 3 (jT (kk:=.i64) 28 63 8 1 (Pack.enc false) (.tmp 27) (.tmp 28) h41) (zD 5 (zC1 (d:=sl 1 eStr x40.Provides) 52 8 1 5 (Pack.enc false) (.tmp 30) h41 (by kernel_rfl)) zB)) ?_
 refine zF 33 (fun h42=>?_) (fun h42=>?_)
 ·refine zA (fun x43 h44=>?_)
  refine zA (fun x45 h46=>?_)
  refine zA (fun x47 h48=>?_)
  refine J_g 125220 [] [(9,rr 2 x47),(10,rr 1 x5),(11,iv s28.2),(12,iv s39.2)] [(1,rE 8 (Pack.enc false) x5),(2,rE 1 eStr x47)] (zD 3 (jT (kk:=.i64) 28 63 8 1 (Pack.enc false) (.tmp 37) (.tmp 38) h44) (zD 5 (zC1 (d:=sl 1 eStr x43.Provides) 52 8 1 5 (Pack.enc false) (.tmp 40) h44 (by kernel_rfl)) (zD 7 (tT (kk:=.i64) 52 9 1 eStr (.tmp 41) (.tmp 42) h46) (zD 9 (vC («as»:=[rr 0 s39.1,sv x45]) [(.tmp 36),(.tmp 44)] [52,9] false [(0,rE 1 eStr s39.1)] [0] (.cons (.rf rfl) (.cons (.same rfl) (.nil))) (uL.ok s39.1 x45) h48 (.own 2)) zB)))) ?_
  refine J_d 62611 [] [12] [(12,iv (w64 (s39.2+1)))] [] [] zB ?_
  refine jR 2 0 (Nat.le_of_ble_eq_true rfl) (Nat.le_of_ble_eq_true rfl) ?_
  exact J_q (J_b (ih (x47,w64 (s39.2+1)))) rfl
 ·exact wD (hk s39.1) rfl
theorem zCN.ok (x5:(List Pack)) (q:Wd) (kn:(List ByteArray)→Option (D×List Ent)) (hk:∀v:(List ByteArray),J (q.g Tryz.prog 80 0 47) c80 (atI c80 31) (St.mk' [(9,rr 0 v)] [(0,rE 1 eStr v)]) (some v) kn):
  ∀s28:((List ByteArray)×Int),J (q.g Tryz.prog 80 0 47) c80 (atI c80 244) (St.mk' [(9,rr 0 s28.1),(10,rr 1 x5),(11,iv s28.2)] [(0,rE 1 eStr s28.1),(1,rE 8 (Pack.enc false) x5)]) (zCN x5 s28) kn:=by
 refine tV (fun g ih s28=>?_)
 unfold zBZ
 refine J_d 976 [] [23] [(23,bv (decide (s28.2< (x5.length:Int))))] [] [] zB ?_
 refine zF 23 (fun h29=>?_) (fun h29=>?_)
 ·refine J_d 3912 [] [12,23] [(12,iv 0)] [] [] zB ?_
  refine zE2 (zCF.ok x5 s28 q _ (fun v49=>J_j ?_) (s28.1,0))
  refine J_d 979 [] [11] [(11,iv (w64 (s28.2+1)))] [] [] zB ?_
  exact J_q (J_b (ih (v49,w64 (s28.2+1)))) rfl
 ·exact wD (hk s28.1) rfl
theorem zBe.ok (a1:(List Pack)) (a2:(List Int)) (a3:(List Int)) (a4:ByteArray):Ok Tryz.prog 80 [sl 8 (Pack.enc false) a1,sl 1 zC a2,sl 1 zC a3,sv a4] [] ((zBe a1 a2 a3 a4).map fun r=>(so 1 eStr r,[])):=by
 refine zG c80 Tryz.f80 0 47 (fun q=>?_)
 unfold zBe
 refine J_g 2 [] [(0,sl 8 (Pack.enc false) a1),(1,sl 1 zC a2),(2,sl 1 zC a3),(3,sv a4)] [] zB ?_
 refine J_d 6 [] [9] [(9,rr 0 [a4])] [0] [(0,rE 1 eStr [a4])] (zD 1 (zEa 52 9 1 0 eStr [a4] [0] [(.tmp 13)] [sv a4]) zB) ?_
 refine zA (fun x5 h6=>?_)
 refine J_g 14 [] [(9,rr 0 [a4]),(10,rr 1 x5)] [(0,rE 1 eStr [a4]),(1,rE 8 (Pack.enc false) x5)] (zD 4 (vC («as»:=[sl 8 (Pack.enc false) a1,sl 1 zC a2,sl 1 zC a3,sv a4]) [(.tmp 15),(.tmp 16),(.tmp 17),(.tmp 18)] [28,23,23,9] false [] [] (.cons (.same rfl) (.cons (.same rfl) (.cons (.same rfl) (.cons (.same rfl) (.nil))))) (zBW.ok a1 a2 a3 a4) h6 (.own 1)) zB) ?_
 refine J_d 60 [] [11] [(11,iv 0)] [] [] zB ?_
 refine zE2 (zCN.ok x5 q _ (fun v50=>J_j ?_) ([a4],0))
 refine J_g 62 [] [(8,rr 0 v50)] [(0,rE 1 eStr v50)] zB ?_
 exact zEl (ds:=[rr 0 v50]) (ds':=[so 1 eStr v50]) (.cons (.cell (.move (.head _) (List.length_map _) (by decide) (.nil))) (.nil) (by decide)) rfl
noncomputable def c124:Code:=(Tryz.f124.body).getD .skip
theorem zAI.ok (a1:Pack) (s23:((List ByteArray)×Int)) (q:Wd) (kn:(List ByteArray)→Option (D×List Ent)) (hk:∀v:(List ByteArray),J (q.g Tryz.prog 124 0 52) c124 (aft c124 932) (St.mk' [(1,pp 0),(3,rr 1 v),(4,iv s23.2)] [(0,.box (Pack.enc false a1)),(1,rE 1 eStr v)]) (some v) kn):
  ∀s34:((List ByteArray)×Int),J (q.g Tryz.prog 124 0 52) c124 (atI c124 7460) (St.mk' [(1,pp 0),(3,rr 1 s34.1),(4,iv s23.2),(5,iv s34.2)] [(0,.box (Pack.enc false a1)),(1,rE 1 eStr s34.1)]) (zAI a1 s23 s34) kn:=by
 refine tV (fun g ih s34=>?_)
 unfold zAy
 refine zA (fun x35 h36=>?_)
 refine J_d 29840 [] [22] [(22,bv (decide (s34.2< (x35.length:Int))))] [] [] (zD 4 (tT (kk:=.i64) 60 61 1 (eSl false 7 Term.enc) (.tmp 17) (.tmp 18) h36) zB) ?_
 refine zF 22 (fun h37=>?_) (fun h37=>?_)
 ·refine zA (fun x38 h39=>?_)
  refine zA (fun x40 h41=>?_)
  refine zA (fun x42 h43=>?_)
  refine J_g 59684 [] [(1,pp 0),(3,rr 2 x42),(4,iv s23.2),(5,iv s34.2)] [(0,.box (Pack.enc false a1)),(2,rE 1 eStr x42)] (zD 4 (tT (kk:=.i64) 60 61 1 (eSl false 7 Term.enc) (.tmp 27) (.tmp 28) h39) (zD 7 (tT (kk:=.i64) 61 102 7 Term.enc (.tmp 30) (.tmp 31) h41) (zD 10 (vC («as»:=[rr 1 s34.1,sv x40.Name]) [(.tmp 25),(.tmp 34)] [52,9] false [(1,rE 1 eStr s34.1)] [1] (.cons (.rf rfl) (.cons (.same rfl) (.nil))) (uL.ok s34.1 x40.Name) h43 (.own 2)) zB))) ?_
  refine J_d 29843 [] [5] [(5,iv (w64 (s34.2+1)))] [] [] zB ?_
  refine jR 2 1 (Nat.le_of_ble_eq_true rfl) (Nat.le_of_ble_eq_true rfl) ?_
  exact J_q (J_b (ih (x42,w64 (s34.2+1)))) rfl
 ·exact wD (hk s34.1) rfl
theorem zAT.ok (a1:Pack) (q:Wd) (kn:(List ByteArray)→Option (D×List Ent)) (hk:∀v:(List ByteArray),J (q.g Tryz.prog 124 0 52) c124 (atI c124 31) (St.mk' [(3,rr 1 v)] [(1,rE 1 eStr v)]) (some v) kn):
  ∀s51:((List ByteArray)×Int),J (q.g Tryz.prog 124 0 52) c124 (atI c124 244) (St.mk' [(1,pp 0),(3,rr 1 s51.1),(6,iv s51.2)] [(0,.box (Pack.enc false a1)),(1,rE 1 eStr s51.1)]) (zAT a1 s51) kn:=by
 refine tV (fun g ih s51=>?_)
 unfold zA3
 refine J_d 976 [] [40] [(40,bv (decide (s51.2< (a1.Bars.length:Int))))] [] [] zB ?_
 refine zF 40 (fun h52=>?_) (fun h52=>?_)
 ·refine zA (fun x53 h54=>?_)
  refine zA (fun x55 h56=>?_)
  refine J_g 1956 [] [(1,pp 0),(3,rr 2 x55),(6,iv s51.2)] [(0,.box (Pack.enc false a1)),(2,rE 1 eStr x55)] (zD 4 (tT (kk:=.i64) 61 102 7 Term.enc (.tmp 45) (.tmp 46) h54) (zD 7 (vC («as»:=[rr 1 s51.1,sv x53.Name]) [(.tmp 43),(.tmp 49)] [52,9] false [(1,rE 1 eStr s51.1)] [1] (.cons (.rf rfl) (.cons (.same rfl) (.nil))) (uL.ok s51.1 x53.Name) h56 (.own 2)) zB)) ?_
  refine J_d 979 [] [6] [(6,iv (w64 (s51.2+1)))] [] [] zB ?_
  refine jR 2 1 (Nat.le_of_ble_eq_true rfl) (Nat.le_of_ble_eq_true rfl) ?_
  exact J_q (J_b (ih (x55,w64 (s51.2+1)))) rfl
 ·exact wD (hk s51.1) rfl
theorem zBc.ok (a1:Pack) (q:Wd) (kn:(List ByteArray)→Option (D×List Ent)) (hk:∀v:(List ByteArray),J (q.g Tryz.prog 124 0 52) c124 (atI c124 15) (St.mk' [(1,pp 0),(3,rr 1 v)] [(0,.box (Pack.enc false a1)),(1,rE 1 eStr v)]) (some v) kn):
  ∀s23:((List ByteArray)×Int),J (q.g Tryz.prog 124 0 52) c124 (atI c124 116) (St.mk' [(1,pp 0),(3,rr 1 s23.1),(4,iv s23.2)] [(0,.box (Pack.enc false a1)),(1,rE 1 eStr s23.1)]) (zBc a1 s23) kn:=by
 refine tV (fun g ih s23=>?_)
 unfold zA2
 refine J_d 464 [] [12] [(12,bv (decide (s23.2< (a1.Needs.length:Int))))] [] [] zB ?_
 refine zF 12 (fun h24=>?_) (fun h24=>?_)
 ·refine J_d 1864 [] [5,12] [(5,iv 0)] [] [] zB ?_
  refine zE2 (zAI.ok a1 s23 q _ (fun v44=>J_j ?_) (s23.1,0))
  refine J_d 467 [] [4] [(4,iv (w64 (s23.2+1)))] [] [] zB ?_
  exact J_q (J_b (ih (v44,w64 (s23.2+1)))) rfl
 ·exact wD (hk s23.1) rfl
theorem kN.ok (a1:Pack):Ok Tryz.prog 124 [.ag (Pack.enc false a1)] [] ((kN a1).map fun r=>(so 1 eStr r,[])):=by
 refine zG c124 Tryz.f124 0 52 (fun q=>?_)
 unfold kN
 refine J_g 2 [(0,0)] [(1,pp 0)] [(0,.box (Pack.enc false a1))] zB ?_
 refine J_g 6 [] [(1,pp 0),(3,rr 1 ([]:List ByteArray))] [(0,.box (Pack.enc false a1)),(1,rE 1 eStr ([]:List ByteArray))] (zD 0 (zEa 52 9 1 1 eStr ([]:List ByteArray) [] [] []) zB) ?_
 refine J_d 28 [] [4] [(4,iv 0)] [] [] zB ?_
 refine zE2 (zBc.ok a1 q _ (fun v45=>J_j ?_) (([]:List ByteArray),0))
 refine J_d 60 [] [6] [(6,iv 0)] [] [] zB ?_
 refine zE2 (zAT.ok a1 q _ (fun v57=>J_j ?_) (v45,0))
 refine J_g 62 [] [(2,rr 1 v57)] [(1,rE 1 eStr v57)] zB ?_
 exact zEl (ds:=[rr 1 v57]) (ds':=[so 1 eStr v57]) (.cons (.cell (.move (.head _) (List.length_map _) (by decide) (.nil))) (.nil) (by decide)) rfl
noncomputable def zOM:Code:=(Tryz.f123.body).getD .skip
theorem zDf.ok (a1:(List ByteArray)) (a2:(List ByteArray)) (q:Wd) (kn:Unit→Option (D×List Ent)) (hk:∀v:Unit,J (q.g Tryz.prog 123 0 18) zOM (atI zOM 7) (St.mk' [] []) (some v) kn):
  ∀s9:Int,J (q.g Tryz.prog 123 0 18) zOM (atI zOM 52) (St.mk' [(0,sl 1 eStr a1),(1,sl 1 eStr a2),(5,iv s9)] []) (zDf a1 a2 s9) (Fl.go (fun r:Bool=>some (bv r,[])) kn):=by
 refine tV (fun g ih s9=>?_)
 unfold zCy
 refine J_d 208 [] [9] [(9,bv (decide (s9< (a1.length:Int))))] [] [] zB ?_
 refine zF 9 (fun h10=>?_) (fun h10=>?_)
 ·refine zA (fun x11 h12=>?_)
  refine zA (fun x13 h14=>?_)
  refine J_d 840 [] [9,17] [(17,bv x13)] [] [] (zD 3 (tT (kk:=.i64) 52 9 1 eStr (.tmp 13) (.tmp 14) h12) (zD 5 (vG [(.tmp 12),(.tmp 16)] [52,9] (wP.ok a2 x11) h14) zB)) ?_
  refine zF 17 (fun h15=>?_) (fun h15=>?_)
  ·refine J_g 3364 [] [(4,bv true)] [] zB ?_
   exact zQ rfl
  ·refine J_d 211 [] [5,17] [(5,iv (w64 (s9+1)))] [] [] zB ?_
   exact J_q (J_b (ih (w64 (s9+1)))) rfl
 ·exact wD (hk ()) rfl
theorem zCP.ok (a1:(List ByteArray)) (a2:(List ByteArray)):Ok Tryz.prog 123 [sl 1 eStr a1,sl 1 eStr a2] [] ((zCP a1 a2).map fun r=>(bv r,[])):=by
 refine zG zOM Tryz.f123 0 18 (fun q=>?_)
 unfold zCP
 refine J_g 2 [] [(0,sl 1 eStr a1),(1,sl 1 eStr a2)] [] zB ?_
 refine J_d 12 [] [5] [(5,iv 0)] [] [] zB ?_
 refine uP (K0:=(fun r:Bool=>some (bv r,[]))) (fun _=>rfl) (zDf.ok a1 a2 q _ (fun v16=>J_j ?_) 0)
 refine J_g 14 [] [(4,bv false)] [] zB ?_
 exact zQ rfl
noncomputable def c81:Code:=(Tryz.f81.body).getD .skip
theorem zDE.ok (a5:(List ByteArray)) (x6:(List Pack)) (q:Wd) (kn:Unit→Option (D×List Ent)) (hk:∀v:Unit,J (q.g Tryz.prog 81 0 31) c81 (atI c81 15) (St.mk' [] []) (some v) kn):
  ∀s16:Int,J (q.g Tryz.prog 81 0 31) c81 (atI c81 116) (St.mk' [(4,sl 1 eStr a5),(11,rr 0 x6),(12,iv s16)] [(0,rE 8 (Pack.enc false) x6)]) (zDE a5 x6 s16) (Fl.go (fun r:Bool=>some (bv r,[])) kn):=by
 refine tV (fun g ih s16=>?_)
 unfold zDd
 refine J_d 464 [] [21] [(21,bv (decide (s16< (x6.length:Int))))] [] [] zB ?_
 refine zF 21 (fun h17=>?_) (fun h17=>?_)
 ·refine zA (fun x18 h19=>?_)
  refine zA (fun x20 h21=>?_)
  refine zA (fun x22 h23=>?_)
  refine J_d 1864 [] [21,30] [(30,bv x22)] [] [] (zD 2 (jT (kk:=.i64) 28 63 8 0 (Pack.enc false) (.tmp 24) (.tmp 25) h19) (zD 3 (zC1 (d:=.ag (Pack.enc false x18)) 63 8 0 0 (Pack.enc false) (.tmp 26) h19 (by kernel_rfl)) (zD 4 (vC («as»:=[.ag (Pack.enc false x18)]) [(.tmp 27)] [63] false [] [] (.cons (.same rfl) (.nil)) (kN.ok x18) h21 (.own 1)) (zD 6 (vC («as»:=[rr 1 x20,sl 1 eStr a5]) [(.tmp 28),(.tmp 29)] [52,52] true [(1,rE 1 eStr x20)] [] (.cons (zBr (.head _) (fun _=>rfl) rfl) (.cons (.same rfl) (.nil))) (zCP.ok x20 a5) h23 (.same rfl rfl) (hbor:=fun _=>⟨fhN,yL⟩)) zB)))) ?_
  refine zF 30 (fun h24=>?_) (fun h24=>?_)
  ·refine J_g 7460 [] [(10,bv true)] [] zB ?_
   exact zQ rfl
  ·refine J_d 467 [] [12,30] [(12,iv (w64 (s16+1)))] [] [] zB ?_
   exact J_q (J_b (ih (w64 (s16+1)))) rfl
 ·exact wD (hk ()) rfl
theorem jK.ok (a1:(List Pack)) (a2:(List Int)) (a3:(List Int)) (a4:ByteArray) (a5:(List ByteArray)):Ok Tryz.prog 81 [sl 8 (Pack.enc false) a1,sl 1 zC a2,sl 1 zC a3,sv a4,sl 1 eStr a5] [] ((jK a1 a2 a3 a4 a5).map fun r=>(bv r,[])):=by
 refine zG c81 Tryz.f81 0 31 (fun q=>?_)
 unfold jK
 refine J_d 2 [] [] [] [] [] zB ?_
 refine zA (fun x6 h7=>?_)
 refine J_g 6 [] [(4,sl 1 eStr a5),(11,rr 0 x6)] [(0,rE 8 (Pack.enc false) x6)] (zD 4 (vC («as»:=[sl 8 (Pack.enc false) a1,sl 1 zC a2,sl 1 zC a3,sv a4]) [(.tmp 13),(.tmp 14),(.tmp 15),(.tmp 16)] [28,23,23,9] false [] [] (.cons (.same rfl) (.cons (.same rfl) (.cons (.same rfl) (.cons (.same rfl) (.nil))))) (zBW.ok a1 a2 a3 a4) h7 (.own 0)) zB) ?_
 refine J_d 28 [] [12] [(12,iv 0)] [] [] zB ?_
 refine uP (K0:=(fun r:Bool=>some (bv r,[]))) (fun _=>rfl) (zDE.ok a5 x6 q _ (fun v25=>J_j ?_) 0)
 refine J_g 30 [] [(10,bv false)] [] zB ?_
 exact zQ rfl
noncomputable def zOz:Code:=(Tryz.f125.body).getD .skip
theorem zCr.ok (a1:(List Term)) (a2:(List ByteArray)) (q:Wd) (kn:Unit→Option (D×List Ent)) (hk:∀v:Unit,J (q.g Tryz.prog 125 0 19) zOz (atI zOz 7) (St.mk' [] []) (some v) kn):
  ∀s9:Int,J (q.g Tryz.prog 125 0 19) zOz (atI zOz 52) (St.mk' [(0,sl 7 Term.enc a1),(1,sl 1 eStr a2),(5,iv s9)] []) (zCr a1 a2 s9) (Fl.go (fun r:Bool=>some (bv r,[])) kn):=by
 refine tV (fun g ih s9=>?_)
 unfold zB1
 refine J_d 208 [] [9] [(9,bv (decide (s9< (a1.length:Int))))] [] [] zB ?_
 refine zF 9 (fun h10=>?_) (fun h10=>?_)
 ·refine zA (fun x11 h12=>?_)
  refine zA (fun x13 h14=>?_)
  refine J_d 840 [] [9,18] [(18,bv x13)] [] [] (zD 3 (tT (kk:=.i64) 61 102 7 Term.enc (.tmp 13) (.tmp 14) h12) (zD 6 (vG [(.tmp 12),(.tmp 17)] [52,9] (wP.ok a2 x11.Name) h14) zB)) ?_
  refine zF 18 (fun h15=>?_) (fun h15=>?_)
  ·refine J_g 3364 [] [(4,bv true)] [] zB ?_
   exact zQ rfl
  ·refine J_d 211 [] [5,18] [(5,iv (w64 (s9+1)))] [] [] zB ?_
   exact J_q (J_b (ih (w64 (s9+1)))) rfl
 ·exact wD (hk ()) rfl
theorem kC.ok (a1:(List Term)) (a2:(List ByteArray)):Ok Tryz.prog 125 [sl 7 Term.enc a1,sl 1 eStr a2] [] ((kC a1 a2).map fun r=>(bv r,[])):=by
 refine zG zOz Tryz.f125 0 19 (fun q=>?_)
 unfold kC
 refine J_g 2 [] [(0,sl 7 Term.enc a1),(1,sl 1 eStr a2)] [] zB ?_
 refine J_d 12 [] [5] [(5,iv 0)] [] [] zB ?_
 refine uP (K0:=(fun r:Bool=>some (bv r,[]))) (fun _=>rfl) (zCr.ok a1 a2 q _ (fun v16=>J_j ?_) 0)
 refine J_g 14 [] [(4,bv false)] [] zB ?_
 exact zQ rfl
noncomputable def c82:Code:=(Tryz.f82.body).getD .skip
theorem zAP.ok (a1:(List Pack)) (a2:(List Int)) (a3:(List ByteArray)) (a4:(List ByteArray)) (s36:Int) (x40:Pack) (q:Wd) (kn:Unit→Option (D×List Ent)) (hk:∀v:Unit,J (q.g Tryz.prog 82 0 46) c82 (aft c82 420) (St.mk' [(0,sl 8 (Pack.enc false) a1),(1,sl 1 zC a2),(2,sl 1 eStr a3),(3,sl 1 eStr a4),(9,iv s36)] []) (some v) kn):
  ∀s54:Int,J (q.g Tryz.prog 82 0 46) c82 (atI c82 6732) (St.mk' [(0,sl 8 (Pack.enc false) a1),(1,sl 1 zC a2),(2,sl 1 eStr a3),(3,sl 1 eStr a4),(9,iv s36),(10,sl 1 (eSl false 7 Term.enc) x40.Needs),(11,iv s54)] []) (zAP a1 a2 a3 a4 s36 x40 s54) (Fl.go (fun r:Bool=>some (bv r,[])) kn):=by
 refine tV (fun g ih s54=>?_)
 unfold zAw
 refine J_d 26928 [] [29] [(29,bv (decide (s54< (x40.Needs.length:Int))))] [] [] zB ?_
 refine zF 29 (fun h55=>?_) (fun h55=>?_)
 ·refine zA (fun x56 h57=>?_)
  refine zA (fun x58 h59=>?_)
  refine vW (atI c82 107721) (fun v65:Bool=>St.mk' [(0,sl 8 (Pack.enc false) a1),(1,sl 1 zC a2),(2,sl 1 eStr a3),(3,sl 1 eStr a4),(9,iv s36),(10,sl 1 (eSl false 7 Term.enc) x40.Needs),(11,iv s54),(45,bv v65)] []) (fun v65=>?_) (fun jv65=>?_)
  ·refine zF 45 (fun h66=>?_) (fun h66=>?_)
   ·refine J_g 430884 [] [(8,bv true)] [] zB ?_
    exact zQ rfl
   ·refine J_d 26931 [] [11,45] [(11,iv (w64 (s54+1)))] [] [] zB ?_
    exact J_q (J_b (ih (w64 (s54+1)))) rfl
  ·refine tJ (fun h60=>?_) (fun h60=>?_)
   ·refine zA (fun x61 h62=>?_)
    refine zA (fun x63 h64=>?_)
    refine J_d 107720 [] [29,45] [(45,bv x63)] [] [] (zD 2 (tT (kk:=.i64) 60 61 1 (eSl false 7 Term.enc) (.tmp 32) (.tmp 33) h57) (zD 5 (vG [(.tmp 35),(.tmp 36)] [61,52] (kC.ok x56 a3) h59) (uE 6 [(37,bv x58)] [] h60 (zCR 9 6 38 true (tT (kk:=.i64) 60 61 1 (eSl false 7 Term.enc) (.tmp 39) (.tmp 40) h62) (zCR 12 6 38 true (vG [(.tmp 42),(.tmp 43)] [61,52] (kC.ok x61 a4) h64) zB))))) ?_
    exact wD (J_j (jv65 x63)) rfl
   ·refine J_d 107720 [] [29,45] [(45,bv false)] [] [] (zD 2 (tT (kk:=.i64) 60 61 1 (eSl false 7 Term.enc) (.tmp 32) (.tmp 33) h57) (zD 5 (vG [(.tmp 35),(.tmp 36)] [61,52] (kC.ok x56 a3) h59) (uE 6 [(37,bv x58)] [] h60 zB))) ?_
    exact wD (J_j (jv65 false)) rfl
 ·exact wD (hk ()) rfl
theorem zAK.ok (a1:(List Pack)) (a2:(List Int)) (a3:(List ByteArray)) (a4:(List ByteArray)) (q:Wd) (kn:Unit→Option (D×List Ent)) (hk:∀v:Unit,J (q.g Tryz.prog 82 0 46) c82 (atI c82 7) (St.mk' [] []) (some v) kn):
  ∀s36:Int,J (q.g Tryz.prog 82 0 46) c82 (atI c82 52) (St.mk' [(0,sl 8 (Pack.enc false) a1),(1,sl 1 zC a2),(2,sl 1 eStr a3),(3,sl 1 eStr a4),(9,iv s36)] []) (zAK a1 a2 a3 a4 s36) (Fl.go (fun r:Bool=>some (bv r,[])) kn):=by
 refine tV (fun g ih s36=>?_)
 unfold zA1
 refine J_d 208 [] [15] [(15,bv (decide (s36< (a2.length:Int))))] [] [] zB ?_
 refine zF 15 (fun h37=>?_) (fun h37=>?_)
 ·refine zA (fun x38 h39=>?_)
  refine zA (fun x40 h41=>?_)
  refine J_g 840 [] [(0,sl 8 (Pack.enc false) a1),(1,sl 1 zC a2),(2,sl 1 eStr a3),(3,sl 1 eStr a4),(9,iv s36),(10,sl 1 (eSl false 7 Term.enc) x40.Needs)] [] (zD 3 (tT (kk:=.i64) 23 2 1 zC (.tmp 19) (.tmp 20) h39) (zD 5 (tT (kk:=.i64) 28 63 8 (Pack.enc false) (.tmp 18) (.tmp 22) h41) zB)) ?_
  refine J_d 1682 [] [11] [(11,iv 0)] [] [] zB ?_
  refine uP (K0:=(fun r:Bool=>some (bv r,[]))) (fun _=>rfl) (zAP.ok a1 a2 a3 a4 s36 x40 q _ (fun v67=>J_j ?_) 0)
  refine J_d 211 [] [9] [(9,iv (w64 (s36+1)))] [] [] zB ?_
  exact J_q (J_b (ih (w64 (s36+1)))) rfl
 ·exact wD (hk ()) rfl
theorem uS.ok (a1:(List Pack)) (a2:(List Int)) (a3:(List ByteArray)) (a4:(List ByteArray)):Ok Tryz.prog 82 [sl 8 (Pack.enc false) a1,sl 1 zC a2,sl 1 eStr a3,sl 1 eStr a4] [] ((uS a1 a2 a3 a4).map fun r=>(bv r,[])):=by
 refine zG c82 Tryz.f82 0 46 (fun q=>?_)
 unfold uS
 refine J_g 2 [] [(0,sl 8 (Pack.enc false) a1),(1,sl 1 zC a2),(2,sl 1 eStr a3),(3,sl 1 eStr a4)] [] zB ?_
 refine J_d 12 [] [9] [(9,iv 0)] [] [] zB ?_
 refine uP (K0:=(fun r:Bool=>some (bv r,[]))) (fun _=>rfl) (zAK.ok a1 a2 a3 a4 q _ (fun v68=>J_j ?_) 0)
 refine J_g 14 [] [(8,bv false)] [] zB ?_
 exact zQ rfl
noncomputable def c51:Code:=(Tryz.f51.body).getD .skip
theorem uZ.ok (a1:(List Pack)) (a2:(List Int)) (a3:(List Int)) (a4:ByteArray) (a5:ByteArray):Ok Tryz.prog 51 [sl 8 (Pack.enc false) a1,sl 1 zC a2,sl 1 zC a3,sv a4,sv a5] [] ((uZ a1 a2 a3 a4 a5).map fun r=>(bv r,[])):=by
 refine zG c51 Tryz.f51 0 51 (fun q=>?_)
 unfold uZ
 refine J_d 2 [] [] [] [] [] zB ?_
 refine zA (fun x6 h7=>?_)
 refine J_d 6 [] [11] [(11,rr 0 x6)] [0] [(0,rE 1 eStr x6)] (zD 4 (vC («as»:=[sl 8 (Pack.enc false) a1,sl 1 zC a2,sl 1 zC a3,sv a4]) [(.tmp 13),(.tmp 14),(.tmp 15),(.tmp 16)] [28,23,23,9] false [] [] (.cons (.same rfl) (.cons (.same rfl) (.cons (.same rfl) (.cons (.same rfl) (.nil))))) (zBe.ok a1 a2 a3 a4) h7 (.own 0)) zB) ?_
 refine zA (fun x8 h9=>?_)
 refine J_d 14 [] [12] [(12,rr 1 x8)] [1] [(1,rE 1 eStr x8)] (zD 4 (vC («as»:=[sl 8 (Pack.enc false) a1,sl 1 zC a2,sl 1 zC a3,sv a5]) [(.tmp 18),(.tmp 19),(.tmp 20),(.tmp 21)] [28,23,23,9] false [] [] (.cons (.same rfl) (.cons (.same rfl) (.cons (.same rfl) (.cons (.same rfl) (.nil))))) (zBe.ok a1 a2 a3 a5) h9 (.own 1)) zB) ?_
 refine zA (fun x10 h11=>?_)
 refine tJ (fun h12=>?_) (fun h12=>?_)
 ·refine J_g 30 [] [(10,bv true)] [] (zD 5 (vC («as»:=[sl 8 (Pack.enc false) a1,sl 1 zC a2,sl 1 zC a3,sv a4,rr 1 x8]) [(.tmp 23),(.tmp 24),(.tmp 25),(.tmp 26),(.tmp 27)] [28,23,23,9,52] true [(1,rE 1 eStr x8)] [] (.cons (.same rfl) (.cons (.same rfl) (.cons (.same rfl) (.cons (.same rfl) (.cons (zBr (.head _) (fun _=>rfl) rfl) (.nil)))))) (jK.ok a1 a2 a3 a4 x8) h11 (.same rfl rfl) (hbor:=fun _=>⟨fhN,yL⟩)) (uE 6 [(28,bv x10)] [] h12 zB)) ?_
  exact zQ rfl
 ·refine zA (fun x13 h14=>?_)
  refine tJ (fun h15=>?_) (fun h15=>?_)
  ·refine J_g 30 [] [(10,bv true)] [] (zD 5 (vC («as»:=[sl 8 (Pack.enc false) a1,sl 1 zC a2,sl 1 zC a3,sv a4,rr 1 x8]) [(.tmp 23),(.tmp 24),(.tmp 25),(.tmp 26),(.tmp 27)] [28,23,23,9,52] true [(1,rE 1 eStr x8)] [] (.cons (.same rfl) (.cons (.same rfl) (.cons (.same rfl) (.cons (.same rfl) (.cons (zBr (.head _) (fun _=>rfl) rfl) (.nil)))))) (jK.ok a1 a2 a3 a4 x8) h11 (.same rfl rfl) (hbor:=fun _=>⟨fhN,yL⟩)) (uE 6 [(28,bv x10)] [] h12 (zCR 12 6 29 false (vC («as»:=[sl 8 (Pack.enc false) a1,sl 1 zC a2,sl 1 zC a3,sv a5,rr 0 x6]) [(.tmp 30),(.tmp 31),(.tmp 32),(.tmp 33),(.tmp 34)] [28,23,23,9,52] true [(0,rE 1 eStr x6)] [] (.cons (.same rfl) (.cons (.same rfl) (.cons (.same rfl) (.cons (.same rfl) (.cons (zBr (.head _) (fun _=>rfl) rfl) (.nil)))))) (jK.ok a1 a2 a3 a5 x6) h14 (.same rfl rfl) (hbor:=fun _=>⟨fhN,yL⟩)) (uE 14 [(36,bv x13)] [] h15 zB)))) ?_
   exact zQ rfl
  ·refine zA (fun x16 h17=>?_)
   refine tJ (fun h18=>?_) (fun h18=>?_)
   ·refine J_g 30 [] [(10,bv true)] [] (zD 5 (vC («as»:=[sl 8 (Pack.enc false) a1,sl 1 zC a2,sl 1 zC a3,sv a4,rr 1 x8]) [(.tmp 23),(.tmp 24),(.tmp 25),(.tmp 26),(.tmp 27)] [28,23,23,9,52] true [(1,rE 1 eStr x8)] [] (.cons (.same rfl) (.cons (.same rfl) (.cons (.same rfl) (.cons (.same rfl) (.cons (zBr (.head _) (fun _=>rfl) rfl) (.nil)))))) (jK.ok a1 a2 a3 a4 x8) h11 (.same rfl rfl) (hbor:=fun _=>⟨fhN,yL⟩)) (uE 6 [(28,bv x10)] [] h12 (zCR 12 6 29 false (vC («as»:=[sl 8 (Pack.enc false) a1,sl 1 zC a2,sl 1 zC a3,sv a5,rr 0 x6]) [(.tmp 30),(.tmp 31),(.tmp 32),(.tmp 33),(.tmp 34)] [28,23,23,9,52] true [(0,rE 1 eStr x6)] [] (.cons (.same rfl) (.cons (.same rfl) (.cons (.same rfl) (.cons (.same rfl) (.cons (zBr (.head _) (fun _=>rfl) rfl) (.nil)))))) (jK.ok a1 a2 a3 a5 x6) h14 (.same rfl rfl) (hbor:=fun _=>⟨fhN,yL⟩)) (uE 14 [(36,bv x13)] [] h15 (zCR 19 14 37 false (vC («as»:=[sl 8 (Pack.enc false) a1,sl 1 zC a2,rr 0 x6,rr 1 x8]) [(.tmp 38),(.tmp 39),(.tmp 40),(.tmp 41)] [28,23,52,52] true [(0,rE 1 eStr x6),(1,rE 1 eStr x8)] [] (.cons (.same rfl) (.cons (.same rfl) (.cons (zBr (.head _) (fun _=>rfl) rfl) (.cons (zBr (.tail _ (.head _)) (fun _=>rfl) rfl) (.nil))))) (uS.ok a1 a2 x6 x8) h17 (.same rfl rfl) (hbor:=fun _=>⟨fhN,yL⟩)) (uE 21 [(43,bv x16)] [] h18 zB)))))) ?_
    exact zQ rfl
   ·refine zA (fun x19 h20=>?_)
    refine J_g 30 [] [(10,bv x19)] [] (zD 5 (vC («as»:=[sl 8 (Pack.enc false) a1,sl 1 zC a2,sl 1 zC a3,sv a4,rr 1 x8]) [(.tmp 23),(.tmp 24),(.tmp 25),(.tmp 26),(.tmp 27)] [28,23,23,9,52] true [(1,rE 1 eStr x8)] [] (.cons (.same rfl) (.cons (.same rfl) (.cons (.same rfl) (.cons (.same rfl) (.cons (zBr (.head _) (fun _=>rfl) rfl) (.nil)))))) (jK.ok a1 a2 a3 a4 x8) h11 (.same rfl rfl) (hbor:=fun _=>⟨fhN,yL⟩)) (uE 6 [(28,bv x10)] [] h12 (zCR 12 6 29 false (vC («as»:=[sl 8 (Pack.enc false) a1,sl 1 zC a2,sl 1 zC a3,sv a5,rr 0 x6]) [(.tmp 30),(.tmp 31),(.tmp 32),(.tmp 33),(.tmp 34)] [28,23,23,9,52] true [(0,rE 1 eStr x6)] [] (.cons (.same rfl) (.cons (.same rfl) (.cons (.same rfl) (.cons (.same rfl) (.cons (zBr (.head _) (fun _=>rfl) rfl) (.nil)))))) (jK.ok a1 a2 a3 a5 x6) h14 (.same rfl rfl) (hbor:=fun _=>⟨fhN,yL⟩)) (uE 14 [(36,bv x13)] [] h15 (zCR 19 14 37 false (vC («as»:=[sl 8 (Pack.enc false) a1,sl 1 zC a2,rr 0 x6,rr 1 x8]) [(.tmp 38),(.tmp 39),(.tmp 40),(.tmp 41)] [28,23,52,52] true [(0,rE 1 eStr x6),(1,rE 1 eStr x8)] [] (.cons (.same rfl) (.cons (.same rfl) (.cons (zBr (.head _) (fun _=>rfl) rfl) (.cons (zBr (.tail _ (.head _)) (fun _=>rfl) rfl) (.nil))))) (uS.ok a1 a2 x6 x8) h17 (.same rfl rfl) (hbor:=fun _=>⟨fhN,yL⟩)) (uE 21 [(43,bv x16)] [] h18 (zCR 26 21 44 false (vC («as»:=[sl 8 (Pack.enc false) a1,sl 1 zC a3,rr 0 x6,rr 1 x8]) [(.tmp 45),(.tmp 46),(.tmp 47),(.tmp 48)] [28,23,52,52] true [(0,rE 1 eStr x6),(1,rE 1 eStr x8)] [] (.cons (.same rfl) (.cons (.same rfl) (.cons (zBr (.head _) (fun _=>rfl) rfl) (.cons (zBr (.tail _ (.head _)) (fun _=>rfl) rfl) (.nil))))) (uS.ok a1 a3 x6 x8) h20 (.same rfl rfl) (hbor:=fun _=>⟨fhN,yL⟩)) zB))))))) ?_
    exact zQ rfl
noncomputable def c28:Code:=(Tryz.f28.body).getD .skip
theorem zCL.ok (a1:(List Pack)) (a2:(List Int)) (a3:(List Int)) (s206:((List ByteArray)×(List (List ByteArray)))) (s337:((List ByteArray)×Bool×Int)) (q:Wd) (kn:((List ByteArray)×Bool)→Option (D×List Ent)) (hk:∀v:((List ByteArray)×Bool),J (q.g Tryz.prog 28 0 94) c28 (aft c28 7909732) (St.mk' [(0,sl 8 (Pack.enc false) a1),(1,sl 1 zC a2),(2,sl 1 zC a3),(7,rr 0 s206.1),(8,rr 1 s206.2),(9,rr 2 v.1),(10,bv v.2),(11,iv s337.2.2)] [(0,rE 1 eStr s206.1),(1,rE 1 (eSl true 1 eStr) s206.2),(2,rE 1 eStr v.1)]) (some v) kn):
  ∀s358:((List ByteArray)×Bool×Int),J (q.g Tryz.prog 28 0 94) c28 (atI c28 63277860) (St.mk' [(0,sl 8 (Pack.enc false) a1),(1,sl 1 zC a2),(2,sl 1 zC a3),(7,rr 0 s206.1),(8,rr 1 s206.2),(9,rr 2 s358.1),(10,bv s358.2.1),(11,iv s337.2.2),(12,iv s358.2.2)] [(0,rE 1 eStr s206.1),(1,rE 1 (eSl true 1 eStr) s206.2),(2,rE 1 eStr s358.1)]) (zCL a1 a2 a3 s206 s337 s358) kn:=by
 refine tV (fun g ih s358=>?_)
 unfold zCo
 refine vW (atI c28 253111441) (fun v364:Bool=>St.mk' [(0,sl 8 (Pack.enc false) a1),(1,sl 1 zC a2),(2,sl 1 zC a3),(7,rr 0 s206.1),(8,rr 1 s206.2),(9,rr 2 s358.1),(10,bv s358.2.1),(11,iv s337.2.2),(12,iv s358.2.2),(46,bv v364)] [(0,rE 1 eStr s206.1),(1,rE 1 (eSl true 1 eStr) s206.2),(2,rE 1 eStr s358.1)]) (fun v364=>?_) (fun jv364=>?_)
 ·refine zF 46 (fun h365=>?_) (fun h365=>?_)
  ·refine zA (fun x366 h367=>?_)
   refine zA (fun x368 h369=>?_)
   refine zA (fun x370 h371=>?_)
   refine J_d 1012445768 [] [46,60] [(60,bv x370)] [] [] (zD 5 (jT (kk:=.i64) 52 9 1 2 eStr (.tmp 52) (.tmp 53) h367) (zD 6 (zC1 (d:=sv x366) 9 1 2 0 eStr (.tmp 54) h367 (by kernel_rfl)) (zD 9 (jT (kk:=.i64) 52 9 1 0 eStr (.tmp 56) (.tmp 57) h369) (zD 10 (zC1 (d:=sv x368) 9 1 0 0 eStr (.tmp 58) h369 (by kernel_rfl)) (zD 11 (vG [(.tmp 49),(.tmp 50),(.tmp 51),(.tmp 55),(.tmp 59)] [28,23,23,9,9] (uZ.ok a1 a2 a3 x366 x368) h371) zB))))) ?_
   refine vW (aft c28 506222884) (fun v377:((List ByteArray)×Bool)=>St.mk' [(0,sl 8 (Pack.enc false) a1),(1,sl 1 zC a2),(2,sl 1 zC a3),(7,rr 0 s206.1),(8,rr 1 s206.2),(9,rr 3 v377.1),(10,bv v377.2),(11,iv s337.2.2),(12,iv s358.2.2)] [(0,rE 1 eStr s206.1),(1,rE 1 (eSl true 1 eStr) s206.2),(3,rE 1 eStr v377.1)]) (fun v377=>?_) (fun jv377=>?_)
   ·refine J_d 253111443 [] [12] [(12,iv (w64 (s358.2.2+1)))] [] [] zB ?_
    refine jR 3 2 (Nat.le_of_ble_eq_true rfl) (Nat.le_of_ble_eq_true rfl) ?_
    exact J_q (J_b (ih (v377.1,v377.2,w64 (s358.2.2+1)))) rfl
   ·refine zF 60 (fun h372=>?_) (fun h372=>?_)
    ·refine zA (fun x373 h374=>?_)
     refine zA (fun x375 h376=>?_)
     refine J_g 4049783076 [] [(0,sl 8 (Pack.enc false) a1),(1,sl 1 zC a2),(2,sl 1 zC a3),(7,rr 0 s206.1),(8,rr 1 s206.2),(9,rr 3 x375),(11,iv s337.2.2),(12,iv s358.2.2)] [(0,rE 1 eStr s206.1),(1,rE 1 (eSl true 1 eStr) s206.2),(3,rE 1 eStr x375)] (zD 3 (jT (kk:=.i64) 52 9 1 0 eStr (.tmp 62) (.tmp 63) h374) (zD 4 (zC1 (d:=sv x373) 9 1 0 0 eStr (.tmp 64) h374 (by kernel_rfl)) (zD 5 (vC («as»:=[rr 2 s358.1,sv x373]) [(.tmp 61),(.tmp 65)] [52,9] false [(2,rE 1 eStr s358.1)] [2] (.cons (.rf rfl) (.cons (.same rfl) (.nil))) (uL.ok s358.1 x373) h376 (.own 3)) zB))) ?_
     refine J_d 4049783077 [] [10] [(10,bv true)] [] [] zB ?_
     exact wD (J_j (jv377 (x375,true))) rfl
    ·refine jR 2 3 (Nat.le_of_ble_eq_true rfl) (Nat.le_of_ble_eq_true rfl) ?_
     exact wD (J_j (jv377 (s358.1,s358.2.1))) rfl
  ·exact wD (hk (s358.1,s358.2.1)) rfl
 ·refine tJ (fun h359=>?_) (fun h359=>?_)
  ·refine zA (fun x360 h361=>?_)
   refine zA (fun x362 h363=>?_)
   refine J_d 253111440 [] [46] [(46,bv (!x362))] [] [] (uE 4 [(37,bv (decide (s358.2.2< (s358.1.length:Int))))] [] h359 (zCR 8 4 38 true (jT (kk:=.i64) 52 9 1 0 eStr (.tmp 40) (.tmp 41) h361) (zCR 9 4 38 true (zC1 (d:=sv x360) 9 1 0 0 eStr (.tmp 42) h361 (by kernel_rfl)) (zCR 10 4 38 true (vC («as»:=[rr 2 s358.1,sv x360]) [(.tmp 39),(.tmp 43)] [52,9] true [(2,rE 1 eStr s358.1)] [] (.cons (zBr (.head _) (fun _=>rfl) rfl) (.cons (.same rfl) (.nil))) (wP.ok s358.1 x360) h363 (.same rfl rfl) (hbor:=fun _=>⟨fhN,yL⟩)) zB)))) ?_
   exact wD (J_j (jv364 (!x362))) rfl
  ·refine J_d 253111440 [] [46] [(46,bv false)] [] [] (uE 4 [(37,bv (decide (s358.2.2< (s358.1.length:Int))))] [] h359 zB) ?_
   exact wD (J_j (jv364 false)) rfl
theorem zCZ.ok (a1:(List Pack)) (a2:(List Int)) (a3:(List Int)) (s206:((List ByteArray)×(List (List ByteArray)))) (q:Wd) (kn:((List ByteArray)×Bool)→Option (D×List Ent)) (hk:∀v:((List ByteArray)×Bool),J (q.g Tryz.prog 28 0 94) c28 (aft c28 61794) (St.mk' [(0,sl 8 (Pack.enc false) a1),(1,sl 1 zC a2),(2,sl 1 zC a3),(7,rr 0 s206.1),(8,rr 1 s206.2),(9,rr 2 v.1),(10,bv v.2)] [(0,rE 1 eStr s206.1),(1,rE 1 (eSl true 1 eStr) s206.2),(2,rE 1 eStr v.1)]) (some v) kn):
  ∀s337:((List ByteArray)×Bool×Int),J (q.g Tryz.prog 28 0 94) c28 (atI c28 988716) (St.mk' [(0,sl 8 (Pack.enc false) a1),(1,sl 1 zC a2),(2,sl 1 zC a3),(7,rr 0 s206.1),(8,rr 1 s206.2),(9,rr 2 s337.1),(10,bv s337.2.1),(11,iv s337.2.2)] [(0,rE 1 eStr s206.1),(1,rE 1 (eSl true 1 eStr) s206.2),(2,rE 1 eStr s337.1)]) (zCZ a1 a2 a3 s206 s337) kn:=by
 refine tV (fun g ih s337=>?_)
 unfold zA7
 refine J_d 3954864 [] [31] [(31,bv (decide (s337.2.2< (s206.1.length:Int))))] [] [] zB ?_
 refine zF 31 (fun h338=>?_) (fun h338=>?_)
 ·refine J_d 15819464 [] [12,31] [(12,iv 0)] [] [] zB ?_
  refine zE2 (zCL.ok a1 a2 a3 s206 s337 q _ (fun v378=>J_j ?_) (s337.1,s337.2.1,0))
  refine J_d 3954867 [] [11] [(11,iv (w64 (s337.2.2+1)))] [] [] zB ?_
  exact J_q (J_b (ih (v378.1,v378.2,w64 (s337.2.2+1)))) rfl
 ·exact wD (hk (s337.1,s337.2.1)) rfl
theorem zB2.ok (a1:(List Pack)) (a2:(List Int)) (a3:(List Int)) (s206:((List ByteArray)×(List (List ByteArray)))) (v380:(List ByteArray)) (q:Wd) (kn:(List ByteArray)→Option (D×List Ent)) (hk:∀v:(List ByteArray),J (q.g Tryz.prog 28 0 94) c28 (atI c28 15455) (St.mk' [(0,sl 8 (Pack.enc false) a1),(1,sl 1 zC a2),(2,sl 1 zC a3),(8,rr 1 s206.2),(9,rr 2 v380),(13,rr 3 v)] [(1,rE 1 (eSl true 1 eStr) s206.2),(2,rE 1 eStr v380),(3,rE 1 eStr v)]) (some v) kn):
  ∀s392:((List ByteArray)×Int),J (q.g Tryz.prog 28 0 94) c28 (atI c28 123636) (St.mk' [(0,sl 8 (Pack.enc false) a1),(1,sl 1 zC a2),(2,sl 1 zC a3),(7,rr 0 s206.1),(8,rr 1 s206.2),(9,rr 2 v380),(13,rr 3 s392.1),(14,iv s392.2)] [(0,rE 1 eStr s206.1),(1,rE 1 (eSl true 1 eStr) s206.2),(2,rE 1 eStr v380),(3,rE 1 eStr s392.1)]) (zB2 a1 a2 a3 s206 v380 s392) kn:=by
 refine tV (fun g ih s392=>?_)
 unfold zCa
 refine J_d 494544 [] [71] [(71,bv (decide (s392.2< (s206.1.length:Int))))] [] [] zB ?_
 refine zF 71 (fun h393=>?_) (fun h393=>?_)
 ·refine zA (fun x394 h395=>?_)
  refine zA (fun x396 h397=>?_)
  refine J_d 1978184 [] [71,80] [(80,bv (!x396))] [] [] (zD 3 (jT (kk:=.i64) 52 9 1 0 eStr (.tmp 75) (.tmp 76) h395) (zD 4 (zC1 (d:=sv x394) 9 1 0 0 eStr (.tmp 77) h395 (by kernel_rfl)) (zD 5 (vC («as»:=[rr 2 v380,sv x394]) [(.tmp 74),(.tmp 78)] [52,9] true [(2,rE 1 eStr v380)] [] (.cons (zBr (.head _) (fun _=>rfl) rfl) (.cons (.same rfl) (.nil))) (wP.ok v380 x394) h397 (.same rfl rfl) (hbor:=fun _=>⟨fhN,yL⟩)) zB))) ?_
  refine vW (aft c28 989092) (fun v403:(List ByteArray)=>St.mk' [(0,sl 8 (Pack.enc false) a1),(1,sl 1 zC a2),(2,sl 1 zC a3),(7,rr 0 s206.1),(8,rr 1 s206.2),(9,rr 2 v380),(13,rr 5 v403),(14,iv s392.2)] [(0,rE 1 eStr s206.1),(1,rE 1 (eSl true 1 eStr) s206.2),(2,rE 1 eStr v380),(5,rE 1 eStr v403)]) (fun v403=>?_) (fun jv403=>?_)
  ·refine J_d 494547 [] [14] [(14,iv (w64 (s392.2+1)))] [] [] zB ?_
   refine jR 5 3 (Nat.le_of_ble_eq_true rfl) (Nat.le_of_ble_eq_true rfl) ?_
   exact J_q (J_b (ih (v403,w64 (s392.2+1)))) rfl
  ·refine zF 80 (fun h398=>?_) (fun h398=>?_)
   ·refine zA (fun x399 h400=>?_)
    refine zA (fun x401 h402=>?_)
    refine J_d 3956370 [] [13,80] [(13,rr 5 x401)] [3,5] [(5,rE 1 eStr x401)] (zD 3 (jT (kk:=.i64) 52 9 1 0 eStr (.tmp 82) (.tmp 83) h400) (zD 4 (zC1 (d:=sv x399) 9 1 0 0 eStr (.tmp 84) h400 (by kernel_rfl)) (zD 5 (zEa 52 9 1 4 eStr [x399] [0] [(.tmp 85)] [sv x399]) (zD 6 (zGv 52 52 9 9 1 16 5 3 4 eStr (.tmp 81) (.tmp 86) h402) zB)))) ?_
    exact wD (J_j (jv403 x401)) rfl
   ·refine jR 3 5 (Nat.le_of_ble_eq_true rfl) (Nat.le_of_ble_eq_true rfl) ?_
    exact wD (J_j (jv403 s392.1)) rfl
 ·exact wD (hk s392.1) rfl
theorem zBF.ok (a1:(List Pack)) (a2:(List Int)) (a3:(List Int)) (s206:((List ByteArray)×(List (List ByteArray)))) (q:Wd) (kn:(List ByteArray)→Option (D×List Ent)) (hk:∀v:(List ByteArray),J (q.g Tryz.prog 28 0 94) c28 (atI c28 3863) (St.mk' [(0,sl 8 (Pack.enc false) a1),(1,sl 1 zC a2),(2,sl 1 zC a3),(7,rr 0 s206.1),(8,rr 1 s206.2),(9,rr 2 v)] [(0,rE 1 eStr s206.1),(1,rE 1 (eSl true 1 eStr) s206.2),(2,rE 1 eStr v)]) (some v) kn):
  ∀s294:((List ByteArray)×Bool),J (q.g Tryz.prog 28 0 94) c28 (atI c28 15448) (St.mk' [(0,sl 8 (Pack.enc false) a1),(1,sl 1 zC a2),(2,sl 1 zC a3),(7,rr 0 s206.1),(8,rr 1 s206.2),(9,rr 2 s294.1),(10,bv s294.2)] [(0,rE 1 eStr s206.1),(1,rE 1 (eSl true 1 eStr) s206.2),(2,rE 1 eStr s294.1)]) (zBF a1 a2 a3 s206 s294) kn:=by
 refine tV (fun g ih s294=>?_)
 unfold zDN
 refine J_d 61792 [] [10,27] [(27,bv s294.2)] [] [] zB ?_
 refine zF 27 (fun h295=>?_) (fun h295=>?_)
 ·refine J_g 123588 [] [(0,sl 8 (Pack.enc false) a1),(1,sl 1 zC a2),(2,sl 1 zC a3),(7,rr 0 s206.1),(8,rr 1 s206.2),(9,rr 2 s294.1),(10,bv false)] [(0,rE 1 eStr s206.1),(1,rE 1 (eSl true 1 eStr) s206.2),(2,rE 1 eStr s294.1)] zB ?_
  refine J_d 247178 [] [11] [(11,iv 0)] [] [] zB ?_
  refine zE2 (zCZ.ok a1 a2 a3 s206 q _ (fun v379=>J_j ?_) (s294.1,false,0))
  exact J_q (J_b (ih (v379.1,v379.2))) rfl
 ·exact wD (hk s294.1) rfl
theorem kH.ok (a1:(List Pack)) (a2:(List Int)) (a3:(List Int)) (q:Wd) (kn:(List (List ByteArray))→Option (D×List Ent)) (hk:∀v:(List (List ByteArray)),J (q.g Tryz.prog 28 0 94) c28 (atI c28 31) (St.mk' [(8,rr 1 v)] [(1,rE 1 (eSl true 1 eStr) v)]) (some v) kn):
  ∀s206:((List ByteArray)×(List (List ByteArray))),J (q.g Tryz.prog 28 0 94) c28 (atI c28 120) (St.mk' [(0,sl 8 (Pack.enc false) a1),(1,sl 1 zC a2),(2,sl 1 zC a3),(7,rr 0 s206.1),(8,rr 1 s206.2)] [(0,rE 1 eStr s206.1),(1,rE 1 (eSl true 1 eStr) s206.2)]) (kH a1 a2 a3 s206) kn:=by
 refine tV (fun g ih s206=>?_)
 unfold zCl
 refine J_d 480 [] [22] [(22,bv (decide ((s206.1.length:Int)>0)))] [] [] zB ?_
 refine zF 22 (fun h207=>?_) (fun h207=>?_)
 ·refine zA (fun x208 h209=>?_)
  refine J_g 964 [] [(0,sl 8 (Pack.enc false) a1),(1,sl 1 zC a2),(2,sl 1 zC a3),(7,rr 0 s206.1),(8,rr 1 s206.2),(9,rr 2 [x208])] [(0,rE 1 eStr s206.1),(1,rE 1 (eSl true 1 eStr) s206.2),(2,rE 1 eStr [x208])] (zD 1 (jT (kk:=.i64) 52 9 1 0 eStr (.tmp 23) (.const (.int .i64 0)) h209) (zD 2 (zC1 (d:=sv x208) 9 1 0 0 eStr (.tmp 24) h209 (by kernel_rfl)) (zD 3 (zEa 52 9 1 2 eStr [x208] [0] [(.tmp 25)] [sv x208]) zB))) ?_
  refine J_d 1930 [] [10] [(10,bv true)] [] [] zB ?_
  refine zE2 (zBF.ok a1 a2 a3 s206 q _ (fun v380=>J_j ?_) ([x208],true))
  refine J_g 7726 [] [(0,sl 8 (Pack.enc false) a1),(1,sl 1 zC a2),(2,sl 1 zC a3),(7,rr 0 s206.1),(8,rr 1 s206.2),(9,rr 2 v380),(13,rr 3 ([]:List ByteArray))] [(0,rE 1 eStr s206.1),(1,rE 1 (eSl true 1 eStr) s206.2),(2,rE 1 eStr v380),(3,rE 1 eStr ([]:List ByteArray))] (zD 0 (zEa 52 9 1 3 eStr ([]:List ByteArray) [] [] []) zB) ?_
  refine J_d 30908 [] [14] [(14,iv 0)] [] [] zB ?_
  refine zE2 (zB2.ok a1 a2 a3 s206 v380 q _ (fun v404=>J_j ?_) (([]:List ByteArray),0))
  refine J_d 30910 [] [7,13] [(7,rr 3 v404)] [] [] zB ?_
  refine zA (fun x405 h406=>?_)
  refine J_d 30911 [] [8,9] [(8,rr 5 x405)] [1,2,5] [(5,rE 1 (eSl true 1 eStr) x405)] (zD 2 (zNM (ds:=[rr 2 v380]) (ts:=[2]) 35 52 1 4 (eSl true 1 eStr) [v380] [0] [(.tmp 90)] [rr 2 v380] [(2,rE 1 eStr v380)] (.move (.head _) (List.length_map _) (by decide) (.nil))) (zD 3 (zGv 35 35 52 52 1 24 5 1 4 (eSl true 1 eStr) (.tmp 89) (.tmp 91) h406) zB)) ?_
  refine jR 3 0 (Nat.le_of_ble_eq_true rfl) (Nat.le_of_ble_eq_true rfl) ?_
  refine jR 5 1 (Nat.le_of_ble_eq_true rfl) (Nat.le_of_ble_eq_true rfl) ?_
  exact J_q (J_b (ih (v404,x405))) rfl
 ·exact wD (hk s206.2) rfl
theorem zAZ.ok (a1:(List Pack)) (a2:(List Int)) (a3:(List Int)):Ok Tryz.prog 28 [sl 8 (Pack.enc false) a1,sl 1 zC a2,sl 1 zC a3] [] ((zAZ a1 a2 a3).map fun r=>(so 1 (eSl true 1 eStr) r,[])):=by
 refine zG c28 Tryz.f28 0 94 (fun q=>?_)
 unfold zAZ
 refine J_d 2 [] [] [] [] [] zB ?_
 refine zA (fun x4 h5=>?_)
 refine J_g 6 [] [(0,sl 8 (Pack.enc false) a1),(1,sl 1 zC a2),(2,sl 1 zC a3),(7,rr 0 x4)] [(0,rE 1 eStr x4)] (zD 3 (vC («as»:=[sl 8 (Pack.enc false) a1,sl 1 zC a2,sl 1 zC a3]) [(.tmp 15),(.tmp 16),(.tmp 17)] [28,23,23] false [] [] (.cons (.same rfl) (.cons (.same rfl) (.cons (.same rfl) (.nil)))) (zAf.ok a1 a2 a3) h5 (.own 0)) zB) ?_
 refine J_d 14 [] [8] [(8,rr 1 ([]:List (List ByteArray)))] [1] [(1,rE 1 (eSl false 1 eStr) ([]:List (List ByteArray)))] (zD 0 (zEa 35 52 1 1 (eSl false 1 eStr) ([]:List (List ByteArray)) [] [] []) zB) ?_
 refine zE2 (kH.ok a1 a2 a3 q _ (fun v407=>J_j ?_) (x4,([]:List (List ByteArray))))
 refine J_g 62 [] [(6,rr 1 v407)] [(1,rE 1 (eSl true 1 eStr) v407)] zB ?_
 exact zEl (ds:=[rr 1 v407]) (ds':=[so 1 (eSl true 1 eStr) v407]) (.cons (.cell (.move (.head _) (List.length_map _) (by decide) (.nil))) (.nil) (by decide)) rfl
noncomputable def c7:Code:=(Tryz.f7.body).getD .skip
theorem jD.ok (a1:(List Pack)) (a2:(List Int)) (a3:(List Int)):Ok Tryz.prog 7 [sl 8 (Pack.enc false) a1,sl 1 zC a2,sl 1 zC a3] [] ((jD a1 a2 a3).map fun r=>(.ag (wQ.enc r),[])):=by
 refine zG c7 Tryz.f7 0 22 (fun q=>?_)
 unfold jD
 refine J_d 2 [(0,0)] [6] [(6,pp 0)] [0] [(0,.box [iv 0,iv 0])] zB ?_
 refine zA (fun x4 h5=>?_)
 refine J_g 12 [] [(0,sl 8 (Pack.enc false) a1),(1,sl 1 zC a2),(2,sl 1 zC a3),(6,pp 0),(7,iv x4)] [(0,.box [iv 0,iv 0])] (zD 3 (vG [(.tmp 8),(.tmp 9),(.tmp 10)] [28,23,23] (kM.ok a1 a2 a3) h5) zB) ?_
 refine J_d 26 [] [13] [(13,bv (x4 !=0))] [] [] zB ?_
 refine zF 13 (fun h6=>?_) (fun h6=>?_)
 ·refine J_g 108 [] [(6,pp 0)] [(0,.box [iv x4,iv 0])] zB ?_
  exact zQ rfl
 ·refine zA (fun x7 h8=>?_)
  refine J_g 14 [] [(6,pp 0)] [(0,.box [iv 0,iv (x7.length:Int)])] (zD 3 (vC («as»:=[sl 8 (Pack.enc false) a1,sl 1 zC a2,sl 1 zC a3]) [(.tmp 16),(.tmp 17),(.tmp 18)] [28,23,23] false [] [] (.cons (.same rfl) (.cons (.same rfl) (.cons (.same rfl) (.nil)))) (zAZ.ok a1 a2 a3) h8 (.own 1)) zB) ?_
  exact zQ rfl
noncomputable def c213:Code:=(Tryz.f213.body).getD .skip
theorem zAv.ok (a1:Int):Ok Tryz.prog 213 [uv a1] [] ((zAv a1).map fun r=>(bv r,[])):=by
 refine zG c213 Tryz.f213 0 21 (fun q=>?_)
 unfold zAv
 refine J_g 2 [] [(0,uv a1)] [] zB ?_
 refine tJ (fun h2=>?_) (fun h2=>?_)
 ·refine tJ (fun h3=>?_) (fun h3=>?_)
  ·refine J_g 6 [] [(2,bv true)] [] (uE 2 [(4,bv (decide (a1≥97)))] [] h2 (uE 6 [(8,bv (decide (a1≤122)))] [] h3 (zHs 9 (zHu (i:=9) (g:=6) (t:=9) (b:=false) (v:=(.bool true)) (.inl rfl) (by kernel_rfl) (by kernel_rfl)) (zHs 10 (zHu (i:=10) (g:=9) (t:=12) (b:=true) (v:=undef) (.inr rfl) (by kernel_rfl) (by kernel_rfl)) (zHs 11 (zHu (i:=11) (g:=9) (t:=12) (b:=true) (v:=undef) (.inr rfl) (by kernel_rfl) (by kernel_rfl)) zB))))) ?_
   exact zQ rfl
  ·refine tJ (fun h4=>?_) (fun h4=>?_)
   ·refine tJ (fun h5=>?_) (fun h5=>?_)
    ·refine J_g 6 [] [(2,bv true)] [] (uE 2 [(4,bv (decide (a1≥97)))] [] h2 (uE 6 [(8,bv (decide (a1≤122)))] [] h3 (zG6 9 6 9 false [(11,bv (decide (a1≥48)))] [] h4 (uE 14 [(16,bv (decide (a1≤57)))] [] h5 zB)))) ?_
     exact zQ rfl
    ·refine J_g 6 [] [(2,bv (a1==95))] [] (uE 2 [(4,bv (decide (a1≥97)))] [] h2 (uE 6 [(8,bv (decide (a1≤122)))] [] h3 (zG6 9 6 9 false [(11,bv (decide (a1≥48)))] [] h4 (uE 14 [(16,bv (decide (a1≤57)))] [] h5 zB)))) ?_
     exact zQ rfl
   ·refine J_g 6 [] [(2,bv (a1==95))] [] (uE 2 [(4,bv (decide (a1≥97)))] [] h2 (uE 6 [(8,bv (decide (a1≤122)))] [] h3 (zG6 9 6 9 false [(11,bv (decide (a1≥48)))] [] h4 zB))) ?_
    exact zQ rfl
 ·refine tJ (fun h6=>?_) (fun h6=>?_)
  ·refine tJ (fun h7=>?_) (fun h7=>?_)
   ·refine J_g 6 [] [(2,bv true)] [] (uE 2 [(4,bv (decide (a1≥97)))] [] h2 (zG6 9 6 9 false [(11,bv (decide (a1≥48)))] [] h6 (uE 14 [(16,bv (decide (a1≤57)))] [] h7 zB))) ?_
    exact zQ rfl
   ·refine J_g 6 [] [(2,bv (a1==95))] [] (uE 2 [(4,bv (decide (a1≥97)))] [] h2 (zG6 9 6 9 false [(11,bv (decide (a1≥48)))] [] h6 (uE 14 [(16,bv (decide (a1≤57)))] [] h7 zB))) ?_
    exact zQ rfl
  ·refine J_g 6 [] [(2,bv (a1==95))] [] (uE 2 [(4,bv (decide (a1≥97)))] [] h2 (zG6 9 6 9 false [(11,bv (decide (a1≥48)))] [] h6 zB)) ?_
   exact zQ rfl
noncomputable def zOm:Code:=(Tryz.f190.body).getD .skip
theorem zAq.ok (a1:ByteArray) (q:Wd) (kn:Unit→Option (D×List Ent)) (hk:∀v:Unit,J (q.g Tryz.prog 190 0 33) zOm (atI zOm 15) (St.mk' [] []) (some v) kn):
  ∀s17:Int,J (q.g Tryz.prog 190 0 33) zOm (atI zOm 116) (St.mk' [(0,sv a1),(23,iv (a1.size:Int)),(24,iv s17)] []) (zAq a1 s17) (Fl.go (fun r:Int=>some (iv r,[])) kn):=by
 refine tV (fun g ih s17=>?_)
 unfold zC3
 refine J_d 232 [] [25] [(25,bv (decide (s17< (a1.size:Int))))] [] [] zB ?_
 refine zF 25 (fun h18=>?_) (fun h18=>?_)
 ·refine J_d 3736 [] [3,25] [(3,iv s17)] [] [] zB ?_
  refine zA (fun x19 h20=>?_)
  refine zA (fun x21 h22=>?_)
  refine J_d 7474 [] [3,31] [(31,bv (!x21))] [] [] (zD 2 (zOo (kk:=.i64) 9 (.tmp 27) (.tmp 28) h20) (zD 3 (vG [(.tmp 29)] [5] (zAv.ok x19) h22) zB)) ?_
  refine zF 31 (fun h23=>?_) (fun h23=>?_)
  ·refine J_g 29900 [] [(2,iv 5)] [] zB ?_
   exact zQ rfl
  ·refine J_d 935 [] [24,31] [(24,iv (w64 (s17+1)))] [] [] zB ?_
   exact J_q (J_b (ih (w64 (s17+1)))) rfl
 ·exact wD (hk ()) rfl
theorem uY.ok (a1:ByteArray):Ok Tryz.prog 190 [sv a1] [] ((uY a1).map fun r=>(iv r,[])):=by
 refine zG zOm Tryz.f190 0 33 (fun q=>?_)
 unfold uY
 refine J_g 2 [] [(0,sv a1)] [] zB ?_
 refine vW (atI zOm 13) (fun v9:Bool=>St.mk' [(0,sv a1),(21,bv v9)] []) (fun v9=>?_) (fun jv9=>?_)
 ·refine zF 21 (fun h10=>?_) (fun h10=>?_)
  ·refine J_g 52 [] [(2,iv 5)] [] zB ?_
   exact zQ rfl
  ·refine J_g 28 [] [(0,sv a1),(23,iv (a1.size:Int)),(24,iv 0)] [] zB ?_
   refine uP (K0:=(fun r:Int=>some (iv r,[]))) (fun _=>rfl) (zAq.ok a1 q _ (fun v24=>J_j ?_) 0)
   refine J_g 30 [] [(2,iv 0)] [] zB ?_
   exact zQ rfl
 ·refine tJ (fun h2=>?_) (fun h2=>?_)
  ·refine J_g 12 [] [(0,sv a1),(21,bv true)] [] (uE 3 [(6,bv (decide ((a1.size:Int)<1)))] [] h2 zB) ?_
   exact wD (J_j (jv9 true)) rfl
  ·refine tJ (fun h3=>?_) (fun h3=>?_)
   ·refine J_g 12 [] [(0,sv a1),(21,bv true)] [] (uE 3 [(6,bv (decide ((a1.size:Int)<1)))] [] h2 (uE 8 [(11,bv (decide ((a1.size:Int)>12)))] [] h3 zB)) ?_
    exact wD (J_j (jv9 true)) rfl
   ·refine zA (fun x4 h5=>?_)
    refine tJ (fun h6=>?_) (fun h6=>?_)
    ·refine J_g 12 [] [(0,sv a1),(21,bv true)] [] (uE 3 [(6,bv (decide ((a1.size:Int)<1)))] [] h2 (uE 8 [(11,bv (decide ((a1.size:Int)>12)))] [] h3 (zCR 10 8 12 false (zOo (kk:=.i64) 9 (.tmp 13) (.const (.int .i64 0)) h5) (uE 13 [(16,bv (decide (x4<97)))] [] h6 zB)))) ?_
     exact wD (J_j (jv9 true)) rfl
    ·refine zA (fun x7 h8=>?_)
     refine J_g 12 [] [(0,sv a1),(21,bv (decide (x7>122)))] [] (uE 3 [(6,bv (decide ((a1.size:Int)<1)))] [] h2 (uE 8 [(11,bv (decide ((a1.size:Int)>12)))] [] h3 (zCR 10 8 12 false (zOo (kk:=.i64) 9 (.tmp 13) (.const (.int .i64 0)) h5) (uE 13 [(16,bv (decide (x4<97)))] [] h6 (zCR 15 13 17 false (zOo (kk:=.i64) 9 (.tmp 18) (.const (.int .i64 0)) h8) zB))))) ?_
     exact wD (J_j (jv9 (decide (x7>122)))) rfl
noncomputable def zQq:Code:=(Tryz.f149.body).getD .skip
theorem vU.ok (a1:Int) (a2:Int) (a3:Int):Ok Tryz.prog 149 [iv a1,iv a2,iv a3] [] ((vU a1 a2 a3).map fun r=>(bv r,[])):=by
 refine zG zQq Tryz.f149 0 15 (fun q=>?_)
 unfold vU
 refine J_d 2 [] [] [] [] [] zB ?_
 refine tJ (fun h4=>?_) (fun h4=>?_)
 ·refine J_g 6 [] [(6,bv (decide (a1≤a3)))] [] (uE 3 [(9,bv (decide (a2≤a1)))] [] h4 zB) ?_
  exact zQ rfl
 ·refine J_g 6 [] [(6,bv false)] [] (uE 3 [(9,bv (decide (a2≤a1)))] [] h4 zB) ?_
  exact zQ rfl
noncomputable def zPL:Code:=(Tryz.f191.body).getD .skip
theorem vJ.ok (a1:Version):Ok Tryz.prog 191 [.ag (Version.enc a1)] [] ((vJ a1).map fun r=>(iv r,[])):=by
 refine zG zPL Tryz.f191 0 19 (fun q=>?_)
 unfold vJ
 refine J_g 2 [(0,0)] [(1,pp 0)] [(0,.box (Version.enc a1))] zB ?_
 refine zA (fun x2 h3=>?_)
 refine vW (atI zPL 13) (fun v10:Bool=>St.mk' [(18,bv v10)] []) (fun v10=>?_) (fun jv10=>?_)
 ·refine zF 18 (fun h11=>?_) (fun h11=>?_)
  ·refine J_g 52 [] [(2,iv 3)] [] zB ?_
   exact zQ rfl
  ·refine J_g 14 [] [(2,iv 0)] [] zB ?_
   exact zQ rfl
 ·refine tJ (fun h4=>?_) (fun h4=>?_)
  ·refine J_g 12 [] [(18,bv true)] [] (zD 2 (vG [(.tmp 4),(.const (.int .i64 0)),(.const (.int .i64 999))] [2,2,2] (vU.ok a1.A 0 999) h3) (uE 4 [(6,bv (!x2))] [] h4 zB)) ?_
   exact wD (J_j (jv10 true)) rfl
  ·refine zA (fun x5 h6=>?_)
   refine tJ (fun h7=>?_) (fun h7=>?_)
   ·refine J_g 12 [] [(18,bv true)] [] (zD 2 (vG [(.tmp 4),(.const (.int .i64 0)),(.const (.int .i64 999))] [2,2,2] (vU.ok a1.A 0 999) h3) (uE 4 [(6,bv (!x2))] [] h4 (zCR 7 4 7 false (vG [(.tmp 9),(.const (.int .i64 0)),(.const (.int .i64 999))] [2,2,2] (vU.ok a1.B 0 999) h6) (uE 10 [(12,bv (!x5))] [] h7 zB)))) ?_
    exact wD (J_j (jv10 true)) rfl
   ·refine zA (fun x8 h9=>?_)
    refine J_g 12 [] [(18,bv (!x8))] [] (zD 2 (vG [(.tmp 4),(.const (.int .i64 0)),(.const (.int .i64 999))] [2,2,2] (vU.ok a1.A 0 999) h3) (uE 4 [(6,bv (!x2))] [] h4 (zCR 7 4 7 false (vG [(.tmp 9),(.const (.int .i64 0)),(.const (.int .i64 999))] [2,2,2] (vU.ok a1.B 0 999) h6) (uE 10 [(12,bv (!x5))] [] h7 (zCR 13 10 13 false (vG [(.tmp 15),(.const (.int .i64 0)),(.const (.int .i64 999))] [2,2,2] (vU.ok a1.C 0 999) h9) zB))))) ?_
    exact wD (J_j (jv10 (!x8))) rfl
noncomputable def c84:Code:=(Tryz.f84.body).getD .skip
theorem zAo.ok (a1:(List Int)) (q:Wd) (kn:Unit→Option (D×List Ent)) (hk:∀v:Unit,J (q.g Tryz.prog 84 0 15) c84 (atI c84 7) (St.mk' [] []) (some v) kn):
  ∀s6:Int,J (q.g Tryz.prog 84 0 15) c84 (atI c84 52) (St.mk' [(5,sl 1 zC a1),(6,iv (a1.length:Int)),(7,iv s6)] []) (zAo a1 s6) (Fl.go (fun r:Int=>some (iv r,[])) kn):=by
 refine tV (fun g ih s6=>?_)
 unfold zAW
 refine J_d 104 [] [8] [(8,bv (decide (s6< (a1.length:Int))))] [] [] zB ?_
 refine zF 8 (fun h7=>?_) (fun h7=>?_)
 ·refine zA (fun x8 h9=>?_)
  refine J_g 1688 [] [(4,iv x8),(5,sl 1 zC a1),(6,iv (a1.length:Int)),(7,iv s6)] [] (zD 0 (tT (kk:=.i64) 23 2 1 zC (.tmp 5) (.tmp 7) h9) zB) ?_
  refine J_d 3378 [] [12] [(12,bv (x8 !=0))] [] [] zB ?_
  refine zF 12 (fun h10=>?_) (fun h10=>?_)
  ·refine J_g 13516 [] [(2,iv x8)] [] zB ?_
   exact zQ rfl
  ·refine J_d 423 [] [4,7,12] [(7,iv (w64 (s6+1)))] [] [] zB ?_
   exact J_q (J_b (ih (w64 (s6+1)))) rfl
 ·exact wD (hk ()) rfl
theorem uU.ok (a1:(List Int)):Ok Tryz.prog 84 [sl 1 zC a1] [] ((uU a1).map fun r=>(iv r,[])):=by
 refine zG c84 Tryz.f84 0 15 (fun q=>?_)
 unfold uU
 refine J_g 2 [] [(0,sl 1 zC a1)] [] zB ?_
 refine J_g 12 [] [(5,sl 1 zC a1),(6,iv (a1.length:Int)),(7,iv 0)] [] zB ?_
 refine uP (K0:=(fun r:Int=>some (iv r,[]))) (fun _=>rfl) (zAo.ok a1 q _ (fun v11=>J_j ?_) 0)
 refine J_g 14 [] [(2,iv 0)] [] zB ?_
 exact zQ rfl
noncomputable def c193:Code:=(Tryz.f193.body).getD .skip
theorem zA9.ok (a1:(List Term)):Ok Tryz.prog 193 [sl 7 Term.enc a1] [] ((zA9 a1).map fun r=>(bv r,[])):=by
 refine zG c193 Tryz.f193 0 6 (fun q=>?_)
 unfold zA9
 refine J_g 2 [] [(0,sl 7 Term.enc a1)] [] zB ?_
 refine J_g 6 [] [(2,bv (decide ((a1.length:Int)>4)))] [] zB ?_
 exact zQ rfl
noncomputable def zO2:Code:=(Tryz.f214.body).getD .skip
theorem xB.ok (a1:(List (List Term))) (q:Wd) (kn:Unit→Option (D×List Ent)) (hk:∀v:Unit,J (q.g Tryz.prog 214 0 19) zO2 (atI zO2 7) (St.mk' [] []) (some v) kn):
  ∀s8:Int,J (q.g Tryz.prog 214 0 19) zO2 (atI zO2 52) (St.mk' [(0,sl 1 (eSl false 7 Term.enc) a1),(1,.fn 193 []),(7,iv (a1.length:Int)),(8,iv s8)] []) (xB a1 s8) (Fl.go (fun r:Int=>some (iv r,[])) kn):=by
 refine tV (fun g ih s8=>?_)
 unfold yU
 refine J_d 104 [] [9] [(9,bv (decide (s8< (a1.length:Int))))] [] [] zB ?_
 refine zF 9 (fun h9=>?_) (fun h9=>?_)
 ·refine J_d 1688 [] [5,9] [(5,iv s8)] [] [] zB ?_
  refine zA (fun x10 h11=>?_)
  refine zA (fun x12 h13=>?_)
  refine J_d 3378 [] [16] [(16,bv x12)] [] [] (zD 3 (tT (kk:=.i64) 60 61 1 (eSl false 7 Term.enc) (.tmp 12) (.tmp 13) h11) (zD 5 (zP4 («as»:=[sl 7 Term.enc x10]) (caps:=[]) 11 [(.tmp 15)] [61] (zA9.ok x10) h13) zB)) ?_
  refine zF 16 (fun h14=>?_) (fun h14=>?_)
  ·refine J_g 13516 [] [(4,iv s8)] [] zB ?_
   exact zQ rfl
  ·refine J_d 423 [] [5,8,16] [(8,iv (w64 (s8+1)))] [] [] zB ?_
   exact J_q (J_b (ih (w64 (s8+1)))) rfl
 ·exact wD (hk ()) rfl
theorem yN.ok (a1:(List (List Term))):Ok Tryz.prog 214 [sl 1 (eSl false 7 Term.enc) a1,.fn 193 []] [] ((yN a1).map fun r=>(iv r,[])):=by
 refine zG zO2 Tryz.f214 0 19 (fun q=>?_)
 unfold yN
 refine J_g 2 [] [(0,sl 1 (eSl false 7 Term.enc) a1),(1,.fn 193 [])] [] zB ?_
 refine J_d 12 [] [7,8] [(7,iv (a1.length:Int)),(8,iv 0)] [] [] zB ?_
 refine uP (K0:=(fun r:Int=>some (iv r,[]))) (fun _=>rfl) (xB.ok a1 q _ (fun v15=>J_j ?_) 0)
 refine J_g 14 [] [(4,iv (-1))] [] zB ?_
 exact zQ rfl
noncomputable def zQa:Code:=(Tryz.f192.body).getD .skip
theorem zS.ok (a1:(List (List Term))):Ok Tryz.prog 192 [sl 1 (eSl false 7 Term.enc) a1,.fn 193 []] [] ((zS a1).map fun r=>(bv r,[])):=by
 refine zG zQa Tryz.f192 0 9 (fun q=>?_)
 unfold zS
 refine J_d 2 [] [] [] [] [] zB ?_
 refine zA (fun x2 h3=>?_)
 refine J_g 6 [] [(4,bv (decide (x2≥0)))] [] (zD 2 (vC («as»:=[sl 1 (eSl false 7 Term.enc) a1,.fn 193 []]) [(.tmp 5),(.tmp 6)] [60,163] false [] [] (.cons (.same rfl) (.cons (.fn (.nil)) (.nil))) (yN.ok a1) h3 (.same rfl rfl)) zB) ?_
 exact zQ rfl
noncomputable def c98:Code:=(Tryz.f98.body).getD .skip
theorem jJ.ok (a1:(List ByteArray)) (a2:ByteArray) (q:Wd) (kn:Unit→Option (D×List Ent)) (hk:∀v:Unit,J (q.g Tryz.prog 98 0 19) c98 (atI c98 7) (St.mk' [] []) (some v) kn):
  ∀s7:Int,J (q.g Tryz.prog 98 0 19) c98 (atI c98 52) (St.mk' [(0,sl 1 eStr a1),(1,sv a2),(7,iv (a1.length:Int)),(8,iv s7)] []) (jJ a1 a2 s7) (Fl.go (fun r:Int=>some (iv r,[])) kn):=by
 refine tV (fun g ih s7=>?_)
 unfold tL
 refine J_d 104 [] [9] [(9,bv (decide (s7< (a1.length:Int))))] [] [] zB ?_
 refine zF 9 (fun h8=>?_) (fun h8=>?_)
 ·refine J_d 1688 [] [5,9] [(5,iv s7)] [] [] zB ?_
  refine zA (fun x9 h10=>?_)
  refine J_d 3378 [] [16] [(16,bv (seq a2 x9))] [] [] (zD 3 (tT (kk:=.i64) 52 9 1 eStr (.tmp 12) (.tmp 13) h10) zB) ?_
  refine zF 16 (fun h11=>?_) (fun h11=>?_)
  ·refine J_g 13516 [] [(4,iv s7)] [] zB ?_
   exact zQ rfl
  ·refine J_d 423 [] [5,8,16] [(8,iv (w64 (s7+1)))] [] [] zB ?_
   exact J_q (J_b (ih (w64 (s7+1)))) rfl
 ·exact wD (hk ()) rfl
theorem jO.ok (a1:(List ByteArray)) (a2:ByteArray):Ok Tryz.prog 98 [sl 1 eStr a1,sv a2] [] ((jO a1 a2).map fun r=>(iv r,[])):=by
 refine zG c98 Tryz.f98 0 19 (fun q=>?_)
 unfold jO
 refine J_g 2 [] [(0,sl 1 eStr a1),(1,sv a2)] [] zB ?_
 refine J_d 12 [] [7,8] [(7,iv (a1.length:Int)),(8,iv 0)] [] [] zB ?_
 refine uP (K0:=(fun r:Int=>some (iv r,[]))) (fun _=>rfl) (jJ.ok a1 a2 q _ (fun v12=>J_j ?_) 0)
 refine J_g 14 [] [(4,iv (-1))] [] zB ?_
 exact zQ rfl
noncomputable def c62:Code:=(Tryz.f62.body).getD .skip
theorem yA.ok (a1:(List ByteArray)) (a2:ByteArray):Ok Tryz.prog 62 [sl 1 eStr a1,sv a2] [] ((yA a1 a2).map fun r=>(bv r,[])):=by
 refine zG c62 Tryz.f62 0 9 (fun q=>?_)
 unfold yA
 refine J_d 2 [] [] [] [] [] zB ?_
 refine zA (fun x3 h4=>?_)
 refine J_g 6 [] [(4,bv (decide (x3≥0)))] [] (zD 2 (vG [(.tmp 5),(.tmp 6)] [52,9] (jO.ok a1 a2) h4) zB) ?_
 exact zQ rfl
noncomputable def zPW:Code:=(Tryz.f220.body).getD .skip
theorem zF6.ok:Ok Tryz.prog 220 [] [] ((zF6).map fun r=>(.ag (Version.enc r),[])):=by
 refine zG zPW Tryz.f220 0 2 (fun q=>?_)
 unfold zF6
 refine J_g 2 [(0,0)] [(0,pp 0)] [(0,.box [iv 0,iv 0,iv 0])] zB ?_
 refine J_g 6 [] [(0,pp 0)] [(0,.box [iv 1000,iv 0,iv 0])] zB ?_
 exact zQ rfl
noncomputable def zQj:Code:=(Tryz.f207.body).getD .skip
theorem kJ.ok (a1:Int):Ok Tryz.prog 207 [iv a1] [] ((kJ a1).map fun r=>(bv r,[])):=by
 refine zG zQj Tryz.f207 0 6 (fun q=>?_)
 unfold kJ
 refine J_g 2 [] [(0,iv a1)] [] zB ?_
 refine J_g 6 [] [(2,bv (a1 !=a1))] [] zB ?_
 exact zQ rfl
noncomputable def c222:Code:=(Tryz.f222.body).getD .skip
theorem vI.ok (a1:Int) (a2:Int):Ok Tryz.prog 222 [iv a1,iv a2] [] ((vI a1 a2).map fun r=>(iv r,[])):=by
 refine zG c222 Tryz.f222 0 20 (fun q=>?_)
 unfold vI
 refine J_d 2 [] [] [] [] [] zB ?_
 refine zA (fun x3 h4=>?_)
 refine J_d 6 [] [5] [(5,bv x3)] [] [] (zD 1 (vG [(.tmp 7)] [2] (kJ.ok a1) h4) zB) ?_
 refine zA (fun x5 h6=>?_)
 refine J_g 14 [] [(0,iv a1),(1,iv a2),(5,bv x3),(6,bv x5)] [] (zD 1 (vG [(.tmp 9)] [2] (kJ.ok a2) h6) zB) ?_
 refine J_d 60 [] [5,11] [(11,bv x3)] [] [] zB ?_
 refine zF 11 (fun h7=>?_) (fun h7=>?_)
 ·refine J_g 488 [] [(12,bv x5)] [] zB ?_
  refine zF 12 (fun h8=>?_) (fun h8=>?_)
  ·refine J_g 1956 [] [(4,iv 0)] [] zB ?_
   exact zQ rfl
  ·refine J_g 490 [] [(4,iv (-1))] [] zB ?_
   exact zQ rfl
 ·refine J_g 124 [] [(0,iv a1),(1,iv a2),(13,bv x5)] [] zB ?_
  refine zF 13 (fun h9=>?_) (fun h9=>?_)
  ·refine J_g 500 [] [(4,iv 1)] [] zB ?_
   exact zQ rfl
  ·refine J_d 252 [] [13,16] [(16,bv (decide (a1<a2)))] [] [] zB ?_
   refine zF 16 (fun h10=>?_) (fun h10=>?_)
   ·refine J_g 1012 [] [(4,iv (-1))] [] zB ?_
    exact zQ rfl
   ·refine J_g 508 [] [(19,bv (decide (a1>a2)))] [] zB ?_
    refine zF 19 (fun h11=>?_) (fun h11=>?_)
    ·refine J_g 2036 [] [(4,iv 1)] [] zB ?_
     exact zQ rfl
    ·refine J_g 510 [] [(4,iv 0)] [] zB ?_
     exact zQ rfl
noncomputable def zOT:Code:=(Tryz.f221.body).getD .skip
theorem zEd.ok (a1:(List Int)) (q:Wd) (kn:Unit→Option (D×List Ent)) (hk:∀v:Unit,J (q.g Tryz.prog 221 0 18) zOT (atI zOT 15) (St.mk' [(3,iv 0)] []) (some v) kn):
  ∀s6:Int,J (q.g Tryz.prog 221 0 18) zOT (atI zOT 116) (St.mk' [(3,iv 0),(6,sl 1 zC a1),(7,iv (a1.length:Int)),(8,iv s6)] []) (zEd a1 s6) (Fl.go (fun r:Int=>some (iv r,[])) kn):=by
 refine tV (fun g ih s6=>?_)
 unfold zD9
 refine J_d 232 [] [9] [(9,bv (decide (s6< (a1.length:Int))))] [] [] zB ?_
 refine zF 9 (fun h7=>?_) (fun h7=>?_)
 ·refine zA (fun x8 h9=>?_)
  refine J_g 3736 [] [(3,iv 0),(5,iv x8),(6,sl 1 zC a1),(7,iv (a1.length:Int)),(8,iv s6)] [] (zD 0 (tT (kk:=.i64) 216 3 1 zC (.tmp 6) (.tmp 8) h9) zB) ?_
  refine J_d 7474 [] [14] [(14,bv (x8 !=0))] [] [] zB ?_
  refine zF 14 (fun h10=>?_) (fun h10=>?_)
  ·refine J_g 29900 [] [(2,iv x8)] [] zB ?_
   exact zQ rfl
  ·refine J_d 935 [] [5,8,14] [(8,iv (w64 (s6+1)))] [] [] zB ?_
   exact J_q (J_b (ih (w64 (s6+1)))) rfl
 ·exact wD (hk ()) rfl
theorem zEK.ok (a1:(List Int)):Ok Tryz.prog 221 [sl 1 zC a1] [] ((zEK a1).map fun r=>(iv r,[])):=by
 refine zG zOT Tryz.f221 0 18 (fun q=>?_)
 unfold zEK
 refine J_g 2 [] [(0,sl 1 zC a1)] [] zB ?_
 refine J_g 6 [] [(0,sl 1 zC a1),(3,iv 0)] [] zB ?_
 refine J_g 28 [] [(3,iv 0),(6,sl 1 zC a1),(7,iv (a1.length:Int)),(8,iv 0)] [] zB ?_
 refine uP (K0:=(fun r:Int=>some (iv r,[]))) (fun _=>rfl) (zEd.ok a1 q _ (fun v11=>J_j ?_) 0)
 refine J_g 30 [] [(2,iv 0)] [] zB ?_
 exact zQ rfl
noncomputable def zQf:Code:=(Tryz.f216.body).getD .skip
theorem jS.ok (a1:Version) (a2:Version):Ok Tryz.prog 216 [.ag (Version.enc a1),.ag (Version.enc a2)] [] ((jS a1 a2).map fun r=>(iv r,[])):=by
 refine zG zQf Tryz.f216 0 22 (fun q=>?_)
 unfold jS
 refine J_g 2 [(0,0),(1,1)] [(2,pp 0),(3,pp 1)] [(0,.box (Version.enc a1)),(1,.box (Version.enc a2))] zB ?_
 refine zA (fun x3 h4=>?_)
 refine zA (fun x5 h6=>?_)
 refine zA (fun x7 h8=>?_)
 refine zA (fun x9 h10=>?_)
 refine J_g 6 [] [(4,iv x9)] [] (zD 4 (vG [(.tmp 6),(.tmp 8)] [2,2] (vI.ok a1.A a2.A) h4) (zD 9 (vG [(.tmp 11),(.tmp 13)] [2,2] (vI.ok a1.B a2.B) h6) (zD 14 (vG [(.tmp 16),(.tmp 18)] [2,2] (vI.ok a1.C a2.C) h8) (zD 15 (zEa 216 3 1 2 zC [x3,x5,x7] [0,1,2] [(.tmp 9),(.tmp 14),(.tmp 19)] [iv x3,iv x5,iv x7]) (zD 16 (vC («as»:=[rr 2 [x3,x5,x7]]) [(.tmp 20)] [216] true [(2,rE 1 zC [x3,x5,x7])] [] (.cons (zBr (.head _) (fun _=>rfl) rfl) (.nil)) (zEK.ok [x3,x5,x7]) h10 (.same rfl rfl) (hbor:=fun _=>⟨fhN,yL⟩)) zB))))) ?_
 exact zQ rfl
noncomputable def zPI:Code:=(Tryz.f215.body).getD .skip
theorem zBk.ok (a1:Term):Ok Tryz.prog 215 [.ag (Term.enc a1)] [] ((zBk a1).map fun r=>(iv r,[])):=by
 refine zG zPI Tryz.f215 0 35 (fun q=>?_)
 unfold zBk
 refine J_g 2 [(0,0)] [(1,pp 0)] [(0,.box (Term.enc a1))] zB ?_
 refine zA (fun x2 h3=>?_)
 refine J_g 12 [] [(1,pp 0),(3,iv x2)] [(0,.box (Term.enc a1))] (zD 2 (vG [(.tmp 6)] [9] (uY.ok a1.Name) h3) zB) ?_
 refine J_d 26 [] [9] [(9,bv (x2 !=0))] [] [] zB ?_
 refine zF 9 (fun h4=>?_) (fun h4=>?_)
 ·refine J_g 108 [] [(2,iv x2)] [] zB ?_
  exact zQ rfl
 ·refine zA (fun x5 h6=>?_)
  refine J_g 28 [] [(1,pp 0),(4,iv x5)] [(0,.box (Term.enc a1))] (zD 2 (vG [(.tmp 12)] [59] (vJ.ok a1.Low) h6) zB) ?_
  refine J_d 58 [] [15] [(15,bv (x5 !=0))] [] [] zB ?_
  refine zF 15 (fun h7=>?_) (fun h7=>?_)
  ·refine J_g 236 [] [(2,iv x5)] [] zB ?_
   exact zQ rfl
  ·refine zA (fun x8 h9=>?_)
   refine vW (atI zPI 121) (fun v13:Bool=>St.mk' [(1,pp 0),(17,bv v13)] [(0,.box (Term.enc a1))]) (fun v13=>?_) (fun jv13=>?_)
   ·refine zF 17 (fun h14=>?_) (fun h14=>?_)
    ·refine J_g 484 [] [(2,iv 3)] [] zB ?_
     exact zQ rfl
    ·refine zA (fun x15 h16=>?_)
     refine J_g 486 [] [(28,bv (decide (x15≥0)))] [] (zD 4 (vG [(.tmp 30),(.tmp 32)] [59,59] (jS.ok a1.Low a1.High) h16) zB) ?_
     refine zF 28 (fun h17=>?_) (fun h17=>?_)
     ·refine J_g 1948 [] [(2,iv 1)] [] zB ?_
      exact zQ rfl
     ·refine J_g 62 [] [(2,iv 0)] [] zB ?_
      exact zQ rfl
   ·refine tJ (fun h10=>?_) (fun h10=>?_)
    ·refine zA (fun x11 h12=>?_)
     refine J_d 120 [] [4,15,17] [(17,bv (x11 !=0))] [] [] (zD 2 (vG [] [] (zF6.ok) h9) (zD 3 (zLY (b:=.neq) (r:=(a1.High.A==x8.A&&(a1.High.B==x8.B&&(a1.High.C==x8.C&&true)))) 59 59 (.tmp 19) (.tmp 20) [.int .i64 a1.High.A,.int .i64 a1.High.B,.int .i64 a1.High.C] [.int .i64 x8.A,.int .i64 x8.B,.int .i64 x8.C] (.inr ⟨rfl,rfl⟩)) (uE 4 [(21,bv (!(a1.High.A==x8.A&&(a1.High.B==x8.B&&(a1.High.C==x8.C&&true)))))] [] h10 (zCR 7 4 22 true (vG [(.tmp 24)] [59] (vJ.ok a1.High) h12) zB)))) ?_
     exact wD (J_j (jv13 (x11 !=0))) rfl
    ·refine J_d 120 [] [4,15,17] [(17,bv false)] [] [] (zD 2 (vG [] [] (zF6.ok) h9) (zD 3 (zLY (b:=.neq) (r:=(a1.High.A==x8.A&&(a1.High.B==x8.B&&(a1.High.C==x8.C&&true)))) 59 59 (.tmp 19) (.tmp 20) [.int .i64 a1.High.A,.int .i64 a1.High.B,.int .i64 a1.High.C] [.int .i64 x8.A,.int .i64 x8.B,.int .i64 x8.C] (.inr ⟨rfl,rfl⟩)) (uE 4 [(21,bv (!(a1.High.A==x8.A&&(a1.High.B==x8.B&&(a1.High.C==x8.C&&true)))))] [] h10 zB))) ?_
     exact wD (J_j (jv13 false)) rfl
noncomputable def c194:Code:=(Tryz.f194.body).getD .skip
theorem zAU.ok (a1:(List Term)) (q:Wd) (kn:Unit→Option (D×List Ent)) (hk:∀v:Unit,J (q.g Tryz.prog 194 0 18) c194 (atI c194 7) (St.mk' [] []) (some v) kn):
  ∀s8:Int,J (q.g Tryz.prog 194 0 18) c194 (atI c194 52) (St.mk' [(6,sl 7 Term.enc a1),(7,iv (a1.length:Int)),(8,iv s8)] []) (zAU a1 s8) (Fl.go (fun r:Int=>some (iv r,[])) kn):=by
 refine tV (fun g ih s8=>?_)
 unfold zAz
 refine J_d 104 [] [9] [(9,bv (decide (s8< (a1.length:Int))))] [] [] zB ?_
 refine zF 9 (fun h9=>?_) (fun h9=>?_)
 ·refine zA (fun x10 h11=>?_)
  refine J_d 1688 [(2,0)] [4,9] [(4,pp 0)] [0] [(0,.box (Term.enc x10))] (zD 0 (tT (kk:=.i64) 61 102 7 Term.enc (.tmp 6) (.tmp 8) h11) zB) ?_
  refine zA (fun x12 h13=>?_)
  refine J_g 3378 [] [(5,iv x12),(6,sl 7 Term.enc a1),(7,iv (a1.length:Int)),(8,iv s8)] [] (zD 1 (vG [(.tmp 12)] [102] (zBk.ok x10) h13) zB) ?_
  refine J_d 6758 [] [15] [(15,bv (x12 !=0))] [] [] zB ?_
  refine zF 15 (fun h14=>?_) (fun h14=>?_)
  ·refine J_g 27036 [] [(2,iv x12)] [] zB ?_
   exact zQ rfl
  ·refine J_d 423 [] [5,8,15] [(8,iv (w64 (s8+1)))] [] [] zB ?_
   exact J_q (J_b (ih (w64 (s8+1)))) rfl
 ·exact wD (hk ()) rfl
theorem uW.ok (a1:(List Term)):Ok Tryz.prog 194 [sl 7 Term.enc a1] [] ((uW a1).map fun r=>(iv r,[])):=by
 refine zG c194 Tryz.f194 0 18 (fun q=>?_)
 unfold uW
 refine J_g 2 [] [(0,sl 7 Term.enc a1)] [] zB ?_
 refine J_g 12 [] [(6,sl 7 Term.enc a1),(7,iv (a1.length:Int)),(8,iv 0)] [] zB ?_
 refine uP (K0:=(fun r:Int=>some (iv r,[]))) (fun _=>rfl) (zAU.ok a1 q _ (fun v15=>J_j ?_) 0)
 refine J_g 14 [] [(2,iv 0)] [] zB ?_
 exact zQ rfl
noncomputable def c145:Code:=(Tryz.f145.body).getD .skip
theorem zAs.ok (a1:Pack) (q:Wd) (kn:Unit→Option (D×List Ent)) (hk:∀v:Unit,J (q.g Tryz.prog 145 0 93) c145 (atI c145 63) (St.mk' [(1,pp 0)] [(0,.box (Pack.enc false a1))]) (some v) kn):
  ∀s54:Int,J (q.g Tryz.prog 145 0 93) c145 (atI c145 500) (St.mk' [(1,pp 0),(75,sl 1 (eSl false 7 Term.enc) a1.Needs),(76,iv (a1.Needs.length:Int)),(77,iv s54)] [(0,.box (Pack.enc false a1))]) (zAs a1 s54) (Fl.go (fun r:Int=>some (iv r,[])) kn):=by
 refine tV (fun g ih s54=>?_)
 unfold zAE
 refine J_d 1000 [] [78] [(78,bv (decide (s54< (a1.Needs.length:Int))))] [] [] zB ?_
 refine zF 78 (fun h55=>?_) (fun h55=>?_)
 ·refine zA (fun x56 h57=>?_)
  refine J_g 16024 [] [(1,pp 0),(8,sl 7 Term.enc x56),(75,sl 1 (eSl false 7 Term.enc) a1.Needs),(76,iv (a1.Needs.length:Int)),(77,iv s54)] [(0,.box (Pack.enc false a1))] (zD 0 (tT (kk:=.i64) 60 61 1 (eSl false 7 Term.enc) (.tmp 75) (.tmp 77) h57) zB) ?_
  refine J_d 64100 [] [83] [(83,bv ((x56.length:Int)==0))] [] [] zB ?_
  refine zF 83 (fun h58=>?_) (fun h58=>?_)
  ·refine J_g 256404 [] [(2,iv 1)] [] zB ?_
   exact zQ rfl
  ·refine zA (fun x59 h60=>?_)
   refine J_g 64102 [] [(1,pp 0),(9,iv x59),(75,sl 1 (eSl false 7 Term.enc) a1.Needs),(76,iv (a1.Needs.length:Int)),(77,iv s54)] [(0,.box (Pack.enc false a1))] (zD 1 (vG [(.tmp 84)] [61] (uW.ok x56) h60) zB) ?_
   refine J_d 128206 [] [87] [(87,bv (x59 !=0))] [] [] zB ?_
   refine zF 87 (fun h61=>?_) (fun h61=>?_)
   ·refine J_g 512828 [] [(2,iv x59)] [] zB ?_
    exact zQ rfl
   ·refine J_d 4007 [] [9,77,87] [(77,iv (w64 (s54+1)))] [] [] zB ?_
    exact J_q (J_b (ih (w64 (s54+1)))) rfl
 ·exact wD (hk ()) rfl
theorem zAj.ok (a1:Pack) (q:Wd) (kn:Unit→Option (D×List Ent)) (hk:∀v:Unit,J (q.g Tryz.prog 145 0 93) c145 (atI c145 31) (St.mk' [(1,pp 0)] [(0,.box (Pack.enc false a1))]) (some v) kn):
  ∀s32:Int,J (q.g Tryz.prog 145 0 93) c145 (atI c145 244) (St.mk' [(1,pp 0),(49,sl 1 eStr a1.Provides),(50,iv (a1.Provides.length:Int)),(51,iv s32)] [(0,.box (Pack.enc false a1))]) (zAj a1 s32) (Fl.go (fun r:Int=>some (iv r,[])) kn):=by
 refine tV (fun g ih s32=>?_)
 unfold zBd
 refine J_d 488 [] [52] [(52,bv (decide (s32< (a1.Provides.length:Int))))] [] [] zB ?_
 refine zF 52 (fun h33=>?_) (fun h33=>?_)
 ·refine zA (fun x34 h35=>?_)
  refine J_d 7832 [] [4,5,52] [(4,iv s32),(5,sv x34)] [] [] (zD 1 (tT (kk:=.i64) 52 9 1 eStr (.tmp 49) (.tmp 51) h35) zB) ?_
  refine zA (fun x36 h37=>?_)
  refine J_g 31332 [] [(1,pp 0),(4,iv s32),(5,sv x34),(6,iv x36),(49,sl 1 eStr a1.Provides),(50,iv (a1.Provides.length:Int)),(51,iv s32)] [(0,.box (Pack.enc false a1))] (zD 1 (vG [(.tmp 56)] [9] (uY.ok x34) h37) zB) ?_
  refine J_d 62666 [] [59] [(59,bv (x36 !=0))] [] [] zB ?_
  refine zF 59 (fun h38=>?_) (fun h38=>?_)
  ·refine J_g 250668 [] [(2,iv x36)] [] zB ?_
   exact zQ rfl
  ·refine vW (atI c145 31335) (fun v44:Bool=>St.mk' [(1,pp 0),(49,sl 1 eStr a1.Provides),(50,iv (a1.Provides.length:Int)),(51,iv s32),(72,bv v44)] [(0,.box (Pack.enc false a1))]) (fun v44=>?_) (fun jv44=>?_)
   ·refine zF 72 (fun h45=>?_) (fun h45=>?_)
    ·refine J_g 125340 [] [(2,iv 6)] [] zB ?_
     exact zQ rfl
    ·refine J_d 1959 [] [51,72] [(51,iv (w64 (s32+1)))] [] [] zB ?_
     exact J_q (J_b (ih (w64 (s32+1)))) rfl
   ·refine tJ (fun h39=>?_) (fun h39=>?_)
    ·refine J_d 31334 [] [4,5,6,59,72] [(72,bv true)] [] [] (uE 4 [(64,bv (seq x34 a1.Name))] [] h39 zB) ?_
     exact wD (J_j (jv44 true)) rfl
    ·refine zA (fun x40 h41=>?_)
     refine zA (fun x42 h43=>?_)
     refine J_d 31334 [] [4,5,6,59,72] [(72,bv x42)] [] [] (uE 4 [(64,bv (seq x34 a1.Name))] [] h39 (zCR 8 4 65 false (zOv 52 9 1 eStr (.tmp 67) none (some (.tmp 68)) h41) (zCR 10 4 65 false (vG [(.tmp 69),(.tmp 70)] [52,9] (yA.ok x40 x34) h43) zB))) ?_
     exact wD (J_j (jv44 x42)) rfl
 ·exact wD (hk ()) rfl
theorem zBm.ok (a1:Pack):Ok Tryz.prog 145 [.ag (Pack.enc false a1)] [] ((zBm a1).map fun r=>(iv r,[])):=by
 refine zG c145 Tryz.f145 0 93 (fun q=>?_)
 unfold zBm
 refine J_g 2 [(0,0)] [(1,pp 0)] [(0,.box (Pack.enc false a1))] zB ?_
 refine zA (fun x2 h3=>?_)
 refine zA (fun x4 h5=>?_)
 refine zA (fun x6 h7=>?_)
 refine J_g 12 [] [(1,pp 0),(3,iv x6)] [(0,.box (Pack.enc false a1))] (zD 2 (vG [(.tmp 11)] [9] (uY.ok a1.Name) h3) (zD 5 (vG [(.tmp 14)] [59] (vJ.ok a1.Version) h5) (zD 6 (zEa 23 2 1 1 zC [x2,x4] [0,1] [(.tmp 12),(.tmp 15)] [iv x2,iv x4]) (zD 7 (vC («as»:=[rr 1 [x2,x4]]) [(.tmp 16)] [23] true [(1,rE 1 zC [x2,x4])] [] (.cons (zBr (.head _) (fun _=>rfl) rfl) (.nil)) (uU.ok [x2,x4]) h7 (.same rfl rfl) (hbor:=fun _=>⟨fhN,yL⟩)) zB)))) ?_
 refine J_d 26 [] [19] [(19,bv (x6 !=0))] [] [] zB ?_
 refine zF 19 (fun h8=>?_) (fun h8=>?_)
 ·refine J_g 108 [] [(2,iv x6)] [] zB ?_
  exact zQ rfl
 ·refine zA (fun x9 h10=>?_)
  refine J_d 56 [] [3,19,21] [(21,bv (!x9))] [] [] (zD 2 (vG [(.tmp 23),(.const (.int .i64 1)),(.const (.int .i64 200))] [2,2,2] (vU.ok a1.Size 1 200) h10) zB) ?_
  refine zF 21 (fun h11=>?_) (fun h11=>?_)
  ·refine J_g 228 [] [(2,iv 3)] [] zB ?_
   exact zQ rfl
  ·refine vW (atI c145 231) (fun v17:Bool=>St.mk' [(1,pp 0),(26,bv v17)] [(0,.box (Pack.enc false a1))]) (fun v17=>?_) (fun jv17=>?_)
   ·refine zF 26 (fun h18=>?_) (fun h18=>?_)
    ·refine J_g 924 [] [(2,iv 2)] [] zB ?_
     exact zQ rfl
    ·refine J_d 60 [] [26,49,50,51] [(49,sl 1 eStr a1.Provides),(50,iv (a1.Provides.length:Int)),(51,iv 0)] [] [] zB ?_
     refine uP (K0:=(fun r:Int=>some (iv r,[]))) (fun _=>rfl) (zAj.ok a1 q _ (fun v46=>J_j ?_) 0)
     refine J_d 124 [] [75,76,77] [(75,sl 1 (eSl false 7 Term.enc) a1.Needs),(76,iv (a1.Needs.length:Int)),(77,iv 0)] [] [] zB ?_
     refine uP (K0:=(fun r:Int=>some (iv r,[]))) (fun _=>rfl) (zAs.ok a1 q _ (fun v62=>J_j ?_) 0)
     refine zA (fun x63 h64=>?_)
     refine J_g 126 [] [(2,iv x63)] [] (zD 2 (vG [(.tmp 91)] [61] (uW.ok a1.Bars) h64) zB) ?_
     exact zQ rfl
   ·refine tJ (fun h12=>?_) (fun h12=>?_)
    ·refine J_d 230 [] [21,26] [(26,bv true)] [] [] (uE 4 [(30,bv (decide ((a1.Provides.length:Int)>4)))] [] h12 zB) ?_
     exact wD (J_j (jv17 true)) rfl
    ·refine tJ (fun h13=>?_) (fun h13=>?_)
     ·refine J_d 230 [] [21,26] [(26,bv true)] [] [] (uE 4 [(30,bv (decide ((a1.Provides.length:Int)>4)))] [] h12 (uE 10 [(36,bv (decide ((a1.Needs.length:Int)>4)))] [] h13 zB)) ?_
      exact wD (J_j (jv17 true)) rfl
     ·refine tJ (fun h14=>?_) (fun h14=>?_)
      ·refine J_d 230 [] [21,26] [(26,bv true)] [] [] (uE 4 [(30,bv (decide ((a1.Provides.length:Int)>4)))] [] h12 (uE 10 [(36,bv (decide ((a1.Needs.length:Int)>4)))] [] h13 (uE 16 [(42,bv (decide ((a1.Bars.length:Int)>4)))] [] h14 zB))) ?_
       exact wD (J_j (jv17 true)) rfl
      ·refine zA (fun x15 h16=>?_)
       refine J_d 230 [] [21,26] [(26,bv x15)] [] [] (uE 4 [(30,bv (decide ((a1.Provides.length:Int)>4)))] [] h12 (uE 10 [(36,bv (decide ((a1.Needs.length:Int)>4)))] [] h13 (uE 16 [(42,bv (decide ((a1.Bars.length:Int)>4)))] [] h14 (zCR 19 16 43 false (vC («as»:=[sl 1 (eSl false 7 Term.enc) a1.Needs,.fn 193 []]) [(.tmp 45),(.func 193)] [60,163] false [] [] (.cons (.same rfl) (.cons (.fn (.nil)) (.nil))) (zS.ok a1.Needs) h16 (.same rfl rfl)) zB)))) ?_
       exact wD (J_j (jv17 x15)) rfl
noncomputable def zPX:Code:=(Tryz.f195.body).getD .skip
theorem zEo.ok (a1:Pack) (a2:ByteArray) (a3:Version):Ok Tryz.prog 195 [.ag (Pack.enc false a1),pp 0,pp 1] [.box [sv a2],.box (Version.enc a3)] ((zEo a1 a2 a3).map fun r=>(bv r,[.box [sv a2],.box (Version.enc a3)])):=by
 refine zG zPX Tryz.f195 2 15 (fun q=>?_)
 unfold zEo
 refine J_d 2 [(0,2)] [0,3] [(3,pp 2)] [2] [(2,.box (Pack.enc false a1))] zB ?_
 refine tJ (fun h4=>?_) (fun h4=>?_)
 ·refine J_d 6 [] [1,2,3,4] [(4,bv (a1.Version.A==a3.A&&(a1.Version.B==a3.B&&(a1.Version.C==a3.C&&true))))] [2] [] (uE 4 [(8,bv (seq a1.Name a2))] [] h4 (zCR 8 4 9 true (zLY (b:=.eql) (r:=(a1.Version.A==a3.A&&(a1.Version.B==a3.B&&(a1.Version.C==a3.C&&true)))) 59 59 (.tmp 11) (.tmp 12) [.int .i64 a1.Version.A,.int .i64 a1.Version.B,.int .i64 a1.Version.C] [.int .i64 a3.A,.int .i64 a3.B,.int .i64 a3.C] (.inl ⟨rfl,rfl⟩)) zB)) ?_
  exact zQ rfl
 ·refine J_d 6 [] [1,2,3,4] [(4,bv false)] [2] [] (uE 4 [(8,bv (seq a1.Name a2))] [] h4 zB) ?_
  exact zQ rfl
noncomputable def zMB:Code:=(Tryz.f136.body).getD .skip
theorem wE.ok (a1:(List Pack)) (a2:ByteArray) (a3:Version) (q:Wd) (kn:Unit→Option (D×List Ent)) (hk:∀v:Unit,J (q.g Tryz.prog 136 2 19) zMB (atI zMB 7) (St.mk' [] [(0,.box [sv a2]),(1,.box (Version.enc a3))]) (some v) kn):
  ∀s10:Int,J (q.g Tryz.prog 136 2 19) zMB (atI zMB 52) (St.mk' [(0,sl 8 (Pack.enc false) a1),(1,.fn 195 [pp 0,pp 1]),(7,iv (a1.length:Int)),(8,iv s10)] [(0,.box [sv a2]),(1,.box (Version.enc a3))]) (wE a1 a2 a3 s10) (Fl.go (fun r:Int=>some (iv r,[.box [sv a2],.box (Version.enc a3)])) kn):=by
 refine tV (fun g ih s10=>?_)
 unfold wC
 refine J_d 104 [] [9] [(9,bv (decide (s10< (a1.length:Int))))] [] [] zB ?_
 refine zF 9 (fun h11=>?_) (fun h11=>?_)
 ·refine J_d 1688 [] [5,9] [(5,iv s10)] [] [] zB ?_
  refine zA (fun x12 h13=>?_)
  refine zA (fun x14 h15=>?_)
  refine J_d 3378 [] [16] [(16,bv x14)] [] [] (zD 3 (tT (kk:=.i64) 28 63 8 (Pack.enc false) (.tmp 12) (.tmp 13) h13) (zD 5 (zEV [(0,.box [sv a2]),(1,.box (Version.enc a3))] [] (zEB 11 [(.tmp 15)] [63] false [(0,.box [sv a2]),(1,.box (Version.enc a3))] [0,1] [.ag (Pack.enc false x12)] [pp 0,pp 1] (.cons (.same rfl) (.cons (.pt rfl) (.cons (.pt rfl) (.nil)))) (zEo.ok x12 a2 a3) h15 (.same rfl rfl))) zB)) ?_
  refine zF 16 (fun h16=>?_) (fun h16=>?_)
  ·refine J_d 13516 [] [0,1,4,5,7,8,16] [(4,iv s10)] [] [] zB ?_
   exact zQ rfl
  ·refine J_d 423 [] [5,8,16] [(8,iv (w64 (s10+1)))] [] [] zB ?_
   exact J_q (J_b (ih (w64 (s10+1)))) rfl
 ·exact wD (hk ()) rfl
theorem xR.ok (a1:(List Pack)) (a2:ByteArray) (a3:Version):Ok Tryz.prog 136 [sl 8 (Pack.enc false) a1,.fn 195 [pp 0,pp 1]] [.box [sv a2],.box (Version.enc a3)] ((xR a1 a2 a3).map fun r=>(iv r,[.box [sv a2],.box (Version.enc a3)])):=by
 refine zG zMB Tryz.f136 2 19 (fun q=>?_)
 unfold xR
 refine J_g 2 [] [(0,sl 8 (Pack.enc false) a1),(1,.fn 195 [pp 0,pp 1])] [(0,.box [sv a2]),(1,.box (Version.enc a3))] zB ?_
 refine J_d 12 [] [7,8] [(7,iv (a1.length:Int)),(8,iv 0)] [] [] zB ?_
 refine uP (K0:=(fun r:Int=>some (iv r,[.box [sv a2],.box (Version.enc a3)]))) (fun _=>rfl) (wE.ok a1 a2 a3 q _ (fun v17=>J_j ?_) 0)
 refine J_d 14 [] [4] [(4,iv (-1))] [] [] zB ?_
 exact zQ rfl
noncomputable def c146:Code:=(Tryz.f146.body).getD .skip
theorem zE3.ok (a1:(List Pack)) (a2:ByteArray) (a3:Version):Ok Tryz.prog 146 [sl 8 (Pack.enc false) a1,sv a2,.ag (Version.enc a3)] [] ((zE3 a1 a2 a3).map fun r=>(iv r,[])):=by
 refine zG c146 Tryz.f146 0 10 (fun q=>?_)
 unfold zE3
 refine J_d 2 [(0,0),(1,1)] [1,2,4,5] [(4,pp 0),(5,pp 1)] [0,1] [(0,.box [sv a2]),(1,.box (Version.enc a3))] zB ?_
 refine zA (fun x4 h5=>?_)
 refine J_g 6 [] [(6,iv x4)] [] (zD 2 (zEV [(0,.box [sv a2]),(1,.box (Version.enc a3))] [] (vC («as»:=[sl 8 (Pack.enc false) a1,.fn 195 [pp 0,pp 1]]) [(.tmp 7),(.tmp 8)] [28,129] false [(0,.box [sv a2]),(1,.box (Version.enc a3))] [0,1] (.cons (.same rfl) (.cons (.fn (.cons (.pt rfl) (.cons (.pt rfl) (.nil)))) (.nil))) (xR.ok a1 a2 a3) h5 (.same rfl rfl))) zB) ?_
 exact zQ rfl
noncomputable def zOO:Code:=(Tryz.f126.body).getD .skip
theorem kW.ok (a1:(List Pack)) (q:Wd) (kn:Unit→Option (D×List Ent)) (hk:∀v:Unit,J (q.g Tryz.prog 126 0 31) zOO (atI zOO 15) (St.mk' [] []) (some v) kn):
  ∀s14:Int,J (q.g Tryz.prog 126 0 31) zOO (atI zOO 116) (St.mk' [(0,sl 8 (Pack.enc false) a1),(9,sl 8 (Pack.enc false) a1),(10,iv (a1.length:Int)),(11,iv s14)] []) (kW a1 s14) (Fl.go (fun r:Int=>some (iv r,[])) kn):=by
 refine tV (fun g ih s14=>?_)
 unfold kF
 refine J_d 232 [] [12] [(12,bv (decide (s14< (a1.length:Int))))] [] [] zB ?_
 refine zF 12 (fun h15=>?_) (fun h15=>?_)
 ·refine zA (fun x16 h17=>?_)
  refine J_d 3736 [(3,0)] [3,4,12] [(3,iv s14),(4,pp 0)] [0] [(0,.box (Pack.enc false x16))] (zD 1 (tT (kk:=.i64) 28 63 8 (Pack.enc false) (.tmp 9) (.tmp 11) h17) zB) ?_
  refine zA (fun x18 h19=>?_)
  refine J_g 14948 [] [(0,sl 8 (Pack.enc false) a1),(3,iv s14),(4,pp 0),(5,iv x18),(9,sl 8 (Pack.enc false) a1),(10,iv (a1.length:Int)),(11,iv s14)] [(0,.box (Pack.enc false x16))] (zD 1 (vG [(.tmp 16)] [63] (zBm.ok x16) h19) zB) ?_
  refine J_d 29898 [] [19] [(19,bv (x18 !=0))] [] [] zB ?_
  refine zF 19 (fun h20=>?_) (fun h20=>?_)
  ·refine J_g 119596 [] [(2,iv x18)] [] zB ?_
   exact zQ rfl
  ·refine zA (fun x21 h22=>?_)
   refine zA (fun x23 h24=>?_)
   refine J_d 14950 [] [3,4,5,19,29] [(29,bv (decide (x23≥0)))] [0] [] (zD 2 (zOv 28 63 8 (Pack.enc false) (.tmp 21) none (some (.tmp 22)) h22) (zD 7 (vG [(.tmp 23),(.tmp 25),(.tmp 27)] [28,9,59] (zE3.ok x21 x16.Name x16.Version) h24) zB)) ?_
   refine zF 29 (fun h25=>?_) (fun h25=>?_)
   ·refine J_g 59804 [] [(2,iv 6)] [] zB ?_
    exact zQ rfl
   ·refine J_d 935 [] [11,29] [(11,iv (w64 (s14+1)))] [] [] zB ?_
    exact J_q (J_b (ih (w64 (s14+1)))) rfl
 ·exact wD (hk ()) rfl
theorem jX.ok (a1:(List Pack)):Ok Tryz.prog 126 [sl 8 (Pack.enc false) a1] [] ((jX a1).map fun r=>(iv r,[])):=by
 refine zG zOO Tryz.f126 0 31 (fun q=>?_)
 unfold jX
 refine J_g 2 [] [(0,sl 8 (Pack.enc false) a1)] [] zB ?_
 refine J_d 12 [] [8] [(8,bv (decide ((a1.length:Int)>24)))] [] [] zB ?_
 refine zF 8 (fun h2=>?_) (fun h2=>?_)
 ·refine J_g 52 [] [(2,iv 2)] [] zB ?_
  exact zQ rfl
 ·refine J_d 28 [] [8,9,10,11] [(9,sl 8 (Pack.enc false) a1),(10,iv (a1.length:Int)),(11,iv 0)] [] [] zB ?_
  refine uP (K0:=(fun r:Int=>some (iv r,[]))) (fun _=>rfl) (kW.ok a1 q _ (fun v26=>J_j ?_) 0)
  refine J_g 30 [] [(2,iv 0)] [] zB ?_
  exact zQ rfl
noncomputable def c148:Code:=(Tryz.f148.body).getD .skip
theorem zA8.ok (a1:Int) (a2:(List Pack)):Ok Tryz.prog 148 [iv a1,pp 0] [.box [sl 8 (Pack.enc false) a2]] ((zA8 a1 a2).map fun r=>(bv r,[.box [sl 8 (Pack.enc false) a2]])):=by
 refine zG c148 Tryz.f148 1 10 (fun q=>?_)
 unfold zA8
 refine J_d 2 [] [] [] [] [] zB ?_
 refine zA (fun x3 h4=>?_)
 refine J_d 6 [] [0,1,3] [(3,bv (!x3))] [] [] (zD 4 (vG [(.tmp 4),(.const (.int .i64 0)),(.tmp 7)] [2,2,2] (vU.ok a1 0 (w64 ((a2.length:Int)-1))) h4) zB) ?_
 exact zQ rfl
noncomputable def zHg:Code:=(Tryz.f165.body).getD .skip
theorem xW.ok (a1:(List Int)) (a2:(List Pack)) (q:Wd) (kn:Unit→Option (D×List Ent)) (hk:∀v:Unit,J (q.g Tryz.prog 165 1 19) zHg (atI zHg 7) (St.mk' [] [(0,.box [sl 8 (Pack.enc false) a2])]) (some v) kn):
  ∀s9:Int,J (q.g Tryz.prog 165 1 19) zHg (atI zHg 52) (St.mk' [(0,sl 1 zC a1),(1,.fn 148 [pp 0]),(7,iv (a1.length:Int)),(8,iv s9)] [(0,.box [sl 8 (Pack.enc false) a2])]) (xW a1 a2 s9) (Fl.go (fun r:Int=>some (iv r,[.box [sl 8 (Pack.enc false) a2]])) kn):=by
 refine tV (fun g ih s9=>?_)
 unfold xQ
 refine J_d 104 [] [9] [(9,bv (decide (s9< (a1.length:Int))))] [] [] zB ?_
 refine zF 9 (fun h10=>?_) (fun h10=>?_)
 ·refine J_d 1688 [] [5,9] [(5,iv s9)] [] [] zB ?_
  refine zA (fun x11 h12=>?_)
  refine zA (fun x13 h14=>?_)
  refine J_d 3378 [] [16] [(16,bv x13)] [] [] (zD 3 (tT (kk:=.i64) 23 2 1 zC (.tmp 12) (.tmp 13) h12) (zD 5 (zEV [(0,.box [sl 8 (Pack.enc false) a2])] [] (zEB 11 [(.tmp 15)] [2] false [(0,.box [sl 8 (Pack.enc false) a2])] [0] [iv x11] [pp 0] (.cons (.same rfl) (.cons (.pt rfl) (.nil))) (zA8.ok x11 a2) h14 (.same rfl rfl))) zB)) ?_
  refine zF 16 (fun h15=>?_) (fun h15=>?_)
  ·refine J_g 13516 [] [(4,iv s9)] [(0,.box [sl 8 (Pack.enc false) a2])] zB ?_
   exact zQ rfl
  ·refine J_d 423 [] [5,8,16] [(8,iv (w64 (s9+1)))] [] [] zB ?_
   exact J_q (J_b (ih (w64 (s9+1)))) rfl
 ·exact wD (hk ()) rfl
theorem xD.ok (a1:(List Int)) (a2:(List Pack)):Ok Tryz.prog 165 [sl 1 zC a1,.fn 148 [pp 0]] [.box [sl 8 (Pack.enc false) a2]] ((xD a1 a2).map fun r=>(iv r,[.box [sl 8 (Pack.enc false) a2]])):=by
 refine zG zHg Tryz.f165 1 19 (fun q=>?_)
 unfold xD
 refine J_g 2 [] [(0,sl 1 zC a1),(1,.fn 148 [pp 0])] [(0,.box [sl 8 (Pack.enc false) a2])] zB ?_
 refine J_d 12 [] [7,8] [(7,iv (a1.length:Int)),(8,iv 0)] [] [] zB ?_
 refine uP (K0:=(fun r:Int=>some (iv r,[.box [sl 8 (Pack.enc false) a2]]))) (fun _=>rfl) (xW.ok a1 a2 q _ (fun v16=>J_j ?_) 0)
 refine J_d 14 [] [4] [(4,iv (-1))] [] [] zB ?_
 exact zQ rfl
noncomputable def zPq:Code:=(Tryz.f147.body).getD .skip
theorem yS.ok (a1:(List Int)) (a2:(List Pack)):Ok Tryz.prog 147 [sl 1 zC a1,.fn 148 [pp 0]] [.box [sl 8 (Pack.enc false) a2]] ((yS a1 a2).map fun r=>(bv r,[.box [sl 8 (Pack.enc false) a2]])):=by
 refine zG zPq Tryz.f147 1 9 (fun q=>?_)
 unfold yS
 refine J_d 2 [] [] [] [] [] zB ?_
 refine zA (fun x3 h4=>?_)
 refine J_d 6 [] [0,1,4] [(4,bv (decide (x3≥0)))] [] [] (zD 2 (zEV [(0,.box [sl 8 (Pack.enc false) a2])] [] (vC («as»:=[sl 1 zC a1,.fn 148 [pp 0]]) [(.tmp 5),(.tmp 6)] [23,119] false [(0,.box [sl 8 (Pack.enc false) a2])] [0] (.cons (.same rfl) (.cons (.fn (.cons (.pt rfl) (.nil))) (.nil))) (xD.ok a1 a2) h4 (.same rfl rfl))) zB) ?_
 exact zQ rfl
noncomputable def c127:Code:=(Tryz.f127.body).getD .skip
theorem zBp.ok (a1:(List Pack)) (a2:(List Int)):Ok Tryz.prog 127 [sl 8 (Pack.enc false) a1,sl 1 zC a2] [] ((zBp a1 a2).map fun r=>(bv r,[])):=by
 refine zG c127 Tryz.f127 0 9 (fun q=>?_)
 unfold zBp
 refine J_g 2 [(0,0)] [(1,sl 1 zC a2),(2,pp 0)] [(0,.box [sl 8 (Pack.enc false) a1])] zB ?_
 refine zA (fun x3 h4=>?_)
 refine J_g 6 [] [(4,bv (!x3))] [] (zD 2 (zEV [(0,.box [sl 8 (Pack.enc false) a1])] [] (vC («as»:=[sl 1 zC a2,.fn 148 [pp 0]]) [(.tmp 5),(.tmp 6)] [23,119] false [(0,.box [sl 8 (Pack.enc false) a1])] [0] (.cons (.same rfl) (.cons (.fn (.cons (.pt rfl) (.nil))) (.nil))) (yS.ok a2 a1) h4 (.same rfl rfl))) zB) ?_
 exact zQ rfl
noncomputable def c85:Code:=(Tryz.f85.body).getD .skip
theorem zAC.ok (a1:(List Pack)) (a2:(List Int)) (q:Wd) (kn:Unit→Option (D×List Ent)) (hk:∀v:Unit,J (q.g Tryz.prog 85 0 32) c85 (atI c85 15) (St.mk' [(0,sl 8 (Pack.enc false) a1),(1,sl 1 zC a2)] []) (some v) kn):
  ∀s12:Int,J (q.g Tryz.prog 85 0 32) c85 (atI c85 116) (St.mk' [(0,sl 8 (Pack.enc false) a1),(1,sl 1 zC a2),(6,iv s12)] []) (zAC a1 a2 s12) (Fl.go (fun r:Int=>some (iv r,[])) kn):=by
 refine tV (fun g ih s12=>?_)
 unfold tO
 refine J_d 464 [] [15] [(15,bv (decide (s12< (a2.length:Int))))] [] [] zB ?_
 refine zF 15 (fun h13=>?_) (fun h13=>?_)
 ·refine zA (fun x14 h15=>?_)
  refine zA (fun x16 h17=>?_)
  refine J_d 1864 [] [15,27] [(27,bv (decide (x14≤x16)))] [] [] (zD 2 (tT (kk:=.i64) 23 2 1 zC (.tmp 18) (.tmp 19) h15) (zD 7 (tT (kk:=.i64) 23 2 1 zC (.tmp 22) (.tmp 24) h17) zB)) ?_
  refine zF 27 (fun h18=>?_) (fun h18=>?_)
  ·refine J_g 7460 [] [(4,iv 1)] [] zB ?_
   exact zQ rfl
  ·refine J_d 467 [] [6,27] [(6,iv (w64 (s12+1)))] [] [] zB ?_
   exact J_q (J_b (ih (w64 (s12+1)))) rfl
 ·exact wD (hk ()) rfl
theorem zAb.ok (a1:(List Pack)) (a2:(List Int)):Ok Tryz.prog 85 [sl 8 (Pack.enc false) a1,sl 1 zC a2] [] ((zAb a1 a2).map fun r=>(iv r,[])):=by
 refine zG c85 Tryz.f85 0 32 (fun q=>?_)
 unfold zAb
 refine J_d 2 [] [] [] [] [] zB ?_
 refine zA (fun x3 h4=>?_)
 refine J_g 12 [] [(0,sl 8 (Pack.enc false) a1),(1,sl 1 zC a2),(5,iv x3)] [] (zD 1 (vG [(.tmp 7)] [28] (jX.ok a1) h4) zB) ?_
 refine J_d 26 [] [10] [(10,bv (x3 !=0))] [] [] zB ?_
 refine zF 10 (fun h5=>?_) (fun h5=>?_)
 ·refine J_g 108 [] [(4,iv x3)] [] zB ?_
  exact zQ rfl
 ·refine J_d 28 [] [5,6,10] [(6,iv 1)] [] [] zB ?_
  refine uP (K0:=(fun r:Int=>some (iv r,[]))) (fun _=>rfl) (zAC.ok a1 a2 q _ (fun v19=>J_j ?_) 1)
  refine zA (fun x20 h21=>?_)
  refine J_g 60 [] [(31,bv (!x20))] [] (zD 2 (vG [(.tmp 28),(.tmp 29)] [28,23] (zBp.ok a1 a2) h21) zB) ?_
  refine zF 31 (fun h22=>?_) (fun h22=>?_)
  ·refine J_g 244 [] [(4,iv 1)] [] zB ?_
   exact zQ rfl
  ·refine J_g 62 [] [(4,iv 0)] [] zB ?_
   exact zQ rfl
noncomputable def zO9:Code:=(Tryz.f100.body).getD .skip
theorem zDo.ok (a1:(List Pack)) (a2:(List Int)) (a3:ByteArray) (q:Wd) (kn:Unit→Option (D×List Ent)) (hk:∀v:Unit,J (q.g Tryz.prog 100 0 24) zO9 (atI zO9 7) (St.mk' [] []) (some v) kn):
  ∀s10:Int,J (q.g Tryz.prog 100 0 24) zO9 (atI zO9 52) (St.mk' [(0,sl 8 (Pack.enc false) a1),(2,sv a3),(9,sl 1 zC a2),(10,iv (a2.length:Int)),(11,iv s10)] []) (zDo a1 a2 a3 s10) (Fl.go (fun r:Int=>some (iv r,[])) kn):=by
 refine tV (fun g ih s10=>?_)
 unfold zAe
 refine J_d 104 [] [12] [(12,bv (decide (s10< (a2.length:Int))))] [] [] zB ?_
 refine zF 12 (fun h11=>?_) (fun h11=>?_)
 ·refine zA (fun x12 h13=>?_)
  refine J_d 1688 [] [8,12] [(8,iv x12)] [] [] (zD 0 (tT (kk:=.i64) 23 2 1 zC (.tmp 9) (.tmp 11) h13) zB) ?_
  refine zA (fun x14 h15=>?_)
  refine J_d 3378 [] [21] [(21,bv (seq x14.Name a3))] [] [] (zD 2 (tT (kk:=.i64) 28 63 8 (Pack.enc false) (.tmp 15) (.tmp 16) h15) zB) ?_
  refine zF 21 (fun h16=>?_) (fun h16=>?_)
  ·refine J_g 13516 [] [(6,iv x12)] [] zB ?_
   exact zQ rfl
  ·refine J_d 423 [] [8,11,21] [(11,iv (w64 (s10+1)))] [] [] zB ?_
   exact J_q (J_b (ih (w64 (s10+1)))) rfl
 ·exact wD (hk ()) rfl
theorem tK.ok (a1:(List Pack)) (a2:(List Int)) (a3:ByteArray):Ok Tryz.prog 100 [sl 8 (Pack.enc false) a1,sl 1 zC a2,sv a3] [] ((tK a1 a2 a3).map fun r=>(iv r,[])):=by
 refine zG zO9 Tryz.f100 0 24 (fun q=>?_)
 unfold tK
 refine J_g 2 [] [(0,sl 8 (Pack.enc false) a1),(1,sl 1 zC a2),(2,sv a3)] [] zB ?_
 refine J_d 12 [] [1,9,10,11] [(9,sl 1 zC a2),(10,iv (a2.length:Int)),(11,iv 0)] [] [] zB ?_
 refine uP (K0:=(fun r:Int=>some (iv r,[]))) (fun _=>rfl) (zDo.ok a1 a2 a3 q _ (fun v17=>J_j ?_) 0)
 refine J_g 14 [] [(6,iv (-1))] [] zB ?_
 exact zQ rfl
noncomputable def c196:Code:=(Tryz.f196.body).getD .skip
theorem zB8.ok (a1:Pack):Ok Tryz.prog 196 [.ag (Pack.enc false a1)] [] ((zB8 a1).map fun r=>(so 1 eStr r,[])):=by
 refine zG c196 Tryz.f196 0 9 (fun q=>?_)
 unfold zB8
 refine J_g 2 [(0,0)] [(1,pp 0)] [(0,.box (Pack.enc false a1))] zB ?_
 refine zA (fun x2 h3=>?_)
 refine J_g 6 [] [(2,rr 2 x2)] [(2,rE 1 eStr x2)] (zD 2 (zEa 52 9 1 1 eStr [a1.Name] [0] [(.tmp 4)] [sv a1.Name]) (zD 5 (zJa 52 52 9 9 1 16 2 1 eStr (.tmp 5) (.tmp 7) h3) zB)) ?_
 exact zEl (ds:=[rr 2 x2]) (ds':=[so 1 eStr x2]) (.cons (.cell (.move (.head _) (List.length_map _) (by decide) (.nil))) (.nil) (by decide)) rfl
noncomputable def c198:Code:=(Tryz.f198.body).getD .skip
theorem zBU.ok (a1:Term) (a2:ByteArray) (a3:Version):Ok Tryz.prog 198 [.ag (Term.enc a1),sv a2,.ag (Version.enc a3)] [] ((zBU a1 a2 a3).map fun r=>(bv r,[])):=by
 refine zG c198 Tryz.f198 0 25 (fun q=>?_)
 unfold zBU
 refine J_g 2 [(0,0),(1,1)] [(1,sv a2),(3,pp 0),(5,pp 1)] [(0,.box (Term.enc a1)),(1,.box (Version.enc a3))] zB ?_
 refine tJ (fun h4=>?_) (fun h4=>?_)
 ·refine zA (fun x5 h6=>?_)
  refine tJ (fun h7=>?_) (fun h7=>?_)
  ·refine zA (fun x8 h9=>?_)
   refine J_g 6 [] [(6,bv (decide (x8<0)))] [] (uE 4 [(10,bv (seq a1.Name a2))] [] h4 (zCR 8 4 11 true (vG [(.tmp 13),(.tmp 14)] [59,59] (jS.ok a1.Low a3) h6) (uE 11 [(17,bv (decide (x5≤0)))] [] h7 (zCR 15 11 18 true (vG [(.tmp 19),(.tmp 21)] [59,59] (jS.ok a3 a1.High) h9) zB)))) ?_
   exact zQ rfl
  ·refine J_g 6 [] [(6,bv false)] [] (uE 4 [(10,bv (seq a1.Name a2))] [] h4 (zCR 8 4 11 true (vG [(.tmp 13),(.tmp 14)] [59,59] (jS.ok a1.Low a3) h6) (uE 11 [(17,bv (decide (x5≤0)))] [] h7 zB))) ?_
   exact zQ rfl
 ·refine J_g 6 [] [(6,bv false)] [] (uE 4 [(10,bv (seq a1.Name a2))] [] h4 zB) ?_
  exact zQ rfl
noncomputable def zQi:Code:=(Tryz.f197.body).getD .skip
theorem zAm.ok (a1:ByteArray) (a2:Term) (a3:Pack):Ok Tryz.prog 197 [sv a1,pp 0,pp 1] [.box (Term.enc a2),.box (Pack.enc false a3)] ((zAm a1 a2 a3).map fun r=>(bv r,[.box (Term.enc a2),.box (Pack.enc false a3)])):=by
 refine zG zQi Tryz.f197 2 10 (fun q=>?_)
 unfold zAm
 refine J_d 2 [] [] [] [] [] zB ?_
 refine zA (fun x4 h5=>?_)
 refine J_d 6 [] [0,1,2,4] [(4,bv x4)] [] [] (zD 4 (vG [(.tmp 5),(.tmp 6),(.tmp 8)] [102,9,59] (zBU.ok a2 a1 a3.Version) h5) zB) ?_
 exact zQ rfl
noncomputable def c97:Code:=(Tryz.f97.body).getD .skip
theorem xH.ok (a1:(List ByteArray)) (a2:Term) (a3:Pack) (q:Wd) (kn:Unit→Option (D×List Ent)) (hk:∀v:Unit,J (q.g Tryz.prog 97 3 19) c97 (atI c97 7) (St.mk' [] [(0,rE 1 eStr a1),(1,.box (Term.enc a2)),(2,.box (Pack.enc false a3))]) (some v) kn):
  ∀s10:Int,J (q.g Tryz.prog 97 3 19) c97 (atI c97 52) (St.mk' [(0,rr 0 a1),(1,.fn 197 [pp 1,pp 2]),(7,iv (a1.length:Int)),(8,iv s10)] [(0,rE 1 eStr a1),(1,.box (Term.enc a2)),(2,.box (Pack.enc false a3))]) (xH a1 a2 a3 s10) (Fl.go (fun r:Int=>some (iv r,[rE 1 eStr a1,.box (Term.enc a2),.box (Pack.enc false a3)])) kn):=by
 refine tV (fun g ih s10=>?_)
 unfold yY
 refine J_d 104 [] [9] [(9,bv (decide (s10< (a1.length:Int))))] [] [] zB ?_
 refine zF 9 (fun h11=>?_) (fun h11=>?_)
 ·refine J_d 1688 [] [5,9] [(5,iv s10)] [] [] zB ?_
  refine zA (fun x12 h13=>?_)
  refine zA (fun x14 h15=>?_)
  refine J_d 3378 [] [16] [(16,bv x14)] [] [] (zD 3 (jT (kk:=.i64) 52 9 1 0 eStr (.tmp 12) (.tmp 13) h13) (zD 4 (zC1 (d:=sv x12) 9 1 0 0 eStr (.tmp 14) h13 (by kernel_rfl)) (zD 5 (zEV [(1,.box (Term.enc a2)),(2,.box (Pack.enc false a3))] [] (zEB 11 [(.tmp 15)] [9] false [(1,.box (Term.enc a2)),(2,.box (Pack.enc false a3))] [1,2] [sv x12] [pp 1,pp 2] (.cons (.same rfl) (.cons (.pt rfl) (.cons (.pt rfl) (.nil)))) (zAm.ok x12 a2 a3) h15 (.same rfl rfl))) zB))) ?_
  refine zF 16 (fun h16=>?_) (fun h16=>?_)
  ·refine J_d 13516 [] [0,1,4,5,7,8,16] [(4,iv s10)] [] [] zB ?_
   exact zQ rfl
  ·refine J_d 423 [] [5,8,16] [(8,iv (w64 (s10+1)))] [] [] zB ?_
   exact J_q (J_b (ih (w64 (s10+1)))) rfl
 ·exact wD (hk ()) rfl
theorem yQ.ok (a1:(List ByteArray)) (a2:Term) (a3:Pack):Ok Tryz.prog 97 [rr 0 a1,.fn 197 [pp 1,pp 2]] [rE 1 eStr a1,.box (Term.enc a2),.box (Pack.enc false a3)] ((yQ a1 a2 a3).map fun r=>(iv r,[rE 1 eStr a1,.box (Term.enc a2),.box (Pack.enc false a3)])):=by
 refine zG c97 Tryz.f97 3 19 (fun q=>?_)
 unfold yQ
 refine J_g 2 [] [(0,rr 0 a1),(1,.fn 197 [pp 1,pp 2])] [(0,rE 1 eStr a1),(1,.box (Term.enc a2)),(2,.box (Pack.enc false a3))] zB ?_
 refine J_d 12 [] [7,8] [(7,iv (a1.length:Int)),(8,iv 0)] [] [] zB ?_
 refine uP (K0:=(fun r:Int=>some (iv r,[rE 1 eStr a1,.box (Term.enc a2),.box (Pack.enc false a3)]))) (fun _=>rfl) (xH.ok a1 a2 a3 q _ (fun v17=>J_j ?_) 0)
 refine J_d 14 [] [4] [(4,iv (-1))] [] [] zB ?_
 exact zQ rfl
noncomputable def zPJ:Code:=(Tryz.f106.body).getD .skip
theorem yF.ok (a1:(List ByteArray)) (a2:Term) (a3:Pack):Ok Tryz.prog 106 [rr 0 a1,.fn 197 [pp 1,pp 2]] [rE 1 eStr a1,.box (Term.enc a2),.box (Pack.enc false a3)] ((yF a1 a2 a3).map fun r=>(bv r,[rE 1 eStr a1,.box (Term.enc a2),.box (Pack.enc false a3)])):=by
 refine zG zPJ Tryz.f106 3 9 (fun q=>?_)
 unfold yF
 refine J_d 2 [] [] [] [] [] zB ?_
 refine zA (fun x4 h5=>?_)
 refine J_d 6 [] [0,1,4] [(4,bv (decide (x4≥0)))] [] [] (zD 2 (zEV [(0,rE 1 eStr a1),(1,.box (Term.enc a2)),(2,.box (Pack.enc false a3))] [] (vC («as»:=[rr 0 a1,.fn 197 [pp 1,pp 2]]) [(.tmp 5),(.tmp 6)] [52,94] false [(0,rE 1 eStr a1),(1,.box (Term.enc a2)),(2,.box (Pack.enc false a3))] [0,1,2] (.cons (.rf rfl) (.cons (.fn (.cons (.pt rfl) (.cons (.pt rfl) (.nil)))) (.nil))) (yQ.ok a1 a2 a3) h5 (.same rfl rfl))) zB) ?_
 exact zQ rfl
noncomputable def zQg:Code:=(Tryz.f153.body).getD .skip
theorem jI.ok (a1:Pack) (a2:Term):Ok Tryz.prog 153 [.ag (Pack.enc false a1),.ag (Term.enc a2)] [] ((jI a1 a2).map fun r=>(bv r,[])):=by
 refine zG zQg Tryz.f153 0 9 (fun q=>?_)
 unfold jI
 refine J_g 2 [(0,0),(1,1)] [(2,pp 0),(3,pp 1)] [(0,.box (Pack.enc false a1)),(1,.box (Term.enc a2))] zB ?_
 refine zA (fun x3 h4=>?_)
 refine zA (fun x5 h6=>?_)
 refine J_g 6 [] [(4,bv x5)] [] (zD 1 (vC («as»:=[.ag (Pack.enc false a1)]) [(.tmp 5)] [63] false [] [] (.cons (.same rfl) (.nil)) (zB8.ok a1) h4 (.own 2)) (zD 3 (zEV [(2,rE 1 eStr x3),(1,.box (Term.enc a2)),(0,.box (Pack.enc false a1))] [] (vC («as»:=[rr 2 x3,.fn 197 [pp 1,pp 0]]) [(.tmp 6),(.tmp 7)] [52,94] false [(2,rE 1 eStr x3),(1,.box (Term.enc a2)),(0,.box (Pack.enc false a1))] [2,1,0] (.cons (.rf rfl) (.cons (.fn (.cons (.pt rfl) (.cons (.pt rfl) (.nil)))) (.nil))) (yF.ok x3 a2 a1) h6 (.same rfl rfl))) zB)) ?_
 exact zQ rfl
noncomputable def c138:Code:=(Tryz.f138.body).getD .skip
theorem xM.ok (a1:(List Term)) (a2:Pack) (q:Wd) (kn:Unit→Option (D×List Ent)) (hk:∀v:Unit,J (q.g Tryz.prog 138 0 19) c138 (atI c138 7) (St.mk' [] []) (some v) kn):
  ∀s9:Int,J (q.g Tryz.prog 138 0 19) c138 (atI c138 52) (St.mk' [(0,sl 7 Term.enc a1),(1,.fb 153 [.ag (Pack.enc false a2)]),(7,iv (a1.length:Int)),(8,iv s9)] []) (xM a1 a2 s9) (Fl.go (fun r:Int=>some (iv r,[])) kn):=by
 refine tV (fun g ih s9=>?_)
 unfold xG
 refine J_d 104 [] [9] [(9,bv (decide (s9< (a1.length:Int))))] [] [] zB ?_
 refine zF 9 (fun h10=>?_) (fun h10=>?_)
 ·refine J_d 1688 [] [5,9] [(5,iv s9)] [] [] zB ?_
  refine zA (fun x11 h12=>?_)
  refine zA (fun x13 h14=>?_)
  refine J_d 3378 [] [16] [(16,bv x13)] [] [] (zD 3 (tT (kk:=.i64) 61 102 7 Term.enc (.tmp 12) (.tmp 13) h12) (zD 5 (zPF («as»:=[.ag (Term.enc x11)]) (caps:=[.ag (Pack.enc false a2)]) 11 [(.tmp 15)] [102] (jI.ok a2 x11) h14) zB)) ?_
  refine zF 16 (fun h15=>?_) (fun h15=>?_)
  ·refine J_g 13516 [] [(4,iv s9)] [] zB ?_
   exact zQ rfl
  ·refine J_d 423 [] [5,8,16] [(8,iv (w64 (s9+1)))] [] [] zB ?_
   exact J_q (J_b (ih (w64 (s9+1)))) rfl
 ·exact wD (hk ()) rfl
theorem yT.ok (a1:(List Term)) (a2:Pack):Ok Tryz.prog 138 [sl 7 Term.enc a1,.fb 153 [.ag (Pack.enc false a2)]] [] ((yT a1 a2).map fun r=>(iv r,[])):=by
 refine zG c138 Tryz.f138 0 19 (fun q=>?_)
 unfold yT
 refine J_g 2 [] [(0,sl 7 Term.enc a1),(1,.fb 153 [.ag (Pack.enc false a2)])] [] zB ?_
 refine J_d 12 [] [7,8] [(7,iv (a1.length:Int)),(8,iv 0)] [] [] zB ?_
 refine uP (K0:=(fun r:Int=>some (iv r,[]))) (fun _=>rfl) (xM.ok a1 a2 q _ (fun v16=>J_j ?_) 0)
 refine J_g 14 [] [(4,iv (-1))] [] zB ?_
 exact zQ rfl
noncomputable def zPG:Code:=(Tryz.f110.body).getD .skip
theorem yI.ok (a1:(List Term)) (a2:Pack):Ok Tryz.prog 110 [sl 7 Term.enc a1,.fb 153 [.ag (Pack.enc false a2)]] [] ((yI a1 a2).map fun r=>(bv r,[])):=by
 refine zG zPG Tryz.f110 0 9 (fun q=>?_)
 unfold yI
 refine J_d 2 [] [] [] [] [] zB ?_
 refine zA (fun x3 h4=>?_)
 refine J_g 6 [] [(4,bv (decide (x3≥0)))] [] (zD 2 (vC («as»:=[sl 7 Term.enc a1,.fb 153 [.ag (Pack.enc false a2)]]) [(.tmp 5),(.tmp 6)] [61,132] false [] [] (.cons (.same rfl) (.cons (.fb (.cons (.same rfl) (.nil))) (.nil))) (yT.ok a1 a2) h4 (.same rfl rfl)) zB) ?_
 exact zQ rfl
noncomputable def zQb:Code:=(Tryz.f151.body).getD .skip
theorem jM.ok (a1:Pack) (a2:(List Term)):Ok Tryz.prog 151 [.ag (Pack.enc false a1),sl 7 Term.enc a2] [] ((jM a1 a2).map fun r=>(bv r,[])):=by
 refine zG zQb Tryz.f151 0 9 (fun q=>?_)
 unfold jM
 refine J_d 2 [(0,0)] [0,2] [(2,pp 0)] [0] [(0,.box (Pack.enc false a1))] zB ?_
 refine zA (fun x3 h4=>?_)
 refine J_g 6 [] [(4,bv x3)] [] (zD 2 (zPA 153 [(.tmp 6)] [.ag (Pack.enc false a1)]) (zD 3 (vC («as»:=[sl 7 Term.enc a2,.fb 153 [.ag (Pack.enc false a1)]]) [(.tmp 5),(.tmp 7)] [61,132] false [] [] (.cons (.same rfl) (.cons (.fb (.cons (.same rfl) (.nil))) (.nil))) (yI.ok a2 a1) h4 (.same rfl rfl)) zB)) ?_
 exact zQ rfl
noncomputable def zQm:Code:=(Tryz.f150.body).getD .skip
theorem zDl.ok (a1:Int) (a2:(List Pack)) (a3:(List Term)):Ok Tryz.prog 150 [iv a1,pp 0,pp 1] [.box [sl 8 (Pack.enc false) a2],.box [sl 7 Term.enc a3]] ((zDl a1 a2 a3).map fun r=>(bv r,[.box [sl 8 (Pack.enc false) a2],.box [sl 7 Term.enc a3]])):=by
 refine zG zQm Tryz.f150 2 11 (fun q=>?_)
 unfold zDl
 refine J_d 2 [] [] [] [] [] zB ?_
 refine zA (fun x4 h5=>?_)
 refine zA (fun x6 h7=>?_)
 refine J_d 6 [] [0,1,2,4] [(4,bv x6)] [] [] (zD 2 (tT (kk:=.i64) 28 63 8 (Pack.enc false) (.tmp 5) (.tmp 6) h5) (zD 5 (vG [(.tmp 8),(.tmp 9)] [63,61] (jM.ok x4 a3) h7) zB)) ?_
 exact zQ rfl
theorem wI.ok (a1:(List Int)) (a2:(List Pack)) (a3:(List Term)) (q:Wd) (kn:Unit→Option (D×List Ent)) (hk:∀v:Unit,J (q.g Tryz.prog 165 2 19) zHg (atI zHg 7) (St.mk' [] [(0,.box [sl 8 (Pack.enc false) a2]),(1,.box [sl 7 Term.enc a3])]) (some v) kn):
  ∀s10:Int,J (q.g Tryz.prog 165 2 19) zHg (atI zHg 52) (St.mk' [(0,sl 1 zC a1),(1,.fn 150 [pp 0,pp 1]),(7,iv (a1.length:Int)),(8,iv s10)] [(0,.box [sl 8 (Pack.enc false) a2]),(1,.box [sl 7 Term.enc a3])]) (wI a1 a2 a3 s10) (Fl.go (fun r:Int=>some (iv r,[.box [sl 8 (Pack.enc false) a2],.box [sl 7 Term.enc a3]])) kn):=by
 refine tV (fun g ih s10=>?_)
 unfold wF
 refine J_d 104 [] [9] [(9,bv (decide (s10< (a1.length:Int))))] [] [] zB ?_
 refine zF 9 (fun h11=>?_) (fun h11=>?_)
 ·refine J_d 1688 [] [5,9] [(5,iv s10)] [] [] zB ?_
  refine zA (fun x12 h13=>?_)
  refine zA (fun x14 h15=>?_)
  refine J_d 3378 [] [16] [(16,bv x14)] [] [] (zD 3 (tT (kk:=.i64) 23 2 1 zC (.tmp 12) (.tmp 13) h13) (zD 5 (zEV [(0,.box [sl 8 (Pack.enc false) a2]),(1,.box [sl 7 Term.enc a3])] [] (zEB 11 [(.tmp 15)] [2] false [(0,.box [sl 8 (Pack.enc false) a2]),(1,.box [sl 7 Term.enc a3])] [0,1] [iv x12] [pp 0,pp 1] (.cons (.same rfl) (.cons (.pt rfl) (.cons (.pt rfl) (.nil)))) (zDl.ok x12 a2 a3) h15 (.same rfl rfl))) zB)) ?_
  refine zF 16 (fun h16=>?_) (fun h16=>?_)
  ·refine J_d 13516 [] [0,1,4,5,7,8,16] [(4,iv s10)] [] [] zB ?_
   exact zQ rfl
  ·refine J_d 423 [] [5,8,16] [(8,iv (w64 (s10+1)))] [] [] zB ?_
   exact J_q (J_b (ih (w64 (s10+1)))) rfl
 ·exact wD (hk ()) rfl
theorem xY.ok (a1:(List Int)) (a2:(List Pack)) (a3:(List Term)):Ok Tryz.prog 165 [sl 1 zC a1,.fn 150 [pp 0,pp 1]] [.box [sl 8 (Pack.enc false) a2],.box [sl 7 Term.enc a3]] ((xY a1 a2 a3).map fun r=>(iv r,[.box [sl 8 (Pack.enc false) a2],.box [sl 7 Term.enc a3]])):=by
 refine zG zHg Tryz.f165 2 19 (fun q=>?_)
 unfold xY
 refine J_g 2 [] [(0,sl 1 zC a1),(1,.fn 150 [pp 0,pp 1])] [(0,.box [sl 8 (Pack.enc false) a2]),(1,.box [sl 7 Term.enc a3])] zB ?_
 refine J_d 12 [] [7,8] [(7,iv (a1.length:Int)),(8,iv 0)] [] [] zB ?_
 refine uP (K0:=(fun r:Int=>some (iv r,[.box [sl 8 (Pack.enc false) a2],.box [sl 7 Term.enc a3]]))) (fun _=>rfl) (wI.ok a1 a2 a3 q _ (fun v17=>J_j ?_) 0)
 refine J_d 14 [] [4] [(4,iv (-1))] [] [] zB ?_
 exact zQ rfl
theorem yG.ok (a1:(List Int)) (a2:(List Pack)) (a3:(List Term)):Ok Tryz.prog 147 [sl 1 zC a1,.fn 150 [pp 0,pp 1]] [.box [sl 8 (Pack.enc false) a2],.box [sl 7 Term.enc a3]] ((yG a1 a2 a3).map fun r=>(bv r,[.box [sl 8 (Pack.enc false) a2],.box [sl 7 Term.enc a3]])):=by
 refine zG zPq Tryz.f147 2 9 (fun q=>?_)
 unfold yG
 refine J_d 2 [] [] [] [] [] zB ?_
 refine zA (fun x4 h5=>?_)
 refine J_d 6 [] [0,1,4] [(4,bv (decide (x4≥0)))] [] [] (zD 2 (zEV [(0,.box [sl 8 (Pack.enc false) a2]),(1,.box [sl 7 Term.enc a3])] [] (vC («as»:=[sl 1 zC a1,.fn 150 [pp 0,pp 1]]) [(.tmp 5),(.tmp 6)] [23,119] false [(0,.box [sl 8 (Pack.enc false) a2]),(1,.box [sl 7 Term.enc a3])] [0,1] (.cons (.same rfl) (.cons (.fn (.cons (.pt rfl) (.cons (.pt rfl) (.nil)))) (.nil))) (xY.ok a1 a2 a3) h5 (.same rfl rfl))) zB) ?_
 exact zQ rfl
noncomputable def c152:Code:=(Tryz.f152.body).getD .skip
theorem zDq.ok (a1:Int) (a2:Int) (a3:(List Pack)) (a4:Term):Ok Tryz.prog 152 [iv a1,pp 0,pp 1,pp 2] [.box [iv a2],.box [sl 8 (Pack.enc false) a3],.box (Term.enc a4)] ((zDq a1 a2 a3 a4).map fun r=>(bv r,[.box [iv a2],.box [sl 8 (Pack.enc false) a3],.box (Term.enc a4)])):=by
 refine zG c152 Tryz.f152 3 17 (fun q=>?_)
 unfold zDq
 refine J_d 2 [] [] [] [] [] zB ?_
 refine tJ (fun h5=>?_) (fun h5=>?_)
 ·refine zA (fun x6 h7=>?_)
  refine zA (fun x8 h9=>?_)
  refine J_d 6 [] [0,1,2,3,5] [(5,bv x8)] [] [] (uE 3 [(8,bv (a1 !=a2))] [] h5 (zCR 6 3 9 true (tT (kk:=.i64) 28 63 8 (Pack.enc false) (.tmp 10) (.tmp 11) h7) (zCR 9 3 9 true (vG [(.tmp 13),(.tmp 14)] [63,102] (jI.ok x6 a4) h9) zB))) ?_
  exact zQ rfl
 ·refine J_d 6 [] [0,1,2,3,5] [(5,bv false)] [] [] (uE 3 [(8,bv (a1 !=a2))] [] h5 zB) ?_
  exact zQ rfl
theorem wJ.ok (a1:(List Int)) (a2:Int) (a3:(List Pack)) (a4:Term) (q:Wd) (kn:Unit→Option (D×List Ent)) (hk:∀v:Unit,J (q.g Tryz.prog 165 3 19) zHg (atI zHg 7) (St.mk' [] [(0,.box [iv a2]),(1,.box [sl 8 (Pack.enc false) a3]),(2,.box (Term.enc a4))]) (some v) kn):
  ∀s11:Int,J (q.g Tryz.prog 165 3 19) zHg (atI zHg 52) (St.mk' [(0,sl 1 zC a1),(1,.fn 152 [pp 0,pp 1,pp 2]),(7,iv (a1.length:Int)),(8,iv s11)] [(0,.box [iv a2]),(1,.box [sl 8 (Pack.enc false) a3]),(2,.box (Term.enc a4))]) (wJ a1 a2 a3 a4 s11) (Fl.go (fun r:Int=>some (iv r,[.box [iv a2],.box [sl 8 (Pack.enc false) a3],.box (Term.enc a4)])) kn):=by
 refine tV (fun g ih s11=>?_)
 unfold wG
 refine J_d 104 [] [9] [(9,bv (decide (s11< (a1.length:Int))))] [] [] zB ?_
 refine zF 9 (fun h12=>?_) (fun h12=>?_)
 ·refine J_d 1688 [] [5,9] [(5,iv s11)] [] [] zB ?_
  refine zA (fun x13 h14=>?_)
  refine zA (fun x15 h16=>?_)
  refine J_d 3378 [] [16] [(16,bv x15)] [] [] (zD 3 (tT (kk:=.i64) 23 2 1 zC (.tmp 12) (.tmp 13) h14) (zD 5 (zEV [(0,.box [iv a2]),(1,.box [sl 8 (Pack.enc false) a3]),(2,.box (Term.enc a4))] [] (zEB 11 [(.tmp 15)] [2] false [(0,.box [iv a2]),(1,.box [sl 8 (Pack.enc false) a3]),(2,.box (Term.enc a4))] [0,1,2] [iv x13] [pp 0,pp 1,pp 2] (.cons (.same rfl) (.cons (.pt rfl) (.cons (.pt rfl) (.cons (.pt rfl) (.nil))))) (zDq.ok x13 a2 a3 a4) h16 (.same rfl rfl))) zB)) ?_
  refine zF 16 (fun h17=>?_) (fun h17=>?_)
  ·refine J_d 13516 [] [0,1,4,5,7,8,16] [(4,iv s11)] [] [] zB ?_
   exact zQ rfl
  ·refine J_d 423 [] [5,8,16] [(8,iv (w64 (s11+1)))] [] [] zB ?_
   exact J_q (J_b (ih (w64 (s11+1)))) rfl
 ·exact wD (hk ()) rfl
theorem xX.ok (a1:(List Int)) (a2:Int) (a3:(List Pack)) (a4:Term):Ok Tryz.prog 165 [sl 1 zC a1,.fn 152 [pp 0,pp 1,pp 2]] [.box [iv a2],.box [sl 8 (Pack.enc false) a3],.box (Term.enc a4)] ((xX a1 a2 a3 a4).map fun r=>(iv r,[.box [iv a2],.box [sl 8 (Pack.enc false) a3],.box (Term.enc a4)])):=by
 refine zG zHg Tryz.f165 3 19 (fun q=>?_)
 unfold xX
 refine J_g 2 [] [(0,sl 1 zC a1),(1,.fn 152 [pp 0,pp 1,pp 2])] [(0,.box [iv a2]),(1,.box [sl 8 (Pack.enc false) a3]),(2,.box (Term.enc a4))] zB ?_
 refine J_d 12 [] [7,8] [(7,iv (a1.length:Int)),(8,iv 0)] [] [] zB ?_
 refine uP (K0:=(fun r:Int=>some (iv r,[.box [iv a2],.box [sl 8 (Pack.enc false) a3],.box (Term.enc a4)]))) (fun _=>rfl) (wJ.ok a1 a2 a3 a4 q _ (fun v18=>J_j ?_) 0)
 refine J_d 14 [] [4] [(4,iv (-1))] [] [] zB ?_
 exact zQ rfl
theorem yH.ok (a1:(List Int)) (a2:Int) (a3:(List Pack)) (a4:Term):Ok Tryz.prog 147 [sl 1 zC a1,.fn 152 [pp 0,pp 1,pp 2]] [.box [iv a2],.box [sl 8 (Pack.enc false) a3],.box (Term.enc a4)] ((yH a1 a2 a3 a4).map fun r=>(bv r,[.box [iv a2],.box [sl 8 (Pack.enc false) a3],.box (Term.enc a4)])):=by
 refine zG zPq Tryz.f147 3 9 (fun q=>?_)
 unfold yH
 refine J_d 2 [] [] [] [] [] zB ?_
 refine zA (fun x5 h6=>?_)
 refine J_d 6 [] [0,1,4] [(4,bv (decide (x5≥0)))] [] [] (zD 2 (zEV [(0,.box [iv a2]),(1,.box [sl 8 (Pack.enc false) a3]),(2,.box (Term.enc a4))] [] (vC («as»:=[sl 1 zC a1,.fn 152 [pp 0,pp 1,pp 2]]) [(.tmp 5),(.tmp 6)] [23,119] false [(0,.box [iv a2]),(1,.box [sl 8 (Pack.enc false) a3]),(2,.box (Term.enc a4))] [0,1,2] (.cons (.same rfl) (.cons (.fn (.cons (.pt rfl) (.cons (.pt rfl) (.cons (.pt rfl) (.nil))))) (.nil))) (xX.ok a1 a2 a3 a4) h6 (.same rfl rfl))) zB) ?_
 exact zQ rfl
noncomputable def zJ9:Code:=(Tryz.f128.body).getD .skip
theorem zD5.ok (a1:(List Pack)) (a2:(List Int)) (s56:((List zR)×Int)) (x58:Int) (x60:Pack) (q:Wd) (kn:(List zR)→Option (D×List Ent)) (hk:∀v:(List zR),J (q.g Tryz.prog 128 0 77) zJ9 (aft zJ9 1868) (St.mk' [(1,sl 1 zC a2),(2,pp 0),(5,rr 5 v),(14,sl 1 zC a2),(15,iv (a2.length:Int)),(16,iv s56.2)] [(0,.box [sl 8 (Pack.enc false) a1]),(5,rE 3 zR.enc v)]) (some v) kn):
  ∀s99:((List zR)×Int),J (q.g Tryz.prog 128 0 77) zJ9 (atI zJ9 239228) (St.mk' [(1,sl 1 zC a2),(2,pp 0),(5,rr 5 s99.1),(7,pp 2),(14,sl 1 zC a2),(15,iv (a2.length:Int)),(16,iv s56.2),(58,sl 7 Term.enc x60.Bars),(59,iv (x60.Bars.length:Int)),(60,iv s99.2)] [(0,.box [sl 8 (Pack.enc false) a1]),(2,.box [iv x58]),(5,rE 3 zR.enc s99.1)]) (zD5 a1 a2 s56 x58 x60 s99) kn:=by
 refine tV (fun g ih s99=>?_)
 unfold zCS
 refine J_d 478456 [] [61] [(61,bv (decide (s99.2< (x60.Bars.length:Int))))] [] [] zB ?_
 refine zF 61 (fun h100=>?_) (fun h100=>?_)
 ·refine zA (fun x101 h102=>?_)
  refine J_d 7655320 [(3,6)] [11,12,61] [(11,iv s99.2),(12,pp 6)] [6] [(6,.box (Term.enc x101))] (zD 1 (tT (kk:=.i64) 61 102 7 Term.enc (.tmp 58) (.tmp 60) h102) zB) ?_
  refine zA (fun x103 h104=>?_)
  refine J_d 15310642 [] [12,67] [(67,bv x103)] [6] [] (zD 2 (zEV [(2,.box [iv x58]),(0,.box [sl 8 (Pack.enc false) a1]),(6,.box (Term.enc x101))] [] (vC («as»:=[sl 1 zC a2,.fn 152 [pp 2,pp 0,pp 6]]) [(.tmp 65),(.tmp 66)] [23,119] false [(2,.box [iv x58]),(0,.box [sl 8 (Pack.enc false) a1]),(6,.box (Term.enc x101))] [2,0,6] (.cons (.same rfl) (.cons (.fn (.cons (.pt rfl) (.cons (.pt rfl) (.cons (.pt rfl) (.nil))))) (.nil))) (yH.ok a2 x58 a1 x101) h104 (.same rfl rfl))) zB) ?_
  refine vW (aft zJ9 3827660) (fun v108:(List zR)=>St.mk' [(1,sl 1 zC a2),(2,pp 0),(5,rr 7 v108),(7,pp 2),(14,sl 1 zC a2),(15,iv (a2.length:Int)),(16,iv s56.2),(58,sl 7 Term.enc x60.Bars),(59,iv (x60.Bars.length:Int)),(60,iv s99.2)] [(0,.box [sl 8 (Pack.enc false) a1]),(2,.box [iv x58]),(7,rE 3 zR.enc v108)]) (fun v108=>?_) (fun jv108=>?_)
  ·refine J_d 1913831 [] [60] [(60,iv (w64 (s99.2+1)))] [] [] zB ?_
   refine jR 7 5 (Nat.le_of_ble_eq_true rfl) (Nat.le_of_ble_eq_true rfl) ?_
   exact J_q (J_b (ih (v108,w64 (s99.2+1)))) rfl
  ·refine zF 67 (fun h105=>?_) (fun h105=>?_)
   ·refine zA (fun x106 h107=>?_)
    refine J_d 30621286 [] [5,11,67] [(5,rr 7 x106)] [5,7] [(7,rE 3 zR.enc x106)] (zD 4 (zEa 107 142 3 6 zR.enc [({Kind:=3,Pack:=x58,At:=s99.2}:zR)] [0] [(.tmp 71)] [.ag [iv 3,iv x58,iv s99.2]]) (zD 5 (zGv 107 107 142 142 3 24 7 5 6 zR.enc (.tmp 68) (.tmp 72) h107) zB)) ?_
    exact wD (J_j (jv108 x106)) rfl
   ·refine jR 5 7 (Nat.le_of_ble_eq_true rfl) (Nat.le_of_ble_eq_true rfl) ?_
    exact wD (J_j (jv108 s99.1)) rfl
 ·exact wD (hk s99.1) rfl
theorem zD7.ok (a1:(List Pack)) (a2:(List Int)) (s56:((List zR)×Int)) (x58:Int) (x60:Pack) (q:Wd) (kn:(List zR)→Option (D×List Ent)) (hk:∀v:(List zR),J (q.g Tryz.prog 128 0 77) zJ9 (atI zJ9 29903) (St.mk' [(1,sl 1 zC a2),(2,pp 0),(5,rr 5 v),(7,pp 2),(8,pp 3),(14,sl 1 zC a2),(15,iv (a2.length:Int)),(16,iv s56.2)] [(0,.box [sl 8 (Pack.enc false) a1]),(2,.box [iv x58]),(3,.box (Pack.enc false x60)),(5,rE 3 zR.enc v)]) (some v) kn):
  ∀s79:((List zR)×Int),J (q.g Tryz.prog 128 0 77) zJ9 (atI zJ9 239220) (St.mk' [(1,sl 1 zC a2),(2,pp 0),(5,rr 5 s79.1),(7,pp 2),(8,pp 3),(14,sl 1 zC a2),(15,iv (a2.length:Int)),(16,iv s56.2),(39,sl 1 (eSl false 7 Term.enc) x60.Needs),(40,iv (x60.Needs.length:Int)),(41,iv s79.2)] [(0,.box [sl 8 (Pack.enc false) a1]),(2,.box [iv x58]),(3,.box (Pack.enc false x60)),(5,rE 3 zR.enc s79.1)]) (zD7 a1 a2 s56 x58 x60 s79) kn:=by
 refine tV (fun g ih s79=>?_)
 unfold zDh
 refine J_d 478440 [] [42] [(42,bv (decide (s79.2< (x60.Needs.length:Int))))] [] [] zB ?_
 refine zF 42 (fun h80=>?_) (fun h80=>?_)
 ·refine zA (fun x81 h82=>?_)
  refine J_d 7655064 [(3,6)] [9,10,42] [(9,iv s79.2),(10,pp 6)] [6] [(6,.box [sl 7 Term.enc x81])] (zD 1 (tT (kk:=.i64) 60 61 1 (eSl false 7 Term.enc) (.tmp 39) (.tmp 41) h82) zB) ?_
  refine zA (fun x83 h84=>?_)
  refine J_d 15310130 [] [10,49] [(49,bv (!x83))] [6] [] (zD 2 (zEV [(0,.box [sl 8 (Pack.enc false) a1]),(6,.box [sl 7 Term.enc x81])] [] (vC («as»:=[sl 1 zC a2,.fn 150 [pp 0,pp 6]]) [(.tmp 46),(.tmp 47)] [23,119] false [(0,.box [sl 8 (Pack.enc false) a1]),(6,.box [sl 7 Term.enc x81])] [0,6] (.cons (.same rfl) (.cons (.fn (.cons (.pt rfl) (.cons (.pt rfl) (.nil)))) (.nil))) (yG.ok a2 a1 x81) h84 (.same rfl rfl))) zB) ?_
  refine vW (aft zJ9 3827532) (fun v88:(List zR)=>St.mk' [(1,sl 1 zC a2),(2,pp 0),(5,rr 7 v88),(7,pp 2),(8,pp 3),(14,sl 1 zC a2),(15,iv (a2.length:Int)),(16,iv s56.2),(39,sl 1 (eSl false 7 Term.enc) x60.Needs),(40,iv (x60.Needs.length:Int)),(41,iv s79.2)] [(0,.box [sl 8 (Pack.enc false) a1]),(2,.box [iv x58]),(3,.box (Pack.enc false x60)),(7,rE 3 zR.enc v88)]) (fun v88=>?_) (fun jv88=>?_)
  ·refine J_d 1913767 [] [41] [(41,iv (w64 (s79.2+1)))] [] [] zB ?_
   refine jR 7 5 (Nat.le_of_ble_eq_true rfl) (Nat.le_of_ble_eq_true rfl) ?_
   exact J_q (J_b (ih (v88,w64 (s79.2+1)))) rfl
  ·refine zF 49 (fun h85=>?_) (fun h85=>?_)
   ·refine zA (fun x86 h87=>?_)
    refine J_d 30620262 [] [5,9,49] [(5,rr 7 x86)] [5,7] [(7,rE 3 zR.enc x86)] (zD 4 (zEa 107 142 3 6 zR.enc [({Kind:=2,Pack:=x58,At:=s79.2}:zR)] [0] [(.tmp 53)] [.ag [iv 2,iv x58,iv s79.2]]) (zD 5 (zGv 107 107 142 142 3 24 7 5 6 zR.enc (.tmp 50) (.tmp 54) h87) zB)) ?_
    exact wD (J_j (jv88 x86)) rfl
   ·refine jR 5 7 (Nat.le_of_ble_eq_true rfl) (Nat.le_of_ble_eq_true rfl) ?_
    exact wD (J_j (jv88 s79.1)) rfl
 ·exact wD (hk s79.1) rfl
theorem zDA.ok (a1:(List Pack)) (a2:(List Int)) (q:Wd) (kn:(List zR)→Option (D×List Ent)) (hk:∀v:(List zR),J (q.g Tryz.prog 128 0 77) zJ9 (atI zJ9 15) (St.mk' [(5,rr 1 v)] [(1,rE 3 zR.enc v)]) (some v) kn):
  ∀s56:((List zR)×Int),J (q.g Tryz.prog 128 0 77) zJ9 (atI zJ9 116) (St.mk' [(1,sl 1 zC a2),(2,pp 0),(5,rr 1 s56.1),(14,sl 1 zC a2),(15,iv (a2.length:Int)),(16,iv s56.2)] [(0,.box [sl 8 (Pack.enc false) a1]),(1,rE 3 zR.enc s56.1)]) (zDA a1 a2 s56) kn:=by
 refine tV (fun g ih s56=>?_)
 unfold zDe
 refine J_d 232 [] [17] [(17,bv (decide (s56.2< (a2.length:Int))))] [] [] zB ?_
 refine zF 17 (fun h57=>?_) (fun h57=>?_)
 ·refine zA (fun x58 h59=>?_)
  refine J_d 3736 [(3,2)] [6,7,17] [(6,iv s56.2),(7,pp 2)] [2] [(2,.box [iv x58])] (zD 1 (tT (kk:=.i64) 23 2 1 zC (.tmp 14) (.tmp 16) h59) zB) ?_
  refine zA (fun x60 h61=>?_)
  refine J_d 7474 [(4,3)] [8] [(8,pp 3)] [3] [(3,.box (Pack.enc false x60))] (zD 2 (tT (kk:=.i64) 28 63 8 (Pack.enc false) (.tmp 21) (.tmp 22) h61) zB) ?_
  refine zA (fun x62 h63=>?_)
  refine zA (fun x64 h65=>?_)
  refine J_d 29900 [] [6,32] [(32,bv (decide (x64≥0)))] [] [] (zD 3 (zOv 23 2 1 zC (.tmp 26) none (some (.tmp 27)) h63) (zD 6 (vG [(.tmp 25),(.tmp 28),(.tmp 30)] [28,23,9] (tK.ok a1 x62 x60.Name) h65) zB)) ?_
  refine vW (atI zJ9 14951) (fun v69:(List zR)=>St.mk' [(1,sl 1 zC a2),(2,pp 0),(5,rr 5 v69),(7,pp 2),(8,pp 3),(14,sl 1 zC a2),(15,iv (a2.length:Int)),(16,iv s56.2)] [(0,.box [sl 8 (Pack.enc false) a1]),(2,.box [iv x58]),(3,.box (Pack.enc false x60)),(5,rE 3 zR.enc v69)]) (fun v69=>?_) (fun jv69=>?_)
  ·refine J_d 59804 [] [39,40,41] [(39,sl 1 (eSl false 7 Term.enc) x60.Needs),(40,iv (x60.Needs.length:Int)),(41,iv 0)] [] [] zB ?_
   refine zE2 (zD7.ok a1 a2 s56 x58 x60 q _ (fun v89=>J_j ?_) (v69,0))
   refine J_d 59806 [] [8,58,59,60] [(58,sl 7 Term.enc x60.Bars),(59,iv (x60.Bars.length:Int)),(60,iv 0)] [3] [] zB ?_
   refine zE2 (zD5.ok a1 a2 s56 x58 x60 q _ (fun v109=>J_j ?_) (v89,0))
   refine J_d 935 [] [16] [(16,iv (w64 (s56.2+1)))] [] [] zB ?_
   refine jR 5 1 (Nat.le_of_ble_eq_true rfl) (Nat.le_of_ble_eq_true rfl) ?_
   exact J_q (J_b (ih (v109,w64 (s56.2+1)))) rfl
  ·refine zF 32 (fun h66=>?_) (fun h66=>?_)
   ·refine zA (fun x67 h68=>?_)
    refine J_d 59802 [] [5,32] [(5,rr 5 x67)] [1,5] [(5,rE 3 zR.enc x67)] (zD 3 (zEa 107 142 3 4 zR.enc [({Kind:=1,Pack:=x58,At:=0}:zR)] [0] [(.tmp 35)] [.ag [iv 1,iv x58,iv 0]]) (zD 4 (zGv 107 107 142 142 3 24 5 1 4 zR.enc (.tmp 33) (.tmp 36) h68) zB)) ?_
    exact wD (J_j (jv69 x67)) rfl
   ·refine jR 1 5 (Nat.le_of_ble_eq_true rfl) (Nat.le_of_ble_eq_true rfl) ?_
    exact wD (J_j (jv69 s56.1)) rfl
 ·exact wD (hk s56.1) rfl
theorem zDO.ok (a1:(List Pack)) (a2:(List Int)):Ok Tryz.prog 128 [sl 8 (Pack.enc false) a1,sl 1 zC a2] [] ((zDO a1 a2).map fun r=>(so 3 zR.enc r,[])):=by
 refine zG zJ9 Tryz.f128 0 77 (fun q=>?_)
 unfold zDO
 refine J_g 2 [(0,0)] [(1,sl 1 zC a2),(2,pp 0)] [(0,.box [sl 8 (Pack.enc false) a1])] zB ?_
 refine J_g 6 [] [(1,sl 1 zC a2),(2,pp 0),(5,rr 1 ([]:List zR))] [(0,.box [sl 8 (Pack.enc false) a1]),(1,rE 3 zR.enc ([]:List zR))] (zD 0 (zEa 107 142 3 1 zR.enc ([]:List zR) [] [] []) zB) ?_
 refine J_d 28 [] [14,15,16] [(14,sl 1 zC a2),(15,iv (a2.length:Int)),(16,iv 0)] [] [] zB ?_
 refine zE2 (zDA.ok a1 a2 q _ (fun v110=>J_j ?_) (([]:List zR),0))
 refine J_g 30 [] [(4,rr 1 v110)] [(1,rE 3 zR.enc v110)] zB ?_
 exact zEl (ds:=[rr 1 v110]) (ds':=[so 3 zR.enc v110]) (.cons (.cell (.move (.head _) (List.length_map _) (by decide) (.nil))) (.nil) (by decide)) rfl
noncomputable def c86:Code:=(Tryz.f86.body).getD .skip
theorem wX.ok (a1:(List Pack)) (a2:(List Int)):Ok Tryz.prog 86 [sl 8 (Pack.enc false) a1,sl 1 zC a2] [] ((wX a1 a2).map fun r=>(bv r,[])):=by
 refine zG c86 Tryz.f86 0 10 (fun q=>?_)
 unfold wX
 refine J_d 2 [] [] [] [] [] zB ?_
 refine zA (fun x3 h4=>?_)
 refine J_g 6 [] [(4,bv ((x3.length:Int)==0))] [] (zD 2 (vC («as»:=[sl 8 (Pack.enc false) a1,sl 1 zC a2]) [(.tmp 5),(.tmp 6)] [28,23] false [] [] (.cons (.same rfl) (.cons (.same rfl) (.nil))) (zDO.ok a1 a2) h4 (.own 0)) zB) ?_
 exact zQ rfl
noncomputable def c57:Code:=(Tryz.f57.body).getD .skip
theorem zBS.ok (a1:(List Pack)) (a2:(List Int)) (a3:(List Int)):Ok Tryz.prog 57 [sl 8 (Pack.enc false) a1,sl 1 zC a2,sl 1 zC a3] [] ((zBS a1 a2 a3).map fun r=>(iv r,[])):=by
 refine zG c57 Tryz.f57 0 31 (fun q=>?_)
 unfold zBS
 refine J_d 2 [] [] [] [] [] zB ?_
 refine zA (fun x4 h5=>?_)
 refine zA (fun x6 h7=>?_)
 refine zA (fun x8 h9=>?_)
 refine J_d 6 [] [7] [(7,iv x8)] [] [] (zD 2 (vG [(.tmp 8),(.tmp 9)] [28,23] (zAb.ok a1 a2) h5) (zD 5 (vG [(.tmp 11),(.tmp 12)] [28,23] (zAb.ok a1 a3) h7) (zD 6 (zEa 23 2 1 0 zC [x4,x6] [0,1] [(.tmp 10),(.tmp 13)] [iv x4,iv x6]) (zD 7 (vC («as»:=[rr 0 [x4,x6]]) [(.tmp 14)] [23] true [(0,rE 1 zC [x4,x6])] [] (.cons (zBr (.head _) (fun _=>rfl) rfl) (.nil)) (uU.ok [x4,x6]) h9 (.same rfl rfl) (hbor:=fun _=>⟨fhN,yL⟩)) zB)))) ?_
 refine vW (atI c57 29) (fun v16:Bool=>St.mk' [(7,iv x8),(29,bv v16)] []) (fun v16=>?_) (fun jv16=>?_)
 ·refine vW (atI c57 15) (fun v18:Int=>St.mk' [(7,iv v18)] []) (fun v18=>?_) (fun jv18=>?_)
  ·refine J_g 30 [] [(6,iv v18)] [] zB ?_
   exact zQ rfl
  ·refine zF 29 (fun h17=>?_) (fun h17=>?_)
   ·refine J_g 58 [] [(7,iv 1)] [] zB ?_
    exact wD (J_j (jv18 1)) rfl
   ·exact wD (J_j (jv18 x8)) rfl
 ·refine tJ (fun h10=>?_) (fun h10=>?_)
  ·refine zA (fun x11 h12=>?_)
   refine tJ (fun h13=>?_) (fun h13=>?_)
   ·refine J_g 28 [] [(7,iv x8),(29,bv true)] [] (uE 2 [(17,bv (x8==0))] [] h10 (zCR 5 2 18 true (vG [(.tmp 19),(.tmp 20)] [28,23] (wX.ok a1 a2) h12) (zG6 7 2 18 true [(22,bv (!x11))] [] h13 zB))) ?_
    exact wD (J_j (jv16 true)) rfl
   ·refine zA (fun x14 h15=>?_)
    refine J_g 28 [] [(7,iv x8),(29,bv (!x14))] [] (uE 2 [(17,bv (x8==0))] [] h10 (zCR 5 2 18 true (vG [(.tmp 19),(.tmp 20)] [28,23] (wX.ok a1 a2) h12) (zG6 7 2 18 true [(22,bv (!x11))] [] h13 (zCR 10 7 23 false (vG [(.tmp 24),(.tmp 25)] [28,23] (wX.ok a1 a3) h15) zB)))) ?_
    exact wD (J_j (jv16 (!x14))) rfl
  ·refine J_g 28 [] [(7,iv x8),(29,bv false)] [] (uE 2 [(17,bv (x8==0))] [] h10 (zHs 7 (zHu (i:=7) (g:=2) (t:=18) (b:=true) (v:=(.bool false)) (.inl rfl) (by kernel_rfl) (by kernel_rfl)) (zHs 8 (zHu (i:=8) (g:=7) (t:=23) (b:=false) (v:=undef) (.inr rfl) (by kernel_rfl) (by kernel_rfl)) (zHs 9 (zHu (i:=9) (g:=7) (t:=23) (b:=false) (v:=undef) (.inr rfl) (by kernel_rfl) (by kernel_rfl)) (zHs 10 (zHu (i:=10) (g:=7) (t:=23) (b:=false) (v:=undef) (.inr rfl) (by kernel_rfl) (by kernel_rfl)) (zHs 11 (zHu (i:=11) (g:=7) (t:=23) (b:=false) (v:=undef) (.inr rfl) (by kernel_rfl) (by kernel_rfl)) zB)))))) ?_
   exact wD (J_j (jv16 false)) rfl
theorem zGf (k:Nat) (w:World) (hk:0<k) (h1:k*8≤140737488355328) (h2:k≤4611686018427387904):Calls Tryz.prog 135 #[.slice none 0 0,.int .i64 (k:Int)] w fun e w'=>∃G,k≤G∧e= .returned (.slice (some ⟨w.heap.size,0,none⟩) 0 G)∧w'=w.drew.alloc (.cells (Builtin.zeroCells (.int .i64 0:Value).cells k++Builtin.zeroCells (.int .i64 0:Value).cells (G-k)) 2):=by
 have hinfo:(Tryz.prog.info? 2).map (fun i=>(i.zero,i.size,i.bytes))=some (some (.int .i64 0:Value),1,8):=by kernel_rfl
 obtain ⟨i0,hi0,hq⟩:=Option.map_eq_some_iff.1 hinfo
 simp only [Prod.mk.injEq] at hq
 obtain ⟨hz0,hs,hb⟩:=hq
 have h:=Any8.slices_Grow_grow Tryz.grow135 i0 (.int .i64 0:Value) hi0 hz0 (by omega) none 0 0 k [] w (Nat.le_refl _) (by omega) (by rw [hb]; omega) (by omega) (by simp) (fun _=>rfl) (fun a h=>by cases h)
 refine Calls.mono h ?_
 rintro e w' ⟨he,hw⟩
 refine ⟨_,?_,he,?_⟩
 ·exact Nat.le_trans (Nat.le_of_eq (Nat.zero_add k).symm) (grownCap_ge w (0+k) 0 2)
 ·rw [hw]
  simp
  rfl
theorem zAx.ok (a1:Int):Ok Tryz.prog 135 [nv,iv a1] [] ((zAx a1).map fun r=>(so 1 zC r,[])):=by
 unfold zAx
 split
 ·rename_i h
  obtain ⟨h0,h1,h2⟩:=h
  obtain ⟨k,rfl⟩:=Int.eq_ofNat_of_zero_le h0
  exact zKL (el:=2) (z:=1) (zv:=.int .i64 0) h0 rfl (fun hn w=>by
   have h:=Any8.slices_Grow_room Tryz.grow135 none 0 0 k w (Nat.le_refl _) (by omega) (by omega) (by omega)
   exact h) (fun hp w=>zGf k w (by omega) (by omega) (by omega))
 ·exact fun _ h=>by cases h
noncomputable def c99:Code:=(Tryz.f99.body).getD .skip
theorem tX.ok (a1:(List (List Int))) (q:Wd) (kn:(List Int)→Option (D×List Ent)) (hk:∀v:(List Int),J (q.g Tryz.prog 99 0 36) c99 (atI c99 63) (St.mk' [(6,rr 0 v)] [(0,rE 1 zC v)]) (some v) kn):
  ∀s19:((List Int)×Int),J (q.g Tryz.prog 99 0 36) c99 (atI c99 500) (St.mk' [(6,rr 0 s19.1),(25,sl 1 (eSl false 1 zC) a1),(26,iv (a1.length:Int)),(27,iv s19.2)] [(0,rE 1 zC s19.1)]) (tX a1 s19) kn:=by
 refine tV (fun g ih s19=>?_)
 unfold wZ
 refine J_d 1000 [] [28] [(28,bv (decide (s19.2< (a1.length:Int))))] [] [] zB ?_
 refine zF 28 (fun h20=>?_) (fun h20=>?_)
 ·refine zA (fun x21 h22=>?_)
  refine J_d 16024 [] [8,28] [(8,sl 1 zC x21)] [] [] (zD 0 (tT (kk:=.i64) 43 23 1 (eSl false 1 zC) (.tmp 25) (.tmp 27) h22) zB) ?_
  refine zA (fun x23 h24=>?_)
  refine J_g 16025 [] [(6,rr 1 x23),(25,sl 1 (eSl false 1 zC) a1),(26,iv (a1.length:Int)),(27,iv s19.2)] [(1,rE 1 zC x23)] (zD 2 (zJa 23 23 2 2 1 8 1 0 zC (.tmp 31) (.tmp 32) h24) zB) ?_
  refine J_d 4007 [] [27] [(27,iv (w64 (s19.2+1)))] [] [] zB ?_
  refine jR 1 0 (Nat.le_of_ble_eq_true rfl) (Nat.le_of_ble_eq_true rfl) ?_
  exact J_q (J_b (ih (x23,w64 (s19.2+1)))) rfl
 ·exact wD (hk s19.1) rfl
theorem tZ.ok (a1:(List (List Int))) (q:Wd) (kn:Int→Option (D×List Ent)) (hk:∀v:Int,J (q.g Tryz.prog 99 0 36) c99 (atI c99 15) (St.mk' [(0,sl 1 (eSl false 1 zC) a1),(3,iv v)] []) (some v) kn):
  ∀s6:(Int×Int),J (q.g Tryz.prog 99 0 36) c99 (atI c99 116) (St.mk' [(0,sl 1 (eSl false 1 zC) a1),(3,iv s6.1),(9,sl 1 (eSl false 1 zC) a1),(10,iv (a1.length:Int)),(11,iv s6.2)] []) (tZ a1 s6) kn:=by
 refine tV (fun g ih s6=>?_)
 unfold wM
 refine J_d 232 [] [12] [(12,bv (decide (s6.2< (a1.length:Int))))] [] [] zB ?_
 refine zF 12 (fun h7=>?_) (fun h7=>?_)
 ·refine zA (fun x8 h9=>?_)
  refine J_g 3736 [] [(0,sl 1 (eSl false 1 zC) a1),(3,iv s6.1),(5,sl 1 zC x8),(9,sl 1 (eSl false 1 zC) a1),(10,iv (a1.length:Int)),(11,iv s6.2)] [] (zD 0 (tT (kk:=.i64) 43 23 1 (eSl false 1 zC) (.tmp 9) (.tmp 11) h9) zB) ?_
  refine J_g 7474 [] [(0,sl 1 (eSl false 1 zC) a1),(3,iv (w64 (s6.1+(x8.length:Int)))),(9,sl 1 (eSl false 1 zC) a1),(10,iv (a1.length:Int)),(11,iv s6.2)] [] zB ?_
  refine J_d 14950 [] [20] [(20,bv (decide ((w64 (s6.1+(x8.length:Int)))<0)))] [] [] zB ?_
  refine zF 20 (fun h10=>?_) (fun h10=>?_)
  ·exact zKT
  ·refine J_d 935 [] [11,20] [(11,iv (w64 (s6.2+1)))] [] [] zB ?_
   exact J_q (J_b (ih (w64 (s6.1+(x8.length:Int)),w64 (s6.2+1)))) rfl
 ·exact wD (hk s6.1) rfl
theorem vE.ok (a1:(List (List Int))):Ok Tryz.prog 99 [sl 1 (eSl false 1 zC) a1] [] ((vE a1).map fun r=>(so 1 zC r,[])):=by
 refine zG c99 Tryz.f99 0 36 (fun q=>?_)
 unfold vE
 refine J_g 2 [] [(0,sl 1 (eSl false 1 zC) a1)] [] zB ?_
 refine J_g 6 [] [(0,sl 1 (eSl false 1 zC) a1),(3,iv 0)] [] zB ?_
 refine J_d 28 [] [9,10,11] [(9,sl 1 (eSl false 1 zC) a1),(10,iv (a1.length:Int)),(11,iv 0)] [] [] zB ?_
 refine zE2 (tZ.ok a1 q _ (fun v11=>J_j ?_) (0,0))
 refine zA (fun x12 h13=>?_)
 refine J_g 30 [] [(0,sl 1 (eSl false 1 zC) a1),(6,rr 0 x12)] [(0,rE 1 zC x12)] (zD 1 (vC («as»:=[nv,iv v11]) [(.const (.slice none 0 0)),(.tmp 23)] [23,3] false [] [] (.cons (.same rfl) (.cons (.same rfl) (.nil))) (zAx.ok v11) h13 (.own 0)) zB) ?_
 refine J_d 124 [] [0,25,26,27] [(25,sl 1 (eSl false 1 zC) a1),(26,iv (a1.length:Int)),(27,iv 0)] [] [] zB ?_
 refine zE2 (tX.ok a1 q _ (fun v25=>J_j ?_) (x12,0))
 refine J_g 126 [] [(2,rr 0 v25)] [(0,rE 1 zC v25)] zB ?_
 exact zEl (ds:=[rr 0 v25]) (ds':=[so 1 zC v25]) (.cons (.cell (.move (.head _) (List.length_map _) (by decide) (.nil))) (.nil) (by decide)) rfl
theorem uM.ok (a1:List ByteArray):Ok Tryz.prog 112 [rr 0 a1] [rE 1 eStr a1] ((uM a1).map fun r=>(.tu [],[rE 1 eStr r])):=by
 unfold uM
 split
 ·refine zMT (fun blk off cap w hH hb=>?_) (fun p cap w=>Tryz.slices_Sort_string_none p cap w)
  have k:=Tryz.slices_Sort_string blk off cap (a1.map (·.data.toList)) w hH hb (by rw [List.length_map]; omega)
  rw [List.length_map] at k
  exact k
 ·exact fun _ h=>by cases h
end Go.Told

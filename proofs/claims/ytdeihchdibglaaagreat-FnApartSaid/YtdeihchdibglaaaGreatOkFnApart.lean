import Derived.Test.YtdeihchdibglaaaGreatOkFnApartx2
set_option linter.unusedVariables false
set_option maxRecDepth 4000
namespace Go.Told
open Go Go.Im Go.Proofs
noncomputable def c4:Code:=(Tryz.f4.body).getD .skip
theorem zCG.ok (x5:((List Pack)×(List Int)×(List Int))) (x7:xX) (s90:Int) (q:Wd) (kn:(List ByteArray)→Option (D×List Ent)) (hk:∀v:(List ByteArray),J (q.g Tryz.prog 4 0 83) c4 (atI c4 32403) (St.mk' [(3,rr 0 x5.1),(4,sl 1 zC x5.2.1),(5,rr 1 x5.2.2),(6,pp 3),(7,iv s90),(8,rr 4 v)] [(0,rE 8 (Pack.enc false) x5.1),(1,rE 1 zC x5.2.2),(2,rE 1 (eSl false 1 eStr) x7.Parts),(3,.box [iv x7.Code,rr 2 x7.Parts]),(4,rE 1 eStr v)]) (some v) kn):
  ∀s103:((List ByteArray)×Int),J (q.g Tryz.prog 4 0 83) c4 (atI c4 259220) (St.mk' [(3,rr 0 x5.1),(4,sl 1 zC x5.2.1),(5,rr 1 x5.2.2),(6,pp 3),(7,iv s90),(8,rr 4 s103.1),(9,iv s103.2)] [(0,rE 8 (Pack.enc false) x5.1),(1,rE 1 zC x5.2.2),(2,rE 1 (eSl false 1 eStr) x7.Parts),(3,.box [iv x7.Code,rr 2 x7.Parts]),(4,rE 1 eStr s103.1)]) (zCG x5 x7 s90 s103) kn:=by
 refine kT (fun g ih s103=>?_)
 unfold zBL
 refine wC (atI c4 1036881) (fun v105:Bool=>St.mk' [(3,rr 0 x5.1),(4,sl 1 zC x5.2.1),(5,rr 1 x5.2.2),(6,pp 3),(7,iv s90),(8,rr 4 s103.1),(9,iv s103.2),(58,bv v105)] [(0,rE 8 (Pack.enc false) x5.1),(1,rE 1 zC x5.2.2),(2,rE 1 (eSl false 1 eStr) x7.Parts),(3,.box [iv x7.Code,rr 2 x7.Parts]),(4,rE 1 eStr s103.1)]) (fun v105=>?_) (fun jv105=>?_)
 ·refine zG 58 (fun h106=>?_) (fun h106=>?_)
  ·refine zA (fun x107 h108=>?_)
   refine J_d 4147528 [] [58,66] [(66,bv ((zM0 .i64 x107 1)==1))] [] [] (zF 3 (zNp (k2:=.u64) 3 39 (.tmp 61) (.tmp 63) h108) (zF 4 (zNx (k:=.i64) (a:=x107) (b:=1) 3 3 (.tmp 64) (.const (.int .i64 1))) zB)) ?_
   refine wC (aft c4 2073764) (fun v114:(List ByteArray)=>St.mk' [(3,rr 0 x5.1),(4,sl 1 zC x5.2.1),(5,rr 1 x5.2.2),(6,pp 3),(7,iv s90),(8,rr 5 v114),(9,iv s103.2)] [(0,rE 8 (Pack.enc false) x5.1),(1,rE 1 zC x5.2.2),(2,rE 1 (eSl false 1 eStr) x7.Parts),(3,.box [iv x7.Code,rr 2 x7.Parts]),(5,rE 1 eStr v114)]) (fun v114=>?_) (fun jv114=>?_)
   ·refine J_d 1036883 [] [9] [(9,iv (w64 (s103.2+1)))] [] [] zB ?_
    refine vJ 5 4 (Nat.le_of_ble_eq_true rfl) (Nat.le_of_ble_eq_true rfl) ?_
    exact J_q (J_b (ih (v114,w64 (s103.2+1)))) rfl
   ·refine zG 66 (fun h109=>?_) (fun h109=>?_)
    ·refine zA (fun x110 h111=>?_)
     refine zA (fun x112 h113=>?_)
     refine J_d 8295058 [] [8,66] [(8,rr 5 x112)] [4,5] [(5,rE 1 eStr x112)] (zF 4 (zAf (kk:=.i64) 28 32 1 2 (eSl false 1 eStr) (.tmp 69) (.tmp 70) h111) (zF 5 (zAi (d:=sl 1 eStr x110) 32 1 2 0 (eSl false 1 eStr) (.tmp 71) h111 (by kernel_rfl)) (zF 6 (zHB 32 32 9 9 1 16 5 4 eStr (.tmp 67) (.tmp 72) h113) zB))) ?_
     exact yO (J_j (jv114 x112)) rfl
    ·refine vJ 4 5 (Nat.le_of_ble_eq_true rfl) (Nat.le_of_ble_eq_true rfl) ?_
     exact yO (J_j (jv114 s103.1)) rfl
  ·exact yO (hk s103.1) rfl
 ·refine vV (fun h104=>?_) (fun h104=>?_)
  ·refine J_d 1036880 [] [58] [(58,bv (decide (s103.2<3)))] [] [] (vD 5 [(54,bv (decide (s103.2< (x7.Parts.length:Int))))] [] h104 zB) ?_
   exact yO (J_j (jv105 (decide (s103.2<3)))) rfl
  ·refine J_d 1036880 [] [58] [(58,bv false)] [] [] (vD 5 [(54,bv (decide (s103.2< (x7.Parts.length:Int))))] [] h104 zB) ?_
   exact yO (J_j (jv105 false)) rfl
theorem zBv.ok (x5:((List Pack)×(List Int)×(List Int))) (x7:xX) (q:Wd) (kn:Unit→Option (D×List Ent)) (hk:∀v:Unit,J (q.g Tryz.prog 4 0 83) c4 (atI c4 127) (St.mk' [] []) (some v) kn):
  ∀s90:Int,J (q.g Tryz.prog 4 0 83) c4 (atI c4 1012) (St.mk' [(3,rr 0 x5.1),(4,sl 1 zC x5.2.1),(5,rr 1 x5.2.2),(6,pp 3),(7,iv s90)] [(0,rE 8 (Pack.enc false) x5.1),(1,rE 1 zC x5.2.2),(2,rE 1 (eSl false 1 eStr) x7.Parts),(3,.box [iv x7.Code,rr 2 x7.Parts])]) (zBv x5 x7 s90) (Fl.go (fun r:Bool=>some (bv r,[])) kn):=by
 refine kT (fun g ih s90=>?_)
 unfold zDl
 refine J_d 4048 [] [46] [(46,bv (decide (s90<8)))] [] [] zB ?_
 refine zG 46 (fun h91=>?_) (fun h91=>?_)
 ·refine J_g 16200 [] [(3,rr 0 x5.1),(4,sl 1 zC x5.2.1),(5,rr 1 x5.2.2),(6,pp 3),(7,iv s90),(8,rr 4 ([]:List ByteArray))] [(0,rE 8 (Pack.enc false) x5.1),(1,rE 1 zC x5.2.2),(2,rE 1 (eSl false 1 eStr) x7.Parts),(3,.box [iv x7.Code,rr 2 x7.Parts]),(4,rE 1 eStr ([]:List ByteArray))] (zF 0 (zA2 32 9 1 4 eStr ([]:List ByteArray) [] [] []) zB) ?_
  refine J_d 64804 [] [9] [(9,iv 0)] [] [] zB ?_
  refine zEa (zCG.ok x5 x7 s90 q _ (fun v115=>J_j ?_) (([]:List ByteArray),0))
  refine zA (fun x116 h117=>?_)
  refine zA (fun x118 h119=>?_)
  refine J_d 64806 [] [8,82] [(82,bv (!x118))] [4] [] (zF 5 (wQ («as»:=[rr 0 x5.1,sl 1 zC x5.2.1,rr 1 x5.2.2,rr 4 v115]) [(.tmp 75),(.tmp 76),(.tmp 77),(.tmp 78)] [24,25,25,32] true [(0,rE 8 (Pack.enc false) x5.1),(1,rE 1 zC x5.2.2),(4,rE 1 eStr v115)] [] (.cons (zDH (.head _) (Pack.ro false) rfl) (.cons (.same rfl) (.cons (zDH (.tail _ (.head _)) (fun _=>rfl) rfl) (.cons (zDH (.tail _ (.tail _ (.head _))) (fun _=>rfl) rfl) (.nil))))) (zBb.ok x5.1 x5.2.1 x5.2.2 v115) h117 (.ag (.cons (.same rfl rfl) (.cons (.same rfl rfl) (.cons (.own 5) (.nil))))) (hbor:=fun _=>⟨fhN,(zGo (kL.fl _))⟩)) (zF 7 (wQ («as»:=[rr 0 x5.1,rr 5 x116.Set]) [(.tmp 74),(.tmp 80)] [24,25] true [(0,rE 8 (Pack.enc false) x5.1),(5,rE 1 zC x116.Set)] [] (.cons (zDH (.head _) (Pack.ro false) rfl) (.cons (zDH (.tail _ (.head _)) (fun _=>rfl) rfl) (.nil))) (zAx.ok x5.1 x116.Set) h119 (.same rfl rfl) (hbor:=fun _=>⟨fhN,xH⟩)) zB)) ?_
  refine zG 82 (fun h120=>?_) (fun h120=>?_)
  ·refine J_g 259228 [] [(2,bv false)] [] zB ?_
   exact xR rfl
  ·refine J_d 4051 [] [7,82] [(7,iv (w64 (s90+1)))] [] [] zB ?_
   exact J_q (J_b (ih (w64 (s90+1)))) rfl
 ·exact yO (hk ()) rfl
theorem zB9.ok (a1:(List Int)):Ok Tryz.prog 4 [sl 1 eU8 a1] [] ((zB9 a1).map fun r=>(bv r,[])):=by
 refine zH c4 Tryz.f4 0 83 (fun q=>?_)
 unfold zB9
 refine J_g 2 [] [(0,sl 1 eU8 a1)] [] zB ?_
 refine zA (fun x2 h3=>?_)
 refine J_g 12 [] [(0,sl 1 eU8 a1),(11,bv x2)] [] (zF 1 (vM [(.tmp 10)] [22] (zDr.ok a1) h3) zB) ?_
 refine zG 11 (fun h4=>?_) (fun h4=>?_)
 ·refine J_g 52 [] [(2,bv true)] [] zB ?_
  exact xR rfl
 ·refine zA (fun x5 h6=>?_)
  refine J_g 14 [] [(3,rr 0 x5.1),(4,sl 1 zC x5.2.1),(5,rr 1 x5.2.2)] [(0,rE 8 (Pack.enc false) x5.1),(1,rE 1 zC x5.2.2)] (zF 1 (wQ («as»:=[sl 1 eU8 a1]) [(.tmp 13)] [22] false [] [] (.cons (.same rfl) (.nil)) (zAr.ok a1) h6 (.tu (.cons (.own 0) (.cons (.same rfl rfl) (.cons (.own 1) (.nil)))))) zB) ?_
  refine zA (fun x7 h8=>?_)
  refine J_d 30 [(4,3)] [6] [(6,pp 3)] [2,3] [(2,rE 1 (eSl true 1 eStr) x7.Parts),(3,.box [iv x7.Code,rr 2 x7.Parts])] (zF 3 (wQ («as»:=[rr 0 x5.1,sl 1 zC x5.2.1,rr 1 x5.2.2]) [(.tmp 18),(.tmp 19),(.tmp 20)] [24,25,25] true [(0,rE 8 (Pack.enc false) x5.1),(1,rE 1 zC x5.2.2)] [] (.cons (zDH (.head _) (Pack.ro false) rfl) (.cons (.same rfl) (.cons (zDH (.tail _ (.head _)) (fun _=>rfl) rfl) (.nil)))) (zCA.ok x5.1 x5.2.1 x5.2.2) h8 (.ag (.cons (.same rfl rfl) (.cons (.own 2) (.nil)))) (hbor:=fun _=>⟨fhN,(zGo (xX.fl _))⟩)) zB) ?_
  refine wC (atI c4 125) (fun v15:Bool=>St.mk' [(3,rr 0 x5.1),(4,sl 1 zC x5.2.1),(5,rr 1 x5.2.2),(6,pp 3),(36,bv v15)] [(0,rE 8 (Pack.enc false) x5.1),(1,rE 1 zC x5.2.2),(2,rE 1 (eSl true 1 eStr) x7.Parts),(3,.box [iv x7.Code,rr 2 x7.Parts])]) (fun v15=>?_) (fun jv15=>?_)
  ·refine zG 36 (fun h16=>?_) (fun h16=>?_)
   ·refine zA (fun x17 h18=>?_)
    refine J_g 500 [] [(2,bv (x17.Code==x7.Code))] [] (zF 3 (wQ («as»:=[rr 0 x5.1,sl 1 zC x5.2.1,rr 1 x5.2.2]) [(.tmp 37),(.tmp 38),(.tmp 39)] [24,25,25] true [(0,rE 8 (Pack.enc false) x5.1),(1,rE 1 zC x5.2.2)] [] (.cons (zDH (.head _) (Pack.ro false) rfl) (.cons (.same rfl) (.cons (zDH (.tail _ (.head _)) (fun _=>rfl) rfl) (.nil)))) (zC7.ok x5.1 x5.2.1 x5.2.2) h18 (.ag (.cons (.same rfl rfl) (.cons (.own 4) (.nil)))) (hbor:=fun _=>⟨fhN,(zGo (xX.fl _))⟩)) zB) ?_
    exact xR rfl
   ·refine J_d 252 [] [7,36] [(7,iv 0)] [] [] zB ?_
    refine zDK [(3,rr 0 x5.1),(4,sl 1 zC x5.2.1),(5,rr 1 x5.2.2),(6,pp 3),(7,iv 0)] [(2,rE 1 (eSl true 1 eStr) x7.Parts),(0,rE 8 (Pack.enc false) x5.1),(1,rE 1 zC x5.2.2),(3,.box [iv x7.Code,rr 2 x7.Parts])] (by kernel_rfl) ?_
    refine zES 2 (kI (enc:=(eSl true 1 eStr)) (enc':=(eSl false 1 eStr)) (zDR (fun _=>rfl)) _) ?_
    refine zDK [(3,rr 0 x5.1),(4,sl 1 zC x5.2.1),(5,rr 1 x5.2.2),(6,pp 3),(7,iv 0)] [(0,rE 8 (Pack.enc false) x5.1),(1,rE 1 zC x5.2.2),(2,rE 1 (eSl false 1 eStr) x7.Parts),(3,.box [iv x7.Code,rr 2 x7.Parts])] (by kernel_rfl) ?_
    refine jS (K0:=(fun r:Bool=>some (bv r,[]))) (fun _=>rfl) (zBv.ok x5 x7 q _ (fun v121=>J_j ?_) 0)
    refine J_g 254 [] [(2,bv true)] [] zB ?_
    exact xR rfl
  ·refine vV (fun h9=>?_) (fun h9=>?_)
   ·refine J_d 124 [] [36] [(36,bv true)] [] [] (vD 3 [(24,bv (x7.Code !=0))] [] h9 zB) ?_
    exact yO (J_j (jv15 true)) rfl
   ·refine zA (fun x10 h11=>?_)
    refine vV (fun h12=>?_) (fun h12=>?_)
    ·refine J_d 124 [] [36] [(36,bv true)] [] [] (vD 3 [(24,bv (x7.Code !=0))] [] h9 (zBi 6 3 25 false (wQ («as»:=[rr 0 x5.1,sl 1 zC x5.2.1]) [(.tmp 26),(.tmp 27)] [24,25] true [(0,rE 8 (Pack.enc false) x5.1)] [] (.cons (zDH (.head _) (Pack.ro false) rfl) (.cons (.same rfl) (.nil))) (uM.ok x5.1 x5.2.1) h11 (.same rfl rfl) (hbor:=fun _=>⟨fhN,xH⟩)) (vD 9 [(30,bv (!x10))] [] h12 zB))) ?_
     exact yO (J_j (jv15 true)) rfl
    ·refine zA (fun x13 h14=>?_)
     refine J_d 124 [] [36] [(36,bv (!x13))] [] [] (vD 3 [(24,bv (x7.Code !=0))] [] h9 (zBi 6 3 25 false (wQ («as»:=[rr 0 x5.1,sl 1 zC x5.2.1]) [(.tmp 26),(.tmp 27)] [24,25] true [(0,rE 8 (Pack.enc false) x5.1)] [] (.cons (zDH (.head _) (Pack.ro false) rfl) (.cons (.same rfl) (.nil))) (uM.ok x5.1 x5.2.1) h11 (.same rfl rfl) (hbor:=fun _=>⟨fhN,xH⟩)) (vD 9 [(30,bv (!x10))] [] h12 (zBi 12 9 31 false (wQ («as»:=[rr 0 x5.1,rr 1 x5.2.2]) [(.tmp 32),(.tmp 33)] [24,25] true [(0,rE 8 (Pack.enc false) x5.1),(1,rE 1 zC x5.2.2)] [] (.cons (zDH (.head _) (Pack.ro false) rfl) (.cons (zDH (.tail _ (.head _)) (fun _=>rfl) rfl) (.nil))) (uM.ok x5.1 x5.2.2) h14 (.same rfl rfl) (hbor:=fun _=>⟨fhN,xH⟩)) zB)))) ?_
     exact yO (J_j (jv15 (!x13))) rfl
end Go.Told
